/- NetPlays: maps and the T9 of rules, without the program. -/
import Derived.Test.YtmppehipfpkepaaNP13
set_option linter.unusedVariables false
namespace Go.Proofs.Ytmppehipfpkepaa.Dm
open Go.Dm
set_option maxHeartbeats 4000000
set_option maxRecDepth 20000
/-! ### maps by their keys -/
section
variable {κ β:Type} [DecidableEq κ]
theorem O9:∀(m:List (κ×β×Nat)) (k k':κ),(m.map (·.1)).Nodup→BV (Ix m k) k' = if k' = k then none else BV m k'
 | [],k,k',_=>by simp [Ix,BV]
 |x :: m,k,k',h=>by
  simp only [List.map_cons,List.nodup_cons] at h
  have nin:∀(m:List (κ×β×Nat)) (k:κ),k ∉ m.map (·.1)→BV m k=none:=by
   intro m k hk
   induction m with
   |nil=>rfl
   |cons y m ih=>
    simp only [List.map_cons,List.mem_cons,not_or] at hk
    simp only [BV,if_neg hk.1,ih hk.2]
  unfold Ix
  by_cases hx:k=x.1
  ·rw [if_pos hx]
   by_cases hk:k' = k
   ·rw [if_pos hk,hk,hx];exact nin _ _ h.1
   ·rw [if_neg hk]
    simp only [BV,if_neg (fun e:k' = x.1=>hk (e.trans hx.symm))]
  ·rw [if_neg hx]
   simp only [BV]
   by_cases hx':k' = x.1
   ·rw [if_pos hx',if_neg (fun e:k' = k=>hx (e.symm.trans hx')),if_pos hx']
   ·rw [if_neg hx',if_neg hx',O9 m k k' h.2]
theorem Mr:∀(m:List (κ×β×Nat)) (k:κ),((Ix m k).map (·.1)).Sublist (m.map (·.1))
 | [],_=> .slnil
 |x :: m,k=>by
  unfold Ix
  split
  ·exact .cons _ (List.Sublist.refl _)
  ·exact .cons_cons _ (Mr m k)
theorem PK:∀(m:List (κ×β×Nat)) (k:κ) (v:β) (c:Nat),BV m k=none→Fs m k v c=m ++ [(k,v,c)]
 | [],_,_,_,_=>rfl
 |x :: m,k,v,c,h=>by
  unfold BV at h
  split at h
  ·cases h
  ·rename_i hk;simp only [Fs,if_neg hk,PK m k v c h,List.cons_append]
theorem Zi:∀(m n:List (κ×β×Nat)) (k:κ),BV (m ++ n) k=(BV m k).or (BV n k)
 | [],_,_=>rfl
 |x :: m,n,k=>by
  simp only [List.cons_append,BV]
  split
  ·rfl
  ·exact Zi m n k
end
theorem VQ {κ β:Type}[DecidableEq κ]{m:List (κ×β×Nat)}{k:κ}{v:β}{c:Nat}(h:BV m k=none)(hd:(m.map (·.1)).Nodup):((Fs m k v c).map (·.1)).Nodup:=by
 rw [PK m k v c h,List.map_append,List.nodup_append]
 refine ⟨hd,by simp,fun a ha b hb e=> ?_⟩
 simp at hb
 subst hb;subst e
 clear hd
 induction m with
 |nil=>cases ha
 |cons x m ih=>
  unfold BV at h
  split at h
  ·cases h
  ·rename_i hk
   rcases List.mem_cons.1 ha with e | ha
   ·exact hk e
   ·exact ih ha h
theorem pY {κ β:Type}[DecidableEq κ]{m:List (κ×β×Nat)}{k k':κ}{v:β}{c:Nat}(h:BV m k=none):BV (Fs m k v c) k' = if k' = k then some v else BV m k':=by
 rw [PK m k v c h,Zi]
 by_cases e:k' = k
 ·subst e;rw [h,if_pos rfl];simp [BV]
 ·rw [if_neg e]
  have:BV [(k,v,c)] k' = none:=by simp [BV,e]
  rw [this,Option.or_none]
theorem Mn {κ β:Type}[DecidableEq κ] :∀ {m:List (κ×β×Nat)} {k k':κ} {v:β} {c:Nat},BV (Fs m k v c) k' = if k' = k then some v else BV m k'
 | [],k,k',v,c=>by
  unfold Fs
  simp only [BV]
 |x :: m,k,k',v,c=>by
  unfold Fs
  by_cases e:k=x.1
  ·rw [if_pos e]
   simp only [BV]
   by_cases e2:k' = k
   ·rw [if_pos e2,if_pos e2]
   ·rw [if_neg e2,if_neg e2,if_neg (fun e3=>e2 (e3.trans e.symm))]
  ·rw [if_neg e]
   simp only [BV]
   rw [Mn (m:=m)]
   by_cases e2:k' = k
   ·rw [if_pos e2,if_pos e2,if_neg (fun e3=>e (e2.symm.trans e3))]
   ·rw [if_neg e2,if_neg e2]
theorem VZ {κ β:Type}[DecidableEq κ] :∀ {m:List (κ×β×Nat)} {k:κ} {v:β} {c:Nat},(m.map (·.1)).Nodup→((Fs m k v c).map (·.1)).Nodup:=fun {m} {k} {v} {c} hd=>by
 cases h:BV m k with
 |none=>exact VQ h hd
 |some x=>
  have:(Fs m k v c).map (·.1)=m.map (·.1):=by
   clear hd
   induction m with
   |nil=>cases h
   |cons y m ih=>
    unfold BV at h
    unfold Fs
    split
    ·rename_i e;simp [e]
    ·rename_i e
     rw [if_neg e] at h
     rw [List.map_cons,List.map_cons,ih h]
  rw [this];exact hd
/-! ### the T9 -/
theorem uJ (a b n:Int)(r:A8):bZ a b n r=decide (Fa.LR r=⟨a,b,n⟩):=by
 unfold bZ Fa.LR
 rw [Bool.eq_iff_iff]
 simp
theorem SB {a b:A8}:J8 a b=true ↔ Fa.LR a=Fa.LR b:=by simp [J8,Fa.LR]
theorem Zx:∀(l done:List A8) (k:Nat) (m:Fa.KG),(∀r,(BV m (Fa.LR r)).isSome=done.any (J8 · r))→
  (match Fa.b7 l k m with | .error (i,e)=>(i,e) | .ok _=>((0:Nat),(0:Int)))=Yr done l k
 | [],_,_,_,_=>rfl
 |r :: l,done,k,m,h=>by
  unfold Fa.b7 Yr
  by_cases h1:Fa.LQ r=false
  ·rw [if_pos h1,if_pos h1]
  ·rw [if_neg h1,if_neg h1,h r]
   by_cases h2:done.any (J8 · r)=true
   ·rw [if_pos h2,if_pos h2]
   ·rw [if_neg h2,if_neg h2]
    refine Zx l (done ++ [r]) (k+1) _ ?_
    intro a
    rw [Mn,List.any_append,←h a]
    by_cases e:Fa.LR a=Fa.LR r
    ·rw [if_pos e]
     have:J8 r a=true:=SB.2 e.symm
     simp [this]
    ·rw [if_neg e]
     have:J8 r a=false:=by
      cases hs:J8 r a with
      |false=>rfl
      |true=>exact absurd (SB.1 hs).symm e
     simp [this]
theorem Tw (l:List A8):(match Fa.Dw l with | .error (i,e)=>(i,e) | .ok _=>((0:Nat),(0:Int)))=Hl l:=by
 unfold Fa.Dw Hl
 by_cases h:64 < l.length
 ·rw [if_pos h,if_pos h]
 ·rw [if_neg h,if_neg h]
  exact Zx l [] 0 [] (fun r=>rfl)
theorem oI {l:List A8}{p:Nat×Int}(h:Fa.Dw l= .error p):(Hl l).2=p.2:=by
 have:=Tw l
 rw [h] at this
 rw [←this]
theorem sO {l:List A8}{m:Fa.KG}(h:Fa.Dw l= .ok m):(Hl l).2=0:=by
 have:=Tw l
 rw [h] at this
 rw [←this]
theorem c8:∀(l:List A8) (k:Nat) (m m':Fa.KG),Fa.b7 l k m= .ok m'→(m.map (·.1)).Nodup→(m'.map (·.1)).Nodup∧∀x,BV m' x=(BV m x).or (l.find? fun r=>decide (Fa.LR r=x))
 | [],_,_,_,h,hd=>by
  simp only [Fa.b7,Except.ok.injEq] at h
  subst h
  exact ⟨hd,fun x=>by simp⟩
 |r :: l,k,m,m',h,hd=>by
  unfold Fa.b7 at h
  split at h
  ·cases h
  ·split at h
   ·cases h
   ·rename_i h2
    have hn:BV m (Fa.LR r)=none:=by simpa using h2
    obtain ⟨h3,h4⟩:=c8 l (k+1) _ m' h (VQ hn hd)
    refine ⟨h3,fun x=> ?_⟩
    rw [h4 x,pY hn,List.find?_cons]
    by_cases e:x=Fa.LR r
    ·subst e;rw [if_pos rfl,hn];simp
    ·rw [if_neg e]
     have:decide (Fa.LR r=x)=false:=decide_eq_false fun h=>e h.symm
     rw [this]
theorem S5 {l:List A8}{m:Fa.KG}(h:Fa.Dw l= .ok m):l.length≤64∧(m.map (·.1)).Nodup∧∀a b n,BV m ⟨a,b,n⟩=l.find? (bZ a b n):=by
 unfold Fa.Dw at h
 split at h
 ·cases h
 ·rename_i hl
  obtain ⟨h1,h2⟩:=c8 l 0 [] m h List.nodup_nil
  refine ⟨by omega,h1,fun a b n=> ?_⟩
  rw [h2]
  have:(fun r=>decide (Fa.LR r=(⟨a,b,n⟩:EK)))=bZ a b n:=funext fun r=>(uJ a b n r).symm
  rw [this];rfl
theorem Z3:∀(l:List A8) (k:Nat) (m m':Fa.KG),Fa.b7 l k m= .ok m'→∀r∈l,Fa.LQ r=true
 | [],_,_,_,_=>by simp
 |r :: l,k,m,m',h=>by
  unfold Fa.b7 at h
  split at h
  ·cases h
  ·rename_i h1
   split at h
   ·cases h
   ·intro x hx
    rcases List.mem_cons.1 hx with rfl | hx
    ·simpa using h1
    ·exact Z3 l (k+1) _ m' h x hx
theorem jc {l:List A8}{m:Fa.KG}(h:Fa.Dw l= .ok m):∀r∈l,Fa.LQ r=true:=by
 unfold Fa.Dw at h
 split at h
 ·cases h
 ·exact Z3 l 0 [] m h
theorem ot {r:A8}(h:Fa.LQ r=true):G8 r=Fa.IT r:=by
 unfold Fa.LQ at h
 unfold G8 Fa.IT
 by_cases k1:r.Kind=1
 ·rw [if_pos k1,if_neg (by omega),if_neg (by omega)]
 ·rw [if_neg k1] at h ⊢
  by_cases k2:r.Kind=2
  ·rw [if_pos k2,if_pos k2]
  ·by_cases k3:r.Kind=3
   ·rw [if_neg k2,if_neg k2,if_pos k3]
   ·rw [if_neg (by omega)] at h
    simp at h
/-- the T9 in the map is what the rules say of messages to come -/
structure aa (k:Nat) (P:Fa.Gl) (u:List A8) (ks:List Int):Prop where
 eq:P.ks=ks
 len:ks.length=625
 bd:∀j:Nat,0≤(ks[j]?).getD 0∧(ks[j]?).getD 0≤(k:Int)
 nd:(P.m.map (·.1)).Nodup
 my:∀r∈u,Fa.LQ r=true
 pm:∀a b n:Int,(1≤a∧a≤24)→(1≤b∧b≤24)→(ks[a.toNat * 25+b.toNat]?).getD 0 < n→BV P.m ⟨a,b,n⟩=u.find? (bZ a b n)
theorem aa.up {k:Nat}{P:Fa.Gl}{u:List A8}{ks:List Int}(h:aa k P u ks):aa (k+1) P u ks:=
 ⟨h.eq,h.len,fun j=>by have:=h.bd j;omega,h.nd,h.my,h.pm⟩
theorem aa.ask {k:Nat}{P:Fa.Gl}{u:List A8}{ks:List Int}(h:aa k P u ks)(hk:k < 1000000){a b:Int}(ha:1≤a∧a≤24)(hb:1≤b∧b≤24)(hab:a≠b) :
  (Fa.Cr P a b).2=(Jq u a b (BQ .i64 ((ks[a.toNat * 25+b.toNat]?).getD 0+1)),0)∧aa (k+1) (Fa.Cr P a b).1 u (ks.set (a.toNat * 25+b.toNat) (BQ .i64 ((ks[a.toNat * 25+b.toNat]?).getD 0+1))):=by
 have hr:¬Fa.LP a b=false:=by
  unfold Fa.LP
  rw [decide_eq_false_iff_not]
  omega
 obtain ⟨b1,b2⟩:=h.bd (a.toNat * 25+b.toNat)
 have hw:BQ .i64 ((ks[a.toNat * 25+b.toNat]?).getD 0+1)=(ks[a.toNat * 25+b.toNat]?).getD 0+1:=wrap64 (by omega) (by omega)
 have hbm:Fa.Ig P.ks a b=(ks[a.toNat * 25+b.toNat]?).getD 0+1:=by unfold Fa.Ig;rw [h.eq,hw]
 have hix:a.toNat * 25+b.toNat < 625:=by omega
 have hpm:=h.pm a b ((ks[a.toNat * 25+b.toNat]?).getD 0+1) ha hb (by omega)
 rw [hw]
 have bd:∀j:Nat,0≤(((ks.set (a.toNat * 25+b.toNat) ((ks[a.toNat * 25+b.toNat]?).getD 0+1))[j]?).getD 0)∧(((ks.set (a.toNat * 25+b.toNat) ((ks[a.toNat * 25+b.toNat]?).getD 0+1))[j]?).getD 0)≤((k+1:Nat):Int):=by
  intro j
  rw [List.getElem?_set]
  by_cases e:a.toNat * 25+b.toNat=j
  ·rw [if_pos e,if_pos (by rw [h.len];omega)]
   show 0≤(ks[a.toNat * 25+b.toNat]?).getD 0+1∧(ks[a.toNat * 25+b.toNat]?).getD 0+1≤_
   omega
  ·rw [if_neg e]
   have:=h.bd j
   omega
 have inj:∀ {x y:Int},(1≤x∧x≤24)→(1≤y∧y≤24)→a.toNat * 25+b.toNat=x.toNat * 25+y.toNat→a=x∧b=y:=by omega
 have get:∀(x y:Int),(1≤x∧x≤24)→(1≤y∧y≤24)→(((ks.set (a.toNat * 25+b.toNat) ((ks[a.toNat * 25+b.toNat]?).getD 0+1))[x.toNat * 25+y.toNat]?).getD 0)=if a=x∧b=y then (ks[a.toNat * 25+b.toNat]?).getD 0+1 else (ks[x.toNat * 25+y.toNat]?).getD 0:=by
  intro x y hx hy
  rw [List.getElem?_set]
  by_cases e:a=x∧b=y
  ·obtain ⟨rfl,rfl⟩:=e
   rw [if_pos rfl,if_pos (by rw [h.len];exact hix),if_pos ⟨rfl,rfl⟩];rfl
  ·rw [if_neg (fun e2=>e (inj hx hy e2)),if_neg e]
 have len:(ks.set (a.toNat * 25+b.toNat) ((ks[a.toNat * 25+b.toNat]?).getD 0+1)).length=625:=by rw [List.length_set];exact h.len
 have fwd:∀x y n:Int,(1≤x∧x≤24)→(1≤y∧y≤24)→(((ks.set (a.toNat * 25+b.toNat) ((ks[a.toNat * 25+b.toNat]?).getD 0+1))[x.toNat * 25+y.toNat]?).getD 0) < n→(ks[x.toNat * 25+y.toNat]?).getD 0 < n∧¬(⟨x,y,n⟩:EK)=⟨a,b,(ks[a.toNat * 25+b.toNat]?).getD 0+1⟩:=by
  intro x y n hx hy hn
  rw [get x y hx hy] at hn
  by_cases e:a=x∧b=y
  ·obtain ⟨rfl,rfl⟩:=e
   rw [if_pos ⟨rfl,rfl⟩] at hn
   exact ⟨by omega,fun e=>by injection e with e1 e2 e3;omega⟩
  ·rw [if_neg e] at hn
   exact ⟨hn,fun e2=>by injection e2 with e1 e2 e3;exact e ⟨e1.symm,e2.symm⟩⟩
 unfold Fa.Cr Jq
 rw [if_neg hr,hbm,hpm]
 cases hf:u.find? (bZ a b ((ks[a.toNat * 25+b.toNat]?).getD 0+1)) with
 |none=>
  refine ⟨rfl,by show P.ks.set _ _=_;rw [h.eq],len,bd,h.nd,h.my,fun x y n hx hy hn=> ?_⟩
  exact h.pm x y n hx hy (fwd x y n hx hy hn).1
 |some r=>
  refine ⟨by show (Fa.IT r,(0:Int))=(G8 r,0);rw [ot (h.my r (List.mem_of_find?_eq_some hf))],by show P.ks.set _ _=_;rw [h.eq],len,bd,(Mr _ _).nodup h.nd,h.my,fun x y n hx hy hn=> ?_⟩
  obtain ⟨f1,f2⟩:=fwd x y n hx hy hn
  show BV (Ix P.m _) _=_
  rw [O9 _ _ _ h.nd,if_neg f2]
  exact h.pm x y n hx hy f1
end Go.Proofs.Ytmppehipfpkepaa.Dm
/- NetPlays: links, cuts and stops, without the program. -/
set_option linter.unusedVariables false
namespace Go.Proofs.Ytmppehipfpkepaa.Dm
open Go.Dm
set_option maxHeartbeats 4000000
set_option maxRecDepth 20000
theorem Tp {a b:Int}{x:AX}:pk x.A x.B=pk a b ↔ Gr.pr a b x=true:=by
 unfold pk Gr.pr
 simp only [HZ.mk.injEq,Bool.or_eq_true,Bool.and_eq_true,decide_eq_true_eq]
 omega
def J3:Nat→List AX→DD
 |_, []=> []
 |k,x :: l=>(pk x.A x.B,x.C2,k) :: J3 (k+1) l
theorem Yz:∀(l m:List AX) (k:Nat),J3 k (l ++ m)=J3 k l ++ J3 (k+l.length) m
 | [],m,k=>rfl
 |x :: l,m,k=>by
  rw [List.cons_append,J3,J3,Yz l m (k+1),List.cons_append,List.length_cons]
  have:k+1+l.length=k+(l.length+1):=by omega
  rw [this]
theorem Rw:∀(l:List AX) (k:Nat) (a b:Int),(BV (J3 k l) (pk a b)).getD 0=Gr.Cq l a b∧((BV (J3 k l) (pk a b)).isSome=l.any (Gr.pr a b))
 | [],_,_,_=>⟨rfl,rfl⟩
 |x :: l,k,a,b=>by
  obtain ⟨h1,h2⟩:=Rw l (k+1) a b
  unfold J3 Gr.Cq
  simp only [BV]
  by_cases c:Gr.pr a b x=true
  ·rw [if_pos (Tp.2 c).symm,if_pos c]
   exact ⟨rfl,by simp [c]⟩
  ·rw [if_neg (fun e=>c (Tp.1 e.symm)),if_neg c]
   exact ⟨h1,by rw [h2,List.any_cons];simp [c]⟩
theorem bN {l:List AX}(h:l.Pairwise fun x y=>Gr.pr y.A y.B x=false):Gb l=(J3 0 l,l.length):=by
 have:∀(m l:List AX),(l ++ m).Pairwise (fun x y=>Gr.pr y.A y.B x=false)→m.foldl H9 (J3 0 l,l.length)=(J3 0 (l ++ m),(l ++ m).length):=by
  intro m
  induction m with
  |nil=>intro l _;rw [List.append_nil];rfl
  |cons x m ih=>
   intro l hp
   have e:l ++ x :: m=(l ++ [x]) ++ m:=by simp
   rw [e] at hp ⊢
   have hx:l.any (Gr.pr x.A x.B)=false:=by
    have h1:=(List.pairwise_append.1 hp).1
    have h2:=(List.pairwise_append.1 h1).2.2
    rw [List.any_eq_false]
    intro y hy
    simpa using h2 y hy x (by simp)
   have hn:BV (J3 0 l) (pk x.A x.B)=none:=by
    have:=(Rw l 0 x.A x.B).2
    rw [hx] at this
    cases hg:BV (J3 0 l) (pk x.A x.B) with
    |none=>rfl
    |some v=>rw [hg] at this;cases this
   have hs:H9 (J3 0 l,l.length) x=(J3 0 (l ++ [x]),(l ++ [x]).length):=by
    unfold H9 LD
    simp only [hn]
    rw [PK _ _ _ _ hn,Yz,List.length_append,Nat.zero_add];rfl
   rw [List.foldl_cons,hs]
   exact ih _ hp
 exact this l [] h
structure Cj (s:Ak) (t:As):Prop where
 ok:Gr.DS t.R t.l=0
 L:s.L=J3 0 t.l
 lc:s.lc=t.l.length
 R:s.R=t.R
 C:∀i,i < t.l.length→Aj t.ic i=Mg s (Aj t.l i).A (Aj t.l i).B
 cd:(s.C.map (·.1)).Nodup
 S:∀a:Int,1≤a∧a≤24→Aj t.st a.toNat=D2 s a
 sd:(s.S.map (·.1)).Nodup
 il:t.ic.length=t.l.length
 sl:t.st.length=25
section
variable {s:Ak} {t:As}
theorem Cj.lk (h:Cj s t):Gr.RR t.R t.l:=Gr.Fb (Gr.Cv h.ok).2.2
theorem Cj.cost (h:Cj s t)(a b:Int):DX s a b=Gr.Cq t.l a b:=by
 unfold DX
 rw [h.L];exact (Rw t.l 0 a b).1
theorem Cj.pos (h:Cj s t)(a b:Int):0 < DX s a b ↔ t.l.any (Gr.pr a b)=true:=by
 rw [h.cost];exact Gr.Mq h.lk.ok a b
theorem Cj.zero (h:Cj s t)(a b:Int):DX s a b=0 ↔ t.l.any (Gr.pr a b)=false:=by
 cases c:t.l.any (Gr.pr a b) with
 |true=>have:=(h.pos a b).2 c;exact ⟨fun e=>by omega,fun e=>by cases e⟩
 |false=>rw [h.cost];exact ⟨fun _=>rfl,fun _=>Gr.TJ c⟩
theorem Cj.rt (h:Cj s t):∀n∈t.R,1≤n∧n≤24:=fun n hn=>by
 have:=Gr.KA t.R [] (Gr.Cv h.ok).1 n hn
 simpa [Gr.BH] using this
theorem Cj.lr (h:Cj s t):∀x∈t.l,Gr.BH x.A=true∧Gr.BH x.B=true:=fun x hx=>by
 have:=h.lk.ok x hx
 unfold Gr.CX at this
 simp only [Bool.and_eq_true] at this
 obtain ⟨⟨⟨_,h1⟩,h2⟩,_⟩:=this
 constructor
 ·obtain ⟨y,hy,e⟩:=List.any_eq_true.1 h1
  have:=Gr.KA t.R [] (Gr.Cv h.ok).1 y hy
  simp only [Gr.FQ,decide_eq_true_eq] at e
  subst e;exact this
 ·obtain ⟨y,hy,e⟩:=List.any_eq_true.1 h2
  have:=Gr.KA t.R [] (Gr.Cv h.ok).1 y hy
  simp only [Gr.FQ,decide_eq_true_eq] at e
  subst e;exact this
theorem mf {a b:Int}(h:t.l.any (Gr.pr a b)=true):GS t a b < t.l.length∧Gr.pr a b (Aj t.l (GS t a b))=true:=by
 have h1:=M5 h
 refine ⟨h1, ?_⟩
 unfold GS
 rw [Bj _ _ h1]
 exact List.findIdx_getElem (w:=h1)
theorem Cj.cut (h:Cj s t){a b:Int}(ha:t.l.any (Gr.pr a b)=true):Aj t.ic (GS t a b)=Mg s a b:=by
 obtain ⟨h1,h2⟩:=mf ha
 rw [h.C _ h1]
 unfold Mg
 rw [Tp.2 h2]
theorem Cj.up (h:Cj s t)(a b:Int):GQ s a b=Mz t a b:=by
 unfold Mz
 cases c:t.l.any (Gr.pr a b) with
 |false=>
  unfold GQ
  rw [(h.zero a b).2 c];rfl
 |true=>
  obtain ⟨ha,hb⟩:=JE h.lr c
  have e1:=h.cut c
  have e2:=h.S a ha
  have e3:=h.S b hb
  have e4:decide (0 < DX s a b)=true:=decide_eq_true ((h.pos a b).2 c)
  unfold GQ
  rw [e4,if_pos rfl]
  unfold GS at e1
  have e5:(t.ic[t.l.findIdx (Gr.pr a b)]?).getD false=Mg s a b:=e1
  have e6:(t.st[a.toNat]?).getD false=D2 s a:=e2
  have e7:(t.st[b.toNat]?).getD false=D2 s b:=e3
  rw [e5,e6,e7]
  unfold Mg D2
  simp [Bool.and_assoc]
theorem c9 {α:Type}[Inhabited α]{l:List α}{i j:Nat}{x:α}(hi:i < l.length):Aj (l.set i x) j=if i=j then x else Aj l j:=by
 unfold Aj
 rw [List.getElem?_set]
 by_cases e:i=j
 ·subst e;rw [if_pos rfl,if_pos hi,if_pos rfl];rfl
 ·rw [if_neg e,if_neg e]
theorem Cj.ne (h:Cj s t){i j:Nat}(hi:i < t.l.length)(hj:j < t.l.length)(e:pk (Aj t.l i).A (Aj t.l i).B=pk (Aj t.l j).A (Aj t.l j).B):i=j:=by
 have hp:=List.pairwise_iff_getElem.1 h.lk.ne
 rcases Nat.lt_trichotomy i j with c | c | c
 ·have:=hp i j hi hj c
  rw [←Bj _ _ hi,←Bj _ _ hj] at this
  rw [Tp.1 e] at this;cases this
 ·exact c
 ·have:=hp j i hj hi c
  rw [←Bj _ _ hi,←Bj _ _ hj] at this
  rw [Tp.1 e.symm] at this;cases this
theorem Cj.jK (h:Cj s t){a b:Int}(ha:t.l.any (Gr.pr a b)=true){C':DA}{cc':Nat}{x:Bool}(hC:∀k,(BV C' k).getD false=if k=pk a b then x else (BV s.C k).getD false)(hd:(C'.map (·.1)).Nodup):Cj {s with C:=C',cc:=cc'} (YW t (GS t a b) x):=by
 obtain ⟨h1,h2⟩:=mf ha
 refine ⟨h.ok,h.L,h.lc,h.R,fun i hi=> ?_,hd,h.S,h.sd, ?_,h.sl⟩
 ·show Aj (t.ic.set (GS t a b) x) i=(BV C' (pk (Aj t.l i).A (Aj t.l i).B)).getD false
  rw [c9 (by rw [h.il];exact h1),hC]
  by_cases e:GS t a b=i
  ·rw [if_pos e,if_pos (by rw [←e];exact Tp.2 h2)]
  ·rw [if_neg e,if_neg (fun e2=>e (h.ne h1 hi ((Tp.2 h2).trans e2.symm)))]
   exact h.C i hi
 ·show (t.ic.set _ x).length=_
  rw [List.length_set];exact h.il
theorem Cj.KF (h:Cj s t){a b:Int}(ha:t.l.any (Gr.pr a b)=true):Cj (KF s a b) (YW t (GS t a b) true):=
 h.jK ha (fun k=>by rw [Mn];split <;> rfl) (VZ h.cd)
theorem Cj.AAx (h:Cj s t){a b:Int}(ha:t.l.any (Gr.pr a b)=true):Cj {s with C:=Ix s.C (pk a b)} (YW t (GS t a b) false):=
 h.jK ha (fun k=>by rw [O9 _ _ _ h.cd];split <;> rfl) ((Mr _ _).nodup h.cd)
theorem Cj.fi (h:Cj s t){a:Int}(ha:1≤a∧a≤24){S':Db}{sc':Nat}{x:Bool}(hS:∀k,(BV S' k).getD false=if k=a then x else (BV s.S k).getD false)(hd:(S'.map (·.1)).Nodup):Cj {s with S:=S',sc:=sc'} (Qq t a.toNat x):=by
 refine ⟨h.ok,h.L,h.lc,h.R,h.C,h.cd,fun c hc=> ?_,hd,h.il, ?_⟩
 ·show Aj (t.st.set a.toNat x) c.toNat=(BV S' c).getD false
  rw [c9 (by rw [h.sl];omega),hS]
  by_cases e:a=c
  ·subst e;rw [if_pos rfl,if_pos rfl]
  ·rw [if_neg (by omega),if_neg (fun e2=>e e2.symm)]
   exact h.S c hc
 ·show (t.st.set _ x).length=_
  rw [List.length_set];exact h.sl
theorem Cj.GL (h:Cj s t){a:Int}(ha:1≤a∧a≤24):Cj (GL s a) (Qq t a.toNat true):=
 h.fi ha (fun k=>by rw [Mn];split <;> rfl) (VZ h.sd)
theorem Cj.xq (h:Cj s t){a:Int}(ha:1≤a∧a≤24):Cj {s with S:=Ix s.S a} (Qq t a.toNat false):=
 h.fi ha (fun k=>by rw [O9 _ _ _ h.sd];split <;> rfl) ((Mr _ _).nodup h.sd)
/-- only what is on its way,the T9,the clock change -/
theorem Cj.same (h:Cj s t){s':Ak}{t':As}(e1:s'.L=s.L)(e2:s'.lc=s.lc)(e3:s'.R=s.R)(e4:s'.C=s.C)(e5:s'.S=s.S)(f1:t'.R=t.R)(f2:t'.l=t.l)(f3:t'.ic=t.ic)(f4:t'.st=t.st):Cj s' t':=by
 refine ⟨by rw [f1,f2];exact h.ok,by rw [e1,f2];exact h.L,by rw [e2,f2];exact h.lc,by rw [e3,f1];exact h.R, ?_,by rw [e4];exact h.cd, ?_,by rw [e5];exact h.sd,by rw [f3,f2];exact h.il,by rw [f4];exact h.sl⟩
 ·rw [f2,f3];unfold Mg;rw [e4];exact h.C
 ·rw [f4];unfold D2;rw [e5];exact h.S
end
theorem Cj.new {R:List Int}{l:List AX}{m:Fa.KG}{c:Nat}{late:Int}{u:List A8}(h:Gr.DS R l=0):Cj (GV R l m c late) (Pm R l u late):=by
 have hl:=bN (Gr.Fb (Gr.Cv h).2.2).ne
 refine ⟨h,by show (Gb l).1=_;rw [hl];rfl,by show (Gb l).2=_;rw [hl];rfl,rfl,fun i hi=> ?_,List.nodup_nil,fun a ha=> ?_,List.nodup_nil,by show (List.replicate l.length false).length=_;rw [List.length_replicate];rfl,List.length_replicate⟩
 ·show Aj (List.replicate l.length false) i=false
  replace hi:i < l.length:=hi
  unfold Aj
  rw [List.getElem?_replicate,if_pos hi];rfl
 ·show Aj (List.replicate 25 false) a.toNat=false
  unfold Aj
  rw [List.getElem?_replicate,if_pos (by omega)];rfl
end Go.Proofs.Ytmppehipfpkepaa.Dm
/- NetPlays: what is on its way; Send, Tick, without the program. -/
set_option linter.unusedVariables false
namespace Go.Proofs.Ytmppehipfpkepaa.Dm
open Go.Dm
set_option maxHeartbeats 4000000
set_option maxRecDepth 20000
def IJ (x:Ah):D6:=⟨x.at_,x.Fq,x.NM,x.Ff⟩
theorem lN {α β:Type}[Inhabited α][Inhabited β]{f:α→β}{l:List α}{j:Nat}(h:j < l.length):Aj (l.map f) j=f (Aj l j):=by
 rw [Bj _ _ (by rw [List.length_map];exact h),Bj _ _ h,List.getElem_map]
theorem fC (l:List D6)(a:Int):∀n,(kW l a n=0∨(Aj l (kW l a n - 1)).At≤a)∧∀j,kW l a n≤j→j < n→a < (Aj l j).At
 |0=>⟨.inl rfl,fun j _ h=>absurd h (Nat.not_lt_zero _)⟩
 |n+1=>by
  obtain ⟨h1,h2⟩:=fC l a n
  unfold kW
  split
  ·rename_i c
   refine ⟨h1,fun j hj hn=> ?_⟩
   by_cases e:j=n
   ·subst e;exact c
   ·exact h2 j hj (by omega)
  ·rename_i c
   exact ⟨.inr (by rw [Nat.add_sub_cancel];omega),fun j hj hn=>by omega⟩
theorem Vd {x y:Ah}(h:x.CA < y.CA):GB x y=decide (x.at_≤y.at_):=by
 unfold GB jj
 rw [Bool.eq_iff_iff]
 simp only [Bool.or_eq_true,Bool.and_eq_true,decide_eq_true_eq]
 omega
theorem qj {l:List Ah}{x:Ah}(hu:OR l)(ht:∀y∈l,y.CA < x.CA):(FO l x).map IJ=JX (l.map IJ) x.at_ ⟨x.Fq,x.NM,x.Ff⟩:=by
 obtain ⟨h1,h2⟩:=fC (l.map IJ) x.at_ (l.map IJ).length
 have h3:=kI (l.map IJ) x.at_ (l.map IJ).length
 have hk:QK l x=kW (l.map IJ) x.at_ (l.map IJ).length:=by
  rw [List.length_map] at h1 h2 h3 ⊢
  generalize kW (l.map IJ) x.at_ l.length=K at h1 h2 h3
  refine ep h3 (fun j hj=> ?_) (fun j hj hl=> ?_)
  ·have hK:K - 1 < l.length:=by omega
   rcases h1 with h1 | h1
   ·omega
   ·refine WT hu (j:=j) (k:=K - 1) (by omega) hK ?_
    rw [Vd (ht _ (at_mem hK)),decide_eq_true_eq]
    rw [lN hK] at h1
    exact h1
  ·rw [Vd (ht _ (at_mem hl)),decide_eq_false_iff_not]
   have:=h2 j hj hl
   rw [lN hl] at this
   have e:(IJ (Aj l j)).At=(Aj l j).at_:=rfl
   omega
 unfold FO H4 JX
 rw [hk,List.map_append,List.map_take,List.map_cons,List.map_drop]
 rfl
structure Ex (k:Nat) (s:Ak) (t:As):Prop where
 l:Cj s t
 p:aa k s.P t.u t.ks
 late:s.late=t.late
 T8:1≤t.late
 T7:t.late≤64
 now:s.now=t.now
 RO:0≤t.now
 UN:t.now≤1099511627776
 w:s.l.map IJ=t.w
 up:OR s.l
 tk:∀x∈s.l,x.CA≤s.last
 bO:0≤s.last
 kT:s.last≤2 * (k:Int)
section
variable {k:Nat} {s:Ak} {t:As}
theorem Ex.wl (h:Ex k s t):t.w.length=s.l.length:=by rw [←h.w,List.length_map]
theorem Ex.mono (h:Ex k s t):Ex (k+1) s t:=⟨h.l,h.p.up,h.late,h.T8,h.T7,h.now,h.RO,h.UN,h.w,h.up,h.tk,h.bO,by have:=h.kT;omega⟩
theorem oZ {r:A8}(h:Fa.LQ r=true):(0≤(G8 r).Ee∧(G8 r).Ee≤64)∧0≤(G8 r).Second∧(G8 r).Second≤64:=by
 unfold Fa.LQ at h
 unfold G8
 by_cases k1:r.Kind=1
 ·rw [if_pos k1];decide
 ·rw [if_neg k1] at h ⊢
  by_cases k2:r.Kind=2
  ·rw [if_pos (.inl k2)] at h
   rw [if_pos k2]
   simp only [Bool.and_eq_true,decide_eq_true_eq] at h
   refine ⟨⟨Int.le_refl 0,Int.zero_le_ofNat 64⟩, ?_, ?_⟩
   ·show 0≤r.By;omega
   ·show r.By≤64;omega
  ·by_cases k3:r.Kind=3
   ·rw [if_pos (.inr k3)] at h
    rw [if_neg k2]
    simp only [Bool.and_eq_true,decide_eq_true_eq] at h
    refine ⟨⟨?_, ?_⟩,Int.le_refl 0,Int.zero_le_ofNat 64⟩
    ·show 0≤r.By;omega
    ·show r.By≤64;omega
   ·rw [if_neg (by omega)] at h
    simp at h
theorem lP {u:List A8}(h:∀r∈u,Fa.LQ r=true)(a b n:Int):(0≤(Jq u a b n).Ee∧(Jq u a b n).Ee≤64)∧0≤(Jq u a b n).Second∧(Jq u a b n).Second≤64:=by
 unfold Jq
 split
 ·decide
 ·rename_i r hr
  exact oZ (h r (List.mem_of_find?_eq_some hr))
theorem ACg (h:Ex k s t){Pd:Int}(h0:0≤Pd)(h1:Pd≤64):lZ s Pd=atR t Pd:=by
 have:=h.T8
 have:=h.T7
 have:=h.RO
 have:=h.UN
 unfold lZ atR
 rw [wrap64 (n:=t.late+Pd) (by omega) (by omega),PT (n:=t.late+Pd) (by omega) (by omega),PT (n:=Pd) h0 (by omega),h.late,h.now,Int.add_assoc]
def TO (t:As)(a b:Int)(m:List UInt8):As:=if ¬DE t a b m.length=0 then t else G6 t a b m (Di t a b).Bb.toNat
theorem Ex.yK {s':Ak}(h:Ex k s' t){Pd:Int}(h0:0≤Pd)(h1:Pd≤64){a b:Int}{m:List UInt8}(hl:s'.last+1≤2 * (k:Int)):Ex k {s' with l:=FO s'.l ⟨lZ s' Pd,s'.last+1,a,b,m⟩,last:=s'.last+1} (Sr t Pd ⟨a,b,m⟩):=by
 have htk:∀y∈s'.l,y.CA < s'.last+1:=fun y hy=>by have:=h.tk y hy;omega
 have la:=h.bO
 refine ⟨h.l.same rfl rfl rfl rfl rfl rfl rfl rfl rfl,h.p,h.late,h.T8,h.T7,h.now,h.RO,h.UN, ?_, ?_,fun x hx=> ?_, ?_,hl⟩
 ·show (FO s'.l _).map IJ=JX t.w (atR t Pd) _
  rw [qj h.up htk,h.w,←ACg h h0 h1]
 ·exact O3 h.up htk
 ·rcases Mv.1 hx with rfl | hx
  ·exact Int.le_refl _
  ·have:=htk x hx;show x.CA≤s'.last+1;omega
 ·show 0≤s'.last+1;omega
theorem Ex.send (h:Ex k s t)(hk:k < 100000)(a b:Int)(m:List UInt8) :
  Ei s a b m.length=DE t a b m.length∧(DE t a b m.length=0→(Fa.Cr s.P a b).2.1=Di t a b)∧Ex (k+1) (NT s a b m) (TO t a b m):=by
 have hz:=h.l.zero a b
 have hu:=h.l.up a b
 have hw:=h.wl
 unfold TO NT
 by_cases c1:t.l.any (Gr.pr a b)=false
 ·have c1':=hz.2 c1
  have e1:DE t a b m.length=2:=by unfold DE;rw [if_pos c1]
  have e2:Ei s a b m.length=2:=by unfold Ei;rw [if_pos c1']
  rw [e1,e2,if_pos (.inl c1'),if_pos (by decide)]
  exact ⟨rfl,fun e=>absurd e (by decide),h.mono⟩
 have c1':¬DX s a b=0:=fun e=>c1 (hz.1 e)
 by_cases c2:512 < m.length
 ·have e1:DE t a b m.length=3:=by unfold DE;rw [if_neg c1,if_pos c2]
  have e2:Ei s a b m.length=3:=by unfold Ei;rw [if_neg c1',if_pos c2]
  rw [e1,e2,if_pos (.inr (.inl c2)),if_pos (by decide)]
  exact ⟨rfl,fun e=>absurd e (by decide),h.mono⟩
 by_cases c3:Mz t a b=false
 ·have c3':GQ s a b=false:=hu.trans c3
  have e1:DE t a b m.length=9:=by unfold DE;rw [if_neg c1,if_neg c2,if_pos c3]
  have e2:Ei s a b m.length=9:=by unfold Ei;rw [if_neg c1',if_neg c2,if_pos c3']
  rw [e1,e2,if_pos (.inr (.inr (.inl c3'))),if_pos (by decide)]
  exact ⟨rfl,fun e=>absurd e (by decide),h.mono⟩
 have c3':¬GQ s a b=false:=fun e=>c3 (hu.symm.trans e)
 by_cases c4:16382 < t.w.length
 ·have c4':16382 < s.l.length:=by omega
  have e1:DE t a b m.length=8:=by unfold DE;rw [if_neg c1,if_neg c2,if_neg c3,if_pos c4]
  have e2:Ei s a b m.length=8:=by unfold Ei;rw [if_neg c1',if_neg c2,if_neg c3',if_pos c4']
  rw [e1,e2,if_pos (.inr (.inr (.inr c4'))),if_pos (by decide)]
  exact ⟨rfl,fun e=>absurd e (by decide),h.mono⟩
 have c4':¬16382 < s.l.length:=by omega
 have c1t:t.l.any (Gr.pr a b)=true:=by simpa using c1
 obtain ⟨ha,hb⟩:=JE h.l.lr c1t
 have hab:a≠b:=by
  obtain ⟨x,hx,hpr⟩:=List.any_eq_true.1 c1t
  have:=h.l.lk.ok x hx
  unfold Gr.CX at this
  simp only [Bool.and_eq_true,Bool.not_eq_true',decide_eq_false_iff_not] at this
  unfold Gr.pr at hpr
  simp only [Bool.or_eq_true,Bool.and_eq_true,decide_eq_true_eq] at hpr
  omega
 obtain ⟨q1,q2⟩:=h.p.ask (by omega) ha hb hab
 have q3:(Fa.Cr s.P a b).2.1=Di t a b:=by rw [q1];rfl
 have q4:(Fa.Cr s.P a b).2.2=0:=by rw [q1]
 have e1:DE t a b m.length=0:=by unfold DE;rw [if_neg c1,if_neg c2,if_neg c3,if_neg c4]
 have e2:Ei s a b m.length=0:=by unfold Ei;rw [if_neg c1',if_neg c2,if_neg c3',if_neg c4',q4]
 have hX:¬JG s a b m:=by
  rintro (e | e | e | e)
  ·exact c1' e
  ·exact c2 e
  ·exact c3' e
  ·exact c4' e
 rw [e1,e2,if_neg hX,if_neg (by simp)]
 refine ⟨rfl,fun _=>q3, ?_⟩
 have hc:DT s a b=(Di t a b).Bb:=by unfold DT;rw [q3]
 have hcop:=Pc t a b
 have hbd:=lP h.p.my a b (NJ t a b)
 have hF:Jq t.u a b (NJ t a b)=Di t a b:=rfl
 rw [hF] at hbd
 have kT:=h.kT
 -- the Bc whose T9 was asked
 have B:Ex (k+1) {s with P:=(Fa.Cr s.P a b).1} (Dy t a b):=
  ⟨h.l.same rfl rfl rfl rfl rfl rfl rfl rfl rfl,q2,h.late,h.T8,h.T7,h.now,h.RO,h.UN,h.w,h.up,h.tk,h.bO,by show s.last≤_;omega⟩
 rw [hc]
 generalize hG:Di t a b=F at hcop hbd q3 hc
 rcases hcop with e | e | e
 ·rw [e]
  refine ⟨B.l.same rfl rfl rfl rfl rfl rfl rfl rfl rfl,B.p,B.late,B.T8,B.T7,B.now,B.RO,B.UN,B.w,B.up,fun x hx=> ?_, ?_, ?_⟩
  ·have:=B.tk x hx;show x.CA≤s.last+((0:Int).toNat:Int);have e:(0:Int).toNat=0:=rfl;rw [e];have e2:x.CA≤s.last:=this;omega
  ·have:=h.bO;show 0≤s.last+_;omega
  ·show s.last+(((0:Int).toNat:Nat):Int)≤_;have e:(0:Int).toNat=0:=rfl;rw [e];omega
 ·rw [e]
  have C:=B.yK (Pd:=F.Ee) hbd.1.1 hbd.1.2 (a:=a) (b:=b) (m:=m) (by show s.last+1≤_;omega)
  have ee:G6 t a b m (1:Int).toNat=Sr (Dy t a b) F.Ee ⟨a,b,m⟩:=by rw [←hG];rfl
  have e3:E7 s a b m (1:Int).toNat=FO s.l ⟨lZ {s with P:=(Fa.Cr s.P a b).1} F.Ee,s.last+1,a,b,m⟩:=by rw [←q3];rfl
  rw [ee,e3]
  exact C
 ·rw [e]
  have C:=B.yK (Pd:=F.Ee) hbd.1.1 hbd.1.2 (a:=a) (b:=b) (m:=m) (by show s.last+1≤_;omega)
  have D:=C.yK (Pd:=F.Second) hbd.2.1 hbd.2.2 (a:=a) (b:=b) (m:=m) (by show s.last+1+1≤_;omega)
  have ee:G6 t a b m (2:Int).toNat=Sr (Sr (Dy t a b) F.Ee ⟨a,b,m⟩) F.Second ⟨a,b,m⟩:=by rw [←hG];rfl
  have e3:E7 s a b m (2:Int).toNat=FO (FO s.l ⟨lZ {s with P:=(Fa.Cr s.P a b).1} F.Ee,s.last+1,a,b,m⟩) ⟨lZ {s with P:=(Fa.Cr s.P a b).1} F.Second,s.last+1+1,a,b,m⟩:=by rw [←q3,Int.add_assoc];rfl
  have e4:s.last+(((2:Int).toNat:Nat):Int)=s.last+1+1:=by rw [Int.add_assoc];rfl
  rw [ee,e3,e4]
  exact D
/-! ### Tick -/
def QS (t:As):As:=if t.now < 1099511627776 then SC t else t
def Jb (t:As):List Ae:=if t.now < 1099511627776 then MZ t else []
theorem Ex.tick (h:Ex k s t):E8 s=Jb t∧Ex k (MK s) (QS t):=by
 unfold E8 Jb MK QS
 have hn:=h.now
 by_cases c:t.now < 1099511627776
 ·have c':s.now < 1099511627776:=by omega
  rw [if_pos c,if_pos c',if_pos c,if_pos c']
  have RO:=h.RO
  have e1:QT t=t.now+1:=PT (by omega) (by omega)
  have e2:kR t=CM s:=by
   unfold kR CM JU
   rw [e1,←h.w,hn,List.takeWhile_map,List.length_map]
   rfl
  refine ⟨?_,h.l.same rfl rfl rfl rfl rfl rfl rfl rfl rfl,h.p,h.late,h.T8,h.T7, ?_, ?_, ?_, ?_, ?_,fun x hx=>h.tk x (List.mem_of_mem_drop hx),h.bO,h.kT⟩
  ·unfold MZ EP
   rw [e2,←h.w,←List.map_take,List.map_map];rfl
  ·show s.now+1=QT t;rw [e1,hn]
  ·show 0≤QT t;rw [e1];omega
  ·show QT t≤_;rw [e1];omega
  ·show (s.l.drop (CM s)).map IJ=t.w.drop (kR t)
   rw [e2,←h.w,List.map_drop]
  ·exact h.up.sublist (List.drop_sublist _ _)
 ·have c':¬s.now < 1099511627776:=by omega
  rw [if_neg c,if_neg c',if_neg c,if_neg c']
  exact ⟨rfl,h⟩
/-! ### Cut,Mend,Stop,Start -/
theorem Ex.lost {s':Ak}{t':As}(h:Ex k s' t'):EM (Ay s') s'.l=F9 t'∧Ex k (Ub s') (GC t'):=by
 have hd:∀x,Ay s' x= !Zs t' (IJ x):=fun x=>by
  unfold Ay Zs;rw [h.l.up];rfl
 have hd1:Ay s' = fun x=> !Zs t' (IJ x):=funext hd
 have hd2:(fun x=> !Ay s' x)=fun x=>Zs t' (IJ x):=funext fun x=>by rw [hd,Bool.not_not]
 refine ⟨?_,h.l.same rfl rfl rfl rfl rfl rfl rfl rfl rfl,h.p,h.late,h.T8,h.T7,h.now,h.RO,h.UN, ?_, ?_,fun x hx=> ?_,h.bO,h.kT⟩
 ·unfold EM F9
  rw [←h.w,hd1,List.filter_map,List.map_map];rfl
 ·show (C3 (Ay s') s'.l).map IJ=t'.w.filter (Zs t')
  unfold C3
  rw [hd2,←h.w,List.filter_map];rfl
 ·exact h.up.filter _
 ·exact h.tk x (List.mem_filter.1 hx).1
def IL (t:As)(a b:Int):Int:=if t.l.any (Gr.pr a b)=false then 2 else if Aj t.ic (GS t a b)=true then 7 else 0
def Ut (t:As)(a b:Int):As:=if IL t a b=0 then GC (YW t (GS t a b) true) else t
def L8 (t:As)(a b:Int):List Ae:=if IL t a b=0 then F9 (YW t (GS t a b) true) else []
def ABh (s:Ak)(a b:Int):List Ae:=if Ma s a b=0 then EM (Ay (KF s a b)) s.l else []
theorem Ex.cut (h:Ex k s t)(a b:Int):Ma s a b=IL t a b∧ABh s a b=L8 t a b∧Ex k (ZP s a b) (Ut t a b):=by
 have hE:Ma s a b=IL t a b:=by
  unfold Ma IL
  cases c:t.l.any (Gr.pr a b) with
  |false=>rw [if_pos ((h.l.zero a b).2 c),if_pos rfl]
  |true=>
   rw [if_neg (fun e=>by have:=(h.l.zero a b).1 e;rw [c] at this;cases this),if_neg (show ¬true=false by decide),h.l.cut c]
 refine ⟨hE, ?_⟩
 unfold ABh L8 ZP Ut
 rw [hE]
 by_cases c:IL t a b=0
 ·rw [if_pos c,if_pos c,if_pos c,if_pos c]
  have ha:t.l.any (Gr.pr a b)=true:=by
   unfold IL at c
   cases e:t.l.any (Gr.pr a b) with
   |true=>rfl
   |false=>rw [e,if_pos rfl] at c;cases c
  have B:Ex k (KF s a b) (YW t (GS t a b) true):=⟨h.l.KF ha,h.p,h.late,h.T8,h.T7,h.now,h.RO,h.UN,h.w,h.up,h.tk,h.bO,h.kT⟩
  exact B.lost
 ·rw [if_neg c,if_neg c,if_neg c,if_neg c]
  exact ⟨rfl,h⟩
def LX (t:As)(a b:Int):Int:=if t.l.any (Gr.pr a b)=false then 2 else if Aj t.ic (GS t a b)=true then 0 else 6
def WO (t:As)(a b:Int):As:=if LX t a b=0 then YW t (GS t a b) false else t
theorem Ex.UK (h:Ex k s t)(a b:Int):Lg s a b=LX t a b∧Ex k (Ng s a b) (WO t a b):=by
 have hE:Lg s a b=LX t a b:=by
  unfold Lg LX
  cases c:t.l.any (Gr.pr a b) with
  |false=>rw [if_pos ((h.l.zero a b).2 c),if_pos rfl]
  |true=>
   rw [if_neg (fun e=>by have:=(h.l.zero a b).1 e;rw [c] at this;cases this),if_neg (show ¬true=false by decide),h.l.cut c]
   cases Mg s a b <;> rfl
 refine ⟨hE, ?_⟩
 unfold Ng WO
 rw [hE]
 by_cases c:LX t a b=0
 ·rw [if_pos c,if_pos c]
  have ha:t.l.any (Gr.pr a b)=true:=by
   unfold LX at c
   cases e:t.l.any (Gr.pr a b) with
   |true=>rfl
   |false=>rw [e,if_pos rfl] at c;cases c
  exact ⟨h.l.AAx ha,h.p,h.late,h.T8,h.T7,h.now,h.RO,h.UN,h.w,h.up,h.tk,h.bO,h.kT⟩
 ·rw [if_neg c,if_neg c];exact h
def FL (t:As)(a:Int):Int:=if t.R.any (GR a)=false then 2 else if Aj t.st a.toNat=true then 7 else 0
def QP (t:As)(a:Int):As:=if FL t a=0 then GC (Qq t a.toNat true) else t
def Jd (t:As)(a:Int):List Ae:=if FL t a=0 then F9 (Qq t a.toNat true) else []
def wF (s:Ak)(a:Int):List Ae:=if IA s a=0 then EM (Ay (GL s a)) s.l else []
theorem Cj.rng (h:Cj s t){a:Int}(ha:t.R.any (GR a)=true):1≤a∧a≤24:=by
 obtain ⟨x,hx,hp⟩:=List.any_eq_true.1 ha
 simp only [GR,decide_eq_true_eq] at hp
 subst hp
 exact h.rt _ hx
theorem Ex.stop (h:Ex k s t)(a:Int):IA s a=FL t a∧wF s a=Jd t a∧Ex k (Qx s a) (QP t a):=by
 have hR:NK s a=t.R.any (GR a):=by unfold NK;rw [h.l.R]
 have hE:IA s a=FL t a:=by
  unfold IA FL
  rw [hR]
  cases c:t.R.any (GR a) with
  |false=>rfl
  |true=>rw [h.l.S a (h.l.rng c)]
 refine ⟨hE, ?_⟩
 unfold wF Jd Qx QP
 rw [hE]
 by_cases c:FL t a=0
 ·rw [if_pos c,if_pos c,if_pos c,if_pos c]
  have ha:t.R.any (GR a)=true:=by
   unfold FL at c
   cases e:t.R.any (GR a) with
   |true=>rfl
   |false=>rw [e,if_pos rfl] at c;cases c
  have B:Ex k (GL s a) (Qq t a.toNat true):=⟨h.l.GL (h.l.rng ha),h.p,h.late,h.T8,h.T7,h.now,h.RO,h.UN,h.w,h.up,h.tk,h.bO,h.kT⟩
  exact B.lost
 ·rw [if_neg c,if_neg c,if_neg c,if_neg c]
  exact ⟨rfl,h⟩
def I3 (t:As)(a:Int):Int:=if t.R.any (GR a)=false then 2 else if Aj t.st a.toNat=true then 0 else 6
def Rq (t:As)(a:Int):As:=if I3 t a=0 then Qq t a.toNat false else t
theorem Ex.start (h:Ex k s t)(a:Int):IV s a=I3 t a∧Ex k (LZ s a) (Rq t a):=by
 have hR:NK s a=t.R.any (GR a):=by unfold NK;rw [h.l.R]
 have hE:IV s a=I3 t a:=by
  unfold IV I3
  rw [hR]
  cases c:t.R.any (GR a) with
  |false=>rfl
  |true=>rw [h.l.S a (h.l.rng c)];cases D2 s a <;> rfl
 refine ⟨hE, ?_⟩
 unfold LZ Rq
 rw [hE]
 by_cases c:I3 t a=0
 ·rw [if_pos c,if_pos c]
  have ha:t.R.any (GR a)=true:=by
   unfold I3 at c
   cases e:t.R.any (GR a) with
   |true=>rfl
   |false=>rw [e,if_pos rfl] at c;cases c
  exact ⟨h.l.xq (h.l.rng ha),h.p,h.late,h.T8,h.T7,h.now,h.RO,h.UN,h.w,h.up,h.tk,h.bO,h.kT⟩
 ·rw [if_neg c,if_neg c];exact h
end
end Go.Proofs.Ytmppehipfpkepaa.Dm
