/- The Bc: Near. -/
import Derived.Test.YtmppehipfpkepaaN27
import Derived.Test.YtmppehipfpkepaaNPL3
import Derived.Test.YtmppehipfpkepaaNPN
set_option linter.unusedVariables false
namespace Go.Proofs.Ytmppehipfpkepaa.Dm
open Go.Dm
set_option maxHeartbeats 16000000
set_option maxRecDepth 20000
noncomputable def iy:FuncId→Bp:=Bu Ve 31 Ih
theorem QI:Cf Try.prog tt.get iy:=K4.add wT
theorem dL:iy 31=Ih:=rfl
theorem U3:iy 29=Ba:=rfl
theorem fu:iy 30=B3:=rfl
theorem ZX:iy 37=HV:=rfl
def Hz (s:Ak)(a:Int)(k:Nat):List Ej:=((List.range k).filter fun (j:Nat)=>GQ s a ((j:Int)+1)).map fun (j:Nat)=>⟨(j:Int)+1,DX s a ((j:Int)+1)⟩
theorem aY (s:Ak)(a:Int)(k:Nat):Hz s a (k+1)=Hz s a k ++ (if GQ s a ((k:Int)+1)=true then [⟨(k:Int)+1,DX s a ((k:Int)+1)⟩] else []):=by
 unfold Hz
 rw [List.range_succ,List.filter_append,List.map_append]
 congr 1
 rw [List.filter_cons]
 split <;> rfl
theorem U5 (s:Ak)(a:Int)(k:Nat):(Hz s a k).length≤k:=by
 unfold Hz
 rw [List.length_map]
 exact Nat.le_trans (List.length_filter_le _ _) (by rw [List.length_range];exact Nat.le_refl _)
def I1 (s:Ak)(a:Int)(top:Nat):Value×BC×Nat:=
 if NK s a=true then (.tuple ⟨[AK top (Hz s a 24), .int .i64 0]⟩, [(top,AO Bw (Hz s a 24))],top+1) else (.tuple ⟨[.slice none 0 0, .int .i64 2]⟩, [],top)
noncomputable def Io:Bp:= .det (fun args hp _=>match args with | [.pointer (some ⟨n,0,none⟩),a]=>F2 hp n∧EO .i64 a | _=>False) (fun args hp top=>match args with
 | [.pointer (some ⟨n,_,_⟩),a]=>I1 (Im hp n) (intOf a) top | _=>(undef, [],top))
def Vh (hp:Hp)(top n:Nat)(s:Ak)(a:Int)(k:Nat):SS:=⟨[(0, .pointer (some ⟨n,0,none⟩),true),(1, .int .i64 a,true),(6,AK top (Hz s a k),true),(7, .int .i64 ((k:Int)+1),true)],hp.AZ [(top,AO Bw (Hz s a k))],top+1⟩
theorem qZ:BK Try.prog 27 Io:=by
 refine .Cc YV ?_
 intro args hp top hpre hcl hsc
 match args,hpre with
 | [.pointer (some ⟨n,0,none⟩),a],⟨⟨lv,s,h⟩,ha⟩=>
 rw [ha]
 generalize intOf a=a
 simp only [h.s,BA]
 have hlow:=h.low hcl
 have n0:n < top:=by omega
 have n1:n+1 < top:=by omega
 have hh:=h.h
 have hL:=h.L
 have his:=h.is
 have rP:Dp Ab hp (AK (n+7) s.R)=True:=h.sR.P
 have rR:Ab.rd hp (AK (n+7) s.R)=s.R:=h.sR.rd
 have hk:∀ {hp':Hp},AE top [] hp' hp→BW hp' n lv s:=fun {hp'} k=>h.BT hcl fun i hi=>k i hi (by simp)
 have hisk:∀ {o:Option BB},F2 (hp.set top o) n=True:=fun {o}=>(hk (hp':=hp.set top o) (by rw [AE.set (by omega),AE.refl];trivial)).is
 have hsk:∀ {o:Option BB},Im (hp.set top o) n=s:=fun {o}=>(hk (hp':=hp.set top o) (by rw [AE.set (by omega),AE.refl];trivial)).s
 refine AL.Au BE YV rfl 41 rfl [.tmp 4, .tmp 5] rfl (show 2≤41 by decide) ?_
 cases c1:NK s a with
 |false=>
  have c1':s.R.any (GR a)=false:=c1
  refine CW.vc QI [0,1,4,5,6,7,8,11,20,26] (by kernel_rfl) ?_
  (repeat ((try refine Vc.mk' ?_);simp only [go_sem,Nat.reduceAdd,hh,Bi,U3,Ba,his,ZX,HV,rP,rR,c1']))
  simp only [I1,c1,Bool.false_eq_true,if_false]
  (refine ⟨[],by simp,by simp,by simp, ?_, ?_, ?_⟩ <;> simp [Ad,Ag,AD.nil,AE.refl])
 |true=>
  have c1':s.R.any (GR a)=true:=c1
  refine CW.vc QI [0,1,4,5,6,7,8,11,20,26] (by kernel_rfl) ?_
  (repeat ((try refine Vc.mk' ?_);simp only [go_sem,Nat.reduceAdd,hh,Bi,U3,Ba,his,ZX,HV,rP,rR,c1']))
  refine CW.CZ (Vh hp top n s a) (fun k=>k≤24) (fun k=>24 - k) 0 (Nat.zero_le _) ?_ ?_
  ·have e0:Hz s a 0= []:=rfl
   exact (by refine BO.mk' [top] hcl (by simp) (by simp) rfl (AV ?_) ?_ ?_ <;> simp [Ax,Cd,Ad,AD.nil,AD.cons,AM,AE.refl,e0,AA n0,Dh,EN])
  ·intro k hk24
   by_cases c2:k < 24
   ·have c2':¬24 < (k:Int)+1:=by omega
    have wk:BQ .i64 ((k:Int)+1+1)=((k+1:Nat):Int)+1:=by rw [wrap64 (by omega) (by omega)];omega
    have hsu:=aY s a k
    have hlu:=U5 s a k
    have h16:(Hz s a k).length < 16777216:=by omega
    have hco:(BV s.L ⟨min a ((k:Int)+1),max a ((k:Int)+1)⟩).getD default=DX s a ((k:Int)+1):=rfl
    cases c3:GQ s a ((k:Int)+1) with
    |false=>
     rw [c3,if_neg (by simp),List.append_nil] at hsu
     refine CW.vc QI [0,1,4,5,6,7,8,11,20,26] (by kernel_rfl) ?_
     (repeat ((try refine Vc.mk' ?_);simp only [go_sem,hisk,hsk,dL,Ih,Vh,c2',wk,c3]))
     exact .mk (k+1) c2 (by omega) ((by refine BO.mk' [top] hcl (by simp) (by simp) rfl (AV ?_) ?_ ?_ <;> simp [Ax,Cd,Ad,AD.nil,AD.cons,AQ,AM,Af,AB,AE.set,AE.refl,hsu,AA n0]))
    |true=>
     rw [c3,if_pos rfl] at hsu
     refine CW.vc QI [0,1,4,5,6,7,8,11,20,26] (by kernel_rfl) ?_
     (repeat ((try refine Vc.mk' ?_);simp only [go_sem,reduceCtorEq,Nat.reduceAdd,Nat.reduceMul,Nat.reduceLT,Nat.reduceLeDiff,hh,Bi,hL,hisk,hsk,dL,Ih,fu,B3,AS n0,AS n1,Vh,c2',wk,c3,h16,hco]))
     exact .mk (k+1) c2 (by omega) ((by refine BO.mk' [top+2] hcl (by simp) (by simp) rfl (AV ?_) ?_ ?_ <;> simp [Ax,Cd,Ad,AD.nil,AD.cons,AQ,AM,Af,AB,AE.set,AE.refl,hsu,AA n0]))
   ·have c2':24 < (k:Int)+1:=by omega
    have e24:k=24:=by omega
    refine CW.vc QI [0,1,4,5,6,7,8,11,20,26] (by kernel_rfl) ?_
    (repeat ((try refine Vc.mk' ?_);simp only [go_sem,Vh,c2']))
    subst e24
    simp only [I1,c1,if_true]
    (refine ⟨[top],by simp,by simp,by simp, ?_, ?_, ?_⟩ <;> simp [Ad,Ag,AD.nil,AD.cons,AQ,AM,Af,AB,AE.set,AE.refl])
end Go.Proofs.Ytmppehipfpkepaa.Dm
/- The Bc: its graph, whatever order its links are gone through in, without the program. -/
set_option linter.unusedVariables false
namespace Go.Proofs.Ytmppehipfpkepaa.Dm
open Go.Dm
set_option maxHeartbeats 4000000
set_option maxRecDepth 20000
abbrev KL:=HZ×Int×Nat
def lnk (e:KL):AX:=⟨e.1.a,e.1.b,e.2.1⟩
def upE (s:Ak)(e:KL):Bool:=GQ s e.1.a e.1.b
def Gn (s:Ak)(l:List KL):List AX:=(l.filter (upE s)).map lnk
def j0 (s:Ak):List AX:=Gn s s.L
def Gz (s:Ak):List Int:=s.R.filter fun a=> !D2 s a
theorem gB (s:Ak)(l:List KL)(e:KL):Gn s (l ++ [e])=Gn s l ++ (if upE s e=true then [lnk e] else []):=by
 unfold Gn
 rw [List.filter_append,List.map_append]
 congr 1
 rw [List.filter_cons]
 split <;> rfl
/-! ### any order -/
theorem x6 {x y:AX}(h:Gr.pr y.A y.B x=false):Gr.pr x.A x.B y=false:=by
 unfold Gr.pr at h ⊢
 simp only [Bool.or_eq_false_iff,Bool.and_eq_false_iff,decide_eq_false_iff_not] at h ⊢
 obtain ⟨h1,h2⟩:=h
 constructor
 ·rcases h1 with h1 | h1
  ·exact .inl fun e=>h1 e.symm
  ·exact .inr fun e=>h1 e.symm
 ·rcases h2 with h2 | h2
  ·exact .inr fun e=>h2 e.symm
  ·exact .inl fun e=>h2 e.symm
theorem oJ {R:List Int}:∀(l done:List AX),(∀x∈l,Gr.CX R x=true∧done.any (Gr.pr x.A x.B)=false)→(l.Pairwise fun x y=>Gr.pr y.A y.B x=false)→Gr.Zf R done l=0
 | [],_,_,_=>rfl
 |x :: l,done,h,hp=>by
  rw [List.pairwise_cons] at hp
  unfold Gr.Zf
  obtain ⟨h1,h2⟩:=h x (by simp)
  rw [if_neg (by rw [h1];simp),if_neg (by rw [h2];simp)]
  refine oJ l _ (fun y hy=>⟨(h y (List.mem_cons_of_mem _ hy)).1, ?_⟩) hp.2
  rw [List.any_append,(h y (List.mem_cons_of_mem _ hy)).2,Bool.false_or]
  simpa using hp.1 y hy
theorem XX {R:List Int}{l:List AX}(h1:Gr.UC [] R=true)(h2:l.length≤48)(h3:Gr.RR R l):Gr.DS R l=0:=by
 unfold Gr.DS
 rw [if_neg (by rw [h1];simp),if_neg (by omega)]
 exact oJ l [] (fun x hx=>⟨h3.ok x hx,rfl⟩) h3.ne
theorem gf {R:List Int}{l l':List AX}(h:Gr.DS R l=0)(p:l'.Perm l):Gr.DS R l' = 0:=by
 obtain ⟨h1,h2,h3⟩:=Gr.Cv h
 have hl:=Gr.Fb h3
 refine XX h1 (by rw [p.length_eq];exact h2) ⟨fun x hx=>hl.ok x (p.mem_iff.1 hx), ?_⟩
 exact (p.pairwise_iff (R:=fun x y=>Gr.pr y.A y.B x=false) (fun {x y} h=>x6 h)).2 hl.ne
theorem cm {α:Type}{l m:List α}(p:l.Perm m)(h:m.length≤1):l=m:=by
 cases m with
 |nil=>exact p.eq_nil
 |cons a m=>
  cases m with
  |nil=>exact List.perm_singleton.1 p
  |cons b m=>simp at h
theorem iC {R:List Int}{l l':List AX}(h:Gr.DS R l=0)(p:l'.Perm l)(a b:Int):Gr.Hj l' a b=Gr.Hj l a b:=by
 refine cm ((p.filter _).map _) ?_
 have:=Gr.filter_one (a:=a) (b:=b) (Gr.Fb (Gr.Cv h).2.2).ne
 show (Gr.Hj l a b).length≤1
 rw [this]
 split <;> simp
theorem au {R:List Int}{l l':List AX}(h:Gr.DS R l=0)(p:l'.Perm l)(n:Nat):Gr.CF R l' n=Gr.CF R l n:=by
 unfold Gr.CF Gr.H8
 simp only [iC h p]
theorem cO {R:List Int}{l l':List AX}{top:Nat}(h:Gr.DS R l=0)(p:l'.Perm l):Gr.FF R l' top=(.tuple ⟨[.agg ⟨[AK top (Gr.Cs R 25),AK (top+1) (Gr.CF R l 25)]⟩, .int .i64 0]⟩, [(top,AO Ab (Gr.Cs R 25)),(top+1,AO A9 (Gr.CF R l 25))],top+2):=by
 rw [Gr.Sw (gf h p),au h p]
/-- what Graph asks of a Bc -/
structure dP (s:Ak):Prop where
 bn:(s.L.map (·.2.2)).Nodup
 bl:∀e∈s.L,e.2.2 < s.lc
 er:Gr.DS (Gz s) (j0 s)=0
 le:s.L.length≤1000
theorem U4:∀ {l:List KL},(l.map (·.2.2)).Nodup→∀ {x y:KL},x∈l→y∈l→x.2.2=y.2.2→x=y
 | [],_,_,_,h,_,_=>by cases h
 |a :: l,hn,x,y,hx,hy,e=>by
  rw [List.map_cons,List.nodup_cons] at hn
  rcases List.mem_cons.1 hx with hxe | hx2
  ·subst hxe
   rcases List.mem_cons.1 hy with hye | hy
   ·exact hye.symm
   ·exact absurd (show x.2.2∈l.map (·.2.2) from List.mem_map.2 ⟨y,hy,e.symm⟩) hn.1
  ·rcases List.mem_cons.1 hy with hye | hy
   ·subst hye
    exact absurd (show y.2.2∈l.map (·.2.2) from List.mem_map.2 ⟨x,hx2,e⟩) hn.1
   ·exact U4 hn.2 hx2 hy e
theorem KC {l:List KL}(h:(l.map (·.2.2)).Nodup):l.Nodup:=by
 have:=List.pairwise_map.1 h
 exact this.imp fun h e=>h (by rw [e])
/-- what has come of a range Oz the links -/
structure Qc (L l1:List KL):Prop where
 nd:(l1.map (·.2.2)).Nodup
 sub:∀e∈l1,e∈L
theorem Qc.nil {L:List KL}:Qc L []:=⟨List.nodup_nil,by simp⟩
theorem Qc.add {L l1:List KL}(h:Qc L l1){e:KL}(he:e∈L)(hn:e.2.2 ∉ l1.map (·.2.2)):Qc L (l1 ++ [e]):=by
 refine ⟨?_,fun x hx=> ?_⟩
 ·rw [List.map_append,List.nodup_append]
  refine ⟨h.nd,by simp,fun a ha b hb=> ?_⟩
  simp at hb;subst hb
  exact fun e=>hn (e ▸ ha)
 ·rcases List.mem_append.1 hx with hx | hx
  ·exact h.sub x hx
  ·simp at hx;subst hx;exact he
theorem QV {α:Type}[DecidableEq α] :∀ {l m:List α},l.Nodup→(∀x∈l,x∈m)→l.length≤m.length
 | [],_,_,_=>Nat.zero_le _
 |x :: l,m,hn,hs=>by
  rw [List.nodup_cons] at hn
  have hx:=hs x (by simp)
  have:=QV (m:=m.erase x) hn.2 fun y hy=>(List.mem_erase_of_ne (fun e=>by subst e;exact hn.1 hy)).2 (hs y (List.mem_cons_of_mem _ hy))
  rw [List.length_erase_of_mem hx] at this
  have h0:0 < m.length:=List.length_pos_of_mem hx
  rw [List.length_cons];omega
theorem Qc.len {L l1:List KL}(h:Qc L l1):l1.length≤L.length:=by
 exact QV (KC h.nd) h.sub
theorem Qc.lt {L l1:List KL}(h:Qc L l1){e:KL}(he:e∈L)(hn:e.2.2 ∉ l1.map (·.2.2)):l1.length < L.length:=by
 have:=(h.add he hn).len
 rw [List.length_append] at this
 exact this
theorem Qc.all {L l1:List KL}(hL:(L.map (·.2.2)).Nodup)(h:Qc L l1)(ha:∀e∈L,e.2.2∈l1.map (·.2.2)):l1.Perm L:=by
 rw [List.perm_ext_iff_of_nodup (KC h.nd) (KC hL)]
 intro e
 refine ⟨h.sub e,fun he=> ?_⟩
 obtain ⟨x,hx,hxe⟩:=List.mem_map.1 (ha e he)
 rw [U4 hL he (h.sub x hx) hxe.symm]
 exact hx
theorem cY {s:Ak}{l m:List KL}(p:l.Perm m):(Gn s l).Perm (Gn s m):=(p.filter _).map _
theorem iD (s:Ak)(l:List KL):(Gn s l).length≤l.length:=by
 unfold Gn;rw [List.length_map];exact List.length_filter_le _ _
end Go.Proofs.Ytmppehipfpkepaa.Dm
/- The Bc: Graph. -/
set_option linter.unusedVariables false
namespace Go.Proofs.Ytmppehipfpkepaa.Dm
open Go.Dm
set_option maxHeartbeats 16000000
set_option maxRecDepth 20000
noncomputable def Z8:FuncId→Bp:=Bu iy 27 Io
theorem M3:Cf Try.prog tt.get Z8:=QI.add qZ
theorem ov:Z8 29=Ba:=rfl
theorem zX:Z8 31=Ih:=rfl
theorem yT:Z8 38=Gr.ET:=rfl
theorem N4 {ρ:Nat→Nat}{m s c:Nat}{l:List Nat}:KZ ρ (.miter m s l c)= .miter (ρ m) s l c:=rfl
def AD0 (e:KL):MapEntry:=Jl FX.ek CP e
def SF (s:Ak)(top:Nat):Value×BC×Nat:=(.tuple ⟨[.agg ⟨[AK top (Gr.Cs (Gz s) 25),AK (top+1) (Gr.CF (Gz s) (j0 s) 25)]⟩, .int .i64 0]⟩, [(top,AO Ab (Gr.Cs (Gz s) 25)),(top+1,AO A9 (Gr.CF (Gz s) (j0 s) 25))],top+2)
noncomputable def O5:Bp:= .det (fun args hp _=>match args with | [.pointer (some ⟨n,0,none⟩)]=>F2 hp n∧dP (Im hp n) | _=>False) (fun args hp top=>match args with
 | [.pointer (some ⟨n,_,_⟩)]=>SF (Im hp n) top | _=>(undef, [],top))
def gz:Option BB:=some (.cells true 0 [.slice none 0 0, .slice none 0 0])
def rM (hp:Hp)(top n:Nat)(s:Ak)(k:Nat):SS:=⟨[(0, .pointer (some ⟨n,0,none⟩),true),(2, .pointer (some ⟨top,0,none⟩),true),(4,AK (top+1) ((s.R.take k).filter fun a=> !D2 s a),true),(16,AK (n+7) s.R,true),(17, .int .i64 (s.R.length:Int),true),(18, .int .i64 (k:Int),true)],hp.AZ [(top,gz),(top+1,AO Ab ((s.R.take k).filter fun a=> !D2 s a))],top+2⟩
def AB9 (hp:Hp)(top n:Nat)(s:Ak)(l:List KL):SS:=⟨[(0, .pointer (some ⟨n,0,none⟩),true),(2, .pointer (some ⟨top,0,none⟩),true),(4,AK (top+1) (Gz s),true),(7,AK (top+3) (Gn s l),true),(38, .pointer (some ⟨top+2,0,none⟩),true)],hp.AZ [(top,gz),(top+1,AO Ab (Gz s)),(top+2,some (.miter (n+1) s.lc (l.map (·.2.2)) s.lc)),(top+3,AO An (Gn s l))],top+4⟩
theorem aG {s:Ak}{k:Nat}(h:k < s.R.length):((s.R.take (k+1)).filter fun a=> !D2 s a)=((s.R.take k).filter fun a=> !D2 s a) ++ (if D2 s (Aj s.R k)=true then [] else [Aj s.R k]):=by
 rw [CO h,List.filter_append]
 congr 1
 rw [List.filter_cons]
 cases D2 s (Aj s.R k) <;> rfl
theorem jr:BK Try.prog 24 O5:=by
 refine .Cc Vg ?_
 intro args hp top hpre hcl hsc
 match args,hpre with
 | [.pointer (some ⟨n,0,none⟩)],⟨⟨lv,s,h⟩,hg⟩=>
 rw [h.s] at hg
 simp only [h.s]
 have hlow:=h.low hcl
 have n0:n < top:=by omega
 have n1:n+1 < top:=by omega
 have n3:n+3 < top:=by omega
 have hh:=h.h
 have hL:=h.L
 have hS:=h.S
 have hmt:Qe tt.get 91=true:=by unfold Qe;rw [I4]
 have hk:∀ {hp':Hp},AE top [] hp' hp→BW hp' n lv s:=fun {hp'} k=>h.BT hcl fun i hi=>k i hi (by simp)
 have hisk:∀ {hp':Hp},AE top [] hp' hp→F2 hp' n=True:=fun {hp'} k=>(hk k).is
 have hsk:∀ {hp':Hp},AE top [] hp' hp→Im hp' n=s:=fun {hp'} k=>(hk k).s
 have hrg:∀ {h':Hp},h' (n+1)=some (.map (Bq s.L) s.lc)→Me h' (.map (some (n+1)))=some (n+1,s.lc):=fun h=>VI h
 have hRS:=h.sR
 have hRl:=hRS.low hcl
 refine AL.Au BE Vg rfl 64 rfl [.cell 2 76, .tmp 3] rfl (show 1≤64 by decide) ?_
 refine CW.vc M3 [0,2,3,4,6,7,8,9,11,16,17,18,19,28,38,40,49] (by kernel_rfl) ?_
 (repeat ((try refine Vc.mk' ?_);simp only [go_sem,Nat.reduceAdd,Bs hRS,hh,Bi,ov,Ba,hisk,AS n0]))
 have hrn:=h.rn
 refine CW.CZ (rM hp top n s) (fun k=>k≤s.R.length) (fun k=>s.R.length - k) 0 (Nat.zero_le _) ?_ ?_
 ·exact (by refine BO.mk' [top,top+1] hcl (by simp) (by simp) rfl (AV ?_) ?_ ?_ <;> simp [Ax,Cd,Ad,Ag,AD.nil,AD.cons,AF,AG,AM,Aw,AB,AH,AE.set,AE.refl,AA n0,hRl.Ad (fun j hj=>AA hj),gz,Dh,EN,List.take_zero,List.filter_nil])
 ·intro k hkR
  by_cases c1:k < s.R.length
  case pos=>
   have c1':(k:Int) < (s.R.length:Int):=by omega
   have wk:BQ .i64 ((k:Int)+1)=((k+1:Nat):Int):=Av (n:=1000) (by omega) (by omega)
   have hst:=aG (s:=s) c1
   have hll:((s.R.take k).filter fun a=> !D2 s a).length < 16777216:=by
    have:=List.length_filter_le (fun a=> !D2 s a) (s.R.take k)
    rw [List.length_take] at this
    omega
   generalize hO:((s.R.take k).filter fun a=> !D2 s a)=O at hst hll
   cases c2:D2 s (Aj s.R k) with
   |true=>
    have c2':(BV s.S (Aj s.R k)).getD default=true:=c2
    rw [c2,if_pos rfl,List.append_nil] at hst
    refine CW.vc M3 [0,2,3,4,6,7,8,9,11,16,17,18,19,28,38,40,49] (by kernel_rfl) ?_
    (repeat ((try refine Vc.mk' ?_);simp only [go_sem,Nat.reduceAdd,Nat.reduceLT,CN hRS,DM hRS,Ao hRl,hh,Bi,hS,AS n0,AS n3,rM,hO,c1,c1',wk,c2',gz]))
    exact .mk (k+1) c1 (by omega) ((by refine BO.mk' [top,top+1] hcl (by simp) (by simp) rfl (AV ?_) ?_ ?_ <;> simp [Ax,Cd,Ad,Ag,AD.nil,AD.cons,AF,AG,AQ,AM,Aw,Af,AB,AH,AE.set,AE.refl,hst,AA n0,hRl.Ad (fun j hj=>AA hj),gz]))
   |false=>
    have c2':(BV s.S (Aj s.R k)).getD default=false:=c2
    rw [c2,if_neg (by simp)] at hst
    refine CW.vc M3 [0,2,3,4,6,7,8,9,11,16,17,18,19,28,38,40,49] (by kernel_rfl) ?_
    (repeat ((try refine Vc.mk' ?_);simp only [go_sem,Nat.reduceAdd,Nat.reduceMul,Nat.reduceLT,Nat.reduceLeDiff,Nat.reduceEqDiff,CN hRS,DM hRS,Ao hRl,hh,Bi,hS,AS n0,AS n3,rM,hO,c1,c1',wk,c2',hll,gz]))
    exact .mk (k+1) c1 (by omega) ((by refine BO.mk' [top,top+3] hcl (by simp) (by simp) rfl (AV ?_) ?_ ?_ <;> simp [Ax,Cd,Ad,Ag,AD.nil,AD.cons,AF,AG,AQ,AM,Aw,Af,AB,AH,AE.set,AE.refl,hst,AA n0,hRl.Ad (fun j hj=>AA hj),gz]))
  case neg=>
   have c1':¬(k:Int) < (s.R.length:Int):=by omega
   have hO:((s.R.take k).filter fun a=> !D2 s a)=Gz s:=by rw [List.take_of_length_le (by omega)];rfl
   refine CW.vc M3 [0,2,3,4,6,7,8,9,11,16,17,18,19,28,38,40,49] (by kernel_rfl) ?_
   (repeat ((try refine Vc.mk' ?_);simp only [go_sem,Nat.reduceAdd,Nat.reduceLT,hh,Bi,hL,hmt,hrg,AS n0,AS n1,rM,hO,c1',gz]))
   refine CW.CZ (AB9 hp top n s) (Qc s.L) (fun l=>s.L.length - l.length) [] Qc.nil ?_ ?_
   ·exact (by refine BO.mk' [top,top+1,top+2,top+3] hcl (by simp) (by simp) rfl (AV ?_) ?_ ?_ <;> simp [Ax,Cd,Ad,Ag,AD.nil,AD.cons,AF,AG,AQ,AM,Aw,Af,AB,AH,AE.set,AE.refl,AA n0,AA n1,gz,Dh,EN,Gn,List.map_nil,List.filter_nil,N4])
   ·intro l1 hc
    have hl48:=hg.le
    have hlen:=iD s l1
    have hle:=hc.len
    refine CW.vc M3 [0,2,3,4,6,7,8,9,11,16,17,18,19,28,38,40,49] (by kernel_rfl) ?_
    (repeat ((try refine Vc.mk' ?_);simp only [go_sem,AB9,gz]))
    refine ⟨top+2,n+1,s.lc,l1.map (·.2.2),s.lc,Bq s.L,s.lc,rfl,by simp [AB,AH],by simp [AS n1,hL],Nat.le_refl _,fun e he=> ?_,fun hall=> ?_,fun e he hne=> ?_⟩
    ·obtain ⟨x,hx,rfl⟩:=List.mem_map.1 he
     exact hg.bl x hx
    ·have hp_:=hc.all hg.bn fun e he=>hall (AD0 e) (List.mem_map.2 ⟨e,he,rfl⟩)
     have hres:=fun T=>cO (top:=T) hg.er (cY (s:=s) hp_)
     have hdl:(Gz s).length≤1000:=Nat.le_trans (List.length_filter_le _ _) hrn
     have p1:∀ {h':Hp},h' (top+1)=AO Ab (Gz s)→Dp Ab h' (AK (top+1) (Gz s))=True:=fun h=>(BU.own (E:=Ab) h (by omega)).P
     have p2:∀ {h':Hp},h' (top+1)=AO Ab (Gz s)→Ab.rd h' (AK (top+1) (Gz s))=Gz s:=fun h=>(BU.own (E:=Ab) h (by omega)).rd
     have p3:∀ {h':Hp},h' (top+3)=AO An (Gn s l1)→Dp An h' (AK (top+3) (Gn s l1))=True:=fun h=>(BU.own (E:=An) h (by omega)).P
     have p4:∀ {h':Hp},h' (top+3)=AO An (Gn s l1)→An.rd h' (AK (top+3) (Gn s l1))=Gn s l1:=fun h=>(BU.own (E:=An) h (by omega)).rd
     (repeat ((try refine Vc.mk' ?_);simp only [go_sem,reduceCtorEq,Nat.reduceAdd,Nat.reduceEqDiff,yT,Gr.ET,p1,p2,p3,p4,hres]))
     simp only [SF]
     (refine ⟨[top+4,top+5],by simp,by simp,by simp, ?_, ?_, ?_⟩ <;> simp [Ad,Ag,AD.nil,AD.cons,AQ,AM,Aw,Af,AB,AH,AE.set,AE.refl,j0])
    ·obtain ⟨x,hx,rfl⟩:=List.mem_map.1 he
     replace hne:x.2.2 ∉ l1.map (·.2.2):=hne
     have hlt:=hc.lt hx hne
     have ex:(Jl FX.ek CP x).born=x.2.2:=rfl
     have ek:(Jl FX.ek CP x).key= .agg ⟨[.int .i64 x.1.a, .int .i64 x.1.b]⟩:=rfl
     have ev:(Jl FX.ek CP x).val= .int .i64 x.2.1:=rfl
     have hbm:((Bq s.L).map (·.born)).Nodup:=by
      have:(Bq s.L).map (·.born)=s.L.map (·.2.2):=by unfold Bq;rw [List.map_map];rfl
      rw [this];exact hg.bn
     have hent:∀ {h':Hp},h' (top+2)=some (.miter (n+1) s.lc (l1.map (·.2.2) ++ [x.2.2]) s.lc)→h' (n+1)=some (.map (Bq s.L) s.lc)→Go.Dm.IP h' (.pointer (some ⟨top+2,0,none⟩))=some (Jl FX.ek CP x):=fun h1 h2=>pU (e:=Jl FX.ek CP x) h1 h2 he hbm
     have happ:=gB s l1 x
     have h16:(Gn s l1).length < 16777216:=by omega
     have hms:(l1 ++ [x]).map (·.2.2)=l1.map (·.2.2) ++ [x.2.2]:=by rw [List.map_append];rfl
     (repeat ((try refine Vc.mk' ?_);simp only [go_sem,Nat.reduceAdd,hL,hisk,hsk,zX,Ih,AS n1,ex,ek,ev,hent]))
     cases c3:GQ s x.1.a x.1.b with
     |false=>
      have c3':upE s x=false:=c3
      rw [c3',if_neg (by simp),List.append_nil] at happ
      (repeat ((try refine Vc.mk' ?_);simp only [go_sem]))
      exact .mk (l1 ++ [x]) (hc.add hx hne) (by rw [List.length_append,List.length_singleton];omega) ((by refine BO.mk' [top,top+1,top+2,top+3] hcl (by simp) (by simp) rfl (AV ?_) ?_ ?_ <;> simp [Ax,Cd,Ad,Ag,AD.nil,AD.cons,AF,AG,AQ,AM,Aw,Af,AB,AH,AE.set,AE.refl,happ,hms,AA n0,AA n1,gz,N4]))
     |true=>
      have c3':upE s x=true:=c3
      rw [c3',if_pos rfl] at happ
      (repeat ((try refine Vc.mk' ?_);simp only [go_sem,Nat.reduceAdd,Nat.reduceMul,Nat.reduceLeDiff,Nat.reduceEqDiff,h16]))
      exact .mk (l1 ++ [x]) (hc.add hx hne) (by rw [List.length_append,List.length_singleton];omega) ((by refine BO.mk' [top,top+1,top+2,top+6] hcl (by simp) (by simp) rfl (AV ?_) ?_ ?_ <;> simp [Ax,Cd,Ad,Ag,AD.nil,AD.cons,AF,AG,AQ,AM,Aw,Af,AB,AH,AE.set,AE.refl,happ,hms,lnk,AA n0,AA n1,gz,N4]))
end Go.Proofs.Ytmppehipfpkepaa.Dm
/- NetPlays: Near and Graph, without the program. -/
set_option linter.unusedVariables false
namespace Go.Proofs.Ytmppehipfpkepaa.Dm
open Go.Dm
set_option maxHeartbeats 4000000
set_option maxRecDepth 20000
theorem da:∀(l:List Int) (last:Int),(∀n∈l,Gr.BH n=true∧last < n)→l.Pairwise (· < ·)→Gr.goN last l=true
 | [],_,_,_=>rfl
 |m :: l,last,h,hp=>by
  obtain ⟨h1,h2⟩:=List.pairwise_cons.1 hp
  have:=h m (List.mem_cons_self ..)
  simp only [Gr.goN,Bool.and_eq_true,decide_eq_true_eq]
  exact ⟨⟨this.1,this.2⟩,da l m (fun n hn=>⟨(h n (List.mem_cons_of_mem _ hn)).1,h1 n hn⟩) h2⟩
theorem fG {N:List Int}:∀(l:List BJ) (y:BJ),(∀x∈l,Gr.Px N x=true∧Gr.YX y x=true)→l.Pairwise (fun a b=>Gr.YX a b=true)→Gr.wb N y l=true
 | [],_,_,_=>rfl
 |m :: l,y,h,hp=>by
  obtain ⟨h1,h2⟩:=List.pairwise_cons.1 hp
  have:=h m (List.mem_cons_self ..)
  simp only [Gr.wb,Bool.and_eq_true]
  exact ⟨⟨this.1,this.2⟩,fG l m (fun n hn=>⟨(h n (List.mem_cons_of_mem _ hn)).1,h1 n hn⟩) h2⟩
theorem Ko {l:List AX}{a b:Int}{x:BJ}:x∈Gr.Hj l a b ↔ ∃y∈l,Gr.pr a b y=true∧x=⟨a,b,y.C2⟩:=by
 unfold Gr.Hj
 simp only [List.mem_map,List.mem_filter]
 constructor
 ·rintro ⟨y,⟨h1,h2⟩,rfl⟩;exact ⟨y,h1,h2,rfl⟩
 ·rintro ⟨y,h1,h2,rfl⟩;exact ⟨y,⟨h1,h2⟩,rfl⟩
theorem a9 {R:List Int}{l:List AX}{n:Nat}{x:BJ}:x∈Gr.CF R l n ↔ ∃a:Nat,a < n∧R.any (Gr.FQ (a:Int))=true∧∃b:Nat,b < 25∧x∈Gr.Hj l (a:Int) (b:Int):=by
 unfold Gr.CF Gr.H8
 simp only [List.mem_flatMap,List.mem_range]
 constructor
 ·rintro ⟨a,ha,h⟩
  split at h
  ·rename_i hr
   obtain ⟨b,hb,h⟩:=List.mem_flatMap.1 h
   exact ⟨a,ha,hr,b,List.mem_range.1 hb,h⟩
  ·cases h
 ·rintro ⟨a,ha,hr,b,hb,h⟩
  refine ⟨a,ha, ?_⟩
  rw [if_pos hr]
  exact List.mem_flatMap.2 ⟨b,List.mem_range.2 hb,h⟩
theorem gk {R:List Int}{l:List AX}(h:l.Pairwise fun x y=>Gr.pr y.A y.B x=false)(n:Nat):(Gr.CF R l n).Pairwise (fun a b=>Gr.YX a b=true):=by
 unfold Gr.CF Gr.H8
 rw [List.pairwise_flatMap]
 refine ⟨fun a _=> ?_, ?_⟩
 ·split
  ·rw [List.pairwise_flatMap]
   refine ⟨fun b _=> ?_, ?_⟩
   ·rw [Gr.filter_one h]
    split
    ·exact List.pairwise_singleton ..
    ·exact .nil
   ·refine (List.pairwise_lt_range (n:=25)).imp fun {b c} hbc x hx y hy=> ?_
    obtain ⟨_,_,_,rfl⟩:=Ko.1 hx
    obtain ⟨_,_,_,rfl⟩:=Ko.1 hy
    simp only [Gr.YX,Bool.or_eq_true,Bool.and_eq_true,decide_eq_true_eq]
    exact .inr ⟨trivial,by omega⟩
  ·exact .nil
 ·refine (List.pairwise_lt_range (n:=n)).imp fun {b c} hbc x hx y hy=> ?_
  have key:∀ {a:Nat} {x:BJ},x∈(if R.any (Gr.FQ (a:Int))=true then (List.range 25).flatMap fun (b:Nat)=>Gr.Hj l (a:Int) (b:Int) else [])→x.B2=(a:Int):=by
   intro a x hx
   split at hx
   ·obtain ⟨b,_,hx⟩:=List.mem_flatMap.1 hx
    obtain ⟨_,_,_,rfl⟩:=Ko.1 hx
    rfl
   ·cases hx
  have e1:=key hx
  have e2:=key hy
  simp only [Gr.YX,Bool.or_eq_true,Bool.and_eq_true,decide_eq_true_eq]
  exact .inl (by omega)
theorem Sk {R:List Int}{l:List AX}(h:Gr.DS R l=0){n:Int}(hn:R.any (Gr.FQ n)=true):n∈R∧Gr.BH n=true∧1≤n∧n≤24:=by
 obtain ⟨y,hy,e⟩:=List.any_eq_true.1 hn
 simp only [Gr.FQ,decide_eq_true_eq] at e
 subst e
 have:=Gr.KA R [] (Gr.Cv h).1 y hy
 refine ⟨hy,this, ?_⟩
 simpa [Gr.BH] using this
theorem gG {R:List Int}{l:List AX}(h:Gr.DS R l=0):Gr.N1 (Gr.Cs R 25) (Gr.CF R l 25)=true:=by
 have hl:=Gr.Fb (Gr.Cv h).2.2
 have hN:∀n∈Gr.Cs R 25,R.any (Gr.FQ n)=true:=fun n hn=>by
  unfold Gr.Cs at hn
  obtain ⟨i,hi,rfl⟩:=List.mem_map.1 hn
  exact (List.mem_filter.1 hi).2
 have hN2:∀n,R.any (Gr.FQ n)=true→n∈Gr.Cs R 25:=fun n hn=>by
  have:=Sk h hn
  unfold Gr.Cs
  refine List.mem_map.2 ⟨n.toNat,List.mem_filter.2 ⟨List.mem_range.2 (by omega), ?_⟩,by omega⟩
  rw [Int.toNat_of_nonneg (by omega)];exact hn
 have hE:∀x∈Gr.CF R l 25,∃y∈l,Gr.pr x.B2 x.To y=true∧x.C2=y.C2∧R.any (Gr.FQ x.B2)=true∧R.any (Gr.FQ x.To)=true∧x.B2≠x.To∧Gr.JD x.C2=true:=fun x hx=>by
  obtain ⟨a,ha,hr,b,hb,hx⟩:=a9.1 hx
  obtain ⟨y,hy,hp,rfl⟩:=Ko.1 hx
  have hok:=hl.ok y hy
  unfold Gr.CX at hok
  simp only [Bool.and_eq_true,Bool.not_eq_true',decide_eq_false_iff_not] at hok
  obtain ⟨⟨⟨h1,h2⟩,h3⟩,h4⟩:=hok
  refine ⟨y,hy,hp,rfl,hr, ?_, ?_,h4⟩
  ·unfold Gr.pr at hp
   simp only [Bool.or_eq_true,Bool.and_eq_true,decide_eq_true_eq] at hp
   rcases hp with ⟨_,e⟩ | ⟨e,_⟩
   ·show R.any (Gr.FQ (b:Int))=true;rw [←e];exact h3
   ·show R.any (Gr.FQ (b:Int))=true;rw [←e];exact h2
  ·unfold Gr.pr at hp
   simp only [Bool.or_eq_true,Bool.and_eq_true,decide_eq_true_eq] at hp
   show (a:Int)≠(b:Int)
   omega
 have hup:=gk (R:=R) hl.ne 25
 have any_mem:∀ {n:Int},n∈Gr.Cs R 25→(Gr.Cs R 25).any (Gr.FQ n)=true:=fun {n} hn=>List.any_eq_true.2 ⟨n,hn,by simp [Gr.FQ]⟩
 simp only [Gr.N1,Bool.and_eq_true,decide_eq_true_eq]
 refine ⟨⟨da _ _ (fun n hn=> ?_) ?_, ?_⟩,fG _ _ (fun x hx=> ?_) hup⟩
 ·have:=Sk h (hN n hn)
  exact ⟨this.2.1,by omega⟩
 ·have h3:((List.range 25).filter fun (i:Nat)=>R.any (Gr.FQ (i:Int))).Pairwise (· < ·):=List.pairwise_lt_range.filter _
  exact h3.map _ fun a b hab=>by omega
 ·have hnd:(Gr.CF R l 25).Nodup:=hup.imp fun {a b} h e=>by
   subst e
   simp [Gr.YX] at h
  have:=QV (m:=(l.map fun y=>(⟨y.A,y.B,y.C2⟩:BJ)) ++ (l.map fun y=>(⟨y.B,y.A,y.C2⟩:BJ))) hnd fun x hx=>by
   obtain ⟨y,hy,hp,hc,_⟩:=hE x hx
   unfold Gr.pr at hp
   simp only [Bool.or_eq_true,Bool.and_eq_true,decide_eq_true_eq] at hp
   rw [List.mem_append]
   obtain ⟨x1,x2,x3⟩:=x
   simp only at hp hc
   rcases hp with ⟨e1,e2⟩ | ⟨e1,e2⟩
   ·exact .inl (List.mem_map.2 ⟨y,hy,by rw [e1,e2,hc]⟩)
   ·exact .inr (List.mem_map.2 ⟨y,hy,by rw [e1,e2,hc]⟩)
  rw [List.length_append,List.length_map,List.length_map] at this
  have:=(Gr.Cv h).2.1
  omega
 ·obtain ⟨y,hy,hp,hc,h1,h2,h3,h4⟩:=hE x hx
  have r1:=Sk h h1
  refine ⟨?_, ?_⟩
  ·unfold Gr.Px
   simp only [Bool.and_eq_true,Bool.not_eq_true',decide_eq_false_iff_not]
   exact ⟨⟨⟨h3,any_mem (hN2 _ h1)⟩,any_mem (hN2 _ h2)⟩,h4⟩
  ·simp only [Gr.YX,Bool.or_eq_true,Bool.and_eq_true,decide_eq_true_eq]
   left;show (0:Int) < x.B2;omega
/-! ### the graph of what is up -/
def jk (x:AX):AX:=⟨min x.A x.B,max x.A x.B,x.C2⟩
theorem pT (a b:Int)(x:AX):Gr.pr a b (jk x)=Gr.pr a b x:=by
 unfold Gr.pr jk
 rw [Bool.eq_iff_iff]
 simp only [Bool.or_eq_true,Bool.and_eq_true,decide_eq_true_eq]
 omega
theorem uO (x y:AX):Gr.pr (jk y).A (jk y).B x=Gr.pr y.A y.B x:=by
 unfold Gr.pr jk
 rw [Bool.eq_iff_iff]
 simp only [Bool.or_eq_true,Bool.and_eq_true,decide_eq_true_eq]
 omega
theorem nB (l:List AX)(a b:Int):Gr.Hj (l.map jk) a b=Gr.Hj l a b:=by
 unfold Gr.Hj
 rw [List.filter_map,List.map_map]
 have:(Gr.pr a b ∘ jk)=Gr.pr a b:=funext fun x=>pT a b x
 rw [this];rfl
theorem bW (R:List Int)(l:List AX)(n:Nat):Gr.CF R (l.map jk) n=Gr.CF R l n:=by
 unfold Gr.CF Gr.H8
 simp only [nB]
theorem uI (x:AX)(R:List Int):Gr.CX R (jk x)=Gr.CX R x:=by
 unfold Gr.CX jk
 have h:(min x.A x.B=x.A∧max x.A x.B=x.B)∨(min x.A x.B=x.B∧max x.A x.B=x.A):=by omega
 rcases h with ⟨e1,e2⟩ | ⟨e1,e2⟩
 ·simp only [e1,e2]
 ·simp only [e1,e2]
  rw [Bool.eq_iff_iff]
  simp only [Bool.and_eq_true,Bool.not_eq_true',decide_eq_false_iff_not]
  constructor
  ·rintro ⟨⟨⟨h1,h2⟩,h3⟩,h4⟩;exact ⟨⟨⟨fun e=>h1 e.symm,h3⟩,h2⟩,h4⟩
  ·rintro ⟨⟨⟨h1,h2⟩,h3⟩,h4⟩;exact ⟨⟨⟨fun e=>h1 e.symm,h3⟩,h2⟩,h4⟩
theorem pG:∀(l done:List Int),(∀n∈l,Gr.BH n=true)→(done ++ l).Nodup→Gr.UC done l=true
 | [],_,_,_=>rfl
 |n :: l,done,h,hd=>by
  have e:done ++ n :: l=(done ++ [n]) ++ l:=by simp
  have hn:done.any (Gr.FQ n)=false:=by
   rw [List.any_eq_false]
   intro x hx hc
   simp only [Gr.FQ,decide_eq_true_eq] at hc
   subst hc
   exact (List.nodup_append.1 hd).2.2 x hx x (by simp) rfl
  unfold Gr.UC
  rw [h n (by simp),hn,pG l (done ++ [n]) (fun x hx=>h x (by simp [hx])) (by rw [←e];exact hd)];rfl
section
variable {k:Nat} {s:Ak} {t:As}
theorem Cj.down (h:Cj s t):Gz s=DW t:=by
 unfold Gz DW
 rw [h.R]
 exact Gr.KI fun a ha=>by unfold Nc;rw [h.S a (h.rt a ha)]
theorem Oa (t:As)(a b:Int)(h:Cj s t):Mz t a b=Mz t b a:=by
 rw [←h.up,←h.up]
 unfold GQ DX
 have:pk a b=pk b a:=by unfold pk;rw [Int.min_comm,Int.max_comm]
 rw [this]
 cases (BV s.S a).getD false <;> cases (BV s.S b).getD false <;> simp
theorem VU (s:Ak)(t:As)(hu:∀a b,GQ s a b=Mz t a b)(hc:∀a b,Mz t a b=Mz t b a):∀(l:List AX) (k:Nat),Gn s (J3 k l)=(l.filter fun x=>Mz t x.A x.B).map jk
 | [],_=>rfl
 |x :: l,k=>by
  have ih:=VU s t hu hc l (k+1)
  unfold J3
  unfold Gn at ih ⊢
  have e:upE s (pk x.A x.B,x.C2,k)=Mz t x.A x.B:=by
   unfold upE
   rw [hu]
   show Mz t (min x.A x.B) (max x.A x.B)=_
   have h:(min x.A x.B=x.A∧max x.A x.B=x.B)∨(min x.A x.B=x.B∧max x.A x.B=x.A):=by omega
   rcases h with ⟨e1,e2⟩ | ⟨e1,e2⟩
   ·rw [e1,e2]
   ·rw [e1,e2,hc]
  rw [List.filter_cons,List.filter_cons,e]
  split
  ·rw [List.map_cons,List.map_cons,ih];rfl
  ·exact ih
theorem Cj.j0 (h:Cj s t):j0 s=(Lh t).map jk:=by
 unfold Dm.j0 Lh
 rw [h.L]
 exact VU s t h.up (fun a b=>Oa t a b h) t.l 0
theorem Cj.SK (h:Cj s t):Gr.DS (DW t) (Lh t)=0:=by
 have hg:=Gr.Cv h.ok
 have hlk:=h.lk
 refine XX (pG _ [] (fun n hn=> ?_) ?_) (Nat.le_trans (List.length_filter_le _ _) hg.2.1) ⟨fun x hx=> ?_,hlk.ne.filter _⟩
 ·exact Gr.KA t.R [] hg.1 n (List.mem_filter.1 hn).1
 ·rw [List.nil_append]
  exact (Pa t.R [] hg.1 List.nodup_nil).filter _
 ·obtain ⟨hx1,hx2⟩:=List.mem_filter.1 hx
  have hok:=hlk.ok x hx1
  have hup:Mz t x.A x.B=true:=by simpa using hx2
  unfold Gr.CX at hok ⊢
  simp only [Bool.and_eq_true] at hok ⊢
  obtain ⟨⟨⟨h1,h2⟩,h3⟩,h4⟩:=hok
  have hst:Nc t x.A=false∧Nc t x.B=false:=by
   unfold Mz at hup
   split at hup
   ·simp only [Bool.and_eq_true,Bool.not_eq_true'] at hup
    exact ⟨hup.2.1,hup.2.2⟩
   ·cases hup
  have key:∀ {n:Int},t.R.any (Gr.FQ n)=true→Nc t n=false→(DW t).any (Gr.FQ n)=true:=fun {n} hn hs=>by
   obtain ⟨y,hy,e⟩:=List.any_eq_true.1 hn
   have e':=e
   simp only [Gr.FQ,decide_eq_true_eq] at e'
   subst e'
   exact List.any_eq_true.2 ⟨y,List.mem_filter.2 ⟨hy,by rw [hs];rfl⟩,e⟩
  exact ⟨⟨⟨h1,key h2 hst.1⟩,key h3 hst.2⟩,h4⟩
theorem VB:∀(l:List AX) (k:Nat),((J3 k l).map (·.2.2))=List.range' k l.length
 | [],_=>rfl
 |x :: l,k=>by
  unfold J3
  rw [List.map_cons,VB l (k+1),List.length_cons,List.range'_succ]
theorem Cj.Pw (h:Cj s t):dP s:=by
 have hb:=VB t.l 0
 rw [←h.L] at hb
 refine ⟨by rw [hb];exact List.nodup_range',fun e he=> ?_, ?_, ?_⟩
 ·have:e.2.2∈s.L.map (·.2.2):=List.mem_map.2 ⟨e,he,rfl⟩
  rw [hb,List.mem_range'_1] at this
  rw [h.lc];omega
 ·rw [h.down,h.j0]
  have hg:=Gr.Cv h.SK
  have hl:=Gr.Fb hg.2.2
  refine XX hg.1 (by rw [List.length_map];exact hg.2.1) ⟨fun x hx=> ?_, ?_⟩
  ·obtain ⟨y,hy,rfl⟩:=List.mem_map.1 hx
   rw [uI];exact hl.ok y hy
  ·rw [List.pairwise_map]
   exact hl.ne.imp fun {x y} h=>by rw [uO,pT];exact h
 ·have:(s.L.map (·.2.2)).length=t.l.length:=by rw [hb,List.length_range']
  rw [List.length_map] at this
  have:=(Gr.Cv h.ok).2.1
  omega
theorem Cj.ADv (h:Cj s t):Gr.Cs (Gz s) 25=DC t∧Gr.CF (Gz s) (Dm.j0 s) 25=C7 t:=by
 unfold DC C7 Gr.nO Gr.eO
 rw [if_pos h.SK,if_pos h.SK,h.down,h.j0,bW]
 exact ⟨rfl,rfl⟩
theorem Cj.rn (h:Cj s t):t.R.length≤24:=RU h.ok
/-! ### Near -/
theorem xM (h:Cj s t)(a b:Int):(Lh t).any (Gr.pr a b)=Mz t a b:=by
 rw [Bool.eq_iff_iff]
 constructor
 ·intro hc
  obtain ⟨x,hx,hp⟩:=List.any_eq_true.1 hc
  obtain ⟨_,h2⟩:=List.mem_filter.1 hx
  have h3:Mz t x.A x.B=true:=by simpa using h2
  unfold Gr.pr at hp
  simp only [Bool.or_eq_true,Bool.and_eq_true,decide_eq_true_eq] at hp
  rcases hp with ⟨e1,e2⟩ | ⟨e1,e2⟩
  ·rw [←e1,←e2];exact h3
  ·rw [←e1,←e2,Oa t _ _ h];exact h3
 ·intro hc
  have ha:t.l.any (Gr.pr a b)=true:=by
   unfold Mz at hc
   split at hc
   ·assumption
   ·cases hc
  obtain ⟨x,hx,hp⟩:=List.any_eq_true.1 ha
  refine List.any_eq_true.2 ⟨x,List.mem_filter.2 ⟨hx, ?_⟩,hp⟩
  unfold Gr.pr at hp
  simp only [Bool.or_eq_true,Bool.and_eq_true,decide_eq_true_eq] at hp
  rcases hp with ⟨e1,e2⟩ | ⟨e1,e2⟩
  ·rw [e1,e2];exact hc
  ·rw [e1,e2,Oa t _ _ h];exact hc
theorem Oq {p:AX→Bool}{a b:Int}:∀ {l:List AX},(∀x∈l,Gr.pr a b x=true→p x=true)→Gr.Cq (l.filter p) a b=Gr.Cq l a b
 | [],_=>rfl
 |x :: l,h=>by
  have ih:=Oq (p:=p) (a:=a) (b:=b) (l:=l) fun y hy=>h y (List.mem_cons_of_mem _ hy)
  rw [List.filter_cons]
  by_cases c:Gr.pr a b x=true
  ·rw [if_pos (h x (List.mem_cons_self ..) c)]
   unfold Gr.Cq
   rw [if_pos c,if_pos c]
  ·split
   ·unfold Gr.Cq
    rw [if_neg c,if_neg c,ih]
   ·rw [ih]
    conv=>rhs;unfold Gr.Cq
    rw [if_neg c]
theorem sr (h:Cj s t)(a b:Int):Gr.Hj (Lh t) a b=if GQ s a b=true then [⟨a,b,DX s a b⟩] else []:=by
 rw [Gr.filter_one (Gr.Fb (Gr.Cv h.SK).2.2).ne,xM h,h.up]
 by_cases c:Mz t a b=true
 ·rw [if_pos c,if_pos c,h.cost]
  have:Gr.Cq (Lh t) a b=Gr.Cq t.l a b:=Oq fun x _ hp=>by
   show Mz t x.A x.B=true
   unfold Gr.pr at hp
   simp only [Bool.or_eq_true,Bool.and_eq_true,decide_eq_true_eq] at hp
   rcases hp with ⟨e1,e2⟩ | ⟨e1,e2⟩
   ·rw [e1,e2];exact c
   ·rw [e1,e2,Oa t _ _ h];exact c
  rw [this]
 ·rw [if_neg c,if_neg c]
theorem eJ {α β:Type}{p:α→Bool}{f:α→β}:∀l:List α,(l.flatMap fun x=>if p x=true then [f x] else [])=(l.filter p).map f
 | []=>rfl
 |x :: l=>by
  rw [List.flatMap_cons,eJ l,List.filter_cons]
  split <;> rfl
theorem F4 {α β:Type}[DecidableEq α]{f:α→List β}{a:α}:∀ {l:List α},l.Nodup→a∈l→(∀x∈l,x≠a→f x= [])→l.flatMap f=f a
 | [],_,h,_=>by cases h
 |x :: l,hn,h,hf=>by
  rw [List.flatMap_cons]
  rw [List.nodup_cons] at hn
  by_cases e:x=a
  ·subst e
   have:l.flatMap f= []:=by
    rw [List.flatMap_eq_nil_iff]
    exact fun y hy=>hf y (List.mem_cons_of_mem _ hy) fun e=>hn.1 (e ▸ hy)
   rw [this,List.append_nil]
  ·rw [hf x (List.mem_cons_self ..) e,List.nil_append]
   refine F4 hn.2 ?_ fun y hy=>hf y (List.mem_cons_of_mem _ hy)
   rcases List.mem_cons.1 h with h | h
   ·exact absurd h.symm e
   ·exact h
theorem Cj.Ik (h:Cj s t){a:Int}(ha:(DW t).any (Gr.FQ a)=true):Gr.Ik (C7 t) a=Hz s a 24:=by
 have hr:=Sk h.SK ha
 have hE:C7 t=Gr.CF (DW t) (Lh t) 25:=by unfold C7 Gr.eO;rw [if_pos h.SK]
 rw [hE]
 unfold Gr.Ik Gr.CF
 rw [List.filter_flatMap,List.map_flatMap]
 rw [F4 (a:=a.toNat) List.nodup_range (List.mem_range.2 (by omega)) fun x _ hx=>by
  split
  ·have:(Gr.H8 (Lh t) x 25).filter (fun y=>decide (y.B2=a))= []:=by
    rw [List.filter_eq_nil_iff]
    intro y hy
    unfold Gr.H8 at hy
    obtain ⟨b,_,hy⟩:=List.mem_flatMap.1 hy
    obtain ⟨_,_,_,rfl⟩:=Ko.1 hy
    simp only [decide_eq_true_eq]
    omega
   rw [this];rfl
  ·rfl]
 have ea:((a.toNat:Nat):Int)=a:=by omega
 rw [ea,if_pos ha]
 have hall:(Gr.H8 (Lh t) a.toNat 25).filter (fun y=>decide (y.B2=a))=Gr.H8 (Lh t) a.toNat 25:=by
  rw [List.filter_eq_self]
  intro y hy
  unfold Gr.H8 at hy
  obtain ⟨b,_,hy⟩:=List.mem_flatMap.1 hy
  obtain ⟨_,_,_,rfl⟩:=Ko.1 hy
  simp only [decide_eq_true_eq]
  exact ea
 rw [hall]
 unfold Gr.H8 Hz
 rw [List.map_flatMap,ea]
 have e1:(fun (b:Nat)=>(Gr.Hj (Lh t) a (b:Int)).map fun x=>(⟨x.To,x.C2⟩:Ej))=fun (b:Nat)=>if (GQ s a (b:Int))=true then [(⟨(b:Int),DX s a (b:Int)⟩:Ej)] else []:=funext fun b=>by
  rw [sr h]
  split <;> rfl
 rw [e1,show (25:Nat)=24+1 from rfl,List.range_succ_eq_map,List.flatMap_cons]
 have z:GQ s a ((0:Nat):Int)=false:=by
  rw [h.up]
  cases c:Mz t a ((0:Nat):Int) with
  |false=>rfl
  |true=>
   unfold Mz at c
   split at c
   ·rename_i c2
    have:=JE h.lr c2
    omega
   ·cases c
 rw [z,if_neg (by decide),List.nil_append,List.flatMap_map,eJ (p:=fun (j:Nat)=>GQ s a (((j+1:Nat)):Int)) (f:=fun (j:Nat)=>(⟨((j+1:Nat):Int),DX s a ((j+1:Nat):Int)⟩:Ej))]
 rfl
def L9 (s:Ak)(a:Int):List Ej:=if NK s a=true then Hz s a 24 else []
theorem AA2 (a x:Int):Gr.FQ a x=GR a x:=by
 unfold Gr.FQ GR
 rw [Bool.eq_iff_iff,decide_eq_true_eq,decide_eq_true_eq]
 exact ⟨fun h=>h.symm,fun h=>h.symm⟩
theorem bD (h:Cj s t){a:Int}(hs:D2 s a=true):Hz s a 24= []:=by
 unfold Hz
 have:((List.range 24).filter fun (j:Nat)=>GQ s a ((j:Int)+1))= []:=by
  rw [List.filter_eq_nil_iff]
  intro j _
  have e:(BV s.S a).getD false=true:=hs
  unfold GQ
  rw [e];simp
 rw [this];rfl
theorem Cj.PR (h:Cj s t){a:Int}(ha:t.R.any (GR a)=true)(hs:Aj t.st a.toNat=false):Gr.PR (DC t) (C7 t) a=Hz s a 24∧Gr.je (DC t) (C7 t) a=0:=by
 have hD:(DW t).any (Gr.FQ a)=true:=by
  obtain ⟨x,hx,hp⟩:=List.any_eq_true.1 ha
  have hp':=hp
  simp only [GR,decide_eq_true_eq] at hp'
  subst hp'
  refine List.any_eq_true.2 ⟨_,List.mem_filter.2 ⟨hx, ?_⟩,by rw [AA2];exact hp⟩
  unfold Nc;rw [hs];rfl
 have hN:(DC t).any (Gr.FQ a)=true:=by
  have hr:=Sk h.SK hD
  unfold DC Gr.nO
  rw [if_pos h.SK]
  unfold Gr.Cs
  refine List.any_eq_true.2 ⟨a,List.mem_map.2 ⟨a.toNat,List.mem_filter.2 ⟨List.mem_range.2 (by omega), ?_⟩,by omega⟩,by simp [Gr.FQ]⟩
  rw [Int.toNat_of_nonneg (by omega)];exact hD
 have hC:Gr.N1 (DC t) (C7 t)=true:=by
  have:=gG h.SK
  unfold DC C7 Gr.nO Gr.eO
  rw [if_pos h.SK,if_pos h.SK];exact this
 have hg:Gr.jl (DC t) (C7 t) a=true:=by unfold Gr.jl;rw [hC,hN];rfl
 unfold Gr.PR Gr.je
 rw [if_pos hg,if_pos hg]
 exact ⟨h.Ik hD,rfl⟩
end
theorem Ex.new {R:List Int}{l:List AX}{m:Fa.KG}{c:Nat}{late:Int}{u:List A8}(h:Gr.DS R l=0)(h1:¬late < 1)(h2:¬64 < late)(hp:Fa.Dw u= .ok m):Ex 0 (GV R l m c late) (Pm R l u late):=by
 obtain ⟨hu,hnd,hg⟩:=S5 hp
 have z:∀j:Nat,((List.replicate 625 (0:Int))[j]?).getD 0=0:=fun j=>by
  rw [List.getElem?_replicate];split <;> rfl
 refine ⟨Cj.new h,⟨rfl,List.length_replicate,fun j=> ?_,hnd,jc hp,fun a b n _ _ _=>hg a b n⟩,rfl,by show 1≤late;omega,by show late≤64;omega,rfl,by show (0:Int)≤0;omega,by show (0:Int)≤1099511627776;omega,rfl,List.Pairwise.nil,fun x hx=>(List.not_mem_nil hx).elim,by show (0:Int)≤0;omega,by show (0:Int)≤_;omega⟩
 show 0≤((List.replicate 625 (0:Int))[j]?).getD 0∧((List.replicate 625 (0:Int))[j]?).getD 0≤_
 rw [z];omega
end Go.Proofs.Ytmppehipfpkepaa.Dm
