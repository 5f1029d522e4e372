/- The numbers of a line. -/
import Derived.Test.YthlhnangbinhoaaGreatDoorSI
set_option linter.unusedVariables false
namespace Go.Proofs.YthlhnangbinhoaaGreatDoor.Dm
open Go.Dm
set_option maxHeartbeats 16000000
set_option maxRecDepth 20000
def Ck:List Int→Ec→Option (List Int)
 |xs, []=>some xs
 |xs,w :: l=>match HC w with
  |some n=>Ck (xs ++ [n]) l
  |none=>none
def CM (ws:Ec)(n:Int):Option (List Int):=if (ws.length:Int)=n then Ck [] ws else none
def NJ (ws:Ec)(n:Int)(top:Nat):(Value×A6×Nat) ⊕ (Value×A6×Nat):=match CM ws n with
 |some xs=> .inl (AA top xs, [(top,AD AL xs)],top+1)
 |none=> .inr (QA 12, [],top)
theorem pR {ws:Ec}{n:Int}{xs:List Int}{top:Nat}(h:CM ws n=some xs):NJ ws n top= .inl (AA top xs, [(top,AD AL xs)],top+1):=by unfold NJ;rw [h]
theorem bb {ws:Ec}{n:Int}{top:Nat}(h:CM ws n=none):NJ ws n top= .inr (QA 12, [],top):=by unfold NJ;rw [h]
def Oj(ws:Ec):Prop:=ws.length≤1000000∧∀w∈ws,w.length≤1000000
def Iw:BE:= .pan (fun args hp _=>match args with | [v, .int .i64 _]=>Dy AB hp v∧Oj (AB.rd hp v)∧C8 hp | _=>False) (fun args hp top=>match args with | [v,n]=>NJ (AB.rd hp v) (intOf n) top | _=> .inr (undef, [],top))
def nE:FuncId→BE:=BV Vq 15 WI
theorem N3:Bp Tryz.prog tt.get nE:=Df.add AAp
theorem fu:nE 37=Bx:=rfl
theorem fv:nE 75=L3:=rfl
def qd (hp:Hp)(top:Nat)(v:Value)(ws:Ec)(x:List Int×Nat):SS:=⟨[(5,AA top x.1,true),(13,v,true),(14, .int .i64 (ws.length:Int),true),(15, .int .i64 (x.2:Int),true)],hp.Ac [(top,AD AL x.1)],top+1⟩
theorem pS:Ag Tryz.prog 78 Iw:=by
 refine .PD a7 ?_
 intro args hp top hpre hcl hsc
 match args,hpre with
 | [v, .int .i64 n],⟨⟨ws,h⟩,hW,hv⟩=>
 have hs:=h.low hcl
 have ht5:=Em hcl hv
 simp only [h.rd,intOf_int] at hW ⊢
 refine D4.Af Am a7 rfl 26 rfl [.tmp 4] rfl (show 2≤26 by decide) ?_
 by_cases c:(ws.length:Int)=n
 case neg=>
  rw [bb (by unfold CM;rw [if_neg c])]
  refine CW.vc N3 [0,1,4,5,7,13,14,15,16] (by kernel_rfl) ?_
  (repeat ((try refine Vc.mk' ?_);simp (maxSteps:=6000000) only [go_sem,CC h,c,decide_false,fu,Bx,EU]))
  (refine ⟨[],by simp,by simp,by simp, ?_, ?_, ?_⟩ <;> simp [])
 have hO:CM ws n=Ck [] ws:=by unfold CM;rw [if_pos c]
 refine CW.vc N3 [0,1,4,5,7,13,14,15,16] (by kernel_rfl) ?_
 (repeat ((try refine Vc.mk' ?_);simp (maxSteps:=6000000) only [go_sem,CC h,c,decide_true,fu,Bx,Fs]))
 subst c
 refine CW.Bc (qd hp top v ws) (fun x=>x.2≤ws.length∧x.1.length=x.2∧Ck [] ws=Ck x.1 (ws.drop x.2)) (fun x=>ws.length - x.2) ([],0) ⟨Nat.zero_le _,rfl,rfl⟩ ?_ ?_
 ·exact (by refine Al.mk' [top] hcl (by simp) (by simp) rfl (AF ?_) ?_ ?_ <;> simp [Sc.Ao (fun j hj=>AE hj) hs,DD,Dp])
 ·rintro ⟨xs,k⟩ ⟨hk,hx,hrun⟩
  replace hk:k≤ws.length:=hk
  replace hx:xs.length=k:=hx
  replace hrun:Ck [] ws=Ck xs (ws.drop k):=hrun
  have hWl:=hW.1
  by_cases hlt:k < ws.length
  ·have l1:((k:Int) < (ws.length:Int)):=by omega
   have kk:Ad .i64 ((k:Int)+1)=((k+1:Nat):Int):=Ae hlt (by omega)
   rw [Kk hlt] at hrun
   have hwl:=hW.2 (at' ws k) (by rw [BS _ _ hlt];exact List.getElem_mem hlt)
   have w1:((at' ws k).length≤281474976710656)=True:=eq_true (by omega)
   cases hn:HC (at' ws k) with
   |none=>
    have e:CM ws (ws.length:Int)=none:=by rw [hO,hrun];show (match HC (at' ws k) with | some n=>_ | none=>none)=none;rw [hn]
    have hu:∀t,Pb (at' ws k) t= .inr (QA 12, [],t):=fun t=>by unfold Pb;rw [hn]
    rw [bb e]
    refine CW.vc N3 [0,1,4,5,7,13,14,15,16] (by kernel_rfl) ?_
    (repeat ((try refine Vc.mk' ?_);simp (maxSteps:=6000000) only [go_sem,qd,Bo h,B9 h,Ab hs,l1,hlt,fv,L3,w1,hv,CR ht5,hu]))
    (refine ⟨[],by simp,by simp,by simp, ?_, ?_, ?_⟩ <;> simp [])
   |some n=>
    have hr2:Ck [] ws=Ck (xs ++ [n]) (ws.drop (k+1)):=by rw [hrun];show (match HC (at' ws k) with | some n=>_ | none=>none)=_;rw [hn]
    have hu:∀t,Pb (at' ws k) t= .inl (.int .i64 n, [],t):=fun t=>by unfold Pb;rw [hn]
    have hap:∀ {h':Hp} {q t:Nat},h' top=AD AL xs→h' q=some (.cells true 1 [.int .i64 n])→AK tt.get h' t [68,68] (AA top xs) (.slice (some ⟨q,0,none⟩) 1 1)=some (AA t (xs ++ [n]),Bu top xs t (AD AL (xs ++ [n])),t+1):=fun {h'} {q} {t} a1 a2=>by
     have e3:cellsOf (h' q)=AL.enc n:=by rw [a2];rfl
     have:=IA (hp:=h') (b:=top) (top:=t) (k:=q) a1 (by rw [e3];exact a2) (by rw [e3,AL.h]) (CO (by omega) (by decide))
     rwa [e3,AL.h] at this
    refine CW.vc N3 [0,1,4,5,7,13,14,15,16] (by kernel_rfl) ?_
    (repeat ((try refine Vc.mk' ?_);simp (maxSteps:=6000000) only [go_sem,qd,Bo h,B9 h,Ab hs,l1,hlt,kk,fv,L3,w1,hv,CR ht5,hu,hap]))
    refine .mk (xs ++ [n],k+1) ⟨hlt,by show (xs ++ [n]).length=k+1;rw [List.length_append,hx];rfl,hr2⟩ (by show ws.length - (k+1) < ws.length - k;omega) ((by refine Al.mk' [top+2] hcl (by simp) (by simp) rfl (AF ?_) ?_ ?_ <;> simp [Sc.Ao (fun j hj=>AE hj) hs,Av,Ai]))
  ·have hk2:k=ws.length:=by omega
   subst hk2
   have l1:¬((ws.length:Int) < (ws.length:Int)):=by omega
   have e:CM ws (ws.length:Int)=some xs:=by rw [hO,hrun,List.drop_length];rfl
   rw [pR e]
   refine CW.vc N3 [0,1,4,5,7,13,14,15,16] (by kernel_rfl) ?_
   (repeat ((try refine Vc.mk' ?_);simp (maxSteps:=6000000) only [go_sem,qd,l1,decide_false]))
   (refine ⟨[top],by simp,by simp,by simp, ?_, ?_, ?_⟩ <;> simp [Av,Ai])
end Go.Proofs.YthlhnangbinhoaaGreatDoor.Dm
set_option linter.unusedVariables false
namespace Go.Proofs.YthlhnangbinhoaaGreatDoor.Dm
open Go.Dm
set_option maxHeartbeats 64000000
set_option maxRecDepth 20000
structure BW where
 W:Int
 A:Int
 T:Int
 L:Int
 R:List CF
 K:List AQ
 U:List Aq
structure cm where
 ch:Nat
 S:BW
 now:Option Int
def DM(now last:Int):Option Int:=if last≤now∧(now=1 ↔ last=0)then some now else none
def OD (ws:Ec):Bool:=decide (ws.length=3) && decide (at' ws 2= [105,110,103,114,101,115,115])
def C9 (S:BW)(w:List UInt8)(ws:Ec)(last:Int):cm:=
 if w= [119,111,114,108,100] then
  if last=0 then match CM ws 4 with
   |some xs=>⟨1, {S with W:=at' xs 0,A:=at' xs 1,T:=at' xs 2,L:=at' xs 3},DM 1 last⟩
   |none=>⟨0,S,none⟩
  else ⟨0,S,none⟩
 else if w= [114,111,117,116,101,114] then match CM (if OD ws=true then ws.take 2 else ws) 2 with
  |some xs=>⟨2, {S with R:=S.R ++ [⟨at' xs 0,at' xs 1,OD ws⟩]},DM 2 last⟩
  |none=>⟨0,S,none⟩
 else if w= [108,105,110,107] then match CM ws 3 with
  |some xs=>⟨3, {S with K:=S.K ++ [⟨at' xs 0,at' xs 1,at' xs 2⟩]},DM 3 last⟩
  |none=>⟨0,S,none⟩
 else if w= [100,114,111,112] then match CM ws 3 with
  |some xs=>⟨4, {S with U:=S.U ++ [⟨at' xs 0,at' xs 1,at' xs 2,1,0⟩]},DM 4 last⟩
  |none=>⟨0,S,none⟩
 else if w= [100,111,117,98,108,101] then match CM ws 4 with
  |some xs=>⟨4, {S with U:=S.U ++ [⟨at' xs 0,at' xs 1,at' xs 2,2,at' xs 3⟩]},DM 4 last⟩
  |none=>⟨0,S,none⟩
 else if w= [100,101,108,97,121] then match CM ws 4 with
  |some xs=>⟨4, {S with U:=S.U ++ [⟨at' xs 0,at' xs 1,at' xs 2,3,at' xs 3⟩]},DM 4 last⟩
  |none=>⟨0,S,none⟩
 else ⟨0,S,none⟩
def Cs (hp:Hp)(b i:Nat):Value:=match hp b with
 |some (.cells _ _ vs)=>(vs[i]?).getD undef
 |_=>undef
def Jm (v:Value)(d:Nat):Nat:=match v with
 | .slice (some ⟨b,_,_⟩) _ _=>b
 |_=>d
def qJ (hp:Hp)(b:Nat):BW:=⟨intOf (Cs hp b 0),intOf (Cs hp b 1),intOf (Cs hp b 2),intOf (Cs hp b 3),AU.rd hp (Cs hp b 4),AP.rd hp (Cs hp b 5),AO.rd hp (Cs hp b 6)⟩
def Cb (S:BW)(r k u ov:Value):Option A8:=some (.cells true 0 [.int .i64 S.W, .int .i64 S.A, .int .i64 S.T, .int .i64 S.L,r,k,u,ov])
def SP (hp:Hp)(b top:Nat)(x:cm):A6:=match x.ch with
 |0=> []
 |1=> [(b,Cb x.S (Cs hp b 4) (Cs hp b 5) (Cs hp b 6) (Cs hp b 7))]
 |2=> [(Jm (Cs hp b 4) top,none),(top,AD AU x.S.R),(b,Cb x.S (AA top x.S.R) (Cs hp b 5) (Cs hp b 6) (Cs hp b 7))]
 |3=> [(Jm (Cs hp b 5) top,none),(top,AD AP x.S.K),(b,Cb x.S (Cs hp b 4) (AA top x.S.K) (Cs hp b 6) (Cs hp b 7))]
 |_=> [(Jm (Cs hp b 6) top,none),(top,AD AO x.S.U),(b,Cb x.S (Cs hp b 4) (Cs hp b 5) (AA top x.S.U) (Cs hp b 7))]
def SO(top:Nat)(x:cm):Nat:=match x.ch with
 |0=>top
 |1=>top
 |_=>top+1
def Hs (hp:Hp)(b top:Nat)(x:cm):(Value×A6×Nat) ⊕ (Value×A6×Nat):=match x.now with
 |some n=> .inl (.int .i64 n,SP hp b top x,SO top x)
 |none=> .inr (QA 12,SP hp b top x,SO top x)
structure Vv (hp:Hp) (b:Nat) (S:BW) (r k u:Nat) (ov:Value):Prop where
 h:hp b=Cb S (AA r S.R) (AA k S.K) (AA u S.U) ov
 R:hp r=AD AU S.R
 K:hp k=AD AP S.K
 U:hp u=AD AO S.U
 rb:r≠b
 kb:k≠b
 ub:u≠b
 rl:S.R.length≤1000000
 kl:S.K.length≤1000000
 ul:S.U.length≤1000000
 o1:ov.oneCell' = true
 o2:Ar ov= [ov]
theorem Vv.s {hp:Hp}{b r k u:Nat}{S:BW}{ov:Value}(h:Vv hp b S r k u ov):qJ hp b=S:=by
  have e:hp b=some (.cells true 0 [.int .i64 S.W, .int .i64 S.A, .int .i64 S.T, .int .i64 S.L,AA r S.R,AA k S.K,AA u S.U,ov]):=h.h
  have h1:AU.rd hp (AA r S.R)=S.R:=KV h.R (by have:=h.rl;omega)
  have h2:AP.rd hp (AA k S.K)=S.K:=KV h.K (by have:=h.kl;omega)
  have h3:AO.rd hp (AA u S.U)=S.U:=KV h.U (by have:=h.ul;omega)
  simp [qJ,Cs,e,h1,h2,h3]
def UM:BE:= .pan (fun args hp top=>match args with | [.pointer (some ⟨b,0,none⟩), .string ⟨⟨s⟩⟩, .int .i64 _]=>(∃S r k u ov,Vv hp b S r k u ov∧r < top∧k < top∧u < top)∧s.length≤100000∧C8 hp | _=>False)
 (fun args hp top=>match args with | [.pointer (some ⟨b,_,_⟩),s,last]=>Hs hp b top (C9 (qJ hp b) (at' (Bl (strOf s)) 0) ((Bl (strOf s)).drop 1) (intOf last)) | _=> .inr (undef, [],top))
theorem IV:∀ {ws:Ec}{xs ys:List Int},Ck xs ws=some ys→ys.length=xs.length+ws.length
 | [],xs,ys,h=>by cases h;rfl
 |w :: l,xs,ys,h=>by
  unfold Ck at h
  split at h
  ·rw[IV h];simp;omega
  ·cases h
theorem TS{ws:Ec}{n:Int}{xs:List Int}(h:CM ws n=some xs):(xs.length:Int)=n:=by
 unfold CM at h
 split at h
 ·rename_i c;rw[IV h];simpa using c
 ·cases h
theorem nY {α:Type}{b d:Nat}{l:List α}(h:l≠ []):Jm (AA b l) d=b:=by
 cases l with
 |nil=>exact absurd rfl h
 |cons a l=>rfl
def fw:FuncId→BE:=BV nE 78 Iw
theorem L8:Bp Tryz.prog tt.get fw:=N3.add pS
theorem Nk:fw 73=EE:=rfl
theorem QF:fw 37=Bx:=rfl
theorem Ty:fw 78=Iw:=rfl
theorem Jk {h':Hp}{b q t:Nat}{l:List CF}(hl:l.length≤1000000)(a1:h' b=AD AU l){el:CF}(a2:h' q=some (.cells true 3 (AU.enc el))):AK tt.get h' t [22,22] (AA b l) (.slice (some ⟨q,0,none⟩) 1 1)=some (AA t (l ++ [el]),Bu b l t (AD AU (l ++ [el])),t+1):=by
 have e3:cellsOf (h' q)=AU.enc el:=by rw [a2];rfl
 have:=YI (hp:=h') (b:=b) (top:=t) (k:=q) a1 (by rw [e3];exact a2) (by rw [e3,AU.h]) (CO (by omega) (by decide))
 rwa [e3,AU.h] at this
theorem V8 {h':Hp}{b q t:Nat}{l:List AQ}(hl:l.length≤1000000)(a1:h' b=AD AP l){el:AQ}(a2:h' q=some (.cells true 3 (AP.enc el))):AK tt.get h' t [23,23] (AA b l) (.slice (some ⟨q,0,none⟩) 1 1)=some (AA t (l ++ [el]),Bu b l t (AD AP (l ++ [el])),t+1):=by
 have e3:cellsOf (h' q)=AP.enc el:=by rw [a2];rfl
 have:=YJ (hp:=h') (b:=b) (top:=t) (k:=q) a1 (by rw [e3];exact a2) (by rw [e3,AP.h]) (CO (by omega) (by decide))
 rwa [e3,AP.h] at this
theorem IB {h':Hp}{b q t:Nat}{l:List Aq}(hl:l.length≤1000000)(a1:h' b=AD AO l){el:Aq}(a2:h' q=some (.cells true 5 (AO.enc el))):AK tt.get h' t [24,24] (AA b l) (.slice (some ⟨q,0,none⟩) 1 1)=some (AA t (l ++ [el]),Bu b l t (AD AO (l ++ [el])),t+1):=by
 have e3:cellsOf (h' q)=AO.enc el:=by rw [a2];rfl
 have:=YK (hp:=h') (b:=b) (top:=t) (k:=q) a1 (by rw [e3];exact a2) (by rw [e3,AO.h]) (CO (by omega) (by decide))
 rwa [e3,AO.h] at this
theorem Gt {α:Type}(b:Nat)(l:List α):((∀t o,Bu b l t o= [(t,o)])∧∀t,Jm (AA b l) t=t)∨((∀t o,Bu b l t o= [(b,none),(t,o)])∧∀t,Jm (AA b l) t=b):=by
 cases l with
 |nil=>exact .inl ⟨fun _ _=>rfl,fun _=>rfl⟩
 |cons a l=>exact .inr ⟨fun _ _=>rfl,fun _=>rfl⟩
theorem Yd (last:Int){n:Int}(h:1 < n):(DM n last=none∧(n < last)=True∧(n < last)=True)∨(DM n last=none∧(n < last)=False∧(last=0)=True)∨(DM n last=some n∧(n < last)=False∧(last=0)=False):=by
 by_cases d1:last≤n
 ·by_cases d2:last=0
  ·exact .inr (.inl ⟨by simp [DM,d2];omega,eq_false (by omega),eq_true d2⟩)
  ·exact .inr (.inr ⟨by simp [DM,d1,d2];omega,eq_false (by omega),eq_false d2⟩)
 ·exact .inl ⟨by simp [DM,d1],eq_true (by omega),eq_true (by omega)⟩
theorem u8n:((119:UInt8)=114)=False∧((114:UInt8)=119)=False∧((119:UInt8)=108)=False∧((108:UInt8)=119)=False∧((119:UInt8)=100)=False∧((100:UInt8)=119)=False∧((114:UInt8)=108)=False∧((108:UInt8)=114)=False∧((114:UInt8)=100)=False∧((100:UInt8)=114)=False∧((108:UInt8)=100)=False∧((100:UInt8)=108)=False∧((111:UInt8)=114)=False∧((114:UInt8)=111)=False∧((101:UInt8)=114)=False∧((114:UInt8)=101)=False∧((101:UInt8)=111)=False∧((111:UInt8)=101)=False:=by simp
theorem AEQ(a b:Prop):(a∧b)∨(a∧¬b)∨¬a:=by by_cases a <;> by_cases b <;> simp[*]
theorem six(w:List UInt8):w= [119,111,114,108,100]∨w= [114,111,117,116,101,114]∨w= [108,105,110,107]∨w= [100,114,111,112]∨w= [100,111,117,98,108,101]∨w= [100,101,108,97,121]∨((w= [119,111,114,108,100])=False∧(w= [114,111,117,116,101,114])=False∧(w= [108,105,110,107])=False∧(w= [100,114,111,112])=False∧(w= [100,111,117,98,108,101])=False∧(w= [100,101,108,97,121])=False):=by
 simp only[eq_iff_iff,iff_false]
 by_cases h1:w= [119,111,114,108,100] <;> by_cases h2:w= [114,111,117,116,101,114] <;> by_cases h3:w= [108,105,110,107] <;> by_cases h4:w= [100,114,111,112] <;> by_cases h5:w= [100,111,117,98,108,101] <;> by_cases h6:w= [100,101,108,97,121] <;> simp only[h1,h2,h3,h4,h5,h6,true_or,or_true,and_self,not_false_eq_true]
theorem wj : Ag Tryz.prog 39 UM := by
  refine .PD aS ?_
  intro args hp top hpre hcl hsc
  match args, hpre with
  | [.pointer (some ⟨b, 0, none⟩), .string ⟨⟨s⟩⟩, .int .i64 last], ⟨⟨S, r, k, u, ov, HS, hr, hk, hu⟩, hs, hv⟩ =>
  have ht5 := Em hcl hv
  have hv0 := hv
  obtain ⟨_, ⟨ml, hml⟩, _, _⟩ := hv0
  simp only [AH, intOf_int, HS.s]
  have hb : hp b = some (.cells true 0 [.int .i64 S.W, .int .i64 S.A, .int .i64 S.T, .int .i64 S.L, AA r S.R, AA k S.K, AA u S.U, ov]) := HS.h
  have hbt := hcl.lt _ _ hb
  have c4 : Cs hp b 4 = AA r S.R := by simp [Cs, hb]
  have c5 : Cs hp b 5 = AA k S.K := by simp [Cs, hb]
  have c6 : Cs hp b 6 = AA u S.U := by simp [Cs, hb]
  have c7 : Cs hp b 7 = ov := by simp [Cs, hb]
  have hsR : Sc top (AA r S.R) := by have := hcl.sc _ _ hb; exact this.2.2.2.2.1
  have hsK : Sc top (AA k S.K) := by have := hcl.sc _ _ hb; exact this.2.2.2.2.2.1
  have hsU : Sc top (AA u S.U) := by have := hcl.sc _ _ hb; exact this.2.2.2.2.2.2.1
  have hsV : Sc top ov := by have := hcl.sc _ _ hb; exact this.2.2.2.2.2.2.2.1
  have hne := Kc s
  have hsl : 1 ≤ (Bl s).length := by
    cases h : Bl s with
    | nil => exact absurd h hne
    | cons a l => simp
  have hn0 := K9 s
  have hmx : (∃ m, hp 2 = some (Pc 1 (.int .i64 m))) = True := eq_true ⟨ml, hml⟩
  have hs4 : (s.length < 4294967281) = True := eq_true (by omega)
  have t2 : 2 < top := by omega
  have nbr : ¬ b = r := fun e => HS.rb e.symm
  have nbk : ¬ b = k := fun e => HS.kb e.symm
  have nbu : ¬ b = u := fun e => HS.ub e.symm
  have hW : ∀ {h' : Hp}, h' top = AD AB (Bl s) → BF AB h' (AA top (Bl s)) (Bl s) := fun e => BF.DK e (by omega)
  obtain ⟨h0, hm0⟩ : ∃ h0 : Hp, h0 top = AD AB (Bl s) := ⟨fun i => if i = top then AD AB (Bl s) else none, by simp⟩
  have ix0 : AZ tt.get 67 (AA top (Bl s)) (.int .i64 0) = (Ah (AA top (Bl s)) 0, True) := by
    have := Bo (hW hm0) (k := .i64) (n := 0) (by decide) (by omega)
    simpa using this
  have ld0 : ∀ {h' : Hp}, h' top = AD AB (Bl s) → BN tt.get h' 9 (Ah (AA top (Bl s)) 0) = (.string ⟨⟨at' (Bl s) 0⟩⟩, True) := fun e => B9 (hW e) (i := 0) (by omega)
  have sl1 : ∀ {h' : Hp}, h' top = AD AB (Bl s) → B5 tt.get h' 67 (AA top (Bl s)) (some (.int .i64 1)) none = (vR top (Bl s).length 1, True) := fun {h'} e => by
    have := HF (hW e) (k := .i64) (n := 1) (by decide) (by omega)
    rw [this, U9 hne]
    simp only [show (1 : Int).toNat = 1 from rfl]
    rw [P7 (by omega)]
  have hS : ∀ {h' : Hp}, h' top = AD AB (Bl s) → BF AB h' (vR top (Bl s).length 1) ((Bl s).drop 1) := fun e => mH e hne (by omega) (by omega)
  have hWd : Oj ((Bl s).drop 1) := ⟨by rw [List.length_drop]; omega, fun w hw => by have := JL s w (List.mem_of_mem_drop hw); omega⟩
  generalize hws : (Bl s).drop 1 = ws at hS hWd
  generalize hw : at' (Bl s) 0 = w at ld0
  have sL' : ∀ {h' : Hp}, Bv tt.get h' 67 (vR top (Bl s).length 1) = (.int .i64 (ws.length : Int), True) := CC (hS hm0)
  have nP : ∀ {h' : Hp}, h' top = AD AB (Bl s) → Dy AB h' (vR top (Bl s).length 1) = True := fun e => (hS e).P
  have nR : ∀ {h' : Hp}, h' top = AD AB (Bl s) → AB.rd h' (vR top (Bl s).length 1) = ws := fun e => (hS e).rd
  have nW : Oj ws = True := eq_true hWd
  have ix_0 : ∀ {t : Nat} {xs : List Int}, (xs.length : Int) ≤ 4 → (0 : Int) < (xs.length : Int) → AZ tt.get 68 (AA t xs) (.int .i64 0) = (Ah (AA t xs) 0, True) := fun {t} {xs} h4 hi => by
    simpa using Ct (BF.DK (hp := fun j => if j = t then AD AL xs else none) (b := t) (E := AL) (l := xs) (by simp) (by omega)) (k := .i64) (n := 0) (by omega) (by omega)
  have ld_0 : ∀ {h' : Hp} {t : Nat} {xs : List Int}, (xs.length : Int) ≤ 4 → (0 : Int) < (xs.length : Int) → h' t = AD AL xs → BN tt.get h' 3 (Ah (AA t xs) 0) = (.int .i64 (at' xs 0), True) := fun {h'} {t} {xs} h4 hi e => Dh (BF.DK e (by omega)) (i := 0) (by omega)
  have ix_1 : ∀ {t : Nat} {xs : List Int}, (xs.length : Int) ≤ 4 → (1 : Int) < (xs.length : Int) → AZ tt.get 68 (AA t xs) (.int .i64 1) = (Ah (AA t xs) 1, True) := fun {t} {xs} h4 hi => by
    simpa using Ct (BF.DK (hp := fun j => if j = t then AD AL xs else none) (b := t) (E := AL) (l := xs) (by simp) (by omega)) (k := .i64) (n := 1) (by omega) (by omega)
  have ld_1 : ∀ {h' : Hp} {t : Nat} {xs : List Int}, (xs.length : Int) ≤ 4 → (1 : Int) < (xs.length : Int) → h' t = AD AL xs → BN tt.get h' 3 (Ah (AA t xs) 1) = (.int .i64 (at' xs 1), True) := fun {h'} {t} {xs} h4 hi e => Dh (BF.DK e (by omega)) (i := 1) (by omega)
  have ix_2 : ∀ {t : Nat} {xs : List Int}, (xs.length : Int) ≤ 4 → (2 : Int) < (xs.length : Int) → AZ tt.get 68 (AA t xs) (.int .i64 2) = (Ah (AA t xs) 2, True) := fun {t} {xs} h4 hi => by
    simpa using Ct (BF.DK (hp := fun j => if j = t then AD AL xs else none) (b := t) (E := AL) (l := xs) (by simp) (by omega)) (k := .i64) (n := 2) (by omega) (by omega)
  have ld_2 : ∀ {h' : Hp} {t : Nat} {xs : List Int}, (xs.length : Int) ≤ 4 → (2 : Int) < (xs.length : Int) → h' t = AD AL xs → BN tt.get h' 3 (Ah (AA t xs) 2) = (.int .i64 (at' xs 2), True) := fun {h'} {t} {xs} h4 hi e => Dh (BF.DK e (by omega)) (i := 2) (by omega)
  have ix_3 : ∀ {t : Nat} {xs : List Int}, (xs.length : Int) ≤ 4 → (3 : Int) < (xs.length : Int) → AZ tt.get 68 (AA t xs) (.int .i64 3) = (Ah (AA t xs) 3, True) := fun {t} {xs} h4 hi => by
    simpa using Ct (BF.DK (hp := fun j => if j = t then AD AL xs else none) (b := t) (E := AL) (l := xs) (by simp) (by omega)) (k := .i64) (n := 3) (by omega) (by omega)
  have ld_3 : ∀ {h' : Hp} {t : Nat} {xs : List Int}, (xs.length : Int) ≤ 4 → (3 : Int) < (xs.length : Int) → h' t = AD AL xs → BN tt.get h' 3 (Ah (AA t xs) 3) = (.int .i64 (at' xs 3), True) := fun {h'} {t} {xs} h4 hi e => Dh (BF.DK e (by omega)) (i := 3) (by omega)
  have ix2 : (ws.length : Int) = 3 → AZ tt.get 67 (vR top (Bl s).length 1) (.int .i64 2) = (Ah (vR top (Bl s).length 1) 2, True) := fun h => by simpa using Bo (hS hm0) (k := .i64) (n := 2) (by decide) (by omega)
  have ld2 : ∀ {h' : Hp}, (ws.length : Int) = 3 → h' top = AD AB (Bl s) → BN tt.get h' 9 (Ah (vR top (Bl s).length 1) 2) = (.string ⟨⟨at' ws 2⟩⟩, True) := fun h e => B9 (hS e) (i := 2) (by omega)
  have sh2 : ∀ {h' : Hp}, (ws.length : Int) = 3 → h' top = AD AB (Bl s) → B5 tt.get h' 67 (vR top (Bl s).length 1) none (some (.int .i64 2)) = ((GK 1 (vR top (Bl s).length 1) 0 2), True) := fun h e => by simpa using Rm (hS e) (k := .i64) (n := 2) (by decide) (by omega)
  have hS2 : ∀ {h' : Hp}, (ws.length : Int) = 3 → h' top = AD AB (Bl s) → BF AB h' (GK 1 (vR top (Bl s).length 1) 0 2) (ws.take 2) := fun h e => (hS e).take (by omega)
  have nP2 : ∀ {h' : Hp}, (ws.length : Int) = 3 → h' top = AD AB (Bl s) → Dy AB h' (GK 1 (vR top (Bl s).length 1) 0 2) = True := fun h e => (hS2 h e).P
  have nR2 : ∀ {h' : Hp}, (ws.length : Int) = 3 → h' top = AD AB (Bl s) → AB.rd h' (GK 1 (vR top (Bl s).length 1) 0 2) = ws.take 2 := fun h e => (hS2 h e).rd
  have nW2 : Oj (ws.take 2) = True := eq_true ⟨by rw [List.length_take]; have := hWd.1; omega, fun w hw => hWd.2 w (List.mem_of_mem_take hw)⟩
  refine D4.Af Am aS rfl 182 rfl [.tmp 6] rfl (show 3 ≤ 182 by decide) ?_
  rcases six w with rfl | rfl | rfl | rfl | rfl | rfl | hno
  case' inr.inl =>
    rcases AEQ ((ws.length : Int) = 3) (at' ws 2 = [105, 110, 103, 114, 101, 115, 115]) with hi | hi | hi
    case' inr.inl.inl =>
      have hg : OD ws = true := by simp [OD, hi.2]; omega
      have hset : C9 S [114, 111, 117, 116, 101, 114] ws last = match CM (ws.take 2) 2 with | some xs => ⟨2, { S with R := S.R ++ [⟨at' xs 0, at' xs 1, true⟩] }, DM 2 last⟩ | none => ⟨0, S, none⟩ := by simp [C9, hg]
      have hap := fun {h' : Hp} {q t : Nat} (xs : List Int) (a1 : h' r = AD AU S.R) => Jk (q := q) (t := t) HS.rl a1 (el := ⟨at' xs 0, at' xs 1, true⟩)
      have hA := Gt r S.R
      have hf := Yd (n := 2) last (by decide)
      simp only [Iz] at hap
      rcases hn : CM (ws.take 2) 2 with _ | xs
    case' inr.inl.inr.inl =>
      have hg : OD ws = false := by simp [OD, hi.2]
      have hset : C9 S [114, 111, 117, 116, 101, 114] ws last = match CM ws 2 with | some xs => ⟨2, { S with R := S.R ++ [⟨at' xs 0, at' xs 1, false⟩] }, DM 2 last⟩ | none => ⟨0, S, none⟩ := by simp [C9, hg]
      have hap := fun {h' : Hp} {q t : Nat} (xs : List Int) (a1 : h' r = AD AU S.R) => Jk (q := q) (t := t) HS.rl a1 (el := ⟨at' xs 0, at' xs 1, false⟩)
      have hA := Gt r S.R
      have hf := Yd (n := 2) last (by decide)
      simp only [Iz] at hap
      rcases hn : CM ws 2 with _ | xs
    case' inr.inl.inr.inr =>
      have hg : OD ws = false := by simp [OD]; omega
      have hset : C9 S [114, 111, 117, 116, 101, 114] ws last = match CM ws 2 with | some xs => ⟨2, { S with R := S.R ++ [⟨at' xs 0, at' xs 1, false⟩] }, DM 2 last⟩ | none => ⟨0, S, none⟩ := by simp [C9, hg]
      have hap := fun {h' : Hp} {q t : Nat} (xs : List Int) (a1 : h' r = AD AU S.R) => Jk (q := q) (t := t) HS.rl a1 (el := ⟨at' xs 0, at' xs 1, false⟩)
      have hA := Gt r S.R
      have hf := Yd (n := 2) last (by decide)
      simp only [Iz] at hap
      rcases hn : CM ws 2 with _ | xs
  case' inr.inr.inl =>
    have hi := hv
    have hset : C9 S [108, 105, 110, 107] ws last = match CM ws 3 with | some xs => ⟨3, { S with K := S.K ++ [⟨at' xs 0, at' xs 1, at' xs 2⟩] }, DM 3 last⟩ | none => ⟨0, S, none⟩ := by simp [C9]
    have hap := fun {h' : Hp} {q t : Nat} (xs : List Int) (a1 : h' k = AD AP S.K) => V8 (q := q) (t := t) HS.kl a1 (el := ⟨at' xs 0, at' xs 1, at' xs 2⟩)
    have hA := Gt k S.K
    have hf := Yd (n := 3) last (by decide)
    simp only [Kr] at hap
    rcases hn : CM ws 3 with _ | xs
  case' inr.inr.inr.inl =>
    have hi := hv
    have hset : C9 S [100, 114, 111, 112] ws last = match CM ws 3 with | some xs => ⟨4, { S with U := S.U ++ [⟨at' xs 0, at' xs 1, at' xs 2, 1, 0⟩] }, DM 4 last⟩ | none => ⟨0, S, none⟩ := by simp [C9]
    have hap := fun {h' : Hp} {q t : Nat} (xs : List Int) (a1 : h' u = AD AO S.U) => IB (q := q) (t := t) HS.ul a1 (el := ⟨at' xs 0, at' xs 1, at' xs 2, 1, 0⟩)
    have hA := Gt u S.U
    have hf := Yd (n := 4) last (by decide)
    simp only [Et] at hap
    rcases hn : CM ws 3 with _ | xs
  case' inr.inr.inr.inr.inl =>
    have hi := hv
    have hset : C9 S [100, 111, 117, 98, 108, 101] ws last = match CM ws 4 with | some xs => ⟨4, { S with U := S.U ++ [⟨at' xs 0, at' xs 1, at' xs 2, 2, at' xs 3⟩] }, DM 4 last⟩ | none => ⟨0, S, none⟩ := by simp [C9]
    have hap := fun {h' : Hp} {q t : Nat} (xs : List Int) (a1 : h' u = AD AO S.U) => IB (q := q) (t := t) HS.ul a1 (el := ⟨at' xs 0, at' xs 1, at' xs 2, 2, at' xs 3⟩)
    have hA := Gt u S.U
    have hf := Yd (n := 4) last (by decide)
    simp only [Et] at hap
    rcases hn : CM ws 4 with _ | xs
  case' inr.inr.inr.inr.inr.inl =>
    have hi := hv
    have hset : C9 S [100, 101, 108, 97, 121] ws last = match CM ws 4 with | some xs => ⟨4, { S with U := S.U ++ [⟨at' xs 0, at' xs 1, at' xs 2, 3, at' xs 3⟩] }, DM 4 last⟩ | none => ⟨0, S, none⟩ := by simp [C9]
    have hap := fun {h' : Hp} {q t : Nat} (xs : List Int) (a1 : h' u = AD AO S.U) => IB (q := q) (t := t) HS.ul a1 (el := ⟨at' xs 0, at' xs 1, at' xs 2, 3, at' xs 3⟩)
    have hA := Gt u S.U
    have hf := Yd (n := 4) last (by decide)
    simp only [Et] at hap
    rcases hn : CM ws 4 with _ | xs
  case inr.inr.inr.inr.inr.inr =>
    have hset : C9 S w ws last = ⟨0, S, none⟩ := by simp only [C9, hno, if_false]
    simp only [hset, Hs, SP, SO]
    refine CW.vc L8 [0, 1, 2, 6, 7, 8, 9, 10, 11, 12, 13, 14, 15, 16, 23, 24, 55, 66, 88, 111, 134, 140] (by kernel_rfl) ?_
    (repeat ((try refine Vc.mk' ?_); simp (maxSteps:=6000000) only [go_sem, Nk, EE, Hf, hs4, hmx, sl1, ix0, ld0, Ay, QF, Bx, decide_true, decide_false, hno, EU]))
    (refine ⟨[], by simp, by simp, by simp, ?_, ?_, ?_⟩ <;> simp [])
  case inl =>
    by_cases e : last = 0
    · have pl := eq_true e
      have p0 : ¬ ((1 : Int) < last) := by omega
      cases hn : CM ws 4 with
      | none =>
        simp only [C9, if_true, pl, hn, Hs, SP, SO]
        refine CW.vc L8 [0, 1, 2, 6, 7, 8, 9, 10, 11, 12, 13, 14, 15, 16, 23, 24, 55, 66, 88, 111, 134, 140] (by kernel_rfl) ?_
        (repeat ((try refine Vc.mk' ?_); simp (maxSteps:=6000000) only [go_sem, Nk, EE, Hf, hs4, hmx, sl1, ix0, ld0, Ay, QF, Bx, decide_true, Ty, Iw, nP, nR, nW, hv, CR ht5, NJ, hn, pl]))
        (refine ⟨[], by simp, by simp, by simp, ?_, ?_, ?_⟩ <;> simp [])
      | some xs =>
        have hxl := TS hn
        have hf : DM 1 last = some 1 := by simp [DM, e]
        simp only [C9, if_true, pl, hn, hf, Hs, SP, SO, Cb, c4, c5, c6, c7]
        refine CW.vc L8 [0, 1, 2, 6, 7, 8, 9, 10, 11, 12, 13, 14, 15, 16, 23, 24, 55, 66, 88, 111, 134, 140] (by kernel_rfl) ?_
        (repeat ((try refine Vc.mk' ?_); simp (maxSteps:=6000000) only [go_sem, Nk, EE, Hf, hs4, hmx, sl1, ix0, ld0, Ay, QF, Bx, decide_true, decide_false, Ty, Iw, nP, nR, nW, hv, CR ht5, NJ, hn, hb, Bw hbt, ix_0, ld_0, ix_1, ld_1, ix_2, ld_2, ix_3, ld_3, hxl, pl, p0, Fs]))
        (refine ⟨[], by simp, by simp, by simp, ?_, ?_, ?_⟩ <;> simp [AE hbt, Sc.Ao (fun j hj => AE hj) hsR, Sc.Ao (fun j hj => AE hj) hsK, Sc.Ao (fun j hj => AE hj) hsU, Sc.Ao (fun j hj => AE hj) hsV])
    · have pl := eq_false e
      simp only [C9, if_true, pl, if_false, Hs, SP, SO]
      refine CW.vc L8 [0, 1, 2, 6, 7, 8, 9, 10, 11, 12, 13, 14, 15, 16, 23, 24, 55, 66, 88, 111, 134, 140] (by kernel_rfl) ?_
      (repeat ((try refine Vc.mk' ?_); simp (maxSteps:=6000000) only [go_sem, Nk, EE, Hf, hs4, hmx, sl1, ix0, ld0, Ay, QF, Bx, decide_true, decide_false, pl, EU]))
      (refine ⟨[], by simp, by simp, by simp, ?_, ?_, ?_⟩ <;> simp [])
  all_goals first
    | replace hn : CM _ _ = none := hn
      simp only [hset, hn, Hs, SP, SO]
      refine CW.vc L8 [0, 1, 2, 6, 7, 8, 9, 10, 11, 12, 13, 14, 15, 16, 23, 24, 55, 66, 88, 111, 134, 140] (by kernel_rfl) ?_
      (repeat ((try refine Vc.mk' ?_); simp (maxSteps:=6000000) only [go_sem, Nk, EE, Hf, hs4, hmx, sl1, ix0, ld0, Ay, decide_true, decide_false, List.cons.injEq, u8n, sL', hi, ix2, ld2, sh2, nP2, nR2, nW2, Ty, Iw, nP, nR, nW, hv, CR ht5, NJ, hn]))
      (refine ⟨[], by simp, by simp, by simp, ?_, ?_, ?_⟩ <;> simp [])
    | have hap := fun {h'} {q} {t} => hap (h' := h') (q := q) (t := t) xs
      have hxl := TS hn
      rcases hf with ⟨hf, c1, c2⟩ | ⟨hf, c1, c2⟩ | ⟨hf, c1, c2⟩ <;> rcases hA with ⟨hA, hB⟩ | ⟨hA, hB⟩ <;> (
        simp only [hset, hn, hf, Hs, SP, SO, Cb, c4, c5, c6, c7, hB]
        refine CW.vc L8 [0, 1, 2, 6, 7, 8, 9, 10, 11, 12, 13, 14, 15, 16, 23, 24, 55, 66, 88, 111, 134, 140] (by kernel_rfl) ?_
        (repeat ((try refine Vc.mk' ?_); simp (maxSteps:=6000000) only [go_sem, Nk, EE, Hf, hs4, hmx, sl1, ix0, ld0, Ay, QF, Bx, decide_true, decide_false, List.cons.injEq, u8n, sL', hi, ix2, ld2, sh2, nP2, nR2, nW2, Ty, Iw, nP, nR, nW, hv, CR ht5, NJ, hn, hb, Bw hbt, ix_0, ld_0, ix_1, ld_1, ix_2, ld_2, ix_3, ld_3, hxl, hap, hA, c1, c2, Bw hr, Bw hk, Bw hu, HS.R, HS.K, HS.U, nbr, nbk, nbu, Fs, EU]))
        (refine ⟨[top + 3], by simp, by simp, by simp, ?_, ?_, ?_⟩ <;> simp [wi hbt, AE hbt, AE hr, AE hk, AE hu, Av, Ai, Sc.Ao (fun j hj => AE hj) hsR, Sc.Ao (fun j hj => AE hj) hsK, Sc.Ao (fun j hj => AE hj) hsU, Sc.Ao (fun j hj => AE hj) hsV]))
end Go.Proofs.YthlhnangbinhoaaGreatDoor.Dm
