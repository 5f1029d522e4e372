/- slices.Sort of []uint32: reverseRange. -/
import Derived.Test.YthpibnpeaidabaaGreatDoorTSK
set_option linter.unusedSimpArgs false
set_option linter.unusedVariables false
namespace Go.Proofs.YthpibnpeaidabaaGreatDoor.Dm
open Go.Dm
open Go.Sort (ltInt swp)
set_option maxHeartbeats 16000000
set_option maxRecDepth 20000
theorem WC:∀(k i j:Nat) (d:Array Int),j - i≤k→(Go.Sort.reverseLoop i j d).size=d.size
 |0,i,j,d,h=>by rw [Go.Sort.reverseLoop,if_neg (by omega)]
 |k+1,i,j,d,h=>by
  rw [Go.Sort.reverseLoop]
  split
  ·rw [WC k _ _ _ (by omega),swp_size]
  ·rfl
theorem On {d:Array Int}{a b:Nat}:(Go.Sort.reverseRange d a b).size=d.size:=WC _ _ _ _ (Nat.le_refl _)
def cK (hp:Hp)(top:Nat)(q n:Nat)(x:Nat×Nat×Array Int):SS:=⟨[(0, .slice (some ⟨q,0,none⟩) n n,true),(6, .int .i64 (x.1:Int),true),(7, .int .i64 (x.2.1:Int),true)],hp.A0 [(q,Ad x.2.2)],top+0⟩
theorem UC:BG Tryz.prog 111 (Gz Go.Sort.reverseRange):=by
 refine .Cy L5 ?_
 intro args hp top hpre hcl hsc
 match args,hpre with
 | [v, .int .i64 a, .int .i64 b],hpre=>
 obtain ⟨q,d,hrow,h1,h2,h3⟩:=hpre
 obtain ⟨a,rfl⟩:=Int.eq_ofNat_of_zero_le h1
 obtain ⟨b,rfl⟩:=Int.eq_ofNat_of_zero_le (show 0≤b by omega)
 have hn:d.size≤35184372088832:=hrow.le
 have hqt:=hrow.Xw hcl
 have h0:0 < d.size:=hrow.pos
 simp only [hrow.D5,hrow.MZ,intOf_int,Int.toNat_natCast]
 obtain ⟨rfl,ho,_,_⟩:=hrow
 have hab:a < b:=by omega
 have hbn:b≤d.size:=by omega
 obtain ⟨c,hc⟩:∃m:Nat,m=b - 1:=⟨_,rfl⟩
 have w1:Ae .i64 ((b:Int) - 1)=((c:Nat):Int):=by rw [wrap64 (by omega) (by omega)];omega
 have e0:Go.Sort.reverseRange d a b=Go.Sort.reverseLoop a c d:=by rw [Go.Sort.reverseRange,hc]
 rw [e0]
 refine Ab.BF BN L5 rfl 32 rfl [] rfl (show 3≤32 by decide) ?_
 refine CW.vc A3 [0,1,2,6,7,13] (by kernel_rfl) ?_
 (repeat ((try refine Vc.mk' ?_);simp (maxSteps:=6000000) only [go_sem,reduceIte,reduceCtorEq,Nat.reduceAdd,Nat.reduceMul,Nat.reduceSub,Nat.reduceLT,Nat.reduceLeDiff,Nat.reduceEqDiff,Int.reduceEq,Int.reduceLT,Int.reduceLE,Int.reduceNe,w1]))
 refine CW.Bx (cK hp top q d.size) (fun x=>x.2.1 < d.size∧x.2.2.size=d.size∧Go.Sort.reverseLoop x.1 x.2.1 x.2.2=Go.Sort.reverseLoop a c d) (fun x=>x.2.1 - x.1) (a,c,d) ⟨by dsimp only;omega,rfl,rfl⟩ ?_ ?_
 ·exact (by refine A9.mk' [] hcl (by simp) (by simp) rfl (AZ ?_) ?_ ?_ <;> simp [Ag,BJ,BH,Am,AP,AF,AJ.nil,AJ.cons,AB,AD,AM,AA,AQ,AX,AO,Ax.AL,AG,AV,AE,AH,AK.set,AK.Ao,AK.refl,cK,Af hqt,AY,ho,w1])
 ·rintro ⟨i,j,f⟩ ⟨hj,hfs,hfe⟩
  dsimp only at hj hfs hfe ⊢
  by_cases c1:i < j
  ·have x0:=fun (bb:Nat)=>Ar (b:=bb) hn (show i < d.size by omega)
   have l0:∀ {h':Hp},h' q=Ad f→An tt.get h' 29 (.pointer (some ⟨q,i,none⟩))=(.int .u32 f[i]!,True):=fun hee=>Ap hee (by omega) (by omega)
   have x1:=fun (bb:Nat)=>Ar (b:=bb) hn (show j < d.size by omega)
   have l1:∀ {h':Hp},h' q=Ad f→An tt.get h' 29 (.pointer (some ⟨q,j,none⟩))=(.int .u32 f[j]!,True):=fun hee=>Ap hee (by omega) (by omega)
   have s1a:∀ {h':Hp},h' q=Ad f→Aw tt.get h' 29 (.pointer (some ⟨q,i,none⟩)) (.int .u32 f[j]!)=([(q,Ad (f.setIfInBounds i f[j]!))],True):=fun hee=>BK hee (by omega)
   have s1b:∀ {h':Hp},h' q=Ad (f.setIfInBounds i f[j]!)→Aw tt.get h' 29 (.pointer (some ⟨q,j,none⟩)) (.int .u32 f[i]!)=([(q,Ad (swp f i j))],True):=fun hee=>BK hee (by rw [Array.size_setIfInBounds];omega)
   obtain ⟨i2,hi2⟩:∃m:Nat,m=i+1:=⟨_,rfl⟩
   obtain ⟨j2,hj2⟩:∃m:Nat,m=j - 1:=⟨_,rfl⟩
   have w2:Ae .i64 ((i:Int)+1)=((i2:Nat):Int):=by rw [wrap64 (by omega) (by omega)];omega
   have w3:Ae .i64 ((j:Int) - 1)=((j2:Nat):Int):=by rw [wrap64 (by omega) (by omega)];omega
   refine CW.vc A3 [0,1,2,6,7,13] (by kernel_rfl) ?_
   (repeat ((try refine Vc.mk' ?_);simp (maxSteps:=6000000) only [go_sem,reduceIte,reduceCtorEq,Nat.reduceAdd,Nat.reduceMul,Nat.reduceSub,Nat.reduceLT,Nat.reduceLeDiff,Nat.reduceEqDiff,Int.reduceEq,Int.reduceLT,Int.reduceLE,Int.reduceNe,cK,c1,decide_true,x0,l0,x1,l1,s1a,s1b,w2,w3]))
   refine .mk (i2,j2,swp f i j) ⟨by dsimp only;omega,by dsimp only;rw [swp_size];exact hfs,by dsimp only;rw [←hfe];conv=> {rhs;rw [Go.Sort.reverseLoop,if_pos c1]};rw [hi2,hj2]⟩ (by dsimp only;omega) ((by refine A9.mk' [] hcl (by simp) (by simp) rfl (AZ ?_) ?_ ?_ <;> simp [Ag,BJ,BH,Am,AP,AF,AJ.nil,AJ.cons,AB,AD,AM,AA,AQ,AX,AO,Ax.AL,AG,AV,AE,AH,AK.set,AK.Ao,AK.refl,cK,Af hqt,AY]))
  ·have hf:f=Go.Sort.reverseLoop a c d:=by rw [←hfe,Go.Sort.reverseLoop,if_neg c1]
   rw [←hf]
   refine CW.vc A3 [0,1,2,6,7,13] (by kernel_rfl) ?_
   (repeat ((try refine Vc.mk' ?_);simp (maxSteps:=6000000) only [go_sem,reduceIte,reduceCtorEq,Nat.reduceAdd,Nat.reduceMul,Nat.reduceSub,Nat.reduceLT,Nat.reduceLeDiff,Nat.reduceEqDiff,Int.reduceEq,Int.reduceLT,Int.reduceLE,Int.reduceNe,cK,c1,decide_false]))
   (refine ⟨[],by simp,by simp,by simp, ?_, ?_, ?_⟩ <;> simp [Ag,BJ,BH,Am,AP,AF,AJ.nil,AJ.cons,AB,AD,AM,AA,AQ,AX,AO,Ax.AL,AG,AV,AE,AH,AK.set,AK.Ao,AK.refl,Af hqt,AY])
end Go.Proofs.YthpibnpeaidabaaGreatDoor.Dm
set_option linter.unusedSimpArgs false
set_option linter.unusedVariables false
namespace Go.Proofs.YthpibnpeaidabaaGreatDoor.Dm
open Go.Dm
open Go.Sort (ltInt swp)
set_option maxHeartbeats 16000000
set_option maxRecDepth 20000
def Hx (k:Nat):Option A5:=some (.cells true 0 [.int .i64 (k:Int)])
def Qf (hp:Hp)(s:Nat):Nat:=match hp s with | some (.cells _ _ [.int _ k])=>k.toNat | _=>0
theorem Et {hp:Hp}{s k:Nat}(h:hp s=Hx k):Qf hp s=k:=by unfold Qf;rw [h];simp [Hx]
theorem YI {hp:Hp}{v:Value}{q s k:Nat}{d:Array Int}(h:Db hp v q d)(hs:hp s=Hx k):q≠s:=by
 intro e
 subst e
 have:=h.o.symm.trans hs
 unfold Ad Hx Au at this
 split at this
 ·cases this
 ·simp only [Option.some.injEq,A5.cells.injEq] at this
  exact absurd this.2.1 (by decide)
theorem N7 {d:Array Int}{a b k n:Nat}(ha:a < n)(hb:b < n):(Go.Sort.order2 ltInt d a b k).1 < n∧(Go.Sort.order2 ltInt d a b k).2.1 < n∧(Go.Sort.order2 ltInt d a b k).2.2≤k+1:=by
 unfold Go.Sort.order2
 split
 ·exact ⟨hb,ha,Nat.le_refl _⟩
 ·exact ⟨ha,hb,by dsimp only;omega⟩
theorem Zw {d:Array Int}{a b c k n:Nat}(ha:a < n)(hb:b < n)(hc:c < n):(Go.Sort.median ltInt d a b c k).1 < n∧(Go.Sort.median ltInt d a b c k).2≤k+3:=by
 have h1:=N7 (d:=d) (k:=k) ha hb
 have h2:=N7 (d:=d) (k:=(Go.Sort.order2 ltInt d a b k).2.2) h1.2.1 hc
 have h3:=N7 (d:=d) (k:=(Go.Sort.order2 ltInt d (Go.Sort.order2 ltInt d a b k).2.1 c (Go.Sort.order2 ltInt d a b k).2.2).2.2) h1.1 h2.1
 unfold Go.Sort.median
 dsimp only
 omega
def Q8 (hp:Hp)(v:Value)(a b:Int)(s:Nat):Prop:= ∃q d k,Db hp v q d∧0≤a∧a < (d.size:Int)∧0≤b∧b < (d.size:Int)∧hp s=Hx k∧k≤1000
def WG:BO:= .det (fun args hp _=>match args with | [v, .int .i64 a, .int .i64 b, .pointer (some ⟨s,0,none⟩)]=>Q8 hp v a b s | _=>False)
 (fun args hp top=>match args with
  | [v,a,b, .pointer (some ⟨s,_,_⟩)]=>(.tuple ⟨[.int .i64 (Go.Sort.order2 ltInt (Gy hp v) (intOf a).toNat (intOf b).toNat (Qf hp s)).1, .int .i64 (Go.Sort.order2 ltInt (Gy hp v) (intOf a).toNat (intOf b).toNat (Qf hp s)).2.1]⟩, [(s,Hx (Go.Sort.order2 ltInt (Gy hp v) (intOf a).toNat (intOf b).toNat (Qf hp s)).2.2)],top)
  |_=>(undef, [],top))
theorem Tm {hp:Hp}{s k top:Nat}(hcl:Cl hp top)(h:hp s=Hx k):s < top:=hcl.lt s _ h
theorem LB {ρ:Nat→Nat}{k:Nat}:Ku ρ (Hx k)=Hx k:=rfl
theorem p8:BG Tryz.prog 142 WG:=by
 refine .Cy NG ?_
 intro args hp top hpre hcl hsc
 match args,hpre with
 | [v, .int .i64 a, .int .i64 b, .pointer (some ⟨s,0,none⟩)],hpre=>
 obtain ⟨q,d,k,hrow,h1,h2,h3,h4,hs,hk⟩:=hpre
 obtain ⟨a,rfl⟩:=Int.eq_ofNat_of_zero_le h1
 obtain ⟨b,rfl⟩:=Int.eq_ofNat_of_zero_le h3
 have hn:d.size≤35184372088832:=hrow.le
 have hst:=Tm hcl hs
 have hne:=YI hrow hs
 simp only [hrow.D5,Et hs,intOf_int,Int.toNat_natCast]
 obtain ⟨rfl,ho,_,_⟩:=hrow
 have hs':hp s=some (.cells true 0 [.int .i64 (k:Int)]):=hs
 have x0:=fun (bb:Nat)=>Ar (b:=bb) hn (show a < d.size by omega)
 have l0:An tt.get hp 29 (.pointer (some ⟨q,a,none⟩))=(.int .u32 d[a]!,True):=Ap ho (by omega) (by omega)
 have x1:=fun (bb:Nat)=>Ar (b:=bb) hn (show b < d.size by omega)
 have l1:An tt.get hp 29 (.pointer (some ⟨q,b,none⟩))=(.int .u32 d[b]!,True):=Ap ho (by omega) (by omega)
 have w1:Ae .i64 ((k:Int)+1)=((k+1:Nat):Int):=by rw [wrap64 (by omega) (by omega)];omega
 refine Ab.BF BN NG rfl 28 rfl [.tmp 8, .tmp 9] rfl (show 4≤28 by decide) ?_
 by_cases c:ltInt d[b]! d[a]! = true
 ·have e:Go.Sort.order2 ltInt d a b k=(b,a,k+1):=by unfold Go.Sort.order2;rw [if_pos c]
  simp only [e]
  refine CW.vc A3 [0,1,2,3,8,9,18] (by kernel_rfl) ?_
  (repeat ((try refine Vc.mk' ?_);simp (maxSteps:=6000000) only [go_sem,reduceIte,reduceCtorEq,Nat.reduceAdd,Nat.reduceMul,Nat.reduceSub,Nat.reduceLT,Nat.reduceLeDiff,Nat.reduceEqDiff,Int.reduceEq,Int.reduceLT,Int.reduceLE,Int.reduceNe,x0,l0,x1,l1,Bq,Ba,c,hs',w1]))
  (refine ⟨[],by simp,by simp,by simp, ?_, ?_, ?_⟩ <;> simp [Ag,BJ,BH,Am,AP,AF,AJ.nil,AJ.cons,AB,AD,AM,AA,AQ,AX,AO,Ax.AL,AG,AV,AE,AH,AK.set,AK.Ao,AK.refl,Af hst,LB,Hx])
 ·have c':ltInt d[b]! d[a]! = false:=by simpa using c
  have e:Go.Sort.order2 ltInt d a b k=(a,b,k):=by unfold Go.Sort.order2;rw [if_neg c]
  simp only [e]
  refine CW.vc A3 [0,1,2,3,8,9,18] (by kernel_rfl) ?_
  (repeat ((try refine Vc.mk' ?_);simp (maxSteps:=6000000) only [go_sem,reduceIte,reduceCtorEq,Nat.reduceAdd,Nat.reduceMul,Nat.reduceSub,Nat.reduceLT,Nat.reduceLeDiff,Nat.reduceEqDiff,Int.reduceEq,Int.reduceLT,Int.reduceLE,Int.reduceNe,x0,l0,x1,l1,Bq,Ba,c',hs']))
  (refine ⟨[],by simp,by simp,by simp, ?_, ?_, ?_⟩ <;> simp [Ag,BJ,BH,Am,AP,AF,AJ.nil,AJ.cons,AB,AD,AM,AA,AQ,AX,AO,Ax.AL,AG,AV,AE,AH,AK.set,AK.Ao,AK.refl,Af hst,LB,Hx,hs'])
def sE:FuncId→BO:=Bd oQ 142 WG
theorem kB:B9 Tryz.prog tt.get sE:=A3.add p8
theorem pC:sE 142=WG:=rfl
def U1 (hp:Hp)(v:Value)(a b c:Int)(s:Nat):Prop:= ∃q d k,Db hp v q d∧0≤a∧a < (d.size:Int)∧0≤b∧b < (d.size:Int)∧0≤c∧c < (d.size:Int)∧hp s=Hx k∧k≤900
def Ht:BO:= .det (fun args hp _=>match args with | [v, .int .i64 a, .int .i64 b, .int .i64 c, .pointer (some ⟨s,0,none⟩)]=>U1 hp v a b c s | _=>False)
 (fun args hp top=>match args with
  | [v,a,b,c, .pointer (some ⟨s,_,_⟩)]=>(.int .i64 (Go.Sort.median ltInt (Gy hp v) (intOf a).toNat (intOf b).toNat (intOf c).toNat (Qf hp s)).1, [(s,Hx (Go.Sort.median ltInt (Gy hp v) (intOf a).toNat (intOf b).toNat (intOf c).toNat (Qf hp s)).2)],top)
  |_=>(undef, [],top))
theorem pV:BG Tryz.prog 136 Ht:=by
 refine .Cy Ly ?_
 intro args hp top hpre hcl hsc
 match args,hpre with
 | [v, .int .i64 a, .int .i64 b, .int .i64 c, .pointer (some ⟨s,0,none⟩)],hpre=>
 obtain ⟨q,d,k,hrow,h1,h2,h3,h4,h5,h6,hs,hk⟩:=hpre
 obtain ⟨a,rfl⟩:=Int.eq_ofNat_of_zero_le h1
 obtain ⟨b,rfl⟩:=Int.eq_ofNat_of_zero_le h3
 obtain ⟨c,rfl⟩:=Int.eq_ofNat_of_zero_le h5
 have hn:d.size≤35184372088832:=hrow.le
 have h0:0 < d.size:=hrow.pos
 have hst:=Tm hcl hs
 have hne:=YI hrow hs
 simp only [hrow.D5,Et hs,intOf_int,Int.toNat_natCast]
 obtain ⟨rfl,ho,_,_⟩:=hrow
 have g1:=N7 (d:=d) (k:=k) (n:=d.size) (show a < d.size by omega) (show b < d.size by omega)
 have eM:Go.Sort.median ltInt d a b c k=((Go.Sort.order2 ltInt d (Go.Sort.order2 ltInt d a b k).1 (Go.Sort.order2 ltInt d (Go.Sort.order2 ltInt d a b k).2.1 c (Go.Sort.order2 ltInt d a b k).2.2).1 (Go.Sort.order2 ltInt d (Go.Sort.order2 ltInt d a b k).2.1 c (Go.Sort.order2 ltInt d a b k).2.2).2.2).2.1,(Go.Sort.order2 ltInt d (Go.Sort.order2 ltInt d a b k).1 (Go.Sort.order2 ltInt d (Go.Sort.order2 ltInt d a b k).2.1 c (Go.Sort.order2 ltInt d a b k).2.2).1 (Go.Sort.order2 ltInt d (Go.Sort.order2 ltInt d a b k).2.1 c (Go.Sort.order2 ltInt d a b k).2.2).2.2).2.2):=rfl
 rw [eM]
 generalize e1:Go.Sort.order2 ltInt d a b k=r1 at g1
 have g2:=N7 (d:=d) (k:=r1.2.2) (n:=d.size) g1.2.1 (show c < d.size by omega)
 generalize e2:Go.Sort.order2 ltInt d r1.2.1 c r1.2.2=r2 at g2
 have g3:=N7 (d:=d) (k:=r2.2.2) (n:=d.size) g1.1 g2.1
 generalize e3:Go.Sort.order2 ltInt d r1.1 r2.1 r2.2.2=r3 at g3
 have hP:∀ {h':Hp} (x y j:Nat),h' q=Ad d→h' s=Hx j→x < d.size→y < d.size→j≤1000→Q8 h' (.slice (some ⟨q,0,none⟩) d.size d.size) (x:Int) (y:Int) s=True:=fun x y j e f u v w=>eq_true ⟨q,d,j,Co e rfl h0 hn,by omega,by omega,by omega,by omega,f,w⟩
 have p1:Q8 hp (.slice (some ⟨q,0,none⟩) d.size d.size) (a:Int) (b:Int) s=True:=hP a b k ho hs (by omega) (by omega) (by omega)
 have p2:∀ {h':Hp},h' q=Ad d→h' s=Hx r1.2.2→Q8 h' (.slice (some ⟨q,0,none⟩) d.size d.size) (r1.2.1:Int) (c:Int) s=True:=fun e f=>hP _ c _ e f g1.2.1 (by omega) (by omega)
 have p3:∀ {h':Hp},h' q=Ad d→h' s=Hx r2.2.2→Q8 h' (.slice (some ⟨q,0,none⟩) d.size d.size) (r1.1:Int) (r2.1:Int) s=True:=fun e f=>hP _ _ _ e f g1.1 g2.1 (by omega)
 have hD:∀ {h':Hp},h' q=Ad d→Gy h' (.slice (some ⟨q,0,none⟩) d.size d.size)=d:=fun e=>(Co e rfl h0 hn).D5
 have k0:Qf hp s=k:=Et hs
 have k1:∀ {h':Hp},h' s=Hx r1.2.2→Qf h' s=r1.2.2:=fun e=>Et e
 have k2:∀ {h':Hp},h' s=Hx r2.2.2→Qf h' s=r2.2.2:=fun e=>Et e
 have rq:∀ {h':Hp} {o:Option A5},(h'.set s o) q=h' q:=fun {h'} {o}=>by simp only [Hp.set,if_neg hne]
 have rs:∀ {h':Hp} {o:Option A5},(h'.set s o) s=o:=fun {h'} {o}=>by simp only [Hp.set,if_true]
 refine Ab.BF BN Ly rfl 36 rfl [.tmp 10] rfl (show 5≤36 by decide) ?_
 refine CW.vc kB [0,1,2,3,4,10] (by kernel_rfl) ?_
 (repeat ((try refine Vc.mk' ?_);simp (maxSteps:=6000000) only [go_sem,reduceIte,reduceCtorEq,Nat.reduceAdd,Nat.reduceMul,Nat.reduceSub,Nat.reduceLT,Nat.reduceLeDiff,Nat.reduceEqDiff,Int.reduceEq,Int.reduceLT,Int.reduceLE,Int.reduceNe,pC,WG,p1,p2,p3,hD,ho,hs,k0,k1,k2,rq,rs,Int.toNat_natCast,e1,e2,e3]))
 (refine ⟨[],by simp,by simp,by simp, ?_, ?_, ?_⟩ <;> simp [Ag,BJ,BH,Am,AP,AF,AJ.nil,AJ.cons,AB,AD,AM,AA,AQ,AX,AO,Ax.AL,AG,AV,AE,AH,AK.set,AK.Ao,AK.refl,Af hst,LB,rs])
end Go.Proofs.YthpibnpeaidabaaGreatDoor.Dm
