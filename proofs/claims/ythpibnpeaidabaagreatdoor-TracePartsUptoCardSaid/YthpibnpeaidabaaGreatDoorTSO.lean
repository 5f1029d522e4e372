/- slices.Sort of []uint32: order2, median, choosePivot. -/
import Derived.Test.YthpibnpeaidabaaGreatDoorTSV
set_option linter.unusedVariables false
namespace Go.Proofs.YthpibnpeaidabaaGreatDoor.Dm
open Go.Dm
open Go.Sort (ltInt swp)
set_option maxHeartbeats 16000000
set_option maxRecDepth 20000
def Ha (k:Nat):Option Av:=some (.cells true 0 [.int .i64 (k:Int)])
def P4 (hp:Hp)(s:Nat):Nat:=match hp s with | some (.cells _ _ [.int _ k])=>k.toNat | _=>0
theorem ED {hp:Hp}{s k:Nat}(h:hp s=Ha k):P4 hp s=k:=by unfold P4;rw [h];simp [Ha]
theorem Xa {hp:Hp}{v:Value}{q s k:Nat}{d:Array Int}(h:C3 hp v q d)(hs:hp s=Ha k):q≠s:=by
 intro e
 subst e
 have:=h.o.symm.trans hs
 unfold AO Ha Af at this
 split at this
 ·cases this
 ·simp only [Option.some.injEq,Av.cells.injEq] at this
  exact absurd this.2.1 (by decide)
theorem NM {d:Array Int}{a b k n:Nat}(ha:a < n)(hb:b < n):(Go.Sort.order2 ltInt d a b k).1 < n∧(Go.Sort.order2 ltInt d a b k).2.1 < n∧(Go.Sort.order2 ltInt d a b k).2.2≤k+1:=by
 unfold Go.Sort.order2
 split
 ·exact ⟨hb,ha,Nat.le_refl _⟩
 ·exact ⟨ha,hb,by dsimp only;omega⟩
theorem aV {d:Array Int}{a b c k n:Nat}(ha:a < n)(hb:b < n)(hc:c < n):(Go.Sort.median ltInt d a b c k).1 < n∧(Go.Sort.median ltInt d a b c k).2≤k+3:=by
 have h1:=NM (d:=d) (k:=k) ha hb
 have h2:=NM (d:=d) (k:=(Go.Sort.order2 ltInt d a b k).2.2) h1.2.1 hc
 have h3:=NM (d:=d) (k:=(Go.Sort.order2 ltInt d (Go.Sort.order2 ltInt d a b k).2.1 c (Go.Sort.order2 ltInt d a b k).2.2).2.2) h1.1 h2.1
 unfold Go.Sort.median
 dsimp only
 omega
def R5 (hp:Hp)(v:Value)(a b:Int)(s:Nat):Prop:= ∃q d k,C3 hp v q d∧0≤a∧a < (d.size:Int)∧0≤b∧b < (d.size:Int)∧hp s=Ha k∧k≤1000
def Ug:BB:= .det (fun args hp _=>match args with | [v, .int .i64 a, .int .i64 b, .pointer (some ⟨s,0,none⟩)]=>R5 hp v a b s | _=>False)
 (fun args hp top=>match args with
  | [v,a,b, .pointer (some ⟨s,_,_⟩)]=>(.tuple ⟨[.int .i64 (Go.Sort.order2 ltInt (GZ hp v) (intOf a).toNat (intOf b).toNat (P4 hp s)).1, .int .i64 (Go.Sort.order2 ltInt (GZ hp v) (intOf a).toNat (intOf b).toNat (P4 hp s)).2.1]⟩, [(s,Ha (Go.Sort.order2 ltInt (GZ hp v) (intOf a).toNat (intOf b).toNat (P4 hp s)).2.2)],top)
  |_=>(undef, [],top))
theorem TJ {hp:Hp}{s k top:Nat}(hcl:Cl hp top)(h:hp s=Ha k):s < top:=hcl.lt s _ h
theorem UM {ρ:Nat→Nat}{k:Nat}:KC ρ (Ha k)=Ha k:=rfl
theorem tB:A4 Tryz.prog 142 Ug:=by
 refine .Ci MC ?_
 intro args hp top hpre hcl hsc
 match args,hpre with
 | [v, .int .i64 a, .int .i64 b, .pointer (some ⟨s,0,none⟩)],hpre=>
 obtain ⟨q,d,k,hrow,h1,h2,h3,h4,hs,hk⟩:=hpre
 obtain ⟨a,rfl⟩:=Int.eq_ofNat_of_zero_le h1
 obtain ⟨b,rfl⟩:=Int.eq_ofNat_of_zero_le h3
 have hn:d.size≤35184372088832:=hrow.le
 have hst:=TJ hcl hs
 have hne:=Xa hrow hs
 simp only [hrow.DQ,ED hs,intOf_int,Int.toNat_natCast]
 obtain ⟨rfl,ho,_,_⟩:=hrow
 have hs':hp s=some (.cells true 0 [.int .i64 (k:Int)]):=hs
 have x0:=fun (bb:Nat)=>Ae (b:=bb) hn (show a < d.size by omega)
 have l0:AZ tt.get hp 29 (.pointer (some ⟨q,a,none⟩))=(.int .u32 d[a]!,True):=Ab ho (by omega) (by omega)
 have x1:=fun (bb:Nat)=>Ae (b:=bb) hn (show b < d.size by omega)
 have l1:AZ tt.get hp 29 (.pointer (some ⟨q,b,none⟩))=(.int .u32 d[b]!,True):=Ab ho (by omega) (by omega)
 have w1:AL .i64 ((k:Int)+1)=((k+1:Nat):Int):=by rw [wrap64 (by omega) (by omega)];omega
 refine AK.A5 BC MC rfl 28 rfl [.tmp 8, .tmp 9] rfl (show 4≤28 by decide) ?_
 by_cases c:ltInt d[b]! d[a]! = true
 ·have e:Go.Sort.order2 ltInt d a b k=(b,a,k+1):=by unfold Go.Sort.order2;rw [if_pos c]
  simp only [e]
  refine CW.vc Aq [0,1,2,3,8,9,18] (by kernel_rfl) ?_
  (repeat ((try refine Vc.mk' ?_);simp (config:= {maxSteps:=6000000}) only [go_sem,Nat.reduceAdd,x0,l0,x1,l1,Bh,BR,c,hs',w1]))
  (refine ⟨[],by simp,by simp,by simp, ?_, ?_, ?_⟩ <;> simp [A3,Bi,AA.nil,AA.cons,BJ,BI,AB,AH.Aw,AH.refl,AP hst,Ha])
 ·have c':ltInt d[b]! d[a]! = false:=by simpa using c
  have e:Go.Sort.order2 ltInt d a b k=(a,b,k):=by unfold Go.Sort.order2;rw [if_neg c]
  simp only [e]
  refine CW.vc Aq [0,1,2,3,8,9,18] (by kernel_rfl) ?_
  (repeat ((try refine Vc.mk' ?_);simp (config:= {maxSteps:=6000000}) only [go_sem,Nat.reduceAdd,x0,l0,x1,l1,Bh,BR,c']))
  (refine ⟨[],by simp,by simp,by simp, ?_, ?_, ?_⟩ <;> simp [A3,Bi,AA.nil,AA.cons,BJ,BI,AH.refl,AP hst,Ha,hs'])
def u7:FuncId→BB:=Bj pk 142 Ug
theorem lO:B7 Tryz.prog tt.get u7:=Aq.add tB
theorem sI:u7 142=Ug:=rfl
def T9 (hp:Hp)(v:Value)(a b c:Int)(s:Nat):Prop:= ∃q d k,C3 hp v q d∧0≤a∧a < (d.size:Int)∧0≤b∧b < (d.size:Int)∧0≤c∧c < (d.size:Int)∧hp s=Ha k∧k≤900
def Gi:BB:= .det (fun args hp _=>match args with | [v, .int .i64 a, .int .i64 b, .int .i64 c, .pointer (some ⟨s,0,none⟩)]=>T9 hp v a b c s | _=>False)
 (fun args hp top=>match args with
  | [v,a,b,c, .pointer (some ⟨s,_,_⟩)]=>(.int .i64 (Go.Sort.median ltInt (GZ hp v) (intOf a).toNat (intOf b).toNat (intOf c).toNat (P4 hp s)).1, [(s,Ha (Go.Sort.median ltInt (GZ hp v) (intOf a).toNat (intOf b).toNat (intOf c).toNat (P4 hp s)).2)],top)
  |_=>(undef, [],top))
theorem rY:A4 Tryz.prog 136 Gi:=by
 refine .Ci MT ?_
 intro args hp top hpre hcl hsc
 match args,hpre with
 | [v, .int .i64 a, .int .i64 b, .int .i64 c, .pointer (some ⟨s,0,none⟩)],hpre=>
 obtain ⟨q,d,k,hrow,h1,h2,h3,h4,h5,h6,hs,hk⟩:=hpre
 obtain ⟨a,rfl⟩:=Int.eq_ofNat_of_zero_le h1
 obtain ⟨b,rfl⟩:=Int.eq_ofNat_of_zero_le h3
 obtain ⟨c,rfl⟩:=Int.eq_ofNat_of_zero_le h5
 have hn:d.size≤35184372088832:=hrow.le
 have h0:0 < d.size:=hrow.pos
 have hst:=TJ hcl hs
 have hne:=Xa hrow hs
 simp only [hrow.DQ,ED hs,intOf_int,Int.toNat_natCast]
 obtain ⟨rfl,ho,_,_⟩:=hrow
 have g1:=NM (d:=d) (k:=k) (n:=d.size) (show a < d.size by omega) (show b < d.size by omega)
 have eM:Go.Sort.median ltInt d a b c k=((Go.Sort.order2 ltInt d (Go.Sort.order2 ltInt d a b k).1 (Go.Sort.order2 ltInt d (Go.Sort.order2 ltInt d a b k).2.1 c (Go.Sort.order2 ltInt d a b k).2.2).1 (Go.Sort.order2 ltInt d (Go.Sort.order2 ltInt d a b k).2.1 c (Go.Sort.order2 ltInt d a b k).2.2).2.2).2.1,(Go.Sort.order2 ltInt d (Go.Sort.order2 ltInt d a b k).1 (Go.Sort.order2 ltInt d (Go.Sort.order2 ltInt d a b k).2.1 c (Go.Sort.order2 ltInt d a b k).2.2).1 (Go.Sort.order2 ltInt d (Go.Sort.order2 ltInt d a b k).2.1 c (Go.Sort.order2 ltInt d a b k).2.2).2.2).2.2):=rfl
 rw [eM]
 generalize e1:Go.Sort.order2 ltInt d a b k=r1 at g1
 have g2:=NM (d:=d) (k:=r1.2.2) (n:=d.size) g1.2.1 (show c < d.size by omega)
 generalize e2:Go.Sort.order2 ltInt d r1.2.1 c r1.2.2=r2 at g2
 have g3:=NM (d:=d) (k:=r2.2.2) (n:=d.size) g1.1 g2.1
 generalize e3:Go.Sort.order2 ltInt d r1.1 r2.1 r2.2.2=r3 at g3
 have hP:∀ {h':Hp} (x y j:Nat),h' q=AO d→h' s=Ha j→x < d.size→y < d.size→j≤1000→R5 h' (.slice (some ⟨q,0,none⟩) d.size d.size) (x:Int) (y:Int) s=True:=fun x y j e f u v w=>eq_true ⟨q,d,j,CR e rfl h0 hn,by omega,by omega,by omega,by omega,f,w⟩
 have p1:R5 hp (.slice (some ⟨q,0,none⟩) d.size d.size) (a:Int) (b:Int) s=True:=hP a b k ho hs (by omega) (by omega) (by omega)
 have p2:∀ {h':Hp},h' q=AO d→h' s=Ha r1.2.2→R5 h' (.slice (some ⟨q,0,none⟩) d.size d.size) (r1.2.1:Int) (c:Int) s=True:=fun e f=>hP _ c _ e f g1.2.1 (by omega) (by omega)
 have p3:∀ {h':Hp},h' q=AO d→h' s=Ha r2.2.2→R5 h' (.slice (some ⟨q,0,none⟩) d.size d.size) (r1.1:Int) (r2.1:Int) s=True:=fun e f=>hP _ _ _ e f g1.1 g2.1 (by omega)
 have hD:∀ {h':Hp},h' q=AO d→GZ h' (.slice (some ⟨q,0,none⟩) d.size d.size)=d:=fun e=>(CR e rfl h0 hn).DQ
 have k0:P4 hp s=k:=ED hs
 have k1:∀ {h':Hp},h' s=Ha r1.2.2→P4 h' s=r1.2.2:=fun e=>ED e
 have k2:∀ {h':Hp},h' s=Ha r2.2.2→P4 h' s=r2.2.2:=fun e=>ED e
 have rq:∀ {h':Hp} {o:Option Av},(h'.set s o) q=h' q:=fun {h'} {o}=>by simp only [Hp.set,if_neg hne]
 have rs:∀ {h':Hp} {o:Option Av},(h'.set s o) s=o:=fun {h'} {o}=>by simp only [Hp.set,if_true]
 refine AK.A5 BC MT rfl 36 rfl [.tmp 10] rfl (show 5≤36 by decide) ?_
 refine CW.vc lO [0,1,2,3,4,10] (by kernel_rfl) ?_
 (repeat ((try refine Vc.mk' ?_);simp (config:= {maxSteps:=6000000}) only [go_sem,Nat.reduceAdd,sI,Ug,p1,p2,p3,hD,ho,k0,k1,k2,rq,rs,Int.toNat_natCast,e1,e2,e3]))
 (refine ⟨[],by simp,by simp,by simp, ?_, ?_, ?_⟩ <;> simp [A3,AA.nil,AA.cons,AB,AH.Aw,AH.refl,AP hst,UM])
end Go.Proofs.YthpibnpeaidabaaGreatDoor.Dm
