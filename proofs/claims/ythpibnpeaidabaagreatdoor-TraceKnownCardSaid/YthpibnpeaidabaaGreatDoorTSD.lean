/- slices.Sort of []uint32: pdqsort. -/
import Derived.Test.YthpibnpeaidabaaGreatDoorTSU
set_option linter.unusedSimpArgs false
set_option linter.unusedVariables false
namespace Go.Proofs.YthpibnpeaidabaaGreatDoor.Dm
open Go.Dm
open Go.Sort (ltInt swp)
set_option maxHeartbeats 64000000
set_option maxRecDepth 20000
theorem R5 {d:Array Int}{a b p:Nat}(h1:a < b)(h2:b≤d.size):a < (Go.Sort.partitionEqual ltInt d a b p).1∧(Go.Sort.partitionEqual ltInt d a b p).1≤b:=by
 have h:=Go.Sort.partEqLoop_spec ltInt a b _ (a+1) (b - 1) (swp d a p) (Nat.le_refl _) (Nat.lt_succ_self a) (by omega) (by omega) (by rw [swp_size];exact h2) (fun t h1 h2=>by omega) (fun t h1 h2=>by omega)
 exact ⟨h.1,h.2.1⟩
theorem Mm {d:Array Int}{a b p:Nat}(h1:a≤p)(h2:p < b)(h3:b≤d.size):a≤(Go.Sort.partition ltInt d a b p).1∧(Go.Sort.partition ltInt d a b p).1 < b:=by
 have h:=Go.Sort.partition_holds ltInt Go.Sort.swo_ltInt d a b p h1 h2 h3
 exact ⟨h.1,h.2.1⟩
theorem fO {P:Program}{sz base:Nat}{c:Code}{s:SS}{Q:Exit→SS→Prop}(s':SS)(hs:∃ρ,A9 ρ base s' s)(h:CW P sz base c s' Q):CW P sz base c s Q:=by
 obtain ⟨ρ,hs⟩:=hs
 exact CW.QW hs h
structure E0 (d:Array Int) (a b Ep:Nat) (wb wp:Bool) (d1:Array Int) (l1 c:Nat) (H:Go.Sort.Hint) (d2:Array Int) (p:Nat) (d3:Array Int) (r:Bool):Prop where
 f1:(if (!wb)=true then Go.Sort.breakPatterns d a b else d)=d1
 f2:(if (!wb)=true then Ep - 1 else Ep)=l1
 f3:Go.Sort.choosePivot ltInt d1 a b=(c,H)
 f4:(if H= .decreasing then Go.Sort.reverseRange d1 a b else d1)=d2
 f5:(if H= .decreasing then (b - 1) - (c - a) else c)=p
 f6:(if (wb && wp && decide ((if H= .decreasing then Go.Sort.Hint.increasing else H)= .increasing))=true then Go.Sort.partialInsertionSort ltInt d2 a b else (d2,false))=(d3,r)
theorem E0.ex (d:Array Int)(a b Ep:Nat)(wb wp:Bool):∃d1 l1 c H d2 p d3 r,E0 d a b Ep wb wp d1 l1 c H d2 p d3 r:=⟨_,_,_,_,_,_,_,_,⟨rfl,rfl,rfl,rfl,rfl,rfl⟩⟩
section
variable {d d1 d2 d3:Array Int} {a b Ep l1 c p:Nat} {wb wp r:Bool} {H:Go.Sort.Hint}
theorem E0.s1 (h:E0 d a b Ep wb wp d1 l1 c H d2 p d3 r):d1.size=d.size:=by
 rw [←h.f1];split
 ·exact I7
 ·rfl
theorem E0.s2 (h:E0 d a b Ep wb wp d1 l1 c H d2 p d3 r):d2.size=d.size:=by
 rw [←h.f4,←h.s1];split
 ·exact On
 ·rfl
theorem E0.s3 (h:E0 d a b Ep wb wp d1 l1 c H d2 p d3 r):d3.size=d.size:=by
 have e:=h.f6
 rw [←h.s2]
 generalize (wb && wp && decide ((if H= .decreasing then Go.Sort.Hint.increasing else H)= .increasing))=x at e
 cases x with
 |true=>
  rw [if_pos rfl] at e
  have:=Kw (d:=d2) (a:=a) (b:=b)
  rw [e] at this;exact this
 |false=>
  rw [if_neg Bool.false_ne_true] at e
  rw [(Prod.mk.inj e).1]
theorem E0.cr (h:E0 d a b Ep wb wp d1 l1 c H d2 p d3 r)(hab:a < b):a≤c∧c < b:=by
 have:=Go.Sort.choosePivot_holds ltInt d1 a b hab
 rw [h.f3] at this;exact this
theorem E0.pr (h:E0 d a b Ep wb wp d1 l1 c H d2 p d3 r)(hab:a < b):a≤p∧p < b:=by
 have:=h.cr hab
 rw [←h.f5];split <;> omega
theorem E0.ll (h:E0 d a b Ep wb wp d1 l1 c H d2 p d3 r):l1≤Ep:=by
 rw [←h.f2];split <;> omega
theorem E0.open (h:E0 d a b Ep wb wp d1 l1 c H d2 p d3 r)(h12:¬b - a≤12)(hl:¬Ep=0):Go.Sort.pdq ltInt d a b Ep wb wp =
  if r=true then d3 else
  if (decide (a > 0) && !ltInt d3[a - 1]! d3[p]!)=true then
   (match Go.Sort.partitionEqual ltInt d3 a b p with
   | (mid,d4)=>if _h:a < mid∧mid≤b then Go.Sort.pdq ltInt d4 mid b l1 wb wp else d4)
  else
   (match Go.Sort.partition ltInt d3 a b p with
   | (mid,ap,d4)=>if _h:a≤mid∧mid < b then
     if mid - a < b - mid then
      Go.Sort.pdq ltInt (Go.Sort.pdq ltInt d4 a mid l1 true true) (mid+1) b l1 (decide (mid - a≥(b - a) / 8)) ap
     else
      Go.Sort.pdq ltInt (Go.Sort.pdq ltInt d4 (mid+1) b l1 true true) a mid l1 (decide (b - mid≥(b - a) / 8)) ap
    else d4):=by
 rw [Go.Sort.pdq,if_neg h12,if_neg hl]
 simp only [h.f1,h.f2,h.f3,h.f4,h.f5,h.f6]
theorem E0.done (h:E0 d a b Ep wb wp d1 l1 c H d2 p d3 true)(h12:¬b - a≤12)(hl:¬Ep=0):Go.Sort.pdq ltInt d a b Ep wb wp=d3:=by
 rw [h.open h12 hl,if_pos rfl]
theorem E0.eq (h:E0 d a b Ep wb wp d1 l1 c H d2 p d3 false)(h12:¬b - a≤12)(hl:¬Ep=0)(h0:0 < a)(hc:ltInt d3[a - 1]! d3[p]! = false){mid:Nat}{d4:Array Int}(he:Go.Sort.partitionEqual ltInt d3 a b p=(mid,d4))(hr:a < mid∧mid≤b) :
  Go.Sort.pdq ltInt d a b Ep wb wp=Go.Sort.pdq ltInt d4 mid b l1 wb wp:=by
 rw [h.open h12 hl,if_neg Bool.false_ne_true,if_pos (by simp [h0,hc]),he]
 dsimp only
 rw [dif_pos hr]
theorem E0.pt (h:E0 d a b Ep wb wp d1 l1 c H d2 p d3 false)(h12:¬b - a≤12)(hl:¬Ep=0)(hc:a=0∨ltInt d3[a - 1]! d3[p]! = true){mid:Nat}{ap:Bool}{d4:Array Int}(he:Go.Sort.partition ltInt d3 a b p=(mid,ap,d4))(hr:a≤mid∧mid < b) :
  Go.Sort.pdq ltInt d a b Ep wb wp=if mid - a < b - mid then
      Go.Sort.pdq ltInt (Go.Sort.pdq ltInt d4 a mid l1 true true) (mid+1) b l1 (decide (mid - a≥(b - a) / 8)) ap
     else
      Go.Sort.pdq ltInt (Go.Sort.pdq ltInt d4 (mid+1) b l1 true true) a mid l1 (decide (b - mid≥(b - a) / 8)) ap:=by
 rw [h.open h12 hl,if_neg Bool.false_ne_true,if_neg (by rcases hc with hc | hc <;> simp [hc]),he]
 dsimp only
 rw [dif_pos hr]
end
theorem JM:∀(k:Nat) (d:Array Int) (a b Ep:Nat) (wb wp:Bool),b - a≤k→b≤d.size→(Go.Sort.pdq ltInt d a b Ep wb wp).size=d.size:=by
 intro k
 induction k with
 |zero=>
  intro d a b Ep wb wp h hb
  rw [Go.Sort.pdq,if_pos (by omega),FT]
 |succ k ih=>
  intro d a b Ep wb wp h hb
  by_cases h12:b - a≤12
  ·rw [Go.Sort.pdq,if_pos h12,FT]
  by_cases hl:Ep=0
  ·rw [Go.Sort.pdq,if_neg h12,if_pos hl,NQ]
  obtain ⟨d1,l1,c,H,d2,p,d3,r,hS⟩:=E0.ex d a b Ep wb wp
  have s3:=hS.s3
  rw [hS.open h12 hl]
  have hp:=hS.pr (by omega)
  split
  ·exact s3
  split
  ·have h1:=R5 (d:=d3) (a:=a) (b:=b) (p:=p) (by omega) (by omega)
   have h2:=Ex (d:=d3) (a:=a) (b:=b) (p:=p)
   generalize Go.Sort.partitionEqual ltInt d3 a b p=x at h1 h2
   obtain ⟨mid,d4⟩:=x
   dsimp only at h1 h2 ⊢
   rw [dif_pos h1,ih _ _ _ _ _ _ (by omega) (by omega),h2,s3]
  ·have h1:=Mm (d:=d3) (a:=a) (b:=b) (p:=p) hp.1 hp.2 (by omega)
   have h2:=FJ (d:=d3) (a:=a) (b:=b) (p:=p)
   generalize Go.Sort.partition ltInt d3 a b p=x at h1 h2
   obtain ⟨mid,ap,d4⟩:=x
   dsimp only at h1 h2 ⊢
   rw [dif_pos h1]
   split
   ·have h3:=ih d4 a mid l1 true true (by omega) (by omega)
    rw [ih _ _ _ _ _ _ (by omega) (by omega),h3,h2,s3]
   ·have h3:=ih d4 (mid+1) b l1 true true (by omega) (by omega)
    rw [ih _ _ _ _ _ _ (by omega) (by omega),h3,h2,s3]
def L3 (k:Nat)(hp:Hp)(v:Value)(a b l:Int):Prop:=0 < k∧((v= .slice none 0 0∧a=0∧b=0)∨(∃q d,Db hp v q d∧0≤a∧a≤b∧b≤(d.size:Int)∧b - a < (k:Int)∧0≤l∧l≤64))
def Ha (k:Nat):BO:= .det (fun args hp _=>match args with | [v, .int .i64 a, .int .i64 b, .int .i64 l]=>L3 k hp v a b l | _=>False)
 (fun args hp top=>match args with | [v,a,b,l]=>(.tuple ⟨[]⟩,QZ v (Go.Sort.pdq ltInt (Gy hp v) (intOf a).toNat (intOf b).toNat (intOf l).toNat true true),top) | _=>(undef, [],top))
def pP:FuncId→BO:=Bd (Bd (Bd (Bd (Bd (Bd (Bd (Bd oQ 107 OA) 108 (Gz (Go.Sort.heapSort ltInt))) 109 (Gz Go.Sort.breakPatterns)) 110 Ni) 111 (Gz Go.Sort.reverseRange)) 112 Nu) 114 WD) 115 Ln
theorem lh:B9 Tryz.prog tt.get pP:=(((((((A3.add kD).add jb).add pB).add qF).add UC).add qi).add qs).add qW
def bA (k:Nat):FuncId→BO:=Bd pP 79 (Ha k)
theorem ku {k:Nat}:bA k 107=OA:=rfl
theorem pg {k:Nat}:bA k 108=Gz (Go.Sort.heapSort ltInt):=rfl
theorem o6 {k:Nat}:bA k 109=Gz Go.Sort.breakPatterns:=rfl
theorem aj {k:Nat}:bA k 110=Ni:=rfl
theorem kZ {k:Nat}:bA k 111=Gz Go.Sort.reverseRange:=rfl
theorem bm {k:Nat}:bA k 112=Nu:=rfl
theorem qO {k:Nat}:bA k 114=WD:=rfl
theorem UY {k:Nat}:bA k 115=Ln:=rfl
theorem Vo {k:Nat}:bA k 79=Ha k:=rfl
theorem ZS {k:Nat}:bA k 113=Ba ltInt:=rfl
def K4 (hp:Hp)(top:Nat)(q n:Nat)(x:Nat×Nat×Nat×Bool×Bool×Array Int):SS:=⟨[(0, .slice (some ⟨q,0,none⟩) n n,true),(1, .int .i64 (x.1:Int),true),(2, .int .i64 (x.2.1:Int),true),(3, .int .i64 (x.2.2.1:Int),true),(8, .bool x.2.2.2.1,true),(9, .bool x.2.2.2.2.1,true)],hp.A0 [(q,Ad x.2.2.2.2.2)],top+0⟩
def UO (hp:Hp)(top:Nat)(q n:Nat)(x:Nat×Nat×Nat×Bool×Bool×Array Int)(m p:Nat):SS:=⟨[(0, .slice (some ⟨q,0,none⟩) n n,true),(1, .int .i64 (x.1:Int),true),(2, .int .i64 (x.2.1:Int),true),(3, .int .i64 (x.2.2.1:Int),true),(8, .bool x.2.2.2.1,true),(9, .bool x.2.2.2.2.1,true),(10, .int .i64 (m:Int),true),(11, .int .i64 (p:Int),true)],hp.A0 [(q,Ad x.2.2.2.2.2)],top+0⟩
def lN (hp:Hp)(top:Nat):SS:=⟨[(0, .slice none 0 0,true),(1, .int .i64 0,true),(2, .int .i64 0,true)],hp.A0 [],top+0⟩
theorem oC {h':Hp}:cu h' (.slice none 0 0) 0 0=True:=eq_true (.inl ⟨rfl,rfl,rfl⟩)
theorem K8 {x y:Nat}:decide (x < y)= !decide (x≥y):=by
 by_cases h:x < y
 ·rw [decide_eq_true h,decide_eq_false (show ¬x≥y by omega)];rfl
 ·rw [decide_eq_false h,decide_eq_true (show x≥y by omega)];rfl
theorem oh:∀k,BG Tryz.prog 79 (Ha k):=by
 intro k
 induction k with
 |zero=>
  refine .Cy JV ?_
  intro args hp top hpre hcl hsc
  match args,hpre with
  | [v, .int .i64 a, .int .i64 b, .int .i64 l],hpre=>exact absurd hpre.1 (Nat.lt_irrefl 0)
 |succ k ih=>
 have env:B9 Tryz.prog tt.get (bA k):=lh.add ih
 refine .Cy JV ?_
 intro args hp top hpre hcl hsc
 match args,hpre with
 | [v, .int .i64 a, .int .i64 b, .int .i64 l],hpre=>
 obtain ⟨_,⟨rfl,rfl,rfl⟩ | ⟨q,d0,hrow,h1,h2,h3,h4,h5,h6⟩⟩:=hpre
 ·refine Ab.BF BN JV rfl 134 rfl [] rfl (show 4≤134 by decide) ?_
  refine CW.vc env [0,1,2,3,8,9,10,11,12,13,14,15,16,17,18,23,29,35,50,68,72,87,113] (by kernel_rfl) ?_
  (repeat ((try refine Vc.mk' ?_);simp (maxSteps:=6000000) only [go_sem,reduceIte,reduceCtorEq,Nat.reduceAdd,Nat.reduceMul,Nat.reduceSub,Nat.reduceLT,Nat.reduceLeDiff,Nat.reduceEqDiff,Int.reduceEq,Int.reduceLT,Int.reduceLE,Int.reduceNe]))
  refine CW.Bx (fun _:Unit=>lN hp top) (fun _=>True) (fun _=>0) () trivial ((by refine A9.mk' [] hcl (by simp) (by simp) rfl (AZ ?_) ?_ ?_ <;> simp [Ag,BJ,BH,Am,AP,AF,AJ.nil,AJ.cons,AB,AD,AM,AA,AQ,AX,AO,Ax.AL,AG,AV,AE,AH,AK.set,AK.Ao,AK.refl,lN])) ?_
  rintro ⟨⟩ _
  have c12:((12:Int) < 0)=False:=eq_false (by decide)
  refine CW.vc env [0,1,2,3,8,9,10,11,12,13,14,15,16,17,18,23,29,35,50,68,72,87,113] (by kernel_rfl) ?_
  (repeat ((try refine Vc.mk' ?_);simp (maxSteps:=6000000) only [go_sem,reduceIte,reduceCtorEq,Nat.reduceAdd,Nat.reduceMul,Nat.reduceSub,Nat.reduceLT,Nat.reduceLeDiff,Nat.reduceEqDiff,Int.reduceEq,Int.reduceLT,Int.reduceLE,Int.reduceNe,lN,show Ae .i64 (0 - 0)=0 from by decide,c12,decide_false,Bool.not_false,ku,OA,oC,QZ]))
  (refine ⟨[],by simp,by simp,by simp, ?_, ?_, ?_⟩ <;> simp [Ag,BJ,BH,Am,AP,AF,AJ.nil,AJ.cons,AB,AD,AM,AA,AQ,AX,AO,Ax.AL,AG,AV,AE,AH,AK.set,AK.Ao,AK.refl,QZ])
 obtain ⟨a,rfl⟩:=Int.eq_ofNat_of_zero_le h1
 obtain ⟨b,rfl⟩:=Int.eq_ofNat_of_zero_le (Int.le_trans h1 h2)
 obtain ⟨l,rfl⟩:=Int.eq_ofNat_of_zero_le h5
 have hn:d0.size≤35184372088832:=hrow.le
 have h0:0 < d0.size:=hrow.pos
 have hqt:=hrow.Xw hcl
 simp only [hrow.D5,hrow.MZ,intOf_int,Int.toNat_natCast]
 obtain ⟨rfl,ho,_,_⟩:=hrow
 generalize hR:Go.Sort.pdq ltInt d0 a b l true true=R
 obtain ⟨n,hnd⟩:∃n,n=d0.size:=⟨_,rfl⟩
 rw [←hnd] at hn h0 h3 ⊢
 have gRow:∀ {h':Hp} {e:Array Int},e.size=n→h' q=Ad e→Db h' (.slice (some ⟨q,0,none⟩) n n) q e:=fun es e=>Co e es h0 hn
 refine Ab.BF BN JV rfl 134 rfl [] rfl (show 4≤134 by decide) ?_
 refine CW.vc env [0,1,2,3,8,9,10,11,12,13,14,15,16,17,18,23,29,35,50,68,72,87,113] (by kernel_rfl) ?_
 (repeat ((try refine Vc.mk' ?_);simp (maxSteps:=6000000) only [go_sem,reduceIte,reduceCtorEq,Nat.reduceAdd,Nat.reduceMul,Nat.reduceSub,Nat.reduceLT,Nat.reduceLeDiff,Nat.reduceEqDiff,Int.reduceEq,Int.reduceLT,Int.reduceLE,Int.reduceNe,ho]))
 refine CW.Bx (K4 hp top q n) (fun x=>x.1≤x.2.1∧x.2.1≤n∧x.2.1 - x.1≤k∧x.2.2.1≤64∧x.2.2.2.2.2.size=n∧Go.Sort.pdq ltInt x.2.2.2.2.2 x.1 x.2.1 x.2.2.1 x.2.2.2.1 x.2.2.2.2.1=R) (fun x=>x.2.1 - x.1) (a,b,l,true,true,d0) ⟨by dsimp only;omega,by dsimp only;omega,by dsimp only;omega,by dsimp only;omega,hnd.symm,hR⟩ ((by refine A9.mk' [] hcl (by simp) (by simp) rfl (AZ ?_) ?_ ?_ <;> simp [Ag,BJ,BH,Am,AP,AF,AJ.nil,AJ.cons,AB,AD,AM,AA,AQ,AX,AO,Ax.AL,AG,AV,AE,AH,AK.set,AK.Ao,AK.refl,K4,Af hqt,AY,ho])) ?_
 clear hR h1 h2 h3 h4 h5 h6 ho hnd
 rintro ⟨a,b,Ep,wb,wp,d⟩ ⟨hab,hbn,hbk,hl64,hds,hfe⟩
 dsimp only at hab hbn hbk hl64 hds hfe ⊢
 obtain ⟨m,hm⟩:∃m:Nat,m=b - a:=⟨_,rfl⟩
 have wm:Ae .i64 ((b:Int) - (a:Int))=((m:Nat):Int):=by rw [wrap64 (by omega) (by omega)];omega
 have D0:∀ {h':Hp},h' q=Ad d→Gy h' (.slice (some ⟨q,0,none⟩) n n)=d:=fun e=>(gRow hds e).D5
 by_cases h12:b - a≤12
 ·have c12:((12:Int) < (m:Int))=False:=eq_false (by omega)
  have p0:∀ {h':Hp},h' q=Ad d→cu h' (.slice (some ⟨q,0,none⟩) n n) (a:Int) (b:Int)=True:=fun e=>eq_true (.inr ⟨q,d,gRow hds e,by omega,by omega,by omega⟩)
  rw [Go.Sort.pdq,if_pos h12] at hfe
  rw [←hfe]
  refine CW.vc env [0,1,2,3,8,9,10,11,12,13,14,15,16,17,18,23,29,35,50,68,72,87,113] (by kernel_rfl) ?_
  (repeat ((try refine Vc.mk' ?_);simp (maxSteps:=6000000) only [go_sem,reduceIte,reduceCtorEq,Nat.reduceAdd,Nat.reduceMul,Nat.reduceSub,Nat.reduceLT,Nat.reduceLeDiff,Nat.reduceEqDiff,Int.reduceEq,Int.reduceLT,Int.reduceLE,Int.reduceNe,K4,wm,c12,decide_false,Bool.not_false,ku,OA,p0,D0,D8,Int.toNat_natCast]))
  (refine ⟨[],by simp,by simp,by simp, ?_, ?_, ?_⟩ <;> simp [Ag,BJ,BH,Am,AP,AF,AJ.nil,AJ.cons,AB,AD,AM,AA,AQ,AX,AO,Ax.AL,AG,AV,AE,AH,AK.set,AK.Ao,AK.refl,Af hqt,AY])
 have c12:((12:Int) < (m:Int))=True:=eq_true (by omega)
 have p0:∀ {h':Hp},h' q=Ad d→NX h' (.slice (some ⟨q,0,none⟩) n n) (a:Int) (b:Int)=True:=fun e=>eq_true ⟨q,d,gRow hds e,by omega,by omega,by omega⟩
 by_cases hl:Ep=0
 ·have cl:((Ep:Int)=0)=True:=eq_true (by omega)
  rw [Go.Sort.pdq,if_neg h12,if_pos hl] at hfe
  rw [←hfe]
  refine CW.vc env [0,1,2,3,8,9,10,11,12,13,14,15,16,17,18,23,29,35,50,68,72,87,113] (by kernel_rfl) ?_
  (repeat ((try refine Vc.mk' ?_);simp (maxSteps:=6000000) only [go_sem,reduceIte,reduceCtorEq,Nat.reduceAdd,Nat.reduceMul,Nat.reduceSub,Nat.reduceLT,Nat.reduceLeDiff,Nat.reduceEqDiff,Int.reduceEq,Int.reduceLT,Int.reduceLE,Int.reduceNe,K4,wm,c12,decide_true,Bool.not_true,cl,pg,Gz,p0,D0,D8,Int.toNat_natCast]))
  (refine ⟨[],by simp,by simp,by simp, ?_, ?_, ?_⟩ <;> simp [Ag,BJ,BH,Am,AP,AF,AJ.nil,AJ.cons,AB,AD,AM,AA,AQ,AX,AO,Ax.AL,AG,AV,AE,AH,AK.set,AK.Ao,AK.refl,Af hqt,AY])
 have cl:((Ep:Int)=0)=False:=eq_false (by omega)
 obtain ⟨d1,l1,c,H,d2,p,d3,r,hS⟩:=E0.ex d a b Ep wb wp
 have s1:=hS.s1.trans hds
 have s2:=hS.s2.trans hds
 have s3:=hS.s3.trans hds
 have hpr:=hS.pr (by omega)
 have hcr:=hS.cr (by omega)
 have hll:=hS.ll
 have p1:∀ {h':Hp},h' q=Ad d1→NX h' (.slice (some ⟨q,0,none⟩) n n) (a:Int) (b:Int)=True:=fun e=>eq_true ⟨q,d1,gRow s1 e,by omega,by omega,by omega⟩
 have p2:∀ {h':Hp},h' q=Ad d2→NX h' (.slice (some ⟨q,0,none⟩) n n) (a:Int) (b:Int)=True:=fun e=>eq_true ⟨q,d2,gRow s2 e,by omega,by omega,by omega⟩
 have p3:∀ {h':Hp},h' q=Ad d3→cG h' (.slice (some ⟨q,0,none⟩) n n) (a:Int) (b:Int) (p:Int)=True:=fun e=>eq_true ⟨q,d3,gRow s3 e,by omega,by omega,by omega,by omega⟩
 have D1:∀ {h':Hp},h' q=Ad d1→Gy h' (.slice (some ⟨q,0,none⟩) n n)=d1:=fun e=>(gRow s1 e).D5
 have D2:∀ {h':Hp},h' q=Ad d2→Gy h' (.slice (some ⟨q,0,none⟩) n n)=d2:=fun e=>(gRow s2 e).D5
 have D3:∀ {h':Hp},h' q=Ad d3→Gy h' (.slice (some ⟨q,0,none⟩) n n)=d3:=fun e=>(gRow s3 e).D5
 obtain ⟨hd1,hl1,hc,hd2,hp1,hpi⟩:=id hS
 have hb2:∀x:Bool,x=true∨x=false:=fun x=>by cases x <;> simp
 have hH3:H= .unknown∨H= .increasing∨H= .decreasing:=by cases H <;> simp
 have hL1:wb=false→Ep - 1=l1:=fun h=>by simpa [h] using hl1
 have hL2:wb=true→Ep=l1:=fun h=>by simpa [h] using hl1
 have wl:wb=false→Ae .i64 ((Ep:Int) - 1)=(l1:Int):=fun h=>by have:=hL1 h;rw [wrap64 (by omega) (by omega)];omega
 obtain ⟨b1,hb1⟩:∃m:Nat,m=b - 1:=⟨_,rfl⟩
 obtain ⟨ca,hca⟩:∃m:Nat,m=c - a:=⟨_,rfl⟩
 have wb1:Ae .i64 ((b:Int) - 1)=((b1:Nat):Int):=by rw [wrap64 (by omega) (by omega)];omega
 have wca:Ae .i64 ((c:Int) - (a:Int))=((ca:Nat):Int):=by rw [wrap64 (by omega) (by omega)];omega
 have wpd:H= .decreasing→Ae .i64 ((b1:Int) - (ca:Int))=(p:Int):=fun h=>by rw [h,if_pos rfl] at hp1;rw [wrap64 (by omega) (by omega)];omega
 cases r with
 |true=>
  have hx:wb=true∧wp=true∧(if H= .decreasing then Go.Sort.Hint.increasing else H)= .increasing:=by
   cases wb <;> cases wp <;> cases H <;> simp_all
  obtain ⟨hwb,hwp,hH2⟩:=hx
  rw [hwb,hwp,hH2] at hpi
  rw [hwb] at hd1
  simp only [Bool.not_true,Bool.false_eq_true,if_false,decide_true,Bool.and_self,if_true] at hd1 hpi
  have hRe:=hS.done h12 hl
  rw [←hfe,hRe]
  rcases hH3 with hH | hH | hH
  ·rw [hH] at hH2
   simp at hH2
  ·rw [hH,if_neg (by decide)] at hd2
   rw [hd2] at hc
   refine CW.vc env [0,1,2,3,8,9,10,11,12,13,14,15,16,17,18,23,29,35,50,68,72,87,113] (by kernel_rfl) ?_
   (repeat ((try refine Vc.mk' ?_);simp (maxSteps:=6000000) only [go_sem,reduceIte,reduceCtorEq,Nat.reduceAdd,Nat.reduceMul,Nat.reduceSub,Nat.reduceLT,Nat.reduceLeDiff,Nat.reduceEqDiff,Int.reduceEq,Int.reduceLT,Int.reduceLE,Int.reduceNe,K4,wm,c12,decide_true,decide_false,Bool.not_true,Bool.not_false,cl,hwb,hwp,aj,Ni,p0,p1,D0,D1,hd1,hc,hH,HU,hd2,bm,Nu,p2,D2,hpi,D8,Int.toNat_natCast]))
   (refine ⟨[],by simp,by simp,by simp, ?_, ?_, ?_⟩ <;> simp [Ag,BJ,BH,Am,AP,AF,AJ.nil,AJ.cons,AB,AD,AM,AA,AQ,AX,AO,Ax.AL,AG,AV,AE,AH,AK.set,AK.Ao,AK.refl,Af hqt,AY])
  ·rw [hH,if_pos rfl] at hd2
   have wpd:=wpd hH
   refine CW.vc env [0,1,2,3,8,9,10,11,12,13,14,15,16,17,18,23,29,35,50,68,72,87,113] (by kernel_rfl) ?_
   (repeat ((try refine Vc.mk' ?_);simp (maxSteps:=6000000) only [go_sem,reduceIte,reduceCtorEq,Nat.reduceAdd,Nat.reduceMul,Nat.reduceSub,Nat.reduceLT,Nat.reduceLeDiff,Nat.reduceEqDiff,Int.reduceEq,Int.reduceLT,Int.reduceLE,Int.reduceNe,K4,wm,c12,decide_true,decide_false,Bool.not_true,Bool.not_false,cl,hwb,hwp,aj,Ni,p0,p1,D0,D1,hd1,hc,hH,HU,hd2,kZ,Gz,bm,Nu,p2,D2,hpi,wb1,wca,wpd,D8,Int.toNat_natCast]))
   (refine ⟨[],by simp,by simp,by simp, ?_, ?_, ?_⟩ <;> simp [Ag,BJ,BH,Am,AP,AF,AJ.nil,AJ.cons,AB,AD,AM,AA,AQ,AX,AO,Ax.AL,AG,AV,AE,AH,AK.set,AK.Ao,AK.refl,Af hqt,AY])
 |false=>
 apply Yz (A:=True)
 ·intro rest
  rcases hb2 wb with hwb | hwb <;> rcases hb2 wp with hwp | hwp <;> rcases hH3 with hH | hH | hH <;> (
   simp only [hwb,hwp,hH,Bool.not_true,Bool.not_false,Bool.false_eq_true,if_true,if_false,reduceCtorEq,decide_true,decide_false,Bool.and_self,Bool.and_true,Bool.and_false,Bool.true_and,Bool.false_and,Prod.mk.injEq,and_true] at hd1 hl1 hd2 hp1 hpi
   try rw [hd2] at hc
   try rw [hpi] at hc
   first | have wl:=wl hwb | have wl:=hwb
   first | have wpd:=wpd hH | have wpd:=hH
   refine CW.vc env [0,1,2,3,8,9,10,11,12,13,14,15,16,17,18,23,29,35,50,68,72,87,113,1000017] (by kernel_rfl) ?_
   (repeat ((try refine Vc.mk' ?_);simp (maxSteps:=6000000) only [go_sem,reduceIte,reduceCtorEq,Nat.reduceAdd,Nat.reduceMul,Nat.reduceSub,Nat.reduceLT,Nat.reduceLeDiff,Nat.reduceEqDiff,Int.reduceEq,Int.reduceLT,Int.reduceLE,Int.reduceNe,K4,wm,c12,decide_true,decide_false,Bool.not_true,Bool.not_false,cl,hwb,hwp,o6,Gz,wl,aj,Ni,p0,p1,D0,D1,hd1,hc,hH,HU,hd2,kZ,bm,Nu,p2,D2,hpi,wb1,wca,wpd,D8,Int.toNat_natCast]))
   refine fO (UO hp top q n (a,b,l1,wb,wp,d3) m p) ((by refine A9.mk' [] hcl (by simp) (by simp) rfl (AZ ?_) ?_ ?_ <;> simp [Ag,BJ,BH,Am,AP,AF,AJ.nil,AJ.cons,AB,AD,AM,AA,AQ,AX,AO,Ax.AL,AG,AV,AE,AH,AK.set,AK.Ao,AK.refl,UO,Af hqt,AY,hwb,hwp,hl1,hp1])) ?_
   exact rest trivial)
 ·intro _
  clear hd1 hl1 hc hd2 hp1 hpi hL1 hL2 wl wpd p0 p1 p2 D0 D1 D2
  by_cases ha0:0 < a
  ·have c0:((0:Int) < (a:Int))=True:=eq_true (by omega)
   obtain ⟨am,ham⟩:∃m:Nat,m=a - 1:=⟨_,rfl⟩
   have wam:Ae .i64 ((a:Int) - 1)=((am:Nat):Int):=by rw [wrap64 (by omega) (by omega)];omega
   cases hlt:ltInt d3[am]! d3[p]!
   ·have x1:=fun (bb:Nat)=>Ar (b:=bb) hn (show p < n by omega)
    have l1':∀ {h':Hp},h' q=Ad d3→An tt.get h' 29 (.pointer (some ⟨q,p,none⟩))=(.int .u32 d3[p]!,True):=fun hee=>Ap hee (by omega) (by omega)
    have x2:=fun (bb:Nat)=>Ar (b:=bb) hn (show am < n by omega)
    have l2:∀ {h':Hp},h' q=Ad d3→An tt.get h' 29 (.pointer (some ⟨q,am,none⟩))=(.int .u32 d3[am]!,True):=fun hee=>Ap hee (by omega) (by omega)
    generalize he:Go.Sort.partitionEqual ltInt d3 a b p=x
    have h1:=R5 (d:=d3) (a:=a) (b:=b) (p:=p) (by omega) (by omega)
    have h2:=Ex (d:=d3) (a:=a) (b:=b) (p:=p)
    rw [he] at h1 h2
    obtain ⟨mid,d4⟩:=x
    dsimp only at h1 h2
    rw [hS.eq h12 hl (by omega) (by rw [←ham];exact hlt) he h1] at hfe
    refine CW.vc env [0,1,2,3,8,9,10,11,12,13,14,15,16,17,18,23,29,35,50,68,72,87,113] (by kernel_rfl) ?_
    (repeat ((try refine Vc.mk' ?_);simp (maxSteps:=6000000) only [go_sem,reduceIte,reduceCtorEq,Nat.reduceAdd,Nat.reduceMul,Nat.reduceSub,Nat.reduceLT,Nat.reduceLeDiff,Nat.reduceEqDiff,Int.reduceEq,Int.reduceLT,Int.reduceLE,Int.reduceNe,UO,c0,decide_true,wam,x1,l1',x2,l2,ZS,Ba,hlt,Bool.not_false,qO,WD,p3,D3,he,D8,Int.toNat_natCast]))
    refine .mk (mid,b,l1,wb,wp,d4) ⟨by dsimp only;omega,by dsimp only;omega,by dsimp only;omega,by dsimp only;omega,by dsimp only;omega,hfe⟩ (by dsimp only;omega) ((by refine A9.mk' [] hcl (by simp) (by simp) rfl (AZ ?_) ?_ ?_ <;> simp [Ag,BJ,BH,Am,AP,AF,AJ.nil,AJ.cons,AB,AD,AM,AA,AQ,AX,AO,Ax.AL,AG,AV,AE,AH,AK.set,AK.Ao,AK.refl,K4,Af hqt,AY]))
   ·have x1:=fun (bb:Nat)=>Ar (b:=bb) hn (show p < n by omega)
    have l1':∀ {h':Hp},h' q=Ad d3→An tt.get h' 29 (.pointer (some ⟨q,p,none⟩))=(.int .u32 d3[p]!,True):=fun hee=>Ap hee (by omega) (by omega)
    have x2:=fun (bb:Nat)=>Ar (b:=bb) hn (show am < n by omega)
    have l2:∀ {h':Hp},h' q=Ad d3→An tt.get h' 29 (.pointer (some ⟨q,am,none⟩))=(.int .u32 d3[am]!,True):=fun hee=>Ap hee (by omega) (by omega)
    generalize he:Go.Sort.partition ltInt d3 a b p=x
    have h1:=Mm (d:=d3) (a:=a) (b:=b) (p:=p) (by omega) (by omega) (by omega)
    have h2:=FJ (d:=d3) (a:=a) (b:=b) (p:=p)
    rw [he] at h1 h2
    obtain ⟨mid,ap,d4⟩:=x
    dsimp only at h1 h2
    rw [hS.pt h12 hl (.inr (by rw [←ham];exact hlt)) he h1] at hfe
    obtain ⟨ml,hml⟩:∃m:Nat,m=mid - a:=⟨_,rfl⟩
    obtain ⟨mr,hmr⟩:∃m:Nat,m=b - mid:=⟨_,rfl⟩
    obtain ⟨m8,hm8⟩:∃z:Nat,z=m / 8:=⟨_,rfl⟩
    obtain ⟨mp,hmp⟩:∃m:Nat,m=mid+1:=⟨_,rfl⟩
    have wml:Ae .i64 ((mid:Int) - (a:Int))=((ml:Nat):Int):=by rw [wrap64 (by omega) (by omega)];omega
    have wmr:Ae .i64 ((b:Int) - (mid:Int))=((mr:Nat):Int):=by rw [wrap64 (by omega) (by omega)];omega
    have wm8:IntKind.i64.wrap ((m:Int).tdiv 8)=((m8:Nat):Int):=by rw [show (m:Int).tdiv 8=((m / 8:Nat):Int) from rfl,←Cg,wrap64 (by omega) (by omega)];omega
    have wmp:Ae .i64 ((mid:Int)+1)=((mp:Nat):Int):=by rw [wrap64 (by omega) (by omega)];omega
    rw [←hm,←hml,←hmr,←hm8,←hmp] at hfe
    have s4:d4.size=n:=by omega
    have D4:∀ {h':Hp},h' q=Ad d4→Gy h' (.slice (some ⟨q,0,none⟩) n n)=d4:=fun e=>(gRow s4 e).D5
    by_cases hlr:ml < mr
    ·have cc:((ml:Int) < (mr:Int))=True:=eq_true (by omega)
     have p4:∀ {h':Hp},h' q=Ad d4→L3 k h' (.slice (some ⟨q,0,none⟩) n n) (a:Int) (mid:Int) (l1:Int)=True:=fun e=>eq_true ⟨by omega, .inr ⟨q,d4,gRow s4 e,by omega,by omega,by omega,by omega,by omega,by omega⟩⟩
     rw [if_pos hlr] at hfe
     obtain ⟨wv,hwv⟩:∃z:Bool,z=decide (ml≥m8):=⟨_,rfl⟩
     have cw:decide (ml < m8)= !wv:=by rw [hwv,K8]
     rw [←hwv] at hfe
     generalize h5:Go.Sort.pdq ltInt d4 a mid l1 true true=d5 at hfe
     have s5:d5.size=n:=by rw [←h5,JM _ _ _ _ _ _ _ (Nat.le_refl _) (by omega),s4]
     refine CW.vc env [0,1,2,3,8,9,10,11,12,13,14,15,16,17,18,23,29,35,50,68,72,87,113] (by kernel_rfl) ?_
     (repeat ((try refine Vc.mk' ?_);simp (maxSteps:=6000000) only [go_sem,reduceIte,reduceCtorEq,Nat.reduceAdd,Nat.reduceMul,Nat.reduceSub,Nat.reduceLT,Nat.reduceLeDiff,Nat.reduceEqDiff,Int.reduceEq,Int.reduceLT,Int.reduceLE,Int.reduceNe,UO,c0,decide_true,wam,x1,l1',x2,l2,ZS,Ba,hlt,Bool.not_true,UY,Ln,p3,D3,he,wml,wmr,wm8,wmp,cc,decide_true,Vo,Ha,p4,D4,h5,D8,Int.toNat_natCast]))
     refine .mk (mp,b,l1,wv,ap,d5) ⟨by dsimp only;omega,by dsimp only;omega,by dsimp only;omega,by dsimp only;omega,s5,hfe⟩ (by dsimp only;omega) ((by refine A9.mk' [] hcl (by simp) (by simp) rfl (AZ ?_) ?_ ?_ <;> simp [Ag,BJ,BH,Am,AP,AF,AJ.nil,AJ.cons,AB,AD,AM,AA,AQ,AX,AO,Ax.AL,AG,AV,AE,AH,AK.set,AK.Ao,AK.refl,K4,Af hqt,AY,cw]))
    ·have cc:((ml:Int) < (mr:Int))=False:=eq_false (by omega)
     have p4:∀ {h':Hp},h' q=Ad d4→L3 k h' (.slice (some ⟨q,0,none⟩) n n) (mp:Int) (b:Int) (l1:Int)=True:=fun e=>eq_true ⟨by omega, .inr ⟨q,d4,gRow s4 e,by omega,by omega,by omega,by omega,by omega,by omega⟩⟩
     rw [if_neg hlr] at hfe
     obtain ⟨wv,hwv⟩:∃z:Bool,z=decide (mr≥m8):=⟨_,rfl⟩
     have cw:decide (mr < m8)= !wv:=by rw [hwv,K8]
     rw [←hwv] at hfe
     generalize h5:Go.Sort.pdq ltInt d4 mp b l1 true true=d5 at hfe
     have s5:d5.size=n:=by rw [←h5,JM _ _ _ _ _ _ _ (Nat.le_refl _) (by omega),s4]
     refine CW.vc env [0,1,2,3,8,9,10,11,12,13,14,15,16,17,18,23,29,35,50,68,72,87,113] (by kernel_rfl) ?_
     (repeat ((try refine Vc.mk' ?_);simp (maxSteps:=6000000) only [go_sem,reduceIte,reduceCtorEq,Nat.reduceAdd,Nat.reduceMul,Nat.reduceSub,Nat.reduceLT,Nat.reduceLeDiff,Nat.reduceEqDiff,Int.reduceEq,Int.reduceLT,Int.reduceLE,Int.reduceNe,UO,c0,decide_true,wam,x1,l1',x2,l2,ZS,Ba,hlt,Bool.not_true,UY,Ln,p3,D3,he,wml,wmr,wm8,wmp,cc,decide_false,Vo,Ha,p4,D4,h5,D8,Int.toNat_natCast]))
     refine .mk (a,mid,l1,wv,ap,d5) ⟨by dsimp only;omega,by dsimp only;omega,by dsimp only;omega,by dsimp only;omega,s5,hfe⟩ (by dsimp only;omega) ((by refine A9.mk' [] hcl (by simp) (by simp) rfl (AZ ?_) ?_ ?_ <;> simp [Ag,BJ,BH,Am,AP,AF,AJ.nil,AJ.cons,AB,AD,AM,AA,AQ,AX,AO,Ax.AL,AG,AV,AE,AH,AK.set,AK.Ao,AK.refl,K4,Af hqt,AY,cw]))
  ·have c0:((0:Int) < (a:Int))=False:=eq_false (by omega)
   generalize he:Go.Sort.partition ltInt d3 a b p=x
   have h1:=Mm (d:=d3) (a:=a) (b:=b) (p:=p) (by omega) (by omega) (by omega)
   have h2:=FJ (d:=d3) (a:=a) (b:=b) (p:=p)
   rw [he] at h1 h2
   obtain ⟨mid,ap,d4⟩:=x
   dsimp only at h1 h2
   rw [hS.pt h12 hl (.inl (by omega)) he h1] at hfe
   obtain ⟨ml,hml⟩:∃m:Nat,m=mid - a:=⟨_,rfl⟩
   obtain ⟨mr,hmr⟩:∃m:Nat,m=b - mid:=⟨_,rfl⟩
   obtain ⟨m8,hm8⟩:∃z:Nat,z=m / 8:=⟨_,rfl⟩
   obtain ⟨mp,hmp⟩:∃m:Nat,m=mid+1:=⟨_,rfl⟩
   have wml:Ae .i64 ((mid:Int) - (a:Int))=((ml:Nat):Int):=by rw [wrap64 (by omega) (by omega)];omega
   have wmr:Ae .i64 ((b:Int) - (mid:Int))=((mr:Nat):Int):=by rw [wrap64 (by omega) (by omega)];omega
   have wm8:IntKind.i64.wrap ((m:Int).tdiv 8)=((m8:Nat):Int):=by rw [show (m:Int).tdiv 8=((m / 8:Nat):Int) from rfl,←Cg,wrap64 (by omega) (by omega)];omega
   have wmp:Ae .i64 ((mid:Int)+1)=((mp:Nat):Int):=by rw [wrap64 (by omega) (by omega)];omega
   rw [←hm,←hml,←hmr,←hm8,←hmp] at hfe
   have s4:d4.size=n:=by omega
   have D4:∀ {h':Hp},h' q=Ad d4→Gy h' (.slice (some ⟨q,0,none⟩) n n)=d4:=fun e=>(gRow s4 e).D5
   by_cases hlr:ml < mr
   ·have cc:((ml:Int) < (mr:Int))=True:=eq_true (by omega)
    have p4:∀ {h':Hp},h' q=Ad d4→L3 k h' (.slice (some ⟨q,0,none⟩) n n) (a:Int) (mid:Int) (l1:Int)=True:=fun e=>eq_true ⟨by omega, .inr ⟨q,d4,gRow s4 e,by omega,by omega,by omega,by omega,by omega,by omega⟩⟩
    rw [if_pos hlr] at hfe
    obtain ⟨wv,hwv⟩:∃z:Bool,z=decide (ml≥m8):=⟨_,rfl⟩
    have cw:decide (ml < m8)= !wv:=by rw [hwv,K8]
    rw [←hwv] at hfe
    generalize h5:Go.Sort.pdq ltInt d4 a mid l1 true true=d5 at hfe
    have s5:d5.size=n:=by rw [←h5,JM _ _ _ _ _ _ _ (Nat.le_refl _) (by omega),s4]
    refine CW.vc env [0,1,2,3,8,9,10,11,12,13,14,15,16,17,18,23,29,35,50,68,72,87,113] (by kernel_rfl) ?_
    (repeat ((try refine Vc.mk' ?_);simp (maxSteps:=6000000) only [go_sem,reduceIte,reduceCtorEq,Nat.reduceAdd,Nat.reduceMul,Nat.reduceSub,Nat.reduceLT,Nat.reduceLeDiff,Nat.reduceEqDiff,Int.reduceEq,Int.reduceLT,Int.reduceLE,Int.reduceNe,UO,c0,decide_false,UY,Ln,p3,D3,he,wml,wmr,wm8,wmp,cc,decide_true,Vo,Ha,p4,D4,h5,D8,Int.toNat_natCast]))
    refine .mk (mp,b,l1,wv,ap,d5) ⟨by dsimp only;omega,by dsimp only;omega,by dsimp only;omega,by dsimp only;omega,s5,hfe⟩ (by dsimp only;omega) ((by refine A9.mk' [] hcl (by simp) (by simp) rfl (AZ ?_) ?_ ?_ <;> simp [Ag,BJ,BH,Am,AP,AF,AJ.nil,AJ.cons,AB,AD,AM,AA,AQ,AX,AO,Ax.AL,AG,AV,AE,AH,AK.set,AK.Ao,AK.refl,K4,Af hqt,AY,cw]))
   ·have cc:((ml:Int) < (mr:Int))=False:=eq_false (by omega)
    have p4:∀ {h':Hp},h' q=Ad d4→L3 k h' (.slice (some ⟨q,0,none⟩) n n) (mp:Int) (b:Int) (l1:Int)=True:=fun e=>eq_true ⟨by omega, .inr ⟨q,d4,gRow s4 e,by omega,by omega,by omega,by omega,by omega,by omega⟩⟩
    rw [if_neg hlr] at hfe
    obtain ⟨wv,hwv⟩:∃z:Bool,z=decide (mr≥m8):=⟨_,rfl⟩
    have cw:decide (mr < m8)= !wv:=by rw [hwv,K8]
    rw [←hwv] at hfe
    generalize h5:Go.Sort.pdq ltInt d4 mp b l1 true true=d5 at hfe
    have s5:d5.size=n:=by rw [←h5,JM _ _ _ _ _ _ _ (Nat.le_refl _) (by omega),s4]
    refine CW.vc env [0,1,2,3,8,9,10,11,12,13,14,15,16,17,18,23,29,35,50,68,72,87,113] (by kernel_rfl) ?_
    (repeat ((try refine Vc.mk' ?_);simp (maxSteps:=6000000) only [go_sem,reduceIte,reduceCtorEq,Nat.reduceAdd,Nat.reduceMul,Nat.reduceSub,Nat.reduceLT,Nat.reduceLeDiff,Nat.reduceEqDiff,Int.reduceEq,Int.reduceLT,Int.reduceLE,Int.reduceNe,UO,c0,decide_false,UY,Ln,p3,D3,he,wml,wmr,wm8,wmp,cc,decide_false,Vo,Ha,p4,D4,h5,D8,Int.toNat_natCast]))
    refine .mk (a,mid,l1,wv,ap,d5) ⟨by dsimp only;omega,by dsimp only;omega,by dsimp only;omega,by dsimp only;omega,s5,hfe⟩ (by dsimp only;omega) ((by refine A9.mk' [] hcl (by simp) (by simp) rfl (AZ ?_) ?_ ?_ <;> simp [Ag,BJ,BH,Am,AP,AF,AJ.nil,AJ.cons,AB,AD,AM,AA,AQ,AX,AO,Ax.AL,AG,AV,AE,AH,AK.set,AK.Ao,AK.refl,K4,Af hqt,AY,cw]))
end Go.Proofs.YthpibnpeaidabaaGreatDoor.Dm
