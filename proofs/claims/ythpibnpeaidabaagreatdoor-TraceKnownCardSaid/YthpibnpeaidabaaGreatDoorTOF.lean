/- The events of one packet. -/
import Derived.Test.YthpibnpeaidabaaGreatDoorTSM
set_option linter.unusedSimpArgs false
set_option linter.unusedVariables false
namespace Go.Proofs.YthpibnpeaidabaaGreatDoor.Dm
open Go.Dm
set_option maxHeartbeats 16000000
set_option maxRecDepth 20000
def PJ (l:List Ac)(id:Int):List Ac:=l.filter fun e=>decide (e.Id=id)
theorem Yv {l:List Ac}{id:Int}{k:Nat}(h:k < l.length):PJ (l.take (k+1)) id=if (at' l k).Id=id then PJ (l.take k) id ++ [at' l k] else PJ (l.take k) id:=by
 unfold PJ
 rw [VU h,List.filter_append]
 by_cases c:(at' l k).Id=id <;> simp [c]
theorem dp {l:List Ac}{id:Int}{k:Nat}:(PJ (l.take k) id).length≤l.length:=by
 have h1:=List.length_filter_le (fun e:Ac=>decide (e.Id=id)) (l.take k)
 have h2:(l.take k).length≤l.length:=by rw [List.length_take];omega
 unfold PJ;omega
theorem ld {n:Nat}(h:n≤1759218604400):DR n Ma.bytes=true:=by
 unfold DR
 rw [Bool.and_eq_true,show Ma.bytes=80 from rfl]
 exact ⟨Nat.ble_eq_true_of_le (by omega),Nat.ble_eq_true_of_le (by omega)⟩
def KY:BO:= .det (fun args hp _=>match args with | [v, .int .u32 _]=>K3 AU hp v∧(AU.rd hp v).length≤1759218604390 | _=>False) (fun args hp top=>match args with | [v, .int _ id]=>(A4 top (PJ (AU.rd hp v) id), [(top,Au AU (PJ (AU.rd hp v) id))],top+1) | _=>(undef, [],top))
def Uh (hp:Hp)(top:Nat)(v:Value)(l:List Ac)(id:Int)(k:Nat):SS:=⟨[(0,v,true),(1, .int .u32 id,true),(5,A4 top (PJ (l.take k) id),true),(8,v,true),(9, .int .i64 (l.length:Int),true),(10, .int .i64 (k:Int),true)],hp.A0 [(top,Au AU (PJ (l.take k) id))],top+1⟩
theorem rF:BG Tryz.prog 20 KY:=by
 refine .Cy QB ?_
 intro args hp top hpre hcl hsc
 match args,hpre with
 | [v, .int .u32 id],⟨⟨l,h⟩,hb⟩=>
 have hs:=h.low hcl
 simp only [h.rd] at hb ⊢
 refine Ab.BF BN QB rfl 24 rfl [.tmp 4] rfl (show 2≤24 by decide) ?_
 refine CW.vc Nx [0,1,4,5,7,8,9,10,11,17] (by kernel_rfl) ?_
 (repeat ((try refine Vc.mk' ?_);simp (maxSteps:=6000000) only [go_sem,reduceIte,reduceCtorEq,Nat.reduceAdd,Nat.reduceMul,Nat.reduceSub,Nat.reduceLT,Nat.reduceLeDiff,Nat.reduceEqDiff,Int.reduceEq,Int.reduceLT,Int.reduceLE,Int.reduceNe,Ck h,Ci h,DB h,DD h,DA h,CN h,CJ h,CP h,CL h,CI h,CO h,CH h,CM h,CQ h,CF h,CG h,CD h,CK h,h.P,h.oc,h.cl,h.rd,h.ref,Fo hs,En hs,Ef hs,Ec h hs Bm]))
 refine CW.Bx (Uh hp top v l id) (fun k=>k≤l.length) (fun k=>l.length - k) 0 (Nat.zero_le _) ?_ ?_
 ·exact (by refine A9.mk' [top] hcl (by simp) (by simp) rfl (AZ ?_) ?_ ?_ <;> simp [Ag,BJ,BH,Am,AP,AF,AJ.nil,AJ.cons,AB,AD,AM,AA,AQ,AX,AO,Ax.AL,AG,AV,AE,AH,AK.set,AK.Ao,AK.refl,Sc.BH (fun j hj=>Af hj) hs,show PJ (l.take 0) id= [] from rfl,show PJ [] id= [] from rfl,Hf,HI])
 ·intro k hi
  by_cases hlt:k < l.length
  ·have kk:Ae .i64 ((k:Int)+1)=((k+1:Nat):Int):=GO hlt (by omega)
   have hlO:=dp (l:=l) (id:=id) (k:=k)
   have hap:∀ {h':Hp} {j q t:Nat},h' j=Au AU (PJ (l.take k) id)→h' q=some (.cells true 10 (AU.enc (at' l k)))→A6 tt.get h' t [22,22] (A4 j (PJ (l.take k) id)) (.slice (some ⟨q,0,none⟩) 1 1)=some (A4 t (PJ (l.take k) id ++ [at' l k]),FK j (PJ (l.take k) id) t (Au AU (PJ (l.take k) id ++ [at' l k])),t+1):=fun {h'} {j} {q} {t} a1 a2=>by
    have e3:cellsOf (h' q)=AU.enc (at' l k):=by rw [a2];rfl
    have:=Ko (hp:=h') (b:=j) (top:=t) (k:=q) a1 (by rw [e3];exact a2) (by rw [e3,AU.h]) (ld (by omega))
    rwa [e3,AU.h] at this
   simp only [Cs] at hap
   have es:=Yv (id:=id) hlt
   by_cases c:(at' l k).Id=id
   ·rw [if_pos c] at es
    refine CW.vc Nx [0,1,4,5,7,8,9,10,11,17] (by kernel_rfl) ?_
    (repeat ((try refine Vc.mk' ?_);simp (maxSteps:=6000000) only [go_sem,reduceIte,reduceCtorEq,Nat.reduceAdd,Nat.reduceMul,Nat.reduceSub,Nat.reduceLT,Nat.reduceLeDiff,Nat.reduceEqDiff,Int.reduceEq,Int.reduceLT,Int.reduceLE,Int.reduceNe,Ck h,Ci h,DB h,DD h,DA h,CN h,CJ h,CP h,CL h,CI h,CO h,CH h,CM h,CQ h,CF h,CG h,CD h,CK h,h.P,h.oc,h.cl,h.rd,h.ref,Fo hs,En hs,Ef hs,Ec h hs Bm,Uh,hlt,kk,c,hap,decide_true]))
    refine .mk (k+1) hlt (by omega) ((by refine A9.mk' [top+3] hcl (by simp) (by simp) rfl (AZ ?_) ?_ ?_ <;> simp [Ag,BJ,BH,Am,AP,AF,AJ.nil,AJ.cons,AB,AD,AM,AA,AQ,AX,AO,Ax.AL,AG,AV,AE,AH,AK.set,AK.Ao,AK.refl,Sc.BH (fun j hj=>Af hj) hs,es]))
   ·rw [if_neg c] at es
    refine CW.vc Nx [0,1,4,5,7,8,9,10,11,17] (by kernel_rfl) ?_
    (repeat ((try refine Vc.mk' ?_);simp (maxSteps:=6000000) only [go_sem,reduceIte,reduceCtorEq,Nat.reduceAdd,Nat.reduceMul,Nat.reduceSub,Nat.reduceLT,Nat.reduceLeDiff,Nat.reduceEqDiff,Int.reduceEq,Int.reduceLT,Int.reduceLE,Int.reduceNe,Ck h,Ci h,DB h,DD h,DA h,CN h,CJ h,CP h,CL h,CI h,CO h,CH h,CM h,CQ h,CF h,CG h,CD h,CK h,h.P,h.oc,h.cl,h.rd,h.ref,Fo hs,En hs,Ef hs,Ec h hs Bm,Uh,hlt,kk,c,decide_false]))
    refine .mk (k+1) hlt (by omega) ((by refine A9.mk' [top] hcl (by simp) (by simp) rfl (AZ ?_) ?_ ?_ <;> simp [Ag,BJ,BH,Am,AP,AF,AJ.nil,AJ.cons,AB,AD,AM,AA,AQ,AX,AO,Ax.AL,AG,AV,AE,AH,AK.set,AK.Ao,AK.refl,Sc.BH (fun j hj=>Af hj) hs,es]))
  ·have hi2:k=l.length:=by omega
   subst hi2
   refine CW.vc Nx [0,1,4,5,7,8,9,10,11,17] (by kernel_rfl) ?_
   (repeat ((try refine Vc.mk' ?_);simp (maxSteps:=6000000) only [go_sem,reduceIte,reduceCtorEq,Nat.reduceAdd,Nat.reduceMul,Nat.reduceSub,Nat.reduceLT,Nat.reduceLeDiff,Nat.reduceEqDiff,Int.reduceEq,Int.reduceLT,Int.reduceLE,Int.reduceNe,Ck h,Ci h,DB h,DD h,DA h,CN h,CJ h,CP h,CL h,CI h,CO h,CH h,CM h,CQ h,CF h,CG h,CD h,CK h,h.P,h.oc,h.cl,h.rd,h.ref,Fo hs,En hs,Ef hs,Ec h hs Bm,Uh,Nat.lt_irrefl,decide_false]))
   (refine ⟨[top],by simp,by simp,by simp, ?_, ?_, ?_⟩ <;> simp [Ag,BJ,BH,Am,AP,AF,AJ.nil,AJ.cons,AB,AD,AM,AA,AQ,AX,AO,Ax.AL,AG,AV,AE,AH,AK.set,AK.Ao,AK.refl,List.take_length])
end Go.Proofs.YthpibnpeaidabaaGreatDoor.Dm
