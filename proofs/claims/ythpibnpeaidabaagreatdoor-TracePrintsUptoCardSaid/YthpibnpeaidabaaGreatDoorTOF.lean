import Derived.Test.YthpibnpeaidabaaGreatDoorTSM
set_option linter.unusedVariables false
namespace Go.Proofs.YthpibnpeaidabaaGreatDoor.Dm
open Go.Dm
set_option maxHeartbeats 16000000
set_option maxRecDepth 20000
def Kt (l:List AE)(id:Int):List AE:=l.filter fun e=>decide (e.Id=id)
theorem Um {l:List AE}{id:Int}{k:Nat}(h:k < l.length):Kt (l.take (k+1)) id=if (at' l k).Id=id then Kt (l.take k) id ++ [at' l k] else Kt (l.take k) id:=by
 unfold Kt
 rw [E9 h,List.filter_append]
 by_cases c:(at' l k).Id=id <;> simp [c]
theorem XC {l:List AE}{id:Int}{k:Nat}:(Kt (l.take k) id).length≤l.length:=by
 have h1:=List.length_filter_le (fun e:AE=>decide (e.Id=id)) (l.take k)
 have h2:(l.take k).length≤l.length:=by rw [List.length_take];omega
 unfold Kt;omega
theorem eS {n:Nat}(h:n≤1759218604400):B6 n Lg.bytes=true:=by
 unfold B6
 rw [Bool.and_eq_true,show Lg.bytes=80 from rfl]
 exact ⟨Nat.ble_eq_true_of_le (by omega),Nat.ble_eq_true_of_le (by omega)⟩
def MU:BG:= .det (fun args hp _=>match args with | [v, .int .u32 _]=>HJ AA hp v∧(AA.rd hp v).length≤1759218604390 | _=>False) (fun args hp top=>match args with | [v, .int _ id]=>(AR top (Kt (AA.rd hp v) id), [(top,AV AA (Kt (AA.rd hp v) id))],top+1) | _=>(undef, [],top))
def mu (hp:Hp)(top:Nat)(v:Value)(l:List AE)(id:Int)(k:Nat):SS:=⟨[(0,v,true),(1, .int .u32 id,true),(5,AR top (Kt (l.take k) id),true),(6, .int .i64 (k:Int),true)],hp.Al [(top,AV AA (Kt (l.take k) id))],top+1⟩
theorem rE:Aw Tryz.prog 23 MU:=by
 refine .Cg RB ?_
 intro args hp top hpre hcl hsc
 match args,hpre with
 | [v, .int .u32 id],⟨⟨l,h⟩,hb⟩=>
 have hs:=h.low hcl
 simp only [h.rd] at hb ⊢
 refine AK.Ar A7 RB rfl 28 rfl [.tmp 4] rfl (show 2≤28 by decide) ?_
 refine CW.vc Dt [0,1,4,5,6,10,19] (by kernel_rfl) ?_
 (repeat ((try refine Vc.mk' ?_);simp (maxSteps:=6000000) only [go_sem]))
 refine CW.Bs (mu hp top v l id) (fun k=>k≤l.length) (fun k=>l.length - k) 0 (Nat.zero_le _) ?_ ?_
 ·exact (by refine Ao.mk' [top] hcl (by simp) (by simp) rfl (AG ?_) ?_ ?_ <;> simp [Ac,BU,Ax,AB.nil,AB.cons,Ap,AJ.refl,Sc.Ax (fun j hj=>AM hj) hs,show Kt [] id= [] from rfl,EC,Et])
 ·intro k hi
  by_cases hlt:k < l.length
  ·have kk:AP .i64 ((k:Int)+1)=((k+1:Nat):Int):=CL hlt (by omega)
   have hlO:=XC (l:=l) (id:=id) (k:=k)
   have hap:∀ {h':Hp} {j q t:Nat},h' j=AV AA (Kt (l.take k) id)→h' q=some (.cells true 10 (AA.enc (at' l k)))→Ab tt.get h' t [22,22] (AR j (Kt (l.take k) id)) (.slice (some ⟨q,0,none⟩) 1 1)=some (AR t (Kt (l.take k) id ++ [at' l k]),CP j (Kt (l.take k) id) t (AV AA (Kt (l.take k) id ++ [at' l k])),t+1):=fun {h'} {j} {q} {t} a1 a2=>by
    have e3:cellsOf (h' q)=AA.enc (at' l k):=by rw [a2];rfl
    have:=IB (hp:=h') (b:=j) (top:=t) (k:=q) a1 (by rw [e3];exact a2) (by rw [e3,AA.h]) (eS (by omega))
    rwa [e3,AA.h] at this
   simp only [Cs] at hap
   have es:=Um (id:=id) hlt
   by_cases c:(at' l k).Id=id
   ·rw [if_pos c] at es
    refine CW.vc Dt [0,1,4,5,6,10,19] (by kernel_rfl) ?_
    (repeat ((try refine Vc.mk' ?_);simp (maxSteps:=6000000) only [go_sem,reduceCtorEq,Nat.reduceAdd,Nat.reduceMul,Nat.reduceLeDiff,BI h,BW h,Cw h,Dw h,Du h,Cf hs,mu,hlt,kk,c,hap,decide_true]))
    refine .mk (k+1) hlt (by omega) ((by refine Ao.mk' [top+2] hcl (by simp) (by simp) rfl (AG ?_) ?_ ?_ <;> simp [Ac,BU,Ax,AB.nil,AB.cons,Az,Ap,BJ,AD,AJ.set,AJ.refl,Sc.Ax (fun j hj=>AM hj) hs,es]))
   ·rw [if_neg c] at es
    refine CW.vc Dt [0,1,4,5,6,10,19] (by kernel_rfl) ?_
    (repeat ((try refine Vc.mk' ?_);simp (maxSteps:=6000000) only [go_sem,BI h,BW h,Dw h,Du h,Cf hs,mu,hlt,kk,c,decide_false]))
    refine .mk (k+1) hlt (by omega) ((by refine Ao.mk' [top] hcl (by simp) (by simp) rfl (AG ?_) ?_ ?_ <;> simp [Ac,BU,Ax,AB.nil,AB.cons,Az,Ap,BJ,AD,AJ.set,AJ.refl,Sc.Ax (fun j hj=>AM hj) hs,es]))
  ·have hi2:k=l.length:=by omega
   subst hi2
   refine CW.vc Dt [0,1,4,5,6,10,19] (by kernel_rfl) ?_
   (repeat ((try refine Vc.mk' ?_);simp (maxSteps:=6000000) only [go_sem,BI h,mu,Nat.lt_irrefl,decide_false]))
   (refine ⟨[top],by simp,by simp,by simp, ?_, ?_, ?_⟩ <;> simp [AB.nil,AB.cons,Az,Ap,BJ,AD,AJ.set,AJ.refl,List.take_length])
def X4 (hp:Hp)(top:Nat)(v:Value)(l:List AE)(id:Int)(k:Nat):SS:=⟨[(0,v,true),(1, .int .u32 id,true),(5,AR top (Kt (l.take k) id),true),(8,v,true),(9, .int .i64 (l.length:Int),true),(10, .int .i64 (k:Int),true)],hp.Al [(top,AV AA (Kt (l.take k) id))],top+1⟩
theorem xp:Aw Tryz.prog 20 MU:=by
 refine .Cg Pc ?_
 intro args hp top hpre hcl hsc
 match args,hpre with
 | [v, .int .u32 id],⟨⟨l,h⟩,hb⟩=>
 have hs:=h.low hcl
 simp only [h.rd] at hb ⊢
 refine AK.Ar A7 Pc rfl 24 rfl [.tmp 4] rfl (show 2≤24 by decide) ?_
 refine CW.vc Dt [0,1,4,5,7,8,9,10,11,17] (by kernel_rfl) ?_
 (repeat ((try refine Vc.mk' ?_);simp (maxSteps:=6000000) only [go_sem,BI h]))
 refine CW.Bs (X4 hp top v l id) (fun k=>k≤l.length) (fun k=>l.length - k) 0 (Nat.zero_le _) ?_ ?_
 ·exact (by refine Ao.mk' [top] hcl (by simp) (by simp) rfl (AG ?_) ?_ ?_ <;> simp [Ac,BU,Ax,AB.nil,AB.cons,Ap,AJ.refl,Sc.Ax (fun j hj=>AM hj) hs,show Kt [] id= [] from rfl,EC,Et])
 ·intro k hi
  by_cases hlt:k < l.length
  ·have kk:AP .i64 ((k:Int)+1)=((k+1:Nat):Int):=CL hlt (by omega)
   have hlO:=XC (l:=l) (id:=id) (k:=k)
   have hap:∀ {h':Hp} {j q t:Nat},h' j=AV AA (Kt (l.take k) id)→h' q=some (.cells true 10 (AA.enc (at' l k)))→Ab tt.get h' t [22,22] (AR j (Kt (l.take k) id)) (.slice (some ⟨q,0,none⟩) 1 1)=some (AR t (Kt (l.take k) id ++ [at' l k]),CP j (Kt (l.take k) id) t (AV AA (Kt (l.take k) id ++ [at' l k])),t+1):=fun {h'} {j} {q} {t} a1 a2=>by
    have e3:cellsOf (h' q)=AA.enc (at' l k):=by rw [a2];rfl
    have:=IB (hp:=h') (b:=j) (top:=t) (k:=q) a1 (by rw [e3];exact a2) (by rw [e3,AA.h]) (eS (by omega))
    rwa [e3,AA.h] at this
   simp only [Cs] at hap
   have es:=Um (id:=id) hlt
   by_cases c:(at' l k).Id=id
   ·rw [if_pos c] at es
    refine CW.vc Dt [0,1,4,5,7,8,9,10,11,17] (by kernel_rfl) ?_
    (repeat ((try refine Vc.mk' ?_);simp (maxSteps:=6000000) only [go_sem,reduceCtorEq,Nat.reduceAdd,Nat.reduceMul,Nat.reduceLT,Nat.reduceLeDiff,BW h,Cw h,Cf hs,X4,hlt,kk,c,hap,decide_true]))
    refine .mk (k+1) hlt (by omega) ((by refine Ao.mk' [top+3] hcl (by simp) (by simp) rfl (AG ?_) ?_ ?_ <;> simp [Ac,BU,Ax,AB.nil,AB.cons,Az,Ap,BJ,AD,AJ.set,AJ.refl,Sc.Ax (fun j hj=>AM hj) hs,es]))
   ·rw [if_neg c] at es
    refine CW.vc Dt [0,1,4,5,7,8,9,10,11,17] (by kernel_rfl) ?_
    (repeat ((try refine Vc.mk' ?_);simp (maxSteps:=6000000) only [go_sem,Nat.reduceAdd,Nat.reduceLT,BW h,Cw h,Cf hs,X4,hlt,kk,c,decide_false]))
    refine .mk (k+1) hlt (by omega) ((by refine Ao.mk' [top] hcl (by simp) (by simp) rfl (AG ?_) ?_ ?_ <;> simp [Ac,BU,Ax,AB.nil,AB.cons,Az,Ap,BJ,AD,BF,AJ.set,AJ.refl,Sc.Ax (fun j hj=>AM hj) hs,es]))
  ·have hi2:k=l.length:=by omega
   subst hi2
   refine CW.vc Dt [0,1,4,5,7,8,9,10,11,17] (by kernel_rfl) ?_
   (repeat ((try refine Vc.mk' ?_);simp (maxSteps:=6000000) only [go_sem,X4,Nat.lt_irrefl,decide_false]))
   (refine ⟨[top],by simp,by simp,by simp, ?_, ?_, ?_⟩ <;> simp [AB.nil,AB.cons,Az,Ap,BJ,AD,AJ.set,AJ.refl,List.take_length])
end Go.Proofs.YthpibnpeaidabaaGreatDoor.Dm
