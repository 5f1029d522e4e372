import Derived.Test.YthpibnpeaidabaaGreatDoorTW
set_option linter.unusedVariables false
namespace Go.Proofs.YthpibnpeaidabaaGreatDoor.Dm
open Go.Dm
set_option maxHeartbeats 16000000
set_option maxRecDepth 20000
theorem E9 {α:Type}[Inhabited α]{l:List α}{k:Nat}(h:k < l.length):l.take (k+1)=l.take k ++ [at' l k]:=by rw [DV _ _ h];exact List.take_succ_eq_append_getElem h
theorem Wz {α:Type}[Inhabited α]{l m:List α}{i:Nat}(hl:l.length=m.length)(hi:i < l.length)(h:l.take i=m.take i):l.take (i+1)=m.take (i+1) ↔ at' l i=at' m i:=by
 rw [E9 hi,E9 (by omega),h]
 constructor
 ·intro e;simpa using e
 ·intro e;rw [e]
theorem UC {α:Type}[Inhabited α]{l m:List α}{i:Nat}(h:¬at' l i=at' m i):¬l=m:=fun e=>h (by rw [e])
theorem bX {α:Type}{l m:List α}(h:¬l.length=m.length):¬l=m:=fun e=>h (by rw [e])
def JO {α:Type}[DecidableEq α](E:Bk α):BG:= .pure (fun args hp=>match args with | [u,v]=>HJ E hp u∧HJ E hp v | _=>False) (fun args hp=>match args with | [u,v]=> .bool (decide (E.rd hp u=E.rd hp v)) | _=>undef)
def ZH (hp:Hp)(top:Nat)(u v:Value)(i:Nat):SS:=⟨[(0,u,true),(1,v,true),(5, .int .i64 (i:Int),true)],hp.Al [],top+0⟩
theorem mv {xo yo:Operand}{a b:AE}:Bg tt.get .neq 33 xo yo (.agg ⟨[.int .u64 (a.At), .int .i64 (a.Kind), .int .i64 (a.Bp), .int .i64 (a.DI), .int .u32 (a.Id), .int .i64 (a.Set), .int .u64 (a.EM), .int .u64 (a.D9), .int .u64 (a.EF), .int .u64 (a.D8)]⟩) (.agg ⟨[.int .u64 (b.At), .int .i64 (b.Kind), .int .i64 (b.Bp), .int .i64 (b.DI), .int .u32 (b.Id), .int .i64 (b.Set), .int .u64 (b.EM), .int .u64 (b.D9), .int .u64 (b.EF), .int .u64 (b.D8)]⟩)=(.bool (!decide (a=b)),True):=s9 (a:=a) (b:=b)
theorem Oy:Aw Tryz.prog 18 (JO AA):=by
 refine .Ep PW ?_ ?_
 ·intro args hp h
  match args,h with
  | [u,v],_=>rfl
 intro args hp hpre top hcl hsc
 match args,hpre with
 | [u,v],⟨⟨l,h⟩,⟨m,g⟩⟩=>
 have hs:=h.low hcl
 have gs:=g.low hcl
 simp only [h.rd,g.rd]
 refine AK.Ar A7 PW rfl 26 rfl [.tmp 4] rfl (show 2≤26 by decide) ?_
 by_cases hl:l.length=m.length
 ·have hl2:(l.length:Int)=(m.length:Int):=by omega
  refine CW.vc Dt [0,1,4,5,10,14,25] (by kernel_rfl) ?_
  (repeat ((try refine Vc.mk' ?_);simp (maxSteps:=6000000) only [go_sem,BI h,BI g,hl2]))
  refine CW.Bs (ZH hp top u v) (fun i=>i≤l.length∧l.take i=m.take i) (fun i=>l.length - i) 0 ⟨Nat.zero_le _,rfl⟩ ?_ ?_
  ·exact (by refine Ao.mk' [] hcl (by simp) (by simp) rfl (AG ?_) ?_ ?_ <;> simp [Ac,BU,Ax,AB.nil,AJ.refl,Sc.Ax (fun j hj=>AM hj) hs,Sc.Ax (fun j hj=>AM hj) gs])
  ·rintro i ⟨hi,hm⟩
   by_cases hlt:i < l.length
   ·have hlm:i < m.length:=by omega
    have he:=Wz hl hlt hm
    refine CW.vc Dt [0,1,4,5,10,14,25] (by kernel_rfl) ?_
    (repeat ((try refine Vc.mk' ?_);simp (maxSteps:=6000000) only [go_sem,BI h,BW h,Cw h,BW g,Cw g,hlt,hlm,ZH,mv]))
    refine JN.mk (fun c=> ?_) (fun c=> ?_)
    ·simp only [Bool.not_eq_true',decide_eq_false_iff_not] at c
     (repeat ((try refine Vc.mk' ?_);simp (maxSteps:=6000000) only [go_sem]))
     simp [UC c]
    ·simp only [Bool.not_eq_false',decide_eq_true_eq] at c
     (repeat ((try refine Vc.mk' ?_);simp (maxSteps:=6000000) only [go_sem]))
     exact .mk (i+1) ⟨hlt,he.2 c⟩ (by omega) ((by refine Ao.mk' [] hcl (by simp) (by simp) rfl (AG ?_) ?_ ?_ <;> simp [Ac,BU,Ax,AB.nil,AJ.refl,Sc.Ax (fun j hj=>AM hj) hs,Sc.Ax (fun j hj=>AM hj) gs,CL hlt h.le]))
   ·have hi2:i=l.length:=by omega
    subst hi2
    refine CW.vc Dt [0,1,4,5,10,14,25] (by kernel_rfl) ?_
    (repeat ((try refine Vc.mk' ?_);simp (maxSteps:=6000000) only [go_sem,BI h,ZH,Nat.lt_irrefl,decide_false]))
    rw [List.take_length,hl,List.take_length] at hm
    simp [hm]
 ·have hl2:¬(l.length:Int)=(m.length:Int):=by omega
  refine CW.vc Dt [0,1,4,5,10,14,25] (by kernel_rfl) ?_
  (repeat ((try refine Vc.mk' ?_);simp (maxSteps:=6000000) only [go_sem,BI h,BI g,hl2]))
  simp [bX hl]
theorem VH:Aw Tryz.prog 24 (JO AF):=by
 refine .Ep Rq ?_ ?_
 ·intro args hp h
  match args,h with
  | [u,v],_=>rfl
 intro args hp hpre top hcl hsc
 match args,hpre with
 | [u,v],⟨⟨l,h⟩,⟨m,g⟩⟩=>
 have hs:=h.low hcl
 have gs:=g.low hcl
 simp only [h.rd,g.rd]
 refine AK.Ar A7 Rq rfl 26 rfl [.tmp 4] rfl (show 2≤26 by decide) ?_
 by_cases hl:l.length=m.length
 ·have hl2:(l.length:Int)=(m.length:Int):=by omega
  refine CW.vc Dt [0,1,4,5,10,14,25] (by kernel_rfl) ?_
  (repeat ((try refine Vc.mk' ?_);simp (maxSteps:=6000000) only [go_sem,Br h,Br g,hl2]))
  refine CW.Bs (ZH hp top u v) (fun i=>i≤l.length∧l.take i=m.take i) (fun i=>l.length - i) 0 ⟨Nat.zero_le _,rfl⟩ ?_ ?_
  ·exact (by refine Ao.mk' [] hcl (by simp) (by simp) rfl (AG ?_) ?_ ?_ <;> simp [Ac,BU,Ax,AB.nil,AJ.refl,Sc.Ax (fun j hj=>AM hj) hs,Sc.Ax (fun j hj=>AM hj) gs])
  ·rintro i ⟨hi,hm⟩
   by_cases hlt:i < l.length
   ·have hlm:i < m.length:=by omega
    have he:=Wz hl hlt hm
    refine CW.vc Dt [0,1,4,5,10,14,25] (by kernel_rfl) ?_
    (repeat ((try refine Vc.mk' ?_);simp (maxSteps:=6000000) only [go_sem,Br h,C0 h,EZ h,C0 g,EZ g,hlt,hlm,ZH]))
    refine JN.mk (fun c=> ?_) (fun c=> ?_)
    ·simp only [Bool.not_eq_true',decide_eq_false_iff_not] at c
     (repeat ((try refine Vc.mk' ?_);simp (maxSteps:=6000000) only [go_sem]))
     simp [UC c]
    ·simp only [Bool.not_eq_false',decide_eq_true_eq] at c
     (repeat ((try refine Vc.mk' ?_);simp (maxSteps:=6000000) only [go_sem]))
     exact .mk (i+1) ⟨hlt,he.2 c⟩ (by omega) ((by refine Ao.mk' [] hcl (by simp) (by simp) rfl (AG ?_) ?_ ?_ <;> simp [Ac,BU,Ax,AB.nil,AJ.refl,Sc.Ax (fun j hj=>AM hj) hs,Sc.Ax (fun j hj=>AM hj) gs,CL hlt h.le]))
   ·have hi2:i=l.length:=by omega
    subst hi2
    refine CW.vc Dt [0,1,4,5,10,14,25] (by kernel_rfl) ?_
    (repeat ((try refine Vc.mk' ?_);simp (maxSteps:=6000000) only [go_sem,Br h,ZH,Nat.lt_irrefl,decide_false]))
    rw [List.take_length,hl,List.take_length] at hm
    simp [hm]
 ·have hl2:¬(l.length:Int)=(m.length:Int):=by omega
  refine CW.vc Dt [0,1,4,5,10,14,25] (by kernel_rfl) ?_
  (repeat ((try refine Vc.mk' ?_);simp (maxSteps:=6000000) only [go_sem,Br h,Br g,hl2]))
  simp [bX hl]
end Go.Proofs.YthpibnpeaidabaaGreatDoor.Dm
