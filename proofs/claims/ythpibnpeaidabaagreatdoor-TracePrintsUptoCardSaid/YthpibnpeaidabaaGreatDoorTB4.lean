import Derived.Test.YthpibnpeaidabaaGreatDoorTB3
import Derived.Lib.ItoaLen
import Derived.Lib.ItoaMem
import Derived.Shelf.Spec.TrailingZeros
set_option linter.unusedVariables false
namespace Go.Proofs.YthpibnpeaidabaaGreatDoor.Dm
open Go.Dm
set_option maxHeartbeats 16000000
theorem Xr:∀s,(JP s).length≤s.length+1
 | []=>by simp [JP]
 |c :: r=>by
  have ih:=Xr r
  unfold JP
  split
  ·simp;exact ih
  ·split
   ·simp
   ·rename_i h t e;rw [e] at ih;simp at ih ⊢;omega
theorem YB:∀s,∀w∈JP s,w.length≤s.length
 | [],w,h=>by simp [JP] at h;simp [h]
 |c :: r,w,h=>by
  have ih:=YB r
  unfold JP at h
  split at h
  ·rcases List.mem_cons.1 h with rfl | h
   ·simp
   ·have:=ih w h;simp;omega
  ·split at h
   ·simp at h;simp [h]
   ·rename_i h' t e
    rcases List.mem_cons.1 h with rfl | h
    ·have:=ih h' (by rw [e];simp);simp;omega
    ·have:=ih w (by rw [e];simp [h]);simp;omega
theorem oe {xo yo:Operand}{t:TypeId}{v:Value}:BD tt.get .neq 35 xo yo (.iface t v) .nilIface=some (.bool true):=by simp [BD,Em,Ln,Pq]
theorem XT {xo:Operand}:BD tt.get .neq 35 xo (.const .nilIface) .nilIface .nilIface=some (.bool false):=by simp [BD,Em,Ln,Pq,iU]
def CZ (hp:Hp):Prop:=hp 1=some Rb∧(∃m,hp 2=some (Lb 3 (.int .i64 m)))∧(∃t a,hp 4=some (Lb 4 (.iface t a)))∧(∃t a,hp 6=some (Lb 5 (.iface t a)))
def FP:BG:= .pure (fun args hp=>match args with | [.string ⟨⟨s⟩⟩]=>s.length < 4294967281∧CZ hp | _=>False) (fun args _=>match args with | [s]=>Ld (strOf s) | _=>undef)
def rQ:=BQ (BQ G16 66 KF) 48 FF
theorem JF:B4 Tryz.prog tt.get rQ:=(yI.add df).add nP
theorem Zx:rQ 66=KF:=rfl
theorem Gl:rQ 48=FF:=rfl
theorem FG:rQ 67=Le Cm:=rfl
theorem Gw:rQ 35=Co:=rfl
theorem ep:rQ 68=Ru Ga:=rfl
def Sq (hp:Hp)(top:Nat)(l:List (List UInt8))(x:Nat×AX×Int):SS:=⟨[(2, .pointer (some ⟨top,0,none⟩),true),(4, .pointer (some ⟨top+1,0,none⟩),true),(5, .int .i64 x.2.2,true),(14,AR (top+2) l,true),(15, .int .i64 (l.length:Int),true),(16, .int .i64 (x.1:Int),true)],hp.Al [(top,some (.cells true 0 (bl zb))),(top+1,some (.cells true 0 (bl x.2.1))),(top+2,AV AU l)],top+3⟩
theorem Vq (s:List UInt8):plain 3 (Ld s)=true:=rfl
theorem gm:Aw Tryz.prog 42 FP:=by
 refine .Ep Qx ?_ ?_
 ·rintro args hp h
  match args,h with
  | [.string ⟨⟨s⟩⟩],_=>exact Vq s
 intro args hp hpre top hcl hsc
 match args,hpre with
 | [.string ⟨⟨s⟩⟩],⟨hs,hp1,hv2,hv3,hv4⟩=>
 have ht1:1 < top:=hcl.lt _ _ hp1
 have ht2:2 < top:=by obtain ⟨m,h⟩:=hv2;exact hcl.lt _ _ h
 have ht3:4 < top:=by obtain ⟨t,a,h⟩:=hv3;exact hcl.lt _ _ h
 have ht4:6 < top:=by obtain ⟨t,a,h⟩:=hv4;exact hcl.lt _ _ h
 simp only [Ba]
 refine AK.Ar A7 Qx rfl 53 rfl [.cell 2 31, .tmp 3] rfl (show 1≤53 by decide) ?_
 by_cases hd:s= [45]
 ·subst hd
  have e:Ld [45] = .tuple ⟨[.agg ⟨bl zb⟩, .int .i64 0]⟩:=by rw [Ld,SB.1,SB.2]
  rw [e]
  refine CW.vc JF [0,2,3,4,5,7,8,9,11,14,15,16,17,42] (by kernel_rfl) ?_
  (repeat ((try refine Vc.mk' ?_);simp (maxSteps:=6000000) only [go_sem,reduceCtorEq,Nat.reduceAdd,IV]))
  rfl
 have ed:OP s [45] = false:=by
  rw [HM];simpa using hd
 have e2:WK s=JP s:=XE s
 obtain ⟨l,hl⟩:∃l,JP s=l:=⟨_,rfl⟩
 have hlen:=Xr s
 have hmem:=YB s
 rw [hl] at hlen hmem e2
 have hLb:l.length≤9223372036854775807:=by omega
 refine CW.vc JF [0,2,3,4,5,7,8,9,11,14,15,16,17,42] (by kernel_rfl) ?_
 (repeat ((try refine Vc.mk' ?_);simp (maxSteps:=6000000) only [go_sem,Nat.reduceAdd,Zx,KF,ed,e2,hs,hv2,BS ht2]))
 refine CW.Bs (Sq hp top l) (fun x=>x.1≤l.length∧Fs x.2.1∧0≤x.2.2∧Er zb 0 l=Er x.2.1 x.2.2 (l.drop x.1)) (fun x=>l.length - x.1) (0,zb,0) ⟨Nat.zero_le _,LY,Int.le_refl _,rfl⟩ ?_ ?_
 ·exact (by refine Ao.mk' [top,top+1,top+2] hcl (by simp) (by simp) rfl (AG ?_) ?_ ?_ <;> simp [Ac,BU,Ax,Bt,AB.nil,AB.cons,A9,BA,Az,Ap,DY,BJ,AD,BF,AJ.set,AJ.refl,xG])
 ·rintro ⟨k,b,last⟩ ⟨hk,hb,h0,hm⟩
  have hk:k≤l.length:=hk
  have hb:Fs b:=hb
  have h0:0≤last:=h0
  have hm:Er zb 0 l=Er b last (l.drop k):=hm
  have hI:=Kr hb
  have hob:((hp.set top (some (Ay.cells true 0 (bl zb)))).set (top+1) (some (Ay.cells true 0 (bl b)))).set (top+2) (AV AU l) (top+2)=AV AU l:=AD ..
  have hA:=BM.VI hob hLb
  by_cases hlt:k < l.length
  ·have hlt1:(k:Int) < (l.length:Int):=by omega
   have ld1:=Jd hA hlt
   rw [Nat.mul_one] at ld1
   rw [WY hlt,Er] at hm
   have hw:(at' l k).length≤s.length:=hmem _ (by rw [DV _ _ hlt];exact List.getElem_mem hlt)
   have hw2:(at' l k).length≤281474976710656:=by omega
   obtain ⟨w,hwk⟩:∃w,at' l k=w:=⟨_,rfl⟩
   rw [hwk] at ld1 hm hw2
   have fail:Er zb 0 l=none→Ld s= .tuple ⟨[.agg ⟨bl zb⟩, .int .i64 4]⟩:=fun h=>by
    rw [←hl] at h
    rw [Ld,(S9 hd h).1,(S9 hd h).2]
   cases ha:Lib.atoiAll w with
   | «syntax» =>
    rw [ha] at hm
    have ea:∀n,DW w n=(.tuple ⟨[.int .i64 0, .iface 155 (.pointer (some ⟨n,0,none⟩))]⟩, [],n+1):=fun n=>by simp only [DW,ha]
    rw [fail hm]
    refine CW.vc JF [0,2,3,4,5,7,8,9,11,14,15,16,17,42] (by kernel_rfl) ?_
    (repeat ((try refine Vc.mk' ?_);simp (maxSteps:=6000000) only [go_sem,reduceCtorEq,Nat.reduceAdd,Nat.reduceLeDiff,Nat.reduceEqDiff,Int.reduceLE,EI,Nat.mul_one,Gl,FG,Gw,FF,Le,Co,DL hA,Sq,hlt1,ld1,hw2,ea,hv3,hv4,oe,BS ht3,BS ht4]))
    rfl
   |range=>
    rw [ha] at hm
    have ea:∀n,DW w n=(.tuple ⟨[.int .i64 (Lib.atoiSat w), .iface 155 (.pointer (some ⟨n,0,none⟩))]⟩, [],n+1):=fun n=>by simp only [DW,ha]
    rw [fail hm]
    refine CW.vc JF [0,2,3,4,5,7,8,9,11,14,15,16,17,42] (by kernel_rfl) ?_
    (repeat ((try refine Vc.mk' ?_);simp (maxSteps:=6000000) only [go_sem,reduceCtorEq,Nat.reduceAdd,Nat.reduceLeDiff,Nat.reduceEqDiff,EI,Nat.mul_one,Gl,FG,Gw,FF,Le,Co,DL hA,Sq,hlt1,ld1,hw2,ea,hv3,hv4,oe,BS ht3,BS ht4]))
    rfl
   |ok n=>
    rw [ha] at hm
    have hm:Er zb 0 l=if last < n∧Cm n=true∧Lib.itoa n=w then Er (Ga b (n - 1).toNat) n (l.drop (k+1)) else none:=hm
    have ea:∀m,DW w m=(.tuple ⟨[.int .i64 n, .nilIface]⟩, [],m):=fun m=>by simp only [DW,ha]
    by_cases c1:last < n
    case neg=>
     rw [if_neg (fun h=>c1 h.1)] at hm
     rw [fail hm]
     refine CW.vc JF [0,2,3,4,5,7,8,9,11,14,15,16,17,42] (by kernel_rfl) ?_
     (repeat ((try refine Vc.mk' ?_);simp (maxSteps:=6000000) only [go_sem,reduceCtorEq,Nat.reduceAdd,Nat.reduceLeDiff,Nat.reduceEqDiff,EI,Nat.mul_one,Gl,FG,Gw,FF,Le,Co,DL hA,Sq,hlt1,ld1,hw2,ea,hv3,hv4,XT,c1,BS ht3,BS ht4]))
     rfl
    cases c2:Cm n with
    |false=>
     rw [if_neg (fun h=>by rw [c2] at h;exact absurd h.2.1 (by simp))] at hm
     rw [fail hm]
     refine CW.vc JF [0,2,3,4,5,7,8,9,11,14,15,16,17,42] (by kernel_rfl) ?_
     (repeat ((try refine Vc.mk' ?_);simp (maxSteps:=6000000) only [go_sem,reduceCtorEq,Nat.reduceAdd,Nat.reduceLeDiff,Nat.reduceEqDiff,EI,Nat.mul_one,Gl,FG,Gw,FF,Le,Co,DL hA,Sq,hlt1,ld1,hw2,ea,hv3,hv4,XT,c1,c2,BS ht3,BS ht4]))
     rfl
    |true=>
     have n0:0≤n:=by omega
     have n1:n≤9223372036854775807:=by simp only [Cm,Bool.and_eq_true,decide_eq_true_eq] at c2;omega
     by_cases c3:Lib.itoa n=w
     ·have q3:OP (Lib.itoa n) w=true:=by rw [c3,IV]
      rw [if_pos ⟨c1,c2,c3⟩] at hm
      refine CW.vc JF [0,2,3,4,5,7,8,9,11,14,15,16,17,42] (by kernel_rfl) ?_
      (repeat ((try refine Vc.mk' ?_);simp (maxSteps:=6000000) only [go_sem,Nat.reduceEqDiff,EI,HO,dF,WT,GH,Nat.mul_one,Gl,FG,Gw,ep,FF,Le,Co,Ru,DL hA,Sq,hlt1,ld1,hw2,ea,hv3,hv4,XT,c1,c2,n0,n1,q3,hI,hp1,Wo,BS ht1,BS ht3,BS ht4]))
      refine .mk (k+1,Ga b (n - 1).toNat,n) ⟨hlt,HC hb,n0,hm⟩ (by show l.length - (k+1) < l.length - k;omega) ((by refine Ao.mk' [top,top+1,top+2] hcl (by simp) (by simp) rfl (AG ?_) ?_ ?_ <;> simp [Ac,BU,Ax,AB.nil,AB.cons,A9,BA,Az,Ap,DY,BJ,AD,BF,AJ.set,AJ.refl,HK,CL hlt hLb]))
     ·have q3:OP (Lib.itoa n) w=false:=by rw [HM];simpa using c3
      rw [if_neg (fun h=>c3 h.2.2)] at hm
      rw [fail hm]
      refine CW.vc JF [0,2,3,4,5,7,8,9,11,14,15,16,17,42] (by kernel_rfl) ?_
      (repeat ((try refine Vc.mk' ?_);simp (maxSteps:=6000000) only [go_sem,reduceCtorEq,Nat.reduceAdd,Nat.reduceLeDiff,EI,Nat.mul_one,Gl,FG,Gw,FF,Le,Co,DL hA,Sq,hlt1,ld1,hw2,ea,hv3,hv4,XT,c1,c2,n0,n1,q3,hp1,BS ht1,BS ht3,BS ht4]))
      rfl
  ·have hk2:k=l.length:=by omega
   subst hk2
   rw [List.drop_length,Er,←hl] at hm
   obtain ⟨_,p1,p2⟩:=bQ hm
   have e:Ld s= .tuple ⟨[.agg ⟨bl b⟩, .int .i64 0]⟩:=by rw [Ld,p1,p2]
   rw [e]
   refine CW.vc JF [0,2,3,4,5,7,8,9,11,14,15,16,17,42] (by kernel_rfl) ?_
   (repeat ((try refine Vc.mk' ?_);simp (maxSteps:=6000000) only [go_sem,reduceCtorEq,Nat.reduceEqDiff,EI,HO,dF,WT,Sq,Int.lt_irrefl,decide_false]))
theorem GW {hp:Hp}{i:Nat}{o:Option Ay}(hi:7≤i):CZ (hp.set i o)=CZ hp:=by
 unfold CZ
 rw [BF _ _ _ _ (by omega),BF _ _ _ _ (by omega),BF _ _ _ _ (by omega),BF _ _ _ _ (by omega)]
theorem SU {hp:Hp}{top:Nat}(hcl:Cl hp top)(hv:CZ hp):7≤top:=by
 obtain ⟨_,_,_,t,a,h⟩:=hv
 have:=hcl.lt _ _ h
 omega
end Go.Proofs.YthpibnpeaidabaaGreatDoor.Dm
