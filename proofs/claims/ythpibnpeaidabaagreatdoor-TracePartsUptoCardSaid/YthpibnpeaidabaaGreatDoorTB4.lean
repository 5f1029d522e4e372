/- Bit strings, as the bits chapter has them (turned to this seat by port.py): part TB4. -/
import Derived.Test.YthpibnpeaidabaaGreatDoorTB3
import Derived.Lib.ItoaLen
import Derived.Lib.ItoaMem
import Derived.Shelf.Spec.TrailingZeros
set_option linter.unusedVariables false
namespace Go.Proofs.YthpibnpeaidabaaGreatDoor.Dm
open Go.Dm
set_option maxHeartbeats 16000000
theorem UL:∀s,(H6 s).length≤s.length+1
 | []=>by simp [H6]
 |c :: r=>by
  have ih:=UL r
  unfold H6
  split
  ·simp;exact ih
  ·split
   ·simp
   ·rename_i h t e;rw [e] at ih;simp at ih ⊢;omega
theorem Uc:∀s,∀w∈H6 s,w.length≤s.length
 | [],w,h=>by simp [H6] at h;simp [h]
 |c :: r,w,h=>by
  have ih:=Uc r
  unfold H6 at h
  split at h
  ·rcases List.mem_cons.1 h with rfl | h
   ·simp
   ·have:=ih w h;simp;omega
  ·split at h
   ·simp at h;simp [h]
   ·rename_i h' t e
    rcases List.mem_cons.1 h with rfl | h
    ·have:=ih h' (by rw [e];simp);simp;omega
    ·have:=ih w (by rw [e];simp [h]);simp;omega
theorem mD {xo yo:Operand}{t:TypeId}{v:Value}:A9 tt.get .neq 35 xo yo (.iface t v) .nilIface=some (.bool true):=by simp [A9,EG,Kh,Nn]
theorem VT {xo:Operand}:A9 tt.get .neq 35 xo (.const .nilIface) .nilIface .nilIface=some (.bool false):=by simp [A9,EG,Kh,Nn,cW]
/-- the variables that Split and Atoi read -/
def CS (hp:Hp):Prop:=hp 1=some TT∧(∃m,hp 2=some (KP 3 (.int .i64 m)))∧(∃t a,hp 4=some (KP 4 (.iface t a)))∧(∃t a,hp 6=some (KP 5 (.iface t a)))
def Eg:BB:= .pure (fun args hp=>match args with | [.string ⟨⟨s⟩⟩]=>s.length < 4294967281∧CS hp | _=>False) (fun args _=>match args with | [s]=>KS (strOf s) | _=>undef)
def mS:=Bj (Bj vr 66 I4) 48 ES
theorem Hz:B7 Tryz.prog tt.get mS:=(qi.add Xr).add iG
theorem Vx:mS 66=I4:=rfl
theorem Fa:mS 48=ES:=rfl
theorem Eb:mS 67=KL CL:=rfl
theorem Fs:mS 35=C0:=rfl
theorem Yi:mS 68=Nk FX:=rfl
def Qw (hp:Hp)(top:Nat)(l:List (List UInt8))(x:Nat×AV×Int):SS:=⟨[(2, .pointer (some ⟨top,0,none⟩),true),(4, .pointer (some ⟨top+1,0,none⟩),true),(5, .int .i64 x.2.2,true),(14,Ao (top+2) l,true),(15, .int .i64 (l.length:Int),true),(16, .int .i64 (x.1:Int),true)],hp.Am [(top,some (.cells true 0 (bl zb))),(top+1,some (.cells true 0 (bl x.2.1))),(top+2,Af AR l)],top+3⟩
theorem Sv (s:List UInt8):plain 3 (KS s)=true:=rfl
theorem bP:A4 Tryz.prog 42 Eg:=by
 refine .Hg Pj ?_ ?_
 ·rintro args hp h
  match args,h with
  | [.string ⟨⟨s⟩⟩],_=>exact Sv s
 intro args hp hpre top hcl hsc
 match args,hpre with
 | [.string ⟨⟨s⟩⟩],⟨hs,hp1,hv2,hv3,hv4⟩=>
 have ht1:1 < top:=hcl.lt _ _ hp1
 have ht2:2 < top:=by obtain ⟨m,h⟩:=hv2;exact hcl.lt _ _ h
 have ht3:4 < top:=by obtain ⟨t,a,h⟩:=hv3;exact hcl.lt _ _ h
 have ht4:6 < top:=by obtain ⟨t,a,h⟩:=hv4;exact hcl.lt _ _ h
 simp only [BV]
 refine AK.A5 BC Pj rfl 53 rfl [.cell 2 31, .tmp 3] rfl (show 1≤53 by decide) ?_
 by_cases hd:s= [45]
 ·subst hd
  have e:KS [45] = .tuple ⟨[.agg ⟨bl zb⟩, .int .i64 0]⟩:=by rw [KS,Re.1,Re.2]
  rw [e]
  refine CW.vc Hz [0,2,3,4,5,7,8,9,11,14,15,16,17,42] (by kernel_rfl) ?_
  (repeat ((try refine Vc.mk' ?_);simp (config:= {maxSteps:=6000000}) only [go_sem,reduceCtorEq,Nat.reduceAdd,Ix]))
  rfl
 have ed:NG s [45] = false:=by
  rw [Gj];simpa using hd
 have e2:TX s=H6 s:=VV s
 obtain ⟨l,hl⟩:∃l,H6 s=l:=⟨_,rfl⟩
 have hlen:=UL s
 have hmem:=Uc s
 rw [hl] at hlen hmem e2
 have hLb:l.length≤9223372036854775807:=by omega
 refine CW.vc Hz [0,2,3,4,5,7,8,9,11,14,15,16,17,42] (by kernel_rfl) ?_
 (repeat ((try refine Vc.mk' ?_);simp (config:= {maxSteps:=6000000}) only [go_sem,Nat.reduceAdd,Vx,I4,ed,e2,hs,hv2,B8 ht2]))
 refine CW.Bp (Qw hp top l) (fun x=>x.1≤l.length∧Fw x.2.1∧0≤x.2.2∧EA zb 0 l=EA x.2.1 x.2.2 (l.drop x.1)) (fun x=>l.length - x.1) (0,zb,0) ⟨Nat.zero_le _,KA,Int.le_refl _,rfl⟩ ?_ ?_
 ·exact (by refine Ar.mk' [top,top+1,top+2] hcl (by simp) (by simp) rfl (AG ?_) ?_ ?_ <;> simp [Ac,Ba,A3,Bi,AA.nil,AA.cons,BJ,BI,B0,BG,Gw,Cs,AB,BH,AH.set,AH.refl,qn])
 ·rintro ⟨k,b,last⟩ ⟨hk,hb,h0,hm⟩
  have hk:k≤l.length:=hk
  have hb:Fw b:=hb
  have h0:0≤last:=h0
  have hm:EA zb 0 l=EA b last (l.drop k):=hm
  have hI:=NH hb
  have hob:((hp.set top (some (Av.cells true 0 (bl zb)))).set (top+1) (some (Av.cells true 0 (bl b)))).set (top+2) (Af AR l) (top+2)=Af AR l:=AB ..
  have hA:=BQ.RM hob hLb
  by_cases hlt:k < l.length
  ·have hlt1:(k:Int) < (l.length:Int):=by omega
   have ld1:=Kw hA hlt
   rw [Nat.mul_one] at ld1
   rw [VQ hlt,EA] at hm
   have hw:(at' l k).length≤s.length:=hmem _ (by rw [Cd _ _ hlt];exact List.getElem_mem hlt)
   have hw2:(at' l k).length≤281474976710656:=by omega
   obtain ⟨w,hwk⟩:∃w,at' l k=w:=⟨_,rfl⟩
   rw [hwk] at ld1 hm hw2
   have fail:EA zb 0 l=none→KS s= .tuple ⟨[.agg ⟨bl zb⟩, .int .i64 4]⟩:=fun h=>by
    rw [←hl] at h
    rw [KS,(Qu hd h).1,(Qu hd h).2]
   cases ha:Lib.atoiAll w with
   | «syntax» =>
    rw [ha] at hm
    have ea:∀n,C1 w n=(.tuple ⟨[.int .i64 0, .iface 155 (.pointer (some ⟨n,0,none⟩))]⟩, [],n+1):=fun n=>by simp only [C1,ha]
    rw [fail hm]
    refine CW.vc Hz [0,2,3,4,5,7,8,9,11,14,15,16,17,42] (by kernel_rfl) ?_
    (repeat ((try refine Vc.mk' ?_);simp (config:= {maxSteps:=6000000}) only [go_sem,reduceCtorEq,Nat.reduceAdd,Nat.reduceLeDiff,Nat.reduceEqDiff,Int.reduceLE,Eo,Nat.mul_one,Fa,Eb,Fs,ES,KL,C0,Cv hA,Qw,hlt1,ld1,hw2,ea,hv3,hv4,mD,B8 ht3,B8 ht4]))
    rfl
   |range=>
    rw [ha] at hm
    have ea:∀n,C1 w n=(.tuple ⟨[.int .i64 (Lib.atoiSat w), .iface 155 (.pointer (some ⟨n,0,none⟩))]⟩, [],n+1):=fun n=>by simp only [C1,ha]
    rw [fail hm]
    refine CW.vc Hz [0,2,3,4,5,7,8,9,11,14,15,16,17,42] (by kernel_rfl) ?_
    (repeat ((try refine Vc.mk' ?_);simp (config:= {maxSteps:=6000000}) only [go_sem,reduceCtorEq,Nat.reduceAdd,Nat.reduceLeDiff,Nat.reduceEqDiff,Eo,Nat.mul_one,Fa,Eb,Fs,ES,KL,C0,Cv hA,Qw,hlt1,ld1,hw2,ea,hv3,hv4,mD,B8 ht3,B8 ht4]))
    rfl
   |ok n=>
    rw [ha] at hm
    have hm:EA zb 0 l=if last < n∧CL n=true∧Lib.itoa n=w then EA (FX b (n - 1).toNat) n (l.drop (k+1)) else none:=hm
    have ea:∀m,C1 w m=(.tuple ⟨[.int .i64 n, .nilIface]⟩, [],m):=fun m=>by simp only [C1,ha]
    by_cases c1:last < n
    case neg=>
     rw [if_neg (fun h=>c1 h.1)] at hm
     rw [fail hm]
     refine CW.vc Hz [0,2,3,4,5,7,8,9,11,14,15,16,17,42] (by kernel_rfl) ?_
     (repeat ((try refine Vc.mk' ?_);simp (config:= {maxSteps:=6000000}) only [go_sem,reduceCtorEq,Nat.reduceAdd,Nat.reduceLeDiff,Nat.reduceEqDiff,Eo,Nat.mul_one,Fa,Eb,Fs,ES,KL,C0,Cv hA,Qw,hlt1,ld1,hw2,ea,hv3,hv4,VT,c1,B8 ht3,B8 ht4]))
     rfl
    cases c2:CL n with
    |false=>
     rw [if_neg (fun h=>by rw [c2] at h;exact absurd h.2.1 (by simp))] at hm
     rw [fail hm]
     refine CW.vc Hz [0,2,3,4,5,7,8,9,11,14,15,16,17,42] (by kernel_rfl) ?_
     (repeat ((try refine Vc.mk' ?_);simp (config:= {maxSteps:=6000000}) only [go_sem,reduceCtorEq,Nat.reduceAdd,Nat.reduceLeDiff,Nat.reduceEqDiff,Eo,Nat.mul_one,Fa,Eb,Fs,ES,KL,C0,Cv hA,Qw,hlt1,ld1,hw2,ea,hv3,hv4,VT,c1,c2,B8 ht3,B8 ht4]))
     rfl
    |true=>
     have n0:0≤n:=by omega
     have n1:n≤9223372036854775807:=by simp only [CL,Bool.and_eq_true,decide_eq_true_eq] at c2;omega
     by_cases c3:Lib.itoa n=w
     ·have q3:NG (Lib.itoa n) w=true:=by rw [c3,Ix]
      rw [if_pos ⟨c1,c2,c3⟩] at hm
      refine CW.vc Hz [0,2,3,4,5,7,8,9,11,14,15,16,17,42] (by kernel_rfl) ?_
      (repeat ((try refine Vc.mk' ?_);simp (config:= {maxSteps:=6000000}) only [go_sem,Nat.reduceEqDiff,Eo,Iz,aC,Su,JW,Nat.mul_one,Fa,Eb,Fs,Yi,ES,KL,C0,Nk,Cv hA,Qw,hlt1,ld1,hw2,ea,hv3,hv4,VT,c1,c2,n0,n1,q3,hI,hp1,Un,B8 ht1,B8 ht3,B8 ht4]))
      refine .mk (k+1,FX b (n - 1).toNat,n) ⟨hlt,Fy hb,n0,hm⟩ (by show l.length - (k+1) < l.length - k;omega) ((by refine Ar.mk' [top,top+1,top+2] hcl (by simp) (by simp) rfl (AG ?_) ?_ ?_ <;> simp [Ac,Ba,A3,AA.nil,AA.cons,BJ,BI,B0,BG,Gw,Cs,AB,BH,AH.set,AH.refl,Je,Fp hlt hLb]))
     ·have q3:NG (Lib.itoa n) w=false:=by rw [Gj];simpa using c3
      rw [if_neg (fun h=>c3 h.2.2)] at hm
      rw [fail hm]
      refine CW.vc Hz [0,2,3,4,5,7,8,9,11,14,15,16,17,42] (by kernel_rfl) ?_
      (repeat ((try refine Vc.mk' ?_);simp (config:= {maxSteps:=6000000}) only [go_sem,reduceCtorEq,Nat.reduceAdd,Nat.reduceLeDiff,Eo,Nat.mul_one,Fa,Eb,Fs,ES,KL,C0,Cv hA,Qw,hlt1,ld1,hw2,ea,hv3,hv4,VT,c1,c2,n0,n1,q3,hp1,B8 ht1,B8 ht3,B8 ht4]))
      rfl
  ·have hk2:k=l.length:=by omega
   subst hk2
   rw [List.drop_length,EA,←hl] at hm
   obtain ⟨_,p1,p2⟩:=bz hm
   have e:KS s= .tuple ⟨[.agg ⟨bl b⟩, .int .i64 0]⟩:=by rw [KS,p1,p2]
   rw [e]
   refine CW.vc Hz [0,2,3,4,5,7,8,9,11,14,15,16,17,42] (by kernel_rfl) ?_
   (repeat ((try refine Vc.mk' ?_);simp (config:= {maxSteps:=6000000}) only [go_sem,reduceCtorEq,Nat.reduceEqDiff,Eo,Iz,aC,Su,Qw,Int.lt_irrefl,decide_false]))
theorem I1 {hp:Hp}{i:Nat}{o:Option Av}(hi:7≤i):CS (hp.set i o)=CS hp:=by
 unfold CS
 rw [BH _ _ _ _ (by omega),BH _ _ _ _ (by omega),BH _ _ _ _ (by omega),BH _ _ _ _ (by omega)]
theorem Y5 {hp:Hp}{top:Nat}(hcl:Cl hp top)(hv:CS hp):7≤top:=by
 obtain ⟨_,_,_,t,a,h⟩:=hv
 have:=hcl.lt _ _ h
 omega
end Go.Proofs.YthpibnpeaidabaaGreatDoor.Dm
