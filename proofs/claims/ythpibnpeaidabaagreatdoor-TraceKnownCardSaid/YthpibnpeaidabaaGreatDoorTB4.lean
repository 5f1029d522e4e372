/- Bit strings, as the bits chapter has them (turned to this seat by port.py): part TB4. -/
import Derived.Test.YthpibnpeaidabaaGreatDoorTB3
import Derived.Lib.ItoaLen
import Derived.Lib.ItoaMem
import Derived.Shelf.Spec.TrailingZeros
set_option linter.unusedSimpArgs false
set_option linter.unusedVariables false
namespace Go.Proofs.YthpibnpeaidabaaGreatDoor.Dm
open Go.Dm
set_option maxHeartbeats 16000000
theorem Uk:∀s,(IU s).length≤s.length+1
 | []=>by simp [IU]
 |c :: r=>by
  have ih:=Uk r
  unfold IU
  split
  ·simp;exact ih
  ·split
   ·simp
   ·rename_i h t e;rw [e] at ih;simp at ih ⊢;omega
theorem V7:∀s,∀w∈IU s,w.length≤s.length
 | [],w,h=>by simp [IU] at h;simp [h]
 |c :: r,w,h=>by
  have ih:=V7 r
  unfold IU at h
  split at h
  ·rcases List.mem_cons.1 h with rfl | h
   ·simp
   ·have:=ih w h;simp;omega
  ·split at h
   ·simp at h;simp [h]
   ·rename_i h' t e
    rcases List.mem_cons.1 h with rfl | h
    ·have:=ih h' (by rw [e];simp);simp;omega
    ·have:=ih w (by rw [e];simp [h]);simp;omega
theorem Kl {xo yo:Operand}{t:TypeId}{v:Value}:De tt.get .neq 35 xo yo (.iface t v) .nilIface=some (.bool true):=by simp [De,Ih,K5,QC]
theorem Jq {xo:Operand}:De tt.get .neq 35 xo (.const .nilIface) .nilIface .nilIface=some (.bool false):=by simp [De,Ih,K5,QC,dN]
def B6 (hp:Hp):Prop:=hp 1=some UJ∧(∃m,hp 2=some (KI 3 (.int .i64 m)))∧(∃t a,hp 4=some (KI 4 (.iface t a)))∧(∃t a,hp 6=some (KI 5 (.iface t a)))
def Eb:BO:= .pure (fun args hp=>match args with | [.string ⟨⟨s⟩⟩]=>s.length < 4294967281∧B6 hp | _=>False) (fun args _=>match args with | [s]=>Kx (strOf s) | _=>undef)
def l9:=Bd (Bd tF 66 DP) 48 EE
theorem IY:B9 Tryz.prog tt.get l9:=(om.add Yl).add e7
theorem Du:l9 66=DP:=rfl
theorem Ei:l9 48=EE:=rfl
theorem Dy:l9 67=JW Cj:=rfl
theorem Ee:l9 35=C1:=rfl
theorem Eh:l9 68=FM GS:=rfl
def SJ (hp:Hp)(top:Nat)(l:List (List UInt8))(x:Nat×Ak×Int):SS:=⟨[(2, .pointer (some ⟨top,0,none⟩),true),(4, .pointer (some ⟨top+1,0,none⟩),true),(5, .int .i64 x.2.2,true),(14,A4 (top+2) l,true),(15, .int .i64 (l.length:Int),true),(16, .int .i64 (x.1:Int),true)],hp.A0 [(top,some (.cells true 0 (bl zb))),(top+1,some (.cells true 0 (bl x.2.1))),(top+2,Au Ah l)],top+3⟩
theorem T6 (s:List UInt8):plain 3 (Kx s)=true:=rfl
theorem ck:BG Tryz.prog 42 Eb:=by
 refine .HS P2 ?_ ?_
 ·rintro args hp h
  match args,h with
  | [.string ⟨⟨s⟩⟩],_=>exact T6 s
 intro args hp hpre top hcl hsc
 match args,hpre with
 | [.string ⟨⟨s⟩⟩],⟨hs,hp1,hv2,hv3,hv4⟩=>
 have ht1:1 < top:=hcl.lt _ _ hp1
 have ht2:2 < top:=by obtain ⟨m,h⟩:=hv2;exact hcl.lt _ _ h
 have ht3:4 < top:=by obtain ⟨t,a,h⟩:=hv3;exact hcl.lt _ _ h
 have ht4:6 < top:=by obtain ⟨t,a,h⟩:=hv4;exact hcl.lt _ _ h
 simp only [BV]
 refine Ab.BF BN P2 rfl 53 rfl [.cell 2 31, .tmp 3] rfl (show 1≤53 by decide) ?_
 by_cases hd:s= [45]
 ·subst hd
  have e:Kx [45] = .tuple ⟨[.agg ⟨bl zb⟩, .int .i64 0]⟩:=by rw [Kx,SD.1,SD.2]
  rw [e]
  refine CW.vc IY [0,2,3,4,5,7,8,9,11,14,15,16,17,42] (by kernel_rfl) ?_
  (repeat ((try refine Vc.mk' ?_);simp (maxSteps:=6000000) only [go_sem,reduceIte,reduceCtorEq,Nat.reduceAdd,Nat.reduceMul,Nat.reduceSub,Nat.reduceLT,Nat.reduceLeDiff,Nat.reduceEqDiff,Int.reduceEq,Int.reduceLT,Int.reduceLE,Int.reduceNe,DS,CV,Fa,BP,Cb,Bu,Bs,Ca,Cc,B5,Nat.mul_one,GD]))
  rfl
 have ed:NN s [45] = false:=by
  rw [Gb];simpa using hd
 have e2:TE s=IU s:=VO s
 obtain ⟨l,hl⟩:∃l,IU s=l:=⟨_,rfl⟩
 have hlen:=Uk s
 have hmem:=V7 s
 rw [hl] at hlen hmem e2
 have hLb:l.length≤9223372036854775807:=by omega
 refine CW.vc IY [0,2,3,4,5,7,8,9,11,14,15,16,17,42] (by kernel_rfl) ?_
 (repeat ((try refine Vc.mk' ?_);simp (maxSteps:=6000000) only [go_sem,reduceIte,reduceCtorEq,Nat.reduceAdd,Nat.reduceMul,Nat.reduceSub,Nat.reduceLT,Nat.reduceLeDiff,Nat.reduceEqDiff,Int.reduceEq,Int.reduceLT,Int.reduceLE,Int.reduceNe,DS,CV,Fa,BP,Cb,Bu,Bs,Ca,Cc,B5,Nat.mul_one,Du,Ei,Dy,Ee,Eh,DP,EE,JW,C1,FM,ed,e2,hs,hv2,BI ht2]))
 refine CW.Bx (SJ hp top l) (fun x=>x.1≤l.length∧GV x.2.1∧0≤x.2.2∧Ed zb 0 l=Ed x.2.1 x.2.2 (l.drop x.1)) (fun x=>l.length - x.1) (0,zb,0) ⟨Nat.zero_le _,Kt,Int.le_refl _,rfl⟩ ?_ ?_
 ·exact (by refine A9.mk' [top,top+1,top+2] hcl (by simp) (by simp) rfl (AZ ?_) ?_ ?_ <;> simp [Ag,BJ,BH,Am,AP,AF,AJ.nil,AJ.cons,AB,AD,AM,AA,AQ,AX,AO,Ax.AL,AG,AV,AE,AH,AK.set,AK.Ao,AK.refl,Bs,qL])
 ·rintro ⟨k,b,last⟩ ⟨hk,hb,h0,hm⟩
  have hk:k≤l.length:=hk
  have hb:GV b:=hb
  have h0:0≤last:=h0
  have hm:Ed zb 0 l=Ed b last (l.drop k):=hm
  have hI:=OG hb
  have hob:((hp.set top (some (A5.cells true 0 (bl zb)))).set (top+1) (some (A5.cells true 0 (bl b)))).set (top+2) (Au Ah l) (top+2)=Au Ah l:=AG ..
  have hA:=Br.Tu hob hLb
  by_cases hlt:k < l.length
  ·have hlt1:(k:Int) < (l.length:Int):=by omega
   have ld1:=Cm hA hlt
   rw [Nat.mul_one] at ld1
   rw [UQ hlt,Ed] at hm
   have hw:(at' l k).length≤s.length:=hmem _ (by rw [Dt _ _ hlt];exact List.getElem_mem hlt)
   have hw2:(at' l k).length≤281474976710656:=by omega
   obtain ⟨w,hwk⟩:∃w,at' l k=w:=⟨_,rfl⟩
   rw [hwk] at ld1 hm hw2
   have fail:Ed zb 0 l=none→Kx s= .tuple ⟨[.agg ⟨bl zb⟩, .int .i64 4]⟩:=fun h=>by
    rw [←hl] at h
    rw [Kx,(Se hd h).1,(Se hd h).2]
   cases ha:Lib.atoiAll w with
   | «syntax» =>
    rw [ha] at hm
    have ea:∀n,DZ w n=(.tuple ⟨[.int .i64 0, .iface 155 (.pointer (some ⟨n,0,none⟩))]⟩, [],n+1):=fun n=>by simp only [DZ,ha]
    rw [fail hm]
    refine CW.vc IY [0,2,3,4,5,7,8,9,11,14,15,16,17,42] (by kernel_rfl) ?_
    (repeat ((try refine Vc.mk' ?_);simp (maxSteps:=6000000) only [go_sem,reduceIte,reduceCtorEq,Nat.reduceAdd,Nat.reduceMul,Nat.reduceSub,Nat.reduceLT,Nat.reduceLeDiff,Nat.reduceEqDiff,Int.reduceEq,Int.reduceLT,Int.reduceLE,Int.reduceNe,DS,CV,Fa,BP,Cb,Bu,Bs,Ca,Cc,B5,Nat.mul_one,Du,Ei,Dy,Ee,Eh,DP,EE,JW,C1,FM,Cx hA,Cf hA,Cm hA,DQ hA,DU hA,hA.P,hA.oc,hA.cl,hA.rd,hA.ref,SJ,hlt,hlt1,ld1,hw2,ea,hv3,hv4,Kl,BI ht3,BI ht4]))
    rfl
   |range=>
    rw [ha] at hm
    have ea:∀n,DZ w n=(.tuple ⟨[.int .i64 (Lib.atoiSat w), .iface 155 (.pointer (some ⟨n,0,none⟩))]⟩, [],n+1):=fun n=>by simp only [DZ,ha]
    rw [fail hm]
    refine CW.vc IY [0,2,3,4,5,7,8,9,11,14,15,16,17,42] (by kernel_rfl) ?_
    (repeat ((try refine Vc.mk' ?_);simp (maxSteps:=6000000) only [go_sem,reduceIte,reduceCtorEq,Nat.reduceAdd,Nat.reduceMul,Nat.reduceSub,Nat.reduceLT,Nat.reduceLeDiff,Nat.reduceEqDiff,Int.reduceEq,Int.reduceLT,Int.reduceLE,Int.reduceNe,DS,CV,Fa,BP,Cb,Bu,Bs,Ca,Cc,B5,Nat.mul_one,Du,Ei,Dy,Ee,Eh,DP,EE,JW,C1,FM,Cx hA,Cf hA,Cm hA,DQ hA,DU hA,hA.P,hA.oc,hA.cl,hA.rd,hA.ref,SJ,hlt,hlt1,ld1,hw2,ea,hv3,hv4,Kl,BI ht3,BI ht4]))
    rfl
   |ok n=>
    rw [ha] at hm
    have hm:Ed zb 0 l=if last < n∧Cj n=true∧Lib.itoa n=w then Ed (GS b (n - 1).toNat) n (l.drop (k+1)) else none:=hm
    have ea:∀m,DZ w m=(.tuple ⟨[.int .i64 n, .nilIface]⟩, [],m):=fun m=>by simp only [DZ,ha]
    by_cases c1:last < n
    case neg=>
     rw [if_neg (fun h=>c1 h.1)] at hm
     rw [fail hm]
     refine CW.vc IY [0,2,3,4,5,7,8,9,11,14,15,16,17,42] (by kernel_rfl) ?_
     (repeat ((try refine Vc.mk' ?_);simp (maxSteps:=6000000) only [go_sem,reduceIte,reduceCtorEq,Nat.reduceAdd,Nat.reduceMul,Nat.reduceSub,Nat.reduceLT,Nat.reduceLeDiff,Nat.reduceEqDiff,Int.reduceEq,Int.reduceLT,Int.reduceLE,Int.reduceNe,DS,CV,Fa,BP,Cb,Bu,Bs,Ca,Cc,B5,Nat.mul_one,Du,Ei,Dy,Ee,Eh,DP,EE,JW,C1,FM,Cx hA,Cf hA,Cm hA,DQ hA,DU hA,hA.P,hA.oc,hA.cl,hA.rd,hA.ref,SJ,hlt,hlt1,ld1,hw2,ea,hv3,hv4,Jq,c1,BI ht3,BI ht4]))
     rfl
    cases c2:Cj n with
    |false=>
     rw [if_neg (fun h=>by rw [c2] at h;exact absurd h.2.1 (by simp))] at hm
     rw [fail hm]
     refine CW.vc IY [0,2,3,4,5,7,8,9,11,14,15,16,17,42] (by kernel_rfl) ?_
     (repeat ((try refine Vc.mk' ?_);simp (maxSteps:=6000000) only [go_sem,reduceIte,reduceCtorEq,Nat.reduceAdd,Nat.reduceMul,Nat.reduceSub,Nat.reduceLT,Nat.reduceLeDiff,Nat.reduceEqDiff,Int.reduceEq,Int.reduceLT,Int.reduceLE,Int.reduceNe,DS,CV,Fa,BP,Cb,Bu,Bs,Ca,Cc,B5,Nat.mul_one,Du,Ei,Dy,Ee,Eh,DP,EE,JW,C1,FM,Cx hA,Cf hA,Cm hA,DQ hA,DU hA,hA.P,hA.oc,hA.cl,hA.rd,hA.ref,SJ,hlt,hlt1,ld1,hw2,ea,hv3,hv4,Jq,c1,c2,BI ht3,BI ht4]))
     rfl
    |true=>
     have n0:0≤n:=by omega
     have n1:n≤9223372036854775807:=by simp only [Cj,Bool.and_eq_true,decide_eq_true_eq] at c2;omega
     by_cases c3:Lib.itoa n=w
     ·have q3:NN (Lib.itoa n) w=true:=by rw [c3,GD]
      rw [if_pos ⟨c1,c2,c3⟩] at hm
      refine CW.vc IY [0,2,3,4,5,7,8,9,11,14,15,16,17,42] (by kernel_rfl) ?_
      (repeat ((try refine Vc.mk' ?_);simp (maxSteps:=6000000) only [go_sem,reduceIte,reduceCtorEq,Nat.reduceAdd,Nat.reduceMul,Nat.reduceSub,Nat.reduceLT,Nat.reduceLeDiff,Nat.reduceEqDiff,Int.reduceEq,Int.reduceLT,Int.reduceLE,Int.reduceNe,DS,CV,Fa,BP,Cb,Bu,Bs,Ca,Cc,B5,Nat.mul_one,Du,Ei,Dy,Ee,Eh,DP,EE,JW,C1,FM,Cx hA,Cf hA,Cm hA,DQ hA,DU hA,hA.P,hA.oc,hA.cl,hA.rd,hA.ref,SJ,hlt,hlt1,ld1,hw2,ea,hv3,hv4,Jq,c1,c2,n0,n1,q3,hI,hp1,Uy,BI ht1,BI ht3,BI ht4]))
      refine .mk (k+1,GS b (n - 1).toNat,n) ⟨hlt,Gh hb,n0,hm⟩ (by show l.length - (k+1) < l.length - k;omega) ((by refine A9.mk' [top,top+1,top+2] hcl (by simp) (by simp) rfl (AZ ?_) ?_ ?_ <;> simp [Ag,BJ,BH,Am,AP,AF,AJ.nil,AJ.cons,AB,AD,AM,AA,AQ,AX,AO,Ax.AL,AG,AV,AE,AH,AK.set,AK.Ao,AK.refl,Bs,GO hlt hLb]))
     ·have q3:NN (Lib.itoa n) w=false:=by rw [Gb];simpa using c3
      rw [if_neg (fun h=>c3 h.2.2)] at hm
      rw [fail hm]
      refine CW.vc IY [0,2,3,4,5,7,8,9,11,14,15,16,17,42] (by kernel_rfl) ?_
      (repeat ((try refine Vc.mk' ?_);simp (maxSteps:=6000000) only [go_sem,reduceIte,reduceCtorEq,Nat.reduceAdd,Nat.reduceMul,Nat.reduceSub,Nat.reduceLT,Nat.reduceLeDiff,Nat.reduceEqDiff,Int.reduceEq,Int.reduceLT,Int.reduceLE,Int.reduceNe,DS,CV,Fa,BP,Cb,Bu,Bs,Ca,Cc,B5,Nat.mul_one,Du,Ei,Dy,Ee,Eh,DP,EE,JW,C1,FM,Cx hA,Cf hA,Cm hA,DQ hA,DU hA,hA.P,hA.oc,hA.cl,hA.rd,hA.ref,SJ,hlt,hlt1,ld1,hw2,ea,hv3,hv4,Jq,c1,c2,n0,n1,q3,hI,hp1,BI ht1,BI ht3,BI ht4]))
      rfl
  ·have hk2:k=l.length:=by omega
   subst hk2
   rw [List.drop_length,Ed,←hl] at hm
   obtain ⟨_,p1,p2⟩:=Yt hm
   have e:Kx s= .tuple ⟨[.agg ⟨bl b⟩, .int .i64 0]⟩:=by rw [Kx,p1,p2]
   rw [e]
   refine CW.vc IY [0,2,3,4,5,7,8,9,11,14,15,16,17,42] (by kernel_rfl) ?_
   (repeat ((try refine Vc.mk' ?_);simp (maxSteps:=6000000) only [go_sem,reduceIte,reduceCtorEq,Nat.reduceAdd,Nat.reduceMul,Nat.reduceSub,Nat.reduceLT,Nat.reduceLeDiff,Nat.reduceEqDiff,Int.reduceEq,Int.reduceLT,Int.reduceLE,Int.reduceNe,DS,CV,Fa,BP,Cb,Bu,Bs,Ca,Cc,B5,Nat.mul_one,Du,Ei,Dy,Ee,Eh,DP,EE,JW,C1,FM,SJ,Nat.lt_irrefl,Int.lt_irrefl,decide_false]))
theorem XM {hp h:Hp}(hv:B6 hp)(e:∀i,i < 7→h i=hp i):B6 h:=by
 unfold B6
 rw [e 1 (by decide),e 2 (by decide),e 4 (by decide),e 6 (by decide)];exact hv
theorem Cq {hp:Hp}{i:Nat}{o:Option A5}(hi:7≤i):B6 (hp.set i o)=B6 hp:=by
 unfold B6
 rw [AV _ _ _ _ (by omega),AV _ _ _ _ (by omega),AV _ _ _ _ (by omega),AV _ _ _ _ (by omega)]
theorem My {hp:Hp}{top:Nat}(hcl:Cl hp top)(hv:B6 hp):7≤top:=by
 obtain ⟨_,_,_,t,a,h⟩:=hv
 have:=hcl.lt _ _ h
 omega
end Go.Proofs.YthpibnpeaidabaaGreatDoor.Dm
