/- slices.Sort of []uint32: siftDown, heapSort, reverseRange. -/
import Derived.Test.YthpibnpeaidabaaGreatDoorTSI
set_option linter.unusedSimpArgs false
set_option linter.unusedVariables false
namespace Go.Proofs.YthpibnpeaidabaaGreatDoor.Dm
open Go.Dm
open Go.Sort (ltInt swp)
set_option maxHeartbeats 16000000
set_option maxRecDepth 20000
theorem Fz {hi first:Nat}:∀(k root:Nat) (d:Array Int),hi - root≤k→(Go.Sort.siftDown ltInt hi first root d).size=d.size
 |0,root,d,h=>by rw [Go.Sort.siftDown,dif_pos (by omega)]
 |k+1,root,d,h=>by
  rw [Go.Sort.siftDown]
  split
  ·rfl
  ·split
   ·split
    ·rfl
    ·split
     ·rw [Fz k _ _ (by omega),swp_size]
     ·rfl
   ·split
    ·rfl
    ·rw [Fz k _ _ (by omega),swp_size]
theorem nD {hi first root:Nat}{d:Array Int}(h:2 * root+1≥hi):Go.Sort.siftDown ltInt hi first root d=d:=by rw [Go.Sort.siftDown,dif_pos h]
def dF (hi first root:Nat)(d:Array Int):Nat:=if 2 * root+1+1 < hi∧ltInt d[first+(2 * root+1)]! d[first+(2 * root+1)+1]! = true then 2 * root+1+1 else 2 * root+1
theorem e8 {hi first root:Nat}{d:Array Int}(h:¬2 * root+1≥hi)(hl:ltInt d[first+root]! d[first+dF hi first root d]! = false):Go.Sort.siftDown ltInt hi first root d=d:=by
 rw [Go.Sort.siftDown,dif_neg h]
 unfold dF at hl
 split
 ·rename_i c
  rw [if_pos (by simpa using c)] at hl
  rw [if_pos (by simpa using hl)]
 ·rename_i c
  rw [if_neg (by simpa using c)] at hl
  rw [if_pos (by simpa using hl)]
theorem qJ {hi first root:Nat}{d:Array Int}(h:¬2 * root+1≥hi)(hl:ltInt d[first+root]! d[first+dF hi first root d]! = true):Go.Sort.siftDown ltInt hi first root d=Go.Sort.siftDown ltInt hi first (dF hi first root d) (swp d (first+root) (first+dF hi first root d)):=by
 conv=>lhs;rw [Go.Sort.siftDown,dif_neg h]
 unfold dF at hl ⊢
 split
 ·rename_i c
  have c':2 * root+1+1 < hi∧ltInt d[first+(2 * root+1)]! d[first+(2 * root+1)+1]! = true:=by simpa using c
  rw [if_pos c'] at hl ⊢
  rw [if_neg (by simpa using hl),dif_pos c'.1]
 ·rename_i c
  have c':¬(2 * root+1+1 < hi∧ltInt d[first+(2 * root+1)]! d[first+(2 * root+1)+1]! = true):=by simpa using c
  rw [if_neg c'] at hl ⊢
  rw [if_neg (by simpa using hl)]
theorem nJ {hi first root:Nat}{d:Array Int}(h:¬2 * root+1≥hi):dF hi first root d < hi∧root < dF hi first root d:=by
 unfold dF
 split
 ·rename_i c;exact ⟨c.1,by omega⟩
 ·omega
def Zt (hp:Hp)(v:Value)(lo hi fi:Int):Prop:= ∃q d,Db hp v q d∧0≤lo∧0≤hi∧0≤fi∧fi+hi≤(d.size:Int)∧lo≤(d.size:Int)
def Rp:BO:= .det (fun args hp _=>match args with | [v, .int .i64 lo, .int .i64 hi, .int .i64 fi]=>Zt hp v lo hi fi | _=>False)
 (fun args hp top=>match args with | [v,lo,hi,fi]=>(.tuple ⟨[]⟩,QZ v (Go.Sort.siftDown ltInt (intOf hi).toNat (intOf fi).toNat (intOf lo).toNat (Gy hp v)),top) | _=>(undef, [],top))
def Kz (hp:Hp)(top:Nat)(q n hi fi:Nat)(x:Nat×Array Int):SS:=⟨[(0, .slice (some ⟨q,0,none⟩) n n,true),(2, .int .i64 (hi:Int),true),(3, .int .i64 (fi:Int),true),(8, .int .i64 (x.1:Int),true)],hp.A0 [(q,Ad x.2)],top+0⟩
theorem oy:BG Tryz.prog 132 Rp:=by
 refine .Cy Mf ?_
 intro args hp top hpre hcl hsc
 match args,hpre with
 | [v, .int .i64 lo, .int .i64 hi, .int .i64 fi],hpre=>
 obtain ⟨q,d,hrow,h1,h2,h3,h4,h5⟩:=hpre
 obtain ⟨lo,rfl⟩:=Int.eq_ofNat_of_zero_le h1
 obtain ⟨hi,rfl⟩:=Int.eq_ofNat_of_zero_le h2
 obtain ⟨fi,rfl⟩:=Int.eq_ofNat_of_zero_le h3
 have hn:d.size≤35184372088832:=hrow.le
 have hqt:=hrow.Xw hcl
 simp only [hrow.D5,hrow.MZ,intOf_int,Int.toNat_natCast]
 obtain ⟨rfl,ho,_,_⟩:=hrow
 refine Ab.BF BN Mf rfl 76 rfl [] rfl (show 4≤76 by decide) ?_
 refine CW.vc A3 [0,1,2,3,8,9,16,36,52] (by kernel_rfl) ?_
 (repeat ((try refine Vc.mk' ?_);simp (maxSteps:=6000000) only [go_sem,reduceIte,reduceCtorEq,Nat.reduceAdd,Nat.reduceMul,Nat.reduceSub,Nat.reduceLT,Nat.reduceLeDiff,Nat.reduceEqDiff,Int.reduceEq,Int.reduceLT,Int.reduceLE,Int.reduceNe]))
 refine CW.Bx (Kz hp top q d.size hi fi) (fun x=>x.1≤d.size∧x.2.size=d.size∧Go.Sort.siftDown ltInt hi fi x.1 x.2=Go.Sort.siftDown ltInt hi fi lo d) (fun x=>d.size - x.1) (lo,d) ⟨by dsimp only;omega,rfl,rfl⟩ ?_ ?_
 ·exact (by refine A9.mk' [] hcl (by simp) (by simp) rfl (AZ ?_) ?_ ?_ <;> simp [Ag,BJ,BH,Am,AP,AF,AJ.nil,AJ.cons,AB,AD,AM,AA,AQ,AX,AO,Ax.AL,AG,AV,AE,AH,AK.set,AK.Ao,AK.refl,Kz,Af hqt,AY,ho])
 ·rintro ⟨r,f⟩ ⟨hr,hfs,hfe⟩
  dsimp only at hr hfs hfe ⊢
  obtain ⟨z,hz⟩:∃m:Nat,m=2 * r:=⟨_,rfl⟩
  obtain ⟨m,hm⟩:∃m:Nat,m=2 * r+1:=⟨_,rfl⟩
  have w1:Ae .i64 (2 * (r:Int))=((z:Nat):Int):=by rw [wrap64 (by omega) (by omega)];omega
  have w2:Ae .i64 ((z:Int)+1)=((m:Nat):Int):=by rw [wrap64 (by omega) (by omega)];omega
  by_cases c1:2 * r+1≥hi
  ·have c1':((m:Int) < (hi:Int))=False:=eq_false (by omega)
   rw [←hfe,nD c1]
   refine CW.vc A3 [0,1,2,3,8,9,16,36,52] (by kernel_rfl) ?_
   (repeat ((try refine Vc.mk' ?_);simp (maxSteps:=6000000) only [go_sem,reduceIte,reduceCtorEq,Nat.reduceAdd,Nat.reduceMul,Nat.reduceSub,Nat.reduceLT,Nat.reduceLeDiff,Nat.reduceEqDiff,Int.reduceEq,Int.reduceLT,Int.reduceLE,Int.reduceNe,Kz,w1,w2,c1',decide_false,Bool.not_false]))
   (refine ⟨[],by simp,by simp,by simp, ?_, ?_, ?_⟩ <;> simp [Ag,BJ,BH,Am,AP,AF,AJ.nil,AJ.cons,AB,AD,AM,AA,AQ,AX,AO,Ax.AL,AG,AV,AE,AH,AK.set,AK.Ao,AK.refl,Af hqt,AY])
  ·have c1':((m:Int) < (hi:Int))=True:=eq_true (by omega)
   obtain ⟨k,hk⟩:∃m:Nat,m=2 * r+1+1:=⟨_,rfl⟩
   obtain ⟨a0,ha0⟩:∃m:Nat,m=fi+r:=⟨_,rfl⟩
   obtain ⟨a1,ha1⟩:∃m:Nat,m=fi+(2 * r+1):=⟨_,rfl⟩
   obtain ⟨a2,ha2⟩:∃m:Nat,m=fi+(2 * r+1)+1:=⟨_,rfl⟩
   have w3:Ae .i64 ((m:Int)+1)=((k:Nat):Int):=by rw [wrap64 (by omega) (by omega)];omega
   have w4:Ae .i64 ((fi:Int)+(m:Int))=((a1:Nat):Int):=by rw [wrap64 (by omega) (by omega)];omega
   have w5:Ae .i64 ((a1:Int)+1)=((a2:Nat):Int):=by rw [wrap64 (by omega) (by omega)];omega
   have w6:Ae .i64 ((fi:Int)+(r:Int))=((a0:Nat):Int):=by rw [wrap64 (by omega) (by omega)];omega
   have w7:Ae .i64 ((fi:Int)+(k:Int))=((a2:Nat):Int):=by rw [wrap64 (by omega) (by omega)];omega
   have hc:=nJ (first:=fi) (d:=f) c1
   have hst:=e8 (first:=fi) (d:=f) c1
   have hgo:=qJ (first:=fi) (d:=f) c1
   have hCd:dF hi fi r f=if 2 * r+1+1 < hi∧ltInt f[fi+(2 * r+1)]! f[fi+(2 * r+1)+1]! = true then 2 * r+1+1 else 2 * r+1:=rfl
   have x0:=fun (bb:Nat)=>Ar (b:=bb) hn (show a0 < d.size by omega)
   have l0:∀ {h':Hp},h' q=Ad f→An tt.get h' 29 (.pointer (some ⟨q,a0,none⟩))=(.int .u32 f[a0]!,True):=fun hee=>Ap hee (by omega) (by omega)
   have x1:=fun (bb:Nat)=>Ar (b:=bb) hn (show a1 < d.size by omega)
   have l1:∀ {h':Hp},h' q=Ad f→An tt.get h' 29 (.pointer (some ⟨q,a1,none⟩))=(.int .u32 f[a1]!,True):=fun hee=>Ap hee (by omega) (by omega)
   have e2:fi+(2 * r+1+1)=a2:=by omega
   rw [←ha2,←ha1] at hCd
   by_cases c2:2 * r+1+1 < hi
   ·have c2':((k:Int) < (hi:Int))=True:=eq_true (by omega)
    have x2:=fun (bb:Nat)=>Ar (b:=bb) hn (show a2 < d.size by omega)
    have l2:∀ {h':Hp},h' q=Ad f→An tt.get h' 29 (.pointer (some ⟨q,a2,none⟩))=(.int .u32 f[a2]!,True):=fun hee=>Ap hee (by omega) (by omega)
    by_cases c3:ltInt f[a1]! f[a2]! = true
    ·rw [if_pos ⟨c2,c3⟩] at hCd
     rw [hCd,e2,←ha0] at hst hgo
     rw [hCd] at hc
     rw [←hk] at hgo hc
     by_cases c4:ltInt f[a0]! f[a2]! = true
     ·have s1a:∀ {h':Hp},h' q=Ad f→Aw tt.get h' 29 (.pointer (some ⟨q,a0,none⟩)) (.int .u32 f[a2]!)=([(q,Ad (f.setIfInBounds a0 f[a2]!))],True):=fun hee=>BK hee (by omega)
      have s1b:∀ {h':Hp},h' q=Ad (f.setIfInBounds a0 f[a2]!)→Aw tt.get h' 29 (.pointer (some ⟨q,a2,none⟩)) (.int .u32 f[a0]!)=([(q,Ad (swp f a0 a2))],True):=fun hee=>BK hee (by rw [Array.size_setIfInBounds];omega)
      refine CW.vc A3 [0,1,2,3,8,9,16,36,52] (by kernel_rfl) ?_
      (repeat ((try refine Vc.mk' ?_);simp (maxSteps:=6000000) only [go_sem,reduceIte,reduceCtorEq,Nat.reduceAdd,Nat.reduceMul,Nat.reduceSub,Nat.reduceLT,Nat.reduceLeDiff,Nat.reduceEqDiff,Int.reduceEq,Int.reduceLT,Int.reduceLE,Int.reduceNe,Kz,w1,w2,w3,w4,w5,w6,w7,c1',c2',decide_true,Bool.not_true,x0,l0,x1,l1,x2,l2,Bq,Ba,c3,c4,s1a,s1b]))
      refine .mk (k,swp f a0 a2) ⟨by dsimp only;omega,by dsimp only;rw [swp_size];exact hfs,by dsimp only;rw [←hfe,hgo c4]⟩ (by dsimp only;omega) ((by refine A9.mk' [] hcl (by simp) (by simp) rfl (AZ ?_) ?_ ?_ <;> simp [Ag,BJ,BH,Am,AP,AF,AJ.nil,AJ.cons,AB,AD,AM,AA,AQ,AX,AO,Ax.AL,AG,AV,AE,AH,AK.set,AK.Ao,AK.refl,Kz,Af hqt,AY]))
     ·have c4':ltInt f[a0]! f[a2]! = false:=by simpa using c4
      rw [←hfe,hst c4']
      refine CW.vc A3 [0,1,2,3,8,9,16,36,52] (by kernel_rfl) ?_
      (repeat ((try refine Vc.mk' ?_);simp (maxSteps:=6000000) only [go_sem,reduceIte,reduceCtorEq,Nat.reduceAdd,Nat.reduceMul,Nat.reduceSub,Nat.reduceLT,Nat.reduceLeDiff,Nat.reduceEqDiff,Int.reduceEq,Int.reduceLT,Int.reduceLE,Int.reduceNe,Kz,w1,w2,w3,w4,w5,w6,w7,c1',c2',decide_true,Bool.not_true,Bool.not_false,x0,l0,x1,l1,x2,l2,Bq,Ba,c3,c4']))
      (refine ⟨[],by simp,by simp,by simp, ?_, ?_, ?_⟩ <;> simp [Ag,BJ,BH,Am,AP,AF,AJ.nil,AJ.cons,AB,AD,AM,AA,AQ,AX,AO,Ax.AL,AG,AV,AE,AH,AK.set,AK.Ao,AK.refl,Af hqt,AY])
    ·have c3':ltInt f[a1]! f[a2]! = false:=by simpa using c3
     rw [if_neg (fun h=>c3 h.2)] at hCd
     rw [hCd,←ha1,←ha0] at hst hgo
     rw [hCd] at hc
     rw [←hm] at hgo hc
     by_cases c4:ltInt f[a0]! f[a1]! = true
     ·have s1a:∀ {h':Hp},h' q=Ad f→Aw tt.get h' 29 (.pointer (some ⟨q,a0,none⟩)) (.int .u32 f[a1]!)=([(q,Ad (f.setIfInBounds a0 f[a1]!))],True):=fun hee=>BK hee (by omega)
      have s1b:∀ {h':Hp},h' q=Ad (f.setIfInBounds a0 f[a1]!)→Aw tt.get h' 29 (.pointer (some ⟨q,a1,none⟩)) (.int .u32 f[a0]!)=([(q,Ad (swp f a0 a1))],True):=fun hee=>BK hee (by rw [Array.size_setIfInBounds];omega)
      refine CW.vc A3 [0,1,2,3,8,9,16,36,52] (by kernel_rfl) ?_
      (repeat ((try refine Vc.mk' ?_);simp (maxSteps:=6000000) only [go_sem,reduceIte,reduceCtorEq,Nat.reduceAdd,Nat.reduceMul,Nat.reduceSub,Nat.reduceLT,Nat.reduceLeDiff,Nat.reduceEqDiff,Int.reduceEq,Int.reduceLT,Int.reduceLE,Int.reduceNe,Kz,w1,w2,w3,w4,w5,w6,c1',c2',decide_true,Bool.not_true,x0,l0,x1,l1,x2,l2,Bq,Ba,c3',c4,s1a,s1b]))
      refine .mk (m,swp f a0 a1) ⟨by dsimp only;omega,by dsimp only;rw [swp_size];exact hfs,by dsimp only;rw [←hfe,hgo c4]⟩ (by dsimp only;omega) ((by refine A9.mk' [] hcl (by simp) (by simp) rfl (AZ ?_) ?_ ?_ <;> simp [Ag,BJ,BH,Am,AP,AF,AJ.nil,AJ.cons,AB,AD,AM,AA,AQ,AX,AO,Ax.AL,AG,AV,AE,AH,AK.set,AK.Ao,AK.refl,Kz,Af hqt,AY]))
     ·have c4':ltInt f[a0]! f[a1]! = false:=by simpa using c4
      rw [←hfe,hst c4']
      refine CW.vc A3 [0,1,2,3,8,9,16,36,52] (by kernel_rfl) ?_
      (repeat ((try refine Vc.mk' ?_);simp (maxSteps:=6000000) only [go_sem,reduceIte,reduceCtorEq,Nat.reduceAdd,Nat.reduceMul,Nat.reduceSub,Nat.reduceLT,Nat.reduceLeDiff,Nat.reduceEqDiff,Int.reduceEq,Int.reduceLT,Int.reduceLE,Int.reduceNe,Kz,w1,w2,w3,w4,w5,w6,c1',c2',decide_true,Bool.not_true,Bool.not_false,x0,l0,x1,l1,x2,l2,Bq,Ba,c3',c4']))
      (refine ⟨[],by simp,by simp,by simp, ?_, ?_, ?_⟩ <;> simp [Ag,BJ,BH,Am,AP,AF,AJ.nil,AJ.cons,AB,AD,AM,AA,AQ,AX,AO,Ax.AL,AG,AV,AE,AH,AK.set,AK.Ao,AK.refl,Af hqt,AY])
   ·have c2':((k:Int) < (hi:Int))=False:=eq_false (by omega)
    rw [if_neg (fun h=>c2 h.1)] at hCd
    rw [hCd,←ha1,←ha0] at hst hgo
    rw [hCd] at hc
    rw [←hm] at hgo hc
    by_cases c4:ltInt f[a0]! f[a1]! = true
    ·have s1a:∀ {h':Hp},h' q=Ad f→Aw tt.get h' 29 (.pointer (some ⟨q,a0,none⟩)) (.int .u32 f[a1]!)=([(q,Ad (f.setIfInBounds a0 f[a1]!))],True):=fun hee=>BK hee (by omega)
     have s1b:∀ {h':Hp},h' q=Ad (f.setIfInBounds a0 f[a1]!)→Aw tt.get h' 29 (.pointer (some ⟨q,a1,none⟩)) (.int .u32 f[a0]!)=([(q,Ad (swp f a0 a1))],True):=fun hee=>BK hee (by rw [Array.size_setIfInBounds];omega)
     refine CW.vc A3 [0,1,2,3,8,9,16,36,52] (by kernel_rfl) ?_
     (repeat ((try refine Vc.mk' ?_);simp (maxSteps:=6000000) only [go_sem,reduceIte,reduceCtorEq,Nat.reduceAdd,Nat.reduceMul,Nat.reduceSub,Nat.reduceLT,Nat.reduceLeDiff,Nat.reduceEqDiff,Int.reduceEq,Int.reduceLT,Int.reduceLE,Int.reduceNe,Kz,w1,w2,w3,w4,w5,w6,c1',c2',decide_true,decide_false,Bool.not_true,x0,l0,x1,l1,Bq,Ba,c4,s1a,s1b]))
     refine .mk (m,swp f a0 a1) ⟨by dsimp only;omega,by dsimp only;rw [swp_size];exact hfs,by dsimp only;rw [←hfe,hgo c4]⟩ (by dsimp only;omega) ((by refine A9.mk' [] hcl (by simp) (by simp) rfl (AZ ?_) ?_ ?_ <;> simp [Ag,BJ,BH,Am,AP,AF,AJ.nil,AJ.cons,AB,AD,AM,AA,AQ,AX,AO,Ax.AL,AG,AV,AE,AH,AK.set,AK.Ao,AK.refl,Kz,Af hqt,AY]))
    ·have c4':ltInt f[a0]! f[a1]! = false:=by simpa using c4
     rw [←hfe,hst c4']
     refine CW.vc A3 [0,1,2,3,8,9,16,36,52] (by kernel_rfl) ?_
     (repeat ((try refine Vc.mk' ?_);simp (maxSteps:=6000000) only [go_sem,reduceIte,reduceCtorEq,Nat.reduceAdd,Nat.reduceMul,Nat.reduceSub,Nat.reduceLT,Nat.reduceLeDiff,Nat.reduceEqDiff,Int.reduceEq,Int.reduceLT,Int.reduceLE,Int.reduceNe,Kz,w1,w2,w3,w4,w5,w6,c1',c2',decide_true,decide_false,Bool.not_true,Bool.not_false,x0,l0,x1,l1,Bq,Ba,c4']))
     (refine ⟨[],by simp,by simp,by simp, ?_, ?_, ?_⟩ <;> simp [Ag,BJ,BH,Am,AP,AF,AJ.nil,AJ.cons,AB,AD,AM,AA,AQ,AX,AO,Ax.AL,AG,AV,AE,AH,AK.set,AK.Ao,AK.refl,Af hqt,AY])
end Go.Proofs.YthpibnpeaidabaaGreatDoor.Dm
