/- slices.Sort of []uint32: siftDown, heapSort, reverseRange. -/
import Derived.Test.YthpibnpeaidabaaGreatDoorTSI
set_option linter.unusedVariables false
namespace Go.Proofs.YthpibnpeaidabaaGreatDoor.Dm
open Go.Dm
open Go.Sort (ltInt swp)
set_option maxHeartbeats 16000000
set_option maxRecDepth 20000
theorem FP {hi first:Nat}:∀(k root:Nat) (d:Array Int),hi - root≤k→(Go.Sort.siftDown ltInt hi first root d).size=d.size
 |0,root,d,h=>by rw [Go.Sort.siftDown,dif_pos (by omega)]
 |k+1,root,d,h=>by
  rw [Go.Sort.siftDown]
  split
  ·rfl
  ·split
   ·split
    ·rfl
    ·split
     ·rw [FP k _ _ (by omega),swp_size]
     ·rfl
   ·split
    ·rfl
    ·rw [FP k _ _ (by omega),swp_size]
theorem nb {hi first root:Nat}{d:Array Int}(h:2 * root+1≥hi):Go.Sort.siftDown ltInt hi first root d=d:=by rw [Go.Sort.siftDown,dif_pos h]
/-- the child that is looked at -/
def cX (hi first root:Nat)(d:Array Int):Nat:=if 2 * root+1+1 < hi∧ltInt d[first+(2 * root+1)]! d[first+(2 * root+1)+1]! = true then 2 * root+1+1 else 2 * root+1
theorem iy {hi first root:Nat}{d:Array Int}(h:¬2 * root+1≥hi)(hl:ltInt d[first+root]! d[first+cX hi first root d]! = false):Go.Sort.siftDown ltInt hi first root d=d:=by
 rw [Go.Sort.siftDown,dif_neg h]
 unfold cX at hl
 split
 ·rename_i c
  rw [if_pos (by simpa using c)] at hl
  rw [if_pos (by simpa using hl)]
 ·rename_i c
  rw [if_neg (by simpa using c)] at hl
  rw [if_pos (by simpa using hl)]
theorem tK {hi first root:Nat}{d:Array Int}(h:¬2 * root+1≥hi)(hl:ltInt d[first+root]! d[first+cX hi first root d]! = true):Go.Sort.siftDown ltInt hi first root d=Go.Sort.siftDown ltInt hi first (cX hi first root d) (swp d (first+root) (first+cX hi first root d)):=by
 conv=>lhs;rw [Go.Sort.siftDown,dif_neg h]
 unfold cX at hl ⊢
 split
 ·rename_i c
  have c':2 * root+1+1 < hi∧ltInt d[first+(2 * root+1)]! d[first+(2 * root+1)+1]! = true:=by simpa using c
  rw [if_pos c'] at hl ⊢
  rw [if_neg (by simpa using hl),dif_pos c'.1]
 ·rename_i c
  have c':¬(2 * root+1+1 < hi∧ltInt d[first+(2 * root+1)]! d[first+(2 * root+1)+1]! = true):=by simpa using c
  rw [if_neg c'] at hl ⊢
  rw [if_neg (by simpa using hl)]
theorem mo {hi first root:Nat}{d:Array Int}(h:¬2 * root+1≥hi):cX hi first root d < hi∧root < cX hi first root d:=by
 unfold cX
 split
 ·rename_i c;exact ⟨c.1,by omega⟩
 ·omega
def ZJ (hp:Hp)(v:Value)(lo hi fi:Int):Prop:= ∃q d,C3 hp v q d∧0≤lo∧0≤hi∧0≤fi∧fi+hi≤(d.size:Int)∧lo≤(d.size:Int)
def QW:BB:= .det (fun args hp _=>match args with | [v, .int .i64 lo, .int .i64 hi, .int .i64 fi]=>ZJ hp v lo hi fi | _=>False)
 (fun args hp top=>match args with | [v,lo,hi,fi]=>(.tuple ⟨[]⟩,SY v (Go.Sort.siftDown ltInt (intOf hi).toNat (intOf fi).toNat (intOf lo).toNat (GZ hp v)),top) | _=>(undef, [],top))
def Q3 (hp:Hp)(top:Nat)(q n hi fi:Nat)(x:Nat×Array Int):SS:=⟨[(0, .slice (some ⟨q,0,none⟩) n n,true),(2, .int .i64 (hi:Int),true),(3, .int .i64 (fi:Int),true),(8, .int .i64 (x.1:Int),true)],hp.Am [(q,AO x.2)],top+0⟩
theorem sE:A4 Tryz.prog 132 QW:=by
 refine .Ci LQ ?_
 intro args hp top hpre hcl hsc
 match args,hpre with
 | [v, .int .i64 lo, .int .i64 hi, .int .i64 fi],hpre=>
 obtain ⟨q,d,hrow,h1,h2,h3,h4,h5⟩:=hpre
 obtain ⟨lo,rfl⟩:=Int.eq_ofNat_of_zero_le h1
 obtain ⟨hi,rfl⟩:=Int.eq_ofNat_of_zero_le h2
 obtain ⟨fi,rfl⟩:=Int.eq_ofNat_of_zero_le h3
 have hn:d.size≤35184372088832:=hrow.le
 have hqt:=hrow.XQ hcl
 simp only [hrow.DQ,hrow.MH,intOf_int,Int.toNat_natCast]
 obtain ⟨rfl,ho,_,_⟩:=hrow
 refine AK.A5 BC LQ rfl 76 rfl [] rfl (show 4≤76 by decide) ?_
 refine CW.vc Aq [0,1,2,3,8,9,16,36,52] (by kernel_rfl) ?_
 (repeat ((try refine Vc.mk' ?_);simp (config:= {maxSteps:=6000000}) only [go_sem,Nat.reduceAdd]))
 refine CW.Bp (Q3 hp top q d.size hi fi) (fun x=>x.1≤d.size∧x.2.size=d.size∧Go.Sort.siftDown ltInt hi fi x.1 x.2=Go.Sort.siftDown ltInt hi fi lo d) (fun x=>d.size - x.1) (lo,d) ⟨by dsimp only;omega,rfl,rfl⟩ ?_ ?_
 ·exact (by refine Ar.mk' [] hcl (by simp) (by simp) rfl (AG ?_) ?_ ?_ <;> simp [Ac,Ba,A3,AA.nil,AA.cons,AH.refl,AP hqt,AF,ho])
 ·rintro ⟨r,f⟩ ⟨hr,hfs,hfe⟩
  dsimp only at hr hfs hfe ⊢
  obtain ⟨z,hz⟩:∃m:Nat,m=2 * r:=⟨_,rfl⟩
  obtain ⟨m,hm⟩:∃m:Nat,m=2 * r+1:=⟨_,rfl⟩
  have w1:AL .i64 (2 * (r:Int))=((z:Nat):Int):=by rw [wrap64 (by omega) (by omega)];omega
  have w2:AL .i64 ((z:Int)+1)=((m:Nat):Int):=by rw [wrap64 (by omega) (by omega)];omega
  by_cases c1:2 * r+1≥hi
  ·have c1':((m:Int) < (hi:Int))=False:=eq_false (by omega)
   rw [←hfe,nb c1]
   refine CW.vc Aq [0,1,2,3,8,9,16,36,52] (by kernel_rfl) ?_
   (repeat ((try refine Vc.mk' ?_);simp (config:= {maxSteps:=6000000}) only [go_sem,reduceCtorEq,Q3,w1,w2,c1',decide_false,Bool.not_false]))
   (refine ⟨[],by simp,by simp,by simp, ?_, ?_, ?_⟩ <;> simp [A3,Bi,AA.nil,AA.cons,AB,AH.Aw,AH.refl,AP hqt,AF])
  ·have c1':((m:Int) < (hi:Int))=True:=eq_true (by omega)
   obtain ⟨k,hk⟩:∃m:Nat,m=2 * r+1+1:=⟨_,rfl⟩
   obtain ⟨a0,ha0⟩:∃m:Nat,m=fi+r:=⟨_,rfl⟩
   obtain ⟨a1,ha1⟩:∃m:Nat,m=fi+(2 * r+1):=⟨_,rfl⟩
   obtain ⟨a2,ha2⟩:∃m:Nat,m=fi+(2 * r+1)+1:=⟨_,rfl⟩
   have w3:AL .i64 ((m:Int)+1)=((k:Nat):Int):=by rw [wrap64 (by omega) (by omega)];omega
   have w4:AL .i64 ((fi:Int)+(m:Int))=((a1:Nat):Int):=by rw [wrap64 (by omega) (by omega)];omega
   have w5:AL .i64 ((a1:Int)+1)=((a2:Nat):Int):=by rw [wrap64 (by omega) (by omega)];omega
   have w6:AL .i64 ((fi:Int)+(r:Int))=((a0:Nat):Int):=by rw [wrap64 (by omega) (by omega)];omega
   have w7:AL .i64 ((fi:Int)+(k:Int))=((a2:Nat):Int):=by rw [wrap64 (by omega) (by omega)];omega
   have hc:=mo (first:=fi) (d:=f) c1
   have hst:=iy (first:=fi) (d:=f) c1
   have hgo:=tK (first:=fi) (d:=f) c1
   have hCd:cX hi fi r f=if 2 * r+1+1 < hi∧ltInt f[fi+(2 * r+1)]! f[fi+(2 * r+1)+1]! = true then 2 * r+1+1 else 2 * r+1:=rfl
   have x0:=fun (bb:Nat)=>Ae (b:=bb) hn (show a0 < d.size by omega)
   have l0:∀ {h':Hp},h' q=AO f→AZ tt.get h' 29 (.pointer (some ⟨q,a0,none⟩))=(.int .u32 f[a0]!,True):=fun hee=>Ab hee (by omega) (by omega)
   have x1:=fun (bb:Nat)=>Ae (b:=bb) hn (show a1 < d.size by omega)
   have l1:∀ {h':Hp},h' q=AO f→AZ tt.get h' 29 (.pointer (some ⟨q,a1,none⟩))=(.int .u32 f[a1]!,True):=fun hee=>Ab hee (by omega) (by omega)
   have e2:fi+(2 * r+1+1)=a2:=by omega
   rw [←ha2,←ha1] at hCd
   by_cases c2:2 * r+1+1 < hi
   ·have c2':((k:Int) < (hi:Int))=True:=eq_true (by omega)
    have x2:=fun (bb:Nat)=>Ae (b:=bb) hn (show a2 < d.size by omega)
    have l2:∀ {h':Hp},h' q=AO f→AZ tt.get h' 29 (.pointer (some ⟨q,a2,none⟩))=(.int .u32 f[a2]!,True):=fun hee=>Ab hee (by omega) (by omega)
    by_cases c3:ltInt f[a1]! f[a2]! = true
    ·rw [if_pos ⟨c2,c3⟩] at hCd
     rw [hCd,e2,←ha0] at hst hgo
     rw [hCd] at hc
     rw [←hk] at hgo hc
     by_cases c4:ltInt f[a0]! f[a2]! = true
     ·have s1a:∀ {h':Hp},h' q=AO f→Ag tt.get h' 29 (.pointer (some ⟨q,a0,none⟩)) (.int .u32 f[a2]!)=([(q,AO (f.setIfInBounds a0 f[a2]!))],True):=fun hee=>A6 hee (by omega)
      have s1b:∀ {h':Hp},h' q=AO (f.setIfInBounds a0 f[a2]!)→Ag tt.get h' 29 (.pointer (some ⟨q,a2,none⟩)) (.int .u32 f[a0]!)=([(q,AO (swp f a0 a2))],True):=fun hee=>A6 hee (by rw [Array.size_setIfInBounds];omega)
      refine CW.vc Aq [0,1,2,3,8,9,16,36,52] (by kernel_rfl) ?_
      (repeat ((try refine Vc.mk' ?_);simp (config:= {maxSteps:=6000000}) only [go_sem,Q3,w1,w2,w3,w4,w5,w6,w7,c1',c2',decide_true,Bool.not_true,x0,l0,x1,l1,x2,l2,Bh,BR,c3,c4,s1a,s1b]))
      refine .mk (k,swp f a0 a2) ⟨by dsimp only;omega,by dsimp only;rw [swp_size];exact hfs,by dsimp only;rw [←hfe,hgo c4]⟩ (by dsimp only;omega) ((by refine Ar.mk' [] hcl (by simp) (by simp) rfl (AG ?_) ?_ ?_ <;> simp [Ac,Ba,A3,AA.nil,AA.cons,AB,AH.Aw,AH.refl,AP hqt,AF]))
     ·have c4':ltInt f[a0]! f[a2]! = false:=by simpa using c4
      rw [←hfe,hst c4']
      refine CW.vc Aq [0,1,2,3,8,9,16,36,52] (by kernel_rfl) ?_
      (repeat ((try refine Vc.mk' ?_);simp (config:= {maxSteps:=6000000}) only [go_sem,Q3,w1,w2,w3,w4,w5,w6,w7,c1',c2',decide_true,Bool.not_true,Bool.not_false,x0,l0,x1,l1,x2,l2,Bh,BR,c3,c4']))
      (refine ⟨[],by simp,by simp,by simp, ?_, ?_, ?_⟩ <;> simp [A3,Bi,AA.nil,AA.cons,AB,AH.Aw,AH.refl,AP hqt,AF])
    ·have c3':ltInt f[a1]! f[a2]! = false:=by simpa using c3
     rw [if_neg (fun h=>c3 h.2)] at hCd
     rw [hCd,←ha1,←ha0] at hst hgo
     rw [hCd] at hc
     rw [←hm] at hgo hc
     by_cases c4:ltInt f[a0]! f[a1]! = true
     ·have s1a:∀ {h':Hp},h' q=AO f→Ag tt.get h' 29 (.pointer (some ⟨q,a0,none⟩)) (.int .u32 f[a1]!)=([(q,AO (f.setIfInBounds a0 f[a1]!))],True):=fun hee=>A6 hee (by omega)
      have s1b:∀ {h':Hp},h' q=AO (f.setIfInBounds a0 f[a1]!)→Ag tt.get h' 29 (.pointer (some ⟨q,a1,none⟩)) (.int .u32 f[a0]!)=([(q,AO (swp f a0 a1))],True):=fun hee=>A6 hee (by rw [Array.size_setIfInBounds];omega)
      refine CW.vc Aq [0,1,2,3,8,9,16,36,52] (by kernel_rfl) ?_
      (repeat ((try refine Vc.mk' ?_);simp (config:= {maxSteps:=6000000}) only [go_sem,Q3,w1,w2,w3,w4,w5,w6,c1',c2',decide_true,Bool.not_true,x0,l0,x1,l1,x2,l2,Bh,BR,c3',c4,s1a,s1b]))
      refine .mk (m,swp f a0 a1) ⟨by dsimp only;omega,by dsimp only;rw [swp_size];exact hfs,by dsimp only;rw [←hfe,hgo c4]⟩ (by dsimp only;omega) ((by refine Ar.mk' [] hcl (by simp) (by simp) rfl (AG ?_) ?_ ?_ <;> simp [Ac,Ba,A3,AA.nil,AA.cons,AB,AH.Aw,AH.refl,AP hqt,AF]))
     ·have c4':ltInt f[a0]! f[a1]! = false:=by simpa using c4
      rw [←hfe,hst c4']
      refine CW.vc Aq [0,1,2,3,8,9,16,36,52] (by kernel_rfl) ?_
      (repeat ((try refine Vc.mk' ?_);simp (config:= {maxSteps:=6000000}) only [go_sem,Q3,w1,w2,w3,w4,w5,w6,c1',c2',decide_true,Bool.not_true,Bool.not_false,x0,l0,x1,l1,x2,l2,Bh,BR,c3',c4']))
      (refine ⟨[],by simp,by simp,by simp, ?_, ?_, ?_⟩ <;> simp [A3,Bi,AA.nil,AA.cons,AB,AH.Aw,AH.refl,AP hqt,AF])
   ·have c2':((k:Int) < (hi:Int))=False:=eq_false (by omega)
    rw [if_neg (fun h=>c2 h.1)] at hCd
    rw [hCd,←ha1,←ha0] at hst hgo
    rw [hCd] at hc
    rw [←hm] at hgo hc
    by_cases c4:ltInt f[a0]! f[a1]! = true
    ·have s1a:∀ {h':Hp},h' q=AO f→Ag tt.get h' 29 (.pointer (some ⟨q,a0,none⟩)) (.int .u32 f[a1]!)=([(q,AO (f.setIfInBounds a0 f[a1]!))],True):=fun hee=>A6 hee (by omega)
     have s1b:∀ {h':Hp},h' q=AO (f.setIfInBounds a0 f[a1]!)→Ag tt.get h' 29 (.pointer (some ⟨q,a1,none⟩)) (.int .u32 f[a0]!)=([(q,AO (swp f a0 a1))],True):=fun hee=>A6 hee (by rw [Array.size_setIfInBounds];omega)
     refine CW.vc Aq [0,1,2,3,8,9,16,36,52] (by kernel_rfl) ?_
     (repeat ((try refine Vc.mk' ?_);simp (config:= {maxSteps:=6000000}) only [go_sem,Q3,w1,w2,w3,w4,w5,w6,c1',c2',decide_true,decide_false,Bool.not_true,x0,l0,x1,l1,Bh,BR,c4,s1a,s1b]))
     refine .mk (m,swp f a0 a1) ⟨by dsimp only;omega,by dsimp only;rw [swp_size];exact hfs,by dsimp only;rw [←hfe,hgo c4]⟩ (by dsimp only;omega) ((by refine Ar.mk' [] hcl (by simp) (by simp) rfl (AG ?_) ?_ ?_ <;> simp [Ac,Ba,A3,AA.nil,AA.cons,AB,AH.Aw,AH.refl,AP hqt,AF]))
    ·have c4':ltInt f[a0]! f[a1]! = false:=by simpa using c4
     rw [←hfe,hst c4']
     refine CW.vc Aq [0,1,2,3,8,9,16,36,52] (by kernel_rfl) ?_
     (repeat ((try refine Vc.mk' ?_);simp (config:= {maxSteps:=6000000}) only [go_sem,Q3,w1,w2,w3,w4,w5,w6,c1',c2',decide_true,decide_false,Bool.not_true,Bool.not_false,x0,l0,x1,l1,Bh,BR,c4']))
     (refine ⟨[],by simp,by simp,by simp, ?_, ?_, ?_⟩ <;> simp [A3,Bi,AA.nil,AA.cons,AB,AH.Aw,AH.refl,AP hqt,AF])
end Go.Proofs.YthpibnpeaidabaaGreatDoor.Dm
