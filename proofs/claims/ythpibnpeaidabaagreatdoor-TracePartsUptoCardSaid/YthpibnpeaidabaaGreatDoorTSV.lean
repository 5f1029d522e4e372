/- slices.Sort of []uint32: reverseRange. -/
import Derived.Test.YthpibnpeaidabaaGreatDoorTSK
set_option linter.unusedVariables false
namespace Go.Proofs.YthpibnpeaidabaaGreatDoor.Dm
open Go.Dm
open Go.Sort (ltInt swp)
set_option maxHeartbeats 16000000
set_option maxRecDepth 20000
theorem Ud:∀(k i j:Nat) (d:Array Int),j - i≤k→(Go.Sort.reverseLoop i j d).size=d.size
 |0,i,j,d,h=>by rw [Go.Sort.reverseLoop,if_neg (by omega)]
 |k+1,i,j,d,h=>by
  rw [Go.Sort.reverseLoop]
  split
  ·rw [Ud k _ _ _ (by omega),swp_size]
  ·rfl
theorem Ng {d:Array Int}{a b:Nat}:(Go.Sort.reverseRange d a b).size=d.size:=Ud _ _ _ _ (Nat.le_refl _)
def n8 (hp:Hp)(top:Nat)(q n:Nat)(x:Nat×Nat×Array Int):SS:=⟨[(0, .slice (some ⟨q,0,none⟩) n n,true),(6, .int .i64 (x.1:Int),true),(7, .int .i64 (x.2.1:Int),true)],hp.Am [(q,AO x.2.2)],top+0⟩
theorem TB:A4 Tryz.prog 111 (GY Go.Sort.reverseRange):=by
 refine .Ci Lw ?_
 intro args hp top hpre hcl hsc
 match args,hpre with
 | [v, .int .i64 a, .int .i64 b],hpre=>
 obtain ⟨q,d,hrow,h1,h2,h3⟩:=hpre
 obtain ⟨a,rfl⟩:=Int.eq_ofNat_of_zero_le h1
 obtain ⟨b,rfl⟩:=Int.eq_ofNat_of_zero_le (show 0≤b by omega)
 have hn:d.size≤35184372088832:=hrow.le
 have hqt:=hrow.XQ hcl
 have h0:0 < d.size:=hrow.pos
 simp only [hrow.DQ,hrow.MH,intOf_int,Int.toNat_natCast]
 obtain ⟨rfl,ho,_,_⟩:=hrow
 have hab:a < b:=by omega
 have hbn:b≤d.size:=by omega
 obtain ⟨c,hc⟩:∃m:Nat,m=b - 1:=⟨_,rfl⟩
 have w1:AL .i64 ((b:Int) - 1)=((c:Nat):Int):=by rw [wrap64 (by omega) (by omega)];omega
 have e0:Go.Sort.reverseRange d a b=Go.Sort.reverseLoop a c d:=by rw [Go.Sort.reverseRange,hc]
 rw [e0]
 refine AK.A5 BC Lw rfl 32 rfl [] rfl (show 3≤32 by decide) ?_
 refine CW.vc Aq [0,1,2,6,7,13] (by kernel_rfl) ?_
 (repeat ((try refine Vc.mk' ?_);simp (config:= {maxSteps:=6000000}) only [go_sem,Nat.reduceAdd,w1]))
 refine CW.Bp (n8 hp top q d.size) (fun x=>x.2.1 < d.size∧x.2.2.size=d.size∧Go.Sort.reverseLoop x.1 x.2.1 x.2.2=Go.Sort.reverseLoop a c d) (fun x=>x.2.1 - x.1) (a,c,d) ⟨by dsimp only;omega,rfl,rfl⟩ ?_ ?_
 ·exact (by refine Ar.mk' [] hcl (by simp) (by simp) rfl (AG ?_) ?_ ?_ <;> simp [Ac,Ba,A3,AA.nil,AA.cons,AH.refl,AP hqt,AF,ho])
 ·rintro ⟨i,j,f⟩ ⟨hj,hfs,hfe⟩
  dsimp only at hj hfs hfe ⊢
  by_cases c1:i < j
  ·have x0:=fun (bb:Nat)=>Ae (b:=bb) hn (show i < d.size by omega)
   have l0:∀ {h':Hp},h' q=AO f→AZ tt.get h' 29 (.pointer (some ⟨q,i,none⟩))=(.int .u32 f[i]!,True):=fun hee=>Ab hee (by omega) (by omega)
   have x1:=fun (bb:Nat)=>Ae (b:=bb) hn (show j < d.size by omega)
   have l1:∀ {h':Hp},h' q=AO f→AZ tt.get h' 29 (.pointer (some ⟨q,j,none⟩))=(.int .u32 f[j]!,True):=fun hee=>Ab hee (by omega) (by omega)
   have s1a:∀ {h':Hp},h' q=AO f→Ag tt.get h' 29 (.pointer (some ⟨q,i,none⟩)) (.int .u32 f[j]!)=([(q,AO (f.setIfInBounds i f[j]!))],True):=fun hee=>A6 hee (by omega)
   have s1b:∀ {h':Hp},h' q=AO (f.setIfInBounds i f[j]!)→Ag tt.get h' 29 (.pointer (some ⟨q,j,none⟩)) (.int .u32 f[i]!)=([(q,AO (swp f i j))],True):=fun hee=>A6 hee (by rw [Array.size_setIfInBounds];omega)
   obtain ⟨i2,hi2⟩:∃m:Nat,m=i+1:=⟨_,rfl⟩
   obtain ⟨j2,hj2⟩:∃m:Nat,m=j - 1:=⟨_,rfl⟩
   have w2:AL .i64 ((i:Int)+1)=((i2:Nat):Int):=by rw [wrap64 (by omega) (by omega)];omega
   have w3:AL .i64 ((j:Int) - 1)=((j2:Nat):Int):=by rw [wrap64 (by omega) (by omega)];omega
   refine CW.vc Aq [0,1,2,6,7,13] (by kernel_rfl) ?_
   (repeat ((try refine Vc.mk' ?_);simp (config:= {maxSteps:=6000000}) only [go_sem,n8,c1,decide_true,x0,l0,x1,l1,s1a,s1b,w2,w3]))
   refine .mk (i2,j2,swp f i j) ⟨by dsimp only;omega,by dsimp only;rw [swp_size];exact hfs,by dsimp only;rw [←hfe];conv=> {rhs;rw [Go.Sort.reverseLoop,if_pos c1]};rw [hi2,hj2]⟩ (by dsimp only;omega) ((by refine Ar.mk' [] hcl (by simp) (by simp) rfl (AG ?_) ?_ ?_ <;> simp [Ac,Ba,A3,AA.nil,AA.cons,AB,AH.Aw,AH.refl,AP hqt,AF]))
  ·have hf:f=Go.Sort.reverseLoop a c d:=by rw [←hfe,Go.Sort.reverseLoop,if_neg c1]
   rw [←hf]
   refine CW.vc Aq [0,1,2,6,7,13] (by kernel_rfl) ?_
   (repeat ((try refine Vc.mk' ?_);simp (config:= {maxSteps:=6000000}) only [go_sem,n8,c1,decide_false]))
   (refine ⟨[],by simp,by simp,by simp, ?_, ?_, ?_⟩ <;> simp [A3,Bi,AA.nil,AA.cons,AB,AH.Aw,AH.refl,AP hqt,AF])
end Go.Proofs.YthpibnpeaidabaaGreatDoor.Dm
