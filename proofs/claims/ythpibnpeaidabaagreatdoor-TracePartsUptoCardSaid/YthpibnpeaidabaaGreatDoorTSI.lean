/- slices.Sort of []uint32: insertionSort. -/
import Derived.Test.YthpibnpeaidabaaGreatDoorTSA
set_option linter.unusedVariables false
namespace Go.Proofs.YthpibnpeaidabaaGreatDoor.Dm
open Go.Dm
open Go.Sort (ltInt swp)
set_option maxHeartbeats 16000000
set_option maxRecDepth 20000
theorem swp_size {d:Array Int}{i j:Nat}:(swp d i j).size=d.size:=by simp [swp]
theorem Ho {a:Nat}:∀(j:Nat) (d:Array Int),(Go.Sort.insInner ltInt a j d).size=d.size
 |0,d=>rfl
 |j+1,d=>by
  rw [Go.Sort.insInner]
  split
  ·rw [Ho j,swp_size]
  ·rfl
theorem Hy {a b:Nat}:∀(k i:Nat) (d:Array Int),b - i≤k→(Go.Sort.insOuter ltInt a b i d).size=d.size
 |0,i,d,h=>by rw [Go.Sort.insOuter,if_neg (by omega)]
 |k+1,i,d,h=>by
  rw [Go.Sort.insOuter]
  split
  ·rw [Hy k _ _ (by omega),Ho]
  ·rfl
theorem Ef {d:Array Int}{a b:Nat}:(Go.Sort.insertionSort ltInt d a b).size=d.size:=Hy _ _ _ (Nat.le_refl _)
theorem bA {a j:Nat}{e:Array Int}(h:¬(a < j∧ltInt e[j]! e[j - 1]! = true)):Go.Sort.insInner ltInt a j e=e:=by
 cases j with
 |zero=>rfl
 |succ j=>
  rw [Go.Sort.insInner,if_neg]
  simpa using h
theorem ZR {a j:Nat}{e:Array Int}(h:a < j+1)(hl:ltInt e[j+1]! e[j]! = true):Go.Sort.insInner ltInt a (j+1) e=Go.Sort.insInner ltInt a j (swp e (j+1) j):=by
 rw [Go.Sort.insInner,if_pos]
 simp [hl];omega
def YF (hp:Hp)(v:Value)(a b:Int):Prop:=(v= .slice none 0 0∧a=0∧b=0)∨(∃q d,C3 hp v q d∧0≤a∧a≤b∧b≤(d.size:Int))
def Mz:BB:= .det (fun args hp _=>match args with | [v, .int .i64 a, .int .i64 b]=>YF hp v a b | _=>False)
 (fun args hp top=>match args with | [v,a,b]=>(.tuple ⟨[]⟩,SY v (Go.Sort.insertionSort ltInt (GZ hp v) (intOf a).toNat (intOf b).toNat),top) | _=>(undef, [],top))
def X5 (hp:Hp)(top:Nat)(q n a b i:Nat)(d:Array Int):SS:=⟨[(0, .slice (some ⟨q,0,none⟩) n n,true),(1, .int .i64 (a:Int),true),(2, .int .i64 (b:Int),true),(6, .int .i64 (i:Int),true)],hp.Am [(q,AO d)],top+0⟩
def gN (hp:Hp)(top:Nat)(q n a b i:Nat)(x:Nat×Array Int):SS:=⟨[(0, .slice (some ⟨q,0,none⟩) n n,true),(1, .int .i64 (a:Int),true),(2, .int .i64 (b:Int),true),(6, .int .i64 (i:Int),true),(7, .int .i64 (x.1:Int),true)],hp.Am [(q,AO x.2)],top+0⟩
def rN (hp:Hp)(top:Nat):SS:=⟨[(0, .slice none 0 0,true),(1, .int .i64 0,true),(2, .int .i64 0,true),(6, .int .i64 1,true)],hp.Am [],top+0⟩
theorem lz:A4 Tryz.prog 107 Mz:=by
 refine .Ci Ig ?_
 intro args hp top hpre hcl hsc
 match args,hpre with
 | [v, .int .i64 a, .int .i64 b],hpre=>
 rcases hpre with ⟨rfl,rfl,rfl⟩ | ⟨q,d,hrow,ha,hab,hb⟩
 ·refine AK.A5 BC Ig rfl 49 rfl [] rfl (show 3≤49 by decide) ?_
  refine CW.vc Aq [0,1,2,6,7,12,30] (by kernel_rfl) ?_
  (repeat ((try refine Vc.mk' ?_);simp (config:= {maxSteps:=6000000}) only [go_sem,Nat.reduceAdd]))
  refine CW.Bp (fun _:Unit=>rN hp top) (fun _=>True) (fun _=>0) () trivial ((by refine Ar.mk' [] hcl (by simp) (by simp) rfl (AG ?_) ?_ ?_ <;> simp [Ac,Ba,A3,AA.nil,AH.refl,show AL .i64 1=1 from by decide])) ?_
  rintro ⟨⟩ _
  refine CW.vc Aq [0,1,2,6,7,12,30] (by kernel_rfl) ?_
  (repeat ((try refine Vc.mk' ?_);simp (config:= {maxSteps:=6000000}) only [go_sem,Int.reduceLT,rN]))
  (refine ⟨[],by simp,by simp,by simp, ?_, ?_, ?_⟩ <;> simp [A3,Bi,AA.nil,AH.refl,SY])
 obtain ⟨a,rfl⟩:=Int.eq_ofNat_of_zero_le ha
 obtain ⟨b,rfl⟩:=Int.eq_ofNat_of_zero_le (Int.le_trans ha hab)
 have hn:d.size≤35184372088832:=hrow.le
 have hqt:=hrow.XQ hcl
 simp only [hrow.DQ,hrow.MH,intOf_int,Int.toNat_natCast]
 obtain ⟨rfl,ho,_,_⟩:=hrow
 have e0:Go.Sort.insertionSort ltInt d a b=Go.Sort.insOuter ltInt a b (a+1) d:=rfl
 rw [e0]
 refine AK.A5 BC Ig rfl 49 rfl [] rfl (show 3≤49 by decide) ?_
 have hw:AL .i64 ((a:Int)+1)=((a+1:Nat):Int):=by rw [wrap64 (by omega) (by omega)];omega
 refine CW.vc Aq [0,1,2,6,7,12,30] (by kernel_rfl) ?_
 (repeat ((try refine Vc.mk' ?_);simp (config:= {maxSteps:=6000000}) only [go_sem,Nat.reduceAdd,hw]))
 refine CW.Bp (fun x:Nat×Array Int=>X5 hp top q d.size a b x.1 x.2) (fun x=>a+1≤x.1∧x.2.size=d.size∧(x.1≤b∨x.1=a+1)∧Go.Sort.insOuter ltInt a b x.1 x.2=Go.Sort.insOuter ltInt a b (a+1) d) (fun x=>b - x.1) (a+1,d) ⟨Nat.le_refl _,rfl, .inr rfl,rfl⟩ ?_ ?_
 ·exact (by refine Ar.mk' [] hcl (by simp) (by simp) rfl (AG ?_) ?_ ?_ <;> simp [Ac,Ba,A3,AA.nil,AA.cons,AH.refl,AP hqt,AF,ho])
 ·rintro ⟨i,e⟩ ⟨hi1,hsz,hi2,heq⟩
  dsimp only at hi1 hsz hi2 heq ⊢
  by_cases hlt:i < b
  ·refine CW.vc Aq [0,1,2,6,7,12,30] (by kernel_rfl) ?_
   (repeat ((try refine Vc.mk' ?_);simp (config:= {maxSteps:=6000000}) only [go_sem,X5,hlt]))
   refine CW.Bp (gN hp top q d.size a b i) (fun x=>x.1≤i∧x.2.size=d.size∧Go.Sort.insInner ltInt a x.1 x.2=Go.Sort.insInner ltInt a i e) (fun x=>x.1) (i,e) ⟨Nat.le_refl _,hsz,rfl⟩ ?_ ?_
   ·exact (by refine Ar.mk' [] hcl (by simp) (by simp) rfl (AG ?_) ?_ ?_ <;> simp [Ac,Ba,A3,AA.nil,AA.cons,AB,AH.Aw,AH.refl,AP hqt,AF])
   ·rintro ⟨j,f⟩ ⟨hj,hfs,hfe⟩
    dsimp only at hj hfs hfe ⊢
    have ki:AL .i64 ((i:Int)+1)=((i+1:Nat):Int):=by rw [wrap64 (by omega) (by omega)];omega
    have kj:0 < j→AL .i64 ((j:Int) - 1)=((j - 1:Nat):Int):=fun h=>by rw [wrap64 (by omega) (by omega)];omega
    have out:∀ {s':SS},(¬(a < j∧ltInt f[j]! f[j - 1]! = true))→(∃ρ,Ar ρ top (X5 hp top q d.size a b (i+1) f) s')→Round top (fun x:Nat×Array Int=>X5 hp top q d.size a b x.1 x.2) (fun x=>a+1≤x.1∧x.2.size=d.size∧(x.1≤b∨x.1=a+1)∧Go.Sort.insOuter ltInt a b x.1 x.2=Go.Sort.insOuter ltInt a b (a+1) d) (fun x=>b - x.1) (i,e) s':=fun hno hs=>by
     refine .mk (i+1,f) ⟨by dsimp only;omega,hfs, .inl (by dsimp only;omega), ?_⟩ (by dsimp only;omega) hs
     dsimp only
     rw [←heq]
     conv=>rhs;rw [Go.Sort.insOuter,if_pos hlt,←hfe,bA hno]
    by_cases c:a < j
    ·obtain ⟨j,rfl⟩:∃k,j=k+1:=⟨j - 1,by omega⟩
     have kj':AL .i64 (((j+1:Nat):Int) - 1)=(j:Int):=kj (by omega)
     have c':((a:Int) < ((j+1:Nat):Int))=True:=eq_true (by omega)
     have x1:=fun (b:Nat)=>Ae (b:=b) hn (show j+1 < d.size by omega)
     have x2:=fun (b:Nat)=>Ae (b:=b) hn (show j < d.size by omega)
     have l1:∀ {h':Hp},h' q=AO f→AZ tt.get h' 29 (.pointer (some ⟨q,j+1,none⟩))=(.int .u32 f[j+1]!,True):=fun e=>Ab e (by omega) (by omega)
     have l2:∀ {h':Hp},h' q=AO f→AZ tt.get h' 29 (.pointer (some ⟨q,j,none⟩))=(.int .u32 f[j]!,True):=fun e=>Ab e (by omega) (by omega)
     by_cases hl:ltInt f[j+1]! f[j]! = true
     ·have s1:∀ {h':Hp} {x:Int},h' q=AO f→Ag tt.get h' 29 (.pointer (some ⟨q,j+1,none⟩)) (.int .u32 x)=([(q,AO (f.setIfInBounds (j+1) x))],True):=fun e=>A6 e (by omega)
      have s2:∀ {h':Hp} {y:Int},h' q=AO (f.setIfInBounds (j+1) f[j]!)→Ag tt.get h' 29 (.pointer (some ⟨q,j,none⟩)) (.int .u32 y)=([(q,AO ((f.setIfInBounds (j+1) f[j]!).setIfInBounds j y))],True):=fun e=>A6 e (by simp;omega)
      refine CW.vc Aq [0,1,2,6,7,12,30] (by kernel_rfl) ?_
      (repeat ((try refine Vc.mk' ?_);simp (config:= {maxSteps:=6000000}) only [go_sem,gN,c',decide_true,kj',x1,x2,l1,l2,Bh,BR,hl,s1,s2,ZZ]))
      refine .mk (j,swp f (j+1) j) ⟨by dsimp only;omega,by dsimp only;rw [swp_size];exact hfs,by dsimp only;rw [←hfe,ZR c hl]⟩ (by dsimp only;omega) ((by refine Ar.mk' [] hcl (by simp) (by simp) rfl (AG ?_) ?_ ?_ <;> simp [Ac,Ba,A3,AA.nil,AA.cons,AB,AH.Aw,AH.refl,AP hqt,AF]))
     ·have hl':ltInt f[j+1]! f[j]! = false:=by simpa using hl
      refine CW.vc Aq [0,1,2,6,7,12,30] (by kernel_rfl) ?_
      (repeat ((try refine Vc.mk' ?_);simp (config:= {maxSteps:=6000000}) only [go_sem,reduceCtorEq,Nat.reduceEqDiff,gN,c',decide_true,kj',ki,x1,x2,l1,l2,Bh,BR,hl']))
      refine out (fun h=>hl (by simpa using h.2)) ((by refine Ar.mk' [] hcl (by simp) (by simp) rfl (AG ?_) ?_ ?_ <;> simp [Ac,Ba,A3,AA.nil,AA.cons,AB,AH.Aw,AH.refl,AP hqt,AF]))
    ·have c':((a:Int) < (j:Int))=False:=eq_false (by omega)
     refine CW.vc Aq [0,1,2,6,7,12,30] (by kernel_rfl) ?_
     (repeat ((try refine Vc.mk' ?_);simp (config:= {maxSteps:=6000000}) only [go_sem,reduceCtorEq,Nat.reduceEqDiff,gN,c',decide_false,ki]))
     refine out (fun h=>c h.1) ((by refine Ar.mk' [] hcl (by simp) (by simp) rfl (AG ?_) ?_ ?_ <;> simp [Ac,Ba,A3,AA.nil,AA.cons,AB,AH.Aw,AH.refl,AP hqt,AF]))
  ·have he:e=Go.Sort.insOuter ltInt a b (a+1) d:=by
    rw [←heq,Go.Sort.insOuter,if_neg hlt]
   refine CW.vc Aq [0,1,2,6,7,12,30] (by kernel_rfl) ?_
   (repeat ((try refine Vc.mk' ?_);simp (config:= {maxSteps:=6000000}) only [go_sem,X5,hlt]))
   rw [←he]
   (refine ⟨[],by simp,by simp,by simp, ?_, ?_, ?_⟩ <;> simp [A3,Bi,AA.nil,AA.cons,AB,AH.Aw,AH.refl,AP hqt,AF])
end Go.Proofs.YthpibnpeaidabaaGreatDoor.Dm
