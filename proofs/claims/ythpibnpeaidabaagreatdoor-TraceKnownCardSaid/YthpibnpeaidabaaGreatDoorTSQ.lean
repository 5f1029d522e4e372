/- slices.Sort of []uint32: partitionEqual. -/
import Derived.Test.YthpibnpeaidabaaGreatDoorTSX
set_option linter.unusedSimpArgs false
set_option linter.unusedVariables false
namespace Go.Proofs.YthpibnpeaidabaaGreatDoor.Dm
open Go.Dm
open Go.Sort (ltInt swp scanUp scanDown)
set_option maxHeartbeats 64000000
set_option maxRecDepth 20000
theorem TU {p:Int→Bool}{d:Array Int}{j i:Nat}(h:i≤j)(hp:p d[i]! = true):scanUp p d j i=scanUp p d j (i+1):=by
 rw [scanUp,if_pos (by simp [h,hp])]
theorem IJ {p:Int→Bool}{d:Array Int}{j i:Nat}(h:¬i≤j∨p d[i]! = false):scanUp p d j i=i:=by
 rw [scanUp,if_neg (by rcases h with h | h <;> simp [h])]
theorem QJ {p:Int→Bool}{d:Array Int}{i j:Nat}(h:i≤j)(h0:0 < j)(hp:p d[j]! = true):scanDown p d i j=scanDown p d i (j - 1):=by
 obtain ⟨k,rfl⟩:∃k,j=k+1:=⟨j - 1,by omega⟩
 rw [scanDown,if_pos (by simp [h,hp])]
 rfl
theorem Fe {p:Int→Bool}{d:Array Int}{i j:Nat}(h:¬i≤j∨p d[j]! = false):scanDown p d i j=j:=by
 cases j with
 |zero=>rfl
 |succ k=>rw [scanDown,if_neg (by rcases h with h | h <;> simp [h])]
theorem Cv {i j:Nat}{x:Bool}:(i≤j∧x=true)∨(¬i≤j)∨(i≤j∧x=false):=by
 by_cases c:i≤j
 ·cases x
  ·exact .inr (.inr ⟨c,rfl⟩)
  ·exact .inl ⟨c,rfl⟩
 ·exact .inr (.inl c)
theorem dZ {a:Nat}:∀(k i j:Nat) (d:Array Int),j+1 - i≤k→(Go.Sort.partEqLoop ltInt a i j d).2.size=d.size:=by
 intro k
 induction k with
 |zero=>
  intro i j d h
  rw [Go.Sort.partEqLoop_eq]
  have h1:=Go.Sort.scanUp_ge (fun x=> !ltInt d[a]! x) d j i
  have h2:=Go.Sort.scanDown_le (fun x=>ltInt d[a]! x) d (scanUp (fun x=> !ltInt d[a]! x) d j i) j
  rw [if_pos (by omega)]
 |succ k ih=>
  intro i j d h
  rw [Go.Sort.partEqLoop_eq]
  split
  ·rfl
  ·rename_i h3
   have h4:=Go.Sort.partEqLoop_guard ltInt a i j d h3
   rw [ih _ _ _ (by omega),swp_size]
theorem Ex {d:Array Int}{a b p:Nat}:(Go.Sort.partitionEqual ltInt d a b p).2.size=d.size:=by
 unfold Go.Sort.partitionEqual
 rw [dZ _ _ _ _ (Nat.le_refl _),swp_size]
def cG (hp:Hp)(v:Value)(a b p:Int):Prop:= ∃q d,Db hp v q d∧0≤a∧a≤p∧p < b∧b≤(d.size:Int)
def WD:BO:= .det (fun args hp _=>match args with | [v, .int .i64 a, .int .i64 b, .int .i64 p]=>cG hp v a b p | _=>False)
 (fun args hp top=>match args with | [v,a,b,p]=>(.int .i64 ((Go.Sort.partitionEqual ltInt (Gy hp v) (intOf a).toNat (intOf b).toNat (intOf p).toNat).1:Int),QZ v (Go.Sort.partitionEqual ltInt (Gy hp v) (intOf a).toNat (intOf b).toNat (intOf p).toNat).2,top) | _=>(undef, [],top))
def FQ (hp:Hp)(top:Nat)(q n a:Nat)(x:Nat×Nat×Array Int):SS:=⟨[(0, .slice (some ⟨q,0,none⟩) n n,true),(1, .int .i64 (a:Int),true),(9, .int .i64 (x.1:Int),true),(10, .int .i64 (x.2.1:Int),true)],hp.A0 [(q,Ad x.2.2)],top+0⟩
theorem qs:BG Tryz.prog 114 WD:=by
 refine .Cy MI ?_
 intro args hp top hpre hcl hsc
 match args,hpre with
 | [v, .int .i64 a, .int .i64 b, .int .i64 p],hpre=>
 obtain ⟨q,d,hrow,h1,h2,h3,h4⟩:=hpre
 obtain ⟨a,rfl⟩:=Int.eq_ofNat_of_zero_le h1
 obtain ⟨b,rfl⟩:=Int.eq_ofNat_of_zero_le (show 0≤b by omega)
 obtain ⟨p,rfl⟩:=Int.eq_ofNat_of_zero_le (show 0≤p by omega)
 have hn:d.size≤35184372088832:=hrow.le
 have hqt:=hrow.Xw hcl
 simp only [hrow.D5,hrow.MZ,intOf_int,Int.toNat_natCast]
 obtain ⟨rfl,ho,_,_⟩:=hrow
 have hab:a < b:=by omega
 have hbn:b≤d.size:=by omega
 have hpn:p < d.size:=by omega
 obtain ⟨a1,ha1⟩:∃m:Nat,m=a+1:=⟨_,rfl⟩
 obtain ⟨b1,hb1⟩:∃m:Nat,m=b - 1:=⟨_,rfl⟩
 have w1:Ae .i64 ((a:Int)+1)=((a1:Nat):Int):=by rw [wrap64 (by omega) (by omega)];omega
 have w2:Ae .i64 ((b:Int) - 1)=((b1:Nat):Int):=by rw [wrap64 (by omega) (by omega)];omega
 have x0:=fun (bb:Nat)=>Ar (b:=bb) hn (show a < d.size by omega)
 have l0:∀ {h':Hp},h' q=Ad d→An tt.get h' 29 (.pointer (some ⟨q,a,none⟩))=(.int .u32 d[a]!,True):=fun hee=>Ap hee (by omega) (by omega)
 have x1:=fun (bb:Nat)=>Ar (b:=bb) hn (show p < d.size by omega)
 have l1:∀ {h':Hp},h' q=Ad d→An tt.get h' 29 (.pointer (some ⟨q,p,none⟩))=(.int .u32 d[p]!,True):=fun hee=>Ap hee (by omega) (by omega)
 have s1a:∀ {h':Hp},h' q=Ad d→Aw tt.get h' 29 (.pointer (some ⟨q,a,none⟩)) (.int .u32 d[p]!)=([(q,Ad (d.setIfInBounds a d[p]!))],True):=fun hee=>BK hee (by omega)
 have s1b:∀ {h':Hp},h' q=Ad (d.setIfInBounds a d[p]!)→Aw tt.get h' 29 (.pointer (some ⟨q,p,none⟩)) (.int .u32 d[a]!)=([(q,Ad (swp d a p))],True):=fun hee=>BK hee (by rw [Array.size_setIfInBounds];omega)
 have e0:Go.Sort.partitionEqual ltInt d a b p=Go.Sort.partEqLoop ltInt a a1 b1 (swp d a p):=by rw [ha1,hb1];rfl
 rw [e0]
 have hs0:(swp d a p).size=d.size:=swp_size
 generalize swp d a p=d1 at hs0 s1b
 refine Ab.BF BN MI rfl 84 rfl [.tmp 8] rfl (show 4≤84 by decide) ?_
 refine CW.vc A3 [0,1,2,3,8,9,10,43,59,64] (by kernel_rfl) ?_
 (repeat ((try refine Vc.mk' ?_);simp (maxSteps:=6000000) only [go_sem,reduceIte,reduceCtorEq,Nat.reduceAdd,Nat.reduceMul,Nat.reduceSub,Nat.reduceLT,Nat.reduceLeDiff,Nat.reduceEqDiff,Int.reduceEq,Int.reduceLT,Int.reduceLE,Int.reduceNe,w1,w2,x0,l0,x1,l1,s1a,s1b,ho]))
 generalize hR:Go.Sort.partEqLoop ltInt a a1 b1 d1=R
 refine CW.Bx (FQ hp top q d.size a) (fun x=>a < x.1∧x.1≤x.2.1+2∧x.2.1 < d.size∧x.2.2.size=d.size∧Go.Sort.partEqLoop ltInt a x.1 x.2.1 x.2.2=R) (fun x=>x.2.1+1 - x.1) (a1,b1,d1) ⟨by dsimp only;omega,by dsimp only;omega,by dsimp only;omega,hs0,hR⟩ ((by refine A9.mk' [] hcl (by simp) (by simp) rfl (AZ ?_) ?_ ?_ <;> simp [Ag,BJ,BH,Am,AP,AF,AJ.nil,AJ.cons,AB,AD,AM,AA,AQ,AX,AO,Ax.AL,AG,AV,AE,AH,AK.set,AK.Ao,AK.refl,FQ,Af hqt,AY])) ?_
 rintro ⟨i,j,f⟩ ⟨hia,hij,hjn,hfs,hfe⟩
 dsimp only at hia hij hjn hfs hfe ⊢
 rw [Go.Sort.partEqLoop_eq] at hfe
 refine CW.vc A3 [0,1,2,3,8,9,10,43,59,64] (by kernel_rfl) ?_
 (repeat ((try refine Vc.mk' ?_);simp (maxSteps:=6000000) only [go_sem,reduceIte,reduceCtorEq,Nat.reduceAdd,Nat.reduceMul,Nat.reduceSub,Nat.reduceLT,Nat.reduceLeDiff,Nat.reduceEqDiff,Int.reduceEq,Int.reduceLT,Int.reduceLE,Int.reduceNe,FQ]))
 refine CW.Bx (FQ hp top q d.size a) (fun y=>y.2.1=j∧y.2.2=f∧i≤y.1∧y.1≤j+2∧scanUp (fun x=> !ltInt f[a]! x) f j y.1=scanUp (fun x=> !ltInt f[a]! x) f j i) (fun y=>j+1 - y.1) (i,j,f) ⟨rfl,rfl,Nat.le_refl _,hij,rfl⟩ ((by refine A9.mk' [] hcl (by simp) (by simp) rfl (AZ ?_) ?_ ?_ <;> simp [Ag,BJ,BH,Am,AP,AF,AJ.nil,AJ.cons,AB,AD,AM,AA,AQ,AX,AO,Ax.AL,AG,AV,AE,AH,AK.set,AK.Ao,AK.refl,FQ,Af hqt,AY])) ?_
 rintro ⟨i2,j2,f2⟩ ⟨e1,e2,hi2,hi2n,hsu⟩
 dsimp only at e1 e2 hi2 hi2n hsu ⊢
 subst e1 e2
 obtain ⟨i3,hi3⟩:∃m:Nat,m=i2+1:=⟨_,rfl⟩
 have wi:Ae .i64 ((i2:Int)+1)=((i3:Nat):Int):=by rw [wrap64 (by omega) (by omega)];omega
 clear x0 l0
 have x0:=fun (bb:Nat)=>Ar (b:=bb) hn (show a < d.size by omega)
 have l0:∀ {h':Hp},h' q=Ad f2→An tt.get h' 29 (.pointer (some ⟨q,a,none⟩))=(.int .u32 f2[a]!,True):=fun hee=>Ap hee (by omega) (by omega)
 rcases Cv (i:=i2) (j:=j2) (x:= !ltInt f2[a]! f2[i2]!) with c | c | c
 ·have c1:((j2:Int) < (i2:Int))=False:=eq_false (by omega)
  have c2:ltInt f2[a]! f2[i2]! = false:=by simpa using c.2
  have x2:=fun (bb:Nat)=>Ar (b:=bb) hn (show i2 < d.size by omega)
  have l2:∀ {h':Hp},h' q=Ad f2→An tt.get h' 29 (.pointer (some ⟨q,i2,none⟩))=(.int .u32 f2[i2]!,True):=fun hee=>Ap hee (by omega) (by omega)
  refine CW.vc A3 [0,1,2,3,8,9,10,43,59,64] (by kernel_rfl) ?_
  (repeat ((try refine Vc.mk' ?_);simp (maxSteps:=6000000) only [go_sem,reduceIte,reduceCtorEq,Nat.reduceAdd,Nat.reduceMul,Nat.reduceSub,Nat.reduceLT,Nat.reduceLeDiff,Nat.reduceEqDiff,Int.reduceEq,Int.reduceLT,Int.reduceLE,Int.reduceNe,FQ,c1,decide_false,Bool.not_false,x0,l0,x2,l2,Bq,Ba,c2,wi]))
  refine .mk (i3,j2,f2) ⟨rfl,rfl,by dsimp only;omega,by dsimp only;omega,by dsimp only;rw [hi3,←TU c.1 c.2,hsu]⟩ (by dsimp only;omega) ((by refine A9.mk' [] hcl (by simp) (by simp) rfl (AZ ?_) ?_ ?_ <;> simp [Ag,BJ,BH,Am,AP,AF,AJ.nil,AJ.cons,AB,AD,AM,AA,AQ,AX,AO,Ax.AL,AG,AV,AE,AH,AK.set,AK.Ao,AK.refl,FQ,Af hqt,AY]))
 ·have hE:scanUp (fun x=> !ltInt f2[a]! x) f2 j2 i2=i2:=IJ (.inl c)
  rw [hE] at hsu
  rw [←hsu] at hfe
  have c1:((j2:Int) < (i2:Int))=True:=eq_true (by omega)
  clear wi
  refine CW.vc A3 [0,1,2,3,8,9,10,43,59,64] (by kernel_rfl) ?_
  (repeat ((try refine Vc.mk' ?_);simp (maxSteps:=6000000) only [go_sem,reduceIte,reduceCtorEq,Nat.reduceAdd,Nat.reduceMul,Nat.reduceSub,Nat.reduceLT,Nat.reduceLeDiff,Nat.reduceEqDiff,Int.reduceEq,Int.reduceLT,Int.reduceLE,Int.reduceNe,FQ,c1,decide_true,Bool.not_true]))
  refine CW.Bx (FQ hp top q d.size a) (fun y=>y.1=i2∧y.2.2=f2∧y.2.1≤j2∧i2≤y.2.1+2∧scanDown (fun x=>ltInt f2[a]! x) f2 i2 y.2.1=scanDown (fun x=>ltInt f2[a]! x) f2 i2 j2) (fun y=>y.2.1) (i2,j2,f2) ⟨rfl,rfl,Nat.le_refl _,hi2n,rfl⟩ ((by refine A9.mk' [] hcl (by simp) (by simp) rfl (AZ ?_) ?_ ?_ <;> simp [Ag,BJ,BH,Am,AP,AF,AJ.nil,AJ.cons,AB,AD,AM,AA,AQ,AX,AO,Ax.AL,AG,AV,AE,AH,AK.set,AK.Ao,AK.refl,FQ,Af hqt,AY])) ?_
  rintro ⟨i4,j4,f4⟩ ⟨e1,e2,hj4,hij4,hsd⟩
  dsimp only at e1 e2 hj4 hij4 hsd ⊢
  subst e1 e2
  rcases Cv (i:=i4) (j:=j4) (x:=ltInt f4[a]! f4[j4]!) with c | c | c
  ·have c1:((j4:Int) < (i4:Int))=False:=eq_false (by omega)
   have c2:ltInt f4[a]! f4[j4]! = true:=by simpa using c.2
   obtain ⟨j5,hj5⟩:∃m:Nat,m=j4 - 1:=⟨_,rfl⟩
   have wj:Ae .i64 ((j4:Int) - 1)=((j5:Nat):Int):=by rw [wrap64 (by omega) (by omega)];omega
   have x3:=fun (bb:Nat)=>Ar (b:=bb) hn (show j4 < d.size by omega)
   have l3:∀ {h':Hp},h' q=Ad f4→An tt.get h' 29 (.pointer (some ⟨q,j4,none⟩))=(.int .u32 f4[j4]!,True):=fun hee=>Ap hee (by omega) (by omega)
   refine CW.vc A3 [0,1,2,3,8,9,10,43,59,64] (by kernel_rfl) ?_
   (repeat ((try refine Vc.mk' ?_);simp (maxSteps:=6000000) only [go_sem,reduceIte,reduceCtorEq,Nat.reduceAdd,Nat.reduceMul,Nat.reduceSub,Nat.reduceLT,Nat.reduceLeDiff,Nat.reduceEqDiff,Int.reduceEq,Int.reduceLT,Int.reduceLE,Int.reduceNe,FQ,c1,decide_false,Bool.not_false,x0,l0,x3,l3,Bq,Ba,c2,wj]))
   refine .mk (i4,j5,f4) ⟨rfl,rfl,by dsimp only;omega,by dsimp only;omega,by dsimp only;rw [hj5,←QJ c.1 (by omega) c.2,hsd]⟩ (by dsimp only;omega) ((by refine A9.mk' [] hcl (by simp) (by simp) rfl (AZ ?_) ?_ ?_ <;> simp [Ag,BJ,BH,Am,AP,AF,AJ.nil,AJ.cons,AB,AD,AM,AA,AQ,AX,AO,Ax.AL,AG,AV,AE,AH,AK.set,AK.Ao,AK.refl,FQ,Af hqt,AY]))
  ·have hE:scanDown (fun x=>ltInt f4[a]! x) f4 i4 j4=j4:=Fe (.inl c)
   rw [hE] at hsd
   have c1:((j4:Int) < (i4:Int))=True:=eq_true (by omega)
   rw [←hsd,if_pos (by omega)] at hfe
   rw [←hfe]
   refine CW.vc A3 [0,1,2,3,8,9,10,43,59,64] (by kernel_rfl) ?_
   (repeat ((try refine Vc.mk' ?_);simp (maxSteps:=6000000) only [go_sem,reduceIte,reduceCtorEq,Nat.reduceAdd,Nat.reduceMul,Nat.reduceSub,Nat.reduceLT,Nat.reduceLeDiff,Nat.reduceEqDiff,Int.reduceEq,Int.reduceLT,Int.reduceLE,Int.reduceNe,FQ,c1,decide_true,Bool.not_true]))
   (refine ⟨[],by simp,by simp,by simp, ?_, ?_, ?_⟩ <;> simp [Ag,BJ,BH,Am,AP,AF,AJ.nil,AJ.cons,AB,AD,AM,AA,AQ,AX,AO,Ax.AL,AG,AV,AE,AH,AK.set,AK.Ao,AK.refl,Af hqt,AY])
  ·have hE:scanDown (fun x=>ltInt f4[a]! x) f4 i4 j4=j4:=Fe (.inr c.2)
   rw [hE] at hsd
   have c1:((j4:Int) < (i4:Int))=False:=eq_false (by omega)
   have c2:ltInt f4[a]! f4[j4]! = false:=by simpa using c.2
   rw [←hsd,if_neg (by omega)] at hfe
   have x3:=fun (bb:Nat)=>Ar (b:=bb) hn (show j4 < d.size by omega)
   have l3:∀ {h':Hp},h' q=Ad f4→An tt.get h' 29 (.pointer (some ⟨q,j4,none⟩))=(.int .u32 f4[j4]!,True):=fun hee=>Ap hee (by omega) (by omega)
   have x5:=fun (bb:Nat)=>Ar (b:=bb) hn (show i4 < d.size by omega)
   have l5:∀ {h':Hp},h' q=Ad f4→An tt.get h' 29 (.pointer (some ⟨q,i4,none⟩))=(.int .u32 f4[i4]!,True):=fun hee=>Ap hee (by omega) (by omega)
   have s5a:∀ {h':Hp},h' q=Ad f4→Aw tt.get h' 29 (.pointer (some ⟨q,i4,none⟩)) (.int .u32 f4[j4]!)=([(q,Ad (f4.setIfInBounds i4 f4[j4]!))],True):=fun hee=>BK hee (by omega)
   have s5b:∀ {h':Hp},h' q=Ad (f4.setIfInBounds i4 f4[j4]!)→Aw tt.get h' 29 (.pointer (some ⟨q,j4,none⟩)) (.int .u32 f4[i4]!)=([(q,Ad (swp f4 i4 j4))],True):=fun hee=>BK hee (by rw [Array.size_setIfInBounds];omega)
   obtain ⟨i6,hi6⟩:∃m:Nat,m=i4+1:=⟨_,rfl⟩
   obtain ⟨j6,hj6⟩:∃m:Nat,m=j4 - 1:=⟨_,rfl⟩
   have w6:Ae .i64 ((i4:Int)+1)=((i6:Nat):Int):=by rw [wrap64 (by omega) (by omega)];omega
   have w7:Ae .i64 ((j4:Int) - 1)=((j6:Nat):Int):=by rw [wrap64 (by omega) (by omega)];omega
   refine CW.vc A3 [0,1,2,3,8,9,10,43,59,64] (by kernel_rfl) ?_
   (repeat ((try refine Vc.mk' ?_);simp (maxSteps:=6000000) only [go_sem,reduceIte,reduceCtorEq,Nat.reduceAdd,Nat.reduceMul,Nat.reduceSub,Nat.reduceLT,Nat.reduceLeDiff,Nat.reduceEqDiff,Int.reduceEq,Int.reduceLT,Int.reduceLE,Int.reduceNe,FQ,c1,decide_false,Bool.not_false,x0,l0,x3,l3,x5,l5,s5a,s5b,Bq,Ba,c2,w6,w7]))
   refine .mk (i6,j6,swp f4 i4 j4) ⟨by dsimp only;omega,by dsimp only;omega,by dsimp only;omega,by dsimp only;rw [swp_size];exact hfs,by dsimp only;rw [hi6,hj6];exact hfe⟩ (by dsimp only;omega) ((by refine A9.mk' [] hcl (by simp) (by simp) rfl (AZ ?_) ?_ ?_ <;> simp [Ag,BJ,BH,Am,AP,AF,AJ.nil,AJ.cons,AB,AD,AM,AA,AQ,AX,AO,Ax.AL,AG,AV,AE,AH,AK.set,AK.Ao,AK.refl,FQ,Af hqt,AY]))
 ·have hE:scanUp (fun x=> !ltInt f2[a]! x) f2 j2 i2=i2:=IJ (.inr c.2)
  rw [hE] at hsu
  rw [←hsu] at hfe
  have c1:((j2:Int) < (i2:Int))=False:=eq_false (by omega)
  have c2:ltInt f2[a]! f2[i2]! = true:=by simpa using c.2
  have x2:=fun (bb:Nat)=>Ar (b:=bb) hn (show i2 < d.size by omega)
  have l2:∀ {h':Hp},h' q=Ad f2→An tt.get h' 29 (.pointer (some ⟨q,i2,none⟩))=(.int .u32 f2[i2]!,True):=fun hee=>Ap hee (by omega) (by omega)
  clear wi
  refine CW.vc A3 [0,1,2,3,8,9,10,43,59,64] (by kernel_rfl) ?_
  (repeat ((try refine Vc.mk' ?_);simp (maxSteps:=6000000) only [go_sem,reduceIte,reduceCtorEq,Nat.reduceAdd,Nat.reduceMul,Nat.reduceSub,Nat.reduceLT,Nat.reduceLeDiff,Nat.reduceEqDiff,Int.reduceEq,Int.reduceLT,Int.reduceLE,Int.reduceNe,FQ,c1,decide_false,Bool.not_false,x0,l0,x2,l2,Bq,Ba,c2,Bool.not_true]))
  refine CW.Bx (FQ hp top q d.size a) (fun y=>y.1=i2∧y.2.2=f2∧y.2.1≤j2∧i2≤y.2.1+2∧scanDown (fun x=>ltInt f2[a]! x) f2 i2 y.2.1=scanDown (fun x=>ltInt f2[a]! x) f2 i2 j2) (fun y=>y.2.1) (i2,j2,f2) ⟨rfl,rfl,Nat.le_refl _,hi2n,rfl⟩ ((by refine A9.mk' [] hcl (by simp) (by simp) rfl (AZ ?_) ?_ ?_ <;> simp [Ag,BJ,BH,Am,AP,AF,AJ.nil,AJ.cons,AB,AD,AM,AA,AQ,AX,AO,Ax.AL,AG,AV,AE,AH,AK.set,AK.Ao,AK.refl,FQ,Af hqt,AY])) ?_
  rintro ⟨i4,j4,f4⟩ ⟨e1,e2,hj4,hij4,hsd⟩
  dsimp only at e1 e2 hj4 hij4 hsd ⊢
  subst e1 e2
  rcases Cv (i:=i4) (j:=j4) (x:=ltInt f4[a]! f4[j4]!) with c | c | c
  ·have c1:((j4:Int) < (i4:Int))=False:=eq_false (by omega)
   have c2:ltInt f4[a]! f4[j4]! = true:=by simpa using c.2
   obtain ⟨j5,hj5⟩:∃m:Nat,m=j4 - 1:=⟨_,rfl⟩
   have wj:Ae .i64 ((j4:Int) - 1)=((j5:Nat):Int):=by rw [wrap64 (by omega) (by omega)];omega
   have x3:=fun (bb:Nat)=>Ar (b:=bb) hn (show j4 < d.size by omega)
   have l3:∀ {h':Hp},h' q=Ad f4→An tt.get h' 29 (.pointer (some ⟨q,j4,none⟩))=(.int .u32 f4[j4]!,True):=fun hee=>Ap hee (by omega) (by omega)
   refine CW.vc A3 [0,1,2,3,8,9,10,43,59,64] (by kernel_rfl) ?_
   (repeat ((try refine Vc.mk' ?_);simp (maxSteps:=6000000) only [go_sem,reduceIte,reduceCtorEq,Nat.reduceAdd,Nat.reduceMul,Nat.reduceSub,Nat.reduceLT,Nat.reduceLeDiff,Nat.reduceEqDiff,Int.reduceEq,Int.reduceLT,Int.reduceLE,Int.reduceNe,FQ,c1,decide_false,Bool.not_false,x0,l0,x3,l3,Bq,Ba,c2,wj]))
   refine .mk (i4,j5,f4) ⟨rfl,rfl,by dsimp only;omega,by dsimp only;omega,by dsimp only;rw [hj5,←QJ c.1 (by omega) c.2,hsd]⟩ (by dsimp only;omega) ((by refine A9.mk' [] hcl (by simp) (by simp) rfl (AZ ?_) ?_ ?_ <;> simp [Ag,BJ,BH,Am,AP,AF,AJ.nil,AJ.cons,AB,AD,AM,AA,AQ,AX,AO,Ax.AL,AG,AV,AE,AH,AK.set,AK.Ao,AK.refl,FQ,Af hqt,AY]))
  ·have hE:scanDown (fun x=>ltInt f4[a]! x) f4 i4 j4=j4:=Fe (.inl c)
   rw [hE] at hsd
   have c1:((j4:Int) < (i4:Int))=True:=eq_true (by omega)
   rw [←hsd,if_pos (by omega)] at hfe
   rw [←hfe]
   refine CW.vc A3 [0,1,2,3,8,9,10,43,59,64] (by kernel_rfl) ?_
   (repeat ((try refine Vc.mk' ?_);simp (maxSteps:=6000000) only [go_sem,reduceIte,reduceCtorEq,Nat.reduceAdd,Nat.reduceMul,Nat.reduceSub,Nat.reduceLT,Nat.reduceLeDiff,Nat.reduceEqDiff,Int.reduceEq,Int.reduceLT,Int.reduceLE,Int.reduceNe,FQ,c1,decide_true,Bool.not_true]))
   (refine ⟨[],by simp,by simp,by simp, ?_, ?_, ?_⟩ <;> simp [Ag,BJ,BH,Am,AP,AF,AJ.nil,AJ.cons,AB,AD,AM,AA,AQ,AX,AO,Ax.AL,AG,AV,AE,AH,AK.set,AK.Ao,AK.refl,Af hqt,AY])
  ·have hE:scanDown (fun x=>ltInt f4[a]! x) f4 i4 j4=j4:=Fe (.inr c.2)
   rw [hE] at hsd
   have c1:((j4:Int) < (i4:Int))=False:=eq_false (by omega)
   have c2:ltInt f4[a]! f4[j4]! = false:=by simpa using c.2
   rw [←hsd,if_neg (by omega)] at hfe
   have x3:=fun (bb:Nat)=>Ar (b:=bb) hn (show j4 < d.size by omega)
   have l3:∀ {h':Hp},h' q=Ad f4→An tt.get h' 29 (.pointer (some ⟨q,j4,none⟩))=(.int .u32 f4[j4]!,True):=fun hee=>Ap hee (by omega) (by omega)
   have x5:=fun (bb:Nat)=>Ar (b:=bb) hn (show i4 < d.size by omega)
   have l5:∀ {h':Hp},h' q=Ad f4→An tt.get h' 29 (.pointer (some ⟨q,i4,none⟩))=(.int .u32 f4[i4]!,True):=fun hee=>Ap hee (by omega) (by omega)
   have s5a:∀ {h':Hp},h' q=Ad f4→Aw tt.get h' 29 (.pointer (some ⟨q,i4,none⟩)) (.int .u32 f4[j4]!)=([(q,Ad (f4.setIfInBounds i4 f4[j4]!))],True):=fun hee=>BK hee (by omega)
   have s5b:∀ {h':Hp},h' q=Ad (f4.setIfInBounds i4 f4[j4]!)→Aw tt.get h' 29 (.pointer (some ⟨q,j4,none⟩)) (.int .u32 f4[i4]!)=([(q,Ad (swp f4 i4 j4))],True):=fun hee=>BK hee (by rw [Array.size_setIfInBounds];omega)
   obtain ⟨i6,hi6⟩:∃m:Nat,m=i4+1:=⟨_,rfl⟩
   obtain ⟨j6,hj6⟩:∃m:Nat,m=j4 - 1:=⟨_,rfl⟩
   have w6:Ae .i64 ((i4:Int)+1)=((i6:Nat):Int):=by rw [wrap64 (by omega) (by omega)];omega
   have w7:Ae .i64 ((j4:Int) - 1)=((j6:Nat):Int):=by rw [wrap64 (by omega) (by omega)];omega
   refine CW.vc A3 [0,1,2,3,8,9,10,43,59,64] (by kernel_rfl) ?_
   (repeat ((try refine Vc.mk' ?_);simp (maxSteps:=6000000) only [go_sem,reduceIte,reduceCtorEq,Nat.reduceAdd,Nat.reduceMul,Nat.reduceSub,Nat.reduceLT,Nat.reduceLeDiff,Nat.reduceEqDiff,Int.reduceEq,Int.reduceLT,Int.reduceLE,Int.reduceNe,FQ,c1,decide_false,Bool.not_false,x0,l0,x3,l3,x5,l5,s5a,s5b,Bq,Ba,c2,w6,w7]))
   refine .mk (i6,j6,swp f4 i4 j4) ⟨by dsimp only;omega,by dsimp only;omega,by dsimp only;omega,by dsimp only;rw [swp_size];exact hfs,by dsimp only;rw [hi6,hj6];exact hfe⟩ (by dsimp only;omega) ((by refine A9.mk' [] hcl (by simp) (by simp) rfl (AZ ?_) ?_ ?_ <;> simp [Ag,BJ,BH,Am,AP,AF,AJ.nil,AJ.cons,AB,AD,AM,AA,AQ,AX,AO,Ax.AL,AG,AV,AE,AH,AK.set,AK.Ao,AK.refl,FQ,Af hqt,AY]))
end Go.Proofs.YthpibnpeaidabaaGreatDoor.Dm
