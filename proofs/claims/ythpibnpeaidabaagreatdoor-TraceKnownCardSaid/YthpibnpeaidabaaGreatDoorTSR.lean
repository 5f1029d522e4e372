/- slices.Sort of []uint32: partition. -/
import Derived.Test.YthpibnpeaidabaaGreatDoorTSQ
set_option linter.unusedSimpArgs false
set_option linter.unusedVariables false
namespace Go.Proofs.YthpibnpeaidabaaGreatDoor.Dm
open Go.Dm
open Go.Sort (ltInt swp scanUp scanDown)
set_option maxHeartbeats 64000000
set_option maxRecDepth 20000
theorem Yz {A X:Prop}(G:Prop)(main:(A→G)→X)(cont:A→G):X:=main cont
theorem gF {a:Nat}:∀(k i j:Nat) (d:Array Int),j+1 - i≤k→(Go.Sort.partLoop ltInt a i j d).2.size=d.size:=by
 intro k
 induction k with
 |zero=>
  intro i j d h
  rw [Go.Sort.partLoop_eq]
  have h1:=Go.Sort.scanUp_ge (fun x=>ltInt x d[a]!) d j i
  have h2:=Go.Sort.scanDown_le (fun x=> !ltInt x d[a]!) d (scanUp (fun x=>ltInt x d[a]!) d j i) j
  rw [if_pos (by omega)]
 |succ k ih=>
  intro i j d h
  rw [Go.Sort.partLoop_eq]
  split
  ·rfl
  ·rename_i h3
   have h4:=Go.Sort.partLoop_guard ltInt a i j d h3
   rw [ih _ _ _ (by omega),swp_size]
theorem FJ {d:Array Int}{a b p:Nat}:(Go.Sort.partition ltInt d a b p).2.2.size=d.size:=by
 unfold Go.Sort.partition
 dsimp only
 split
 ·dsimp only
  rw [swp_size,swp_size]
 ·dsimp only
  rw [swp_size,gF _ _ _ _ (Nat.le_refl _),swp_size,swp_size]
def Ln:BO:= .det (fun args hp _=>match args with | [v, .int .i64 a, .int .i64 b, .int .i64 p]=>cG hp v a b p | _=>False)
 (fun args hp top=>match args with | [v,a,b,p]=>(.tuple #[.int .i64 ((Go.Sort.partition ltInt (Gy hp v) (intOf a).toNat (intOf b).toNat (intOf p).toNat).1:Int), .bool (Go.Sort.partition ltInt (Gy hp v) (intOf a).toNat (intOf b).toNat (intOf p).toNat).2.1],QZ v (Go.Sort.partition ltInt (Gy hp v) (intOf a).toNat (intOf b).toNat (intOf p).toNat).2.2,top) | _=>(undef, [],top))
def EH (hp:Hp)(top:Nat)(q n a:Nat)(x:Nat×Nat×Array Int):SS:=⟨[(0, .slice (some ⟨q,0,none⟩) n n,true),(1, .int .i64 (a:Int),true),(10, .int .i64 (x.1:Int),true),(11, .int .i64 (x.2.1:Int),true)],hp.A0 [(q,Ad x.2.2)],top+0⟩
theorem qW:BG Tryz.prog 115 Ln:=by
 refine .Cy Mh ?_
 intro args hp top hpre hcl hsc
 match args,hpre with
 | [v, .int .i64 a, .int .i64 b, .int .i64 p],hpre=>
 obtain ⟨q,d,hrow,h1,h2,h3,h4⟩:=hpre
 obtain ⟨a,rfl⟩:=Int.eq_ofNat_of_zero_le h1
 obtain ⟨b,rfl⟩:=Int.eq_ofNat_of_zero_le (show 0≤b by omega)
 obtain ⟨p,rfl⟩:=Int.eq_ofNat_of_zero_le (show 0≤p by omega)
 have hn:d.size≤35184372088832:=hrow.le
 have hqt:=hrow.Xw hcl
 simp only [hrow.D5,hrow.MZ,intOf_int,Int.toNat_natCast]
 obtain ⟨rfl,ho,_,_⟩:=hrow
 have hab:a < b:=by omega
 have hbn:b≤d.size:=by omega
 have hpn:p < d.size:=by omega
 obtain ⟨a1,ha1⟩:∃m:Nat,m=a+1:=⟨_,rfl⟩
 obtain ⟨b1,hb1⟩:∃m:Nat,m=b - 1:=⟨_,rfl⟩
 have w1:Ae .i64 ((a:Int)+1)=((a1:Nat):Int):=by rw [wrap64 (by omega) (by omega)];omega
 have w2:Ae .i64 ((b:Int) - 1)=((b1:Nat):Int):=by rw [wrap64 (by omega) (by omega)];omega
 have x0:=fun (bb:Nat)=>Ar (b:=bb) hn (show a < d.size by omega)
 have l0:∀ {h':Hp},h' q=Ad d→An tt.get h' 29 (.pointer (some ⟨q,a,none⟩))=(.int .u32 d[a]!,True):=fun hee=>Ap hee (by omega) (by omega)
 have x1:=fun (bb:Nat)=>Ar (b:=bb) hn (show p < d.size by omega)
 have l1:∀ {h':Hp},h' q=Ad d→An tt.get h' 29 (.pointer (some ⟨q,p,none⟩))=(.int .u32 d[p]!,True):=fun hee=>Ap hee (by omega) (by omega)
 have s1a:∀ {h':Hp},h' q=Ad d→Aw tt.get h' 29 (.pointer (some ⟨q,a,none⟩)) (.int .u32 d[p]!)=([(q,Ad (d.setIfInBounds a d[p]!))],True):=fun hee=>BK hee (by omega)
 have s1b:∀ {h':Hp},h' q=Ad (d.setIfInBounds a d[p]!)→Aw tt.get h' 29 (.pointer (some ⟨q,p,none⟩)) (.int .u32 d[a]!)=([(q,Ad (swp d a p))],True):=fun hee=>BK hee (by rw [Array.size_setIfInBounds];omega)
 generalize hR:Go.Sort.partition ltInt d a b p=R
 unfold Go.Sort.partition at hR
 dsimp only at hR
 have hs0:(swp d a p).size=d.size:=swp_size
 rw [←ha1,←hb1] at hR
 generalize swp d a p=d1 at hs0 s1b hR
 refine Ab.BF BN Mh rfl 168 rfl [.tmp 8, .tmp 9] rfl (show 4≤168 by decide) ?_
 refine CW.vc A3 [0,1,2,3,8,9,10,11,43,60,65,112,129,134] (by kernel_rfl) ?_
 (repeat ((try refine Vc.mk' ?_);simp (maxSteps:=6000000) only [go_sem,reduceIte,reduceCtorEq,Nat.reduceAdd,Nat.reduceMul,Nat.reduceSub,Nat.reduceLT,Nat.reduceLeDiff,Nat.reduceEqDiff,Int.reduceEq,Int.reduceLT,Int.reduceLE,Int.reduceNe,w1,w2,x0,l0,x1,l1,s1a,s1b,ho]))
 clear x0 l0 x1 l1 s1a s1b
 refine CW.Bx (EH hp top q d.size a) (fun y=>y.2.1=b1∧y.2.2=d1∧a1≤y.1∧y.1≤b1+1∧scanUp (fun x=>ltInt x d1[a]!) d1 b1 y.1=scanUp (fun x=>ltInt x d1[a]!) d1 b1 a1) (fun y=>b1+1 - y.1) (a1,b1,d1) ⟨rfl,rfl,Nat.le_refl _,by omega,rfl⟩ ((by refine A9.mk' [] hcl (by simp) (by simp) rfl (AZ ?_) ?_ ?_ <;> simp [Ag,BJ,BH,Am,AP,AF,AJ.nil,AJ.cons,AB,AD,AM,AA,AQ,AX,AO,Ax.AL,AG,AV,AE,AH,AK.set,AK.Ao,AK.refl,EH,Af hqt,AY])) ?_
 rintro ⟨i2,j2,f2⟩ ⟨e1,e2,hi2,hi2n,hsu⟩
 dsimp only at e1 e2 hi2 hi2n hsu ⊢
 subst e1 e2
 have x0:=fun (bb:Nat)=>Ar (b:=bb) hn (show a < d.size by omega)
 have l0:∀ {h':Hp},h' q=Ad f2→An tt.get h' 29 (.pointer (some ⟨q,a,none⟩))=(.int .u32 f2[a]!,True):=fun hee=>Ap hee (by omega) (by omega)
 apply Yz (A:=scanUp (fun x=>ltInt x f2[a]!) f2 j2 i2=i2)
 ·intro rest
  rcases Cv (i:=i2) (j:=j2) (x:=ltInt f2[i2]! f2[a]!) with c | c | c
  ·have c1:((j2:Int) < (i2:Int))=False:=eq_false (by omega)
   have c2:ltInt f2[i2]! f2[a]! = true:=c.2
   obtain ⟨i3,hi3⟩:∃m:Nat,m=i2+1:=⟨_,rfl⟩
   have wi:Ae .i64 ((i2:Int)+1)=((i3:Nat):Int):=by rw [wrap64 (by omega) (by omega)];omega
   have x2:=fun (bb:Nat)=>Ar (b:=bb) hn (show i2 < d.size by omega)
   have l2:∀ {h':Hp},h' q=Ad f2→An tt.get h' 29 (.pointer (some ⟨q,i2,none⟩))=(.int .u32 f2[i2]!,True):=fun hee=>Ap hee (by omega) (by omega)
   refine CW.vc A3 [0,1,2,3,8,9,10,11,43,60,65,112,129,134] (by kernel_rfl) ?_
   (repeat ((try refine Vc.mk' ?_);simp (maxSteps:=6000000) only [go_sem,reduceIte,reduceCtorEq,Nat.reduceAdd,Nat.reduceMul,Nat.reduceSub,Nat.reduceLT,Nat.reduceLeDiff,Nat.reduceEqDiff,Int.reduceEq,Int.reduceLT,Int.reduceLE,Int.reduceNe,EH,c1,decide_false,Bool.not_false,x0,l0,x2,l2,Bq,Ba,c2,wi]))
   refine .mk (i3,j2,f2) ⟨rfl,rfl,by dsimp only;omega,by dsimp only;omega,by dsimp only;rw [hi3,←TU c.1 c.2,hsu]⟩ (by dsimp only;omega) ((by refine A9.mk' [] hcl (by simp) (by simp) rfl (AZ ?_) ?_ ?_ <;> simp [Ag,BJ,BH,Am,AP,AF,AJ.nil,AJ.cons,AB,AD,AM,AA,AQ,AX,AO,Ax.AL,AG,AV,AE,AH,AK.set,AK.Ao,AK.refl,EH,Af hqt,AY]))
  ·have c1:((j2:Int) < (i2:Int))=True:=eq_true (by omega)
   refine CW.vc A3 [0,1,2,3,8,9,10,11,43,60,65,112,129,134] (by kernel_rfl) ?_
   (repeat ((try refine Vc.mk' ?_);simp (maxSteps:=6000000) only [go_sem,reduceIte,reduceCtorEq,Nat.reduceAdd,Nat.reduceMul,Nat.reduceSub,Nat.reduceLT,Nat.reduceLeDiff,Nat.reduceEqDiff,Int.reduceEq,Int.reduceLT,Int.reduceLE,Int.reduceNe,EH,c1,decide_true,Bool.not_true]))
   exact rest (IJ (.inl c))
  ·have c1:((j2:Int) < (i2:Int))=False:=eq_false (by omega)
   have c2:ltInt f2[i2]! f2[a]! = false:=c.2
   have x2:=fun (bb:Nat)=>Ar (b:=bb) hn (show i2 < d.size by omega)
   have l2:∀ {h':Hp},h' q=Ad f2→An tt.get h' 29 (.pointer (some ⟨q,i2,none⟩))=(.int .u32 f2[i2]!,True):=fun hee=>Ap hee (by omega) (by omega)
   refine CW.vc A3 [0,1,2,3,8,9,10,11,43,60,65,112,129,134] (by kernel_rfl) ?_
   (repeat ((try refine Vc.mk' ?_);simp (maxSteps:=6000000) only [go_sem,reduceIte,reduceCtorEq,Nat.reduceAdd,Nat.reduceMul,Nat.reduceSub,Nat.reduceLT,Nat.reduceLeDiff,Nat.reduceEqDiff,Int.reduceEq,Int.reduceLT,Int.reduceLE,Int.reduceNe,EH,c1,decide_false,Bool.not_false,x0,l0,x2,l2,Bq,Ba,c2]))
   exact rest (IJ (.inr c.2))
 ·intro hE
  rw [hE] at hsu
  refine CW.Bx (EH hp top q d.size a) (fun y=>y.1=i2∧y.2.2=f2∧y.2.1≤j2∧i2≤y.2.1+1∧scanDown (fun x=> !ltInt x f2[a]!) f2 i2 y.2.1=scanDown (fun x=> !ltInt x f2[a]!) f2 i2 j2) (fun y=>y.2.1) (i2,j2,f2) ⟨rfl,rfl,Nat.le_refl _,by omega,rfl⟩ ((by refine A9.mk' [] hcl (by simp) (by simp) rfl (AZ ?_) ?_ ?_ <;> simp [Ag,BJ,BH,Am,AP,AF,AJ.nil,AJ.cons,AB,AD,AM,AA,AQ,AX,AO,Ax.AL,AG,AV,AE,AH,AK.set,AK.Ao,AK.refl,EH,Af hqt,AY])) ?_
  rintro ⟨i3,j3,f3⟩ ⟨e1,e2,hj3,hj3n,hsd⟩
  dsimp only at e1 e2 hj3 hj3n hsd ⊢
  subst e1 e2
  rcases Cv (i:=i3) (j:=j3) (x:= !ltInt f3[j3]! f3[a]!) with c | c | c
  ·have c1:((j3:Int) < (i3:Int))=False:=eq_false (by omega)
   have c2:ltInt f3[j3]! f3[a]! = false:=by simpa using c.2
   obtain ⟨j5,hj5⟩:∃m:Nat,m=j3 - 1:=⟨_,rfl⟩
   have wj:Ae .i64 ((j3:Int) - 1)=((j5:Nat):Int):=by rw [wrap64 (by omega) (by omega)];omega
   have x3:=fun (bb:Nat)=>Ar (b:=bb) hn (show j3 < d.size by omega)
   have l3:∀ {h':Hp},h' q=Ad f3→An tt.get h' 29 (.pointer (some ⟨q,j3,none⟩))=(.int .u32 f3[j3]!,True):=fun hee=>Ap hee (by omega) (by omega)
   refine CW.vc A3 [0,1,2,3,8,9,10,11,43,60,65,112,129,134] (by kernel_rfl) ?_
   (repeat ((try refine Vc.mk' ?_);simp (maxSteps:=6000000) only [go_sem,reduceIte,reduceCtorEq,Nat.reduceAdd,Nat.reduceMul,Nat.reduceSub,Nat.reduceLT,Nat.reduceLeDiff,Nat.reduceEqDiff,Int.reduceEq,Int.reduceLT,Int.reduceLE,Int.reduceNe,EH,c1,decide_false,Bool.not_false,x0,l0,x3,l3,Bq,Ba,c2,wj]))
   refine .mk (i3,j5,f3) ⟨rfl,rfl,by dsimp only;omega,by dsimp only;omega,by dsimp only;rw [hj5,←QJ c.1 (by omega) c.2,hsd]⟩ (by dsimp only;omega) ((by refine A9.mk' [] hcl (by simp) (by simp) rfl (AZ ?_) ?_ ?_ <;> simp [Ag,BJ,BH,Am,AP,AF,AJ.nil,AJ.cons,AB,AD,AM,AA,AQ,AX,AO,Ax.AL,AG,AV,AE,AH,AK.set,AK.Ao,AK.refl,EH,Af hqt,AY]))
  ·have c1:((j3:Int) < (i3:Int))=True:=eq_true (by omega)
   rw [Fe (.inl c)] at hsd
   rw [←hsu,←hsd] at hR
   rw [if_pos (by omega)] at hR
   rw [←hR]
   have x4:=fun (bb:Nat)=>Ar (b:=bb) hn (show j3 < d.size by omega)
   have l4:∀ {h':Hp},h' q=Ad f3→An tt.get h' 29 (.pointer (some ⟨q,j3,none⟩))=(.int .u32 f3[j3]!,True):=fun hee=>Ap hee (by omega) (by omega)
   have s4a:∀ {h':Hp},h' q=Ad f3→Aw tt.get h' 29 (.pointer (some ⟨q,j3,none⟩)) (.int .u32 f3[a]!)=([(q,Ad (f3.setIfInBounds j3 f3[a]!))],True):=fun hee=>BK hee (by omega)
   have s4b:∀ {h':Hp},h' q=Ad (f3.setIfInBounds j3 f3[a]!)→Aw tt.get h' 29 (.pointer (some ⟨q,a,none⟩)) (.int .u32 f3[j3]!)=([(q,Ad (swp f3 j3 a))],True):=fun hee=>BK hee (by rw [Array.size_setIfInBounds];omega)
   refine CW.vc A3 [0,1,2,3,8,9,10,11,43,60,65,112,129,134] (by kernel_rfl) ?_
   (repeat ((try refine Vc.mk' ?_);simp (maxSteps:=6000000) only [go_sem,reduceIte,reduceCtorEq,Nat.reduceAdd,Nat.reduceMul,Nat.reduceSub,Nat.reduceLT,Nat.reduceLeDiff,Nat.reduceEqDiff,Int.reduceEq,Int.reduceLT,Int.reduceLE,Int.reduceNe,EH,c1,decide_true,Bool.not_true,x0,l0,x4,l4,s4a,s4b]))
   (refine ⟨[],by simp,by simp,by simp, ?_, ?_, ?_⟩ <;> simp [Ag,BJ,BH,Am,AP,AF,AJ.nil,AJ.cons,AB,AD,AM,AA,AQ,AX,AO,Ax.AL,AG,AV,AE,AH,AK.set,AK.Ao,AK.refl,Af hqt,AY])
  ·have c1:((j3:Int) < (i3:Int))=False:=eq_false (by omega)
   have c2:ltInt f3[j3]! f3[a]! = true:=by simpa using c.2
   rw [Fe (.inr c.2)] at hsd
   rw [←hsu,←hsd] at hR
   rw [if_neg (by omega)] at hR
   have x4:=fun (bb:Nat)=>Ar (b:=bb) hn (show j3 < d.size by omega)
   have l4:∀ {h':Hp},h' q=Ad f3→An tt.get h' 29 (.pointer (some ⟨q,j3,none⟩))=(.int .u32 f3[j3]!,True):=fun hee=>Ap hee (by omega) (by omega)
   have x5:=fun (bb:Nat)=>Ar (b:=bb) hn (show i3 < d.size by omega)
   have l5:∀ {h':Hp},h' q=Ad f3→An tt.get h' 29 (.pointer (some ⟨q,i3,none⟩))=(.int .u32 f3[i3]!,True):=fun hee=>Ap hee (by omega) (by omega)
   have s5a:∀ {h':Hp},h' q=Ad f3→Aw tt.get h' 29 (.pointer (some ⟨q,i3,none⟩)) (.int .u32 f3[j3]!)=([(q,Ad (f3.setIfInBounds i3 f3[j3]!))],True):=fun hee=>BK hee (by omega)
   have s5b:∀ {h':Hp},h' q=Ad (f3.setIfInBounds i3 f3[j3]!)→Aw tt.get h' 29 (.pointer (some ⟨q,j3,none⟩)) (.int .u32 f3[i3]!)=([(q,Ad (swp f3 i3 j3))],True):=fun hee=>BK hee (by rw [Array.size_setIfInBounds];omega)
   obtain ⟨i8,hi8⟩:∃m:Nat,m=i3+1:=⟨_,rfl⟩
   obtain ⟨j8,hj8⟩:∃m:Nat,m=j3 - 1:=⟨_,rfl⟩
   have w6:Ae .i64 ((i3:Int)+1)=((i8:Nat):Int):=by rw [wrap64 (by omega) (by omega)];omega
   have w7:Ae .i64 ((j3:Int) - 1)=((j8:Nat):Int):=by rw [wrap64 (by omega) (by omega)];omega
   rw [←hi8,←hj8] at hR
   have hs1:(swp f3 i3 j3).size=d.size:=by rw [swp_size];exact hs0
   generalize swp f3 i3 j3=f4 at hs1 s5b hR
   refine CW.vc A3 [0,1,2,3,8,9,10,11,43,60,65,112,129,134] (by kernel_rfl) ?_
   (repeat ((try refine Vc.mk' ?_);simp (maxSteps:=6000000) only [go_sem,reduceIte,reduceCtorEq,Nat.reduceAdd,Nat.reduceMul,Nat.reduceSub,Nat.reduceLT,Nat.reduceLeDiff,Nat.reduceEqDiff,Int.reduceEq,Int.reduceLT,Int.reduceLE,Int.reduceNe,EH,c1,decide_false,Bool.not_false,x0,l0,Bq,Ba,c2,Bool.not_true,x4,l4,x5,l5,s5a,s5b,w6,w7]))
   clear x4 l4 x5 l5 s5a s5b x0 l0
   generalize hP:Go.Sort.partLoop ltInt a i8 j8 f4=P at hR
   refine CW.Bx (EH hp top q d.size a) (fun x=>a+2≤x.1∧x.1≤x.2.1+2∧x.2.1 < d.size∧x.2.2.size=d.size∧Go.Sort.partLoop ltInt a x.1 x.2.1 x.2.2=P) (fun x=>x.2.1+1 - x.1) (i8,j8,f4) ⟨by dsimp only;omega,by dsimp only;omega,by dsimp only;omega,hs1,hP⟩ ((by refine A9.mk' [] hcl (by simp) (by simp) rfl (AZ ?_) ?_ ?_ <;> simp [Ag,BJ,BH,Am,AP,AF,AJ.nil,AJ.cons,AB,AD,AM,AA,AQ,AX,AO,Ax.AL,AG,AV,AE,AH,AK.set,AK.Ao,AK.refl,EH,Af hqt,AY])) ?_
   rintro ⟨i5,j5,f5⟩ ⟨hia,hij,hjn,hfs,hfe⟩
   dsimp only at hia hij hjn hfs hfe ⊢
   rw [Go.Sort.partLoop_eq] at hfe
   refine CW.vc A3 [0,1,2,3,8,9,10,11,43,60,65,112,129,134] (by kernel_rfl) ?_
   (repeat ((try refine Vc.mk' ?_);simp (maxSteps:=6000000) only [go_sem,reduceIte,reduceCtorEq,Nat.reduceAdd,Nat.reduceMul,Nat.reduceSub,Nat.reduceLT,Nat.reduceLeDiff,Nat.reduceEqDiff,Int.reduceEq,Int.reduceLT,Int.reduceLE,Int.reduceNe,EH]))
   refine CW.Bx (EH hp top q d.size a) (fun y=>y.2.1=j5∧y.2.2=f5∧i5≤y.1∧y.1≤j5+2∧scanUp (fun x=>ltInt x f5[a]!) f5 j5 y.1=scanUp (fun x=>ltInt x f5[a]!) f5 j5 i5) (fun y=>j5+1 - y.1) (i5,j5,f5) ⟨rfl,rfl,Nat.le_refl _,by omega,rfl⟩ ((by refine A9.mk' [] hcl (by simp) (by simp) rfl (AZ ?_) ?_ ?_ <;> simp [Ag,BJ,BH,Am,AP,AF,AJ.nil,AJ.cons,AB,AD,AM,AA,AQ,AX,AO,Ax.AL,AG,AV,AE,AH,AK.set,AK.Ao,AK.refl,EH,Af hqt,AY])) ?_
   rintro ⟨i6,j6,f6⟩ ⟨e1,e2,hi6,hi6n,hsu⟩
   dsimp only at e1 e2 hi6 hi6n hsu ⊢
   subst e1 e2
   have x0:=fun (bb:Nat)=>Ar (b:=bb) hn (show a < d.size by omega)
   have l0:∀ {h':Hp},h' q=Ad f6→An tt.get h' 29 (.pointer (some ⟨q,a,none⟩))=(.int .u32 f6[a]!,True):=fun hee=>Ap hee (by omega) (by omega)
   apply Yz (A:=scanUp (fun x=>ltInt x f6[a]!) f6 j6 i6=i6)
   ·intro rest
    rcases Cv (i:=i6) (j:=j6) (x:=ltInt f6[i6]! f6[a]!) with c | c | c
    ·have c1:((j6:Int) < (i6:Int))=False:=eq_false (by omega)
     have c2:ltInt f6[i6]! f6[a]! = true:=c.2
     obtain ⟨i3,hi3⟩:∃m:Nat,m=i6+1:=⟨_,rfl⟩
     have wi:Ae .i64 ((i6:Int)+1)=((i3:Nat):Int):=by rw [wrap64 (by omega) (by omega)];omega
     have x2:=fun (bb:Nat)=>Ar (b:=bb) hn (show i6 < d.size by omega)
     have l2:∀ {h':Hp},h' q=Ad f6→An tt.get h' 29 (.pointer (some ⟨q,i6,none⟩))=(.int .u32 f6[i6]!,True):=fun hee=>Ap hee (by omega) (by omega)
     refine CW.vc A3 [0,1,2,3,8,9,10,11,43,60,65,112,129,134] (by kernel_rfl) ?_
     (repeat ((try refine Vc.mk' ?_);simp (maxSteps:=6000000) only [go_sem,reduceIte,reduceCtorEq,Nat.reduceAdd,Nat.reduceMul,Nat.reduceSub,Nat.reduceLT,Nat.reduceLeDiff,Nat.reduceEqDiff,Int.reduceEq,Int.reduceLT,Int.reduceLE,Int.reduceNe,EH,c1,decide_false,Bool.not_false,x0,l0,x2,l2,Bq,Ba,c2,wi]))
     refine .mk (i3,j6,f6) ⟨rfl,rfl,by dsimp only;omega,by dsimp only;omega,by dsimp only;rw [hi3,←TU c.1 c.2,hsu]⟩ (by dsimp only;omega) ((by refine A9.mk' [] hcl (by simp) (by simp) rfl (AZ ?_) ?_ ?_ <;> simp [Ag,BJ,BH,Am,AP,AF,AJ.nil,AJ.cons,AB,AD,AM,AA,AQ,AX,AO,Ax.AL,AG,AV,AE,AH,AK.set,AK.Ao,AK.refl,EH,Af hqt,AY]))
    ·have c1:((j6:Int) < (i6:Int))=True:=eq_true (by omega)
     refine CW.vc A3 [0,1,2,3,8,9,10,11,43,60,65,112,129,134] (by kernel_rfl) ?_
     (repeat ((try refine Vc.mk' ?_);simp (maxSteps:=6000000) only [go_sem,reduceIte,reduceCtorEq,Nat.reduceAdd,Nat.reduceMul,Nat.reduceSub,Nat.reduceLT,Nat.reduceLeDiff,Nat.reduceEqDiff,Int.reduceEq,Int.reduceLT,Int.reduceLE,Int.reduceNe,EH,c1,decide_true,Bool.not_true]))
     exact rest (IJ (.inl c))
    ·have c1:((j6:Int) < (i6:Int))=False:=eq_false (by omega)
     have c2:ltInt f6[i6]! f6[a]! = false:=c.2
     have x2:=fun (bb:Nat)=>Ar (b:=bb) hn (show i6 < d.size by omega)
     have l2:∀ {h':Hp},h' q=Ad f6→An tt.get h' 29 (.pointer (some ⟨q,i6,none⟩))=(.int .u32 f6[i6]!,True):=fun hee=>Ap hee (by omega) (by omega)
     refine CW.vc A3 [0,1,2,3,8,9,10,11,43,60,65,112,129,134] (by kernel_rfl) ?_
     (repeat ((try refine Vc.mk' ?_);simp (maxSteps:=6000000) only [go_sem,reduceIte,reduceCtorEq,Nat.reduceAdd,Nat.reduceMul,Nat.reduceSub,Nat.reduceLT,Nat.reduceLeDiff,Nat.reduceEqDiff,Int.reduceEq,Int.reduceLT,Int.reduceLE,Int.reduceNe,EH,c1,decide_false,Bool.not_false,x0,l0,x2,l2,Bq,Ba,c2]))
     exact rest (IJ (.inr c.2))
   ·intro hE
    rw [hE] at hsu
    refine CW.Bx (EH hp top q d.size a) (fun y=>y.1=i6∧y.2.2=f6∧y.2.1≤j6∧i6≤y.2.1+2∧scanDown (fun x=> !ltInt x f6[a]!) f6 i6 y.2.1=scanDown (fun x=> !ltInt x f6[a]!) f6 i6 j6) (fun y=>y.2.1) (i6,j6,f6) ⟨rfl,rfl,Nat.le_refl _,by omega,rfl⟩ ((by refine A9.mk' [] hcl (by simp) (by simp) rfl (AZ ?_) ?_ ?_ <;> simp [Ag,BJ,BH,Am,AP,AF,AJ.nil,AJ.cons,AB,AD,AM,AA,AQ,AX,AO,Ax.AL,AG,AV,AE,AH,AK.set,AK.Ao,AK.refl,EH,Af hqt,AY])) ?_
    rintro ⟨i7,j7,f7⟩ ⟨e1,e2,hj7,hj7n,hsd⟩
    dsimp only at e1 e2 hj7 hj7n hsd ⊢
    subst e1 e2
    rcases Cv (i:=i7) (j:=j7) (x:= !ltInt f7[j7]! f7[a]!) with c | c | c
    ·have c1:((j7:Int) < (i7:Int))=False:=eq_false (by omega)
     have c2:ltInt f7[j7]! f7[a]! = false:=by simpa using c.2
     obtain ⟨j5,hj5⟩:∃m:Nat,m=j7 - 1:=⟨_,rfl⟩
     have wj:Ae .i64 ((j7:Int) - 1)=((j5:Nat):Int):=by rw [wrap64 (by omega) (by omega)];omega
     have x3:=fun (bb:Nat)=>Ar (b:=bb) hn (show j7 < d.size by omega)
     have l3:∀ {h':Hp},h' q=Ad f7→An tt.get h' 29 (.pointer (some ⟨q,j7,none⟩))=(.int .u32 f7[j7]!,True):=fun hee=>Ap hee (by omega) (by omega)
     refine CW.vc A3 [0,1,2,3,8,9,10,11,43,60,65,112,129,134] (by kernel_rfl) ?_
     (repeat ((try refine Vc.mk' ?_);simp (maxSteps:=6000000) only [go_sem,reduceIte,reduceCtorEq,Nat.reduceAdd,Nat.reduceMul,Nat.reduceSub,Nat.reduceLT,Nat.reduceLeDiff,Nat.reduceEqDiff,Int.reduceEq,Int.reduceLT,Int.reduceLE,Int.reduceNe,EH,c1,decide_false,Bool.not_false,x0,l0,x3,l3,Bq,Ba,c2,wj]))
     refine .mk (i7,j5,f7) ⟨rfl,rfl,by dsimp only;omega,by dsimp only;omega,by dsimp only;rw [hj5,←QJ c.1 (by omega) c.2,hsd]⟩ (by dsimp only;omega) ((by refine A9.mk' [] hcl (by simp) (by simp) rfl (AZ ?_) ?_ ?_ <;> simp [Ag,BJ,BH,Am,AP,AF,AJ.nil,AJ.cons,AB,AD,AM,AA,AQ,AX,AO,Ax.AL,AG,AV,AE,AH,AK.set,AK.Ao,AK.refl,EH,Af hqt,AY]))
    ·have c1:((j7:Int) < (i7:Int))=True:=eq_true (by omega)
     rw [Fe (.inl c)] at hsd
     rw [←hsu,←hsd] at hfe
     rw [if_pos (by omega)] at hfe
     rw [←hfe] at hR
     rw [←hR]
     have x4:=fun (bb:Nat)=>Ar (b:=bb) hn (show j7 < d.size by omega)
     have l4:∀ {h':Hp},h' q=Ad f7→An tt.get h' 29 (.pointer (some ⟨q,j7,none⟩))=(.int .u32 f7[j7]!,True):=fun hee=>Ap hee (by omega) (by omega)
     have s4a:∀ {h':Hp},h' q=Ad f7→Aw tt.get h' 29 (.pointer (some ⟨q,j7,none⟩)) (.int .u32 f7[a]!)=([(q,Ad (f7.setIfInBounds j7 f7[a]!))],True):=fun hee=>BK hee (by omega)
     have s4b:∀ {h':Hp},h' q=Ad (f7.setIfInBounds j7 f7[a]!)→Aw tt.get h' 29 (.pointer (some ⟨q,a,none⟩)) (.int .u32 f7[j7]!)=([(q,Ad (swp f7 j7 a))],True):=fun hee=>BK hee (by rw [Array.size_setIfInBounds];omega)
     refine CW.vc A3 [0,1,2,3,8,9,10,11,43,60,65,112,129,134] (by kernel_rfl) ?_
     (repeat ((try refine Vc.mk' ?_);simp (maxSteps:=6000000) only [go_sem,reduceIte,reduceCtorEq,Nat.reduceAdd,Nat.reduceMul,Nat.reduceSub,Nat.reduceLT,Nat.reduceLeDiff,Nat.reduceEqDiff,Int.reduceEq,Int.reduceLT,Int.reduceLE,Int.reduceNe,EH,c1,decide_true,Bool.not_true,x0,l0,x4,l4,s4a,s4b]))
     (refine ⟨[],by simp,by simp,by simp, ?_, ?_, ?_⟩ <;> simp [Ag,BJ,BH,Am,AP,AF,AJ.nil,AJ.cons,AB,AD,AM,AA,AQ,AX,AO,Ax.AL,AG,AV,AE,AH,AK.set,AK.Ao,AK.refl,Af hqt,AY])
    ·have c1:((j7:Int) < (i7:Int))=False:=eq_false (by omega)
     have c2:ltInt f7[j7]! f7[a]! = true:=by simpa using c.2
     rw [Fe (.inr c.2)] at hsd
     rw [←hsu,←hsd] at hfe
     rw [if_neg (by omega)] at hfe
     have x4:=fun (bb:Nat)=>Ar (b:=bb) hn (show j7 < d.size by omega)
     have l4:∀ {h':Hp},h' q=Ad f7→An tt.get h' 29 (.pointer (some ⟨q,j7,none⟩))=(.int .u32 f7[j7]!,True):=fun hee=>Ap hee (by omega) (by omega)
     have x5:=fun (bb:Nat)=>Ar (b:=bb) hn (show i7 < d.size by omega)
     have l5:∀ {h':Hp},h' q=Ad f7→An tt.get h' 29 (.pointer (some ⟨q,i7,none⟩))=(.int .u32 f7[i7]!,True):=fun hee=>Ap hee (by omega) (by omega)
     have s5a:∀ {h':Hp},h' q=Ad f7→Aw tt.get h' 29 (.pointer (some ⟨q,i7,none⟩)) (.int .u32 f7[j7]!)=([(q,Ad (f7.setIfInBounds i7 f7[j7]!))],True):=fun hee=>BK hee (by omega)
     have s5b:∀ {h':Hp},h' q=Ad (f7.setIfInBounds i7 f7[j7]!)→Aw tt.get h' 29 (.pointer (some ⟨q,j7,none⟩)) (.int .u32 f7[i7]!)=([(q,Ad (swp f7 i7 j7))],True):=fun hee=>BK hee (by rw [Array.size_setIfInBounds];omega)
     obtain ⟨i8,hi8⟩:∃m:Nat,m=i7+1:=⟨_,rfl⟩
     obtain ⟨j8,hj8⟩:∃m:Nat,m=j7 - 1:=⟨_,rfl⟩
     have w6:Ae .i64 ((i7:Int)+1)=((i8:Nat):Int):=by rw [wrap64 (by omega) (by omega)];omega
     have w7:Ae .i64 ((j7:Int) - 1)=((j8:Nat):Int):=by rw [wrap64 (by omega) (by omega)];omega
     skip
     refine CW.vc A3 [0,1,2,3,8,9,10,11,43,60,65,112,129,134] (by kernel_rfl) ?_
     (repeat ((try refine Vc.mk' ?_);simp (maxSteps:=6000000) only [go_sem,reduceIte,reduceCtorEq,Nat.reduceAdd,Nat.reduceMul,Nat.reduceSub,Nat.reduceLT,Nat.reduceLeDiff,Nat.reduceEqDiff,Int.reduceEq,Int.reduceLT,Int.reduceLE,Int.reduceNe,EH,c1,decide_false,Bool.not_false,x0,l0,Bq,Ba,c2,Bool.not_true,x4,l4,x5,l5,s5a,s5b,w6,w7]))
     refine .mk (i8,j8,swp f7 i7 j7) ⟨by dsimp only;omega,by dsimp only;omega,by dsimp only;omega,by dsimp only;rw [swp_size];exact hfs,by dsimp only;rw [hi8,hj8];exact hfe⟩ (by dsimp only;omega) ((by refine A9.mk' [] hcl (by simp) (by simp) rfl (AZ ?_) ?_ ?_ <;> simp [Ag,BJ,BH,Am,AP,AF,AJ.nil,AJ.cons,AB,AD,AM,AA,AQ,AX,AO,Ax.AL,AG,AV,AE,AH,AK.set,AK.Ao,AK.refl,EH,Af hqt,AY]))
end Go.Proofs.YthpibnpeaidabaaGreatDoor.Dm
