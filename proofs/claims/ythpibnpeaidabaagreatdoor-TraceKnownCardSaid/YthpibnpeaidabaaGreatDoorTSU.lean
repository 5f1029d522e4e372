/- slices.Sort of []uint32: partialInsertionSort. -/
import Derived.Test.YthpibnpeaidabaaGreatDoorTSR
set_option linter.unusedSimpArgs false
set_option linter.unusedVariables false
namespace Go.Proofs.YthpibnpeaidabaaGreatDoor.Dm
open Go.Dm
open Go.Sort (ltInt swp scanSorted shiftDown shiftUp)
set_option maxHeartbeats 64000000
set_option maxRecDepth 20000
theorem qe {d:Array Int}{b i:Nat}(h:i < b)(hl:ltInt d[i]! d[i - 1]! = false):scanSorted ltInt d b i=scanSorted ltInt d b (i+1):=by
 rw [scanSorted,if_pos (by simp [h,hl])]
theorem Zp {d:Array Int}{b i:Nat}(h:¬i < b∨ltInt d[i]! d[i - 1]! = true):scanSorted ltInt d b i=i:=by
 rw [scanSorted,if_neg (by rcases h with h | h <;> simp [h])]
theorem LC {d:Array Int}{j:Nat}(h:j=0∨ltInt d[j]! d[j - 1]! = false):shiftDown ltInt j d=d:=by
 cases j with
 |zero=>rfl
 |succ k=>
  have h':ltInt d[k+1]! d[k]! = false:=by simpa using h
  rw [shiftDown,if_pos (by simp [h'])]
theorem ad {d:Array Int}{j:Nat}(h:1≤j)(hl:ltInt d[j]! d[j - 1]! = true):shiftDown ltInt j d=shiftDown ltInt (j - 1) (swp d j (j - 1)):=by
 obtain ⟨k,rfl⟩:∃k,j=k+1:=⟨j - 1,by omega⟩
 have h':ltInt d[k+1]! d[k]! = true:=by simpa using hl
 rw [shiftDown,if_neg (by simp [h'])]
 rfl
theorem Gj {d:Array Int}{b j:Nat}(h:¬j < b∨ltInt d[j]! d[j - 1]! = false):shiftUp ltInt b j d=d:=by
 rw [shiftUp]
 split
 ·rename_i c
  rcases h with h | h
  ·exact absurd c h
  ·rw [if_pos (by simp [h])]
 ·rfl
theorem TN {d:Array Int}{b j:Nat}(h:j < b)(hl:ltInt d[j]! d[j - 1]! = true):shiftUp ltInt b j d=shiftUp ltInt b (j+1) (swp d j (j - 1)):=by
 rw [shiftUp,if_pos h,if_neg (by simp [hl])]
theorem RJ:∀(j:Nat) (d:Array Int),(shiftDown ltInt j d).size=d.size
 |0,_=>rfl
 |j+1,d=>by
  rw [shiftDown]
  split
  ·rfl
  ·rw [RJ j,swp_size]
theorem aG {b:Nat}:∀(k j:Nat) (d:Array Int),b - j≤k→(shiftUp ltInt b j d).size=d.size:=by
 intro k
 induction k with
 |zero=>intro j d h;rw [Gj (.inl (by omega))]
 |succ k ih=>
  intro j d h
  rw [shiftUp]
  split
  ·split
   ·rfl
   ·rw [ih _ _ (by omega),swp_size]
  ·rfl
theorem U4 {a b:Nat}:∀(s i:Nat) (d:Array Int),(Go.Sort.partialIns ltInt a b s i d).1.size=d.size
 |0,_,_=>rfl
 |s+1,i,d=>by
  rw [Go.Sort.partialIns]
  dsimp only
  split
  ·rfl
  split
  ·rfl
  ·rw [U4 s]
   split <;> (try rw [aG _ _ _ (Nat.le_refl _)]) <;> split <;> (try rw [RJ]) <;> rw [swp_size]
theorem Kw {d:Array Int}{a b:Nat}:(Go.Sort.partialInsertionSort ltInt d a b).1.size=d.size:=U4 _ _ _
def Nu:BO:= .det (fun args hp _=>match args with | [v, .int .i64 a, .int .i64 b]=>NX hp v a b | _=>False)
 (fun args hp top=>match args with | [v,a,b]=>(.bool (Go.Sort.partialInsertionSort ltInt (Gy hp v) (intOf a).toNat (intOf b).toNat).2,QZ v (Go.Sort.partialInsertionSort ltInt (Gy hp v) (intOf a).toNat (intOf b).toNat).1,top) | _=>(undef, [],top))
def Er (hp:Hp)(top:Nat)(q n a b:Nat)(x:Nat×Nat×Array Int):SS:=⟨[(0, .slice (some ⟨q,0,none⟩) n n,true),(1, .int .i64 (a:Int),true),(2, .int .i64 (b:Int),true),(7, .int .i64 (x.1:Int),true),(8, .int .i64 (x.2.1:Int),true)],hp.A0 [(q,Ad x.2.2)],top+0⟩
def C3 (s:Nat)(hp:Hp)(top:Nat)(q n a b i j:Nat)(x:Nat×Array Int):SS:=⟨[(0, .slice (some ⟨q,0,none⟩) n n,true),(1, .int .i64 (a:Int),true),(2, .int .i64 (b:Int),true),(7, .int .i64 (i:Int),true),(8, .int .i64 (j:Int),true),(s, .int .i64 (x.1:Int),true)],hp.A0 [(q,Ad x.2)],top+0⟩
theorem qi:BG Tryz.prog 112 Nu:=by
 refine .Cy Lw ?_
 intro args hp top hpre hcl hsc
 match args,hpre with
 | [v, .int .i64 a, .int .i64 b],hpre=>
 obtain ⟨q,d,hrow,h1,h2,h3⟩:=hpre
 obtain ⟨a,rfl⟩:=Int.eq_ofNat_of_zero_le h1
 obtain ⟨b,rfl⟩:=Int.eq_ofNat_of_zero_le (show 0≤b by omega)
 have hn:d.size≤35184372088832:=hrow.le
 have hqt:=hrow.Xw hcl
 simp only [hrow.D5,hrow.MZ,intOf_int,Int.toNat_natCast]
 obtain ⟨rfl,ho,_,_⟩:=hrow
 have hab:a < b:=by omega
 have hbn:b≤d.size:=by omega
 obtain ⟨a1,ha1⟩:∃m:Nat,m=a+1:=⟨_,rfl⟩
 have w1:Ae .i64 ((a:Int)+1)=((a1:Nat):Int):=by rw [wrap64 (by omega) (by omega)];omega
 obtain ⟨m,hm⟩:∃m:Nat,m=b - a:=⟨_,rfl⟩
 have w2:Ae .i64 ((b:Int) - (a:Int))=((m:Nat):Int):=by rw [wrap64 (by omega) (by omega)];omega
 generalize hR:Go.Sort.partialInsertionSort ltInt d a b=R
 have hR':Go.Sort.partialIns ltInt a b 5 a1 d=R:=by rw [ha1];exact hR
 clear hR
 refine Ab.BF BN Lw rfl 133 rfl [.tmp 6] rfl (show 3≤133 by decide) ?_
 refine CW.vc A3 [0,1,2,6,7,8,9,10,14,32,37,41,61,65,78,98,103,116] (by kernel_rfl) ?_
 (repeat ((try refine Vc.mk' ?_);simp (maxSteps:=6000000) only [go_sem,reduceIte,reduceCtorEq,Nat.reduceAdd,Nat.reduceMul,Nat.reduceSub,Nat.reduceLT,Nat.reduceLeDiff,Nat.reduceEqDiff,Int.reduceEq,Int.reduceLT,Int.reduceLE,Int.reduceNe,w1,ho]))
 refine CW.Bx (Er hp top q d.size a b) (fun x=>a < x.1∧x.1≤b∧x.2.1≤5∧x.2.2.size=d.size∧Go.Sort.partialIns ltInt a b (5 - x.2.1) x.1 x.2.2=R) (fun x=>5 - x.2.1) (a1,0,d) ⟨by dsimp only;omega,by dsimp only;omega,by dsimp only;omega,rfl,hR'⟩ ((by refine A9.mk' [] hcl (by simp) (by simp) rfl (AZ ?_) ?_ ?_ <;> simp [Ag,BJ,BH,Am,AP,AF,AJ.nil,AJ.cons,AB,AD,AM,AA,AQ,AX,AO,Ax.AL,AG,AV,AE,AH,AK.set,AK.Ao,AK.refl,Er,Af hqt,AY,ho])) ?_
 rintro ⟨i,j,f⟩ ⟨hia,hib,hj5,hfs,hfe⟩
 dsimp only at hia hib hj5 hfs hfe ⊢
 by_cases hj:j < 5
 ·have cj:((j:Int) < 5)=True:=eq_true (by omega)
  obtain ⟨k,hk⟩:∃k,5 - j=k+1:=⟨4 - j,by omega⟩
  rw [hk,Go.Sort.partialIns] at hfe
  dsimp only at hfe
  refine CW.vc A3 [0,1,2,6,7,8,9,10,14,32,37,41,61,65,78,98,103,116] (by kernel_rfl) ?_
  (repeat ((try refine Vc.mk' ?_);simp (maxSteps:=6000000) only [go_sem,reduceIte,reduceCtorEq,Nat.reduceAdd,Nat.reduceMul,Nat.reduceSub,Nat.reduceLT,Nat.reduceLeDiff,Nat.reduceEqDiff,Int.reduceEq,Int.reduceLT,Int.reduceLE,Int.reduceNe,Er,cj,decide_true]))
  refine CW.Bx (Er hp top q d.size a b) (fun y=>y.2.1=j∧y.2.2=f∧i≤y.1∧y.1≤b∧scanSorted ltInt f b y.1=scanSorted ltInt f b i) (fun y=>b - y.1) (i,j,f) ⟨rfl,rfl,Nat.le_refl _,by omega,rfl⟩ ((by refine A9.mk' [] hcl (by simp) (by simp) rfl (AZ ?_) ?_ ?_ <;> simp [Ag,BJ,BH,Am,AP,AF,AJ.nil,AJ.cons,AB,AD,AM,AA,AQ,AX,AO,Ax.AL,AG,AV,AE,AH,AK.set,AK.Ao,AK.refl,Er,Af hqt,AY])) ?_
  rintro ⟨i2,j2,f2⟩ ⟨e1,e2,hi2,hi2n,hsu⟩
  dsimp only at e1 e2 hi2 hi2n hsu ⊢
  subst e1 e2
  obtain ⟨im,him⟩:∃m:Nat,m=i2 - 1:=⟨_,rfl⟩
  have wm:Ae .i64 ((i2:Int) - 1)=((im:Nat):Int):=by rw [wrap64 (by omega) (by omega)];omega
  rcases Cv (i:=i2+1) (j:=b) (x:= !ltInt f2[i2]! f2[im]!) with c | c | c
  ·have c1:((i2:Int) < (b:Int))=True:=eq_true (by omega)
   have c2:ltInt f2[i2]! f2[im]! = false:=by simpa using c.2
   obtain ⟨i3,hi3⟩:∃m:Nat,m=i2+1:=⟨_,rfl⟩
   have wi:Ae .i64 ((i2:Int)+1)=((i3:Nat):Int):=by rw [wrap64 (by omega) (by omega)];omega
   have x0:=fun (bb:Nat)=>Ar (b:=bb) hn (show i2 < d.size by omega)
   have l0:∀ {h':Hp},h' q=Ad f2→An tt.get h' 29 (.pointer (some ⟨q,i2,none⟩))=(.int .u32 f2[i2]!,True):=fun hee=>Ap hee (by omega) (by omega)
   have x1:=fun (bb:Nat)=>Ar (b:=bb) hn (show im < d.size by omega)
   have l1:∀ {h':Hp},h' q=Ad f2→An tt.get h' 29 (.pointer (some ⟨q,im,none⟩))=(.int .u32 f2[im]!,True):=fun hee=>Ap hee (by omega) (by omega)
   refine CW.vc A3 [0,1,2,6,7,8,9,10,14,32,37,41,61,65,78,98,103,116] (by kernel_rfl) ?_
   (repeat ((try refine Vc.mk' ?_);simp (maxSteps:=6000000) only [go_sem,reduceIte,reduceCtorEq,Nat.reduceAdd,Nat.reduceMul,Nat.reduceSub,Nat.reduceLT,Nat.reduceLeDiff,Nat.reduceEqDiff,Int.reduceEq,Int.reduceLT,Int.reduceLE,Int.reduceNe,Er,c1,decide_true,wm,x0,l0,x1,l1,Bq,Ba,c2,Bool.not_false,wi]))
   refine .mk (i3,j2,f2) ⟨rfl,rfl,by dsimp only;omega,by dsimp only;omega,by dsimp only;rw [hi3,←qe (by omega) (by rw [←him];exact c2),hsu]⟩ (by dsimp only;omega) ((by refine A9.mk' [] hcl (by simp) (by simp) rfl (AZ ?_) ?_ ?_ <;> simp [Ag,BJ,BH,Am,AP,AF,AJ.nil,AJ.cons,AB,AD,AM,AA,AQ,AX,AO,Ax.AL,AG,AV,AE,AH,AK.set,AK.Ao,AK.refl,Er,Af hqt,AY]))
  ·have c1:((i2:Int) < (b:Int))=False:=eq_false (by omega)
   have c3:((i2:Int)=(b:Int))=True:=eq_true (by omega)
   rw [Zp (.inl (by omega))] at hsu
   rw [←hsu,if_pos (by omega)] at hfe
   rw [←hfe]
   refine CW.vc A3 [0,1,2,6,7,8,9,10,14,32,37,41,61,65,78,98,103,116] (by kernel_rfl) ?_
   (repeat ((try refine Vc.mk' ?_);simp (maxSteps:=6000000) only [go_sem,reduceIte,reduceCtorEq,Nat.reduceAdd,Nat.reduceMul,Nat.reduceSub,Nat.reduceLT,Nat.reduceLeDiff,Nat.reduceEqDiff,Int.reduceEq,Int.reduceLT,Int.reduceLE,Int.reduceNe,Er,c1,decide_false,c3,decide_true]))
   (refine ⟨[],by simp,by simp,by simp, ?_, ?_, ?_⟩ <;> simp [Ag,BJ,BH,Am,AP,AF,AJ.nil,AJ.cons,AB,AD,AM,AA,AQ,AX,AO,Ax.AL,AG,AV,AE,AH,AK.set,AK.Ao,AK.refl,Af hqt,AY])
  ·have c1:((i2:Int) < (b:Int))=True:=eq_true (by omega)
   have c3:((i2:Int)=(b:Int))=False:=eq_false (by omega)
   have c2:ltInt f2[i2]! f2[im]! = true:=by simpa using c.2
   rw [Zp (.inr (by rw [←him];exact c2))] at hsu
   rw [←hsu,if_neg (by omega)] at hfe
   have x0:=fun (bb:Nat)=>Ar (b:=bb) hn (show i2 < d.size by omega)
   have l0:∀ {h':Hp},h' q=Ad f2→An tt.get h' 29 (.pointer (some ⟨q,i2,none⟩))=(.int .u32 f2[i2]!,True):=fun hee=>Ap hee (by omega) (by omega)
   have x1:=fun (bb:Nat)=>Ar (b:=bb) hn (show im < d.size by omega)
   have l1:∀ {h':Hp},h' q=Ad f2→An tt.get h' 29 (.pointer (some ⟨q,im,none⟩))=(.int .u32 f2[im]!,True):=fun hee=>Ap hee (by omega) (by omega)
   by_cases h50:b - a < 50
   ·have c5:((m:Int) < 50)=True:=eq_true (by omega)
    rw [if_pos h50] at hfe
    rw [←hfe]
    refine CW.vc A3 [0,1,2,6,7,8,9,10,14,32,37,41,61,65,78,98,103,116] (by kernel_rfl) ?_
    (repeat ((try refine Vc.mk' ?_);simp (maxSteps:=6000000) only [go_sem,reduceIte,reduceCtorEq,Nat.reduceAdd,Nat.reduceMul,Nat.reduceSub,Nat.reduceLT,Nat.reduceLeDiff,Nat.reduceEqDiff,Int.reduceEq,Int.reduceLT,Int.reduceLE,Int.reduceNe,Er,c1,decide_true,decide_false,wm,x0,l0,x1,l1,Bq,Ba,c2,Bool.not_true,c3,w2,c5]))
    (refine ⟨[],by simp,by simp,by simp, ?_, ?_, ?_⟩ <;> simp [Ag,BJ,BH,Am,AP,AF,AJ.nil,AJ.cons,AB,AD,AM,AA,AQ,AX,AO,Ax.AL,AG,AV,AE,AH,AK.set,AK.Ao,AK.refl,Af hqt,AY])
   have c5:((m:Int) < 50)=False:=eq_false (by omega)
   rw [if_neg h50] at hfe
   have s1a:∀ {h':Hp},h' q=Ad f2→Aw tt.get h' 29 (.pointer (some ⟨q,i2,none⟩)) (.int .u32 f2[im]!)=([(q,Ad (f2.setIfInBounds i2 f2[im]!))],True):=fun hee=>BK hee (by omega)
   have s1b:∀ {h':Hp},h' q=Ad (f2.setIfInBounds i2 f2[im]!)→Aw tt.get h' 29 (.pointer (some ⟨q,im,none⟩)) (.int .u32 f2[i2]!)=([(q,Ad (swp f2 i2 im))],True):=fun hee=>BK hee (by rw [Array.size_setIfInBounds];omega)
   rw [←him] at hfe
   have hs1:(swp f2 i2 im).size=d.size:=by rw [swp_size];exact hfs
   generalize swp f2 i2 im=f3 at hs1 s1b hfe
   obtain ⟨ia,hia⟩:∃m:Nat,m=i2 - a:=⟨_,rfl⟩
   have w3:Ae .i64 ((i2:Int) - (a:Int))=((ia:Nat):Int):=by rw [wrap64 (by omega) (by omega)];omega
   obtain ⟨bi,hbi⟩:∃m:Nat,m=b - i2:=⟨_,rfl⟩
   have w4:Ae .i64 ((b:Int) - (i2:Int))=((bi:Nat):Int):=by rw [wrap64 (by omega) (by omega)];omega
   obtain ⟨j1,hj1⟩:∃m:Nat,m=j2+1:=⟨_,rfl⟩
   have w5:Ae .i64 ((j2:Int)+1)=((j1:Nat):Int):=by rw [wrap64 (by omega) (by omega)];omega
   obtain ⟨ip,hip⟩:∃m:Nat,m=i2+1:=⟨_,rfl⟩
   have w6:Ae .i64 ((i2:Int)+1)=((ip:Nat):Int):=by rw [wrap64 (by omega) (by omega)];omega
   have fin:∀ {s':SS} (g:Array Int),g.size=d.size→Go.Sort.partialIns ltInt a b k i2 g=R→(∃ρ,A9 ρ top (Er hp top q d.size a b (i2,j1,g)) s')→Round top (Er hp top q d.size a b) (fun x=>a < x.1∧x.1≤b∧x.2.1≤5∧x.2.2.size=d.size∧Go.Sort.partialIns ltInt a b (5 - x.2.1) x.1 x.2.2=R) (fun x=>5 - x.2.1) (i,j2,f2) s':=fun g e1 e2 hs=>by
    refine .mk (i2,j1,g) ⟨by dsimp only;omega,by dsimp only;omega,by dsimp only;omega,e1, ?_⟩ (by dsimp only;omega) hs
    dsimp only
    rw [show 5 - j1=k by omega]
    exact e2
   rw [←hip] at hfe
   by_cases hd:i2 - a≥2
   ·by_cases hu:b - i2≥2
    ·have c6:((ia:Int) < 2)=False:=eq_false (by omega)
     have c7:((bi:Int) < 2)=False:=eq_false (by omega)
     rw [if_pos (show b - i2≥2 by omega),if_pos (show i2 - a≥2 by omega)] at hfe
     refine CW.vc A3 [0,1,2,6,7,8,9,10,14,32,37,41,61,65,78,98,103,116] (by kernel_rfl) ?_
     (repeat ((try refine Vc.mk' ?_);simp (maxSteps:=6000000) only [go_sem,reduceIte,reduceCtorEq,Nat.reduceAdd,Nat.reduceMul,Nat.reduceSub,Nat.reduceLT,Nat.reduceLeDiff,Nat.reduceEqDiff,Int.reduceEq,Int.reduceLT,Int.reduceLE,Int.reduceNe,Er,c1,decide_true,decide_false,wm,x0,l0,x1,l1,Bq,Ba,c2,Bool.not_true,Bool.not_false,c3,w2,c5,s1a,s1b,w3,c6]))
     refine CW.Bx (C3 9 hp top q d.size a b i2 j2) (fun y=>y.1≤im∧y.2.size=d.size∧shiftDown ltInt y.1 y.2=shiftDown ltInt im f3) (fun y=>y.1) (im,f3) ⟨Nat.le_refl _,hs1,rfl⟩ ((by refine A9.mk' [] hcl (by simp) (by simp) rfl (AZ ?_) ?_ ?_ <;> simp [Ag,BJ,BH,Am,AP,AF,AJ.nil,AJ.cons,AB,AD,AM,AA,AQ,AX,AO,Ax.AL,AG,AV,AE,AH,AK.set,AK.Ao,AK.refl,C3,Af hqt,AY])) ?_
     rintro ⟨z,g⟩ ⟨hz,hgs,hge⟩
     dsimp only at hz hgs hge ⊢
     by_cases cz:1≤z
     ·have d1:((z:Int) < 1)=False:=eq_false (by omega)
      obtain ⟨zm,hzm⟩:∃m:Nat,m=z - 1:=⟨_,rfl⟩
      have wz:Ae .i64 ((z:Int) - 1)=((zm:Nat):Int):=by rw [wrap64 (by omega) (by omega)];omega
      have x2:=fun (bb:Nat)=>Ar (b:=bb) hn (show z < d.size by omega)
      have l2:∀ {h':Hp},h' q=Ad g→An tt.get h' 29 (.pointer (some ⟨q,z,none⟩))=(.int .u32 g[z]!,True):=fun hee=>Ap hee (by omega) (by omega)
      have x3:=fun (bb:Nat)=>Ar (b:=bb) hn (show zm < d.size by omega)
      have l3:∀ {h':Hp},h' q=Ad g→An tt.get h' 29 (.pointer (some ⟨q,zm,none⟩))=(.int .u32 g[zm]!,True):=fun hee=>Ap hee (by omega) (by omega)
      cases d2:ltInt g[z]! g[zm]!
      ·rw [←hge,LC (.inr (by rw [←hzm];exact d2))] at hfe
       refine CW.vc A3 [0,1,2,6,7,8,9,10,14,32,37,41,61,65,78,98,103,116] (by kernel_rfl) ?_
       (repeat ((try refine Vc.mk' ?_);simp (maxSteps:=6000000) only [go_sem,reduceIte,reduceCtorEq,Nat.reduceAdd,Nat.reduceMul,Nat.reduceSub,Nat.reduceLT,Nat.reduceLeDiff,Nat.reduceEqDiff,Int.reduceEq,Int.reduceLT,Int.reduceLE,Int.reduceNe,C3,d1,decide_false,wz,x2,l2,x3,l3,Bq,Ba,d2,Bool.not_false,w5,w4,c7,decide_false,Bool.not_false,w6]))
       clear x2 l2 x3 l3
       refine CW.Bx (C3 10 hp top q d.size a b i2 j2) (fun y=>ip≤y.1∧y.1≤b∧y.2.size=d.size∧shiftUp ltInt b y.1 y.2=shiftUp ltInt b ip g) (fun y=>b - y.1) (ip,g) ⟨Nat.le_refl _,by dsimp only;omega,hgs,rfl⟩ ((by refine A9.mk' [] hcl (by simp) (by simp) rfl (AZ ?_) ?_ ?_ <;> simp [Ag,BJ,BH,Am,AP,AF,AJ.nil,AJ.cons,AB,AD,AM,AA,AQ,AX,AO,Ax.AL,AG,AV,AE,AH,AK.set,AK.Ao,AK.refl,C3,Af hqt,AY])) ?_
       rintro ⟨v,u⟩ ⟨hv1,hv2,hus,hue⟩
       dsimp only at hv1 hv2 hus hue ⊢
       obtain ⟨vm,hvm⟩:∃m:Nat,m=v - 1:=⟨_,rfl⟩
       have wv:Ae .i64 ((v:Int) - 1)=((vm:Nat):Int):=by rw [wrap64 (by omega) (by omega)];omega
       rcases Cv (i:=v+1) (j:=b) (x:=ltInt u[v]! u[vm]!) with e | e | e
       ·have d1:((v:Int) < (b:Int))=True:=eq_true (by omega)
        have d2:ltInt u[v]! u[vm]! = true:=e.2
        obtain ⟨vp,hvp⟩:∃m:Nat,m=v+1:=⟨_,rfl⟩
        have wp:Ae .i64 ((v:Int)+1)=((vp:Nat):Int):=by rw [wrap64 (by omega) (by omega)];omega
        have x2:=fun (bb:Nat)=>Ar (b:=bb) hn (show v < d.size by omega)
        have l2:∀ {h':Hp},h' q=Ad u→An tt.get h' 29 (.pointer (some ⟨q,v,none⟩))=(.int .u32 u[v]!,True):=fun hee=>Ap hee (by omega) (by omega)
        have x3:=fun (bb:Nat)=>Ar (b:=bb) hn (show vm < d.size by omega)
        have l3:∀ {h':Hp},h' q=Ad u→An tt.get h' 29 (.pointer (some ⟨q,vm,none⟩))=(.int .u32 u[vm]!,True):=fun hee=>Ap hee (by omega) (by omega)
        have s3a:∀ {h':Hp},h' q=Ad u→Aw tt.get h' 29 (.pointer (some ⟨q,v,none⟩)) (.int .u32 u[vm]!)=([(q,Ad (u.setIfInBounds v u[vm]!))],True):=fun hee=>BK hee (by omega)
        have s3b:∀ {h':Hp},h' q=Ad (u.setIfInBounds v u[vm]!)→Aw tt.get h' 29 (.pointer (some ⟨q,vm,none⟩)) (.int .u32 u[v]!)=([(q,Ad (swp u v vm))],True):=fun hee=>BK hee (by rw [Array.size_setIfInBounds];omega)
        refine CW.vc A3 [0,1,2,6,7,8,9,10,14,32,37,41,61,65,78,98,103,116] (by kernel_rfl) ?_
        (repeat ((try refine Vc.mk' ?_);simp (maxSteps:=6000000) only [go_sem,reduceIte,reduceCtorEq,Nat.reduceAdd,Nat.reduceMul,Nat.reduceSub,Nat.reduceLT,Nat.reduceLeDiff,Nat.reduceEqDiff,Int.reduceEq,Int.reduceLT,Int.reduceLE,Int.reduceNe,C3,d1,decide_true,wv,x2,l2,x3,l3,Bq,Ba,d2,Bool.not_true,s3a,s3b,wp]))
        refine .mk (vp,swp u v vm) ⟨by dsimp only;omega,by dsimp only;omega,by dsimp only;rw [swp_size];exact hus,by dsimp only;rw [hvp,←hue,TN (d:=u) (j:=v) (by omega) (by rw [←hvm];exact d2),←hvm]⟩ (by dsimp only;omega) ((by refine A9.mk' [] hcl (by simp) (by simp) rfl (AZ ?_) ?_ ?_ <;> simp [Ag,BJ,BH,Am,AP,AF,AJ.nil,AJ.cons,AB,AD,AM,AA,AQ,AX,AO,Ax.AL,AG,AV,AE,AH,AK.set,AK.Ao,AK.refl,C3,Af hqt,AY]))
       ·have d1:((v:Int) < (b:Int))=False:=eq_false (by omega)
        rw [←hue,Gj (.inl (by omega))] at hfe
        refine CW.vc A3 [0,1,2,6,7,8,9,10,14,32,37,41,61,65,78,98,103,116] (by kernel_rfl) ?_
        (repeat ((try refine Vc.mk' ?_);simp (maxSteps:=6000000) only [go_sem,reduceIte,reduceCtorEq,Nat.reduceAdd,Nat.reduceMul,Nat.reduceSub,Nat.reduceLT,Nat.reduceLeDiff,Nat.reduceEqDiff,Int.reduceEq,Int.reduceLT,Int.reduceLE,Int.reduceNe,C3,d1,decide_false,w5]))
        exact fin u hus hfe ((by refine A9.mk' [] hcl (by simp) (by simp) rfl (AZ ?_) ?_ ?_ <;> simp [Ag,BJ,BH,Am,AP,AF,AJ.nil,AJ.cons,AB,AD,AM,AA,AQ,AX,AO,Ax.AL,AG,AV,AE,AH,AK.set,AK.Ao,AK.refl,Er,C3,Af hqt,AY]))
       ·have d1:((v:Int) < (b:Int))=True:=eq_true (by omega)
        have d2:ltInt u[v]! u[vm]! = false:=e.2
        rw [←hue,Gj (.inr (by rw [←hvm];exact d2))] at hfe
        have x2:=fun (bb:Nat)=>Ar (b:=bb) hn (show v < d.size by omega)
        have l2:∀ {h':Hp},h' q=Ad u→An tt.get h' 29 (.pointer (some ⟨q,v,none⟩))=(.int .u32 u[v]!,True):=fun hee=>Ap hee (by omega) (by omega)
        have x3:=fun (bb:Nat)=>Ar (b:=bb) hn (show vm < d.size by omega)
        have l3:∀ {h':Hp},h' q=Ad u→An tt.get h' 29 (.pointer (some ⟨q,vm,none⟩))=(.int .u32 u[vm]!,True):=fun hee=>Ap hee (by omega) (by omega)
        refine CW.vc A3 [0,1,2,6,7,8,9,10,14,32,37,41,61,65,78,98,103,116] (by kernel_rfl) ?_
        (repeat ((try refine Vc.mk' ?_);simp (maxSteps:=6000000) only [go_sem,reduceIte,reduceCtorEq,Nat.reduceAdd,Nat.reduceMul,Nat.reduceSub,Nat.reduceLT,Nat.reduceLeDiff,Nat.reduceEqDiff,Int.reduceEq,Int.reduceLT,Int.reduceLE,Int.reduceNe,C3,d1,decide_true,wv,x2,l2,x3,l3,Bq,Ba,d2,Bool.not_false,w5]))
        exact fin u hus hfe ((by refine A9.mk' [] hcl (by simp) (by simp) rfl (AZ ?_) ?_ ?_ <;> simp [Ag,BJ,BH,Am,AP,AF,AJ.nil,AJ.cons,AB,AD,AM,AA,AQ,AX,AO,Ax.AL,AG,AV,AE,AH,AK.set,AK.Ao,AK.refl,Er,C3,Af hqt,AY]))
      ·have s3a:∀ {h':Hp},h' q=Ad g→Aw tt.get h' 29 (.pointer (some ⟨q,z,none⟩)) (.int .u32 g[zm]!)=([(q,Ad (g.setIfInBounds z g[zm]!))],True):=fun hee=>BK hee (by omega)
       have s3b:∀ {h':Hp},h' q=Ad (g.setIfInBounds z g[zm]!)→Aw tt.get h' 29 (.pointer (some ⟨q,zm,none⟩)) (.int .u32 g[z]!)=([(q,Ad (swp g z zm))],True):=fun hee=>BK hee (by rw [Array.size_setIfInBounds];omega)
       refine CW.vc A3 [0,1,2,6,7,8,9,10,14,32,37,41,61,65,78,98,103,116] (by kernel_rfl) ?_
       (repeat ((try refine Vc.mk' ?_);simp (maxSteps:=6000000) only [go_sem,reduceIte,reduceCtorEq,Nat.reduceAdd,Nat.reduceMul,Nat.reduceSub,Nat.reduceLT,Nat.reduceLeDiff,Nat.reduceEqDiff,Int.reduceEq,Int.reduceLT,Int.reduceLE,Int.reduceNe,C3,d1,decide_false,wz,x2,l2,x3,l3,Bq,Ba,d2,Bool.not_true,Bool.not_false,s3a,s3b]))
       refine .mk (zm,swp g z zm) ⟨by dsimp only;omega,by dsimp only;rw [swp_size];exact hgs,by dsimp only;rw [←hge,ad cz (by rw [←hzm];exact d2),←hzm]⟩ (by dsimp only;omega) ((by refine A9.mk' [] hcl (by simp) (by simp) rfl (AZ ?_) ?_ ?_ <;> simp [Ag,BJ,BH,Am,AP,AF,AJ.nil,AJ.cons,AB,AD,AM,AA,AQ,AX,AO,Ax.AL,AG,AV,AE,AH,AK.set,AK.Ao,AK.refl,C3,Af hqt,AY]))
     ·have d1:((z:Int) < 1)=True:=eq_true (by omega)
      rw [←hge,LC (.inl (by omega))] at hfe
      refine CW.vc A3 [0,1,2,6,7,8,9,10,14,32,37,41,61,65,78,98,103,116] (by kernel_rfl) ?_
      (repeat ((try refine Vc.mk' ?_);simp (maxSteps:=6000000) only [go_sem,reduceIte,reduceCtorEq,Nat.reduceAdd,Nat.reduceMul,Nat.reduceSub,Nat.reduceLT,Nat.reduceLeDiff,Nat.reduceEqDiff,Int.reduceEq,Int.reduceLT,Int.reduceLE,Int.reduceNe,C3,d1,decide_true,Bool.not_true,w5,w4,c7,decide_false,Bool.not_false,w6]))
      refine CW.Bx (C3 10 hp top q d.size a b i2 j2) (fun y=>ip≤y.1∧y.1≤b∧y.2.size=d.size∧shiftUp ltInt b y.1 y.2=shiftUp ltInt b ip g) (fun y=>b - y.1) (ip,g) ⟨Nat.le_refl _,by dsimp only;omega,hgs,rfl⟩ ((by refine A9.mk' [] hcl (by simp) (by simp) rfl (AZ ?_) ?_ ?_ <;> simp [Ag,BJ,BH,Am,AP,AF,AJ.nil,AJ.cons,AB,AD,AM,AA,AQ,AX,AO,Ax.AL,AG,AV,AE,AH,AK.set,AK.Ao,AK.refl,C3,Af hqt,AY])) ?_
      rintro ⟨v,u⟩ ⟨hv1,hv2,hus,hue⟩
      dsimp only at hv1 hv2 hus hue ⊢
      obtain ⟨vm,hvm⟩:∃m:Nat,m=v - 1:=⟨_,rfl⟩
      have wv:Ae .i64 ((v:Int) - 1)=((vm:Nat):Int):=by rw [wrap64 (by omega) (by omega)];omega
      rcases Cv (i:=v+1) (j:=b) (x:=ltInt u[v]! u[vm]!) with e | e | e
      ·have d1:((v:Int) < (b:Int))=True:=eq_true (by omega)
       have d2:ltInt u[v]! u[vm]! = true:=e.2
       obtain ⟨vp,hvp⟩:∃m:Nat,m=v+1:=⟨_,rfl⟩
       have wp:Ae .i64 ((v:Int)+1)=((vp:Nat):Int):=by rw [wrap64 (by omega) (by omega)];omega
       have x2:=fun (bb:Nat)=>Ar (b:=bb) hn (show v < d.size by omega)
       have l2:∀ {h':Hp},h' q=Ad u→An tt.get h' 29 (.pointer (some ⟨q,v,none⟩))=(.int .u32 u[v]!,True):=fun hee=>Ap hee (by omega) (by omega)
       have x3:=fun (bb:Nat)=>Ar (b:=bb) hn (show vm < d.size by omega)
       have l3:∀ {h':Hp},h' q=Ad u→An tt.get h' 29 (.pointer (some ⟨q,vm,none⟩))=(.int .u32 u[vm]!,True):=fun hee=>Ap hee (by omega) (by omega)
       have s3a:∀ {h':Hp},h' q=Ad u→Aw tt.get h' 29 (.pointer (some ⟨q,v,none⟩)) (.int .u32 u[vm]!)=([(q,Ad (u.setIfInBounds v u[vm]!))],True):=fun hee=>BK hee (by omega)
       have s3b:∀ {h':Hp},h' q=Ad (u.setIfInBounds v u[vm]!)→Aw tt.get h' 29 (.pointer (some ⟨q,vm,none⟩)) (.int .u32 u[v]!)=([(q,Ad (swp u v vm))],True):=fun hee=>BK hee (by rw [Array.size_setIfInBounds];omega)
       refine CW.vc A3 [0,1,2,6,7,8,9,10,14,32,37,41,61,65,78,98,103,116] (by kernel_rfl) ?_
       (repeat ((try refine Vc.mk' ?_);simp (maxSteps:=6000000) only [go_sem,reduceIte,reduceCtorEq,Nat.reduceAdd,Nat.reduceMul,Nat.reduceSub,Nat.reduceLT,Nat.reduceLeDiff,Nat.reduceEqDiff,Int.reduceEq,Int.reduceLT,Int.reduceLE,Int.reduceNe,C3,d1,decide_true,wv,x2,l2,x3,l3,Bq,Ba,d2,Bool.not_true,s3a,s3b,wp]))
       refine .mk (vp,swp u v vm) ⟨by dsimp only;omega,by dsimp only;omega,by dsimp only;rw [swp_size];exact hus,by dsimp only;rw [hvp,←hue,TN (d:=u) (j:=v) (by omega) (by rw [←hvm];exact d2),←hvm]⟩ (by dsimp only;omega) ((by refine A9.mk' [] hcl (by simp) (by simp) rfl (AZ ?_) ?_ ?_ <;> simp [Ag,BJ,BH,Am,AP,AF,AJ.nil,AJ.cons,AB,AD,AM,AA,AQ,AX,AO,Ax.AL,AG,AV,AE,AH,AK.set,AK.Ao,AK.refl,C3,Af hqt,AY]))
      ·have d1:((v:Int) < (b:Int))=False:=eq_false (by omega)
       rw [←hue,Gj (.inl (by omega))] at hfe
       refine CW.vc A3 [0,1,2,6,7,8,9,10,14,32,37,41,61,65,78,98,103,116] (by kernel_rfl) ?_
       (repeat ((try refine Vc.mk' ?_);simp (maxSteps:=6000000) only [go_sem,reduceIte,reduceCtorEq,Nat.reduceAdd,Nat.reduceMul,Nat.reduceSub,Nat.reduceLT,Nat.reduceLeDiff,Nat.reduceEqDiff,Int.reduceEq,Int.reduceLT,Int.reduceLE,Int.reduceNe,C3,d1,decide_false,w5]))
       exact fin u hus hfe ((by refine A9.mk' [] hcl (by simp) (by simp) rfl (AZ ?_) ?_ ?_ <;> simp [Ag,BJ,BH,Am,AP,AF,AJ.nil,AJ.cons,AB,AD,AM,AA,AQ,AX,AO,Ax.AL,AG,AV,AE,AH,AK.set,AK.Ao,AK.refl,Er,C3,Af hqt,AY]))
      ·have d1:((v:Int) < (b:Int))=True:=eq_true (by omega)
       have d2:ltInt u[v]! u[vm]! = false:=e.2
       rw [←hue,Gj (.inr (by rw [←hvm];exact d2))] at hfe
       have x2:=fun (bb:Nat)=>Ar (b:=bb) hn (show v < d.size by omega)
       have l2:∀ {h':Hp},h' q=Ad u→An tt.get h' 29 (.pointer (some ⟨q,v,none⟩))=(.int .u32 u[v]!,True):=fun hee=>Ap hee (by omega) (by omega)
       have x3:=fun (bb:Nat)=>Ar (b:=bb) hn (show vm < d.size by omega)
       have l3:∀ {h':Hp},h' q=Ad u→An tt.get h' 29 (.pointer (some ⟨q,vm,none⟩))=(.int .u32 u[vm]!,True):=fun hee=>Ap hee (by omega) (by omega)
       refine CW.vc A3 [0,1,2,6,7,8,9,10,14,32,37,41,61,65,78,98,103,116] (by kernel_rfl) ?_
       (repeat ((try refine Vc.mk' ?_);simp (maxSteps:=6000000) only [go_sem,reduceIte,reduceCtorEq,Nat.reduceAdd,Nat.reduceMul,Nat.reduceSub,Nat.reduceLT,Nat.reduceLeDiff,Nat.reduceEqDiff,Int.reduceEq,Int.reduceLT,Int.reduceLE,Int.reduceNe,C3,d1,decide_true,wv,x2,l2,x3,l3,Bq,Ba,d2,Bool.not_false,w5]))
       exact fin u hus hfe ((by refine A9.mk' [] hcl (by simp) (by simp) rfl (AZ ?_) ?_ ?_ <;> simp [Ag,BJ,BH,Am,AP,AF,AJ.nil,AJ.cons,AB,AD,AM,AA,AQ,AX,AO,Ax.AL,AG,AV,AE,AH,AK.set,AK.Ao,AK.refl,Er,C3,Af hqt,AY]))
    ·have c6:((ia:Int) < 2)=False:=eq_false (by omega)
     have c7:((bi:Int) < 2)=True:=eq_true (by omega)
     rw [if_neg (show ¬b - i2≥2 by omega),if_pos (show i2 - a≥2 by omega)] at hfe
     refine CW.vc A3 [0,1,2,6,7,8,9,10,14,32,37,41,61,65,78,98,103,116] (by kernel_rfl) ?_
     (repeat ((try refine Vc.mk' ?_);simp (maxSteps:=6000000) only [go_sem,reduceIte,reduceCtorEq,Nat.reduceAdd,Nat.reduceMul,Nat.reduceSub,Nat.reduceLT,Nat.reduceLeDiff,Nat.reduceEqDiff,Int.reduceEq,Int.reduceLT,Int.reduceLE,Int.reduceNe,Er,c1,decide_true,decide_false,wm,x0,l0,x1,l1,Bq,Ba,c2,Bool.not_true,Bool.not_false,c3,w2,c5,s1a,s1b,w3,c6]))
     refine CW.Bx (C3 9 hp top q d.size a b i2 j2) (fun y=>y.1≤im∧y.2.size=d.size∧shiftDown ltInt y.1 y.2=shiftDown ltInt im f3) (fun y=>y.1) (im,f3) ⟨Nat.le_refl _,hs1,rfl⟩ ((by refine A9.mk' [] hcl (by simp) (by simp) rfl (AZ ?_) ?_ ?_ <;> simp [Ag,BJ,BH,Am,AP,AF,AJ.nil,AJ.cons,AB,AD,AM,AA,AQ,AX,AO,Ax.AL,AG,AV,AE,AH,AK.set,AK.Ao,AK.refl,C3,Af hqt,AY])) ?_
     rintro ⟨z,g⟩ ⟨hz,hgs,hge⟩
     dsimp only at hz hgs hge ⊢
     by_cases cz:1≤z
     ·have d1:((z:Int) < 1)=False:=eq_false (by omega)
      obtain ⟨zm,hzm⟩:∃m:Nat,m=z - 1:=⟨_,rfl⟩
      have wz:Ae .i64 ((z:Int) - 1)=((zm:Nat):Int):=by rw [wrap64 (by omega) (by omega)];omega
      have x2:=fun (bb:Nat)=>Ar (b:=bb) hn (show z < d.size by omega)
      have l2:∀ {h':Hp},h' q=Ad g→An tt.get h' 29 (.pointer (some ⟨q,z,none⟩))=(.int .u32 g[z]!,True):=fun hee=>Ap hee (by omega) (by omega)
      have x3:=fun (bb:Nat)=>Ar (b:=bb) hn (show zm < d.size by omega)
      have l3:∀ {h':Hp},h' q=Ad g→An tt.get h' 29 (.pointer (some ⟨q,zm,none⟩))=(.int .u32 g[zm]!,True):=fun hee=>Ap hee (by omega) (by omega)
      cases d2:ltInt g[z]! g[zm]!
      ·rw [←hge,LC (.inr (by rw [←hzm];exact d2))] at hfe
       refine CW.vc A3 [0,1,2,6,7,8,9,10,14,32,37,41,61,65,78,98,103,116] (by kernel_rfl) ?_
       (repeat ((try refine Vc.mk' ?_);simp (maxSteps:=6000000) only [go_sem,reduceIte,reduceCtorEq,Nat.reduceAdd,Nat.reduceMul,Nat.reduceSub,Nat.reduceLT,Nat.reduceLeDiff,Nat.reduceEqDiff,Int.reduceEq,Int.reduceLT,Int.reduceLE,Int.reduceNe,C3,d1,decide_false,wz,x2,l2,x3,l3,Bq,Ba,d2,Bool.not_false,w5,w4,c7,decide_true,Bool.not_true,w6]))
       clear x2 l2 x3 l3
       exact fin g hgs hfe ((by refine A9.mk' [] hcl (by simp) (by simp) rfl (AZ ?_) ?_ ?_ <;> simp [Ag,BJ,BH,Am,AP,AF,AJ.nil,AJ.cons,AB,AD,AM,AA,AQ,AX,AO,Ax.AL,AG,AV,AE,AH,AK.set,AK.Ao,AK.refl,Er,C3,Af hqt,AY]))
      ·have s3a:∀ {h':Hp},h' q=Ad g→Aw tt.get h' 29 (.pointer (some ⟨q,z,none⟩)) (.int .u32 g[zm]!)=([(q,Ad (g.setIfInBounds z g[zm]!))],True):=fun hee=>BK hee (by omega)
       have s3b:∀ {h':Hp},h' q=Ad (g.setIfInBounds z g[zm]!)→Aw tt.get h' 29 (.pointer (some ⟨q,zm,none⟩)) (.int .u32 g[z]!)=([(q,Ad (swp g z zm))],True):=fun hee=>BK hee (by rw [Array.size_setIfInBounds];omega)
       refine CW.vc A3 [0,1,2,6,7,8,9,10,14,32,37,41,61,65,78,98,103,116] (by kernel_rfl) ?_
       (repeat ((try refine Vc.mk' ?_);simp (maxSteps:=6000000) only [go_sem,reduceIte,reduceCtorEq,Nat.reduceAdd,Nat.reduceMul,Nat.reduceSub,Nat.reduceLT,Nat.reduceLeDiff,Nat.reduceEqDiff,Int.reduceEq,Int.reduceLT,Int.reduceLE,Int.reduceNe,C3,d1,decide_false,wz,x2,l2,x3,l3,Bq,Ba,d2,Bool.not_true,Bool.not_false,s3a,s3b]))
       refine .mk (zm,swp g z zm) ⟨by dsimp only;omega,by dsimp only;rw [swp_size];exact hgs,by dsimp only;rw [←hge,ad cz (by rw [←hzm];exact d2),←hzm]⟩ (by dsimp only;omega) ((by refine A9.mk' [] hcl (by simp) (by simp) rfl (AZ ?_) ?_ ?_ <;> simp [Ag,BJ,BH,Am,AP,AF,AJ.nil,AJ.cons,AB,AD,AM,AA,AQ,AX,AO,Ax.AL,AG,AV,AE,AH,AK.set,AK.Ao,AK.refl,C3,Af hqt,AY]))
     ·have d1:((z:Int) < 1)=True:=eq_true (by omega)
      rw [←hge,LC (.inl (by omega))] at hfe
      refine CW.vc A3 [0,1,2,6,7,8,9,10,14,32,37,41,61,65,78,98,103,116] (by kernel_rfl) ?_
      (repeat ((try refine Vc.mk' ?_);simp (maxSteps:=6000000) only [go_sem,reduceIte,reduceCtorEq,Nat.reduceAdd,Nat.reduceMul,Nat.reduceSub,Nat.reduceLT,Nat.reduceLeDiff,Nat.reduceEqDiff,Int.reduceEq,Int.reduceLT,Int.reduceLE,Int.reduceNe,C3,d1,decide_true,Bool.not_true,w5,w4,c7,decide_true,Bool.not_true,w6]))
      exact fin g hgs hfe ((by refine A9.mk' [] hcl (by simp) (by simp) rfl (AZ ?_) ?_ ?_ <;> simp [Ag,BJ,BH,Am,AP,AF,AJ.nil,AJ.cons,AB,AD,AM,AA,AQ,AX,AO,Ax.AL,AG,AV,AE,AH,AK.set,AK.Ao,AK.refl,Er,C3,Af hqt,AY]))
   ·by_cases hu:b - i2≥2
    ·have c6:((ia:Int) < 2)=True:=eq_true (by omega)
     have c7:((bi:Int) < 2)=False:=eq_false (by omega)
     rw [if_pos (show b - i2≥2 by omega),if_neg (show ¬i2 - a≥2 by omega)] at hfe
     refine CW.vc A3 [0,1,2,6,7,8,9,10,14,32,37,41,61,65,78,98,103,116] (by kernel_rfl) ?_
     (repeat ((try refine Vc.mk' ?_);simp (maxSteps:=6000000) only [go_sem,reduceIte,reduceCtorEq,Nat.reduceAdd,Nat.reduceMul,Nat.reduceSub,Nat.reduceLT,Nat.reduceLeDiff,Nat.reduceEqDiff,Int.reduceEq,Int.reduceLT,Int.reduceLE,Int.reduceNe,Er,c1,decide_true,decide_false,wm,x0,l0,x1,l1,Bq,Ba,c2,Bool.not_true,Bool.not_false,c3,w2,c5,s1a,s1b,w3,c6,w4,c7,w5,w6]))
     refine CW.Bx (C3 10 hp top q d.size a b i2 j2) (fun y=>ip≤y.1∧y.1≤b∧y.2.size=d.size∧shiftUp ltInt b y.1 y.2=shiftUp ltInt b ip f3) (fun y=>b - y.1) (ip,f3) ⟨Nat.le_refl _,by dsimp only;omega,hs1,rfl⟩ ((by refine A9.mk' [] hcl (by simp) (by simp) rfl (AZ ?_) ?_ ?_ <;> simp [Ag,BJ,BH,Am,AP,AF,AJ.nil,AJ.cons,AB,AD,AM,AA,AQ,AX,AO,Ax.AL,AG,AV,AE,AH,AK.set,AK.Ao,AK.refl,C3,Af hqt,AY])) ?_
     rintro ⟨v,u⟩ ⟨hv1,hv2,hus,hue⟩
     dsimp only at hv1 hv2 hus hue ⊢
     obtain ⟨vm,hvm⟩:∃m:Nat,m=v - 1:=⟨_,rfl⟩
     have wv:Ae .i64 ((v:Int) - 1)=((vm:Nat):Int):=by rw [wrap64 (by omega) (by omega)];omega
     rcases Cv (i:=v+1) (j:=b) (x:=ltInt u[v]! u[vm]!) with e | e | e
     ·have d1:((v:Int) < (b:Int))=True:=eq_true (by omega)
      have d2:ltInt u[v]! u[vm]! = true:=e.2
      obtain ⟨vp,hvp⟩:∃m:Nat,m=v+1:=⟨_,rfl⟩
      have wp:Ae .i64 ((v:Int)+1)=((vp:Nat):Int):=by rw [wrap64 (by omega) (by omega)];omega
      have x2:=fun (bb:Nat)=>Ar (b:=bb) hn (show v < d.size by omega)
      have l2:∀ {h':Hp},h' q=Ad u→An tt.get h' 29 (.pointer (some ⟨q,v,none⟩))=(.int .u32 u[v]!,True):=fun hee=>Ap hee (by omega) (by omega)
      have x3:=fun (bb:Nat)=>Ar (b:=bb) hn (show vm < d.size by omega)
      have l3:∀ {h':Hp},h' q=Ad u→An tt.get h' 29 (.pointer (some ⟨q,vm,none⟩))=(.int .u32 u[vm]!,True):=fun hee=>Ap hee (by omega) (by omega)
      have s3a:∀ {h':Hp},h' q=Ad u→Aw tt.get h' 29 (.pointer (some ⟨q,v,none⟩)) (.int .u32 u[vm]!)=([(q,Ad (u.setIfInBounds v u[vm]!))],True):=fun hee=>BK hee (by omega)
      have s3b:∀ {h':Hp},h' q=Ad (u.setIfInBounds v u[vm]!)→Aw tt.get h' 29 (.pointer (some ⟨q,vm,none⟩)) (.int .u32 u[v]!)=([(q,Ad (swp u v vm))],True):=fun hee=>BK hee (by rw [Array.size_setIfInBounds];omega)
      refine CW.vc A3 [0,1,2,6,7,8,9,10,14,32,37,41,61,65,78,98,103,116] (by kernel_rfl) ?_
      (repeat ((try refine Vc.mk' ?_);simp (maxSteps:=6000000) only [go_sem,reduceIte,reduceCtorEq,Nat.reduceAdd,Nat.reduceMul,Nat.reduceSub,Nat.reduceLT,Nat.reduceLeDiff,Nat.reduceEqDiff,Int.reduceEq,Int.reduceLT,Int.reduceLE,Int.reduceNe,C3,d1,decide_true,wv,x2,l2,x3,l3,Bq,Ba,d2,Bool.not_true,s3a,s3b,wp]))
      refine .mk (vp,swp u v vm) ⟨by dsimp only;omega,by dsimp only;omega,by dsimp only;rw [swp_size];exact hus,by dsimp only;rw [hvp,←hue,TN (d:=u) (j:=v) (by omega) (by rw [←hvm];exact d2),←hvm]⟩ (by dsimp only;omega) ((by refine A9.mk' [] hcl (by simp) (by simp) rfl (AZ ?_) ?_ ?_ <;> simp [Ag,BJ,BH,Am,AP,AF,AJ.nil,AJ.cons,AB,AD,AM,AA,AQ,AX,AO,Ax.AL,AG,AV,AE,AH,AK.set,AK.Ao,AK.refl,C3,Af hqt,AY]))
     ·have d1:((v:Int) < (b:Int))=False:=eq_false (by omega)
      rw [←hue,Gj (.inl (by omega))] at hfe
      refine CW.vc A3 [0,1,2,6,7,8,9,10,14,32,37,41,61,65,78,98,103,116] (by kernel_rfl) ?_
      (repeat ((try refine Vc.mk' ?_);simp (maxSteps:=6000000) only [go_sem,reduceIte,reduceCtorEq,Nat.reduceAdd,Nat.reduceMul,Nat.reduceSub,Nat.reduceLT,Nat.reduceLeDiff,Nat.reduceEqDiff,Int.reduceEq,Int.reduceLT,Int.reduceLE,Int.reduceNe,C3,d1,decide_false,w5]))
      exact fin u hus hfe ((by refine A9.mk' [] hcl (by simp) (by simp) rfl (AZ ?_) ?_ ?_ <;> simp [Ag,BJ,BH,Am,AP,AF,AJ.nil,AJ.cons,AB,AD,AM,AA,AQ,AX,AO,Ax.AL,AG,AV,AE,AH,AK.set,AK.Ao,AK.refl,Er,C3,Af hqt,AY]))
     ·have d1:((v:Int) < (b:Int))=True:=eq_true (by omega)
      have d2:ltInt u[v]! u[vm]! = false:=e.2
      rw [←hue,Gj (.inr (by rw [←hvm];exact d2))] at hfe
      have x2:=fun (bb:Nat)=>Ar (b:=bb) hn (show v < d.size by omega)
      have l2:∀ {h':Hp},h' q=Ad u→An tt.get h' 29 (.pointer (some ⟨q,v,none⟩))=(.int .u32 u[v]!,True):=fun hee=>Ap hee (by omega) (by omega)
      have x3:=fun (bb:Nat)=>Ar (b:=bb) hn (show vm < d.size by omega)
      have l3:∀ {h':Hp},h' q=Ad u→An tt.get h' 29 (.pointer (some ⟨q,vm,none⟩))=(.int .u32 u[vm]!,True):=fun hee=>Ap hee (by omega) (by omega)
      refine CW.vc A3 [0,1,2,6,7,8,9,10,14,32,37,41,61,65,78,98,103,116] (by kernel_rfl) ?_
      (repeat ((try refine Vc.mk' ?_);simp (maxSteps:=6000000) only [go_sem,reduceIte,reduceCtorEq,Nat.reduceAdd,Nat.reduceMul,Nat.reduceSub,Nat.reduceLT,Nat.reduceLeDiff,Nat.reduceEqDiff,Int.reduceEq,Int.reduceLT,Int.reduceLE,Int.reduceNe,C3,d1,decide_true,wv,x2,l2,x3,l3,Bq,Ba,d2,Bool.not_false,w5]))
      exact fin u hus hfe ((by refine A9.mk' [] hcl (by simp) (by simp) rfl (AZ ?_) ?_ ?_ <;> simp [Ag,BJ,BH,Am,AP,AF,AJ.nil,AJ.cons,AB,AD,AM,AA,AQ,AX,AO,Ax.AL,AG,AV,AE,AH,AK.set,AK.Ao,AK.refl,Er,C3,Af hqt,AY]))
    ·have c6:((ia:Int) < 2)=True:=eq_true (by omega)
     have c7:((bi:Int) < 2)=True:=eq_true (by omega)
     rw [if_neg (show ¬b - i2≥2 by omega),if_neg (show ¬i2 - a≥2 by omega)] at hfe
     refine CW.vc A3 [0,1,2,6,7,8,9,10,14,32,37,41,61,65,78,98,103,116] (by kernel_rfl) ?_
     (repeat ((try refine Vc.mk' ?_);simp (maxSteps:=6000000) only [go_sem,reduceIte,reduceCtorEq,Nat.reduceAdd,Nat.reduceMul,Nat.reduceSub,Nat.reduceLT,Nat.reduceLeDiff,Nat.reduceEqDiff,Int.reduceEq,Int.reduceLT,Int.reduceLE,Int.reduceNe,Er,c1,decide_true,decide_false,wm,x0,l0,x1,l1,Bq,Ba,c2,Bool.not_true,Bool.not_false,c3,w2,c5,s1a,s1b,w3,c6,w4,c7,w5,w6]))
     exact fin f3 hs1 hfe ((by refine A9.mk' [] hcl (by simp) (by simp) rfl (AZ ?_) ?_ ?_ <;> simp [Ag,BJ,BH,Am,AP,AF,AJ.nil,AJ.cons,AB,AD,AM,AA,AQ,AX,AO,Ax.AL,AG,AV,AE,AH,AK.set,AK.Ao,AK.refl,Er,C3,Af hqt,AY]))
 ·have cj:((j:Int) < 5)=False:=eq_false (by omega)
  have hk:5 - j=0:=by omega
  rw [hk] at hfe
  rw [←hfe]
  refine CW.vc A3 [0,1,2,6,7,8,9,10,14,32,37,41,61,65,78,98,103,116] (by kernel_rfl) ?_
  (repeat ((try refine Vc.mk' ?_);simp (maxSteps:=6000000) only [go_sem,reduceIte,reduceCtorEq,Nat.reduceAdd,Nat.reduceMul,Nat.reduceSub,Nat.reduceLT,Nat.reduceLeDiff,Nat.reduceEqDiff,Int.reduceEq,Int.reduceLT,Int.reduceLE,Int.reduceNe,Er,cj,decide_false]))
  (refine ⟨[],by simp,by simp,by simp, ?_, ?_, ?_⟩ <;> simp [Ag,BJ,BH,Am,AP,AF,AJ.nil,AJ.cons,AB,AD,AM,AA,AQ,AX,AO,Ax.AL,AG,AV,AE,AH,AK.set,AK.Ao,AK.refl,Af hqt,AY,Go.Sort.partialIns])
end Go.Proofs.YthpibnpeaidabaaGreatDoor.Dm
