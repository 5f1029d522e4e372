/- slices.Compact of []uint32. -/
import Derived.Test.YthpibnpeaidabaaGreatDoorTSE
set_option linter.unusedSimpArgs false
set_option linter.unusedVariables false
namespace Go.Proofs.YthpibnpeaidabaaGreatDoor.Dm
open Go.Dm
set_option maxHeartbeats 64000000
set_option maxRecDepth 20000
def Bv:List Int→List Int
 | []=> []
 | [x]=> [x]
 |x :: y :: l=>if x=y then Bv (y :: l) else x :: Bv (y :: l)
theorem QN:∀(l:List Int) (x:Int),Bv (x :: l)=x :: (Bv (x :: l)).tail
 | [],_=>rfl
 |y :: l,x=>by
  by_cases h:x=y
  ·subst h
   have e:Bv (x :: x :: l)=Bv (x :: l):=by rw [Bv,if_pos rfl]
   rw [e];exact QN l x
  ·have e:Bv (x :: y :: l)=x :: Bv (y :: l):=by rw [Bv,if_neg h]
   rw [e];rfl
theorem Y4:∀(l:List Int),(Bv l).length≤l.length
 | []=>Nat.le_refl _
 | [_]=>Nat.le_refl _
 |x :: y :: l=>by
  have:=Y4 (y :: l)
  rw [Bv]
  split
  ·exact Nat.le_succ_of_le this
  ·simpa using this
theorem drop_at {d:Array Int}{j:Nat}(h:j < d.size):d.toList.drop j=d[j]! :: d.toList.drop (j+1):=by
 rw [List.drop_eq_getElem_cons (by simpa using h)]
 simp [getElem!_pos d j h]
theorem VF {d:Array Int}{j:Nat}(h:j+1 < d.size)(e:d[j]! = d[j+1]!):(Bv (d.toList.drop j)).tail=(Bv (d.toList.drop (j+1))).tail:=by
 rw [drop_at (show j < d.size by omega),drop_at h,Bv,if_pos e]
theorem V3 {d:Array Int}{j:Nat}(h:j+1 < d.size)(e:d[j]! ≠d[j+1]!):(Bv (d.toList.drop j)).tail=d[j+1]! :: (Bv (d.toList.drop (j+1))).tail:=by
 rw [drop_at (show j < d.size by omega),drop_at h,Bv,if_neg e,List.tail_cons,QN]
 simp
theorem ZI {d:Array Int}{j:Nat}(h:d.size≤j+1):(Bv (d.toList.drop j)).tail= []:=by
 by_cases c:j < d.size
 ·rw [drop_at c,List.drop_eq_nil_of_le (by simpa using h)];rfl
 ·rw [List.drop_eq_nil_of_le (by simp;omega)];rfl
theorem Qn {d:Array Int}{i:Nat}(h:i < d.size):d.toList.take (i+1)=d.toList.take i ++ [d[i]!]:=by
 rw [←List.take_append_getElem (by simpa using h)]
 simp [getElem!_pos d i h]
theorem Xk {d:Array Int}{i:Nat}{x:Int}(h:i < d.size):(d.setIfInBounds i x).toList.take (i+1)=d.toList.take i ++ [x]:=by
 rw [Qn (by simpa using h),Array.toList_setIfInBounds,List.take_set_of_le (Nat.le_refl _)]
 simp [h]
def QX (d:Array Int):Array Int:=(Bv d.toList ++ List.replicate (d.size - (Bv d.toList).length) 0).toArray
def mh (v:Value)(k:Nat):Value:=match v with | .slice (some p) _ m=> .slice (some p) k m | v=>v
theorem Y3 {d:Array Int}(h:Bv d.toList=d.toList):QX d=d:=by
 unfold QX;rw [h];simp
def R6:BO:= .det (fun args hp _=>match args with | [v]=>RS hp v | _=>False)
 (fun args hp top=>match args with | [v]=>(mh v (Bv (Gy hp v).toList).length,QZ v (QX (Gy hp v)),top) | _=>(undef, [],top))
theorem jT {h':Hp}{b m i:Nat}{d:Array Int}(e:h' b=Ad d)(hm:d.size=m)(h0:i < m):Gg tt.get h' [51] (.slice (some ⟨b,i,none⟩) (m - i) (m - i))=some [(b,Ad (d.toList.take i ++ List.replicate (m - i) 0).toArray)]:=by
 subst hm
 have hf:∀l:List Int,Aj.flat l=l.map (Value.int .u32):=fun l=>by
  induction l with
  |nil=>rfl
  |cons x l ih=>show Value.int .u32 x :: Aj.flat l=_;rw [ih];rfl
 have hrow:∀l:List Int,l≠ []→Au Aj l=some (.cells true 1 (l.map (Value.int .u32))):=fun l h=>by
  cases l with
  |nil=>exact absurd rfl h
  |cons x l=>show some (A5.cells true Aj.size (Aj.flat (x :: l)))=_;rw [hf];rfl
 have hne:d.toList≠ []:=fun h=>by
  have:=congrArg List.length h
  simp only [Array.length_toList,List.length_nil] at this;omega
 have hz:∀n:Nat,DJ I2 n=List.replicate n (Value.int .u32 0):=fun n=>by
  unfold DJ
  rw [show Ay I2.zero= [Value.int .u32 0] from rfl]
  induction n with
  |zero=>rfl
  |succ n ih=>rw [List.replicate_succ,List.replicate_succ,List.flatten_cons,ih];rfl
 have hone:∀n:Nat,BA (List.replicate n (Value.int .u32 0))=true:=fun n=>by
  induction n with
  |zero=>rfl
  |succ n ih=>rw [List.replicate_succ];simp [BA,ih,Value.oneCell']
 have e1:h' b=some (.cells true 1 (d.toList.map (Value.int .u32))):=e.trans (hrow _ hne)
 have hb:Nat.beq (d.size - i) 0=false:=by
  obtain ⟨k,hk⟩:∃k,d.size - i=k+1:=⟨d.size - i - 1,by omega⟩
  rw [hk];rfl
 have hl:Nat.ble (i+(d.size - i) * I2.size) (d.toList.map (Value.int .u32)).length=true:=by
  rw [Nat.ble_eq]
  simp [show I2.size=1 from rfl]
  omega
 unfold Gg
 simp only [Dv,hb,show RN.ud= .slice 29 from rfl,CU,e1,hl,hz,hone,Bool.and_self]
 unfold Ad
 rw [hrow _ (by
  intro h
  have:=congrArg List.length h
  simp at this;omega)]
 unfold A7
 rw [List.length_replicate,List.drop_eq_nil_of_le (by simp;omega)]
 simp [List.map_take]
def XE (hp:Hp)(top:Nat)(q n:Nat)(d:Array Int)(i:Nat):SS:=⟨[(0, .slice (some ⟨q,0,none⟩) n n,true),(3, .int .i64 (i:Int),true)],hp.A0 [(q,Ad d)],top+0⟩
def Ti (hp:Hp)(top:Nat)(q n m i0:Nat)(x:Nat×Nat×Array Int):SS:=⟨[(0, .slice (some ⟨q,0,none⟩) n n,true),(3, .int .i64 (x.1:Int),true),(4, .slice (some ⟨q,i0,none⟩) m m,true),(5, .int .i64 (x.2.1:Int),true)],hp.A0 [(q,Ad x.2.2)],top+0⟩
theorem pX:BG Tryz.prog 52 R6:=by
 refine .Cy JL ?_
 intro args hp top hpre hcl hsc
 match args,hpre with
 | [v],hpre=>
 rcases hpre with rfl | ⟨q,d,hrow⟩
 ·have l0:∀ {h':Hp},DY tt.get h' 51 (.slice none 0 0)=(.int .i64 0,True):=fun {h'}=>by
   have:=Hj (Br.nils (E:=Aj) (hp:=hp)) (hp':=h')
   simpa using this
  refine Ab.BF BN JL rfl 61 rfl [.tmp 2] rfl (show 1≤61 by decide) ?_
  refine CW.vc E7 [0,2,3,4,5,8,13,25,32,44] (by kernel_rfl) ?_
  (repeat ((try refine Vc.mk' ?_);simp (maxSteps:=6000000) only [go_sem,reduceIte,reduceCtorEq,Nat.reduceAdd,Nat.reduceMul,Nat.reduceSub,Nat.reduceLT,Nat.reduceLeDiff,Nat.reduceEqDiff,Int.reduceEq,Int.reduceLT,Int.reduceLE,Int.reduceNe,l0]))
  (refine ⟨[],by simp,by simp,by simp, ?_, ?_, ?_⟩ <;> simp [Ag,BJ,BH,Am,AP,AF,AJ.nil,AJ.cons,AB,AD,AM,AA,AQ,AX,AO,Ax.AL,AG,AV,AE,AH,AK.set,AK.Ao,AK.refl,QZ,mh])
 have hn:d.size≤35184372088832:=hrow.le
 have h0:=hrow.pos
 have hqt:=hrow.Xw hcl
 simp only [hrow.D5,hrow.MZ]
 obtain ⟨rfl,ho,_,_⟩:=hrow
 obtain ⟨n,hnd⟩:∃n,n=d.size:=⟨_,rfl⟩
 rw [←hnd] at hn h0 ⊢
 have l0:=fun (h':Hp)=>LN (h':=h') (b:=q) (o:=0) (Nat.le_refl n) hn
 by_cases h2:n < 2
 ·have c2:((n:Int) < 2)=True:=eq_true (by omega)
  have hC:Bv d.toList=d.toList:=by
   have e:=drop_at (d:=d) (j:=0) (by omega)
   rw [List.drop_zero,List.drop_eq_nil_of_le (by simp;omega)] at e
   rw [e];rfl
  have hCl:(Bv d.toList).length=n:=by rw [hC,Array.length_toList,hnd]
  rw [hCl,Y3 hC]
  refine Ab.BF BN JL rfl 61 rfl [.tmp 2] rfl (show 1≤61 by decide) ?_
  refine CW.vc E7 [0,2,3,4,5,8,13,25,32,44] (by kernel_rfl) ?_
  (repeat ((try refine Vc.mk' ?_);simp (maxSteps:=6000000) only [go_sem,reduceIte,reduceCtorEq,Nat.reduceAdd,Nat.reduceMul,Nat.reduceSub,Nat.reduceLT,Nat.reduceLeDiff,Nat.reduceEqDiff,Int.reduceEq,Int.reduceLT,Int.reduceLE,Int.reduceNe,l0,c2,decide_true]))
  (refine ⟨[],by simp,by simp,by simp, ?_, ?_, ?_⟩ <;> simp [Ag,BJ,BH,Am,AP,AF,AJ.nil,AJ.cons,AB,AD,AM,AA,AQ,AX,AO,Ax.AL,AG,AV,AE,AH,AK.set,AK.Ao,AK.refl,Af hqt,AY,ho,mh])
 have c2:((n:Int) < 2)=False:=eq_false (by omega)
 refine Ab.BF BN JL rfl 61 rfl [.tmp 2] rfl (show 1≤61 by decide) ?_
 refine CW.vc E7 [0,2,3,4,5,8,13,25,32,44] (by kernel_rfl) ?_
 (repeat ((try refine Vc.mk' ?_);simp (maxSteps:=6000000) only [go_sem,reduceIte,reduceCtorEq,Nat.reduceAdd,Nat.reduceMul,Nat.reduceSub,Nat.reduceLT,Nat.reduceLeDiff,Nat.reduceEqDiff,Int.reduceEq,Int.reduceLT,Int.reduceLE,Int.reduceNe,l0,c2,decide_false]))
 obtain ⟨C,hC⟩:∃C,C=Bv d.toList:=⟨_,rfl⟩
 unfold QX
 rw [←hC,←hnd]
 have hC1:d.toList.take 1 ++ (Bv (d.toList.drop (1 - 1))).tail=C:=by
  have e:=drop_at (d:=d) (j:=0) (by omega)
  rw [List.drop_zero] at e
  rw [show 1 - 1=0 from rfl,List.drop_zero,hC,e,List.take_succ_cons,List.take_zero,QN];rfl
 refine CW.Bx (XE hp top q n d) (fun i=>1≤i∧i≤n∧d.toList.take i ++ (Bv (d.toList.drop (i - 1))).tail=C) (fun i=>n - i) 1 ⟨Nat.le_refl _,by omega,hC1⟩ ((by refine A9.mk' [] hcl (by simp) (by simp) rfl (AZ ?_) ?_ ?_ <;> simp [Ag,BJ,BH,Am,AP,AF,AJ.nil,AJ.cons,AB,AD,AM,AA,AQ,AX,AO,Ax.AL,AG,AV,AE,AH,AK.set,AK.Ao,AK.refl,XE,Af hqt,AY,ho])) ?_
 intro i ⟨hi1,hin,hiC⟩
 obtain ⟨im,him⟩:∃m:Nat,m=i - 1:=⟨_,rfl⟩
 have wm:Ae .i64 ((i:Int) - 1)=((im:Nat):Int):=by rw [wrap64 (by omega) (by omega)];omega
 rw [←him] at hiC
 by_cases hlt:i < n
 ·have c3:((i:Int) < (n:Int))=True:=eq_true (by omega)
  have x0:=fun (bb:Nat)=>Ar (b:=bb) hn hlt
  have l0':∀ {h':Hp},h' q=Ad d→An tt.get h' 29 (.pointer (some ⟨q,i,none⟩))=(.int .u32 d[i]!,True):=fun hee=>Ap hee (by omega) (by omega)
  have x1:=fun (bb:Nat)=>Ar (b:=bb) hn (show im < n by omega)
  have l1:∀ {h':Hp},h' q=Ad d→An tt.get h' 29 (.pointer (some ⟨q,im,none⟩))=(.int .u32 d[im]!,True):=fun hee=>Ap hee (by omega) (by omega)
  by_cases heq:d[i]! = d[im]!
  ·have ce:(d[i]! = d[im]!)=True:=eq_true heq
   obtain ⟨m,hm⟩:∃m,m=n - i:=⟨_,rfl⟩
   have s0:∀ {h':Hp},h' q=Ad d→Bk tt.get h' 51 (.slice (some ⟨q,0,none⟩) n n) (some (.int .i64 (i:Int))) none=(.slice (some ⟨q,i,none⟩) m m,True):=fun e=>by rw [hm];exact ba e hnd.symm hlt hn
   have hiC':d.toList.take i ++ (Bv (d.toList.drop (i+1 - 1))).tail=C:=by
    rw [←hiC,VF (d:=d) (j:=im) (by omega) (by rw [show im+1=i by omega];exact heq.symm)]
    rw [show im+1=i by omega,Nat.add_sub_cancel]
   refine CW.vc E7 [0,2,3,4,5,8,13,25,32,44] (by kernel_rfl) ?_
   (repeat ((try refine Vc.mk' ?_);simp (maxSteps:=6000000) only [go_sem,reduceIte,reduceCtorEq,Nat.reduceAdd,Nat.reduceMul,Nat.reduceSub,Nat.reduceLT,Nat.reduceLeDiff,Nat.reduceEqDiff,Int.reduceEq,Int.reduceLT,Int.reduceLE,Int.reduceNe,XE,l0,c3,decide_true,x0,l0',x1,l1,wm,ce,s0]))
   refine CW.Bx (Ti hp top q n m i) (fun x=>1≤x.2.1∧x.2.1≤m∧i≤x.1∧x.1+1≤i+x.2.1∧x.2.2.size=n∧(∀j,i+x.2.1 - 1≤j→j < n→x.2.2[j]! = d[j]!)∧x.2.2.toList.take x.1 ++ (Bv (d.toList.drop (i+x.2.1 - 1))).tail=C) (fun x=>m - x.2.1) (i,1,d) ⟨Nat.le_refl _,by dsimp only;omega,Nat.le_refl _,Nat.le_refl _,hnd.symm,fun _ _ _=>rfl,hiC'⟩ ((by refine A9.mk' [] hcl (by simp) (by simp) rfl (AZ ?_) ?_ ?_ <;> simp [Ag,BJ,BH,Am,AP,AF,AJ.nil,AJ.cons,AB,AD,AM,AA,AQ,AX,AO,Ax.AL,AG,AV,AE,AH,AK.set,AK.Ao,AK.refl,Ti,Af hqt,AY,ho])) ?_
   clear hiC' hiC ce heq x0 l0' x1 l1 wm s0
   rintro ⟨u,k,f⟩ ⟨hk1,hkm,hiu,huk,hfs,hfd,hfC⟩
   dsimp only at hk1 hkm hiu huk hfs hfd hfC ⊢
   have l2:=fun (h':Hp)=>LN (h':=h') (b:=q) (o:=i) (Nat.le_refl m) (show m≤35184372088832 by omega)
   by_cases hkl:k < m
   ·have c4:((k:Int) < (m:Int))=True:=eq_true (by omega)
    obtain ⟨km,hkm⟩:∃m:Nat,m=k - 1:=⟨_,rfl⟩
    have wkm:Ae .i64 ((k:Int) - 1)=((km:Nat):Int):=by rw [wrap64 (by omega) (by omega)];omega
    obtain ⟨kp,hkp⟩:∃m:Nat,m=k+1:=⟨_,rfl⟩
    have wkp:Ae .i64 ((k:Int)+1)=((kp:Nat):Int):=by rw [wrap64 (by omega) (by omega)];omega
    obtain ⟨p,hpp⟩:∃z:Nat,z=i+k:=⟨_,rfl⟩
    obtain ⟨pm,hpm⟩:∃m:Nat,m=i+km:=⟨_,rfl⟩
    have x2:=fun (bb:Nat)=>LL (b:=bb) (o:=i) (Nat.le_refl m) (show m≤35184372088832 by omega) hkl
    have x3:=fun (bb:Nat)=>LL (b:=bb) (o:=i) (Nat.le_refl m) (show m≤35184372088832 by omega) (show km < m by omega)
    rw [←hpp] at x2
    rw [←hpm] at x3
    have l2':∀ {h':Hp},h' q=Ad f→An tt.get h' 29 (.pointer (some ⟨q,p,none⟩))=(.int .u32 f[p]!,True):=fun hee=>Ap hee (by omega) (by omega)
    have l3:∀ {h':Hp},h' q=Ad f→An tt.get h' 29 (.pointer (some ⟨q,pm,none⟩))=(.int .u32 f[pm]!,True):=fun hee=>Ap hee (by omega) (by omega)
    have e2:=hfd p (by omega) (by omega)
    have e3:=hfd pm (by omega) (by omega)
    rw [show i+k - 1=pm by omega] at hfC
    by_cases hne:f[p]! = f[pm]!
    ·have ce:(f[p]! = f[pm]!)=True:=eq_true hne
     rw [VF (d:=d) (j:=pm) (by omega) (by rw [show pm+1=p by omega,←e2,←e3];exact hne.symm)] at hfC
     refine CW.vc E7 [0,2,3,4,5,8,13,25,32,44] (by kernel_rfl) ?_
     (repeat ((try refine Vc.mk' ?_);simp (maxSteps:=6000000) only [go_sem,reduceIte,reduceCtorEq,Nat.reduceAdd,Nat.reduceMul,Nat.reduceSub,Nat.reduceLT,Nat.reduceLeDiff,Nat.reduceEqDiff,Int.reduceEq,Int.reduceLT,Int.reduceLE,Int.reduceNe,Ti,l2,c4,decide_true,x2,l2',x3,l3,wkm,ce,Bool.not_true,wkp]))
     refine .mk (u,kp,f) ⟨by dsimp only;omega,by dsimp only;omega,hiu,by dsimp only;omega,hfs,fun j h1 h2=>hfd j (by dsimp only at h1;omega) h2,by dsimp only;rw [show i+kp - 1=pm+1 by omega];exact hfC⟩ (by dsimp only;omega) ((by refine A9.mk' [] hcl (by simp) (by simp) rfl (AZ ?_) ?_ ?_ <;> simp [Ag,BJ,BH,Am,AP,AF,AJ.nil,AJ.cons,AB,AD,AM,AA,AQ,AX,AO,Ax.AL,AG,AV,AE,AH,AK.set,AK.Ao,AK.refl,Ti,Af hqt,AY]))
    ·have ce:(f[p]! = f[pm]!)=False:=eq_false hne
     rw [V3 (d:=d) (j:=pm) (by omega) (by rw [show pm+1=p by omega,←e2,←e3];exact fun h=>hne h.symm)] at hfC
     have x4:=fun (bb:Nat)=>Ar (b:=bb) hn (show u < n by omega)
     have s4:∀ {h':Hp},h' q=Ad f→Aw tt.get h' 29 (.pointer (some ⟨q,u,none⟩)) (.int .u32 f[p]!)=([(q,Ad (f.setIfInBounds u f[p]!))],True):=fun hee=>BK hee (by omega)
     obtain ⟨up,hup⟩:∃m:Nat,m=u+1:=⟨_,rfl⟩
     have wup:Ae .i64 ((u:Int)+1)=((up:Nat):Int):=by rw [wrap64 (by omega) (by omega)];omega
     refine CW.vc E7 [0,2,3,4,5,8,13,25,32,44] (by kernel_rfl) ?_
     (repeat ((try refine Vc.mk' ?_);simp (maxSteps:=6000000) only [go_sem,reduceIte,reduceCtorEq,Nat.reduceAdd,Nat.reduceMul,Nat.reduceSub,Nat.reduceLT,Nat.reduceLeDiff,Nat.reduceEqDiff,Int.reduceEq,Int.reduceLT,Int.reduceLE,Int.reduceNe,Ti,l2,c4,decide_true,decide_false,x2,l2',x3,l3,wkm,ce,Bool.not_false,x4,s4,wup,wkp]))
     refine .mk (up,kp,f.setIfInBounds u f[p]!) ⟨by dsimp only;omega,by dsimp only;omega,by dsimp only;omega,by dsimp only;omega,by dsimp only;rw [Array.size_setIfInBounds];exact hfs,fun j h1 h2=> ?_, ?_⟩ (by dsimp only;omega) ((by refine A9.mk' [] hcl (by simp) (by simp) rfl (AZ ?_) ?_ ?_ <;> simp [Ag,BJ,BH,Am,AP,AF,AJ.nil,AJ.cons,AB,AD,AM,AA,AQ,AX,AO,Ax.AL,AG,AV,AE,AH,AK.set,AK.Ao,AK.refl,Ti,Af hqt,AY]))
     ·dsimp only at h1 ⊢
      rw [←hfd j (by omega) h2]
      simp [getElem!_def,Array.getElem?_setIfInBounds,show u≠j by omega]
     ·dsimp only
      rw [hup,Xk (by omega),show i+kp - 1=pm+1 by omega,←hfC,e2,show pm+1=p by omega]
      simp
   ·have c4:((k:Int) < (m:Int))=False:=eq_false (by omega)
    rw [ZI (by omega),List.append_nil] at hfC
    have hCl:C.length=u:=by rw [←hfC,List.length_take,Array.length_toList];omega
    obtain ⟨w,hw⟩:∃w,w=n - u:=⟨_,rfl⟩
    have s5:∀ {h':Hp},h' q=Ad f→Bk tt.get h' 51 (.slice (some ⟨q,0,none⟩) n n) (some (.int .i64 (u:Int))) none=(.slice (some ⟨q,u,none⟩) w w,True):=fun e=>by rw [hw];exact ba e hfs (by omega) hn
    have s6:∀ {h':Hp},h' q=Ad f→Gg tt.get h' [51] (.slice (some ⟨q,u,none⟩) w w)=some [(q,Ad (C ++ List.replicate w 0).toArray)]:=fun e=>by rw [hw,←hfC];exact jT e hfs (by omega)
    have s7:∀ {h':Hp},h' q=Ad (C ++ List.replicate w 0).toArray→Bk tt.get h' 51 (.slice (some ⟨q,0,none⟩) n n) none (some (.int .i64 (u:Int)))=(.slice (some ⟨q,0,none⟩) u n,True):=fun e=>lW e (by simp;omega) (by omega) h0 hn
    rw [hCl,←hw]
    refine CW.vc E7 [0,2,3,4,5,8,13,25,32,44] (by kernel_rfl) ?_
    (repeat ((try refine Vc.mk' ?_);simp (maxSteps:=6000000) only [go_sem,reduceIte,reduceCtorEq,Nat.reduceAdd,Nat.reduceMul,Nat.reduceSub,Nat.reduceLT,Nat.reduceLeDiff,Nat.reduceEqDiff,Int.reduceEq,Int.reduceLT,Int.reduceLE,Int.reduceNe,Ti,l2,c4,decide_false,s5,s6,s7]))
    (refine ⟨[],by simp,by simp,by simp, ?_, ?_, ?_⟩ <;> simp [Ag,BJ,BH,Am,AP,AF,AJ.nil,AJ.cons,AB,AD,AM,AA,AQ,AX,AO,Ax.AL,AG,AV,AE,AH,AK.set,AK.Ao,AK.refl,Af hqt,AY,mh])
  ·have ce:(d[i]! = d[im]!)=False:=eq_false heq
   obtain ⟨ip,hip⟩:∃m:Nat,m=i+1:=⟨_,rfl⟩
   have wip:Ae .i64 ((i:Int)+1)=((ip:Nat):Int):=by rw [wrap64 (by omega) (by omega)];omega
   refine CW.vc E7 [0,2,3,4,5,8,13,25,32,44] (by kernel_rfl) ?_
   (repeat ((try refine Vc.mk' ?_);simp (maxSteps:=6000000) only [go_sem,reduceIte,reduceCtorEq,Nat.reduceAdd,Nat.reduceMul,Nat.reduceSub,Nat.reduceLT,Nat.reduceLeDiff,Nat.reduceEqDiff,Int.reduceEq,Int.reduceLT,Int.reduceLE,Int.reduceNe,XE,l0,c3,decide_true,decide_false,x0,l0',x1,l1,wm,ce,wip]))
   refine .mk ip ⟨by omega,by omega, ?_⟩ (by omega) ((by refine A9.mk' [] hcl (by simp) (by simp) rfl (AZ ?_) ?_ ?_ <;> simp [Ag,BJ,BH,Am,AP,AF,AJ.nil,AJ.cons,AB,AD,AM,AA,AQ,AX,AO,Ax.AL,AG,AV,AE,AH,AK.set,AK.Ao,AK.refl,XE,Af hqt,AY]))
   rw [←hiC,V3 (d:=d) (j:=im) (by omega) (by rw [show im+1=i by omega];exact fun h=>heq h.symm),hip,Qn (by omega),show i+1 - 1=i by omega,show im+1=i by omega]
   simp
 ·have c3:((i:Int) < (n:Int))=False:=eq_false (by omega)
  rw [ZI (by omega),List.append_nil,List.take_of_length_le (by simp;omega)] at hiC
  have hCl:C.length=n:=by rw [←hiC,Array.length_toList,hnd]
  have hCd:(C ++ List.replicate (n - C.length) 0).toArray=d:=by rw [hCl,Nat.sub_self,←hiC];simp
  rw [hCd,hCl]
  refine CW.vc E7 [0,2,3,4,5,8,13,25,32,44] (by kernel_rfl) ?_
  (repeat ((try refine Vc.mk' ?_);simp (maxSteps:=6000000) only [go_sem,reduceIte,reduceCtorEq,Nat.reduceAdd,Nat.reduceMul,Nat.reduceSub,Nat.reduceLT,Nat.reduceLeDiff,Nat.reduceEqDiff,Int.reduceEq,Int.reduceLT,Int.reduceLE,Int.reduceNe,XE,l0,c3,decide_false]))
  (refine ⟨[],by simp,by simp,by simp, ?_, ?_, ?_⟩ <;> simp [Ag,BJ,BH,Am,AP,AF,AJ.nil,AJ.cons,AB,AD,AM,AA,AQ,AX,AO,Ax.AL,AG,AV,AE,AH,AK.set,AK.Ao,AK.refl,Af hqt,AY,mh])
end Go.Proofs.YthpibnpeaidabaaGreatDoor.Dm
