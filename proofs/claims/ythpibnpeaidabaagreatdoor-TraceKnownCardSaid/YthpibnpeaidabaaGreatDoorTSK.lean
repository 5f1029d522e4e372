/- slices.Sort of []uint32: heapSort, reverseRange. -/
import Derived.Test.YthpibnpeaidabaaGreatDoorTSH
set_option linter.unusedSimpArgs false
set_option linter.unusedVariables false
namespace Go.Proofs.YthpibnpeaidabaaGreatDoor.Dm
open Go.Dm
open Go.Sort (ltInt swp)
set_option maxHeartbeats 16000000
set_option maxRecDepth 20000
theorem LO {hi first root:Nat}{d:Array Int}:(Go.Sort.siftDown ltInt hi first root d).size=d.size:=Fz _ _ _ (Nat.le_refl _)
theorem Uw {hi first:Nat}:∀(k:Nat) (d:Array Int),(Go.Sort.heapBuild ltInt hi first k d).size=d.size
 |0,_=>rfl
 |k+1,d=>by rw [Go.Sort.heapBuild,Uw k,LO]
theorem Uv {first:Nat}:∀(k:Nat) (d:Array Int),(Go.Sort.heapPop ltInt first k d).size=d.size
 |0,_=>rfl
 |k+1,d=>by rw [Go.Sort.heapPop,Uv k,LO,swp_size]
theorem NQ {d:Array Int}{a b:Nat}:(Go.Sort.heapSort ltInt d a b).size=d.size:=by rw [Go.Sort.heapSort,Uv,Uw]
def s8:FuncId→BO:=Bd (Bd oQ 132 Rp) 107 OA
theorem R2:B9 Tryz.prog tt.get s8:=(A3.add oy).add kD
theorem jc:s8 132=Rp:=rfl
def NX (hp:Hp)(v:Value)(a b:Int):Prop:= ∃q d,Db hp v q d∧0≤a∧a < b∧b≤(d.size:Int)
def Gz (f:Array Int→Nat→Nat→Array Int):BO:= .det (fun args hp _=>match args with | [v, .int .i64 a, .int .i64 b]=>NX hp v a b | _=>False)
 (fun args hp top=>match args with | [v,a,b]=>(.tuple ⟨[]⟩,QZ v (f (Gy hp v) (intOf a).toNat (intOf b).toNat),top) | _=>(undef, [],top))
def YZ (hp:Hp)(top:Nat)(q n a h:Nat)(x:Nat×Array Int):SS:=⟨[(0, .slice (some ⟨q,0,none⟩) n n,true),(6, .int .i64 (a:Int),true),(7, .int .i64 0,true),(8, .int .i64 (h:Int),true),(9, .int .i64 ((x.1:Int) - 1),true)],hp.A0 [(q,Ad x.2)],top+0⟩
def bw (hp:Hp)(top:Nat)(q n a:Nat)(x:Nat×Array Int):SS:=⟨[(0, .slice (some ⟨q,0,none⟩) n n,true),(6, .int .i64 (a:Int),true),(7, .int .i64 0,true),(10, .int .i64 ((x.1:Int) - 1),true)],hp.A0 [(q,Ad x.2)],top+0⟩
theorem jb:BG Tryz.prog 108 (Gz (Go.Sort.heapSort ltInt)):=by
 refine .Cy Mn ?_
 intro args hp top hpre hcl hsc
 match args,hpre with
 | [v, .int .i64 a, .int .i64 b],hpre=>
 obtain ⟨q,d,hrow,h1,h2,h3⟩:=hpre
 obtain ⟨a,rfl⟩:=Int.eq_ofNat_of_zero_le h1
 obtain ⟨b,rfl⟩:=Int.eq_ofNat_of_zero_le (show 0≤b by omega)
 have hn:d.size≤35184372088832:=hrow.le
 have hqt:=hrow.Xw hcl
 have h0:0 < d.size:=hrow.pos
 simp only [hrow.D5,hrow.MZ,intOf_int,Int.toNat_natCast]
 obtain ⟨rfl,ho,_,_⟩:=hrow
 have hab:a < b:=by omega
 have hbn:b≤d.size:=by omega
 obtain ⟨h,hh⟩:∃m:Nat,m=b - a:=⟨_,rfl⟩
 obtain ⟨K,hK⟩:∃m:Nat,m=(b - a - 1) / 2+1:=⟨_,rfl⟩
 have w1:Ae .i64 ((b:Int) - (a:Int))=((h:Nat):Int):=by rw [wrap64 (by omega) (by omega)];omega
 have w2:Ae .i64 ((h:Int) - 1)=((h - 1:Nat):Int):=by rw [wrap64 (by omega) (by omega)];omega
 have w3:IntKind.i64.wrap (((h - 1:Nat):Int) / 2)=(K:Int) - 1:=by rw [←Cg,wrap64 (by omega) (by omega)];omega
 have e0:Go.Sort.heapSort ltInt d a b=Go.Sort.heapPop ltInt a h (Go.Sort.heapBuild ltInt h a K d):=by rw [Go.Sort.heapSort,hK,hh]
 rw [e0]
 refine Ab.BF BN Mn rfl 56 rfl [] rfl (show 3≤56 by decide) ?_
 refine CW.vc R2 [0,1,2,6,7,8,9,10,19,30] (by kernel_rfl) ?_
 (repeat ((try refine Vc.mk' ?_);simp (maxSteps:=6000000) only [go_sem,reduceIte,reduceCtorEq,Nat.reduceAdd,Nat.reduceMul,Nat.reduceSub,Nat.reduceLT,Nat.reduceLeDiff,Nat.reduceEqDiff,Int.reduceEq,Int.reduceLT,Int.reduceLE,Int.reduceNe,w1,w2,w3]))
 refine CW.Bx (YZ hp top q d.size a h) (fun x=>x.1≤K∧x.2.size=d.size∧Go.Sort.heapBuild ltInt h a x.1 x.2=Go.Sort.heapBuild ltInt h a K d) (fun x=>x.1) (K,d) ⟨Nat.le_refl _,rfl,rfl⟩ ?_ ?_
 ·exact (by refine A9.mk' [] hcl (by simp) (by simp) rfl (AZ ?_) ?_ ?_ <;> simp [Ag,BJ,BH,Am,AP,AF,AJ.nil,AJ.cons,AB,AD,AM,AA,AQ,AX,AO,Ax.AL,AG,AV,AE,AH,AK.set,AK.Ao,AK.refl,YZ,Af hqt,AY,ho,w3])
 ·rintro ⟨k,f⟩ ⟨hk,hfs,hfe⟩
  dsimp only at hk hfs hfe ⊢
  cases k with
  |succ k=>
   have ek:(((k+1:Nat):Int) - 1)=(k:Int):=by omega
   have c1:((k:Int) < 0)=False:=eq_false (by omega)
   have w4:Ae .i64 ((k:Int) - 1)=(k:Int) - 1:=wrap64 (by omega) (by omega)
   have hP:∀ {h':Hp},h' q=Ad f→Zt h' (.slice (some ⟨q,0,none⟩) d.size d.size) (k:Int) (h:Int) (a:Int)=True:=fun e=>eq_true ⟨q,f,Co e hfs h0 hn,by omega,by omega,by omega,by omega,by omega⟩
   have hD:∀ {h':Hp},h' q=Ad f→Gy h' (.slice (some ⟨q,0,none⟩) d.size d.size)=f:=fun e=>(Co e hfs h0 hn).D5
   refine CW.vc R2 [0,1,2,6,7,8,9,10,19,30] (by kernel_rfl) ?_
   (repeat ((try refine Vc.mk' ?_);simp (maxSteps:=6000000) only [go_sem,reduceIte,reduceCtorEq,Nat.reduceAdd,Nat.reduceMul,Nat.reduceSub,Nat.reduceLT,Nat.reduceLeDiff,Nat.reduceEqDiff,Int.reduceEq,Int.reduceLT,Int.reduceLE,Int.reduceNe,YZ,ek,c1,decide_false,Bool.not_false,jc,Rp,hP,hD,D8,w4,Int.toNat_natCast]))
   refine .mk (k,Go.Sort.siftDown ltInt h a k f) ⟨by dsimp only;omega,by dsimp only;rw [LO];exact hfs,by dsimp only;rw [←hfe,Go.Sort.heapBuild]⟩ (by dsimp only;omega) ((by refine A9.mk' [] hcl (by simp) (by simp) rfl (AZ ?_) ?_ ?_ <;> simp [Ag,BJ,BH,Am,AP,AF,AJ.nil,AJ.cons,AB,AD,AM,AA,AQ,AX,AO,Ax.AL,AG,AV,AE,AH,AK.set,AK.Ao,AK.refl,YZ,Af hqt,AY]))
  |zero=>
   have ek:(((0:Nat):Int) - 1)= -1:=by decide
   have c1:((-1:Int) < 0)=True:=eq_true (by decide)
   have hf:f=Go.Sort.heapBuild ltInt h a K d:=hfe
   rw [←hf]
   clear hfe
   have w5:Ae .i64 ((h:Int) - 1)=(h:Int) - 1:=wrap64 (by omega) (by omega)
   clear w2
   refine CW.vc R2 [0,1,2,6,7,8,9,10,19,30] (by kernel_rfl) ?_
   (repeat ((try refine Vc.mk' ?_);simp (maxSteps:=6000000) only [go_sem,reduceIte,reduceCtorEq,Nat.reduceAdd,Nat.reduceMul,Nat.reduceSub,Nat.reduceLT,Nat.reduceLeDiff,Nat.reduceEqDiff,Int.reduceEq,Int.reduceLT,Int.reduceLE,Int.reduceNe,YZ,ek,c1,decide_true,Bool.not_true,w5]))
   refine CW.Bx (bw hp top q d.size a) (fun x=>x.1≤h∧x.2.size=d.size∧Go.Sort.heapPop ltInt a x.1 x.2=Go.Sort.heapPop ltInt a h f) (fun x=>x.1) (h,f) ⟨Nat.le_refl _,hfs,rfl⟩ ?_ ?_
   ·exact (by refine A9.mk' [] hcl (by simp) (by simp) rfl (AZ ?_) ?_ ?_ <;> simp [Ag,BJ,BH,Am,AP,AF,AJ.nil,AJ.cons,AB,AD,AM,AA,AQ,AX,AO,Ax.AL,AG,AV,AE,AH,AK.set,AK.Ao,AK.refl,bw,Af hqt,AY])
   ·rintro ⟨k,g⟩ ⟨hk,hgs,hge⟩
    dsimp only at hk hgs hge ⊢
    cases k with
    |succ k=>
     have ek:(((k+1:Nat):Int) - 1)=(k:Int):=by omega
     have c1:((k:Int) < 0)=False:=eq_false (by omega)
     have w4:Ae .i64 ((k:Int) - 1)=(k:Int) - 1:=wrap64 (by omega) (by omega)
     obtain ⟨p,hp⟩:∃m:Nat,m=a+k:=⟨_,rfl⟩
     have w6:Ae .i64 ((a:Int)+(k:Int))=((p:Nat):Int):=by rw [wrap64 (by omega) (by omega)];omega
     have x0:=fun (bb:Nat)=>Ar (b:=bb) hn (show a < d.size by omega)
     have l0:∀ {h':Hp},h' q=Ad g→An tt.get h' 29 (.pointer (some ⟨q,a,none⟩))=(.int .u32 g[a]!,True):=fun hee=>Ap hee (by omega) (by omega)
     have x1:=fun (bb:Nat)=>Ar (b:=bb) hn (show p < d.size by omega)
     have l1:∀ {h':Hp},h' q=Ad g→An tt.get h' 29 (.pointer (some ⟨q,p,none⟩))=(.int .u32 g[p]!,True):=fun hee=>Ap hee (by omega) (by omega)
     have s1a:∀ {h':Hp},h' q=Ad g→Aw tt.get h' 29 (.pointer (some ⟨q,a,none⟩)) (.int .u32 g[p]!)=([(q,Ad (g.setIfInBounds a g[p]!))],True):=fun hee=>BK hee (by omega)
     have s1b:∀ {h':Hp},h' q=Ad (g.setIfInBounds a g[p]!)→Aw tt.get h' 29 (.pointer (some ⟨q,p,none⟩)) (.int .u32 g[a]!)=([(q,Ad (swp g a p))],True):=fun hee=>BK hee (by rw [Array.size_setIfInBounds];omega)
     have hss:(swp g a p).size=d.size:=by rw [swp_size];exact hgs
     have hP:∀ {h':Hp},h' q=Ad (swp g a p)→Zt h' (.slice (some ⟨q,0,none⟩) d.size d.size) 0 (k:Int) (a:Int)=True:=fun e=>eq_true ⟨q,_,Co e hss h0 hn,by omega,by omega,by omega,by omega,by omega⟩
     have hD:∀ {h':Hp},h' q=Ad (swp g a p)→Gy h' (.slice (some ⟨q,0,none⟩) d.size d.size)=swp g a p:=fun e=>(Co e hss h0 hn).D5
     refine CW.vc R2 [0,1,2,6,7,8,9,10,19,30] (by kernel_rfl) ?_
     (repeat ((try refine Vc.mk' ?_);simp (maxSteps:=6000000) only [go_sem,reduceIte,reduceCtorEq,Nat.reduceAdd,Nat.reduceMul,Nat.reduceSub,Nat.reduceLT,Nat.reduceLeDiff,Nat.reduceEqDiff,Int.reduceEq,Int.reduceLT,Int.reduceLE,Int.reduceNe,bw,ek,c1,decide_false,Bool.not_false,w6,x0,l0,x1,l1,s1a,s1b,jc,Rp,hP,hD,D8,w4,Int.toNat_natCast,Int.toNat_zero]))
     refine .mk (k,Go.Sort.siftDown ltInt k a 0 (swp g a p)) ⟨by dsimp only;omega,by dsimp only;rw [LO];exact hss,by dsimp only;rw [←hge,Go.Sort.heapPop,←hp]⟩ (by dsimp only;omega) ((by refine A9.mk' [] hcl (by simp) (by simp) rfl (AZ ?_) ?_ ?_ <;> simp [Ag,BJ,BH,Am,AP,AF,AJ.nil,AJ.cons,AB,AD,AM,AA,AQ,AX,AO,Ax.AL,AG,AV,AE,AH,AK.set,AK.Ao,AK.refl,bw,Af hqt,AY]))
    |zero=>
     have hg:g=Go.Sort.heapPop ltInt a h f:=hge
     rw [←hg]
     refine CW.vc R2 [0,1,2,6,7,8,9,10,19,30] (by kernel_rfl) ?_
     (repeat ((try refine Vc.mk' ?_);simp (maxSteps:=6000000) only [go_sem,reduceIte,reduceCtorEq,Nat.reduceAdd,Nat.reduceMul,Nat.reduceSub,Nat.reduceLT,Nat.reduceLeDiff,Nat.reduceEqDiff,Int.reduceEq,Int.reduceLT,Int.reduceLE,Int.reduceNe,bw,ek,c1,decide_true,Bool.not_true]))
     (refine ⟨[],by simp,by simp,by simp, ?_, ?_, ?_⟩ <;> simp [Ag,BJ,BH,Am,AP,AF,AJ.nil,AJ.cons,AB,AD,AM,AA,AQ,AX,AO,Ax.AL,AG,AV,AE,AH,AK.set,AK.Ao,AK.refl,Af hqt,AY])
end Go.Proofs.YthpibnpeaidabaaGreatDoor.Dm
