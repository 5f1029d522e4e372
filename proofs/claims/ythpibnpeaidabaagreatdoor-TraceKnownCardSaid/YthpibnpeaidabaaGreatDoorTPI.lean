/- trace.Ids. -/
import Derived.Test.YthpibnpeaidabaaGreatDoorTSF
import Derived.Test.YthpibnpeaidabaaGreatDoorTOF
set_option linter.unusedSimpArgs false
set_option linter.unusedVariables false
namespace Go.Proofs.YthpibnpeaidabaaGreatDoor.Dm
open Go.Dm
open Go.Sort (ltInt)
set_option maxHeartbeats 64000000
set_option maxRecDepth 20000
def Ic (l:List Ac):List Int:=l.map fun e=>e.Id
theorem JQ {l:List Ac}:(Ic l).length=l.length:=by simp [Ic]
theorem YS {l:List Ac}{k:Nat}(h:k < l.length):Ic (l.take (k+1))=Ic (l.take k) ++ [(at' l k).Id]:=by
 unfold Ic;rw [VU h,List.map_append];rfl
def NJ (l:List Ac):List Int:=(Ic l).mergeSort fun x y=>decide (x≤y)
theorem IG {l:List Ac}:(NJ l).length=l.length:=by unfold NJ;rw [List.length_mergeSort,JQ]
def K0 (l:List Ac):List Int:=Bv (NJ l)
def XZ (l:List Ac):Option A5:=Ad (QX (NJ l).toArray)
def cF (top:Nat)(l:List Ac):Value:=if l.length=0 then .slice none 0 0 else .slice (some ⟨top,0,none⟩) (K0 l).length l.length
theorem mg {l:List Ac}:Go.Sort.sort ltInt (Ic l).toArray=(NJ l).toArray:=by
 have h:=Go.Sort.sortInt (Ic l)
 unfold NJ
 rw [←h,Array.toArray_toList]
theorem ig {l:List Ac}:(K0 l).length≤l.length:=by
 have:=Y4 (NJ l)
 rw [IG] at this;exact this
theorem Jr {d:Array Int}:(QX d).size=d.size:=by
 have h:(Bv d.toList).length≤d.size:=Y4 d.toList
 unfold QX
 rw [List.size_toArray,List.length_append,List.length_replicate]
 exact Nat.add_sub_cancel' h
def Hl:BO:= .det (fun args hp _=>match args with | [v]=>K3 AU hp v∧(AU.rd hp v).length≤1759218604390 | _=>False) (fun args hp top=>match args with | [v]=>(cF top (AU.rd hp v), [(top,XZ (AU.rd hp v))],top+1) | _=>(undef, [],top))
theorem qz {n:Nat}(h:n≤1759218604400):DR n I2.bytes=true:=by
 unfold DR
 rw [Bool.and_eq_true,show I2.bytes=4 from rfl]
 exact ⟨Nat.ble_eq_true_of_le (by omega),Nat.ble_eq_true_of_le (by omega)⟩
def sC:FuncId→BO:=Bd (Bd G0 51 R8) 52 R6
theorem Vl:B9 Tryz.prog tt.get sC:=(E7.add qu).add pX
theorem kg:sC 51=R8:=rfl
theorem ji:sC 52=R6:=rfl
def N9 (hp:Hp)(top:Nat)(v:Value)(l:List Ac)(k:Nat):SS:=⟨[(3,A4 top (Ic (l.take k)),true),(6,v,true),(7, .int .i64 (l.length:Int),true),(8, .int .i64 (k:Int),true)],hp.A0 [(top,Au Aj (Ic (l.take k)))],top+1⟩
theorem nz {t:Nat}{l:List Int}(h:0 < l.length):A4 t l= .slice (some ⟨t,0,none⟩) l.length l.length:=by rw [Js,LX h]
theorem cH:XZ [] = none:=by
 unfold XZ
 rw [show NJ [] = [] from by unfold NJ;simp [Ic]];rfl
theorem nh:BG Tryz.prog 19 Hl:=by
 refine .Cy OW ?_
 intro args hp top hpre hcl hsc
 match args,hpre with
 | [v],⟨⟨l,h⟩,hb⟩=>
 have hs:=h.low hcl
 simp only [h.rd] at hb ⊢
 refine Ab.BF BN OW rfl 22 rfl [.tmp 2] rfl (show 1≤22 by decide) ?_
 refine CW.vc Vl [0,2,3,5,6,7,8,9] (by kernel_rfl) ?_
 (repeat ((try refine Vc.mk' ?_);simp (maxSteps:=6000000) only [go_sem,reduceIte,reduceCtorEq,Nat.reduceAdd,Nat.reduceMul,Nat.reduceSub,Nat.reduceLT,Nat.reduceLeDiff,Nat.reduceEqDiff,Int.reduceEq,Int.reduceLT,Int.reduceLE,Int.reduceNe,Ck h,Ci h,DB h,DD h,DA h,CN h,CJ h,CP h,CL h,CI h,CO h,CH h,CM h,CQ h,CF h,CG h,CD h,CK h,h.P,h.oc,h.cl,h.rd,h.ref,Fo hs,En hs,Ef hs,Ec h hs Bm]))
 refine CW.Bx (N9 hp top v l) (fun k=>k≤l.length) (fun k=>l.length - k) 0 (Nat.zero_le _) ?_ ?_
 ·exact (by refine A9.mk' [top] hcl (by simp) (by simp) rfl (AZ ?_) ?_ ?_ <;> simp [Ag,BJ,BH,Am,AP,AF,AJ.nil,AJ.cons,AB,AD,AM,AA,AQ,AX,AO,Ax.AL,AG,AV,AE,AH,AK.set,AK.Ao,AK.refl,N9,Sc.BH (fun j hj=>Af hj) hs,show Ic (l.take 0)= [] from rfl,show Ic [] = [] from rfl,Hf,HI])
 ·intro k hi
  by_cases hlt:k < l.length
  ·have kk:Ae .i64 ((k:Int)+1)=((k+1:Nat):Int):=GO hlt (by omega)
   have hlO:(Ic (l.take k)).length≤l.length:=by rw [JQ,List.length_take];omega
   have hap:∀ {h':Hp} {j q t:Nat},h' j=Au Aj (Ic (l.take k))→h' q=some (.cells true 1 [.int .u32 (at' l k).Id])→A6 tt.get h' t [51,51] (A4 j (Ic (l.take k))) (.slice (some ⟨q,0,none⟩) 1 1)=some (A4 t (Ic (l.take k) ++ [(at' l k).Id]),FK j (Ic (l.take k)) t (Au Aj (Ic (l.take k) ++ [(at' l k).Id])),t+1):=fun {h'} {j} {q} {t} a1 a2=>by
    have e3:cellsOf (h' q)= [.int .u32 (at' l k).Id]:=by rw [a2];rfl
    have:=O0 (hp:=h') (b:=j) (top:=t) (k:=q) a1 (by rw [e3];exact a2) (by rw [e3];rfl) (qz (by omega))
    rw [e3] at this
    exact this
   have es:=YS hlt
   refine CW.vc Vl [0,2,3,5,6,7,8,9] (by kernel_rfl) ?_
   (repeat ((try refine Vc.mk' ?_);simp (maxSteps:=6000000) only [go_sem,reduceIte,reduceCtorEq,Nat.reduceAdd,Nat.reduceMul,Nat.reduceSub,Nat.reduceLT,Nat.reduceLeDiff,Nat.reduceEqDiff,Int.reduceEq,Int.reduceLT,Int.reduceLE,Int.reduceNe,Ck h,Ci h,DB h,DD h,DA h,CN h,CJ h,CP h,CL h,CI h,CO h,CH h,CM h,CQ h,CF h,CG h,CD h,CK h,h.P,h.oc,h.cl,h.rd,h.ref,Fo hs,En hs,Ef hs,Ec h hs Bm,N9,hlt,kk,hap,decide_true]))
   refine .mk (k+1) hlt (by omega) ((by refine A9.mk' [top+3] hcl (by simp) (by simp) rfl (AZ ?_) ?_ ?_ <;> simp [Ag,BJ,BH,Am,AP,AF,AJ.nil,AJ.cons,AB,AD,AM,AA,AQ,AX,AO,Ax.AL,AG,AV,AE,AH,AK.set,AK.Ao,AK.refl,N9,Sc.BH (fun j hj=>Af hj) hs,es]))
  ·have hi2:k=l.length:=by omega
   subst hi2
   by_cases h0:l.length=0
   ·have hl0:l= []:=List.eq_nil_of_length_eq_zero h0
    subst hl0
    have p0:∀ {h':Hp},RS h' (.slice none 0 0)=True:=fun {h'}=>eq_true (.inl rfl)
    refine CW.vc Vl [0,2,3,5,6,7,8,9] (by kernel_rfl) ?_
    (repeat ((try refine Vc.mk' ?_);simp (maxSteps:=6000000) only [go_sem,reduceIte,reduceCtorEq,Nat.reduceAdd,Nat.reduceMul,Nat.reduceSub,Nat.reduceLT,Nat.reduceLeDiff,Nat.reduceEqDiff,Int.reduceEq,Int.reduceLT,Int.reduceLE,Int.reduceNe,Ck h,Ci h,DB h,DD h,DA h,CN h,CJ h,CP h,CL h,CI h,CO h,CH h,CM h,CQ h,CF h,CG h,CD h,CK h,h.P,h.oc,h.cl,h.rd,h.ref,Fo hs,En hs,Ef hs,Ec h hs Bm,N9,List.take_nil,List.length_nil,show Ic [] = [] from rfl,Hf,HI,Nat.lt_irrefl,decide_false,kg,ji,R8,R6,p0,QZ,mh]))
    (refine ⟨[top],by simp,by simp,by simp, ?_, ?_, ?_⟩ <;> simp [Ag,BJ,BH,Am,AP,AF,AJ.nil,AJ.cons,AB,AD,AM,AA,AQ,AX,AO,Ax.AL,AG,AV,AE,AH,AK.set,AK.Ao,AK.refl,cF,cH])
   ·have hil:0 < (Ic l).length:=by rw [JQ];omega
    have hv:A4 top (Ic l)= .slice (some ⟨top,0,none⟩) l.length l.length:=by rw [nz hil,JQ]
    have ho:Au Aj (Ic l)=Ad (Ic l).toArray:=rfl
    have hz1:(Ic l).toArray.size=l.length:=by simp [JQ]
    have hz2:(NJ l).toArray.size=l.length:=by simp [IG]
    have r1:∀ {h':Hp},h' top=Ad (Ic l).toArray→Db h' (.slice (some ⟨top,0,none⟩) l.length l.length) top (Ic l).toArray:=fun e=>Co e hz1 (by omega) (by omega)
    have r2:∀ {h':Hp},h' top=Ad (NJ l).toArray→Db h' (.slice (some ⟨top,0,none⟩) l.length l.length) top (NJ l).toArray:=fun e=>Co e hz2 (by omega) (by omega)
    have p1:∀ {h':Hp},h' top=Ad (Ic l).toArray→RS h' (.slice (some ⟨top,0,none⟩) l.length l.length)=True:=fun e=>eq_true (.inr ⟨_,_,r1 e⟩)
    have p2:∀ {h':Hp},h' top=Ad (NJ l).toArray→RS h' (.slice (some ⟨top,0,none⟩) l.length l.length)=True:=fun e=>eq_true (.inr ⟨_,_,r2 e⟩)
    have D1:∀ {h':Hp},h' top=Ad (Ic l).toArray→Gy h' (.slice (some ⟨top,0,none⟩) l.length l.length)=(Ic l).toArray:=fun e=>(r1 e).D5
    have D2:∀ {h':Hp},h' top=Ad (NJ l).toArray→Gy h' (.slice (some ⟨top,0,none⟩) l.length l.length)=(NJ l).toArray:=fun e=>(r2 e).D5
    refine CW.vc Vl [0,2,3,5,6,7,8,9] (by kernel_rfl) ?_
    (repeat ((try refine Vc.mk' ?_);simp (maxSteps:=6000000) only [go_sem,reduceIte,reduceCtorEq,Nat.reduceAdd,Nat.reduceMul,Nat.reduceSub,Nat.reduceLT,Nat.reduceLeDiff,Nat.reduceEqDiff,Int.reduceEq,Int.reduceLT,Int.reduceLE,Int.reduceNe,Ck h,Ci h,DB h,DD h,DA h,CN h,CJ h,CP h,CL h,CI h,CO h,CH h,CM h,CQ h,CF h,CG h,CD h,CK h,h.P,h.oc,h.cl,h.rd,h.ref,Fo hs,En hs,Ef hs,Ec h hs Bm,N9,List.take_length,Nat.lt_irrefl,decide_false,hv,ho,kg,ji,R8,R6,p1,p2,D1,D2,mg,D8,mh]))
    (refine ⟨[top],by simp,by simp,by simp, ?_, ?_, ?_⟩ <;> simp [Ag,BJ,BH,Am,AP,AF,AJ.nil,AJ.cons,AB,AD,AM,AA,AQ,AX,AO,Ax.AL,AG,AV,AE,AH,AK.set,AK.Ao,AK.refl,cF,XZ,K0,h0,AY])
end Go.Proofs.YthpibnpeaidabaaGreatDoor.Dm
set_option linter.unusedSimpArgs false
set_option linter.unusedVariables false
namespace Go.Proofs.YthpibnpeaidabaaGreatDoor.Dm
open Go.Dm
set_option maxHeartbeats 16000000
set_option maxRecDepth 20000
theorem OS:∀(l:List Int) (x:Int),x∈Bv l ↔ x∈l
 | [],_=>Iff.rfl
 | [_],_=>Iff.rfl
 |y :: z :: l,x=>by
  rw [Bv]
  split
  ·rename_i h
   rw [OS (z :: l) x,h]
   simp
  ·rw [List.mem_cons,OS (z :: l) x,List.mem_cons (a:=x) (b:=y)]
theorem T7:∀(l:List Int),l.Pairwise (· ≤ ·)→(Bv l).Pairwise (· < ·)
 | [],_=>List.Pairwise.nil
 | [x],_=>by simp [Bv]
 |x :: y :: l,h=>by
  obtain ⟨h1,h2⟩:=List.pairwise_cons.1 h
  rw [Bv]
  split
  ·exact T7 (y :: l) h2
  ·rename_i hne
   refine List.pairwise_cons.2 ⟨fun z hz=> ?_,T7 (y :: l) h2⟩
   have hz':=(OS (y :: l) z).1 hz
   have h3:=h1 y (by simp)
   rcases List.mem_cons.1 hz' with rfl | hz2
   ·omega
   ·have:=(List.pairwise_cons.1 h2).1 z hz2
    omega
theorem iQ {l:List Ac}:(NJ l).Pairwise (· ≤ ·):=by
 unfold NJ
 have:=List.pairwise_mergeSort (le:=fun x y:Int=>decide (x≤y)) (fun a b c h1 h2=>by simp only [decide_eq_true_eq] at *;omega) (fun a b=>by simp only [Bool.or_eq_true,decide_eq_true_eq];omega) (Ic l)
 exact this.imp fun h=>by simpa using h
theorem aV {l:List Ac}:(K0 l).Pairwise (· < ·):=T7 _ iQ
theorem Yq {l:List Ac}{x:Int}:x∈K0 l ↔ ∃e∈l,e.Id=x:=by
 unfold K0 NJ
 rw [OS,List.mem_mergeSort]
 simp [Ic]
theorem fU {α:Type}[Inhabited α]{l:List α}{k:Nat}(h:k < l.length):at' l k∈l:=by rw [Dt _ _ h];exact List.getElem_mem h
theorem Uj {l:List Ac}{i:Nat}(h:i < (K0 l).length):(QX (NJ l).toArray)[i]! = at' (K0 l) i:=by
 have hle:=ig (l:=l)
 have e:QX (NJ l).toArray=(K0 l ++ List.replicate ((NJ l).toArray.size - (K0 l).length) 0).toArray:=rfl
 rw [e,Dt _ _ h]
 rw [getElem!_pos _ i (by simp;omega)]
 simp [h]
end Go.Proofs.YthpibnpeaidabaaGreatDoor.Dm
set_option linter.unusedSimpArgs false
set_option linter.unusedVariables false
namespace Go.Proofs.YthpibnpeaidabaaGreatDoor.Dm
open Go.Dm
set_option maxHeartbeats 16000000
set_option maxRecDepth 20000
def Qv (x:Int):List Int→List Int
 | []=> [x]
 |y :: l=>if y < x then y :: Qv x l else if y=x then y :: l else x :: y :: l
def N4:List Ac→List Int→List Int
 | [],o=>o
 |e :: l,o=>N4 l (Qv e.Id o)
def ju (l:List Ac):List Int:=N4 l []
theorem MF:∀(l:List Int) (x z:Int),z∈Qv x l ↔ z=x∨z∈l
 | [],x,z=>by simp [Qv]
 |y :: l,x,z=>by
  rw [Qv]
  split
  ·rw [List.mem_cons,MF l x z,List.mem_cons]
   constructor
   ·rintro (h | h | h) <;> simp [h]
   ·rintro (h | h | h) <;> simp [h]
  ·split
   ·rename_i h;rw [List.mem_cons,h]
    constructor
    ·rintro (h | h) <;> simp [h]
    ·rintro (h | h | h) <;> simp [h]
   ·rw [List.mem_cons]
theorem RZ:∀(l:List Int) (x:Int),l.Pairwise (· < ·)→(Qv x l).Pairwise (· < ·)
 | [],x,_=>by simp [Qv]
 |y :: l,x,h=>by
  obtain ⟨h1,h2⟩:=List.pairwise_cons.1 h
  rw [Qv]
  split
  ·rename_i hlt
   refine List.pairwise_cons.2 ⟨fun z hz=> ?_,RZ l x h2⟩
   rcases (MF l x z).1 hz with rfl | hz
   ·exact hlt
   ·exact h1 z hz
  ·split
   ·exact h
   ·rename_i h3 h4
    refine List.pairwise_cons.2 ⟨fun z hz=> ?_,h⟩
    rcases List.mem_cons.1 hz with rfl | hz
    ·omega
    ·have:=h1 z hz;omega
theorem VI:∀ {l m:List Int},l.Pairwise (· < ·)→m.Pairwise (· < ·)→(∀x,x∈l ↔ x∈m)→l=m
 | [], [],_,_,_=>rfl
 | [],y :: m,_,_,h=>absurd ((h y).2 (by simp)) (by simp)
 |x :: l, [],_,_,h=>absurd ((h x).1 (by simp)) (by simp)
 |x :: l,y :: m,hl,hm,h=>by
  obtain ⟨l1,l2⟩:=List.pairwise_cons.1 hl
  obtain ⟨m1,m2⟩:=List.pairwise_cons.1 hm
  have hxy:x=y:=by
   rcases List.mem_cons.1 ((h x).1 (by simp)) with h1 | h1
   ·exact h1
   ·rcases List.mem_cons.1 ((h y).2 (by simp)) with h2 | h2
    ·exact h2.symm
    ·have:=m1 x h1;have:=l1 y h2;omega
  subst hxy
  refine congrArg (x :: ·) (VI l2 m2 fun z=>⟨fun hz=> ?_,fun hz=> ?_⟩)
  ·rcases List.mem_cons.1 ((h z).1 (by simp [hz])) with h1 | h1
   ·have:=l1 z hz;omega
   ·exact h1
  ·rcases List.mem_cons.1 ((h z).2 (by simp [hz])) with h1 | h1
   ·have:=m1 z hz;omega
   ·exact h1
theorem Na:∀(l:List Ac) (o:List Int),o.Pairwise (· < ·)→(N4 l o).Pairwise (· < ·)
 | [],_,h=>h
 |e :: l,o,h=>Na l _ (RZ o e.Id h)
theorem N6:∀(l:List Ac) (o:List Int) (z:Int),z∈N4 l o ↔ z∈o∨∃e∈l,e.Id=z
 | [],o,z=>by simp [N4]
 |e :: l,o,z=>by
  rw [N4,N6 l _ z,MF]
  constructor
  ·rintro ((h | h) | ⟨x,h1,h2⟩)
   ·exact .inr ⟨e,by simp,h.symm⟩
   ·exact .inl h
   ·exact .inr ⟨x,by simp [h1],h2⟩
  ·rintro (h | ⟨x,h1,h2⟩)
   ·exact .inl (.inr h)
   ·rcases List.mem_cons.1 h1 with rfl | h1
    ·exact .inl (.inl h2.symm)
    ·exact .inr ⟨x,h1,h2⟩
theorem gX {l:List Ac}:ju l=K0 l:=VI (Na l [] List.Pairwise.nil) aV (fun x=>by
 rw [Yq,ju,N6];simp)
end Go.Proofs.YthpibnpeaidabaaGreatDoor.Dm
