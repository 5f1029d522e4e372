/- slices.Sort of []uint32: rows as arrays; less; insertionSort. -/
import Derived.Test.YthpibnpeaidabaaGreatDoorTSM
import Derived.Sort.AssemblyPlain
set_option linter.unusedSimpArgs false
set_option linter.unusedVariables false
namespace Go.Proofs.YthpibnpeaidabaaGreatDoor.Dm
open Go.Dm
set_option maxHeartbeats 16000000
set_option maxRecDepth 20000
def sN (b n:Nat):Value:=if n=0 then .slice none 0 0 else .slice (some ⟨b,0,none⟩) n n
def Ad (d:Array Int):Option A5:=Au Aj d.toList
theorem Js {b:Nat}{l:List Int}:A4 b l=sN b l.length:=by cases l <;> rfl
theorem LX {b n:Nat}(h:0 < n):sN b n= .slice (some ⟨b,0,none⟩) n n:=by unfold sN;rw [if_neg (by omega)]
structure Db (hp:Hp) (v:Value) (b:Nat) (d:Array Int):Prop where
 v:v= .slice (some ⟨b,0,none⟩) d.size d.size
 o:hp b=Ad d
 pos:0 < d.size
 le:d.size≤35184372088832
theorem Db.slt {hp:Hp}{v:Value}{b:Nat}{d:Array Int}(h:Db hp v b d):Br Aj hp v d.toList:=by
 have:=Br.Tu (E:=Aj) (hp:=hp) (b:=b) (l:=d.toList) h.o (by rw [Array.length_toList];exact Nat.le_trans h.le (by decide))
 rw [Js,Array.length_toList,LX h.pos,←h.v] at this
 exact this
def Gy (hp:Hp)(v:Value):Array Int:=(Aj.rd hp v).toArray
theorem Db.D5 {hp:Hp}{v:Value}{b:Nat}{d:Array Int}(h:Db hp v b d):Gy hp v=d:=by unfold Gy;rw [h.slt.rd]
theorem Db.Xw {hp:Hp}{v:Value}{b top:Nat}{d:Array Int}(h:Db hp v b d)(hcl:Cl hp top):b < top:=by
 obtain ⟨o,ho⟩:∃o,Ad d=some o:=by
  unfold Ad
  cases e:d.toList with
  |nil=>
   have:=congrArg List.length e
   have:=h.pos
   simp_all
  |cons x l=>exact ⟨_,rfl⟩
 exact hcl.lt b o (h.o.trans ho)
def QZ (v:Value)(d:Array Int):BZ:=match v with | .slice (some ⟨b,_,_⟩) _ _=> [(b,Ad d)] | _=> []
theorem Db.MZ {hp:Hp}{v:Value}{b:Nat}{d d':Array Int}(h:Db hp v b d):QZ v d' = [(b,Ad d')]:=by rw [h.v];rfl
theorem D8 {b n:Nat}{d:Array Int}:QZ (.slice (some ⟨b,0,none⟩) n n) d= [(b,Ad d)]:=rfl
theorem Co {hp:Hp}{b n:Nat}{d:Array Int}(e:hp b=Ad d)(hs:d.size=n)(h0:0 < n)(hn:n≤35184372088832):Db hp (.slice (some ⟨b,0,none⟩) n n) b d:=⟨by rw [hs],e,by omega,by omega⟩
theorem mT {d:Array Int}{i:Nat}(h:i < d.size):at' d.toList i=d[i]! :=by
 rw [Dt _ _ (by simpa using h)]
 simp [getElem!_pos d i h]
theorem Ar {b n i:Nat}(hn:n≤35184372088832)(h:i < n):A1 tt.get 51 (.slice (some ⟨b,0,none⟩) n n) (.int .i64 (i:Int))=(.pointer (some ⟨b,i,none⟩),True):=by
 have h0:0 < n:=by omega
 have:=Kq (Br.Tu (E:=Aj) (hp:=fun _=>Au Aj (List.replicate n 0)) (b:=b) (l:=List.replicate n 0) rfl (by simpa using Nat.le_trans hn (by decide))) (k:= .i64) (n:=(i:Int)) (by omega) (by simp;omega)
 rw [Js,List.length_replicate,LX h0] at this
 simpa [BX] using this
theorem Ap {h':Hp}{b i:Nat}{d:Array Int}(e:h' b=Ad d)(hn:d.size≤35184372088832)(h:i < d.size):An tt.get h' 29 (.pointer (some ⟨b,i,none⟩))=(.int .u32 d[i]!,True):=by
 have h0:0 < d.size:=by omega
 have:=Sy (Br.Tu (E:=Aj) (hp:=h') (b:=b) (l:=d.toList) e (by simpa using Nat.le_trans hn (by decide))) (i:=i) (by simpa using h)
 rw [Js,Array.length_toList,LX h0,mT h] at this
 simpa [BX] using this
theorem BK {h':Hp}{b i:Nat}{d:Array Int}{x:Int}(e:h' b=Ad d)(h:i < d.size):Aw tt.get h' 29 (.pointer (some ⟨b,i,none⟩)) (.int .u32 x)=([(b,Ad (d.setIfInBounds i x))],True):=by
 have h0:0 < d.size:=by omega
 have:=Tp (hp:=h') (b:=b) (l:=d.toList) (i:=i) e (by simpa using h) (x:=x)
 rw [Js,Array.length_toList,LX h0] at this
 unfold Ad
 rw [Array.toList_setIfInBounds]
 simpa [BX] using this
theorem af {d:Array Int}{i j:Nat}:(d.setIfInBounds i d[j]!).setIfInBounds j d[i]! = Go.Sort.swp d i j:=rfl
theorem AY {ρ:Nat→Nat}{d:Array Int}:Ku ρ (Ad d)=Ad d:=AA
def Ba (f:Int→Int→Bool):BO:= .pure (fun args _=>match args with | [.int .u32 _, .int .u32 _]=>True | _=>False) (fun args _=>match args with | [.int _ x, .int _ y]=> .bool (f x y) | _=>undef)
def P4:BO:= .pure (fun args _=>match args with | [.int .u32 _]=>True | _=>False) (fun _ _=> .bool false)
theorem lC:BG Tryz.prog 137 P4:=by
 refine .HS Ls ?_ ?_
 ·rintro args hp h
  match args,h with
  | [.int .u32 _],_=>rfl
 intro args hp hpre top hcl hsc
 match args,hpre with
 | [.int .u32 x],_=>
 refine Ab.BF BN Ls rfl 6 rfl [.tmp 2] rfl (show 1≤6 by decide) ?_
 refine CW.vc E7 [0,2] (by kernel_rfl) ?_
 (repeat ((try refine Vc.mk' ?_);simp (maxSteps:=6000000) only [go_sem,reduceIte,reduceCtorEq,Nat.reduceAdd,Nat.reduceMul,Nat.reduceSub,Nat.reduceLT,Nat.reduceLeDiff,Nat.reduceEqDiff,Int.reduceEq,Int.reduceLT,Int.reduceLE,Int.reduceNe,decide_true,Bool.not_true]))
def sw:FuncId→BO:=Bd G0 137 P4
theorem pD:B9 Tryz.prog tt.get sw:=E7.add lC
theorem rC:sw 137=P4:=rfl
theorem dS:BG Tryz.prog 113 (Ba Go.Sort.ltInt):=by
 refine .HS ND ?_ ?_
 ·rintro args hp h
  match args,h with
  | [.int .u32 _, .int .u32 _],_=>rfl
 intro args hp hpre top hcl hsc
 match args,hpre with
 | [.int .u32 x, .int .u32 y],_=>
 refine Ab.BF BN ND rfl 17 rfl [.tmp 4] rfl (show 2≤17 by decide) ?_
 refine CW.vc pD [0,1,4] (by kernel_rfl) ?_
 (repeat ((try refine Vc.mk' ?_);simp (maxSteps:=6000000) only [go_sem,reduceIte,reduceCtorEq,Nat.reduceAdd,Nat.reduceMul,Nat.reduceSub,Nat.reduceLT,Nat.reduceLeDiff,Nat.reduceEqDiff,Int.reduceEq,Int.reduceLT,Int.reduceLE,Int.reduceNe,rC,P4]))
 rfl
def oQ:FuncId→BO:=Bd G0 113 (Ba Go.Sort.ltInt)
theorem A3:B9 Tryz.prog tt.get oQ:=E7.add dS
theorem Bq:oQ 113=Ba Go.Sort.ltInt:=rfl
end Go.Proofs.YthpibnpeaidabaaGreatDoor.Dm
set_option linter.unusedSimpArgs false
set_option linter.unusedVariables false
namespace Go.Proofs.YthpibnpeaidabaaGreatDoor.Dm
open Go.Dm
open Go.Sort (ltInt swp)
set_option maxHeartbeats 16000000
set_option maxRecDepth 20000
theorem swp_size {d:Array Int}{i j:Nat}:(swp d i j).size=d.size:=by simp [swp]
theorem Ij {a:Nat}:∀(j:Nat) (d:Array Int),(Go.Sort.insInner ltInt a j d).size=d.size
 |0,d=>rfl
 |j+1,d=>by
  rw [Go.Sort.insInner]
  split
  ·rw [Ij j,swp_size]
  ·rfl
theorem Il {a b:Nat}:∀(k i:Nat) (d:Array Int),b - i≤k→(Go.Sort.insOuter ltInt a b i d).size=d.size
 |0,i,d,h=>by rw [Go.Sort.insOuter,if_neg (by omega)]
 |k+1,i,d,h=>by
  rw [Go.Sort.insOuter]
  split
  ·rw [Il k _ _ (by omega),Ij]
  ·rfl
theorem FT {d:Array Int}{a b:Nat}:(Go.Sort.insertionSort ltInt d a b).size=d.size:=Il _ _ _ (Nat.le_refl _)
theorem YD {a j:Nat}{e:Array Int}(h:¬(a < j∧ltInt e[j]! e[j - 1]! = true)):Go.Sort.insInner ltInt a j e=e:=by
 cases j with
 |zero=>rfl
 |succ j=>
  rw [Go.Sort.insInner,if_neg]
  simpa using h
theorem Yx {a j:Nat}{e:Array Int}(h:a < j+1)(hl:ltInt e[j+1]! e[j]! = true):Go.Sort.insInner ltInt a (j+1) e=Go.Sort.insInner ltInt a j (swp e (j+1) j):=by
 rw [Go.Sort.insInner,if_pos]
 simp [hl];omega
def cu (hp:Hp)(v:Value)(a b:Int):Prop:=(v= .slice none 0 0∧a=0∧b=0)∨(∃q d,Db hp v q d∧0≤a∧a≤b∧b≤(d.size:Int))
def OA:BO:= .det (fun args hp _=>match args with | [v, .int .i64 a, .int .i64 b]=>cu hp v a b | _=>False)
 (fun args hp top=>match args with | [v,a,b]=>(.tuple ⟨[]⟩,QZ v (Go.Sort.insertionSort ltInt (Gy hp v) (intOf a).toNat (intOf b).toNat),top) | _=>(undef, [],top))
def RE (hp:Hp)(top:Nat)(q n a b i:Nat)(d:Array Int):SS:=⟨[(0, .slice (some ⟨q,0,none⟩) n n,true),(1, .int .i64 (a:Int),true),(2, .int .i64 (b:Int),true),(6, .int .i64 (i:Int),true)],hp.A0 [(q,Ad d)],top+0⟩
def Xq (hp:Hp)(top:Nat)(q n a b i:Nat)(x:Nat×Array Int):SS:=⟨[(0, .slice (some ⟨q,0,none⟩) n n,true),(1, .int .i64 (a:Int),true),(2, .int .i64 (b:Int),true),(6, .int .i64 (i:Int),true),(7, .int .i64 (x.1:Int),true)],hp.A0 [(q,Ad x.2)],top+0⟩
def lF (hp:Hp)(top:Nat):SS:=⟨[(0, .slice none 0 0,true),(1, .int .i64 0,true),(2, .int .i64 0,true),(6, .int .i64 1,true)],hp.A0 [],top+0⟩
theorem kD:BG Tryz.prog 107 OA:=by
 refine .Cy JO ?_
 intro args hp top hpre hcl hsc
 match args,hpre with
 | [v, .int .i64 a, .int .i64 b],hpre=>
 rcases hpre with ⟨rfl,rfl,rfl⟩ | ⟨q,d,hrow,ha,hab,hb⟩
 ·refine Ab.BF BN JO rfl 49 rfl [] rfl (show 3≤49 by decide) ?_
  refine CW.vc A3 [0,1,2,6,7,12,30] (by kernel_rfl) ?_
  (repeat ((try refine Vc.mk' ?_);simp (maxSteps:=6000000) only [go_sem,reduceIte,reduceCtorEq,Nat.reduceAdd,Nat.reduceMul,Nat.reduceSub,Nat.reduceLT,Nat.reduceLeDiff,Nat.reduceEqDiff,Int.reduceEq,Int.reduceLT,Int.reduceLE,Int.reduceNe]))
  refine CW.Bx (fun _:Unit=>lF hp top) (fun _=>True) (fun _=>0) () trivial ((by refine A9.mk' [] hcl (by simp) (by simp) rfl (AZ ?_) ?_ ?_ <;> simp [Ag,BJ,BH,Am,AP,AF,AJ.nil,AJ.cons,AB,AD,AM,AA,AQ,AX,AO,Ax.AL,AG,AV,AE,AH,AK.set,AK.Ao,AK.refl,lF,show Ae .i64 1=1 from by decide])) ?_
  rintro ⟨⟩ _
  refine CW.vc A3 [0,1,2,6,7,12,30] (by kernel_rfl) ?_
  (repeat ((try refine Vc.mk' ?_);simp (maxSteps:=6000000) only [go_sem,reduceIte,reduceCtorEq,Nat.reduceAdd,Nat.reduceMul,Nat.reduceSub,Nat.reduceLT,Nat.reduceLeDiff,Nat.reduceEqDiff,Int.reduceEq,Int.reduceLT,Int.reduceLE,Int.reduceNe,lF]))
  (refine ⟨[],by simp,by simp,by simp, ?_, ?_, ?_⟩ <;> simp [Ag,BJ,BH,Am,AP,AF,AJ.nil,AJ.cons,AB,AD,AM,AA,AQ,AX,AO,Ax.AL,AG,AV,AE,AH,AK.set,AK.Ao,AK.refl,QZ])
 obtain ⟨a,rfl⟩:=Int.eq_ofNat_of_zero_le ha
 obtain ⟨b,rfl⟩:=Int.eq_ofNat_of_zero_le (Int.le_trans ha hab)
 have hn:d.size≤35184372088832:=hrow.le
 have hqt:=hrow.Xw hcl
 simp only [hrow.D5,hrow.MZ,intOf_int,Int.toNat_natCast]
 obtain ⟨rfl,ho,_,_⟩:=hrow
 have e0:Go.Sort.insertionSort ltInt d a b=Go.Sort.insOuter ltInt a b (a+1) d:=rfl
 rw [e0]
 refine Ab.BF BN JO rfl 49 rfl [] rfl (show 3≤49 by decide) ?_
 have hw:Ae .i64 ((a:Int)+1)=((a+1:Nat):Int):=by rw [wrap64 (by omega) (by omega)];omega
 refine CW.vc A3 [0,1,2,6,7,12,30] (by kernel_rfl) ?_
 (repeat ((try refine Vc.mk' ?_);simp (maxSteps:=6000000) only [go_sem,reduceIte,reduceCtorEq,Nat.reduceAdd,Nat.reduceMul,Nat.reduceSub,Nat.reduceLT,Nat.reduceLeDiff,Nat.reduceEqDiff,Int.reduceEq,Int.reduceLT,Int.reduceLE,Int.reduceNe,hw]))
 refine CW.Bx (fun x:Nat×Array Int=>RE hp top q d.size a b x.1 x.2) (fun x=>a+1≤x.1∧x.2.size=d.size∧(x.1≤b∨x.1=a+1)∧Go.Sort.insOuter ltInt a b x.1 x.2=Go.Sort.insOuter ltInt a b (a+1) d) (fun x=>b - x.1) (a+1,d) ⟨Nat.le_refl _,rfl, .inr rfl,rfl⟩ ?_ ?_
 ·exact (by refine A9.mk' [] hcl (by simp) (by simp) rfl (AZ ?_) ?_ ?_ <;> simp [Ag,BJ,BH,Am,AP,AF,AJ.nil,AJ.cons,AB,AD,AM,AA,AQ,AX,AO,Ax.AL,AG,AV,AE,AH,AK.set,AK.Ao,AK.refl,RE,Af hqt,AY,ho])
 ·rintro ⟨i,e⟩ ⟨hi1,hsz,hi2,heq⟩
  dsimp only at hi1 hsz hi2 heq ⊢
  by_cases hlt:i < b
  ·refine CW.vc A3 [0,1,2,6,7,12,30] (by kernel_rfl) ?_
   (repeat ((try refine Vc.mk' ?_);simp (maxSteps:=6000000) only [go_sem,reduceIte,reduceCtorEq,Nat.reduceAdd,Nat.reduceMul,Nat.reduceSub,Nat.reduceLT,Nat.reduceLeDiff,Nat.reduceEqDiff,Int.reduceEq,Int.reduceLT,Int.reduceLE,Int.reduceNe,RE,hlt]))
   refine CW.Bx (Xq hp top q d.size a b i) (fun x=>x.1≤i∧x.2.size=d.size∧Go.Sort.insInner ltInt a x.1 x.2=Go.Sort.insInner ltInt a i e) (fun x=>x.1) (i,e) ⟨Nat.le_refl _,hsz,rfl⟩ ?_ ?_
   ·exact (by refine A9.mk' [] hcl (by simp) (by simp) rfl (AZ ?_) ?_ ?_ <;> simp [Ag,BJ,BH,Am,AP,AF,AJ.nil,AJ.cons,AB,AD,AM,AA,AQ,AX,AO,Ax.AL,AG,AV,AE,AH,AK.set,AK.Ao,AK.refl,Xq,Af hqt,AY])
   ·rintro ⟨j,f⟩ ⟨hj,hfs,hfe⟩
    dsimp only at hj hfs hfe ⊢
    have ki:Ae .i64 ((i:Int)+1)=((i+1:Nat):Int):=by rw [wrap64 (by omega) (by omega)];omega
    have kj:0 < j→Ae .i64 ((j:Int) - 1)=((j - 1:Nat):Int):=fun h=>by rw [wrap64 (by omega) (by omega)];omega
    have out:∀ {s':SS},(¬(a < j∧ltInt f[j]! f[j - 1]! = true))→(∃ρ,A9 ρ top (RE hp top q d.size a b (i+1) f) s')→Round top (fun x:Nat×Array Int=>RE hp top q d.size a b x.1 x.2) (fun x=>a+1≤x.1∧x.2.size=d.size∧(x.1≤b∨x.1=a+1)∧Go.Sort.insOuter ltInt a b x.1 x.2=Go.Sort.insOuter ltInt a b (a+1) d) (fun x=>b - x.1) (i,e) s':=fun hno hs=>by
     refine .mk (i+1,f) ⟨by dsimp only;omega,hfs, .inl (by dsimp only;omega), ?_⟩ (by dsimp only;omega) hs
     dsimp only
     rw [←heq]
     conv=>rhs;rw [Go.Sort.insOuter,if_pos hlt,←hfe,YD hno]
    by_cases c:a < j
    ·obtain ⟨j,rfl⟩:∃k,j=k+1:=⟨j - 1,by omega⟩
     have kj':Ae .i64 (((j+1:Nat):Int) - 1)=(j:Int):=kj (by omega)
     have c':((a:Int) < ((j+1:Nat):Int))=True:=eq_true (by omega)
     have x1:=fun (b:Nat)=>Ar (b:=b) hn (show j+1 < d.size by omega)
     have x2:=fun (b:Nat)=>Ar (b:=b) hn (show j < d.size by omega)
     have l1:∀ {h':Hp},h' q=Ad f→An tt.get h' 29 (.pointer (some ⟨q,j+1,none⟩))=(.int .u32 f[j+1]!,True):=fun e=>Ap e (by omega) (by omega)
     have l2:∀ {h':Hp},h' q=Ad f→An tt.get h' 29 (.pointer (some ⟨q,j,none⟩))=(.int .u32 f[j]!,True):=fun e=>Ap e (by omega) (by omega)
     by_cases hl:ltInt f[j+1]! f[j]! = true
     ·have s1:∀ {h':Hp} {x:Int},h' q=Ad f→Aw tt.get h' 29 (.pointer (some ⟨q,j+1,none⟩)) (.int .u32 x)=([(q,Ad (f.setIfInBounds (j+1) x))],True):=fun e=>BK e (by omega)
      have s2:∀ {h':Hp} {y:Int},h' q=Ad (f.setIfInBounds (j+1) f[j]!)→Aw tt.get h' 29 (.pointer (some ⟨q,j,none⟩)) (.int .u32 y)=([(q,Ad ((f.setIfInBounds (j+1) f[j]!).setIfInBounds j y))],True):=fun e=>BK e (by simp;omega)
      refine CW.vc A3 [0,1,2,6,7,12,30] (by kernel_rfl) ?_
      (repeat ((try refine Vc.mk' ?_);simp (maxSteps:=6000000) only [go_sem,reduceIte,reduceCtorEq,Nat.reduceAdd,Nat.reduceMul,Nat.reduceSub,Nat.reduceLT,Nat.reduceLeDiff,Nat.reduceEqDiff,Int.reduceEq,Int.reduceLT,Int.reduceLE,Int.reduceNe,Xq,c',decide_true,kj',x1,x2,l1,l2,Bq,Ba,hl,s1,s2,af]))
      refine .mk (j,swp f (j+1) j) ⟨by dsimp only;omega,by dsimp only;rw [swp_size];exact hfs,by dsimp only;rw [←hfe,Yx c hl]⟩ (by dsimp only;omega) ((by refine A9.mk' [] hcl (by simp) (by simp) rfl (AZ ?_) ?_ ?_ <;> simp [Ag,BJ,BH,Am,AP,AF,AJ.nil,AJ.cons,AB,AD,AM,AA,AQ,AX,AO,Ax.AL,AG,AV,AE,AH,AK.set,AK.Ao,AK.refl,Xq,Af hqt,AY]))
     ·have hl':ltInt f[j+1]! f[j]! = false:=by simpa using hl
      refine CW.vc A3 [0,1,2,6,7,12,30] (by kernel_rfl) ?_
      (repeat ((try refine Vc.mk' ?_);simp (maxSteps:=6000000) only [go_sem,reduceIte,reduceCtorEq,Nat.reduceAdd,Nat.reduceMul,Nat.reduceSub,Nat.reduceLT,Nat.reduceLeDiff,Nat.reduceEqDiff,Int.reduceEq,Int.reduceLT,Int.reduceLE,Int.reduceNe,Xq,c',decide_true,kj',ki,x1,x2,l1,l2,Bq,Ba,hl']))
      refine out (fun h=>hl (by simpa using h.2)) ((by refine A9.mk' [] hcl (by simp) (by simp) rfl (AZ ?_) ?_ ?_ <;> simp [Ag,BJ,BH,Am,AP,AF,AJ.nil,AJ.cons,AB,AD,AM,AA,AQ,AX,AO,Ax.AL,AG,AV,AE,AH,AK.set,AK.Ao,AK.refl,RE,Af hqt,AY]))
    ·have c':((a:Int) < (j:Int))=False:=eq_false (by omega)
     refine CW.vc A3 [0,1,2,6,7,12,30] (by kernel_rfl) ?_
     (repeat ((try refine Vc.mk' ?_);simp (maxSteps:=6000000) only [go_sem,reduceIte,reduceCtorEq,Nat.reduceAdd,Nat.reduceMul,Nat.reduceSub,Nat.reduceLT,Nat.reduceLeDiff,Nat.reduceEqDiff,Int.reduceEq,Int.reduceLT,Int.reduceLE,Int.reduceNe,Xq,c',decide_false,ki]))
     refine out (fun h=>c h.1) ((by refine A9.mk' [] hcl (by simp) (by simp) rfl (AZ ?_) ?_ ?_ <;> simp [Ag,BJ,BH,Am,AP,AF,AJ.nil,AJ.cons,AB,AD,AM,AA,AQ,AX,AO,Ax.AL,AG,AV,AE,AH,AK.set,AK.Ao,AK.refl,RE,Af hqt,AY]))
  ·have he:e=Go.Sort.insOuter ltInt a b (a+1) d:=by
    rw [←heq,Go.Sort.insOuter,if_neg hlt]
   refine CW.vc A3 [0,1,2,6,7,12,30] (by kernel_rfl) ?_
   (repeat ((try refine Vc.mk' ?_);simp (maxSteps:=6000000) only [go_sem,reduceIte,reduceCtorEq,Nat.reduceAdd,Nat.reduceMul,Nat.reduceSub,Nat.reduceLT,Nat.reduceLeDiff,Nat.reduceEqDiff,Int.reduceEq,Int.reduceLT,Int.reduceLE,Int.reduceNe,RE,hlt]))
   rw [←he]
   (refine ⟨[],by simp,by simp,by simp, ?_, ?_, ?_⟩ <;> simp [Ag,BJ,BH,Am,AP,AF,AJ.nil,AJ.cons,AB,AD,AM,AA,AQ,AX,AO,Ax.AL,AG,AV,AE,AH,AK.set,AK.Ao,AK.refl,Af hqt,AY])
end Go.Proofs.YthpibnpeaidabaaGreatDoor.Dm
