import Derived.Test.YthpibnpeaidabaaGreatDoorTSM
import Derived.Sort.AssemblyPlain
set_option linter.unusedVariables false
namespace Go.Proofs.YthpibnpeaidabaaGreatDoor.Dm
open Go.Dm
set_option maxHeartbeats 16000000
set_option maxRecDepth 20000
def sN (b n:Nat):Value:=if n=0 then .slice none 0 0 else .slice (some ⟨b,0,none⟩) n n
def AQ (d:Array Int):Option Ay:=AV AF d.toList
theorem J9 {b:Nat}{l:List Int}:AR b l=sN b l.length:=by cases l <;> rfl
theorem NC {b n:Nat}(h:0 < n):sN b n= .slice (some ⟨b,0,none⟩) n n:=by unfold sN;rw [if_neg (by omega)]
structure DX (hp:Hp) (v:Value) (b:Nat) (d:Array Int):Prop where
 v:v= .slice (some ⟨b,0,none⟩) d.size d.size
 o:hp b=AQ d
 pos:0 < d.size
 le:d.size≤35184372088832
theorem DX.slt {hp:Hp}{v:Value}{b:Nat}{d:Array Int}(h:DX hp v b d):BM AF hp v d.toList:=by
 have:=BM.VI (E:=AF) (hp:=hp) (b:=b) (l:=d.toList) h.o (by rw [Array.length_toList];exact Nat.le_trans h.le (by decide))
 rw [J9,Array.length_toList,NC h.pos,←h.v] at this
 exact this
def Hh (hp:Hp)(v:Value):Array Int:=(AF.rd hp v).toArray
theorem DX.D5 {hp:Hp}{v:Value}{b:Nat}{d:Array Int}(h:DX hp v b d):Hh hp v=d:=by unfold Hh;rw [h.slt.rd]
theorem DX.Z4 {hp:Hp}{v:Value}{b top:Nat}{d:Array Int}(h:DX hp v b d)(hcl:Cl hp top):b < top:=by
 obtain ⟨o,ho⟩:∃o,AQ d=some o:=by
  unfold AQ
  cases e:d.toList with
  |nil=>
   have:=congrArg List.length e
   have:=h.pos
   simp_all
  |cons x l=>exact ⟨_,rfl⟩
 exact hcl.lt b o (h.o.trans ho)
def U4 (v:Value)(d:Array Int):BZ:=match v with | .slice (some ⟨b,_,_⟩) _ _=> [(b,AQ d)] | _=> []
theorem DX.MR {hp:Hp}{v:Value}{b:Nat}{d d':Array Int}(h:DX hp v b d):U4 v d' = [(b,AQ d')]:=by rw [h.v];rfl
theorem EG {b n:Nat}{d:Array Int}:U4 (.slice (some ⟨b,0,none⟩) n n) d= [(b,AQ d)]:=rfl
theorem Cu {hp:Hp}{b n:Nat}{d:Array Int}(e:hp b=AQ d)(hs:d.size=n)(h0:0 < n)(hn:n≤35184372088832):DX hp (.slice (some ⟨b,0,none⟩) n n) b d:=⟨by rw [hs],e,by omega,by omega⟩
theorem sY {d:Array Int}{i:Nat}(h:i < d.size):at' d.toList i=d[i]! :=by
 rw [DV _ _ (by simpa using h)]
 simp [getElem!_pos d i h]
theorem Am {b n i:Nat}(hn:n≤35184372088832)(h:i < n):Af tt.get 51 (.slice (some ⟨b,0,none⟩) n n) (.int .i64 (i:Int))=(.pointer (some ⟨b,i,none⟩),True):=by
 have h0:0 < n:=by omega
 have:=C0 (BM.VI (E:=AF) (hp:=fun _=>AV AF (List.replicate n 0)) (b:=b) (l:=List.replicate n 0) rfl (by simpa using Nat.le_trans hn (by decide))) (k:= .i64) (n:=(i:Int)) (by omega) (by simp;omega)
 rw [J9,List.length_replicate,NC h0] at this
 simpa [BK] using this
theorem Aj {h':Hp}{b i:Nat}{d:Array Int}(e:h' b=AQ d)(hn:d.size≤35184372088832)(h:i < d.size):Ad tt.get h' 29 (.pointer (some ⟨b,i,none⟩))=(.int .u32 d[i]!,True):=by
 have h0:0 < d.size:=by omega
 have:=EZ (BM.VI (E:=AF) (hp:=h') (b:=b) (l:=d.toList) e (by simpa using Nat.le_trans hn (by decide))) (i:=i) (by simpa using h)
 rw [J9,Array.length_toList,NC h0,sY h] at this
 simpa [BK] using this
theorem BC {h':Hp}{b i:Nat}{d:Array Int}{x:Int}(e:h' b=AQ d)(h:i < d.size):Ai tt.get h' 29 (.pointer (some ⟨b,i,none⟩)) (.int .u32 x)=([(b,AQ (d.setIfInBounds i x))],True):=by
 have h0:0 < d.size:=by omega
 have:=VT (hp:=h') (b:=b) (l:=d.toList) (i:=i) e (by simpa using h) (x:=x)
 rw [J9,Array.length_toList,NC h0] at this
 unfold AQ
 rw [Array.toList_setIfInBounds]
 simpa [BK] using this
theorem db {d:Array Int}{i j:Nat}:(d.setIfInBounds i d[j]!).setIfInBounds j d[i]! = Go.Sort.swp d i j:=rfl
theorem AL {ρ:Nat→Nat}{d:Array Int}:IZ ρ (AQ d)=AQ d:=Az
def Bi (f:Int→Int→Bool):BG:= .pure (fun args _=>match args with | [.int .u32 _, .int .u32 _]=>True | _=>False) (fun args _=>match args with | [.int _ x, .int _ y]=> .bool (f x y) | _=>undef)
def Qa:BG:= .pure (fun args _=>match args with | [.int .u32 _]=>True | _=>False) (fun _ _=> .bool false)
theorem si:Aw Tryz.prog 137 Qa:=by
 refine .Ep N4 ?_ ?_
 ·rintro args hp h
  match args,h with
  | [.int .u32 _],_=>rfl
 intro args hp hpre top hcl hsc
 match args,hpre with
 | [.int .u32 x],_=>
 refine AK.Ar A7 N4 rfl 6 rfl [.tmp 2] rfl (show 1≤6 by decide) ?_
 refine CW.vc Da [0,2] (by kernel_rfl) ?_
 (repeat ((try refine Vc.mk' ?_);simp (maxSteps:=6000000) only [go_sem,decide_true,Bool.not_true]))
def GS0:FuncId→BG:=BQ G0 137 Qa
theorem wB:B4 Tryz.prog tt.get GS0:=Da.add si
theorem xF:GS0 137=Qa:=rfl
theorem kr:Aw Tryz.prog 113 (Bi Go.Sort.ltInt):=by
 refine .Ep Ni ?_ ?_
 ·rintro args hp h
  match args,h with
  | [.int .u32 _, .int .u32 _],_=>rfl
 intro args hp hpre top hcl hsc
 match args,hpre with
 | [.int .u32 x, .int .u32 y],_=>
 refine AK.Ar A7 Ni rfl 17 rfl [.tmp 4] rfl (show 2≤17 by decide) ?_
 refine CW.vc wB [0,1,4] (by kernel_rfl) ?_
 (repeat ((try refine Vc.mk' ?_);simp (maxSteps:=6000000) only [go_sem,xF,Qa]))
 rfl
def vJ:FuncId→BG:=BQ G0 113 (Bi Go.Sort.ltInt)
theorem A0:B4 Tryz.prog tt.get vJ:=Da.add kr
theorem Bx:vJ 113=Bi Go.Sort.ltInt:=rfl
end Go.Proofs.YthpibnpeaidabaaGreatDoor.Dm
set_option linter.unusedVariables false
namespace Go.Proofs.YthpibnpeaidabaaGreatDoor.Dm
open Go.Dm
open Go.Sort (ltInt swp)
set_option maxHeartbeats 16000000
set_option maxRecDepth 20000
theorem swp_size {d:Array Int}{i j:Nat}:(swp d i j).size=d.size:=by simp [swp]
theorem JG {a:Nat}:∀(j:Nat) (d:Array Int),(Go.Sort.insInner ltInt a j d).size=d.size
 |0,d=>rfl
 |j+1,d=>by
  rw [Go.Sort.insInner]
  split
  ·rw [JG j,swp_size]
  ·rfl
theorem JC {a b:Nat}:∀(k i:Nat) (d:Array Int),b - i≤k→(Go.Sort.insOuter ltInt a b i d).size=d.size
 |0,i,d,h=>by rw [Go.Sort.insOuter,if_neg (by omega)]
 |k+1,i,d,h=>by
  rw [Go.Sort.insOuter]
  split
  ·rw [JC k _ _ (by omega),JG]
  ·rfl
theorem FT {d:Array Int}{a b:Nat}:(Go.Sort.insertionSort ltInt d a b).size=d.size:=JC _ _ _ (Nat.le_refl _)
theorem cX {a j:Nat}{e:Array Int}(h:¬(a < j∧ltInt e[j]! e[j - 1]! = true)):Go.Sort.insInner ltInt a j e=e:=by
 cases j with
 |zero=>rfl
 |succ j=>
  rw [Go.Sort.insInner,if_neg]
  simpa using h
theorem eF {a j:Nat}{e:Array Int}(h:a < j+1)(hl:ltInt e[j+1]! e[j]! = true):Go.Sort.insInner ltInt a (j+1) e=Go.Sort.insInner ltInt a j (swp e (j+1) j):=by
 rw [Go.Sort.insInner,if_pos]
 simp [hl];omega
def dV (hp:Hp)(v:Value)(a b:Int):Prop:=(v= .slice none 0 0∧a=0∧b=0)∨(∃q d,DX hp v q d∧0≤a∧a≤b∧b≤(d.size:Int))
def OY:BG:= .det (fun args hp _=>match args with | [v, .int .i64 a, .int .i64 b]=>dV hp v a b | _=>False)
 (fun args hp top=>match args with | [v,a,b]=>(.tuple ⟨[]⟩,U4 v (Go.Sort.insertionSort ltInt (Hh hp v) (intOf a).toNat (intOf b).toNat),top) | _=>(undef, [],top))
def bL (hp:Hp)(top:Nat)(q n a b i:Nat)(d:Array Int):SS:=⟨[(0, .slice (some ⟨q,0,none⟩) n n,true),(1, .int .i64 (a:Int),true),(2, .int .i64 (b:Int),true),(6, .int .i64 (i:Int),true)],hp.Al [(q,AQ d)],top+0⟩
def kQ (hp:Hp)(top:Nat)(q n a b i:Nat)(x:Nat×Array Int):SS:=⟨[(0, .slice (some ⟨q,0,none⟩) n n,true),(1, .int .i64 (a:Int),true),(2, .int .i64 (b:Int),true),(6, .int .i64 (i:Int),true),(7, .int .i64 (x.1:Int),true)],hp.Al [(q,AQ x.2)],top+0⟩
def yT (hp:Hp)(top:Nat):SS:=⟨[(0, .slice none 0 0,true),(1, .int .i64 0,true),(2, .int .i64 0,true),(6, .int .i64 1,true)],hp.Al [],top+0⟩
theorem qf:Aw Tryz.prog 107 OY:=by
 refine .Cg Kc ?_
 intro args hp top hpre hcl hsc
 match args,hpre with
 | [v, .int .i64 a, .int .i64 b],hpre=>
 rcases hpre with ⟨rfl,rfl,rfl⟩ | ⟨q,d,hrow,ha,hab,hb⟩
 ·refine AK.Ar A7 Kc rfl 49 rfl [] rfl (show 3≤49 by decide) ?_
  refine CW.vc A0 [0,1,2,6,7,12,30] (by kernel_rfl) ?_
  (repeat ((try refine Vc.mk' ?_);simp (maxSteps:=6000000) only [go_sem,Nat.reduceAdd]))
  refine CW.Bs (fun _:Unit=>yT hp top) (fun _=>True) (fun _=>0) () trivial ((by refine Ao.mk' [] hcl (by simp) (by simp) rfl (AG ?_) ?_ ?_ <;> simp [Ac,BU,Ax,AB.nil,AJ.refl,show AP .i64 1=1 from by decide])) ?_
  rintro ⟨⟩ _
  refine CW.vc A0 [0,1,2,6,7,12,30] (by kernel_rfl) ?_
  (repeat ((try refine Vc.mk' ?_);simp (maxSteps:=6000000) only [go_sem,Int.reduceLT,yT]))
  (refine ⟨[],by simp,by simp,by simp, ?_, ?_, ?_⟩ <;> simp [Ax,Bt,AB.nil,AJ.refl,U4])
 obtain ⟨a,rfl⟩:=Int.eq_ofNat_of_zero_le ha
 obtain ⟨b,rfl⟩:=Int.eq_ofNat_of_zero_le (Int.le_trans ha hab)
 have hn:d.size≤35184372088832:=hrow.le
 have hqt:=hrow.Z4 hcl
 simp only [hrow.D5,hrow.MR,intOf_int,Int.toNat_natCast]
 obtain ⟨rfl,ho,_,_⟩:=hrow
 have e0:Go.Sort.insertionSort ltInt d a b=Go.Sort.insOuter ltInt a b (a+1) d:=rfl
 rw [e0]
 refine AK.Ar A7 Kc rfl 49 rfl [] rfl (show 3≤49 by decide) ?_
 have hw:AP .i64 ((a:Int)+1)=((a+1:Nat):Int):=by rw [wrap64 (by omega) (by omega)];omega
 refine CW.vc A0 [0,1,2,6,7,12,30] (by kernel_rfl) ?_
 (repeat ((try refine Vc.mk' ?_);simp (maxSteps:=6000000) only [go_sem,Nat.reduceAdd,hw]))
 refine CW.Bs (fun x:Nat×Array Int=>bL hp top q d.size a b x.1 x.2) (fun x=>a+1≤x.1∧x.2.size=d.size∧(x.1≤b∨x.1=a+1)∧Go.Sort.insOuter ltInt a b x.1 x.2=Go.Sort.insOuter ltInt a b (a+1) d) (fun x=>b - x.1) (a+1,d) ⟨Nat.le_refl _,rfl, .inr rfl,rfl⟩ ?_ ?_
 ·exact (by refine Ao.mk' [] hcl (by simp) (by simp) rfl (AG ?_) ?_ ?_ <;> simp [Ac,BU,Ax,AB.nil,AB.cons,AJ.refl,AM hqt,AL,ho])
 ·rintro ⟨i,e⟩ ⟨hi1,hsz,hi2,heq⟩
  dsimp only at hi1 hsz hi2 heq ⊢
  by_cases hlt:i < b
  ·refine CW.vc A0 [0,1,2,6,7,12,30] (by kernel_rfl) ?_
   (repeat ((try refine Vc.mk' ?_);simp (maxSteps:=6000000) only [go_sem,bL,hlt]))
   refine CW.Bs (kQ hp top q d.size a b i) (fun x=>x.1≤i∧x.2.size=d.size∧Go.Sort.insInner ltInt a x.1 x.2=Go.Sort.insInner ltInt a i e) (fun x=>x.1) (i,e) ⟨Nat.le_refl _,hsz,rfl⟩ ?_ ?_
   ·exact (by refine Ao.mk' [] hcl (by simp) (by simp) rfl (AG ?_) ?_ ?_ <;> simp [Ac,BU,Ax,AB.nil,AB.cons,AD,AJ.A5,AJ.refl,AM hqt,AL])
   ·rintro ⟨j,f⟩ ⟨hj,hfs,hfe⟩
    dsimp only at hj hfs hfe ⊢
    have ki:AP .i64 ((i:Int)+1)=((i+1:Nat):Int):=by rw [wrap64 (by omega) (by omega)];omega
    have kj:0 < j→AP .i64 ((j:Int) - 1)=((j - 1:Nat):Int):=fun h=>by rw [wrap64 (by omega) (by omega)];omega
    have out:∀ {s':SS},(¬(a < j∧ltInt f[j]! f[j - 1]! = true))→(∃ρ,Ao ρ top (bL hp top q d.size a b (i+1) f) s')→Round top (fun x:Nat×Array Int=>bL hp top q d.size a b x.1 x.2) (fun x=>a+1≤x.1∧x.2.size=d.size∧(x.1≤b∨x.1=a+1)∧Go.Sort.insOuter ltInt a b x.1 x.2=Go.Sort.insOuter ltInt a b (a+1) d) (fun x=>b - x.1) (i,e) s':=fun hno hs=>by
     refine .mk (i+1,f) ⟨by dsimp only;omega,hfs, .inl (by dsimp only;omega), ?_⟩ (by dsimp only;omega) hs
     dsimp only
     rw [←heq]
     conv=>rhs;rw [Go.Sort.insOuter,if_pos hlt,←hfe,cX hno]
    by_cases c:a < j
    ·obtain ⟨j,rfl⟩:∃k,j=k+1:=⟨j - 1,by omega⟩
     have kj':AP .i64 (((j+1:Nat):Int) - 1)=(j:Int):=kj (by omega)
     have c':((a:Int) < ((j+1:Nat):Int))=True:=eq_true (by omega)
     have x1:=fun (b:Nat)=>Am (b:=b) hn (show j+1 < d.size by omega)
     have x2:=fun (b:Nat)=>Am (b:=b) hn (show j < d.size by omega)
     have l1:∀ {h':Hp},h' q=AQ f→Ad tt.get h' 29 (.pointer (some ⟨q,j+1,none⟩))=(.int .u32 f[j+1]!,True):=fun e=>Aj e (by omega) (by omega)
     have l2:∀ {h':Hp},h' q=AQ f→Ad tt.get h' 29 (.pointer (some ⟨q,j,none⟩))=(.int .u32 f[j]!,True):=fun e=>Aj e (by omega) (by omega)
     by_cases hl:ltInt f[j+1]! f[j]! = true
     ·have s1:∀ {h':Hp} {x:Int},h' q=AQ f→Ai tt.get h' 29 (.pointer (some ⟨q,j+1,none⟩)) (.int .u32 x)=([(q,AQ (f.setIfInBounds (j+1) x))],True):=fun e=>BC e (by omega)
      have s2:∀ {h':Hp} {y:Int},h' q=AQ (f.setIfInBounds (j+1) f[j]!)→Ai tt.get h' 29 (.pointer (some ⟨q,j,none⟩)) (.int .u32 y)=([(q,AQ ((f.setIfInBounds (j+1) f[j]!).setIfInBounds j y))],True):=fun e=>BC e (by simp;omega)
      refine CW.vc A0 [0,1,2,6,7,12,30] (by kernel_rfl) ?_
      (repeat ((try refine Vc.mk' ?_);simp (maxSteps:=6000000) only [go_sem,kQ,c',decide_true,kj',x1,x2,l1,l2,Bx,Bi,hl,s1,s2,db]))
      refine .mk (j,swp f (j+1) j) ⟨by dsimp only;omega,by dsimp only;rw [swp_size];exact hfs,by dsimp only;rw [←hfe,eF c hl]⟩ (by dsimp only;omega) ((by refine Ao.mk' [] hcl (by simp) (by simp) rfl (AG ?_) ?_ ?_ <;> simp [Ac,BU,Ax,AB.nil,AB.cons,AD,AJ.A5,AJ.refl,AM hqt,AL]))
     ·have hl':ltInt f[j+1]! f[j]! = false:=by simpa using hl
      refine CW.vc A0 [0,1,2,6,7,12,30] (by kernel_rfl) ?_
      (repeat ((try refine Vc.mk' ?_);simp (maxSteps:=6000000) only [go_sem,reduceCtorEq,Nat.reduceEqDiff,kQ,c',decide_true,kj',ki,x1,x2,l1,l2,Bx,Bi,hl']))
      refine out (fun h=>hl (by simpa using h.2)) ((by refine Ao.mk' [] hcl (by simp) (by simp) rfl (AG ?_) ?_ ?_ <;> simp [Ac,BU,Ax,AB.nil,AB.cons,AD,AJ.A5,AJ.refl,AM hqt,AL]))
    ·have c':((a:Int) < (j:Int))=False:=eq_false (by omega)
     refine CW.vc A0 [0,1,2,6,7,12,30] (by kernel_rfl) ?_
     (repeat ((try refine Vc.mk' ?_);simp (maxSteps:=6000000) only [go_sem,reduceCtorEq,Nat.reduceEqDiff,kQ,c',decide_false,ki]))
     refine out (fun h=>c h.1) ((by refine Ao.mk' [] hcl (by simp) (by simp) rfl (AG ?_) ?_ ?_ <;> simp [Ac,BU,Ax,AB.nil,AB.cons,AD,AJ.A5,AJ.refl,AM hqt,AL]))
  ·have he:e=Go.Sort.insOuter ltInt a b (a+1) d:=by
    rw [←heq,Go.Sort.insOuter,if_neg hlt]
   refine CW.vc A0 [0,1,2,6,7,12,30] (by kernel_rfl) ?_
   (repeat ((try refine Vc.mk' ?_);simp (maxSteps:=6000000) only [go_sem,bL,hlt]))
   rw [←he]
   (refine ⟨[],by simp,by simp,by simp, ?_, ?_, ?_⟩ <;> simp [Ax,Bt,AB.nil,AB.cons,AD,AJ.A5,AJ.refl,AM hqt,AL])
end Go.Proofs.YthpibnpeaidabaaGreatDoor.Dm
set_option linter.unusedVariables false
namespace Go.Proofs.YthpibnpeaidabaaGreatDoor.Dm
open Go.Dm
open Go.Sort (ltInt swp)
set_option maxHeartbeats 16000000
set_option maxRecDepth 20000
theorem GK {hi first:Nat}:∀(k root:Nat) (d:Array Int),hi - root≤k→(Go.Sort.siftDown ltInt hi first root d).size=d.size
 |0,root,d,h=>by rw [Go.Sort.siftDown,dif_pos (by omega)]
 |k+1,root,d,h=>by
  rw [Go.Sort.siftDown]
  split
  ·rfl
  ·split
   ·split
    ·rfl
    ·split
     ·rw [GK k _ _ (by omega),swp_size]
     ·rfl
   ·split
    ·rfl
    ·rw [GK k _ _ (by omega),swp_size]
theorem sd {hi first root:Nat}{d:Array Int}(h:2 * root+1≥hi):Go.Sort.siftDown ltInt hi first root d=d:=by rw [Go.Sort.siftDown,dif_pos h]
def ik (hi first root:Nat)(d:Array Int):Nat:=if 2 * root+1+1 < hi∧ltInt d[first+(2 * root+1)]! d[first+(2 * root+1)+1]! = true then 2 * root+1+1 else 2 * root+1
theorem lr {hi first root:Nat}{d:Array Int}(h:¬2 * root+1≥hi)(hl:ltInt d[first+root]! d[first+ik hi first root d]! = false):Go.Sort.siftDown ltInt hi first root d=d:=by
 rw [Go.Sort.siftDown,dif_neg h]
 unfold ik at hl
 split
 ·rename_i c
  rw [if_pos (by simpa using c)] at hl
  rw [if_pos (by simpa using hl)]
 ·rename_i c
  rw [if_neg (by simpa using c)] at hl
  rw [if_pos (by simpa using hl)]
theorem vg {hi first root:Nat}{d:Array Int}(h:¬2 * root+1≥hi)(hl:ltInt d[first+root]! d[first+ik hi first root d]! = true):Go.Sort.siftDown ltInt hi first root d=Go.Sort.siftDown ltInt hi first (ik hi first root d) (swp d (first+root) (first+ik hi first root d)):=by
 conv=>lhs;rw [Go.Sort.siftDown,dif_neg h]
 unfold ik at hl ⊢
 split
 ·rename_i c
  have c':2 * root+1+1 < hi∧ltInt d[first+(2 * root+1)]! d[first+(2 * root+1)+1]! = true:=by simpa using c
  rw [if_pos c'] at hl ⊢
  rw [if_neg (by simpa using hl),dif_pos c'.1]
 ·rename_i c
  have c':¬(2 * root+1+1 < hi∧ltInt d[first+(2 * root+1)]! d[first+(2 * root+1)+1]! = true):=by simpa using c
  rw [if_neg c'] at hl ⊢
  rw [if_neg (by simpa using hl)]
theorem rH {hi first root:Nat}{d:Array Int}(h:¬2 * root+1≥hi):ik hi first root d < hi∧root < ik hi first root d:=by
 unfold ik
 split
 ·rename_i c;exact ⟨c.1,by omega⟩
 ·omega
def aN (hp:Hp)(v:Value)(lo hi fi:Int):Prop:= ∃q d,DX hp v q d∧0≤lo∧0≤hi∧0≤fi∧fi+hi≤(d.size:Int)∧lo≤(d.size:Int)
def Tn:BG:= .det (fun args hp _=>match args with | [v, .int .i64 lo, .int .i64 hi, .int .i64 fi]=>aN hp v lo hi fi | _=>False)
 (fun args hp top=>match args with | [v,lo,hi,fi]=>(.tuple ⟨[]⟩,U4 v (Go.Sort.siftDown ltInt (intOf hi).toNat (intOf fi).toNat (intOf lo).toNat (Hh hp v)),top) | _=>(undef, [],top))
def Sz (hp:Hp)(top:Nat)(q n hi fi:Nat)(x:Nat×Array Int):SS:=⟨[(0, .slice (some ⟨q,0,none⟩) n n,true),(2, .int .i64 (hi:Int),true),(3, .int .i64 (fi:Int),true),(8, .int .i64 (x.1:Int),true)],hp.Al [(q,AQ x.2)],top+0⟩
theorem vY:Aw Tryz.prog 132 Tn:=by
 refine .Cg N7 ?_
 intro args hp top hpre hcl hsc
 match args,hpre with
 | [v, .int .i64 lo, .int .i64 hi, .int .i64 fi],hpre=>
 obtain ⟨q,d,hrow,h1,h2,h3,h4,h5⟩:=hpre
 obtain ⟨lo,rfl⟩:=Int.eq_ofNat_of_zero_le h1
 obtain ⟨hi,rfl⟩:=Int.eq_ofNat_of_zero_le h2
 obtain ⟨fi,rfl⟩:=Int.eq_ofNat_of_zero_le h3
 have hn:d.size≤35184372088832:=hrow.le
 have hqt:=hrow.Z4 hcl
 simp only [hrow.D5,hrow.MR,intOf_int,Int.toNat_natCast]
 obtain ⟨rfl,ho,_,_⟩:=hrow
 refine AK.Ar A7 N7 rfl 76 rfl [] rfl (show 4≤76 by decide) ?_
 refine CW.vc A0 [0,1,2,3,8,9,16,36,52] (by kernel_rfl) ?_
 (repeat ((try refine Vc.mk' ?_);simp (maxSteps:=6000000) only [go_sem,Nat.reduceAdd]))
 refine CW.Bs (Sz hp top q d.size hi fi) (fun x=>x.1≤d.size∧x.2.size=d.size∧Go.Sort.siftDown ltInt hi fi x.1 x.2=Go.Sort.siftDown ltInt hi fi lo d) (fun x=>d.size - x.1) (lo,d) ⟨by dsimp only;omega,rfl,rfl⟩ ?_ ?_
 ·exact (by refine Ao.mk' [] hcl (by simp) (by simp) rfl (AG ?_) ?_ ?_ <;> simp [Ac,BU,Ax,AB.nil,AB.cons,AJ.refl,AM hqt,AL,ho])
 ·rintro ⟨r,f⟩ ⟨hr,hfs,hfe⟩
  dsimp only at hr hfs hfe ⊢
  obtain ⟨z,hz⟩:∃m:Nat,m=2 * r:=⟨_,rfl⟩
  obtain ⟨m,hm⟩:∃m:Nat,m=2 * r+1:=⟨_,rfl⟩
  have w1:AP .i64 (2 * (r:Int))=((z:Nat):Int):=by rw [wrap64 (by omega) (by omega)];omega
  have w2:AP .i64 ((z:Int)+1)=((m:Nat):Int):=by rw [wrap64 (by omega) (by omega)];omega
  by_cases c1:2 * r+1≥hi
  ·have c1':((m:Int) < (hi:Int))=False:=eq_false (by omega)
   rw [←hfe,sd c1]
   refine CW.vc A0 [0,1,2,3,8,9,16,36,52] (by kernel_rfl) ?_
   (repeat ((try refine Vc.mk' ?_);simp (maxSteps:=6000000) only [go_sem,reduceCtorEq,Sz,w1,w2,c1',decide_false,Bool.not_false]))
   (refine ⟨[],by simp,by simp,by simp, ?_, ?_, ?_⟩ <;> simp [Ax,Bt,AB.nil,AB.cons,AD,AJ.A5,AJ.refl,AM hqt,AL])
  ·have c1':((m:Int) < (hi:Int))=True:=eq_true (by omega)
   obtain ⟨k,hk⟩:∃m:Nat,m=2 * r+1+1:=⟨_,rfl⟩
   obtain ⟨a0,ha0⟩:∃m:Nat,m=fi+r:=⟨_,rfl⟩
   obtain ⟨a1,ha1⟩:∃m:Nat,m=fi+(2 * r+1):=⟨_,rfl⟩
   obtain ⟨a2,ha2⟩:∃m:Nat,m=fi+(2 * r+1)+1:=⟨_,rfl⟩
   have w3:AP .i64 ((m:Int)+1)=((k:Nat):Int):=by rw [wrap64 (by omega) (by omega)];omega
   have w4:AP .i64 ((fi:Int)+(m:Int))=((a1:Nat):Int):=by rw [wrap64 (by omega) (by omega)];omega
   have w5:AP .i64 ((a1:Int)+1)=((a2:Nat):Int):=by rw [wrap64 (by omega) (by omega)];omega
   have w6:AP .i64 ((fi:Int)+(r:Int))=((a0:Nat):Int):=by rw [wrap64 (by omega) (by omega)];omega
   have w7:AP .i64 ((fi:Int)+(k:Int))=((a2:Nat):Int):=by rw [wrap64 (by omega) (by omega)];omega
   have hc:=rH (first:=fi) (d:=f) c1
   have hst:=lr (first:=fi) (d:=f) c1
   have hgo:=vg (first:=fi) (d:=f) c1
   have hCd:ik hi fi r f=if 2 * r+1+1 < hi∧ltInt f[fi+(2 * r+1)]! f[fi+(2 * r+1)+1]! = true then 2 * r+1+1 else 2 * r+1:=rfl
   have x0:=fun (bb:Nat)=>Am (b:=bb) hn (show a0 < d.size by omega)
   have l0:∀ {h':Hp},h' q=AQ f→Ad tt.get h' 29 (.pointer (some ⟨q,a0,none⟩))=(.int .u32 f[a0]!,True):=fun hee=>Aj hee (by omega) (by omega)
   have x1:=fun (bb:Nat)=>Am (b:=bb) hn (show a1 < d.size by omega)
   have l1:∀ {h':Hp},h' q=AQ f→Ad tt.get h' 29 (.pointer (some ⟨q,a1,none⟩))=(.int .u32 f[a1]!,True):=fun hee=>Aj hee (by omega) (by omega)
   have e2:fi+(2 * r+1+1)=a2:=by omega
   rw [←ha2,←ha1] at hCd
   by_cases c2:2 * r+1+1 < hi
   ·have c2':((k:Int) < (hi:Int))=True:=eq_true (by omega)
    have x2:=fun (bb:Nat)=>Am (b:=bb) hn (show a2 < d.size by omega)
    have l2:∀ {h':Hp},h' q=AQ f→Ad tt.get h' 29 (.pointer (some ⟨q,a2,none⟩))=(.int .u32 f[a2]!,True):=fun hee=>Aj hee (by omega) (by omega)
    by_cases c3:ltInt f[a1]! f[a2]! = true
    ·rw [if_pos ⟨c2,c3⟩] at hCd
     rw [hCd,e2,←ha0] at hst hgo
     rw [hCd] at hc
     rw [←hk] at hgo hc
     by_cases c4:ltInt f[a0]! f[a2]! = true
     ·have s1a:∀ {h':Hp},h' q=AQ f→Ai tt.get h' 29 (.pointer (some ⟨q,a0,none⟩)) (.int .u32 f[a2]!)=([(q,AQ (f.setIfInBounds a0 f[a2]!))],True):=fun hee=>BC hee (by omega)
      have s1b:∀ {h':Hp},h' q=AQ (f.setIfInBounds a0 f[a2]!)→Ai tt.get h' 29 (.pointer (some ⟨q,a2,none⟩)) (.int .u32 f[a0]!)=([(q,AQ (swp f a0 a2))],True):=fun hee=>BC hee (by rw [Array.size_setIfInBounds];omega)
      refine CW.vc A0 [0,1,2,3,8,9,16,36,52] (by kernel_rfl) ?_
      (repeat ((try refine Vc.mk' ?_);simp (maxSteps:=6000000) only [go_sem,Sz,w1,w2,w3,w4,w5,w6,w7,c1',c2',decide_true,Bool.not_true,x0,l0,x1,l1,x2,l2,Bx,Bi,c3,c4,s1a,s1b]))
      refine .mk (k,swp f a0 a2) ⟨by dsimp only;omega,by dsimp only;rw [swp_size];exact hfs,by dsimp only;rw [←hfe,hgo c4]⟩ (by dsimp only;omega) ((by refine Ao.mk' [] hcl (by simp) (by simp) rfl (AG ?_) ?_ ?_ <;> simp [Ac,BU,Ax,AB.nil,AB.cons,AD,AJ.A5,AJ.refl,AM hqt,AL]))
     ·have c4':ltInt f[a0]! f[a2]! = false:=by simpa using c4
      rw [←hfe,hst c4']
      refine CW.vc A0 [0,1,2,3,8,9,16,36,52] (by kernel_rfl) ?_
      (repeat ((try refine Vc.mk' ?_);simp (maxSteps:=6000000) only [go_sem,Sz,w1,w2,w3,w4,w5,w6,w7,c1',c2',decide_true,Bool.not_true,Bool.not_false,x0,l0,x1,l1,x2,l2,Bx,Bi,c3,c4']))
      (refine ⟨[],by simp,by simp,by simp, ?_, ?_, ?_⟩ <;> simp [Ax,Bt,AB.nil,AB.cons,AD,AJ.A5,AJ.refl,AM hqt,AL])
    ·have c3':ltInt f[a1]! f[a2]! = false:=by simpa using c3
     rw [if_neg (fun h=>c3 h.2)] at hCd
     rw [hCd,←ha1,←ha0] at hst hgo
     rw [hCd] at hc
     rw [←hm] at hgo hc
     by_cases c4:ltInt f[a0]! f[a1]! = true
     ·have s1a:∀ {h':Hp},h' q=AQ f→Ai tt.get h' 29 (.pointer (some ⟨q,a0,none⟩)) (.int .u32 f[a1]!)=([(q,AQ (f.setIfInBounds a0 f[a1]!))],True):=fun hee=>BC hee (by omega)
      have s1b:∀ {h':Hp},h' q=AQ (f.setIfInBounds a0 f[a1]!)→Ai tt.get h' 29 (.pointer (some ⟨q,a1,none⟩)) (.int .u32 f[a0]!)=([(q,AQ (swp f a0 a1))],True):=fun hee=>BC hee (by rw [Array.size_setIfInBounds];omega)
      refine CW.vc A0 [0,1,2,3,8,9,16,36,52] (by kernel_rfl) ?_
      (repeat ((try refine Vc.mk' ?_);simp (maxSteps:=6000000) only [go_sem,Sz,w1,w2,w3,w4,w5,w6,c1',c2',decide_true,Bool.not_true,x0,l0,x1,l1,x2,l2,Bx,Bi,c3',c4,s1a,s1b]))
      refine .mk (m,swp f a0 a1) ⟨by dsimp only;omega,by dsimp only;rw [swp_size];exact hfs,by dsimp only;rw [←hfe,hgo c4]⟩ (by dsimp only;omega) ((by refine Ao.mk' [] hcl (by simp) (by simp) rfl (AG ?_) ?_ ?_ <;> simp [Ac,BU,Ax,AB.nil,AB.cons,AD,AJ.A5,AJ.refl,AM hqt,AL]))
     ·have c4':ltInt f[a0]! f[a1]! = false:=by simpa using c4
      rw [←hfe,hst c4']
      refine CW.vc A0 [0,1,2,3,8,9,16,36,52] (by kernel_rfl) ?_
      (repeat ((try refine Vc.mk' ?_);simp (maxSteps:=6000000) only [go_sem,Sz,w1,w2,w3,w4,w5,w6,c1',c2',decide_true,Bool.not_true,Bool.not_false,x0,l0,x1,l1,x2,l2,Bx,Bi,c3',c4']))
      (refine ⟨[],by simp,by simp,by simp, ?_, ?_, ?_⟩ <;> simp [Ax,Bt,AB.nil,AB.cons,AD,AJ.A5,AJ.refl,AM hqt,AL])
   ·have c2':((k:Int) < (hi:Int))=False:=eq_false (by omega)
    rw [if_neg (fun h=>c2 h.1)] at hCd
    rw [hCd,←ha1,←ha0] at hst hgo
    rw [hCd] at hc
    rw [←hm] at hgo hc
    by_cases c4:ltInt f[a0]! f[a1]! = true
    ·have s1a:∀ {h':Hp},h' q=AQ f→Ai tt.get h' 29 (.pointer (some ⟨q,a0,none⟩)) (.int .u32 f[a1]!)=([(q,AQ (f.setIfInBounds a0 f[a1]!))],True):=fun hee=>BC hee (by omega)
     have s1b:∀ {h':Hp},h' q=AQ (f.setIfInBounds a0 f[a1]!)→Ai tt.get h' 29 (.pointer (some ⟨q,a1,none⟩)) (.int .u32 f[a0]!)=([(q,AQ (swp f a0 a1))],True):=fun hee=>BC hee (by rw [Array.size_setIfInBounds];omega)
     refine CW.vc A0 [0,1,2,3,8,9,16,36,52] (by kernel_rfl) ?_
     (repeat ((try refine Vc.mk' ?_);simp (maxSteps:=6000000) only [go_sem,Sz,w1,w2,w3,w4,w5,w6,c1',c2',decide_true,decide_false,Bool.not_true,x0,l0,x1,l1,Bx,Bi,c4,s1a,s1b]))
     refine .mk (m,swp f a0 a1) ⟨by dsimp only;omega,by dsimp only;rw [swp_size];exact hfs,by dsimp only;rw [←hfe,hgo c4]⟩ (by dsimp only;omega) ((by refine Ao.mk' [] hcl (by simp) (by simp) rfl (AG ?_) ?_ ?_ <;> simp [Ac,BU,Ax,AB.nil,AB.cons,AD,AJ.A5,AJ.refl,AM hqt,AL]))
    ·have c4':ltInt f[a0]! f[a1]! = false:=by simpa using c4
     rw [←hfe,hst c4']
     refine CW.vc A0 [0,1,2,3,8,9,16,36,52] (by kernel_rfl) ?_
     (repeat ((try refine Vc.mk' ?_);simp (maxSteps:=6000000) only [go_sem,Sz,w1,w2,w3,w4,w5,w6,c1',c2',decide_true,decide_false,Bool.not_true,Bool.not_false,x0,l0,x1,l1,Bx,Bi,c4']))
     (refine ⟨[],by simp,by simp,by simp, ?_, ?_, ?_⟩ <;> simp [Ax,Bt,AB.nil,AB.cons,AD,AJ.A5,AJ.refl,AM hqt,AL])
end Go.Proofs.YthpibnpeaidabaaGreatDoor.Dm
set_option linter.unusedVariables false
namespace Go.Proofs.YthpibnpeaidabaaGreatDoor.Dm
open Go.Dm
open Go.Sort (ltInt swp)
set_option maxHeartbeats 16000000
set_option maxRecDepth 20000
theorem L7 {hi first root:Nat}{d:Array Int}:(Go.Sort.siftDown ltInt hi first root d).size=d.size:=GK _ _ _ (Nat.le_refl _)
theorem Xq {hi first:Nat}:∀(k:Nat) (d:Array Int),(Go.Sort.heapBuild ltInt hi first k d).size=d.size
 |0,_=>rfl
 |k+1,d=>by rw [Go.Sort.heapBuild,Xq k,L7]
theorem W0 {first:Nat}:∀(k:Nat) (d:Array Int),(Go.Sort.heapPop ltInt first k d).size=d.size
 |0,_=>rfl
 |k+1,d=>by rw [Go.Sort.heapPop,W0 k,L7,swp_size]
theorem OH {d:Array Int}{a b:Nat}:(Go.Sort.heapSort ltInt d a b).size=d.size:=by rw [Go.Sort.heapSort,W0,Xq]
def GS2:FuncId→BG:=BQ (BQ vJ 132 Tn) 107 OY
theorem Up:B4 Tryz.prog tt.get GS2:=(A0.add vY).add qf
theorem pn:GS2 132=Tn:=rfl
def Ob (hp:Hp)(v:Value)(a b:Int):Prop:= ∃q d,DX hp v q d∧0≤a∧a < b∧b≤(d.size:Int)
def Hl (f:Array Int→Nat→Nat→Array Int):BG:= .det (fun args hp _=>match args with | [v, .int .i64 a, .int .i64 b]=>Ob hp v a b | _=>False)
 (fun args hp top=>match args with | [v,a,b]=>(.tuple ⟨[]⟩,U4 v (f (Hh hp v) (intOf a).toNat (intOf b).toNat),top) | _=>(undef, [],top))
def rC (hp:Hp)(top:Nat)(q n a h:Nat)(x:Nat×Array Int):SS:=⟨[(0, .slice (some ⟨q,0,none⟩) n n,true),(6, .int .i64 (a:Int),true),(7, .int .i64 0,true),(8, .int .i64 (h:Int),true),(9, .int .i64 ((x.1:Int) - 1),true)],hp.Al [(q,AQ x.2)],top+0⟩
def uK (hp:Hp)(top:Nat)(q n a:Nat)(x:Nat×Array Int):SS:=⟨[(0, .slice (some ⟨q,0,none⟩) n n,true),(6, .int .i64 (a:Int),true),(7, .int .i64 0,true),(10, .int .i64 ((x.1:Int) - 1),true)],hp.Al [(q,AQ x.2)],top+0⟩
theorem kP:Aw Tryz.prog 108 (Hl (Go.Sort.heapSort ltInt)):=by
 refine .Cg Mt ?_
 intro args hp top hpre hcl hsc
 match args,hpre with
 | [v, .int .i64 a, .int .i64 b],hpre=>
 obtain ⟨q,d,hrow,h1,h2,h3⟩:=hpre
 obtain ⟨a,rfl⟩:=Int.eq_ofNat_of_zero_le h1
 obtain ⟨b,rfl⟩:=Int.eq_ofNat_of_zero_le (show 0≤b by omega)
 have hn:d.size≤35184372088832:=hrow.le
 have hqt:=hrow.Z4 hcl
 have h0:0 < d.size:=hrow.pos
 simp only [hrow.D5,hrow.MR,intOf_int,Int.toNat_natCast]
 obtain ⟨rfl,ho,_,_⟩:=hrow
 have hab:a < b:=by omega
 have hbn:b≤d.size:=by omega
 obtain ⟨h,hh⟩:∃m:Nat,m=b - a:=⟨_,rfl⟩
 obtain ⟨K,hK⟩:∃m:Nat,m=(b - a - 1) / 2+1:=⟨_,rfl⟩
 have w1:AP .i64 ((b:Int) - (a:Int))=((h:Nat):Int):=by rw [wrap64 (by omega) (by omega)];omega
 have w2:AP .i64 ((h:Int) - 1)=((h - 1:Nat):Int):=by rw [wrap64 (by omega) (by omega)];omega
 have w3:IntKind.i64.wrap (((h - 1:Nat):Int) / 2)=(K:Int) - 1:=by rw [←CS,wrap64 (by omega) (by omega)];omega
 have e0:Go.Sort.heapSort ltInt d a b=Go.Sort.heapPop ltInt a h (Go.Sort.heapBuild ltInt h a K d):=by rw [Go.Sort.heapSort,hK,hh]
 rw [e0]
 refine AK.Ar A7 Mt rfl 56 rfl [] rfl (show 3≤56 by decide) ?_
 refine CW.vc Up [0,1,2,6,7,8,9,10,19,30] (by kernel_rfl) ?_
 (repeat ((try refine Vc.mk' ?_);simp (maxSteps:=6000000) only [go_sem,Nat.reduceAdd,Int.reduceEq,w1,w2]))
 refine CW.Bs (rC hp top q d.size a h) (fun x=>x.1≤K∧x.2.size=d.size∧Go.Sort.heapBuild ltInt h a x.1 x.2=Go.Sort.heapBuild ltInt h a K d) (fun x=>x.1) (K,d) ⟨Nat.le_refl _,rfl,rfl⟩ ?_ ?_
 ·exact (by refine Ao.mk' [] hcl (by simp) (by simp) rfl (AG ?_) ?_ ?_ <;> simp [Ac,BU,Ax,AB.nil,AB.cons,AJ.refl,AM hqt,AL,ho,w3])
 ·rintro ⟨k,f⟩ ⟨hk,hfs,hfe⟩
  dsimp only at hk hfs hfe ⊢
  cases k with
  |succ k=>
   have ek:(((k+1:Nat):Int) - 1)=(k:Int):=by omega
   have c1:((k:Int) < 0)=False:=eq_false (by omega)
   have w4:AP .i64 ((k:Int) - 1)=(k:Int) - 1:=wrap64 (by omega) (by omega)
   have hP:∀ {h':Hp},h' q=AQ f→aN h' (.slice (some ⟨q,0,none⟩) d.size d.size) (k:Int) (h:Int) (a:Int)=True:=fun e=>eq_true ⟨q,f,Cu e hfs h0 hn,by omega,by omega,by omega,by omega,by omega⟩
   have hD:∀ {h':Hp},h' q=AQ f→Hh h' (.slice (some ⟨q,0,none⟩) d.size d.size)=f:=fun e=>(Cu e hfs h0 hn).D5
   refine CW.vc Up [0,1,2,6,7,8,9,10,19,30] (by kernel_rfl) ?_
   (repeat ((try refine Vc.mk' ?_);simp (maxSteps:=6000000) only [go_sem,rC,ek,c1,decide_false,Bool.not_false,pn,Tn,hP,hD,EG,w4,Int.toNat_natCast]))
   refine .mk (k,Go.Sort.siftDown ltInt h a k f) ⟨by dsimp only;omega,by dsimp only;rw [L7];exact hfs,by dsimp only;rw [←hfe,Go.Sort.heapBuild]⟩ (by dsimp only;omega) ((by refine Ao.mk' [] hcl (by simp) (by simp) rfl (AG ?_) ?_ ?_ <;> simp [Ac,BU,Ax,AB.nil,AB.cons,AD,AJ.A5,AJ.refl,AM hqt,AL]))
  |zero=>
   have ek:(((0:Nat):Int) - 1)= -1:=by decide
   have c1:((-1:Int) < 0)=True:=eq_true (by decide)
   have hf:f=Go.Sort.heapBuild ltInt h a K d:=hfe
   rw [←hf]
   clear hfe
   have w5:AP .i64 ((h:Int) - 1)=(h:Int) - 1:=wrap64 (by omega) (by omega)
   clear w2
   refine CW.vc Up [0,1,2,6,7,8,9,10,19,30] (by kernel_rfl) ?_
   (repeat ((try refine Vc.mk' ?_);simp (maxSteps:=6000000) only [go_sem,rC,ek,c1,decide_true,Bool.not_true,w5]))
   refine CW.Bs (uK hp top q d.size a) (fun x=>x.1≤h∧x.2.size=d.size∧Go.Sort.heapPop ltInt a x.1 x.2=Go.Sort.heapPop ltInt a h f) (fun x=>x.1) (h,f) ⟨Nat.le_refl _,hfs,rfl⟩ ?_ ?_
   ·exact (by refine Ao.mk' [] hcl (by simp) (by simp) rfl (AG ?_) ?_ ?_ <;> simp [Ac,BU,Ax,AB.nil,AB.cons,AD,AJ.A5,AJ.refl,AM hqt,AL])
   ·rintro ⟨k,g⟩ ⟨hk,hgs,hge⟩
    dsimp only at hk hgs hge ⊢
    cases k with
    |succ k=>
     have ek:(((k+1:Nat):Int) - 1)=(k:Int):=by omega
     have c1:((k:Int) < 0)=False:=eq_false (by omega)
     have w4:AP .i64 ((k:Int) - 1)=(k:Int) - 1:=wrap64 (by omega) (by omega)
     obtain ⟨p,hp⟩:∃m:Nat,m=a+k:=⟨_,rfl⟩
     have w6:AP .i64 ((a:Int)+(k:Int))=((p:Nat):Int):=by rw [wrap64 (by omega) (by omega)];omega
     have x0:=fun (bb:Nat)=>Am (b:=bb) hn (show a < d.size by omega)
     have l0:∀ {h':Hp},h' q=AQ g→Ad tt.get h' 29 (.pointer (some ⟨q,a,none⟩))=(.int .u32 g[a]!,True):=fun hee=>Aj hee (by omega) (by omega)
     have x1:=fun (bb:Nat)=>Am (b:=bb) hn (show p < d.size by omega)
     have l1:∀ {h':Hp},h' q=AQ g→Ad tt.get h' 29 (.pointer (some ⟨q,p,none⟩))=(.int .u32 g[p]!,True):=fun hee=>Aj hee (by omega) (by omega)
     have s1a:∀ {h':Hp},h' q=AQ g→Ai tt.get h' 29 (.pointer (some ⟨q,a,none⟩)) (.int .u32 g[p]!)=([(q,AQ (g.setIfInBounds a g[p]!))],True):=fun hee=>BC hee (by omega)
     have s1b:∀ {h':Hp},h' q=AQ (g.setIfInBounds a g[p]!)→Ai tt.get h' 29 (.pointer (some ⟨q,p,none⟩)) (.int .u32 g[a]!)=([(q,AQ (swp g a p))],True):=fun hee=>BC hee (by rw [Array.size_setIfInBounds];omega)
     have hss:(swp g a p).size=d.size:=by rw [swp_size];exact hgs
     have hP:∀ {h':Hp},h' q=AQ (swp g a p)→aN h' (.slice (some ⟨q,0,none⟩) d.size d.size) 0 (k:Int) (a:Int)=True:=fun e=>eq_true ⟨q,_,Cu e hss h0 hn,by omega,by omega,by omega,by omega,by omega⟩
     have hD:∀ {h':Hp},h' q=AQ (swp g a p)→Hh h' (.slice (some ⟨q,0,none⟩) d.size d.size)=swp g a p:=fun e=>(Cu e hss h0 hn).D5
     refine CW.vc Up [0,1,2,6,7,8,9,10,19,30] (by kernel_rfl) ?_
     (repeat ((try refine Vc.mk' ?_);simp (maxSteps:=6000000) only [go_sem,uK,ek,c1,decide_false,Bool.not_false,w6,x0,l0,x1,l1,s1a,s1b,pn,Tn,hP,hD,EG,w4,Int.toNat_natCast,Int.toNat_zero]))
     refine .mk (k,Go.Sort.siftDown ltInt k a 0 (swp g a p)) ⟨by dsimp only;omega,by dsimp only;rw [L7];exact hss,by dsimp only;rw [←hge,Go.Sort.heapPop,←hp]⟩ (by dsimp only;omega) ((by refine Ao.mk' [] hcl (by simp) (by simp) rfl (AG ?_) ?_ ?_ <;> simp [Ac,BU,Ax,AB.nil,AB.cons,AD,AJ.A5,AJ.refl,AM hqt,AL]))
    |zero=>
     have hg:g=Go.Sort.heapPop ltInt a h f:=hge
     rw [←hg]
     refine CW.vc Up [0,1,2,6,7,8,9,10,19,30] (by kernel_rfl) ?_
     (repeat ((try refine Vc.mk' ?_);simp (maxSteps:=6000000) only [go_sem,uK,ek,c1,decide_true,Bool.not_true]))
     (refine ⟨[],by simp,by simp,by simp, ?_, ?_, ?_⟩ <;> simp [Ax,Bt,AB.nil,AB.cons,AD,AJ.A5,AJ.refl,AM hqt,AL])
end Go.Proofs.YthpibnpeaidabaaGreatDoor.Dm
set_option linter.unusedVariables false
namespace Go.Proofs.YthpibnpeaidabaaGreatDoor.Dm
open Go.Dm
open Go.Sort (ltInt swp)
set_option maxHeartbeats 16000000
set_option maxRecDepth 20000
theorem XA:∀(k i j:Nat) (d:Array Int),j - i≤k→(Go.Sort.reverseLoop i j d).size=d.size
 |0,i,j,d,h=>by rw [Go.Sort.reverseLoop,if_neg (by omega)]
 |k+1,i,j,d,h=>by
  rw [Go.Sort.reverseLoop]
  split
  ·rw [XA k _ _ _ (by omega),swp_size]
  ·rfl
theorem RI {d:Array Int}{a b:Nat}:(Go.Sort.reverseRange d a b).size=d.size:=XA _ _ _ _ (Nat.le_refl _)
def sk (hp:Hp)(top:Nat)(q n:Nat)(x:Nat×Nat×Array Int):SS:=⟨[(0, .slice (some ⟨q,0,none⟩) n n,true),(6, .int .i64 (x.1:Int),true),(7, .int .i64 (x.2.1:Int),true)],hp.Al [(q,AQ x.2.2)],top+0⟩
theorem V7:Aw Tryz.prog 111 (Hl Go.Sort.reverseRange):=by
 refine .Cg NX ?_
 intro args hp top hpre hcl hsc
 match args,hpre with
 | [v, .int .i64 a, .int .i64 b],hpre=>
 obtain ⟨q,d,hrow,h1,h2,h3⟩:=hpre
 obtain ⟨a,rfl⟩:=Int.eq_ofNat_of_zero_le h1
 obtain ⟨b,rfl⟩:=Int.eq_ofNat_of_zero_le (show 0≤b by omega)
 have hn:d.size≤35184372088832:=hrow.le
 have hqt:=hrow.Z4 hcl
 have h0:0 < d.size:=hrow.pos
 simp only [hrow.D5,hrow.MR,intOf_int,Int.toNat_natCast]
 obtain ⟨rfl,ho,_,_⟩:=hrow
 have hab:a < b:=by omega
 have hbn:b≤d.size:=by omega
 obtain ⟨c,hc⟩:∃m:Nat,m=b - 1:=⟨_,rfl⟩
 have w1:AP .i64 ((b:Int) - 1)=((c:Nat):Int):=by rw [wrap64 (by omega) (by omega)];omega
 have e0:Go.Sort.reverseRange d a b=Go.Sort.reverseLoop a c d:=by rw [Go.Sort.reverseRange,hc]
 rw [e0]
 refine AK.Ar A7 NX rfl 32 rfl [] rfl (show 3≤32 by decide) ?_
 refine CW.vc A0 [0,1,2,6,7,13] (by kernel_rfl) ?_
 (repeat ((try refine Vc.mk' ?_);simp (maxSteps:=6000000) only [go_sem,Nat.reduceAdd,w1]))
 refine CW.Bs (sk hp top q d.size) (fun x=>x.2.1 < d.size∧x.2.2.size=d.size∧Go.Sort.reverseLoop x.1 x.2.1 x.2.2=Go.Sort.reverseLoop a c d) (fun x=>x.2.1 - x.1) (a,c,d) ⟨by dsimp only;omega,rfl,rfl⟩ ?_ ?_
 ·exact (by refine Ao.mk' [] hcl (by simp) (by simp) rfl (AG ?_) ?_ ?_ <;> simp [Ac,BU,Ax,AB.nil,AB.cons,AJ.refl,AM hqt,AL,ho])
 ·rintro ⟨i,j,f⟩ ⟨hj,hfs,hfe⟩
  dsimp only at hj hfs hfe ⊢
  by_cases c1:i < j
  ·have x0:=fun (bb:Nat)=>Am (b:=bb) hn (show i < d.size by omega)
   have l0:∀ {h':Hp},h' q=AQ f→Ad tt.get h' 29 (.pointer (some ⟨q,i,none⟩))=(.int .u32 f[i]!,True):=fun hee=>Aj hee (by omega) (by omega)
   have x1:=fun (bb:Nat)=>Am (b:=bb) hn (show j < d.size by omega)
   have l1:∀ {h':Hp},h' q=AQ f→Ad tt.get h' 29 (.pointer (some ⟨q,j,none⟩))=(.int .u32 f[j]!,True):=fun hee=>Aj hee (by omega) (by omega)
   have s1a:∀ {h':Hp},h' q=AQ f→Ai tt.get h' 29 (.pointer (some ⟨q,i,none⟩)) (.int .u32 f[j]!)=([(q,AQ (f.setIfInBounds i f[j]!))],True):=fun hee=>BC hee (by omega)
   have s1b:∀ {h':Hp},h' q=AQ (f.setIfInBounds i f[j]!)→Ai tt.get h' 29 (.pointer (some ⟨q,j,none⟩)) (.int .u32 f[i]!)=([(q,AQ (swp f i j))],True):=fun hee=>BC hee (by rw [Array.size_setIfInBounds];omega)
   obtain ⟨i2,hi2⟩:∃m:Nat,m=i+1:=⟨_,rfl⟩
   obtain ⟨j2,hj2⟩:∃m:Nat,m=j - 1:=⟨_,rfl⟩
   have w2:AP .i64 ((i:Int)+1)=((i2:Nat):Int):=by rw [wrap64 (by omega) (by omega)];omega
   have w3:AP .i64 ((j:Int) - 1)=((j2:Nat):Int):=by rw [wrap64 (by omega) (by omega)];omega
   refine CW.vc A0 [0,1,2,6,7,13] (by kernel_rfl) ?_
   (repeat ((try refine Vc.mk' ?_);simp (maxSteps:=6000000) only [go_sem,sk,c1,decide_true,x0,l0,x1,l1,s1a,s1b,w2,w3]))
   refine .mk (i2,j2,swp f i j) ⟨by dsimp only;omega,by dsimp only;rw [swp_size];exact hfs,by dsimp only;rw [←hfe];conv=> {rhs;rw [Go.Sort.reverseLoop,if_pos c1]};rw [hi2,hj2]⟩ (by dsimp only;omega) ((by refine Ao.mk' [] hcl (by simp) (by simp) rfl (AG ?_) ?_ ?_ <;> simp [Ac,BU,Ax,AB.nil,AB.cons,AD,AJ.A5,AJ.refl,AM hqt,AL]))
  ·have hf:f=Go.Sort.reverseLoop a c d:=by rw [←hfe,Go.Sort.reverseLoop,if_neg c1]
   rw [←hf]
   refine CW.vc A0 [0,1,2,6,7,13] (by kernel_rfl) ?_
   (repeat ((try refine Vc.mk' ?_);simp (maxSteps:=6000000) only [go_sem,sk,c1,decide_false]))
   (refine ⟨[],by simp,by simp,by simp, ?_, ?_, ?_⟩ <;> simp [Ax,Bt,AB.nil,AB.cons,AD,AJ.A5,AJ.refl,AM hqt,AL])
end Go.Proofs.YthpibnpeaidabaaGreatDoor.Dm
set_option linter.unusedVariables false
namespace Go.Proofs.YthpibnpeaidabaaGreatDoor.Dm
open Go.Dm
open Go.Sort (ltInt swp)
set_option maxHeartbeats 16000000
set_option maxRecDepth 20000
def I3 (k:Nat):Option Ay:=some (.cells true 0 [.int .i64 (k:Int)])
def R2 (hp:Hp)(s:Nat):Nat:=match hp s with | some (.cells _ _ [.int _ k])=>k.toNat | _=>0
theorem Ey {hp:Hp}{s k:Nat}(h:hp s=I3 k):R2 hp s=k:=by unfold R2;rw [h];simp [I3]
theorem gK {hp:Hp}{v:Value}{q s k:Nat}{d:Array Int}(h:DX hp v q d)(hs:hp s=I3 k):q≠s:=by
 intro e
 subst e
 have:=h.o.symm.trans hs
 unfold AQ I3 AV at this
 split at this
 ·cases this
 ·simp only [Option.some.injEq,Ay.cells.injEq] at this
  exact absurd this.2.1 (by decide)
theorem PC {d:Array Int}{a b k n:Nat}(ha:a < n)(hb:b < n):(Go.Sort.order2 ltInt d a b k).1 < n∧(Go.Sort.order2 ltInt d a b k).2.1 < n∧(Go.Sort.order2 ltInt d a b k).2.2≤k+1:=by
 unfold Go.Sort.order2
 split
 ·exact ⟨hb,ha,Nat.le_refl _⟩
 ·exact ⟨ha,hb,by dsimp only;omega⟩
theorem iI {d:Array Int}{a b c k n:Nat}(ha:a < n)(hb:b < n)(hc:c < n):(Go.Sort.median ltInt d a b c k).1 < n∧(Go.Sort.median ltInt d a b c k).2≤k+3:=by
 have h1:=PC (d:=d) (k:=k) ha hb
 have h2:=PC (d:=d) (k:=(Go.Sort.order2 ltInt d a b k).2.2) h1.2.1 hc
 have h3:=PC (d:=d) (k:=(Go.Sort.order2 ltInt d (Go.Sort.order2 ltInt d a b k).2.1 c (Go.Sort.order2 ltInt d a b k).2.2).2.2) h1.1 h2.1
 unfold Go.Sort.median
 dsimp only
 omega
def U0 (hp:Hp)(v:Value)(a b:Int)(s:Nat):Prop:= ∃q d k,DX hp v q d∧0≤a∧a < (d.size:Int)∧0≤b∧b < (d.size:Int)∧hp s=I3 k∧k≤1000
def Wp:BG:= .det (fun args hp _=>match args with | [v, .int .i64 a, .int .i64 b, .pointer (some ⟨s,0,none⟩)]=>U0 hp v a b s | _=>False)
 (fun args hp top=>match args with
  | [v,a,b, .pointer (some ⟨s,_,_⟩)]=>(.tuple ⟨[.int .i64 (Go.Sort.order2 ltInt (Hh hp v) (intOf a).toNat (intOf b).toNat (R2 hp s)).1, .int .i64 (Go.Sort.order2 ltInt (Hh hp v) (intOf a).toNat (intOf b).toNat (R2 hp s)).2.1]⟩, [(s,I3 (Go.Sort.order2 ltInt (Hh hp v) (intOf a).toNat (intOf b).toNat (R2 hp s)).2.2)],top)
  |_=>(undef, [],top))
theorem Ve {hp:Hp}{s k top:Nat}(hcl:Cl hp top)(h:hp s=I3 k):s < top:=hcl.lt s _ h
theorem YA {ρ:Nat→Nat}{k:Nat}:IZ ρ (I3 k)=I3 k:=rfl
theorem vO:Aw Tryz.prog 142 Wp:=by
 refine .Cg Nj ?_
 intro args hp top hpre hcl hsc
 match args,hpre with
 | [v, .int .i64 a, .int .i64 b, .pointer (some ⟨s,0,none⟩)],hpre=>
 obtain ⟨q,d,k,hrow,h1,h2,h3,h4,hs,hk⟩:=hpre
 obtain ⟨a,rfl⟩:=Int.eq_ofNat_of_zero_le h1
 obtain ⟨b,rfl⟩:=Int.eq_ofNat_of_zero_le h3
 have hn:d.size≤35184372088832:=hrow.le
 have hst:=Ve hcl hs
 have hne:=gK hrow hs
 simp only [hrow.D5,Ey hs,intOf_int,Int.toNat_natCast]
 obtain ⟨rfl,ho,_,_⟩:=hrow
 have hs':hp s=some (.cells true 0 [.int .i64 (k:Int)]):=hs
 have x0:=fun (bb:Nat)=>Am (b:=bb) hn (show a < d.size by omega)
 have l0:Ad tt.get hp 29 (.pointer (some ⟨q,a,none⟩))=(.int .u32 d[a]!,True):=Aj ho (by omega) (by omega)
 have x1:=fun (bb:Nat)=>Am (b:=bb) hn (show b < d.size by omega)
 have l1:Ad tt.get hp 29 (.pointer (some ⟨q,b,none⟩))=(.int .u32 d[b]!,True):=Aj ho (by omega) (by omega)
 have w1:AP .i64 ((k:Int)+1)=((k+1:Nat):Int):=by rw [wrap64 (by omega) (by omega)];omega
 refine AK.Ar A7 Nj rfl 28 rfl [.tmp 8, .tmp 9] rfl (show 4≤28 by decide) ?_
 by_cases c:ltInt d[b]! d[a]! = true
 ·have e:Go.Sort.order2 ltInt d a b k=(b,a,k+1):=by unfold Go.Sort.order2;rw [if_pos c]
  simp only [e]
  refine CW.vc A0 [0,1,2,3,8,9,18] (by kernel_rfl) ?_
  (repeat ((try refine Vc.mk' ?_);simp (maxSteps:=6000000) only [go_sem,Nat.reduceAdd,x0,l0,x1,l1,Bx,Bi,c,hs',w1]))
  (refine ⟨[],by simp,by simp,by simp, ?_, ?_, ?_⟩ <;> simp [Ax,Bt,AB.nil,AB.cons,A9,BA,AD,AJ.A5,AJ.refl,AM hst,I3])
 ·have c':ltInt d[b]! d[a]! = false:=by simpa using c
  have e:Go.Sort.order2 ltInt d a b k=(a,b,k):=by unfold Go.Sort.order2;rw [if_neg c]
  simp only [e]
  refine CW.vc A0 [0,1,2,3,8,9,18] (by kernel_rfl) ?_
  (repeat ((try refine Vc.mk' ?_);simp (maxSteps:=6000000) only [go_sem,Nat.reduceAdd,x0,l0,x1,l1,Bx,Bi,c']))
  (refine ⟨[],by simp,by simp,by simp, ?_, ?_, ?_⟩ <;> simp [Ax,Bt,AB.nil,AB.cons,A9,BA,AJ.refl,AM hst,I3,hs'])
def GS3:FuncId→BG:=BQ vJ 142 Wp
theorem oa:B4 Tryz.prog tt.get GS3:=A0.add vO
theorem xq:GS3 142=Wp:=rfl
def XG (hp:Hp)(v:Value)(a b c:Int)(s:Nat):Prop:= ∃q d k,DX hp v q d∧0≤a∧a < (d.size:Int)∧0≤b∧b < (d.size:Int)∧0≤c∧c < (d.size:Int)∧hp s=I3 k∧k≤900
def H6:BG:= .det (fun args hp _=>match args with | [v, .int .i64 a, .int .i64 b, .int .i64 c, .pointer (some ⟨s,0,none⟩)]=>XG hp v a b c s | _=>False)
 (fun args hp top=>match args with
  | [v,a,b,c, .pointer (some ⟨s,_,_⟩)]=>(.int .i64 (Go.Sort.median ltInt (Hh hp v) (intOf a).toNat (intOf b).toNat (intOf c).toNat (R2 hp s)).1, [(s,I3 (Go.Sort.median ltInt (Hh hp v) (intOf a).toNat (intOf b).toNat (intOf c).toNat (R2 hp s)).2)],top)
  |_=>(undef, [],top))
theorem wE:Aw Tryz.prog 136 H6:=by
 refine .Cg Nv ?_
 intro args hp top hpre hcl hsc
 match args,hpre with
 | [v, .int .i64 a, .int .i64 b, .int .i64 c, .pointer (some ⟨s,0,none⟩)],hpre=>
 obtain ⟨q,d,k,hrow,h1,h2,h3,h4,h5,h6,hs,hk⟩:=hpre
 obtain ⟨a,rfl⟩:=Int.eq_ofNat_of_zero_le h1
 obtain ⟨b,rfl⟩:=Int.eq_ofNat_of_zero_le h3
 obtain ⟨c,rfl⟩:=Int.eq_ofNat_of_zero_le h5
 have hn:d.size≤35184372088832:=hrow.le
 have h0:0 < d.size:=hrow.pos
 have hst:=Ve hcl hs
 have hne:=gK hrow hs
 simp only [hrow.D5,Ey hs,intOf_int,Int.toNat_natCast]
 obtain ⟨rfl,ho,_,_⟩:=hrow
 have g1:=PC (d:=d) (k:=k) (n:=d.size) (show a < d.size by omega) (show b < d.size by omega)
 have eM:Go.Sort.median ltInt d a b c k=((Go.Sort.order2 ltInt d (Go.Sort.order2 ltInt d a b k).1 (Go.Sort.order2 ltInt d (Go.Sort.order2 ltInt d a b k).2.1 c (Go.Sort.order2 ltInt d a b k).2.2).1 (Go.Sort.order2 ltInt d (Go.Sort.order2 ltInt d a b k).2.1 c (Go.Sort.order2 ltInt d a b k).2.2).2.2).2.1,(Go.Sort.order2 ltInt d (Go.Sort.order2 ltInt d a b k).1 (Go.Sort.order2 ltInt d (Go.Sort.order2 ltInt d a b k).2.1 c (Go.Sort.order2 ltInt d a b k).2.2).1 (Go.Sort.order2 ltInt d (Go.Sort.order2 ltInt d a b k).2.1 c (Go.Sort.order2 ltInt d a b k).2.2).2.2).2.2):=rfl
 rw [eM]
 generalize e1:Go.Sort.order2 ltInt d a b k=r1 at g1
 have g2:=PC (d:=d) (k:=r1.2.2) (n:=d.size) g1.2.1 (show c < d.size by omega)
 generalize e2:Go.Sort.order2 ltInt d r1.2.1 c r1.2.2=r2 at g2
 have g3:=PC (d:=d) (k:=r2.2.2) (n:=d.size) g1.1 g2.1
 generalize e3:Go.Sort.order2 ltInt d r1.1 r2.1 r2.2.2=r3 at g3
 have hP:∀ {h':Hp} (x y j:Nat),h' q=AQ d→h' s=I3 j→x < d.size→y < d.size→j≤1000→U0 h' (.slice (some ⟨q,0,none⟩) d.size d.size) (x:Int) (y:Int) s=True:=fun x y j e f u v w=>eq_true ⟨q,d,j,Cu e rfl h0 hn,by omega,by omega,by omega,by omega,f,w⟩
 have p1:U0 hp (.slice (some ⟨q,0,none⟩) d.size d.size) (a:Int) (b:Int) s=True:=hP a b k ho hs (by omega) (by omega) (by omega)
 have p2:∀ {h':Hp},h' q=AQ d→h' s=I3 r1.2.2→U0 h' (.slice (some ⟨q,0,none⟩) d.size d.size) (r1.2.1:Int) (c:Int) s=True:=fun e f=>hP _ c _ e f g1.2.1 (by omega) (by omega)
 have p3:∀ {h':Hp},h' q=AQ d→h' s=I3 r2.2.2→U0 h' (.slice (some ⟨q,0,none⟩) d.size d.size) (r1.1:Int) (r2.1:Int) s=True:=fun e f=>hP _ _ _ e f g1.1 g2.1 (by omega)
 have hD:∀ {h':Hp},h' q=AQ d→Hh h' (.slice (some ⟨q,0,none⟩) d.size d.size)=d:=fun e=>(Cu e rfl h0 hn).D5
 have k0:R2 hp s=k:=Ey hs
 have k1:∀ {h':Hp},h' s=I3 r1.2.2→R2 h' s=r1.2.2:=fun e=>Ey e
 have k2:∀ {h':Hp},h' s=I3 r2.2.2→R2 h' s=r2.2.2:=fun e=>Ey e
 have rq:∀ {h':Hp} {o:Option Ay},(h'.set s o) q=h' q:=fun {h'} {o}=>by simp only [Hp.set,if_neg hne]
 have rs:∀ {h':Hp} {o:Option Ay},(h'.set s o) s=o:=fun {h'} {o}=>by simp only [Hp.set,if_true]
 refine AK.Ar A7 Nv rfl 36 rfl [.tmp 10] rfl (show 5≤36 by decide) ?_
 refine CW.vc oa [0,1,2,3,4,10] (by kernel_rfl) ?_
 (repeat ((try refine Vc.mk' ?_);simp (maxSteps:=6000000) only [go_sem,Nat.reduceAdd,xq,Wp,p1,p2,p3,hD,ho,k0,k1,k2,rq,rs,Int.toNat_natCast,e1,e2,e3]))
 (refine ⟨[],by simp,by simp,by simp, ?_, ?_, ?_⟩ <;> simp [Ax,AB.nil,AB.cons,AD,AJ.A5,AJ.refl,AM hst,YA])
end Go.Proofs.YthpibnpeaidabaaGreatDoor.Dm
set_option linter.unusedVariables false
namespace Go.Proofs.YthpibnpeaidabaaGreatDoor.Dm
open Go.Dm
open Go.Sort (ltInt swp)
set_option maxHeartbeats 16000000
set_option maxRecDepth 20000
def zo:FuncId→BG:=BQ GS3 136 H6
theorem ox:B4 Tryz.prog tt.get zo:=oa.add wE
theorem xU:zo 136=H6:=rfl
def Xp (hp:Hp)(v:Value)(a:Int)(s:Nat):Prop:= ∃q d k,DX hp v q d∧1≤a∧a+1 < (d.size:Int)∧hp s=I3 k∧k≤800
def Om:BG:= .det (fun args hp _=>match args with | [v, .int .i64 a, .pointer (some ⟨s,0,none⟩)]=>Xp hp v a s | _=>False)
 (fun args hp top=>match args with
  | [v,a, .pointer (some ⟨s,_,_⟩)]=>(.int .i64 (Go.Sort.medianAdjacent ltInt (Hh hp v) (intOf a).toNat (R2 hp s)).1, [(s,I3 (Go.Sort.medianAdjacent ltInt (Hh hp v) (intOf a).toNat (R2 hp s)).2)],top)
  |_=>(undef, [],top))
theorem yk:Aw Tryz.prog 135 Om:=by
 refine .Cg MV ?_
 intro args hp top hpre hcl hsc
 match args,hpre with
 | [v, .int .i64 a, .pointer (some ⟨s,0,none⟩)],hpre=>
 obtain ⟨q,d,k,hrow,h1,h2,hs,hk⟩:=hpre
 obtain ⟨a,rfl⟩:=Int.eq_ofNat_of_zero_le (show 0≤a by omega)
 have hn:d.size≤35184372088832:=hrow.le
 have h0:0 < d.size:=hrow.pos
 have hst:=Ve hcl hs
 simp only [hrow.D5,Ey hs,intOf_int,Int.toNat_natCast]
 have hd:=hrow.D5
 obtain ⟨rfl,ho,_,_⟩:=hrow
 obtain ⟨a1,ha1⟩:∃m:Nat,m=a - 1:=⟨_,rfl⟩
 obtain ⟨a2,ha2⟩:∃m:Nat,m=a+1:=⟨_,rfl⟩
 have w1:AP .i64 ((a:Int) - 1)=((a1:Nat):Int):=by rw [wrap64 (by omega) (by omega)];omega
 have w2:AP .i64 ((a:Int)+1)=((a2:Nat):Int):=by rw [wrap64 (by omega) (by omega)];omega
 have e:Go.Sort.medianAdjacent ltInt d a k=Go.Sort.median ltInt d a1 a a2 k:=by rw [ha1,ha2];rfl
 rw [e]
 have p1:XG hp (.slice (some ⟨q,0,none⟩) d.size d.size) (a1:Int) (a:Int) (a2:Int) s=True:=eq_true ⟨q,d,k,Cu ho rfl h0 hn,by omega,by omega,by omega,by omega,by omega,by omega,hs,by omega⟩
 have k0:R2 hp s=k:=Ey hs
 refine AK.Ar A7 MV rfl 15 rfl [.tmp 6] rfl (show 3≤15 by decide) ?_
 refine CW.vc ox [0,1,2,6] (by kernel_rfl) ?_
 (repeat ((try refine Vc.mk' ?_);simp (maxSteps:=6000000) only [go_sem,Nat.reduceAdd,w1,w2,xU,H6,p1,hd,k0,Int.toNat_natCast]))
 (refine ⟨[],by simp,by simp,by simp, ?_, ?_, ?_⟩ <;> simp [Ax,AB.nil,AB.cons,AD,AJ.A5,AJ.refl,AM hst,YA])
theorem dm {d:Array Int}{a k n:Nat}(h1:1≤a)(h2:a+1 < n):(Go.Sort.medianAdjacent ltInt d a k).1 < n∧(Go.Sort.medianAdjacent ltInt d a k).2≤k+3:=iI (show a - 1 < n by omega) (show a < n by omega) h2
def IM:Go.Sort.Hint→Int
 | .unknown=>0
 | .increasing=>1
 | .decreasing=>2
def GS5:FuncId→BG:=BQ zo 135 Om
theorem MQ:B4 Tryz.prog tt.get GS5:=ox.add yk
theorem cg:GS5 135=Om:=rfl
theorem Oq:GS5 136=H6:=rfl
def PE:BG:= .pure (fun args hp=>match args with | [v, .int .i64 a, .int .i64 b]=>Ob hp v a b | _=>False)
 (fun args hp=>match args with | [v,a,b]=> .tuple ⟨[.int .i64 (Go.Sort.choosePivot ltInt (Hh hp v) (intOf a).toNat (intOf b).toNat).1, .int .i64 (IM (Go.Sort.choosePivot ltInt (Hh hp v) (intOf a).toNat (intOf b).toNat).2)]⟩ | _=>undef)
theorem wU:Aw Tryz.prog 110 PE:=by
 refine .Ep NR ?_ ?_
 ·rintro args hp h
  match args,h with
  | [v, .int .i64 a, .int .i64 b],_=>rfl
 intro args hp hpre top hcl hsc
 match args,hpre with
 | [v, .int .i64 a, .int .i64 b],hpre=>
 obtain ⟨q,d,hrow,h1,h2,h3⟩:=hpre
 obtain ⟨a,rfl⟩:=Int.eq_ofNat_of_zero_le h1
 obtain ⟨b,rfl⟩:=Int.eq_ofNat_of_zero_le (show 0≤b by omega)
 have hn:d.size≤35184372088832:=hrow.le
 have h0:0 < d.size:=hrow.pos
 have hqt:=hrow.Z4 hcl
 simp only [hrow.D5,intOf_int,Int.toNat_natCast]
 obtain ⟨rfl,ho,_,_⟩:=hrow
 obtain ⟨l,hl⟩:∃m:Nat,m=b - a:=⟨_,rfl⟩
 obtain ⟨m,hm⟩:∃m:Nat,m=l / 4:=⟨_,rfl⟩
 obtain ⟨i,hi⟩:∃m:Nat,m=a+l / 4 * 1:=⟨_,rfl⟩
 obtain ⟨j,hj⟩:∃m:Nat,m=a+l / 4 * 2:=⟨_,rfl⟩
 obtain ⟨k,hk⟩:∃m:Nat,m=a+l / 4 * 3:=⟨_,rfl⟩
 obtain ⟨m2,hm2⟩:∃m:Nat,m=l / 4 * 2:=⟨_,rfl⟩
 obtain ⟨m3,hm3⟩:∃m:Nat,m=l / 4 * 3:=⟨_,rfl⟩
 have w1:AP .i64 ((b:Int) - (a:Int))=((l:Nat):Int):=by rw [wrap64 (by omega) (by omega)];omega
 have w2:IntKind.i64.wrap ((l:Int).tdiv 4)=((m:Nat):Int):=by rw [show (l:Int).tdiv 4=((l / 4:Nat):Int) from rfl,←CS,wrap64 (by omega) (by omega)];omega
 have w3:AP .i64 ((m:Int) * 2)=((m2:Nat):Int):=by rw [wrap64 (by omega) (by omega)];omega
 have w4:AP .i64 ((m:Int) * 3)=((m3:Nat):Int):=by rw [wrap64 (by omega) (by omega)];omega
 have w5:AP .i64 ((m:Int) * 1)=(m:Int):=by rw [wrap64 (by omega) (by omega)];omega
 have w6:AP .i64 ((a:Int)+(m:Int))=((i:Nat):Int):=by rw [wrap64 (by omega) (by omega)];omega
 have w7:AP .i64 ((a:Int)+(m2:Int))=((j:Nat):Int):=by rw [wrap64 (by omega) (by omega)];omega
 have w8:AP .i64 ((a:Int)+(m3:Int))=((k:Nat):Int):=by rw [wrap64 (by omega) (by omega)];omega
 refine AK.Ar A7 NR rfl 57 rfl [.tmp 6, .tmp 7] rfl (show 3≤57 by decide) ?_
 have hcp:Go.Sort.choosePivot ltInt d a b=((if l≥8 then (if l≥50 then Go.Sort.median ltInt d (Go.Sort.medianAdjacent ltInt d i 0).1 (Go.Sort.medianAdjacent ltInt d j (Go.Sort.medianAdjacent ltInt d i 0).2).1 (Go.Sort.medianAdjacent ltInt d k (Go.Sort.medianAdjacent ltInt d j (Go.Sort.medianAdjacent ltInt d i 0).2).2).1 (Go.Sort.medianAdjacent ltInt d k (Go.Sort.medianAdjacent ltInt d j (Go.Sort.medianAdjacent ltInt d i 0).2).2).2 else Go.Sort.median ltInt d i j k 0) else (j,0):Nat×Nat).1,if (if l≥8 then (if l≥50 then Go.Sort.median ltInt d (Go.Sort.medianAdjacent ltInt d i 0).1 (Go.Sort.medianAdjacent ltInt d j (Go.Sort.medianAdjacent ltInt d i 0).2).1 (Go.Sort.medianAdjacent ltInt d k (Go.Sort.medianAdjacent ltInt d j (Go.Sort.medianAdjacent ltInt d i 0).2).2).1 (Go.Sort.medianAdjacent ltInt d k (Go.Sort.medianAdjacent ltInt d j (Go.Sort.medianAdjacent ltInt d i 0).2).2).2 else Go.Sort.median ltInt d i j k 0) else (j,0):Nat×Nat).2=0 then Go.Sort.Hint.increasing else if (if l≥8 then (if l≥50 then Go.Sort.median ltInt d (Go.Sort.medianAdjacent ltInt d i 0).1 (Go.Sort.medianAdjacent ltInt d j (Go.Sort.medianAdjacent ltInt d i 0).2).1 (Go.Sort.medianAdjacent ltInt d k (Go.Sort.medianAdjacent ltInt d j (Go.Sort.medianAdjacent ltInt d i 0).2).2).1 (Go.Sort.medianAdjacent ltInt d k (Go.Sort.medianAdjacent ltInt d j (Go.Sort.medianAdjacent ltInt d i 0).2).2).2 else Go.Sort.median ltInt d i j k 0) else (j,0):Nat×Nat).2=12 then Go.Sort.Hint.decreasing else Go.Sort.Hint.unknown):=by
  rw [hi,hj,hk,hl];rfl
 have hD:∀ {h':Hp},h' q=AQ d→Hh h' (.slice (some ⟨q,0,none⟩) d.size d.size)=d:=fun e=>(Cu e rfl h0 hn).D5
 have rq:∀ {h':Hp} {o:Option Ay},(h'.set top o) q=h' q:=fun {h'} {o}=>by simp only [Hp.set,if_neg (show ¬q=top by omega)]
 have rs:∀ {h':Hp} {o:Option Ay},(h'.set top o) top=o:=fun {h'} {o}=>by simp only [Hp.set,if_true]
 have z0:some (Ay.cells true 0 [.int .i64 0])=I3 0:=rfl
 have zl:∀ {h':Hp} {n:Nat},h' top=I3 n→Ad tt.get h' 3 (.pointer (some ⟨top,0,none⟩))=(.int .i64 (n:Int),True):=fun {h'} {n} e=>by
  have e':h' top=some (.cells true 0 [.int .i64 (n:Int)]):=e
  unfold Ad
  simp [Dx,Yg,e',Hc]
 by_cases c8:l≥8
 ·have c8':((l:Int) < 8)=False:=eq_false (by omega)
  by_cases c50:l≥50
  ·have c50':((l:Int) < 50)=False:=eq_false (by omega)
   simp only [if_pos c8,if_pos c50] at hcp
   have g1:=dm (d:=d) (a:=i) (k:=0) (n:=d.size) (by omega) (by omega)
   generalize e1:Go.Sort.medianAdjacent ltInt d i 0=r1 at g1 hcp
   have g2:=dm (d:=d) (a:=j) (k:=r1.2) (n:=d.size) (by omega) (by omega)
   generalize e2:Go.Sort.medianAdjacent ltInt d j r1.2=r2 at g2 hcp
   have g3:=dm (d:=d) (a:=k) (k:=r2.2) (n:=d.size) (by omega) (by omega)
   generalize e3:Go.Sort.medianAdjacent ltInt d k r2.2=r3 at g3 hcp
   have g4:=iI (d:=d) (a:=r1.1) (b:=r2.1) (c:=r3.1) (k:=r3.2) (n:=d.size) g1.1 g2.1 g3.1
   generalize e4:Go.Sort.median ltInt d r1.1 r2.1 r3.1 r3.2=r at g4 hcp
   have hE:Go.Sort.choosePivot ltInt d a b=(r.1,if r.2=0 then Go.Sort.Hint.increasing else if r.2=12 then Go.Sort.Hint.decreasing else Go.Sort.Hint.unknown):=hcp
   have p1:∀ {h':Hp},h' q=AQ d→h' top=I3 0→Xp h' (.slice (some ⟨q,0,none⟩) d.size d.size) (i:Int) top=True:=fun e f=>eq_true ⟨q,d,0,Cu e rfl h0 hn,by omega,by omega,f,by omega⟩
   have p2:∀ {h':Hp},h' q=AQ d→h' top=I3 r1.2→Xp h' (.slice (some ⟨q,0,none⟩) d.size d.size) (j:Int) top=True:=fun e f=>eq_true ⟨q,d,_,Cu e rfl h0 hn,by omega,by omega,f,by omega⟩
   have p3:∀ {h':Hp},h' q=AQ d→h' top=I3 r2.2→Xp h' (.slice (some ⟨q,0,none⟩) d.size d.size) (k:Int) top=True:=fun e f=>eq_true ⟨q,d,_,Cu e rfl h0 hn,by omega,by omega,f,by omega⟩
   have p4:∀ {h':Hp},h' q=AQ d→h' top=I3 r3.2→XG h' (.slice (some ⟨q,0,none⟩) d.size d.size) (r1.1:Int) (r2.1:Int) (r3.1:Int) top=True:=fun e f=>eq_true ⟨q,d,_,Cu e rfl h0 hn,by omega,by omega,by omega,by omega,by omega,by omega,f,by omega⟩
   have k0:∀ {h':Hp},h' top=I3 0→R2 h' top=0:=fun e=>Ey e
   have k1:∀ {h':Hp},h' top=I3 r1.2→R2 h' top=r1.2:=fun e=>Ey e
   have k2:∀ {h':Hp},h' top=I3 r2.2→R2 h' top=r2.2:=fun e=>Ey e
   have k3:∀ {h':Hp},h' top=I3 r3.2→R2 h' top=r3.2:=fun e=>Ey e
   have zr:∀ {h':Hp},h' top=I3 r.2→Ad tt.get h' 3 (.pointer (some ⟨top,0,none⟩))=(.int .i64 (r.2:Int),True):=zl
   by_cases c0:r.2=0
   ·have q0:(((r.2:Nat):Int)=0)=True:=eq_true (by omega)
    rw [hE,if_pos c0]
    refine CW.vc MQ [0,1,2,6,7,8,9,10,11,12,32,34,49,51,54] (by kernel_rfl) ?_
    (repeat ((try refine Vc.mk' ?_);simp (maxSteps:=6000000) only [go_sem,Nat.reduceAdd,Int.reduceEq,w1,w2,w3,w4,w5,w6,w7,w8,c8',c50',decide_false,Bool.not_false,z0,rq,rs,ho,hD,p1,p2,p3,p4,k0,k1,k2,k3,cg,Oq,Om,H6,Int.toNat_natCast,e1,e2,e3,e4,zr,q0,decide_true,IM]))
   ·have q0:(((r.2:Nat):Int)=0)=False:=eq_false (by omega)
    by_cases c12:r.2=12
    ·have q12:(((r.2:Nat):Int)=12)=True:=eq_true (by omega)
     rw [hE,if_neg c0,if_pos c12]
     refine CW.vc MQ [0,1,2,6,7,8,9,10,11,12,32,34,49,51,54] (by kernel_rfl) ?_
     (repeat ((try refine Vc.mk' ?_);simp (maxSteps:=6000000) only [go_sem,Nat.reduceAdd,Int.reduceEq,w1,w2,w3,w4,w5,w6,w7,w8,c8',c50',decide_false,Bool.not_false,z0,rq,rs,ho,hD,p1,p2,p3,p4,k0,k1,k2,k3,cg,Oq,Om,H6,Int.toNat_natCast,e1,e2,e3,e4,zr,q0,q12,decide_true,decide_false,IM]))
    ·have q12:(((r.2:Nat):Int)=12)=False:=eq_false (by omega)
     rw [hE,if_neg c0,if_neg c12]
     refine CW.vc MQ [0,1,2,6,7,8,9,10,11,12,32,34,49,51,54] (by kernel_rfl) ?_
     (repeat ((try refine Vc.mk' ?_);simp (maxSteps:=6000000) only [go_sem,Nat.reduceAdd,Int.reduceEq,w1,w2,w3,w4,w5,w6,w7,w8,c8',c50',decide_false,Bool.not_false,z0,rq,rs,ho,hD,p1,p2,p3,p4,k0,k1,k2,k3,cg,Oq,Om,H6,Int.toNat_natCast,e1,e2,e3,e4,zr,q0,q12,decide_false,IM]))
  ·have c50':((l:Int) < 50)=True:=eq_true (by omega)
   simp only [if_pos c8,if_neg c50] at hcp
   have g4:=iI (d:=d) (a:=i) (b:=j) (c:=k) (k:=0) (n:=d.size) (by omega) (by omega) (by omega)
   generalize e4:Go.Sort.median ltInt d i j k 0=r at g4 hcp
   have hE:Go.Sort.choosePivot ltInt d a b=(r.1,if r.2=0 then Go.Sort.Hint.increasing else if r.2=12 then Go.Sort.Hint.decreasing else Go.Sort.Hint.unknown):=hcp
   have p4:∀ {h':Hp},h' q=AQ d→h' top=I3 0→XG h' (.slice (some ⟨q,0,none⟩) d.size d.size) (i:Int) (j:Int) (k:Int) top=True:=fun e f=>eq_true ⟨q,d,_,Cu e rfl h0 hn,by omega,by omega,by omega,by omega,by omega,by omega,f,by omega⟩
   have k0:∀ {h':Hp},h' top=I3 0→R2 h' top=0:=fun e=>Ey e
   have zr:∀ {h':Hp},h' top=I3 r.2→Ad tt.get h' 3 (.pointer (some ⟨top,0,none⟩))=(.int .i64 (r.2:Int),True):=zl
   by_cases c0:r.2=0
   ·have q0:(((r.2:Nat):Int)=0)=True:=eq_true (by omega)
    rw [hE,if_pos c0]
    refine CW.vc MQ [0,1,2,6,7,8,9,10,11,12,32,34,49,51,54] (by kernel_rfl) ?_
    (repeat ((try refine Vc.mk' ?_);simp (maxSteps:=6000000) only [go_sem,Nat.reduceAdd,Int.reduceEq,w1,w2,w3,w4,w5,w6,w7,w8,c8',c50',decide_false,decide_true,Bool.not_false,Bool.not_true,z0,rq,rs,ho,hD,p4,k0,Oq,H6,Int.toNat_natCast,e4,zr,q0,decide_true,IM]))
   ·have q0:(((r.2:Nat):Int)=0)=False:=eq_false (by omega)
    by_cases c12:r.2=12
    ·have q12:(((r.2:Nat):Int)=12)=True:=eq_true (by omega)
     rw [hE,if_neg c0,if_pos c12]
     refine CW.vc MQ [0,1,2,6,7,8,9,10,11,12,32,34,49,51,54] (by kernel_rfl) ?_
     (repeat ((try refine Vc.mk' ?_);simp (maxSteps:=6000000) only [go_sem,Nat.reduceAdd,Int.reduceEq,w1,w2,w3,w4,w5,w6,w7,w8,c8',c50',decide_false,decide_true,Bool.not_false,Bool.not_true,z0,rq,rs,ho,hD,p4,k0,Oq,H6,Int.toNat_natCast,e4,zr,q0,q12,decide_true,decide_false,IM]))
    ·have q12:(((r.2:Nat):Int)=12)=False:=eq_false (by omega)
     rw [hE,if_neg c0,if_neg c12]
     refine CW.vc MQ [0,1,2,6,7,8,9,10,11,12,32,34,49,51,54] (by kernel_rfl) ?_
     (repeat ((try refine Vc.mk' ?_);simp (maxSteps:=6000000) only [go_sem,Nat.reduceAdd,Int.reduceEq,w1,w2,w3,w4,w5,w6,w7,w8,c8',c50',decide_false,decide_true,Bool.not_false,Bool.not_true,z0,rq,rs,ho,hD,p4,k0,Oq,H6,Int.toNat_natCast,e4,zr,q0,q12,decide_true,decide_false,IM]))
 ·have c8':((l:Int) < 8)=True:=eq_true (by omega)
  simp only [if_neg c8] at hcp
  rw [hcp]
  refine CW.vc MQ [0,1,2,6,7,8,9,10,11,12,32,34,49,51,54] (by kernel_rfl) ?_
  (repeat ((try refine Vc.mk' ?_);simp (maxSteps:=6000000) only [go_sem,reduceCtorEq,Nat.reduceAdd,Int.reduceEq,w1,w2,w3,w4,w5,w6,w7,w8,c8',decide_true,Bool.not_true,if_true,IM]))
end Go.Proofs.YthpibnpeaidabaaGreatDoor.Dm
