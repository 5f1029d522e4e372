/- trace.Ids. -/
import Derived.Test.YthpibnpeaidabaaGreatDoorTSF
import Derived.Test.YthpibnpeaidabaaGreatDoorTOF
set_option linter.unusedVariables false
namespace Go.Proofs.YthpibnpeaidabaaGreatDoor.Dm
open Go.Dm
open Go.Sort (ltInt)
set_option maxHeartbeats 64000000
set_option maxRecDepth 20000
def IJ (l:List AM):List Int:=l.map fun e=>e.Id
theorem JH {l:List AM}:(IJ l).length=l.length:=by simp [IJ]
theorem bp {l:List AM}{k:Nat}(h:k < l.length):IJ (l.take (k+1))=IJ (l.take k) ++ [(at' l k).Id]:=by
 unfold IJ;rw [PT h,List.map_append];rfl
/-- in order -/
def Mb (l:List AM):List Int:=(IJ l).mergeSort fun x y=>decide (x≤y)
theorem Pm {l:List AM}:(Mb l).length=l.length:=by unfold Mb;rw [List.length_mergeSort,JH]
/-- all packets,each once -/
def DI (l:List AM):List Int:=Bo (Mb l)
def XH (l:List AM):Option Av:=AO (Md (Mb l).toArray)
def Sy (top:Nat)(l:List AM):Value:=if l.length=0 then .slice none 0 0 else .slice (some ⟨top,0,none⟩) (DI l).length l.length
theorem nr {l:List AM}:Go.Sort.sort ltInt (IJ l).toArray=(Mb l).toArray:=by
 have h:=Go.Sort.sortInt (IJ l)
 unfold Mb
 rw [←h,Array.toArray_toList]
theorem Us {l:List AM}:(DI l).length≤l.length:=by
 have:=Yc (Mb l)
 rw [Pm] at this;exact this
theorem ZX {d:Array Int}:(Md d).size=d.size:=by
 have h:(Bo d.toList).length≤d.size:=Yc d.toList
 unfold Md
 rw [List.size_toArray,List.length_append,List.length_replicate]
 exact Nat.add_sub_cancel' h
def L6:BB:= .det (fun args hp _=>match args with | [v]=>KR AE hp v∧(AE.rd hp v).length≤1759218604390 | _=>False) (fun args hp top=>match args with | [v]=>(Sy top (AE.rd hp v), [(top,XH (AE.rd hp v))],top+1) | _=>(undef, [],top))
theorem rZ {n:Nat}(h:n≤1759218604400):CK n ID.bytes=true:=by
 unfold CK
 rw [Bool.and_eq_true,show ID.bytes=4 from rfl]
 exact ⟨Nat.ble_eq_true_of_le (by omega),Nat.ble_eq_true_of_le (by omega)⟩
def u4:FuncId→BB:=Bj (Bj G0 51 QX) 52 QS
theorem U9:B7 Tryz.prog tt.get u4:=(EY.add qm).add sP
theorem kC:u4 51=QX:=rfl
theorem mA:u4 52=QS:=rfl
def UI (hp:Hp)(top:Nat)(v:Value)(l:List AM)(k:Nat):SS:=⟨[(3,Ao top (IJ (l.take k)),true),(6,v,true),(7, .int .i64 (l.length:Int),true),(8, .int .i64 (k:Int),true)],hp.Am [(top,Af AQ (IJ (l.take k)))],top+1⟩
theorem pJ {t:Nat}{l:List Int}(h:0 < l.length):Ao t l= .slice (some ⟨t,0,none⟩) l.length l.length:=by rw [JL,Ld h]
theorem QK:XH [] = none:=by
 unfold XH
 rw [show Mb [] = [] from by unfold Mb;simp [IJ]];rfl
theorem oZ:A4 Tryz.prog 19 L6:=by
 refine .Ci Pa ?_
 intro args hp top hpre hcl hsc
 match args,hpre with
 | [v],⟨⟨l,h⟩,hb⟩=>
 have hs:=h.low hcl
 simp only [h.rd] at hb ⊢
 refine AK.A5 BC Pa rfl 22 rfl [.tmp 2] rfl (show 1≤22 by decide) ?_
 refine CW.vc U9 [0,2,3,5,6,7,8,9] (by kernel_rfl) ?_
 (repeat ((try refine Vc.mk' ?_);simp (config:= {maxSteps:=6000000}) only [go_sem,CN h]))
 refine CW.Bp (UI hp top v l) (fun k=>k≤l.length) (fun k=>l.length - k) 0 (Nat.zero_le _) ?_ ?_
 ·exact (by refine Ar.mk' [top] hcl (by simp) (by simp) rfl (AG ?_) ?_ ?_ <;> simp [Ac,Ba,A3,AA.nil,AA.cons,BG,AH.refl,Sc.A3 (fun j hj=>AP hj) hs,show IJ [] = [] from rfl,JE,Iy])
 ·intro k hi
  by_cases hlt:k < l.length
  ·have kk:AL .i64 ((k:Int)+1)=((k+1:Nat):Int):=Fp hlt (by omega)
   have hlO:(IJ (l.take k)).length≤l.length:=by rw [JH,List.length_take];omega
   have hap:∀ {h':Hp} {j q t:Nat},h' j=Af AQ (IJ (l.take k))→h' q=some (.cells true 1 [.int .u32 (at' l k).Id])→Aj tt.get h' t [51,51] (Ao j (IJ (l.take k))) (.slice (some ⟨q,0,none⟩) 1 1)=some (Ao t (IJ (l.take k) ++ [(at' l k).Id]),DZ j (IJ (l.take k)) t (Af AQ (IJ (l.take k) ++ [(at' l k).Id])),t+1):=fun {h'} {j} {q} {t} a1 a2=>by
    have e3:cellsOf (h' q)= [.int .u32 (at' l k).Id]:=by rw [a2];rfl
    have:=NZ (hp:=h') (b:=j) (top:=t) (k:=q) a1 (by rw [e3];exact a2) (by rw [e3];rfl) (rZ (by omega))
    rw [e3] at this
    exact this
   have es:=bp hlt
   refine CW.vc U9 [0,2,3,5,6,7,8,9] (by kernel_rfl) ?_
   (repeat ((try refine Vc.mk' ?_);simp (config:= {maxSteps:=6000000}) only [go_sem,reduceCtorEq,Nat.reduceAdd,Nat.reduceMul,Nat.reduceLT,Nat.reduceLeDiff,DG h,Dd h,Gf hs,UI,hlt,kk,hap,decide_true]))
   refine .mk (k+1) hlt (by omega) ((by refine Ar.mk' [top+3] hcl (by simp) (by simp) rfl (AG ?_) ?_ ?_ <;> simp [Ac,Ba,A3,AA.nil,AA.cons,B0,BG,Cs,AB,AH.set,AH.refl,Sc.A3 (fun j hj=>AP hj) hs,es]))
  ·have hi2:k=l.length:=by omega
   subst hi2
   by_cases h0:l.length=0
   ·have hl0:l= []:=List.eq_nil_of_length_eq_zero h0
    subst hl0
    have p0:∀ {h':Hp},QP h' (.slice none 0 0)=True:=fun {h'}=>eq_true (.inl rfl)
    refine CW.vc U9 [0,2,3,5,6,7,8,9] (by kernel_rfl) ?_
    (repeat ((try refine Vc.mk' ?_);simp (config:= {maxSteps:=6000000}) only [go_sem,UI,List.take_nil,List.length_nil,show IJ [] = [] from rfl,JE,Iy,Nat.lt_irrefl,decide_false,kC,mA,QX,QS,p0,SY,mM]))
    (refine ⟨[top],by simp,by simp,by simp, ?_, ?_, ?_⟩ <;> simp [A3,AA.nil,AA.cons,BG,AB,AH.set,AH.refl,Sy,QK])
   ·have hil:0 < (IJ l).length:=by rw [JH];omega
    have hv:Ao top (IJ l)= .slice (some ⟨top,0,none⟩) l.length l.length:=by rw [pJ hil,JH]
    have ho:Af AQ (IJ l)=AO (IJ l).toArray:=rfl
    have hz1:(IJ l).toArray.size=l.length:=by simp [JH]
    have hz2:(Mb l).toArray.size=l.length:=by simp [Pm]
    have r1:∀ {h':Hp},h' top=AO (IJ l).toArray→C3 h' (.slice (some ⟨top,0,none⟩) l.length l.length) top (IJ l).toArray:=fun e=>CR e hz1 (by omega) (by omega)
    have r2:∀ {h':Hp},h' top=AO (Mb l).toArray→C3 h' (.slice (some ⟨top,0,none⟩) l.length l.length) top (Mb l).toArray:=fun e=>CR e hz2 (by omega) (by omega)
    have p1:∀ {h':Hp},h' top=AO (IJ l).toArray→QP h' (.slice (some ⟨top,0,none⟩) l.length l.length)=True:=fun e=>eq_true (.inr ⟨_,_,r1 e⟩)
    have p2:∀ {h':Hp},h' top=AO (Mb l).toArray→QP h' (.slice (some ⟨top,0,none⟩) l.length l.length)=True:=fun e=>eq_true (.inr ⟨_,_,r2 e⟩)
    have D1:∀ {h':Hp},h' top=AO (IJ l).toArray→GZ h' (.slice (some ⟨top,0,none⟩) l.length l.length)=(IJ l).toArray:=fun e=>(r1 e).DQ
    have D2:∀ {h':Hp},h' top=AO (Mb l).toArray→GZ h' (.slice (some ⟨top,0,none⟩) l.length l.length)=(Mb l).toArray:=fun e=>(r2 e).DQ
    refine CW.vc U9 [0,2,3,5,6,7,8,9] (by kernel_rfl) ?_
    (repeat ((try refine Vc.mk' ?_);simp (config:= {maxSteps:=6000000}) only [go_sem,UI,List.take_length,Nat.lt_irrefl,decide_false,hv,ho,kC,mA,QX,QS,p1,p2,D1,D2,nr,DR,mM]))
    (refine ⟨[top],by simp,by simp,by simp, ?_, ?_, ?_⟩ <;> simp [A3,AA.nil,AA.cons,BG,AB,AH.set,AH.refl,Sy,XH,DI,h0,AF])
end Go.Proofs.YthpibnpeaidabaaGreatDoor.Dm
