/- TraceParts: the plain law. -/
import Derived.Test.YthpibnpeaidabaaGreatDoorTSG
set_option linter.unusedVariables false
namespace Go.Proofs.YthpibnpeaidabaaGreatDoor.Dm
open Go.Dm
set_option maxHeartbeats 16000000
set_option maxRecDepth 20000
theorem PC:∀(l:List Int) (x:Int),x∈Bo l ↔ x∈l
 | [],_=>Iff.rfl
 | [_],_=>Iff.rfl
 |y :: z :: l,x=>by
  rw [Bo]
  split
  ·rename_i h
   rw [PC (z :: l) x,h]
   simp
  ·rw [List.mem_cons,PC (z :: l) x,List.mem_cons (a:=x) (b:=y)]
theorem TW:∀(l:List Int),l.Pairwise (· ≤ ·)→(Bo l).Pairwise (· < ·)
 | [],_=>List.Pairwise.nil
 | [x],_=>by simp [Bo]
 |x :: y :: l,h=>by
  obtain ⟨h1,h2⟩:=List.pairwise_cons.1 h
  rw [Bo]
  split
  ·exact TW (y :: l) h2
  ·rename_i hne
   refine List.pairwise_cons.2 ⟨fun z hz=> ?_,TW (y :: l) h2⟩
   have hz':=(PC (y :: l) z).1 hz
   have h3:=h1 y (by simp)
   rcases List.mem_cons.1 hz' with rfl | hz2
   ·omega
   ·have:=(List.pairwise_cons.1 h2).1 z hz2
    omega
theorem jR {l:List AM}:(Mb l).Pairwise (· ≤ ·):=by
 unfold Mb
 have:=List.pairwise_mergeSort (le:=fun x y:Int=>decide (x≤y)) (fun a b c h1 h2=>by simp only [decide_eq_true_eq] at *;omega) (fun a b=>by simp only [Bool.or_eq_true,decide_eq_true_eq];omega) (IJ l)
 exact this.imp fun h=>by simpa using h
theorem Rj {l:List AM}:(DI l).Pairwise (· < ·):=TW _ jR
theorem QI {l:List AM}{x:Int}:x∈DI l ↔ ∃e∈l,e.Id=x:=by
 unfold DI Mb
 rw [PC,List.mem_mergeSort]
 simp [IJ]
/-- how many events the packets have -/
def Jz (ids:List Int)(l:List AM):Nat:=(ids.map fun i=>(JR l i).length).sum
theorem M8:∀(ids:List Int) (e:AM) (l:List AM),e.Id ∉ ids→Jz ids (e :: l)=Jz ids l
 | [],_,_,_=>rfl
 |i :: r,e,l,h=>by
  have h1:¬e.Id=i:=fun c=>h (by simp [c])
  have h2:=M8 r e l (fun c=>h (by simp [c]))
  unfold Jz at h2 ⊢
  rw [List.map_cons,List.sum_cons,List.map_cons,List.sum_cons,h2]
  simp [JR,h1]
theorem QL:∀(ids:List Int) (e:AM) (l:List AM),ids.Pairwise (· < ·)→e.Id∈ids→Jz ids (e :: l)=Jz ids l+1
 | [],_,_,_,h=>by simp at h
 |i :: r,e,l,hp,h=>by
  obtain ⟨h1,h2⟩:=List.pairwise_cons.1 hp
  by_cases c:e.Id=i
  ·have h3:=M8 r e l (fun c2=>by have:=h1 _ c2;omega)
   unfold Jz at h3 ⊢
   rw [List.map_cons,List.sum_cons,List.map_cons,List.sum_cons,h3]
   simp [JR,c];omega
  ·have h3:=QL r e l h2 (by simpa [c] using h)
   unfold Jz at h3 ⊢
   rw [List.map_cons,List.sum_cons,List.map_cons,List.sum_cons,h3]
   simp [JR,c];omega
theorem VL {ids:List Int}(hp:ids.Pairwise (· < ·)):∀(l:List AM),(∀e∈l,e.Id∈ids)→Jz ids l=l.length
 | [],_=>by
  have:∀r:List Int,Jz r [] = 0:=fun r=>by
   induction r with
   |nil=>rfl
   |cons i r ih=>unfold Jz at ih ⊢;rw [List.map_cons,List.sum_cons,ih];rfl
  exact this ids
 |e :: l,h=>by rw [QL ids e l hp (h e (by simp)),VL hp l (fun x hx=>h x (by simp [hx]))];rfl
theorem VX {l:List AM}:Jz (DI l) l=l.length:=VL Rj l (fun e he=>QI.2 ⟨e,he,rfl⟩)
theorem aO {ids:List Int}{l:List AM}{i:Nat}(h:i < ids.length):Jz (ids.take (i+1)) l=Jz (ids.take i) l+(JR l (at' ids i)).length:=by
 unfold Jz;rw [PT h,List.map_append,List.sum_append];simp
theorem pD {l:List AM}{i:Nat}:Jz ((DI l).take i) l≤l.length:=by
 have h:=VX (l:=l)
 have e:Jz (DI l) l=Jz ((DI l).take i) l+Jz ((DI l).drop i) l:=by
  unfold Jz
  rw [←List.sum_append,←List.map_append,List.take_append_drop]
 omega
theorem VC {α:Type}[Inhabited α]{l:List α}{k:Nat}(h:k < l.length):at' l k∈l:=by rw [Cd _ _ h];exact List.getElem_mem h
theorem fZ {l:List AM}{i:Nat}(h:i < (DI l).length):0 < (JR l (at' (DI l) i)).length:=by
 obtain ⟨e,he,hi⟩:=QI.1 (VC h)
 exact List.length_pos_of_mem (List.mem_filter.2 ⟨he,by simp [hi]⟩)
theorem gP {l:List AM}{i:Nat}(h:i+1 < (DI l).length):at' (DI l) i < at' (DI l) (i+1):=by
 have:=List.pairwise_iff_getElem.1 (Rj (l:=l)) i (i+1) (by omega) h (by omega)
 rwa [Cd _ _ (by omega),Cd _ _ h]
theorem mY {l:List AM}{id:Int}{k:Nat}(h:k < (JR l id).length):(at' (JR l id) k).Id=id:=by
 exact of_decide_eq_true (List.mem_filter.1 (VC h)).2
theorem Iu {α:Type}[Inhabited α]{l:List α}{k:Nat}(h:k < l.length):l.drop k=at' l k :: l.drop (k+1):=by
 rw [List.drop_eq_getElem_cons h,Cd _ _ h]
theorem Zl {α:Type}{x y:α}{l m:List α}(h:(x :: l).Sublist (y :: m))(hne:y≠x):(x :: l).Sublist m:=by
 cases h with
 |cons _ h=>exact h
 |cons_cons _ h=>exact absurd rfl hne
theorem iO {α:Type}{x y:α}{l m:List α}(h:(x :: l).Sublist (y :: m)):l.Sublist m:=by
 cases h with
 |cons _ h=>exact (List.sublist_cons_self x l).trans h
 |cons_cons _ h=>exact h
theorem jK {l:List AM}{i:Nat}(h:i < (DI l).length):(Md (Mb l).toArray)[i]! = at' (DI l) i:=by
 have hle:=Us (l:=l)
 have e:Md (Mb l).toArray=(DI l ++ List.replicate ((Mb l).toArray.size - (DI l).length) 0).toArray:=rfl
 rw [e,Cd _ _ h]
 rw [getElem!_pos _ i (by simp;omega)]
 simp [h]
end Go.Proofs.YthpibnpeaidabaaGreatDoor.Dm
