import Derived.Test.YthpibnpeaidabaaGreatDoorTSG
set_option linter.unusedVariables false
namespace Go.Proofs.YthpibnpeaidabaaGreatDoor.Dm
open Go.Dm
set_option maxHeartbeats 16000000
set_option maxRecDepth 20000
theorem Pg:∀(l:List Int) (x:Int),x∈B3 l ↔ x∈l
 | [],_=>Iff.rfl
 | [_],_=>Iff.rfl
 |y :: z :: l,x=>by
  rw [B3]
  split
  ·rename_i h
   rw [Pg (z :: l) x,h]
   simp
  ·rw [List.mem_cons,Pg (z :: l) x,List.mem_cons (a:=x) (b:=y)]
theorem VP:∀(l:List Int),l.Pairwise (· ≤ ·)→(B3 l).Pairwise (· < ·)
 | [],_=>List.Pairwise.nil
 | [x],_=>by simp [B3]
 |x :: y :: l,h=>by
  obtain ⟨h1,h2⟩:=List.pairwise_cons.1 h
  rw [B3]
  split
  ·exact VP (y :: l) h2
  ·rename_i hne
   refine List.pairwise_cons.2 ⟨fun z hz=> ?_,VP (y :: l) h2⟩
   have hz':=(Pg (y :: l) z).1 hz
   have h3:=h1 y (by simp)
   rcases List.mem_cons.1 hz' with rfl | hz2
   ·omega
   ·have:=(List.pairwise_cons.1 h2).1 z hz2
    omega
theorem lZ {l:List AE}:(MH l).Pairwise (· ≤ ·):=by
 unfold MH
 have:=List.pairwise_mergeSort (le:=fun x y:Int=>decide (x≤y)) (fun a b c h1 h2=>by simp only [decide_eq_true_eq] at *;omega) (fun a b=>by simp only [Bool.or_eq_true,decide_eq_true_eq];omega) (Jt l)
 exact this.imp fun h=>by simpa using h
theorem dE {l:List AE}:(ET l).Pairwise (· < ·):=VP _ lZ
theorem eU {l:List AE}{x:Int}:x∈ET l ↔ ∃e∈l,e.Id=x:=by
 unfold ET MH
 rw [Pg,List.mem_mergeSort]
 simp [Jt]
def ofN (ids:List Int)(l:List AE):Nat:=(ids.map fun i=>(Kt l i).length).sum
theorem cV {α:Type}[Inhabited α]{l:List α}{k:Nat}(h:k < l.length):l.drop k=at' l k :: l.drop (k+1):=by
 rw [List.drop_eq_getElem_cons h,DV _ _ h]
end Go.Proofs.YthpibnpeaidabaaGreatDoor.Dm
