/- Graphs that may be, who is near, without the program. -/
import Derived.Test.YtaenmabpekbjoaaGOP
set_option linter.unusedSimpArgs false
set_option linter.unusedVariables false
namespace Go.Proofs.Ytaenmabpekbjoaa.Dm
open Go.Dm

def goN : Int → List Int → Bool
  | _, [] => true
  | last, n :: l => routerB n && decide (last < n) && goN n l
def edOk (N : List Int) (x : T_Edge) : Bool := !decide (x.From = x.To) && N.any (isI x.From) && N.any (isI x.To) && costB x.Cost
def ltE (y x : T_Edge) : Bool := decide (y.From < x.From) || (decide (y.From = x.From) && decide (y.To < x.To))
def goE (N : List Int) : T_Edge → List T_Edge → Bool
  | _, [] => true
  | y, x :: l => edOk N x && ltE y x && goE N x l
def chkF (N : List Int) (E : List T_Edge) : Bool := goN 0 N && decide (E.length ≤ 384) && goE N ⟨0, 0, 0⟩ E
def errC (N : List Int) (E : List T_Edge) : Int := if chkF N E = true then 0 else 2
theorem goN_ok : ∀ (l : List Int) (last : Int), goN last l = true → (∀ n ∈ l, routerB n = true ∧ last < n) ∧ l.Pairwise (· < ·)
  | [], _, _ => ⟨by simp, .nil⟩
  | m :: l, last, h => by
    simp only [goN, Bool.and_eq_true, decide_eq_true_eq] at h
    obtain ⟨⟨h1, h2⟩, h3⟩ := h
    obtain ⟨a, b⟩ := goN_ok l m h3
    refine ⟨fun n hn => ?_, List.pairwise_cons.2 ⟨fun n hn => (a n hn).2, b⟩⟩
    rcases List.mem_cons.1 hn with rfl | hn
    · exact ⟨h1, h2⟩
    · have := a n hn; exact ⟨this.1, by omega⟩
theorem goE_ok {N : List Int} : ∀ (l : List T_Edge) (y : T_Edge), goE N y l = true → ∀ x ∈ l, edOk N x = true
  | [], _, _, x, hx => by cases hx
  | z :: l, y, h, x, hx => by
    simp only [goE, Bool.and_eq_true] at h
    rcases List.mem_cons.1 hx with rfl | hx
    · exact h.1.1
    · exact goE_ok l z h.2 x hx
def nearF (E : List T_Edge) (n : Int) : List T_Adj := (E.filter fun x => decide (x.From = n)).map fun x => ⟨x.To, x.Cost⟩
theorem nearF_len (E : List T_Edge) (n : Int) : (nearF E n).length ≤ E.length := by
  unfold nearF; rw [List.length_map]; exact List.length_filter_le ..
theorem nearF_succ {E : List T_Edge} {i : Nat} (h : i < E.length) (n : Int) : nearF (E.take (i + 1)) n = nearF (E.take i) n ++ (if (at' E i).From = n then [⟨(at' E i).To, (at' E i).Cost⟩] else []) := by
  rw [take_at h]
  unfold nearF
  rw [List.filter_append, List.map_append]
  by_cases hp : (at' E i).From = n <;> simp [hp]
def gOk (N : List Int) (E : List T_Edge) (n : Int) : Bool := chkF N E && N.any (isI n)
def errG (N : List Int) (E : List T_Edge) (n : Int) : Int := if gOk N E n = true then 0 else 2
def nearG (N : List Int) (E : List T_Edge) (n : Int) : List T_Adj := if gOk N E n = true then nearF E n else []
theorem chk_len {N : List Int} {E : List T_Edge} (h : chkF N E = true) : E.length ≤ 384 := by
  simp only [chkF, Bool.and_eq_true, decide_eq_true_eq] at h; exact h.1.2
theorem nearG_len (N : List Int) (E : List T_Edge) (n : Int) : (nearG N E n).length ≤ 384 := by
  unfold nearG
  split
  · rename_i h
    simp only [gOk, Bool.and_eq_true] at h
    exact Nat.le_trans (nearF_len E n) (chk_len h.1)
  · simp
def idxF (l : List Int) (n : Int) : Int := match l.findIdx? (isI n) with
  | some i => (i : Int)
  | none => -1
theorem idxF_any (l : List Int) (n : Int) : decide (0 ≤ idxF l n) = l.any (isI n) := by
  unfold idxF
  cases h : l.findIdx? (isI n) with
  | none =>
    rw [List.findIdx?_eq_none_iff] at h
    have : l.any (isI n) = false := by rw [List.any_eq_false]; intro x hx; simp [h x hx]
    rw [this]; rfl
  | some i =>
    rw [List.findIdx?_eq_some_iff_getElem] at h
    obtain ⟨hi, h1, _⟩ := h
    have : l.any (isI n) = true := List.any_eq_true.2 ⟨_, List.getElem_mem hi, h1⟩
    rw [this]; simp
theorem idxF_at {l : List Int} {n : Int} {i : Nat} (hi : i < l.length) (hm : (l.take i).any (isI n) = false) (h : at' l i = n) : idxF l n = (i : Int) := by
  unfold idxF
  have : l.findIdx? (isI n) = some i := by
    rw [List.findIdx?_eq_some_iff_getElem]
    refine ⟨hi, by rw [← at'_get _ _ hi, h]; simp [isI], fun j hj => ?_⟩
    rw [List.any_eq_false] at hm
    exact hm _ (List.mem_take_iff_getElem.2 ⟨j, by omega, rfl⟩)
  rw [this]
theorem idxF_none {l : List Int} {n : Int} (h : l.any (isI n) = false) : idxF l n = -1 := by
  unfold idxF
  have : l.findIdx? (isI n) = none := by
    rw [List.findIdx?_eq_none_iff]
    intro x hx
    have := (List.any_eq_false.1 h) x hx
    simpa using this
  rw [this]
/-- the first edge -/
theorem lt_zero {N : List Int} {x : T_Edge} (hN : ∀ n ∈ N, routerB n = true) (h : edOk N x = true) : ltE ⟨0, 0, 0⟩ x = true := by
  simp only [edOk, Bool.and_eq_true] at h
  have := any_router hN h.1.1.2
  simp only [routerB, Bool.and_eq_true, decide_eq_true_eq] at this
  simp only [ltE, Bool.or_eq_true, decide_eq_true_eq]
  left; omega
end Go.Proofs.Ytaenmabpekbjoaa.Dm
