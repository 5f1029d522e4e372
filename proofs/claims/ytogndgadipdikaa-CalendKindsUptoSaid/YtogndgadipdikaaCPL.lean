/- CalendPieces: the plain law. -/
import Derived.Test.YtogndgadipdikaaMi
set_option linter.unusedSimpArgs false
set_option linter.unusedVariables false
namespace Go.Proofs.Ytogndgadipdikaa.Dm
open Go.Dm
set_option maxHeartbeats 4000000

theorem at_map {α β : Type} [Inhabited α] [Inhabited β] {f : α → β} {l : List α} {k : Nat} (h : k < l.length) : at' (l.map f) k = f (at' l k) := by
  rw [at'_get _ _ (by simpa using h), at'_get _ _ h, List.getElem_map]
/-- the i-th thing that is put -/
def tI (ats : List Int) (i : Nat) : T_t74 := ⟨at' ats i, (i : Int) + 1, (i : Int)⟩
def calF (ats : List Int) : Nat → List T_t74
  | 0 => []
  | k + 1 => put_i (calF ats k) (tI ats k)
theorem calF_spec (ats : List Int) : ∀ k, up_i (calF ats k) ∧ (calF ats k).length = k ∧ ∀ a ∈ calF ats k, ∃ i, i < k ∧ a = tI ats i
  | 0 => ⟨.nil, rfl, by simp [calF]⟩
  | k + 1 => by
    obtain ⟨h1, h2, h3⟩ := calF_spec ats k
    refine ⟨put_i_up h1 fun a ha => ?_, by rw [calF, put_i_len, h2], fun a ha => ?_⟩
    · obtain ⟨i, hi, rfl⟩ := h3 a ha
      simp only [tI]; omega
    · rw [calF, put_i_eq h1] at ha
      simp only [List.mem_append, List.mem_cons, List.mem_filter] at ha
      rcases ha with h | h | h
      · obtain ⟨i, hi, e⟩ := h3 a h.1; exact ⟨i, by omega, e⟩
      · exact ⟨k, by omega, h⟩
      · obtain ⟨i, hi, e⟩ := h3 a h.1; exact ⟨i, by omega, e⟩
/-- each is there -/
theorem calF_all (ats : List Int) : ∀ k i, i < k → tI ats i ∈ calF ats k
  | 0, i, h => by omega
  | k + 1, i, h => by
    rw [calF, put_i_eq (calF_spec ats k).1]
    simp only [List.mem_append, List.mem_cons, List.mem_filter]
    by_cases e : i = k
    · subst e; exact Or.inr (Or.inl rfl)
    · have hm := calF_all ats k i (by omega)
      cases c : lt_i (tI ats i) (tI ats k)
      · exact Or.inr (Or.inr ⟨hm, by simp⟩)
      · exact Or.inl ⟨hm, rfl⟩
/-- what the calendar gives, in order -/
def whF (ats : List Int) (n : Nat) : List Int := outs_i (calF ats n) n
theorem whF_len {ats : List Int} {n : Nat} : (whF ats n).length = n := by unfold whF; rw [outs_i_len (by rw [(calF_spec ats n).2.1]; exact Nat.le_refl _)]
theorem whF_at {ats : List Int} {n i : Nat} (h : i < n) : ∃ j, j < n ∧ at' (calF ats n) i = tI ats j ∧ at' (whF ats n) i = (j : Int) := by
  obtain ⟨h1, h2, h3⟩ := calF_spec ats n
  have hi : i < (calF ats n).length := by omega
  obtain ⟨j, hj, e⟩ := h3 _ (at_mem hi)
  refine ⟨j, hj, e, ?_⟩
  unfold whF outs_i
  rw [List.take_of_length_le (by omega), at_map hi, e]
  rfl
theorem whF_up {ats : List Int} {n i : Nat} (h0 : 0 < i) (h : i < n) {x y : Nat} (hx : at' (whF ats n) i = (x : Int)) (hy : at' (whF ats n) (i - 1) = (y : Int)) : ¬ at' ats x < at' ats y ∧ (at' ats y = at' ats x → y < x) := by
  obtain ⟨h1, h2, h3⟩ := calF_spec ats n
  obtain ⟨j, hj, e, e1⟩ := whF_at h
  obtain ⟨k, hk, f, f1⟩ := whF_at (show i - 1 < n by omega)
  have ej : j = x := by rw [hx] at e1; omega
  have ek : k = y := by rw [hy] at f1; omega
  subst ej ek
  have hl := List.pairwise_iff_getElem.1 h1 (i - 1) i (by omega) (by omega) (by omega)
  rw [← at'_get _ _ (by omega), ← at'_get _ _ (by omega), e, f] at hl
  have hl2 : ltK (at' ats k) ((k : Int) + 1) (at' ats j) ((j : Int) + 1) = true := hl
  simp only [ltK, Bool.or_eq_true, Bool.and_eq_true, decide_eq_true_eq] at hl2
  omega
end Go.Proofs.Ytogndgadipdikaa.Dm
