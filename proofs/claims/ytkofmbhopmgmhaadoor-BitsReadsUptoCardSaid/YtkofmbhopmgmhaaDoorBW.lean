/- The bits of a word, by definition. -/
import Derived.Test.YtkofmbhopmgmhaaDoorB4
set_option linter.unusedSimpArgs false
set_option linter.unusedVariables false
namespace Go.Proofs.YtkofmbhopmgmhaaDoor.Dm
open Go.Dm
set_option maxHeartbeats 4000000

theorem ctz_spec {w : Nat} (h : ¬ w = 0) (hw : w < 18446744073709551616) : ∃ m, w = 2 ^ Lib.ctz 64 w * (2 * m + 1) := by
  obtain ⟨m, h1, _⟩ := Lib.ctzFrom_spec 64 w (by omega) hw
  refine ⟨m, ?_⟩
  unfold Lib.ctz
  rw [if_neg h]; exact h1
theorem low_bits {w j : Nat} (h : ¬ w = 0) (hw : w < 18446744073709551616) : (j < Lib.ctz 64 w → w.testBit j = false) ∧ w.testBit (Lib.ctz 64 w) = true ∧ (w &&& (w - 1)).testBit j = (w.testBit j && !decide (j = Lib.ctz 64 w)) := by
  obtain ⟨m, hm⟩ := ctz_spec h hw
  generalize Lib.ctz 64 w = c at hm
  have hp := Nat.two_pow_pos c
  have h1 : w - 1 = 2 ^ c * (2 * m) + (2 ^ c - 1) := by
    rw [hm, Nat.mul_add, Nat.mul_one]; omega
  have tw : ∀ j, w.testBit j = (decide (j ≥ c) && (2 * m + 1).testBit (j - c)) := fun j => by rw [hm, Nat.testBit_two_pow_mul]
  refine ⟨fun hj => by rw [tw]; simp; omega, by rw [tw]; simp, ?_⟩
  rw [Nat.testBit_and, h1, Nat.testBit_two_pow_mul_add _ (by omega), tw]
  by_cases hj : j < c
  · have : ¬ j ≥ c := by omega
    simp [this]
  · by_cases he : j = c
    · subst he; simp
    · have hge : j ≥ c := by omega
      have h0 : j - c ≠ 0 := by omega
      obtain ⟨d, hd⟩ : ∃ d, j - c = d + 1 := ⟨j - c - 1, by omega⟩
      have e1 : (2 * m + 1).testBit (d + 1) = m.testBit d := by rw [Nat.testBit_succ]; congr 1; omega
      have e2 : (2 * m).testBit (d + 1) = m.testBit d := by rw [Nat.testBit_succ]; congr 1; omega
      simp [hj, he, hge, hd, e1, e2]
/-- the bits of a word, by definition -/
def wf (i w : Nat) : List Bn := ((List.range 64).filter fun j => w.testBit j).map fun j => toBn ((i * 64 + j + 1 : Nat) : Int)
theorem filter_low {p q : Nat → Bool} {n c : Nat} (hc : c < n) (h1 : ∀ j, j < c → p j = false) (h2 : p c = true) (h3 : ∀ j, q j = (p j && !decide (j = c))) : (List.range n).filter p = c :: (List.range n).filter q := by
  have e : List.range n = List.range' 0 c ++ (c :: List.range' (c + 1) (n - c - 1)) := by
    rw [List.range_eq_range', show n = c + ((n - c - 1) + 1) from by omega, ← List.range'_append_1, List.range'_succ]
    simp
  have hz : ∀ r : Nat → Bool, (∀ j, j < c → r j = false) → (List.range' 0 c).filter r = [] := by
    intro r hr
    rw [List.filter_eq_nil_iff]
    intro a ha
    rw [List.mem_range'_1] at ha
    rw [hr a (by omega)]; simp
  rw [e, List.filter_append, List.filter_append, hz p h1, hz q (fun j hj => by rw [h3, h1 j hj]; rfl), List.nil_append, List.nil_append, List.filter_cons_of_pos h2, List.filter_cons_of_neg (by rw [h3, h2]; simp)]
  congr 1
  refine List.filter_congr fun a ha => ?_
  rw [List.mem_range'_1] at ha
  have hne : ¬ a = c := by omega
  rw [h3]; simp [hne]
theorem wl_eq {i : Nat} : ∀ (w : Nat), w < 18446744073709551616 → wl i w = wf i w := by
  intro w
  induction w using Nat.strongRecOn with
  | _ w ih =>
    intro hw
    by_cases h : w = 0
    · subst h
      rw [wl_zero]; unfold wf
      have : (List.range 64).filter (fun j => (0 : Nat).testBit j) = [] := by rw [List.filter_eq_nil_iff]; simp
      rw [this]; rfl
    · have hlt := and_pred_lt h
      rw [wl_step h, ih _ hlt (by omega)]
      unfold wf
      rw [filter_low (p := fun j => w.testBit j) (q := fun j => (w &&& (w - 1)).testBit j) (ctz_lt h hw) (fun j hj => (low_bits (j := j) h hw).1 hj) (low_bits (j := 0) h hw).2.1 (fun j => (low_bits h hw).2.2), List.map_cons]
theorem wl_len {i w : Nat} (hw : w < 18446744073709551616) : (wl i w).length ≤ 64 := by
  rw [wl_eq w hw]; unfold wf
  rw [List.length_map]
  exact Nat.le_trans (List.length_filter_le _ _) (by simp)
theorem bitsL_split {b : T_Bits} : bitsL b = wl 0 (wn b 0) ++ (wl 1 (wn b 1) ++ (wl 2 (wn b 2) ++ wl 3 (wn b 3))) := by
  unfold bitsL
  rw [restL_step (by omega), restL_step (by omega), restL_step (by omega), restL_step (by omega), restL_end, List.append_nil]
  rfl
theorem bitsL_len {b : T_Bits} (hb : OkB b) : (bitsL b).length ≤ 256 := by
  rw [bitsL_split]
  simp only [List.length_append]
  have h0 := wl_len (i := 0) (wn_lt hb 0)
  have h1 := wl_len (i := 1) (wn_lt hb 1)
  have h2 := wl_len (i := 2) (wn_lt hb 2)
  have h3 := wl_len (i := 3) (wn_lt hb 3)
  omega
end Go.Proofs.YtkofmbhopmgmhaaDoor.Dm
