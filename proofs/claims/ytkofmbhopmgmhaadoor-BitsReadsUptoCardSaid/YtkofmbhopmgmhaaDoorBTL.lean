/- The highest bit is the last of the list. -/
import Derived.Test.YtkofmbhopmgmhaaDoorBR
import Derived.Test.YtkofmbhopmgmhaaDoorBO
set_option linter.unusedSimpArgs false
set_option linter.unusedVariables false
namespace Go.Proofs.YtkofmbhopmgmhaaDoor.Dm
open Go.Dm
set_option maxHeartbeats 4000000
theorem bl_bounds {x : Nat} (h : x < 18446744073709551616) (h0 : ¬ x = 0) : 1 ≤ Lib.bitLen x ∧ x.testBit (Lib.bitLen x - 1) = true ∧ ∀ j, Lib.bitLen x ≤ j → x.testBit j = false := by
  obtain ⟨h1, h2, h3⟩ := Lib.bitLenAux_bounds 64 x h h0
  change 1 ≤ Lib.bitLen x at h1
  change 2 ^ (Lib.bitLen x - 1) ≤ x at h2
  change x < 2 ^ Lib.bitLen x at h3
  refine ⟨h1, ?_, fun j hj => Nat.testBit_lt_two_pow (Nat.lt_of_lt_of_le h3 (Nat.pow_le_pow_right (by decide) hj))⟩
  have e : Lib.bitLen x = (Lib.bitLen x - 1) + 1 := by omega
  rw [e, Nat.pow_succ] at h3
  rw [Nat.testBit_eq_decide_div_mod_eq]
  have : x / 2 ^ (Lib.bitLen x - 1) = 1 := by
    refine Nat.div_eq_of_lt_le ?_ ?_
    · rw [Nat.one_mul]; exact h2
    · omega
  rw [this]; rfl
/-- the highest bit, from below word i -/
theorem hi_spec {b : T_Bits} (hb : OkB b) : ∀ i, i ≤ 4 → (hiB b i = 0 ∧ ∀ k, k < 64 * i → hasB b k = false) ∨ (∃ m : Nat, m < 64 * i ∧ hiB b i = (m : Int) + 1 ∧ hasB b m = true ∧ ∀ k, m < k → k < 64 * i → hasB b k = false)
  | 0, _ => .inl ⟨rfl, fun k hk => by omega⟩
  | i + 1, hi => by
    have hw := wn_lt hb i
    by_cases hz : wn b i = 0
    · have e : hiB b (i + 1) = hiB b i := by rw [hiB_succ, if_pos hz]
      have hno : ∀ k, 64 * i ≤ k → k < 64 * (i + 1) → hasB b k = false := by
        intro k h1 h2
        have := hasB_at (b := b) (i := i) (j := k - 64 * i) (by omega)
        rw [show 64 * i + (k - 64 * i) = k from by omega] at this
        rw [this, hz]; simp
      rcases hi_spec hb i (by omega) with ⟨h1, h2⟩ | ⟨m, h1, h2, h3, h4⟩
      · refine .inl ⟨by rw [e, h1], fun k hk => ?_⟩
        rcases Nat.lt_or_ge k (64 * i) with h | h
        · exact h2 k h
        · exact hno k h hk
      · refine .inr ⟨m, by omega, by rw [e, h2], h3, fun k h5 h6 => ?_⟩
        rcases Nat.lt_or_ge k (64 * i) with h | h
        · exact h4 k h5 h
        · exact hno k h h6
    · obtain ⟨h1, h2, h3⟩ := bl_bounds hw hz
      have hle := blen_le hw
      refine .inr ⟨64 * i + (Lib.bitLen (wn b i) - 1), by omega, ?_, ?_, ?_⟩
      · rw [hiB_succ, if_neg hz]; omega
      · rw [hasB_at (by omega)]; exact h2
      · intro k h5 h6
        have := hasB_at (b := b) (i := i) (j := k - 64 * i) (by omega)
        rw [show 64 * i + (k - 64 * i) = k from by omega] at this
        rw [this]
        exact h3 _ (by omega)
theorem below_eq {b : T_Bits} {w : Int} (hb : OkB b) : belowB b w = belowL (lsB b) w := by
  unfold belowB
  by_cases hz : b = zb
  · rw [if_pos hz, hz, ls_zb]; simp [belowL]
  · rw [if_neg hz]
    have hne : ¬ (lsB b).length = 0 := fun h => hz (ls_nil hb (List.eq_nil_of_length_eq_zero h))
    rcases hi_spec hb 4 (Nat.le_refl _) with ⟨_, h2⟩ | ⟨m, h1, h2, h3, h4⟩
    · exact absurd (has_ext hb zb_ok fun k hk => by rw [hasB_zb]; exact h2 k (by omega)) hz
    · have hlt : (lsB b).length - 1 < (lsB b).length := by omega
      have hlast : at' (lsB b) ((lsB b).length - 1) = (m : Int) + 1 := by
        have hmem : (m : Int) + 1 ∈ lsB b := ls_mem.2 ⟨m, by omega, rfl, h3⟩
        obtain ⟨i, hi, he⟩ := List.mem_iff_getElem.1 hmem
        have hl : at' (lsB b) ((lsB b).length - 1) ∈ lsB b := by rw [at'_get _ _ hlt]; exact List.getElem_mem hlt
        obtain ⟨k, k1, k2, k3⟩ := ls_mem.1 hl
        have hkm : k ≤ m := by
          rcases Nat.lt_or_ge m k with h | h
          · rw [h4 k h (by omega)] at k3; cases k3
          · exact h
        rcases Nat.lt_or_ge i ((lsB b).length - 1) with h | h
        · have := List.pairwise_iff_getElem.1 (ls_sorted (b := b)) i ((lsB b).length - 1) hi hlt h
          rw [he, ← at'_get _ _ hlt] at this
          omega
        · have e : i = (lsB b).length - 1 := by omega
          rw [at'_get _ _ hlt, ← he]; congr 1; omega
      unfold belowL
      rw [hlast, h2]
      have h5 : ¬ (lsB b).length = 0 := hne
      by_cases q1 : (m : Int) + 1 ≤ w
      · have : 0 ≤ w := by omega
        simp [q1, this, h5]
      · simp [q1, h5]
end Go.Proofs.YtkofmbhopmgmhaaDoor.Dm
