/- The list of a bit string's bits: plain laws. -/
import Derived.Test.YtkofmbhopmgmhaaDoorBSL
set_option linter.unusedSimpArgs false
set_option linter.unusedVariables false
namespace Go.Proofs.YtkofmbhopmgmhaaDoor.Dm
open Go.Dm
set_option maxHeartbeats 4000000

/-- the bits below n, rising -/
def lsN (b : T_Bits) (n : Nat) : List Int := ((List.range n).filter (hasB b)).map fun j : Nat => (j : Int) + 1
def lsB (b : T_Bits) : List Int := lsN b 256
def valB (l : List Bn) : List Int := l.map Subtype.val
theorem lsN_succ {b : T_Bits} {n : Nat} : lsN b (n + 1) = if hasB b n then lsN b n ++ [(n : Int) + 1] else lsN b n := by
  unfold lsN
  rw [List.range_succ, List.filter_append, List.map_append]
  cases h : hasB b n <;> simp [h]
theorem lsN_len {b : T_Bits} : ∀ n, (lsN b n).length ≤ n := fun n => by
  unfold lsN
  rw [List.length_map]
  exact Nat.le_trans (List.length_filter_le _ _) (by simp)
theorem val_wf {b : T_Bits} {i : Nat} (hi : i < 4) : valB (wf i (wn b i)) = ((List.range' (64 * i) 64).filter (hasB b)).map fun j : Nat => (j : Int) + 1 := by
  unfold valB wf
  rw [List.range'_eq_map_range, List.filter_map, List.map_map, List.map_map]
  have e : (List.range 64).filter (fun j => (wn b i).testBit j) = (List.range 64).filter (hasB b ∘ fun x => 64 * i + x) := by
    refine List.filter_congr fun j hj => ?_
    rw [List.mem_range] at hj
    exact (hasB_at hj).symm
  rw [e]
  refine List.map_congr_left fun j hj => ?_
  have hj : j < 64 := List.mem_range.1 (List.mem_filter.1 hj).1
  show (toBn _).1 = _
  rw [toBn_val ⟨by omega, by omega⟩]
  simp only [Function.comp]
  omega
theorem valB_app (l m : List Bn) : valB (l ++ m) = valB l ++ valB m := by simp [valB]
theorem ls_eq {b : T_Bits} (hb : OkB b) : valB (bitsL b) = lsB b := by
  rw [bitsL_split]
  simp only [wl_eq _ (wn_lt hb _), valB_app, val_wf (show 0 < 4 by decide), val_wf (show 1 < 4 by decide), val_wf (show 2 < 4 by decide), val_wf (show 3 < 4 by decide)]
  unfold lsB lsN
  have e : List.range 256 = List.range' (64 * 0) 64 ++ (List.range' (64 * 1) 64 ++ (List.range' (64 * 2) 64 ++ List.range' (64 * 3) 64)) := by decide +kernel
  rw [e]
  simp only [List.filter_append, List.map_append]
theorem ls_len {b : T_Bits} : (lsB b).length ≤ 256 := lsN_len 256
theorem cnt_ls {b : T_Bits} (hb : OkB b) : cnt b 4 = ((lsB b).length : Int) := by
  rw [cnt_len hb, ← ls_eq hb]; simp [valB]
def hd0 (l : List Int) : Int := match l with
  | [] => 0
  | x :: _ => x
/-- a bit less -/
def delB (b : T_Bits) (k : Nat) : T_Bits := setw b (k / 64) (andN (wn b (k / 64)) (2 ^ (k % 64)))
theorem delB_ok {b : T_Bits} {k : Nat} (hb : OkB b) : OkB (delB b k) := setw_ok hb (and_lt (wn_lt hb _))
theorem hasB_del {b : T_Bits} {k j : Nat} (hk : k < 256) (hj : j < 256) : hasB (delB b k) j = (hasB b j && !decide (j = k)) := by
  have hk4 : k / 64 < 4 := by omega
  have hj4 : j / 64 < 4 := by omega
  unfold hasB delB
  rw [setw_get hk4 hj4]
  by_cases h : j / 64 = k / 64
  · rw [if_pos h, andN_bit (Nat.mod_lt _ (by decide)), Nat.testBit_two_pow, h]
    congr 2
    exact decide_eq_decide.2 (by omega)
  · rw [if_neg h]
    have : ¬ j = k := fun e => h (by rw [e])
    simp [this]
theorem hasB_put {b : T_Bits} {k j : Nat} (hk : k < 256) (hj : j < 256) : hasB (putB b k) j = (hasB b j || decide (j = k)) := by
  have h1 : 64 * (j / 64) + j % 64 = j := by omega
  unfold hasB
  rw [putB_bit hk (by omega) (Nat.mod_lt _ (by decide)), h1]
theorem has_ext {a b : T_Bits} (ha : OkB a) (hb : OkB b) (h : ∀ k, k < 256 → hasB a k = hasB b k) : a = b := by
  refine bits_ext ha hb fun i j hi hj => ?_
  rw [← hasB_at hj, ← hasB_at hj]
  exact h _ (by omega)
theorem hasB_zb {k : Nat} : hasB zb k = false := zb_bit
theorem filter_low' {p q : Nat → Bool} {n c : Nat} (hc : c < n) (h1 : ∀ j, j < c → p j = false) (h2 : p c = true) (h3 : ∀ j, j < n → q j = (p j && !decide (j = c))) : (List.range n).filter p = c :: (List.range n).filter q := by
  rw [filter_low (q := fun j => p j && !decide (j = c)) hc h1 h2 (fun _ => rfl)]
  congr 1
  refine List.filter_congr fun j hj => ?_
  rw [List.mem_range] at hj
  exact (h3 j hj).symm
/-- the least bit -/
theorem ls_cons {b : T_Bits} {x : Int} {r : List Int} (h : lsB b = x :: r) : ∃ k : Nat, k < 256 ∧ x = (k : Int) + 1 ∧ hasB b k = true ∧ (∀ j, j < k → hasB b j = false) ∧ lsB (delB b k) = r := by
  have hex : ∃ k, k < 256 ∧ hasB b k = true := by
    refine Classical.byContradiction fun hc => ?_
    have : (List.range 256).filter (hasB b) = [] := by
      rw [List.filter_eq_nil_iff]
      intro a ha hb
      exact hc ⟨a, List.mem_range.1 ha, hb⟩
    unfold lsB lsN at h
    rw [this] at h; cases h
  have least : ∀ n, (∃ k, k < n ∧ hasB b k = true) → ∃ k, k < n ∧ hasB b k = true ∧ ∀ j, j < k → hasB b j = false := by
    intro n
    induction n with
    | zero => rintro ⟨k, h1, _⟩; omega
    | succ n ih =>
      rintro ⟨k, h1, h2⟩
      by_cases hc : ∃ k, k < n ∧ hasB b k = true
      · obtain ⟨k, h1, h2, h3⟩ := ih hc
        exact ⟨k, by omega, h2, h3⟩
      · have hk : k = n := by
          rcases Nat.lt_or_ge k n with h | h
          · exact absurd ⟨k, h, h2⟩ hc
          · omega
        subst hk
        refine ⟨k, h1, h2, fun j hj => ?_⟩
        cases hb : hasB b j with
        | false => rfl
        | true => exact absurd ⟨j, hj, hb⟩ hc
  obtain ⟨k, h1, h2, h3⟩ := least 256 hex
  have e := filter_low' (p := hasB b) (q := hasB (delB b k)) h1 h3 h2 (fun j hj => hasB_del h1 hj)
  unfold lsB lsN at h
  rw [e, List.map_cons] at h
  cases h
  exact ⟨k, h1, rfl, h2, h3, rfl⟩
theorem ls_nil {b : T_Bits} (hb : OkB b) (h : lsB b = []) : b = zb := by
  refine has_ext hb zb_ok fun k hk => ?_
  rw [hasB_zb]
  unfold lsB lsN at h
  have h2 := List.map_eq_nil_iff.1 h
  rw [List.filter_eq_nil_iff] at h2
  have := h2 k (List.mem_range.2 hk)
  simpa using this
theorem ls_zb : lsB zb = [] := by
  unfold lsB lsN
  have : (List.range 256).filter (hasB zb) = [] := by
    rw [List.filter_eq_nil_iff]; intro a _; rw [hasB_zb]; simp
  rw [this]; rfl
theorem ls_mem {b : T_Bits} {x : Int} : x ∈ lsB b ↔ ∃ k : Nat, k < 256 ∧ x = (k : Int) + 1 ∧ hasB b k = true := by
  unfold lsB lsN
  rw [List.mem_map]
  constructor
  · rintro ⟨k, h1, h2⟩
    obtain ⟨h3, h4⟩ := List.mem_filter.1 h1
    exact ⟨k, List.mem_range.1 h3, h2.symm, h4⟩
  · rintro ⟨k, h1, h2, h3⟩
    exact ⟨k, List.mem_filter.2 ⟨List.mem_range.2 h1, h3⟩, h2.symm⟩
/-- the bits rise -/
theorem ls_sorted {b : T_Bits} : List.Pairwise (· < ·) (lsB b) := by
  unfold lsB lsN
  rw [List.pairwise_map]
  refine List.Pairwise.filter _ ?_
  refine List.Pairwise.imp ?_ List.pairwise_lt_range
  intro a b h; omega
/-! ### bits taken away, one by one -/
def lowS (b : T_Bits) : Nat → T_Bits
  | 0 => b
  | i + 1 => delB (lowS b i) (hd0 (lsB (lowS b i)) - 1).toNat
theorem lowS_ok {b : T_Bits} (hb : OkB b) : ∀ i, OkB (lowS b i)
  | 0 => hb
  | i + 1 => delB_ok (lowS_ok hb i)
theorem lowS_ls {b : T_Bits} : ∀ i, i ≤ (lsB b).length → lsB (lowS b i) = (lsB b).drop i
  | 0, _ => rfl
  | i + 1, h => by
    have ih := lowS_ls (b := b) i (by omega)
    have e : (lsB b).drop i = at' (lsB b) i :: (lsB b).drop (i + 1) := by rw [at'_get _ _ h]; exact List.drop_eq_getElem_cons h
    rw [e] at ih
    obtain ⟨k, h1, h2, h3, h4, h5⟩ := ls_cons ih
    rw [lowS, ih, ← h5]
    congr 2
    simp only [hd0]; omega
end Go.Proofs.YtkofmbhopmgmhaaDoor.Dm
