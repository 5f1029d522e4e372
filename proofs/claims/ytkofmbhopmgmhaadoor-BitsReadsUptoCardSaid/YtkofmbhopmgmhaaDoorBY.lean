/- Bytes, Read: as bytes, of bytes. -/
import Derived.Test.YtkofmbhopmgmhaaDoorBTL
set_option linter.unusedSimpArgs false
set_option linter.unusedVariables false
namespace Go.Proofs.YtkofmbhopmgmhaaDoor.Dm
open Go.Dm
set_option maxHeartbeats 8000000
/-! ### a byte of bits -/
def bf (p : Nat → Bool) (o : Nat) : Nat → Nat
  | 0 => 0
  | n + 1 => if p (o + n) then bf p o n ||| 2 ^ n else bf p o n
theorem bf_bit {p : Nat → Bool} {o j : Nat} : ∀ n, (bf p o n).testBit j = (decide (j < n) && p (o + j))
  | 0 => by simp [bf]
  | n + 1 => by
    rw [bf]
    by_cases hp : p (o + n) = true
    · rw [if_pos hp, Nat.testBit_or, Nat.testBit_two_pow, bf_bit n]
      by_cases h : n = j
      · subst h; simp [hp]
      · have : decide (j < n + 1) = decide (j < n) := decide_eq_decide.2 (by omega)
        rw [this]; simp [h]
    · rw [if_neg hp, bf_bit n]
      by_cases h : n = j
      · subst h; simp [hp]
      · have : decide (j < n + 1) = decide (j < n) := decide_eq_decide.2 (by omega)
        rw [this]
theorem bf_lt {p : Nat → Bool} {o : Nat} : ∀ n, bf p o n < 2 ^ n
  | 0 => by simp [bf]
  | n + 1 => by
    have := bf_lt (p := p) (o := o) n
    rw [bf]
    split
    · exact Nat.or_lt_two_pow (by rw [Nat.pow_succ]; omega) (by rw [Nat.pow_succ]; have := Nat.two_pow_pos n; omega)
    · rw [Nat.pow_succ]; omega
theorem bf8 {p : Nat → Bool} {o : Nat} : bf p o 8 < 256 := bf_lt 8
theorem tb_ext8 {x y : Nat} (hx : x < 256) (hy : y < 256) (h : ∀ j, j < 8 → x.testBit j = y.testBit j) : x = y := by
  refine Nat.eq_of_testBit_eq fun j => ?_
  rcases Nat.lt_or_ge j 8 with hj | hj
  · exact h j hj
  · have : (256 : Nat) ≤ 2 ^ j := Nat.pow_le_pow_right (n := 2) (i := 8) (by decide) hj
    rw [Nat.testBit_lt_two_pow (by omega), Nat.testBit_lt_two_pow (by omega)]
def byN (b : T_Bits) (c : Nat) : Nat := bf (hasB b) (8 * c) 8
/-- the bytes that the program has laid, k of m -/
def oI (b : T_Bits) (m k : Nat) : List Int := (List.range m).map fun c => if c < k then (byN b c : Int) else 0
/-- those that the reference has laid, of the first i bits -/
def rI (b : T_Bits) (m i : Nat) : List Int := (List.range m).map fun c => (bf (fun k : Nat => decide ((k : Int) + 1 ∈ (lsB b).take i)) (8 * c) 8 : Nat)
theorem oI_len {b : T_Bits} {m k : Nat} : (oI b m k).length = m := by simp [oI]
theorem rI_len {b : T_Bits} {m k : Nat} : (rI b m k).length = m := by simp [rI]
theorem oI_zero {b : T_Bits} {m : Nat} : (oI b m 0).map (Value.int .u8) = reps m (.int .u8 0) := by
  rw [reps_map]; congr 1
  refine List.ext_getElem (by simp [oI]) fun i h1 h2 => ?_
  simp [oI]
theorem oI_step {b : T_Bits} {m k : Nat} (h : k < m) : (oI b m k).set k (byN b k) = oI b m (k + 1) := by
  refine List.ext_getElem (by simp [oI_len]) fun i h1 h2 => ?_
  rw [List.getElem_set]
  simp only [oI, List.getElem_map, List.getElem_range]
  by_cases e : k = i
  · subst e; simp
  · rw [if_neg e]
    by_cases h3 : i < k
    · simp [h3, show i < k + 1 from by omega]
    · simp [h3, show ¬ i < k + 1 from by omega]
theorem byte_of {b : T_Bits} {i : Nat} (hi : i < 32) : (wn b (i / 8) / 2 ^ (8 * (i % 8))) % 256 = byN b i := by
  refine tb_ext8 (Nat.mod_lt _ (by decide)) bf8 fun j hj => ?_
  have e : (256 : Nat) = 2 ^ 8 := rfl
  rw [e, Nat.testBit_mod_two_pow, Nat.testBit_div_two_pow]
  unfold byN
  rw [bf_bit, decide_eq_true hj, Bool.true_and, Bool.true_and]
  have h2 := hasB_at (b := b) (i := i / 8) (j := 8 * (i % 8) + j) (by omega)
  rw [show 64 * (i / 8) + (8 * (i % 8) + j) = 8 * i + j from by omega] at h2
  rw [h2]; congr 1; omega
theorem rI_zero {b : T_Bits} {m : Nat} : (rI b m 0).map (Value.int .u8) = reps m (.int .u8 0) := by
  rw [reps_map]; congr 1
  unfold rI
  have : ∀ c, bf (fun k : Nat => decide ((k : Int) + 1 ∈ (lsB b).take 0)) (8 * c) 8 = 0 := by
    intro c
    refine tb_ext8 bf8 (by decide) fun j hj => ?_
    rw [bf_bit]; simp
  refine List.ext_getElem (by simp) fun i h1 h2 => ?_
  rw [List.getElem_map, this]; simp
theorem rI_end {b : T_Bits} {m : Nat} (hm : m ≤ 32) : rI b m (lsB b).length = oI b m m := by
  unfold rI oI
  refine List.map_congr_left fun c hc => ?_
  have hc := List.mem_range.1 hc
  rw [if_pos hc]
  congr 1
  refine tb_ext8 bf8 bf8 fun j hj => ?_
  unfold byN
  rw [bf_bit, bf_bit, List.take_length]
  congr 1
  have h8 : 8 * c + j < 256 := by omega
  cases hh : hasB b (8 * c + j) with
  | true => exact decide_eq_true (ls_mem.2 ⟨8 * c + j, h8, rfl, hh⟩)
  | false =>
    refine decide_eq_false fun hmem => ?_
    obtain ⟨k, k1, k2, k3⟩ := ls_mem.1 hmem
    have : k = 8 * c + j := by omega
    subst this
    rw [hh] at k3; cases k3
theorem rI_get {b : T_Bits} {m i c : Nat} (hc : c < m) : ((rI b m i)[c]?).getD 0 = ((bf (fun k : Nat => decide ((k : Int) + 1 ∈ (lsB b).take i)) (8 * c) 8 : Nat) : Int) := by
  simp [rI, hc]
theorem rI_step {b : T_Bits} {m i k : Nat} (hi : i < (lsB b).length) (hk : at' (lsB b) i = (k : Int) + 1) (hkm : k / 8 < m) :
    (rI b m i).set (k / 8) ((bf (fun k : Nat => decide ((k : Int) + 1 ∈ (lsB b).take i)) (8 * (k / 8)) 8 ||| 2 ^ (k % 8) : Nat) : Int) = rI b m (i + 1) := by
  have hmem : ∀ j : Nat, decide ((j : Int) + 1 ∈ (lsB b).take (i + 1)) = (decide ((j : Int) + 1 ∈ (lsB b).take i) || decide (j = k)) := by
    intro j
    rw [List.take_succ_eq_append_getElem hi, ← at'_get _ _ hi, hk]
    simp only [List.mem_append, List.mem_singleton, Bool.decide_or]
    congr 1
    exact decide_eq_decide.2 (by omega)
  refine List.ext_getElem (by simp [rI_len]) fun c h1 h2 => ?_
  rw [List.getElem_set]
  simp only [rI, List.getElem_map, List.getElem_range]
  by_cases e : k / 8 = c
  · rw [if_pos e]
    subst e
    congr 1
    refine tb_ext8 ?_ bf8 fun j hj => ?_
    · exact Nat.or_lt_two_pow (n := 8) bf8 (Nat.pow_lt_pow_right (by decide) (Nat.mod_lt _ (by decide)))
    · rw [Nat.testBit_or, Nat.testBit_two_pow, bf_bit, bf_bit, hmem]
      rw [decide_eq_true hj, Bool.true_and, Bool.true_and]
      congr 1
      exact decide_eq_decide.2 (by omega)
  · rw [if_neg e]
    congr 1
    refine tb_ext8 bf8 bf8 fun j hj => ?_
    rw [bf_bit, bf_bit, hmem]
    have : ¬ 8 * c + j = k := by omega
    simp [this]
/-! ### bits of bytes -/
def pS (s : List UInt8) (k : Nat) : Bool := ((s[k / 8]?).getD 0).toNat.testBit (k % 8)
theorem u8_lt (x : UInt8) : x.toNat < 256 := x.toNat_lt
theorem coll_byte {s : List UInt8} {i : Nat} (hi : i < 32) : setw (coll (pS s) (8 * i)) (i / 8) (wn (coll (pS s) (8 * i)) (i / 8) ||| ((s[i]?).getD 0).toNat * 2 ^ (8 * (i % 8))) = coll (pS s) (8 * (i + 1)) := by
  have h4 : i / 8 < 4 := by omega
  have hx := u8_lt ((s[i]?).getD 0)
  have hp : ((s[i]?).getD 0).toNat * 2 ^ (8 * (i % 8)) < 2 ^ 64 := by
    have h1 : ((s[i]?).getD 0).toNat * 2 ^ (8 * (i % 8)) < 2 ^ 8 * 2 ^ (8 * (i % 8)) := Nat.mul_lt_mul_of_pos_right hx (Nat.two_pow_pos _)
    rw [← Nat.pow_add] at h1
    exact Nat.lt_of_lt_of_le h1 (Nat.pow_le_pow_right (by decide) (by omega))
  refine bits_ext (setw_ok (coll_ok _) (or_lt (wn_lt (coll_ok _) _) hp)) (coll_ok _) fun w j hw hj => ?_
  rw [setw_get h4 hw, coll_bit hw hj (by omega)]
  by_cases e : w = i / 8
  · rw [if_pos e, Nat.testBit_or, coll_bit h4 hj (by omega), Nat.mul_comm (((s[i]?).getD 0).toNat), Nat.testBit_two_pow_mul, e]
    by_cases h : 64 * (i / 8) + j < 8 * i
    · have h1 : 64 * (i / 8) + j < 8 * (i + 1) := by omega
      have h2 : ¬ j ≥ 8 * (i % 8) := by omega
      simp [h, h1, h2]
    · by_cases h3 : 64 * (i / 8) + j < 8 * (i + 1)
      · have h2 : j ≥ 8 * (i % 8) := by omega
        unfold pS
        rw [show (64 * (i / 8) + j) / 8 = i from by omega, show (64 * (i / 8) + j) % 8 = j - 8 * (i % 8) from by omega]
        simp [h, h3, h2]
      · have h2 : ((s[i]?).getD 0).toNat.testBit (j - 8 * (i % 8)) = false :=
          Nat.testBit_lt_two_pow (Nat.lt_of_lt_of_le hx (Nat.pow_le_pow_right (n := 2) (i := 8) (by decide) (by omega)))
        simp [h, h3, h2]
  · rw [if_neg e, coll_bit hw hj (by omega)]
    congr 1
    exact decide_eq_decide.2 (by omega)
end Go.Proofs.YtkofmbhopmgmhaaDoor.Dm
