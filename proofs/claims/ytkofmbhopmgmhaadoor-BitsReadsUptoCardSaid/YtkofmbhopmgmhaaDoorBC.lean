/- OnesCount64 counts: the law, half by half. (under way) -/
import Derived.Test.YtkofmbhopmgmhaaDoorB6
set_option linter.unusedSimpArgs false
set_option linter.unusedVariables false
namespace Go.Proofs.YtkofmbhopmgmhaaDoor.Dm
open Go.Dm
set_option maxHeartbeats 4000000
/-- the number of set bits below n -/
def popN (x : Nat) : Nat → Nat
  | 0 => 0
  | n + 1 => popN x n + (x.testBit n).toNat
theorem popN_filter {x : Nat} : ∀ n, ((List.range n).filter fun j => x.testBit j).length = popN x n
  | 0 => rfl
  | n + 1 => by
    rw [List.range_succ, List.filter_append, List.length_append, popN_filter n, popN]
    cases h : x.testBit n <;> simp [h]
theorem wf_len {i w : Nat} : (wf i w).length = popN w 64 := by
  unfold wf; rw [List.length_map, popN_filter]
theorem bitsL_pop {b : T_Bits} (hb : OkB b) : (bitsL b).length = popN (wn b 0) 64 + (popN (wn b 1) 64 + (popN (wn b 2) 64 + popN (wn b 3) 64)) := by
  rw [bitsL_split]
  simp only [List.length_append, wl_eq _ (wn_lt hb _), wf_len]
theorem shr_nat {w k : Nat} : shrI (w : Int) (k : Int) = ((w / 2 ^ (min k 64) : Nat) : Int) := by
  unfold shrI
  rw [Int.toNat_natCast]
  exact (Int.ofNat_fdiv w _).symm
/-! ### bytes -/
def mk (m : Nat) : Nat → Nat
  | 0 => 0
  | n + 1 => m + 256 * mk m n
theorem and_split {c m y M : Nat} (hc : c < 256) (hm : m < 256) : (c + 256 * y) &&& (m + 256 * M) = (c &&& m) + 256 * (y &&& M) := by
  have e1 : c + 256 * y = 2 ^ 8 * y + c := by omega
  have e2 : m + 256 * M = 2 ^ 8 * M + m := by omega
  have hcm : c &&& m < 2 ^ 8 := Nat.lt_of_le_of_lt Nat.and_le_left hc
  have e3 : (c &&& m) + 256 * (y &&& M) = 2 ^ 8 * (y &&& M) + (c &&& m) := by omega
  rw [e1, e2, e3]
  refine Nat.eq_of_testBit_eq fun j => ?_
  rw [Nat.testBit_and, Nat.testBit_two_pow_mul_add _ hc, Nat.testBit_two_pow_mul_add _ hm, Nat.testBit_two_pow_mul_add _ hcm]
  split <;> rw [Nat.testBit_and]
def n1 (M x : Nat) : Nat := (x / 2 &&& M) + (x &&& M)
def n2 (M x : Nat) : Nat := (x / 4 &&& M) + (x &&& M)
def n3 (M x : Nat) : Nat := (x / 16 + x) &&& M
theorem b1 : ∀ c : Fin 256, ∀ d : Fin 2, (c.val / 2 + 128 * d.val) &&& 85 = c.val / 2 &&& 85 := by decide +kernel
theorem b2 : ∀ c : Fin 256, ∀ d : Fin 4, (c.val / 4 + 64 * d.val) &&& 51 = c.val / 4 &&& 51 := by decide +kernel
theorem b12 : ∀ c : Fin 256, n1 85 c.val < 256 ∧ n2 51 (n1 85 c.val) < 256 ∧ n2 51 (n1 85 c.val) % 16 ≤ 4 ∧ n2 51 (n1 85 c.val) / 16 ≤ 4 ∧ n3 15 (n2 51 (n1 85 c.val)) = popN c.val 8 := by decide +kernel
theorem b3 : ∀ c : Fin 5, ∀ e : Fin 5, ∀ d : Fin 5, (e.val + 16 * d.val + (c.val + 16 * e.val)) &&& 15 = (e.val + (c.val + 16 * e.val)) &&& 15 := by decide +kernel
theorem n1_split {c y M : Nat} (hc : c < 256) : n1 (85 + 256 * M) (c + 256 * y) = n1 85 c + 256 * n1 M y := by
  unfold n1
  have e : (c + 256 * y) / 2 = (c / 2 + 128 * (y % 2)) + 256 * (y / 2) := by omega
  rw [e, and_split (by omega) (by decide), and_split hc (by decide), show (c / 2 + 128 * (y % 2)) &&& 85 = c / 2 &&& 85 from b1 ⟨c, hc⟩ ⟨y % 2, by omega⟩]
  omega
theorem n2_split {c y M : Nat} (hc : c < 256) : n2 (51 + 256 * M) (c + 256 * y) = n2 51 c + 256 * n2 M y := by
  unfold n2
  have e : (c + 256 * y) / 4 = (c / 4 + 64 * (y % 4)) + 256 * (y / 4) := by omega
  rw [e, and_split (by omega) (by decide), and_split hc (by decide), show (c / 4 + 64 * (y % 4)) &&& 51 = c / 4 &&& 51 from b2 ⟨c, hc⟩ ⟨y % 4, by omega⟩]
  omega
/-- as bytes -/
def bys (x : Nat) : Nat → Nat
  | 0 => 0
  | n + 1 => popN (x % 256) 8 + 256 * bys (x / 256) n
theorem n12_low {x : Nat} : ∀ n, n2 (mk 51 n) (n1 (mk 85 n) x) % 16 ≤ 4
  | 0 => by simp [mk, n2]
  | n + 1 => by
    have h : n1 85 (x % 256) < 256 ∧ n2 51 (n1 85 (x % 256)) < 256 ∧ n2 51 (n1 85 (x % 256)) % 16 ≤ 4 ∧ n2 51 (n1 85 (x % 256)) / 16 ≤ 4 ∧ n3 15 (n2 51 (n1 85 (x % 256))) = popN (x % 256) 8 := b12 ⟨x % 256, by omega⟩
    have e : x = x % 256 + 256 * (x / 256) := by omega
    have e1 : n1 (mk 85 (n + 1)) x = n1 85 (x % 256) + 256 * n1 (mk 85 n) (x / 256) := by
      conv => lhs; rw [e]
      exact n1_split (by omega)
    rw [e1, show mk 51 (n + 1) = 51 + 256 * mk 51 n from rfl, n2_split h.1]
    have := h.2.2.1
    omega
theorem n3_all : ∀ (n x : Nat), n3 (mk 15 n) (n2 (mk 51 n) (n1 (mk 85 n) x)) = bys x n
  | 0, x => by simp [mk, n3, bys]
  | n + 1, x => by
    have h : n1 85 (x % 256) < 256 ∧ n2 51 (n1 85 (x % 256)) < 256 ∧ n2 51 (n1 85 (x % 256)) % 16 ≤ 4 ∧ n2 51 (n1 85 (x % 256)) / 16 ≤ 4 ∧ n3 15 (n2 51 (n1 85 (x % 256))) = popN (x % 256) 8 := b12 ⟨x % 256, by omega⟩
    have hl := n12_low (x := x / 256) n
    have ih := n3_all n (x / 256)
    have e : x = x % 256 + 256 * (x / 256) := by omega
    have e1 : n1 (mk 85 (n + 1)) x = n1 85 (x % 256) + 256 * n1 (mk 85 n) (x / 256) := by
      conv => lhs; rw [e]
      exact n1_split (by omega)
    rw [e1, show mk 51 (n + 1) = 51 + 256 * mk 51 n from rfl, show mk 15 (n + 1) = 15 + 256 * mk 15 n from rfl, n2_split h.1, bys, ← ih, ← h.2.2.2.2]
    obtain ⟨h1, h2, h3, h4, _⟩ := h
    generalize n2 51 (n1 85 (x % 256)) = c at *
    generalize n2 (mk 51 n) (n1 (mk 85 n) (x / 256)) = y at *
    unfold n3
    have e2 : (c + 256 * y) / 16 + (c + 256 * y) = (c / 16 + 16 * (y % 16) + c) + 256 * (y / 16 + y) := by omega
    have hb := b3 ⟨c % 16, by omega⟩ ⟨c / 16, by omega⟩ ⟨y % 16, by omega⟩
    simp only at hb
    have e3 : c % 16 + 16 * (c / 16) = c := by omega
    rw [e3] at hb
    rw [e2, and_split (by omega) (by decide), hb]
theorem popN_mod {x : Nat} : ∀ n, n ≤ 8 → popN (x % 256) n = popN x n
  | 0, _ => rfl
  | n + 1, h => by
    rw [popN, popN, popN_mod n (by omega), show x % 256 = x % 2 ^ 8 from rfl, Nat.testBit_mod_two_pow]
    simp [show n < 8 from by omega]
theorem popN_split {x : Nat} : ∀ m, popN x (8 + m) = popN (x % 256) 8 + popN (x / 256) m
  | 0 => by rw [popN_mod 8 (by omega)]; rfl
  | m + 1 => by
    have e : (x / 256).testBit m = x.testBit (8 + m) := by
      rw [show x / 256 = x / 2 ^ 8 from rfl, Nat.testBit_div_two_pow]; congr 1; omega
    show popN x (8 + m) + (x.testBit (8 + m)).toNat = popN (x % 256) 8 + (popN (x / 256) m + ((x / 256).testBit m).toNat)
    rw [popN_split m, e]; omega
theorem popN_le {x : Nat} : ∀ n, popN x n ≤ n
  | 0 => Nat.le_refl _
  | n + 1 => by
    have := popN_le (x := x) n
    have h2 : (x.testBit n).toNat ≤ 1 := by cases x.testBit n <;> simp
    rw [popN]; omega
theorem bys_sum {x : Nat} : ∃ p0 p1 p2 p3 p4 p5 p6 p7 : Nat, (p0 ≤ 8 ∧ p1 ≤ 8 ∧ p2 ≤ 8 ∧ p3 ≤ 8 ∧ p4 ≤ 8 ∧ p5 ≤ 8 ∧ p6 ≤ 8 ∧ p7 ≤ 8) ∧ popN x 64 = p0 + (p1 + (p2 + (p3 + (p4 + (p5 + (p6 + p7)))))) ∧
    bys x 8 = p0 + 256 * (p1 + 256 * (p2 + 256 * (p3 + 256 * (p4 + 256 * (p5 + 256 * (p6 + 256 * p7)))))) := by
  have l : ∀ y : Nat, popN (y % 256) 8 ≤ 8 := fun y => popN_le 8
  refine ⟨popN (x % 256) 8, popN (x / 256 % 256) 8, popN (x / 256 / 256 % 256) 8, popN (x / 256 / 256 / 256 % 256) 8, popN (x / 256 / 256 / 256 / 256 % 256) 8, popN (x / 256 / 256 / 256 / 256 / 256 % 256) 8, popN (x / 256 / 256 / 256 / 256 / 256 / 256 % 256) 8, popN (x / 256 / 256 / 256 / 256 / 256 / 256 / 256 % 256) 8, ⟨l _, l _, l _, l _, l _, l _, l _, l _⟩, ?_, ?_⟩
  · rw [popN_split (x := x) 56, popN_split (x := x / 256) 48, popN_split (x := x / 256 / 256) 40, popN_split (x := x / 256 / 256 / 256) 32, popN_split (x := x / 256 / 256 / 256 / 256) 24, popN_split (x := x / 256 / 256 / 256 / 256 / 256) 16, popN_split (x := x / 256 / 256 / 256 / 256 / 256 / 256) 8, popN_mod 8 (Nat.le_refl 8)]
    rw [popN_mod (x := x / 256 / 256 / 256 / 256 / 256 / 256 / 256) 8 (Nat.le_refl 8)]
  · simp only [bys]; omega
theorem oc1_nat {w : Nat} (hw : w < 18446744073709551616) : oc1 (w : Int) = (n1 6148914691236517205 w : Nat) := by
  have h1 : shrI (w : Int) 1 = ((w / 2 : Nat) : Int) := shr_nat (k := 1)
  have h2 := and_u64 (x := w / 2) (y := 6148914691236517205) (by omega) (by decide)
  have h3 := and_u64 (x := w) (y := 6148914691236517205) hw (by decide)
  have l1 : w / 2 &&& 6148914691236517205 ≤ 6148914691236517205 := Nat.and_le_right
  have l2 : w &&& 6148914691236517205 ≤ 6148914691236517205 := Nat.and_le_right
  unfold oc1 n1
  rw [h1, show (6148914691236517205 : Int) = ((6148914691236517205 : Nat) : Int) from rfl, h2, h3, wrap_u64 (by omega) (by omega)]
  rfl
theorem oc2_nat {w : Nat} (hw : w < 18446744073709551616) : oc2 (w : Int) = (n2 3689348814741910323 w : Nat) := by
  have h1 : shrI (w : Int) 2 = ((w / 4 : Nat) : Int) := shr_nat (k := 2)
  have h2 := and_u64 (x := w / 4) (y := 3689348814741910323) (by omega) (by decide)
  have h3 := and_u64 (x := w) (y := 3689348814741910323) hw (by decide)
  have l1 : w / 4 &&& 3689348814741910323 ≤ 3689348814741910323 := Nat.and_le_right
  have l2 : w &&& 3689348814741910323 ≤ 3689348814741910323 := Nat.and_le_right
  unfold oc2 n2
  rw [h1, show (3689348814741910323 : Int) = ((3689348814741910323 : Nat) : Int) from rfl, h2, h3, wrap_u64 (by omega) (by omega)]
  rfl
theorem oc3_nat {w : Nat} (hw : w ≤ 7378697629483820646) : oc3 (w : Int) = (n3 1085102592571150095 w : Nat) := by
  have h1 : shrI (w : Int) 4 = ((w / 16 : Nat) : Int) := shr_nat (k := 4)
  have h2 := and_u64 (x := w / 16 + w) (y := 1085102592571150095) (by omega) (by decide)
  unfold oc3 n3
  rw [h1, wrap_u64 (by omega) (by omega), show (1085102592571150095 : Int) = ((1085102592571150095 : Nat) : Int) from rfl]
  exact h2
theorem oc4_nat {w d : Nat} {k : Int} (hd : shrI (w : Int) k = ((w / d : Nat) : Int)) (hw : w + w / d < 18446744073709551616) : oc4 k (w : Int) = ((w + w / d : Nat) : Int) := by
  unfold oc4
  rw [hd]
  generalize w / d = q at hw
  rw [wrap_u64 (by omega) (by omega)]; rfl
theorem and127 {w : Nat} (hw : w < 9223372036854775808) : bitsI .and .i64 (w : Int) 127 = ((w % 128 : Nat) : Int) := by
  have h : (BitVec.ofInt 64 (w : Int) &&& BitVec.ofInt 64 127).toNat = w % 128 := by
    rw [BitVec.toNat_and, bv_nat (by omega)]
    exact Nat.and_two_pow_sub_one_eq_mod w 7
  show IntKind.i64.wrap ((BitVec.ofInt 64 (w : Int) &&& BitVec.ofInt 64 127).toNat : Int) = _
  rw [h, ← wrapA_eq, wrap64 (by omega) (by omega)]
theorem swar_pop {w : Nat} (hw : w < 18446744073709551616) : swar (w : Int) = (popN w 64 : Int) := by
  obtain ⟨p0, p1, p2, p3, p4, p5, p6, p7, ⟨l0, l1, l2, l3, l4, l5, l6, l7⟩, hp, hb⟩ := bys_sum (x := w)
  have a1 : n1 6148914691236517205 w ≤ 12297829382473034410 := by
    unfold n1
    have l1 : w / 2 &&& 6148914691236517205 ≤ 6148914691236517205 := Nat.and_le_right
    have l2 : w &&& 6148914691236517205 ≤ 6148914691236517205 := Nat.and_le_right
    omega
  have a2 : n2 3689348814741910323 (n1 6148914691236517205 w) ≤ 7378697629483820646 := by
    unfold n2
    have l1 : n1 6148914691236517205 w / 4 &&& 3689348814741910323 ≤ 3689348814741910323 := Nat.and_le_right
    have l2 : n1 6148914691236517205 w &&& 3689348814741910323 ≤ 3689348814741910323 := Nat.and_le_right
    omega
  have a3 : n3 1085102592571150095 (n2 3689348814741910323 (n1 6148914691236517205 w)) = bys w 8 := n3_all 8 w
  unfold swar
  rw [oc1_nat hw, oc2_nat (by omega), oc3_nat a2, a3, hp]
  generalize bys w 8 = z at hb
  have e8 : oc4 8 (z : Int) = ((z + z / 256 : Nat) : Int) := oc4_nat (d := 256) (shr_nat (k := 8)) (by omega)
  rw [e8]
  generalize hy : z + z / 256 = y
  have e16 : oc4 16 (y : Int) = ((y + y / 65536 : Nat) : Int) := oc4_nat (d := 65536) (shr_nat (k := 16)) (by omega)
  rw [e16]
  generalize hu : y + y / 65536 = u
  have e32 : oc4 32 (u : Int) = ((u + u / 4294967296 : Nat) : Int) := oc4_nat (d := 4294967296) (shr_nat (k := 32)) (by omega)
  rw [e32, wrap64 (by omega) (by omega), and127 (by omega)]
  have q1 : z / 256 = p1 + 256 * (p2 + 256 * (p3 + 256 * (p4 + 256 * (p5 + 256 * (p6 + 256 * p7))))) := by omega
  have y2 : y = (p0 + p1) + 256 * ((p1 + p2) + 256 * ((p2 + p3) + 256 * ((p3 + p4) + 256 * ((p4 + p5) + 256 * ((p5 + p6) + 256 * ((p6 + p7) + 256 * p7)))))) := by omega
  have y3 : y / 65536 = (p2 + p3) + 256 * ((p3 + p4) + 256 * ((p4 + p5) + 256 * ((p5 + p6) + 256 * ((p6 + p7) + 256 * p7)))) := by clear hy q1 hb e8 e16 e32; omega
  have u2 : u = (p0 + p1 + p2 + p3) + 256 * ((p1 + p2 + p3 + p4) + 256 * ((p2 + p3 + p4 + p5) + 256 * ((p3 + p4 + p5 + p6) + 256 * ((p4 + p5 + p6 + p7) + 256 * ((p5 + p6 + p7) + 256 * ((p6 + p7) + 256 * p7)))))) := by clear hy q1 hb e8 e16 e32; omega
  have u3 : u / 4294967296 = (p4 + p5 + p6 + p7) + 256 * ((p5 + p6 + p7) + 256 * ((p6 + p7) + 256 * p7)) := by clear hy q1 hb y2 y3 hu e8 e16 e32; omega
  have e : (u + u / 4294967296) % 128 = p0 + (p1 + (p2 + (p3 + (p4 + (p5 + (p6 + p7)))))) := by
    rw [u3]; clear hy q1 hb y2 y3 hu u3 e8 e16 e32; omega
  rw [e]
end Go.Proofs.YtkofmbhopmgmhaaDoor.Dm
