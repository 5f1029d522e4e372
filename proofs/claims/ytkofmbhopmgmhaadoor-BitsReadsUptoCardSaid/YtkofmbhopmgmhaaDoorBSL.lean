/- Bit strings are sets: the plain laws. -/
import Derived.Test.YtkofmbhopmgmhaaDoorBC
import Derived.Test.YtkofmbhopmgmhaaDoorBP
set_option linter.unusedSimpArgs false
set_option linter.unusedVariables false
namespace Go.Proofs.YtkofmbhopmgmhaaDoor.Dm
open Go.Dm
set_option maxHeartbeats 4000000

abbrev aB (a b : T_Bits) : T_Bits := mapW (· &&& ·) a b
abbrev oB (a b : T_Bits) : T_Bits := mapW (· ||| ·) a b
abbrev nB (a b : T_Bits) : T_Bits := mapW andN a b
theorem aB_ok {a b : T_Bits} (ha : OkB a) : OkB (aB a b) := mapW_ok ha fun i => and_lt (wn_lt ha i)
theorem oB_ok {a b : T_Bits} (ha : OkB a) (hb : OkB b) : OkB (oB a b) := mapW_ok ha fun i => or_lt (wn_lt ha i) (wn_lt hb i)
theorem nB_ok {a b : T_Bits} (ha : OkB a) : OkB (nB a b) := mapW_ok ha fun i => and_lt (wn_lt ha i)
theorem aB_comm {a b : T_Bits} (ha : OkB a) (hb : OkB b) : aB b a = aB a b := by
  refine bits_ext (aB_ok hb) (aB_ok ha) fun i j hi hj => ?_
  simp only [mapW_get hi, Nat.testBit_and]
  cases (wn a i).testBit j <;> cases (wn b i).testBit j <;> rfl
theorem oB_comm {a b : T_Bits} (ha : OkB a) (hb : OkB b) : oB b a = oB a b := by
  refine bits_ext (oB_ok hb ha) (oB_ok ha hb) fun i j hi hj => ?_
  simp only [mapW_get hi, Nat.testBit_or]
  cases (wn a i).testBit j <;> cases (wn b i).testBit j <;> rfl
theorem aB_nB {a b : T_Bits} (ha : OkB a) (hb : OkB b) : aB (aB a b) (nB a b) = zb := by
  refine bits_ext (aB_ok (aB_ok ha)) zb_ok fun i j hi hj => ?_
  simp only [mapW_get hi, Nat.testBit_and, andN_bit hj, zb_bit]
  cases (wn a i).testBit j <;> cases (wn b i).testBit j <;> rfl
theorem oB_nB {a b : T_Bits} (ha : OkB a) (hb : OkB b) : oB (aB a b) (nB a b) = a := by
  refine bits_ext (oB_ok (aB_ok ha) (nB_ok ha)) ha fun i j hi hj => ?_
  simp only [mapW_get hi, Nat.testBit_and, Nat.testBit_or, andN_bit hj]
  cases (wn a i).testBit j <;> cases (wn b i).testBit j <;> rfl
theorem oB_rest {a b : T_Bits} (ha : OkB a) (hb : OkB b) : oB (nB a b) b = oB a b := by
  refine bits_ext (oB_ok (nB_ok ha) hb) (oB_ok ha hb) fun i j hi hj => ?_
  simp only [mapW_get hi, Nat.testBit_or, andN_bit hj]
  cases (wn a i).testBit j <;> cases (wn b i).testBit j <;> rfl
theorem aB_assoc {a b c : T_Bits} (ha : OkB a) (hb : OkB b) (hc : OkB c) : aB (aB a b) c = aB a (aB b c) := by
  refine bits_ext (aB_ok (aB_ok ha)) (aB_ok ha) fun i j hi hj => ?_
  simp only [mapW_get hi, Nat.testBit_and, Bool.and_assoc]
theorem oB_assoc {a b c : T_Bits} (ha : OkB a) (hb : OkB b) (hc : OkB c) : oB (oB a b) c = oB a (oB b c) := by
  refine bits_ext (oB_ok (oB_ok ha hb) hc) (oB_ok ha (oB_ok hb hc)) fun i j hi hj => ?_
  simp only [mapW_get hi, Nat.testBit_or, Bool.or_assoc]
theorem aB_oB {a b c : T_Bits} (ha : OkB a) (hb : OkB b) (hc : OkB c) : aB (oB a b) c = oB (aB a c) (aB b c) := by
  refine bits_ext (aB_ok (oB_ok ha hb)) (oB_ok (aB_ok ha) (aB_ok hb)) fun i j hi hj => ?_
  simp only [mapW_get hi, Nat.testBit_or, Nat.testBit_and, Bool.and_or_distrib_right]
theorem pop_add {x y : Nat} : ∀ n, popN (x &&& y) n + popN (x ||| y) n = popN x n + popN y n
  | 0 => rfl
  | n + 1 => by
    have := pop_add (x := x) (y := y) n
    simp only [popN, Nat.testBit_and, Nat.testBit_or]
    cases x.testBit n <;> cases y.testBit n <;> simp <;> omega
theorem pop_sub {x y : Nat} : ∀ n, n ≤ 64 → popN (andN x y) n + popN (x &&& y) n = popN x n
  | 0, _ => rfl
  | n + 1, h => by
    have := pop_sub (x := x) (y := y) n (by omega)
    simp only [popN, Nat.testBit_and, andN_bit (show n < 64 from h)]
    cases x.testBit n <;> cases y.testBit n <;> simp <;> omega
theorem cnt_pop {a : T_Bits} (ha : OkB a) : cnt a 4 = ((popN (wn a 0) 64 + popN (wn a 1) 64 + popN (wn a 2) 64 + popN (wn a 3) 64 : Nat) : Int) := by
  simp only [cnt, swar_pop (wn_lt ha _)]
  omega
theorem cnt_len {a : T_Bits} (ha : OkB a) : cnt a 4 = ((bitsL a).length : Int) := by
  rw [cnt_pop ha, bitsL_pop ha]; omega
theorem cnt_add {a b : T_Bits} (ha : OkB a) (hb : OkB b) : cnt (aB a b) 4 + cnt (oB a b) 4 = cnt a 4 + cnt b 4 := by
  rw [cnt_pop (aB_ok ha), cnt_pop (oB_ok ha hb), cnt_pop ha, cnt_pop hb]
  simp only [mapW_get (show 0 < 4 by decide), mapW_get (show 1 < 4 by decide), mapW_get (show 2 < 4 by decide), mapW_get (show 3 < 4 by decide)]
  have h0 := pop_add (x := wn a 0) (y := wn b 0) 64
  have h1 := pop_add (x := wn a 1) (y := wn b 1) 64
  have h2 := pop_add (x := wn a 2) (y := wn b 2) 64
  have h3 := pop_add (x := wn a 3) (y := wn b 3) 64
  omega
theorem cnt_sub {a b : T_Bits} (ha : OkB a) (hb : OkB b) : cnt (nB a b) 4 + cnt (aB a b) 4 = cnt a 4 := by
  rw [cnt_pop (aB_ok ha), cnt_pop (nB_ok ha), cnt_pop ha]
  simp only [mapW_get (show 0 < 4 by decide), mapW_get (show 1 < 4 by decide), mapW_get (show 2 < 4 by decide), mapW_get (show 3 < 4 by decide)]
  have h0 := pop_sub (x := wn a 0) (y := wn b 0) 64 (Nat.le_refl _)
  have h1 := pop_sub (x := wn a 1) (y := wn b 1) 64 (Nat.le_refl _)
  have h2 := pop_sub (x := wn a 2) (y := wn b 2) 64 (Nat.le_refl _)
  have h3 := pop_sub (x := wn a 3) (y := wn b 3) 64 (Nat.le_refl _)
  omega
end Go.Proofs.YtkofmbhopmgmhaaDoor.Dm
