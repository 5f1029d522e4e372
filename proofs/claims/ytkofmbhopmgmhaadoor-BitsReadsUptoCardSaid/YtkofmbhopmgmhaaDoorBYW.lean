/- Bytes, Read: what they compute; BitsBytes. -/
import Derived.Test.YtkofmbhopmgmhaaDoorBY
import Derived.Test.YtkofmbhopmgmhaaDoorBT
set_option linter.unusedSimpArgs false
set_option linter.unusedVariables false
namespace Go.Proofs.YtkofmbhopmgmhaaDoor.Dm
open Go.Dm
set_option maxHeartbeats 16000000
theorem wrap_u8 {n : Nat} (h : n < 256) : wrapA .u8 (n : Int) = n := wrap_id (by simp [IntKind.signed]) (by simp [IntKind.signed, IntKind.bits]; omega)
theorem bv8_nat {x : Nat} (h : x < 256) : (BitVec.ofInt 8 (x : Int)).toNat = x := by rw [BitVec.toNat_ofInt]; omega
theorem or_lt8 {x y : Nat} (hx : x < 256) (hy : y < 256) : x ||| y < 256 := Nat.or_lt_two_pow (n := 8) hx hy
theorem or_u8 {x y : Nat} (hx : x < 256) (hy : y < 256) : bitsI .or .u8 (x : Int) (y : Int) = ((x ||| y : Nat) : Int) := by
  have h1 := or_lt8 hx hy
  have e : (BitVec.ofInt 8 (x : Int) ||| BitVec.ofInt 8 (y : Int)).toNat = x ||| y := by rw [BitVec.toNat_or, bv8_nat hx, bv8_nat hy]
  show IntKind.u8.wrap ((BitVec.ofInt 8 (x : Int) ||| BitVec.ofInt 8 (y : Int)).toNat : Int) = _
  rw [e, ← wrapA_eq]; exact wrap_u8 h1
theorem and_u8 {x y : Nat} (hx : x < 256) (hy : y < 256) : bitsI .and .u8 (x : Int) (y : Int) = ((x &&& y : Nat) : Int) := by
  have h1 : x &&& y < 256 := Nat.lt_of_le_of_lt Nat.and_le_left hx
  have e : (BitVec.ofInt 8 (x : Int) &&& BitVec.ofInt 8 (y : Int)).toNat = x &&& y := by rw [BitVec.toNat_and, bv8_nat hx, bv8_nat hy]
  show IntKind.u8.wrap ((BitVec.ofInt 8 (x : Int) &&& BitVec.ofInt 8 (y : Int)).toNat : Int) = _
  rw [e, ← wrapA_eq]; exact wrap_u8 h1
def byW (w : Int) : Bool := decide (8 ≤ w) && decide (w ≤ 256) && decide (w.tmod 8 = 0)
/-- what Bytes answers -/
def bytV (b : T_Bits) (w : Int) : Value :=
  if byW w then (if belowB b w then .tuple ⟨[.string ⟨⟨bytesOf (oI b (w.toNat / 8) (w.toNat / 8))⟩⟩, .int .i64 0]⟩ else .tuple ⟨[.string ⟨⟨[]⟩⟩, .int .i64 3]⟩)
  else .tuple ⟨[.string ⟨⟨[]⟩⟩, .int .i64 2]⟩
def conBytes : Con := .pure (fun args _ => match args with | [v, .int .i64 _] => IsBits v | _ => False) (fun args _ => match args with | [v, w] => bytV (bOf v) (intOf w) | _ => undef)
def stBy (hp : Hp) (top : Nat) (b : T_Bits) (m k : Nat) : SS := ⟨[(2, .pointer (some ⟨top, 0, none⟩), true), (6, .slice (some ⟨top + 1, 0, none⟩) m m, true), (29, .int .i64 (m : Int), true), (30, .int .i64 (k : Int), true)], hp.sets [(top, some (.cells true 0 (bl b))), (top + 1, some (.cells true 1 ((oI b m k).map (Value.int .u8))))], top + 2⟩
theorem G15_below' : G15 34 = conBelow := rfl

theorem bytes_ok : ConOk Tryd.prog 16 conBytes := by
  refine .mkRd fn16_ok ?_ ?_
  · rintro args hp h
    match args, h with
    | [_, .int .i64 w], ⟨b, rfl, hb⟩ =>
      simp only [bOf_bl, intOf_int, bytV]
      split
      · split <;> rfl
      · rfl
  intro args hp hpre top hcl hsc
  match args, hpre with
  | [_, .int .i64 w], ⟨b, rfl, hb⟩ =>
  have hI := isBits_bl hb
  simp only [bOf_bl, intOf_int]
  refine CalledOk.of_fun tt_ok fn16_ok rfl 48 rfl [.tmp 4, .tmp 5] rfl (show 2 ≤ 48 by decide) ?_
  by_cases q1 : w < 8
  · have e : bytV b w = .tuple ⟨[.string ⟨⟨[]⟩⟩, .int .i64 2]⟩ := by have : ¬ 8 ≤ w := by omega
                                                                     simp [bytV, byW, this]
    rw [e]
    refine CW.vc env15 [0, 1, 2, 4, 5, 6, 7, 8, 20, 29, 30, 31] (by kernel_rfl) ?_
    (simp (config := { maxSteps := 6000000 }) only [go_sem, reduceIte, reduceCtorEq, Nat.reduceAdd, Nat.reduceMul, Nat.reduceSub, Nat.reduceLT, Nat.reduceLeDiff, Nat.reduceEqDiff, Int.reduceEq, Int.reduceLT, Int.reduceLE, Int.reduceNe, rem64, mask64, c_iu, wrapu_mod, bl_len, bl_take, bl_ren, bl_app, bl_one, bOf_bl, Nat.mul_one, q1]; repeat (refine Vc.mk' ?_; simp (config := { maxSteps := 6000000 }) only [go_sem, reduceIte, reduceCtorEq, Nat.reduceAdd, Nat.reduceMul, Nat.reduceSub, Nat.reduceLT, Nat.reduceLeDiff, Nat.reduceEqDiff, Int.reduceEq, Int.reduceLT, Int.reduceLE, Int.reduceNe, rem64, mask64, c_iu, wrapu_mod, bl_len, bl_take, bl_ren, bl_app, bl_one, bOf_bl, Nat.mul_one, q1]))
  by_cases q2 : 256 < w
  · have e : bytV b w = .tuple ⟨[.string ⟨⟨[]⟩⟩, .int .i64 2]⟩ := by have : ¬ w ≤ 256 := by omega
                                                                     simp [bytV, byW, this]
    rw [e]
    refine CW.vc env15 [0, 1, 2, 4, 5, 6, 7, 8, 20, 29, 30, 31] (by kernel_rfl) ?_
    (simp (config := { maxSteps := 6000000 }) only [go_sem, reduceIte, reduceCtorEq, Nat.reduceAdd, Nat.reduceMul, Nat.reduceSub, Nat.reduceLT, Nat.reduceLeDiff, Nat.reduceEqDiff, Int.reduceEq, Int.reduceLT, Int.reduceLE, Int.reduceNe, rem64, mask64, c_iu, wrapu_mod, bl_len, bl_take, bl_ren, bl_app, bl_one, bOf_bl, Nat.mul_one, q1, q2]; repeat (refine Vc.mk' ?_; simp (config := { maxSteps := 6000000 }) only [go_sem, reduceIte, reduceCtorEq, Nat.reduceAdd, Nat.reduceMul, Nat.reduceSub, Nat.reduceLT, Nat.reduceLeDiff, Nat.reduceEqDiff, Int.reduceEq, Int.reduceLT, Int.reduceLE, Int.reduceNe, rem64, mask64, c_iu, wrapu_mod, bl_len, bl_take, bl_ren, bl_app, bl_one, bOf_bl, Nat.mul_one, q1, q2]))
  by_cases q3 : w.tmod 8 = 0
  case neg =>
    have e : bytV b w = .tuple ⟨[.string ⟨⟨[]⟩⟩, .int .i64 2]⟩ := by simp [bytV, byW, q3]
    rw [e]
    refine CW.vc env15 [0, 1, 2, 4, 5, 6, 7, 8, 20, 29, 30, 31] (by kernel_rfl) ?_
    (simp (config := { maxSteps := 6000000 }) only [go_sem, reduceIte, reduceCtorEq, Nat.reduceAdd, Nat.reduceMul, Nat.reduceSub, Nat.reduceLT, Nat.reduceLeDiff, Nat.reduceEqDiff, Int.reduceEq, Int.reduceLT, Int.reduceLE, Int.reduceNe, rem64, mask64, c_iu, wrapu_mod, bl_len, bl_take, bl_ren, bl_app, bl_one, bOf_bl, Nat.mul_one, q1, q2, q3]; repeat (refine Vc.mk' ?_; simp (config := { maxSteps := 6000000 }) only [go_sem, reduceIte, reduceCtorEq, Nat.reduceAdd, Nat.reduceMul, Nat.reduceSub, Nat.reduceLT, Nat.reduceLeDiff, Nat.reduceEqDiff, Int.reduceEq, Int.reduceLT, Int.reduceLE, Int.reduceNe, rem64, mask64, c_iu, wrapu_mod, bl_len, bl_take, bl_ren, bl_app, bl_one, bOf_bl, Nat.mul_one, q1, q2, q3]))
  have hw : byW w = true := by
    have h1 : 8 ≤ w := by omega
    have h2 : w ≤ 256 := by omega
    simp [byW, h1, h2, q3]
  unfold bytV
  rw [if_pos hw]
  cases hbe : belowB b w with
  | false =>
    refine CW.vc env15 [0, 1, 2, 4, 5, 6, 7, 8, 20, 29, 30, 31] (by kernel_rfl) ?_
    (simp (config := { maxSteps := 6000000 }) only [go_sem, reduceIte, reduceCtorEq, Nat.reduceAdd, Nat.reduceMul, Nat.reduceSub, Nat.reduceLT, Nat.reduceLeDiff, Nat.reduceEqDiff, Int.reduceEq, Int.reduceLT, Int.reduceLE, Int.reduceNe, rem64, mask64, c_iu, wrapu_mod, bl_len, bl_take, bl_ren, bl_app, bl_one, bOf_bl, Nat.mul_one, q1, q2, q3, G15_below, conBelow, hI, hbe]; repeat (refine Vc.mk' ?_; simp (config := { maxSteps := 6000000 }) only [go_sem, reduceIte, reduceCtorEq, Nat.reduceAdd, Nat.reduceMul, Nat.reduceSub, Nat.reduceLT, Nat.reduceLeDiff, Nat.reduceEqDiff, Int.reduceEq, Int.reduceLT, Int.reduceLE, Int.reduceNe, rem64, mask64, c_iu, wrapu_mod, bl_len, bl_take, bl_ren, bl_app, bl_one, bOf_bl, Nat.mul_one, q1, q2, q3, G15_below, conBelow, hI, hbe]))
  | true =>
    obtain ⟨m, rfl⟩ : ∃ m : Nat, w = 8 * (m : Int) := ⟨w.toNat / 8, by
      have h0 : 0 ≤ w := by omega
      obtain ⟨n, rfl⟩ := Int.eq_ofNat_of_zero_le h0
      rw [show (n : Int).tmod 8 = ((n % 8 : Nat) : Int) from rfl] at q3
      omega⟩
    have m1 : 1 ≤ m := by omega
    have m2 : m ≤ 32 := by omega
    have q4 : IntKind.i64.wrap ((8 * (m : Int)).tdiv 8) = (m : Int) := by
      rw [show (8 * (m : Int)).tdiv 8 = ((8 * m / 8 : Nat) : Int) from rfl, ← wrapA_eq, wrap64 (by omega) (by omega)]; omega
    have q5 : (8 * (m : Int)).toNat / 8 = m := by omega
    rw [if_pos rfl, q5]
    refine CW.vc env15 [0, 1, 2, 4, 5, 6, 7, 8, 20, 29, 30, 31] (by kernel_rfl) ?_
    have b1 : Nat.ble (1 * m) 1099511627776 = true := Nat.ble_eq_true_of_le (by omega)
    have b2 : Nat.ble m 1099511627776 = true := Nat.ble_eq_true_of_le (by omega)
    (simp (config := { maxSteps := 6000000 }) only [go_sem, reduceIte, reduceCtorEq, Nat.reduceAdd, Nat.reduceMul, Nat.reduceSub, Nat.reduceLT, Nat.reduceLeDiff, Nat.reduceEqDiff, Int.reduceEq, Int.reduceLT, Int.reduceLE, Int.reduceNe, rem64, mask64, c_iu, wrapu_mod, bl_len, bl_take, bl_ren, bl_app, bl_one, bOf_bl, Nat.mul_one, q1, q2, q3, q4, b1, b2, G15_below, conBelow, hI, hbe, slen8, makeSliceA]; repeat (refine Vc.mk' ?_; simp (config := { maxSteps := 6000000 }) only [go_sem, reduceIte, reduceCtorEq, Nat.reduceAdd, Nat.reduceMul, Nat.reduceSub, Nat.reduceLT, Nat.reduceLeDiff, Nat.reduceEqDiff, Int.reduceEq, Int.reduceLT, Int.reduceLE, Int.reduceNe, rem64, mask64, c_iu, wrapu_mod, bl_len, bl_take, bl_ren, bl_app, bl_one, bOf_bl, Nat.mul_one, q1, q2, q3, q4, b1, b2, G15_below, conBelow, hI, hbe, slen8, makeSliceA]))
    refine CW.loopR (stBy hp top b m) (fun k => k ≤ m) (fun k => m - k) 0 (Nat.zero_le _) ?_ ?_
    · have hren : ∀ ρ : Nat → Nat, renL ρ (reps m (Value.int .u8 0)) = reps m (Value.int .u8 0) := fun ρ => by rw [reps_map, renL_ints]
      exact SubR.mk' [top, top + 1] hcl (by simp) (by simp) rfl (frSub_ok (by simp [frSub, lkG, ren, renL, renL_set, renL_ints, UpdOk.nil, UpdOk.cons, renOO_some, renO_cells, renO_map, renOO_mkOb, rn_base, rn_add, ren_mkSl, Enc.flat_ren, set_same, set_ne, sets_cons, sets_nil, Keep.set, Keep.setK, Keep.refl, bl_ren, oI_zero, hren])) (by simp [frSub, lkG, ren, renL, renL_set, renL_ints, UpdOk.nil, UpdOk.cons, renOO_some, renO_cells, renO_map, renOO_mkOb, rn_base, rn_add, ren_mkSl, Enc.flat_ren, set_same, set_ne, sets_cons, sets_nil, Keep.set, Keep.setK, Keep.refl, bl_ren, oI_zero, hren]) (by simp [frSub, lkG, ren, renL, renL_set, renL_ints, UpdOk.nil, UpdOk.cons, renOO_some, renO_cells, renO_map, renOO_mkOb, rn_base, rn_add, ren_mkSl, Enc.flat_ren, set_same, set_ne, sets_cons, sets_nil, Keep.set, Keep.setK, Keep.refl, bl_ren, oI_zero, hren])
    · intro k hk
      by_cases hlt : k < m
      · have hlt1 : (k : Int) < (m : Int) := by omega
        have hlt2 : k + 1 ≤ m := hlt
        have r1 : IntKind.i64.wrap ((k : Int).tdiv 8) = ((k / 8 : Nat) : Int) := by
          rw [show (k : Int).tdiv 8 = ((k / 8 : Nat) : Int) from rfl, ← wrapA_eq, wrap64 (by omega) (by omega)]
        have r2 : (k : Int).tmod 8 = ((k % 8 : Nat) : Int) := rfl
        have r3 : wrapA .i64 (8 * ((k % 8 : Nat) : Int)) = ((8 * (k % 8) : Nat) : Int) := by rw [wrap64 (by omega) (by omega)]; omega
        have h4 : k / 8 < 4 := by omega
        have h5 : k / 8 ≤ 3 := by omega
        have h6 : ((k / 8 : Nat) : Int) < 4 := by omega
        have r4 : (8 * (k % 8)).min 64 = 8 * (k % 8) := Nat.min_eq_left (by omega)
        have hw8 := wn_lt hb (k / 8)
        have r5 : wrapA .u8 (((wn b (k / 8) : Nat) : Int).fdiv (Int.ofNat (Nat.pow 2 (8 * (k % 8))))) = ((byN b k : Nat) : Int) := by
          have e2 : ((wn b (k / 8) : Nat) : Int).fdiv (Int.ofNat (Nat.pow 2 (8 * (k % 8)))) = ((wn b (k / 8) / 2 ^ (8 * (k % 8)) : Nat) : Int) := (Int.ofNat_fdiv _ _).symm
          rw [e2, wrapA_eq, ← byte_of (by omega)]
          simp [IntKind.wrap, IntKind.signed, IntKind.bits]
        refine CW.vc env15 [0, 1, 2, 4, 5, 6, 7, 8, 20, 29, 30, 31] (by kernel_rfl) ?_
        (simp (config := { maxSteps := 6000000 }) only [go_sem, reduceIte, reduceCtorEq, Nat.reduceAdd, Nat.reduceMul, Nat.reduceSub, Nat.reduceLT, Nat.reduceLeDiff, Nat.reduceEqDiff, Int.reduceEq, Int.reduceLT, Int.reduceLE, Int.reduceNe, rem64, mask64, c_iu, wrapu_mod, bl_len, bl_take, bl_ren, bl_app, bl_one, bOf_bl, Nat.mul_one, stBy, hlt, hlt1, hlt2, r1, r2, r3, r4, r5, h4, h5, h6, bl_get hb h4, c_ub, oI_len, splice_ints (show k < (oI b m k).length by rw [oI_len]; exact hlt), oI_step hlt]; repeat (refine Vc.mk' ?_; simp (config := { maxSteps := 6000000 }) only [go_sem, reduceIte, reduceCtorEq, Nat.reduceAdd, Nat.reduceMul, Nat.reduceSub, Nat.reduceLT, Nat.reduceLeDiff, Nat.reduceEqDiff, Int.reduceEq, Int.reduceLT, Int.reduceLE, Int.reduceNe, rem64, mask64, c_iu, wrapu_mod, bl_len, bl_take, bl_ren, bl_app, bl_one, bOf_bl, Nat.mul_one, stBy, hlt, hlt1, hlt2, r1, r2, r3, r4, r5, h4, h5, h6, bl_get hb h4, c_ub, oI_len, splice_ints (show k < (oI b m k).length by rw [oI_len]; exact hlt), oI_step hlt]))
        refine .mk (k + 1) hlt (by omega) (SubR.mk' [top, top + 1] hcl (by simp) (by simp) rfl (frSub_ok (by simp [frSub, lkG, ren, renL, renL_set, renL_ints, UpdOk.nil, UpdOk.cons, renOO_some, renO_cells, renO_map, renOO_mkOb, rn_base, rn_add, ren_mkSl, Enc.flat_ren, set_same, set_ne, sets_cons, sets_nil, Keep.set, Keep.setK, Keep.refl, bl_ren, wrap_succ hlt (by omega)])) (by simp [frSub, lkG, ren, renL, renL_set, renL_ints, UpdOk.nil, UpdOk.cons, renOO_some, renO_cells, renO_map, renOO_mkOb, rn_base, rn_add, ren_mkSl, Enc.flat_ren, set_same, set_ne, sets_cons, sets_nil, Keep.set, Keep.setK, Keep.refl, bl_ren, wrap_succ hlt (by omega)]) (by simp [frSub, lkG, ren, renL, renL_set, renL_ints, UpdOk.nil, UpdOk.cons, renOO_some, renO_cells, renO_map, renOO_mkOb, rn_base, rn_add, ren_mkSl, Enc.flat_ren, set_same, set_ne, sets_cons, sets_nil, Keep.set, Keep.setK, Keep.refl, bl_ren, wrap_succ hlt (by omega)]))
      · have hk2 : k = m := by omega
        subst hk2
        have hcv : sconvH tt.get ((hp.set top (some (.cells true 0 (bl b)))).set (top + 1) (some (.cells true 1 ((oI b k k).map (Value.int .u8))))) 51 9 (.slice (some ⟨top + 1, 0, none⟩) k k) = (.string ⟨⟨bytesOf (oI b k k)⟩⟩, True) :=
          sconvH_bytes k_suint8 k_uint8 k_string (set_same ..) (by rw [List.drop_zero, List.take_of_length_le (by simp [oI_len])]) (by simp [oI_len])
        refine CW.vc env15 [0, 1, 2, 4, 5, 6, 7, 8, 20, 29, 30, 31] (by kernel_rfl) ?_
        (simp (config := { maxSteps := 6000000 }) only [go_sem, reduceIte, reduceCtorEq, Nat.reduceAdd, Nat.reduceMul, Nat.reduceSub, Nat.reduceLT, Nat.reduceLeDiff, Nat.reduceEqDiff, Int.reduceEq, Int.reduceLT, Int.reduceLE, Int.reduceNe, rem64, mask64, c_iu, wrapu_mod, bl_len, bl_take, bl_ren, bl_app, bl_one, bOf_bl, Nat.mul_one, stBy, Nat.lt_irrefl, Int.lt_irrefl, decide_false, hcv]; repeat (refine Vc.mk' ?_; simp (config := { maxSteps := 6000000 }) only [go_sem, reduceIte, reduceCtorEq, Nat.reduceAdd, Nat.reduceMul, Nat.reduceSub, Nat.reduceLT, Nat.reduceLeDiff, Nat.reduceEqDiff, Int.reduceEq, Int.reduceLT, Int.reduceLE, Int.reduceNe, rem64, mask64, c_iu, wrapu_mod, bl_len, bl_take, bl_ren, bl_app, bl_one, bOf_bl, Nat.mul_one, stBy, Nat.lt_irrefl, Int.lt_irrefl, decide_false, hcv]))
def stRBy (hp : Hp) (top : Nat) (b : T_Bits) (m i : Nat) : SS := ⟨[(2, .pointer (some ⟨top, 0, none⟩), true), (6, .slice (some ⟨top + 1, 0, none⟩) m m, true), (7, mkSl (top + 2) (lsB b), true), (8, .int .i64 (i : Int), true)], hp.sets [(top, some (.cells true 0 (bl b))), (top + 1, some (.cells true 1 ((rI b m i).map (Value.int .u8)))), (top + 2, mkOb e_int (lsB b))], top + 3⟩
theorem ls_below {b : T_Bits} {w : Int} (h : belowL (lsB b) w = true) {i : Nat} (hi : i < (lsB b).length) : at' (lsB b) i ≤ w := by
  simp only [belowL, Bool.and_eq_true, Bool.or_eq_true, decide_eq_true_eq] at h
  rcases h.2 with h2 | h2
  · omega
  · rcases Nat.lt_or_ge i ((lsB b).length - 1) with h3 | h3
    · have := List.pairwise_iff_getElem.1 (ls_sorted (b := b)) i ((lsB b).length - 1) hi (by omega) h3
      rw [← at'_get, ← at'_get] at this
      omega
    · have e : i = (lsB b).length - 1 := by omega
      rw [e]; exact h2
theorem c_iuint {hp : Hp} {x : Value} : sconvH tt.get hp 3 56 x = (.int .u64 (wrapA .u64 (intOf x)), IsN x) := sconvH_int k_int k_uint

theorem rbytes_ok : ConOk Tryd.prog 17 conBytes := by
  refine .mkRd fn17_ok ?_ ?_
  · rintro args hp h
    match args, h with
    | [_, .int .i64 w], ⟨b, rfl, hb⟩ =>
      simp only [bOf_bl, intOf_int, bytV]
      split
      · split <;> rfl
      · rfl
  intro args hp hpre top hcl hsc
  match args, hpre with
  | [_, .int .i64 w], ⟨b, rfl, hb⟩ =>
  have hI := isBits_bl hb
  simp only [bOf_bl, intOf_int]
  refine CalledOk.of_fun tt_ok fn17_ok rfl 57 rfl [.tmp 4, .tmp 5] rfl (show 2 ≤ 57 by decide) ?_
  by_cases q1 : w < 8
  · have e : bytV b w = .tuple ⟨[.string ⟨⟨[]⟩⟩, .int .i64 2]⟩ := by have : ¬ 8 ≤ w := by omega
                                                                     simp [bytV, byW, this]
    rw [e]
    refine CW.vc env15 [0, 1, 2, 4, 5, 6, 7, 8, 9, 20, 24, 33] (by kernel_rfl) ?_
    (simp (config := { maxSteps := 6000000 }) only [go_sem, reduceIte, reduceCtorEq, Nat.reduceAdd, Nat.reduceMul, Nat.reduceSub, Nat.reduceLT, Nat.reduceLeDiff, Nat.reduceEqDiff, Int.reduceEq, Int.reduceLT, Int.reduceLE, Int.reduceNe, rem64, mask64, c_iu, wrapu_mod, bl_len, bl_take, bl_ren, bl_app, bl_one, bOf_bl, Nat.mul_one, q1]; repeat (refine Vc.mk' ?_; simp (config := { maxSteps := 6000000 }) only [go_sem, reduceIte, reduceCtorEq, Nat.reduceAdd, Nat.reduceMul, Nat.reduceSub, Nat.reduceLT, Nat.reduceLeDiff, Nat.reduceEqDiff, Int.reduceEq, Int.reduceLT, Int.reduceLE, Int.reduceNe, rem64, mask64, c_iu, wrapu_mod, bl_len, bl_take, bl_ren, bl_app, bl_one, bOf_bl, Nat.mul_one, q1]))
  by_cases q2 : 256 < w
  · have e : bytV b w = .tuple ⟨[.string ⟨⟨[]⟩⟩, .int .i64 2]⟩ := by have : ¬ w ≤ 256 := by omega
                                                                     simp [bytV, byW, this]
    rw [e]
    refine CW.vc env15 [0, 1, 2, 4, 5, 6, 7, 8, 9, 20, 24, 33] (by kernel_rfl) ?_
    (simp (config := { maxSteps := 6000000 }) only [go_sem, reduceIte, reduceCtorEq, Nat.reduceAdd, Nat.reduceMul, Nat.reduceSub, Nat.reduceLT, Nat.reduceLeDiff, Nat.reduceEqDiff, Int.reduceEq, Int.reduceLT, Int.reduceLE, Int.reduceNe, rem64, mask64, c_iu, wrapu_mod, bl_len, bl_take, bl_ren, bl_app, bl_one, bOf_bl, Nat.mul_one, q1, q2]; repeat (refine Vc.mk' ?_; simp (config := { maxSteps := 6000000 }) only [go_sem, reduceIte, reduceCtorEq, Nat.reduceAdd, Nat.reduceMul, Nat.reduceSub, Nat.reduceLT, Nat.reduceLeDiff, Nat.reduceEqDiff, Int.reduceEq, Int.reduceLT, Int.reduceLE, Int.reduceNe, rem64, mask64, c_iu, wrapu_mod, bl_len, bl_take, bl_ren, bl_app, bl_one, bOf_bl, Nat.mul_one, q1, q2]))
  by_cases q3 : w.tmod 8 = 0
  case neg =>
    have e : bytV b w = .tuple ⟨[.string ⟨⟨[]⟩⟩, .int .i64 2]⟩ := by simp [bytV, byW, q3]
    rw [e]
    refine CW.vc env15 [0, 1, 2, 4, 5, 6, 7, 8, 9, 20, 24, 33] (by kernel_rfl) ?_
    (simp (config := { maxSteps := 6000000 }) only [go_sem, reduceIte, reduceCtorEq, Nat.reduceAdd, Nat.reduceMul, Nat.reduceSub, Nat.reduceLT, Nat.reduceLeDiff, Nat.reduceEqDiff, Int.reduceEq, Int.reduceLT, Int.reduceLE, Int.reduceNe, rem64, mask64, c_iu, wrapu_mod, bl_len, bl_take, bl_ren, bl_app, bl_one, bOf_bl, Nat.mul_one, q1, q2, q3]; repeat (refine Vc.mk' ?_; simp (config := { maxSteps := 6000000 }) only [go_sem, reduceIte, reduceCtorEq, Nat.reduceAdd, Nat.reduceMul, Nat.reduceSub, Nat.reduceLT, Nat.reduceLeDiff, Nat.reduceEqDiff, Int.reduceEq, Int.reduceLT, Int.reduceLE, Int.reduceNe, rem64, mask64, c_iu, wrapu_mod, bl_len, bl_take, bl_ren, bl_app, bl_one, bOf_bl, Nat.mul_one, q1, q2, q3]))
  have hw : byW w = true := by
    have h1 : 8 ≤ w := by omega
    have h2 : w ≤ 256 := by omega
    simp [byW, h1, h2, q3]
  unfold bytV
  rw [if_pos hw, below_eq hb]
  cases hbe : belowL (lsB b) w with
  | false =>
    refine CW.vc env15 [0, 1, 2, 4, 5, 6, 7, 8, 9, 20, 24, 33] (by kernel_rfl) ?_
    (simp (config := { maxSteps := 6000000 }) only [go_sem, reduceIte, reduceCtorEq, Nat.reduceAdd, Nat.reduceMul, Nat.reduceSub, Nat.reduceLT, Nat.reduceLeDiff, Nat.reduceEqDiff, Int.reduceEq, Int.reduceLT, Int.reduceLE, Int.reduceNe, rem64, mask64, c_iu, wrapu_mod, bl_len, bl_take, bl_ren, bl_app, bl_one, bOf_bl, Nat.mul_one, q1, q2, q3, G15_rbelow, conRBelow, hI, hbe]; repeat (refine Vc.mk' ?_; simp (config := { maxSteps := 6000000 }) only [go_sem, reduceIte, reduceCtorEq, Nat.reduceAdd, Nat.reduceMul, Nat.reduceSub, Nat.reduceLT, Nat.reduceLeDiff, Nat.reduceEqDiff, Int.reduceEq, Int.reduceLT, Int.reduceLE, Int.reduceNe, rem64, mask64, c_iu, wrapu_mod, bl_len, bl_take, bl_ren, bl_app, bl_one, bOf_bl, Nat.mul_one, q1, q2, q3, G15_rbelow, conRBelow, hI, hbe]))
  | true =>
    obtain ⟨m, rfl⟩ : ∃ m : Nat, w = 8 * (m : Int) := ⟨w.toNat / 8, by
      have h0 : 0 ≤ w := by omega
      obtain ⟨n, rfl⟩ := Int.eq_ofNat_of_zero_le h0
      rw [show (n : Int).tmod 8 = ((n % 8 : Nat) : Int) from rfl] at q3
      omega⟩
    have m1 : 1 ≤ m := by omega
    have m2 : m ≤ 32 := by omega
    have q4 : IntKind.i64.wrap ((8 * (m : Int)).tdiv 8) = (m : Int) := by
      rw [show (8 * (m : Int)).tdiv 8 = ((8 * m / 8 : Nat) : Int) from rfl, ← wrapA_eq, wrap64 (by omega) (by omega)]; omega
    have q5 : (8 * (m : Int)).toNat / 8 = m := by omega
    rw [if_pos rfl, q5, ← rI_end m2]
    have hL := ls_len (b := b)
    have hLb : (lsB b).length ≤ 9223372036854775807 := by omega
    refine CW.vc env15 [0, 1, 2, 4, 5, 6, 7, 8, 9, 20, 24, 33] (by kernel_rfl) ?_
    have b1 : Nat.ble (1 * m) 1099511627776 = true := Nat.ble_eq_true_of_le (by omega)
    have b2 : Nat.ble m 1099511627776 = true := Nat.ble_eq_true_of_le (by omega)
    (simp (config := { maxSteps := 6000000 }) only [go_sem, reduceIte, reduceCtorEq, Nat.reduceAdd, Nat.reduceMul, Nat.reduceSub, Nat.reduceLT, Nat.reduceLeDiff, Nat.reduceEqDiff, Int.reduceEq, Int.reduceLT, Int.reduceLE, Int.reduceNe, rem64, mask64, c_iu, wrapu_mod, bl_len, bl_take, bl_ren, bl_app, bl_one, bOf_bl, Nat.mul_one, q1, q2, q3, q4, b1, b2, G15_rbelow, G15_rlist, conRBelow, conRList, hI, hbe, slen8, makeSliceA]; repeat (refine Vc.mk' ?_; simp (config := { maxSteps := 6000000 }) only [go_sem, reduceIte, reduceCtorEq, Nat.reduceAdd, Nat.reduceMul, Nat.reduceSub, Nat.reduceLT, Nat.reduceLeDiff, Nat.reduceEqDiff, Int.reduceEq, Int.reduceLT, Int.reduceLE, Int.reduceNe, rem64, mask64, c_iu, wrapu_mod, bl_len, bl_take, bl_ren, bl_app, bl_one, bOf_bl, Nat.mul_one, q1, q2, q3, q4, b1, b2, G15_rbelow, G15_rlist, conRBelow, conRList, hI, hbe, slen8, makeSliceA]))
    refine CW.loopR (stRBy hp top b m) (fun k => k ≤ (lsB b).length) (fun k => (lsB b).length - k) 0 (Nat.zero_le _) ?_ ?_
    · have hren : ∀ ρ : Nat → Nat, renL ρ (reps m (Value.int .u8 0)) = reps m (Value.int .u8 0) := fun ρ => by rw [reps_map, renL_ints]
      exact SubR.mk' [top, top + 1, top + 2] hcl (by simp) (by simp) rfl (frSub_ok (by simp [frSub, lkG, ren, renL, renL_set, renL_ints, UpdOk.nil, UpdOk.cons, renOO_some, renO_cells, renO_map, renOO_mkOb, rn_base, rn_add, ren_mkSl, Enc.flat_ren, set_same, set_ne, sets_cons, sets_nil, Keep.set, Keep.setK, Keep.refl, bl_ren, rI_zero, hren])) (by simp [frSub, lkG, ren, renL, renL_set, renL_ints, UpdOk.nil, UpdOk.cons, renOO_some, renO_cells, renO_map, renOO_mkOb, rn_base, rn_add, ren_mkSl, Enc.flat_ren, set_same, set_ne, sets_cons, sets_nil, Keep.set, Keep.setK, Keep.refl, bl_ren, rI_zero, hren]) (by simp [frSub, lkG, ren, renL, renL_set, renL_ints, UpdOk.nil, UpdOk.cons, renOO_some, renO_cells, renO_map, renOO_mkOb, rn_base, rn_add, ren_mkSl, Enc.flat_ren, set_same, set_ne, sets_cons, sets_nil, Keep.set, Keep.setK, Keep.refl, bl_ren, rI_zero, hren])
    · intro i hk
      have hob : ((hp.set top (some (AObj.cells true 0 (bl b)))).set (top + 1) (some (.cells true 1 ((rI b m i).map (Value.int .u8))))).set (top + 2) (mkOb e_int (lsB b)) (top + 2) = mkOb e_int (lsB b) := set_same ..
      have hA := SlT.ownB hob hLb
      by_cases hlt : i < (lsB b).length
      · have hlt1 : (i : Int) < ((lsB b).length : Int) := by omega
        have ld1 := ld_sint hA hlt
        rw [Nat.mul_one] at ld1
        have hle := ls_below hbe hlt
        obtain ⟨k, k1, k2, k3⟩ := ls_mem.1 (show at' (lsB b) i ∈ lsB b by rw [at'_get _ _ hlt]; exact List.getElem_mem hlt)
        have hkm : k / 8 < m := by omega
        rw [k2] at ld1
        have r0 : wrapA .i64 ((k : Int) + 1 - 1) = (k : Int) := by rw [wrap64 (by omega) (by omega)]; omega
        have r1 : IntKind.i64.wrap ((k : Int).tdiv 8) = ((k / 8 : Nat) : Int) := by
          rw [show (k : Int).tdiv 8 = ((k / 8 : Nat) : Int) from rfl, ← wrapA_eq, wrap64 (by omega) (by omega)]
        have r2 : (k : Int).tmod 8 = ((k % 8 : Nat) : Int) := rfl
        have r3 : wrapA .u64 ((k % 8 : Nat) : Int) = ((k % 8 : Nat) : Int) := wrap_u64 (by omega) (by omega)
        have r4 : (k % 8).min 8 = k % 8 := Nat.min_eq_left (by omega)
        have hp8 : 2 ^ (k % 8) < 256 := Nat.pow_lt_pow_right (n := 8) (by decide) (Nat.mod_lt _ (by decide))
        have r5 : wrapA .u8 (1 * Int.ofNat (Nat.pow 2 (k % 8))) = ((2 ^ (k % 8) : Nat) : Int) := by
          rw [Int.one_mul]
          exact wrap_u8 hp8
        have r6 := or_u8 (x := bf (fun k : Nat => decide ((k : Int) + 1 ∈ (lsB b).take i)) (8 * (k / 8)) 8) bf8 hp8
        have hkm2 : k / 8 + 1 ≤ m := hkm
        have r7 := splice_ints (k := .u8) (v := ((bf (fun k : Nat => decide ((k : Int) + 1 ∈ (lsB b).take i)) (8 * (k / 8)) 8 ||| 2 ^ (k % 8) : Nat) : Int)) (show k / 8 < (rI b m i).length by rw [rI_len]; exact hkm)
        rw [rI_step hlt k2 hkm] at r7
        have h7 : ((k / 8 : Nat) : Int) < (m : Int) := by omega
        refine CW.vc env15 [0, 1, 2, 4, 5, 6, 7, 8, 9, 20, 24, 33] (by kernel_rfl) ?_
        (simp (config := { maxSteps := 6000000 }) only [go_sem, reduceIte, reduceCtorEq, Nat.reduceAdd, Nat.reduceMul, Nat.reduceSub, Nat.reduceLT, Nat.reduceLeDiff, Nat.reduceEqDiff, Int.reduceEq, Int.reduceLT, Int.reduceLE, Int.reduceNe, rem64, mask64, c_iu, wrapu_mod, bl_len, bl_take, bl_ren, bl_app, bl_one, bOf_bl, Nat.mul_one, len_sint hA, idx_sint hA, ld_sint hA, sh_sint hA, sw_sint hA, hA.P, hA.oc, hA.cl, hA.rd, hA.ref, stRBy, hlt, hlt1, ld1, r0, r1, r2, r3, r4, r5, r6, r7, hkm, hkm2, h7, c_iuint, rI_len, get_ints (show k / 8 < (rI b m i).length by rw [rI_len]; exact hkm), rI_get hkm]; repeat (refine Vc.mk' ?_; simp (config := { maxSteps := 6000000 }) only [go_sem, reduceIte, reduceCtorEq, Nat.reduceAdd, Nat.reduceMul, Nat.reduceSub, Nat.reduceLT, Nat.reduceLeDiff, Nat.reduceEqDiff, Int.reduceEq, Int.reduceLT, Int.reduceLE, Int.reduceNe, rem64, mask64, c_iu, wrapu_mod, bl_len, bl_take, bl_ren, bl_app, bl_one, bOf_bl, Nat.mul_one, len_sint hA, idx_sint hA, ld_sint hA, sh_sint hA, sw_sint hA, hA.P, hA.oc, hA.cl, hA.rd, hA.ref, stRBy, hlt, hlt1, ld1, r0, r1, r2, r3, r4, r5, r6, r7, hkm, hkm2, h7, c_iuint, rI_len, get_ints (show k / 8 < (rI b m i).length by rw [rI_len]; exact hkm), rI_get hkm]))
        refine .mk (i + 1) hlt (by omega) (SubR.mk' [top, top + 1, top + 2] hcl (by simp) (by simp) rfl (frSub_ok (by simp [frSub, lkG, ren, renL, renL_set, renL_ints, UpdOk.nil, UpdOk.cons, renOO_some, renO_cells, renO_map, renOO_mkOb, rn_base, rn_add, ren_mkSl, Enc.flat_ren, set_same, set_ne, sets_cons, sets_nil, Keep.set, Keep.setK, Keep.refl, bl_ren, wrap_succ hlt (by omega)])) (by simp [frSub, lkG, ren, renL, renL_set, renL_ints, UpdOk.nil, UpdOk.cons, renOO_some, renO_cells, renO_map, renOO_mkOb, rn_base, rn_add, ren_mkSl, Enc.flat_ren, set_same, set_ne, sets_cons, sets_nil, Keep.set, Keep.setK, Keep.refl, bl_ren, wrap_succ hlt (by omega)]) (by simp [frSub, lkG, ren, renL, renL_set, renL_ints, UpdOk.nil, UpdOk.cons, renOO_some, renO_cells, renO_map, renOO_mkOb, rn_base, rn_add, ren_mkSl, Enc.flat_ren, set_same, set_ne, sets_cons, sets_nil, Keep.set, Keep.setK, Keep.refl, bl_ren, wrap_succ hlt (by omega)]))
      · have hk2 : i = (lsB b).length := by omega
        subst hk2
        have hcv : sconvH tt.get (((hp.set top (some (.cells true 0 (bl b)))).set (top + 1) (some (.cells true 1 ((rI b m (lsB b).length).map (Value.int .u8))))).set (top + 2) (mkOb e_int (lsB b))) 51 9 (.slice (some ⟨top + 1, 0, none⟩) m m) = (.string ⟨⟨bytesOf (rI b m (lsB b).length)⟩⟩, True) :=
          sconvH_bytes k_suint8 k_uint8 k_string (by rw [set_ne _ _ _ _ (by omega), set_same]) (by rw [List.drop_zero, List.take_of_length_le (by simp [rI_len])]) (by simp [rI_len])
        refine CW.vc env15 [0, 1, 2, 4, 5, 6, 7, 8, 9, 20, 24, 33] (by kernel_rfl) ?_
        (simp (config := { maxSteps := 6000000 }) only [go_sem, reduceIte, reduceCtorEq, Nat.reduceAdd, Nat.reduceMul, Nat.reduceSub, Nat.reduceLT, Nat.reduceLeDiff, Nat.reduceEqDiff, Int.reduceEq, Int.reduceLT, Int.reduceLE, Int.reduceNe, rem64, mask64, c_iu, wrapu_mod, bl_len, bl_take, bl_ren, bl_app, bl_one, bOf_bl, Nat.mul_one, len_sint hA, idx_sint hA, ld_sint hA, sh_sint hA, sw_sint hA, hA.P, hA.oc, hA.cl, hA.rd, hA.ref, stRBy, Nat.lt_irrefl, Int.lt_irrefl, decide_false, hcv]; repeat (refine Vc.mk' ?_; simp (config := { maxSteps := 6000000 }) only [go_sem, reduceIte, reduceCtorEq, Nat.reduceAdd, Nat.reduceMul, Nat.reduceSub, Nat.reduceLT, Nat.reduceLeDiff, Nat.reduceEqDiff, Int.reduceEq, Int.reduceLT, Int.reduceLE, Int.reduceNe, rem64, mask64, c_iu, wrapu_mod, bl_len, bl_take, bl_ren, bl_app, bl_one, bOf_bl, Nat.mul_one, len_sint hA, idx_sint hA, ld_sint hA, sh_sint hA, sw_sint hA, hA.P, hA.oc, hA.cl, hA.rd, hA.ref, stRBy, Nat.lt_irrefl, Int.lt_irrefl, decide_false, hcv]))
/-! ### Read -/
def readV (s : List UInt8) : Value := if s.length = 0 ∨ 32 < s.length then .tuple ⟨[.agg ⟨bl zb⟩, .int .i64 4]⟩ else .tuple ⟨[.agg ⟨bl (coll (pS s) (8 * s.length))⟩, .int .i64 0]⟩
def conRead : Con := .pure (fun args _ => match args with | [.string ⟨⟨_⟩⟩] => True | _ => False) (fun args _ => match args with | [s] => readV (strOf s) | _ => undef)
def stRd (hp : Hp) (top : Nat) (s : List UInt8) (k : Nat) : SS := ⟨[(0, .string ⟨⟨s⟩⟩, true), (2, .pointer (some ⟨top, 0, none⟩), true), (4, .pointer (some ⟨top + 1, 0, none⟩), true), (15, .int .i64 (s.length : Int), true), (16, .int .i64 (k : Int), true)], hp.sets [(top, some (.cells true 0 (bl zb))), (top + 1, some (.cells true 0 (bl (coll (pS s) (8 * k)))))], top + 2⟩
theorem c_bu {hp : Hp} {x : Value} : sconvH tt.get hp 5 23 x = (.int .u64 (wrapA .u64 (intOf x)), IsN x) := sconvH_int k_uint8 k_uint64
theorem slenS {hp : Hp} {s : List UInt8} : slen tt.get hp 9 (.string ⟨⟨s⟩⟩) = (.int .i64 (s.length : Int), True) := by
  unfold slen; simp only [k_string, strOf_string, IsS_string]; rfl
theorem readV_plain (s : List UInt8) : plain 3 (readV s) = true := by
  unfold readV
  split <;> rfl

theorem read_ok : ConOk Tryd.prog 18 conRead := by
  refine .mkRd fn18_ok ?_ ?_
  · rintro args hp h
    match args, h with
    | [.string ⟨⟨s⟩⟩], _ => exact readV_plain s
  intro args hp hpre top hcl hsc
  match args, hpre with
  | [.string ⟨⟨s⟩⟩], _ =>
  simp only [strOf_string]
  refine CalledOk.of_fun tt_ok fn18_ok rfl 35 rfl [.cell 2 25, .tmp 3] rfl (show 1 ≤ 35 by decide) ?_
  cases hs : s with
  | nil =>
    refine CW.vc env15 [0, 2, 3, 4, 5, 12, 15, 16, 17] (by kernel_rfl) ?_
    (simp (config := { maxSteps := 6000000 }) only [go_sem, reduceIte, reduceCtorEq, Nat.reduceAdd, Nat.reduceMul, Nat.reduceSub, Nat.reduceLT, Nat.reduceLeDiff, Nat.reduceEqDiff, Int.reduceEq, Int.reduceLT, Int.reduceLE, Int.reduceNe, rem64, mask64, c_iu, wrapu_mod, bl_len, bl_take, bl_ren, bl_app, bl_one, bOf_bl, Nat.mul_one, slenS, eqB]; repeat (refine Vc.mk' ?_; simp (config := { maxSteps := 6000000 }) only [go_sem, reduceIte, reduceCtorEq, Nat.reduceAdd, Nat.reduceMul, Nat.reduceSub, Nat.reduceLT, Nat.reduceLeDiff, Nat.reduceEqDiff, Int.reduceEq, Int.reduceLT, Int.reduceLE, Int.reduceNe, rem64, mask64, c_iu, wrapu_mod, bl_len, bl_take, bl_ren, bl_app, bl_one, bOf_bl, Nat.mul_one, slenS, eqB]))
    rfl
  | cons x r =>
  have e0 : eqB s [] = false := by rw [hs]; rfl
  have h0 : ¬ s.length = 0 := by rw [hs]; simp
  rw [← hs]
  by_cases hl : 32 < s.length
  · have e : readV s = .tuple ⟨[.agg ⟨bl zb⟩, .int .i64 4]⟩ := if_pos (.inr hl)
    have hl1 : (32 : Int) < (s.length : Int) := by omega
    rw [e]
    refine CW.vc env15 [0, 2, 3, 4, 5, 12, 15, 16, 17] (by kernel_rfl) ?_
    (simp (config := { maxSteps := 6000000 }) only [go_sem, reduceIte, reduceCtorEq, Nat.reduceAdd, Nat.reduceMul, Nat.reduceSub, Nat.reduceLT, Nat.reduceLeDiff, Nat.reduceEqDiff, Int.reduceEq, Int.reduceLT, Int.reduceLE, Int.reduceNe, rem64, mask64, c_iu, wrapu_mod, bl_len, bl_take, bl_ren, bl_app, bl_one, bOf_bl, Nat.mul_one, slenS, e0, hl1]; repeat (refine Vc.mk' ?_; simp (config := { maxSteps := 6000000 }) only [go_sem, reduceIte, reduceCtorEq, Nat.reduceAdd, Nat.reduceMul, Nat.reduceSub, Nat.reduceLT, Nat.reduceLeDiff, Nat.reduceEqDiff, Int.reduceEq, Int.reduceLT, Int.reduceLE, Int.reduceNe, rem64, mask64, c_iu, wrapu_mod, bl_len, bl_take, bl_ren, bl_app, bl_one, bOf_bl, Nat.mul_one, slenS, e0, hl1]))
    rfl
  · have e : readV s = .tuple ⟨[.agg ⟨bl (coll (pS s) (8 * s.length))⟩, .int .i64 0]⟩ := if_neg (by rintro (h | h) <;> omega)
    have hl1 : ¬ (32 : Int) < (s.length : Int) := by omega
    rw [e]
    refine CW.vc env15 [0, 2, 3, 4, 5, 12, 15, 16, 17] (by kernel_rfl) ?_
    (simp (config := { maxSteps := 6000000 }) only [go_sem, reduceIte, reduceCtorEq, Nat.reduceAdd, Nat.reduceMul, Nat.reduceSub, Nat.reduceLT, Nat.reduceLeDiff, Nat.reduceEqDiff, Int.reduceEq, Int.reduceLT, Int.reduceLE, Int.reduceNe, rem64, mask64, c_iu, wrapu_mod, bl_len, bl_take, bl_ren, bl_app, bl_one, bOf_bl, Nat.mul_one, slenS, e0, hl1]; repeat (refine Vc.mk' ?_; simp (config := { maxSteps := 6000000 }) only [go_sem, reduceIte, reduceCtorEq, Nat.reduceAdd, Nat.reduceMul, Nat.reduceSub, Nat.reduceLT, Nat.reduceLeDiff, Nat.reduceEqDiff, Int.reduceEq, Int.reduceLT, Int.reduceLE, Int.reduceNe, rem64, mask64, c_iu, wrapu_mod, bl_len, bl_take, bl_ren, bl_app, bl_one, bOf_bl, Nat.mul_one, slenS, e0, hl1]))
    refine CW.loopR (stRd hp top s) (fun k => k ≤ s.length) (fun k => s.length - k) 0 (Nat.zero_le _) ?_ ?_
    · exact SubR.mk' [top, top + 1] hcl (by simp) (by simp) rfl (frSub_ok (by simp [frSub, lkG, ren, renL, renL_set, renL_ints, UpdOk.nil, UpdOk.cons, renOO_some, renO_cells, renO_map, renOO_mkOb, rn_base, rn_add, ren_mkSl, Enc.flat_ren, set_same, set_ne, sets_cons, sets_nil, Keep.set, Keep.setK, Keep.refl, bl_ren, show coll (pS s) (8 * 0) = zb from rfl, bl_zb])) (by simp [frSub, lkG, ren, renL, renL_set, renL_ints, UpdOk.nil, UpdOk.cons, renOO_some, renO_cells, renO_map, renOO_mkOb, rn_base, rn_add, ren_mkSl, Enc.flat_ren, set_same, set_ne, sets_cons, sets_nil, Keep.set, Keep.setK, Keep.refl, bl_ren, show coll (pS s) (8 * 0) = zb from rfl, bl_zb]) (by simp [frSub, lkG, ren, renL, renL_set, renL_ints, UpdOk.nil, UpdOk.cons, renOO_some, renO_cells, renO_map, renOO_mkOb, rn_base, rn_add, ren_mkSl, Enc.flat_ren, set_same, set_ne, sets_cons, sets_nil, Keep.set, Keep.setK, Keep.refl, bl_ren, show coll (pS s) (8 * 0) = zb from rfl, bl_zb])
    · intro k hk
      have hc := coll_ok (p := pS s) (8 * k)
      by_cases hlt : k < s.length
      · have hlt1 : (k : Int) < (s.length : Int) := by omega
        have r1 : IntKind.i64.wrap ((k : Int).tdiv 8) = ((k / 8 : Nat) : Int) := by
          rw [show (k : Int).tdiv 8 = ((k / 8 : Nat) : Int) from rfl, ← wrapA_eq, wrap64 (by omega) (by omega)]
        have r2 : (k : Int).tmod 8 = ((k % 8 : Nat) : Int) := rfl
        have r3 : wrapA .i64 (8 * ((k % 8 : Nat) : Int)) = ((8 * (k % 8) : Nat) : Int) := by rw [wrap64 (by omega) (by omega)]; omega
        have h4 : k / 8 < 4 := by omega
        have h5 : k / 8 ≤ 3 := by omega
        have h6 : ((k / 8 : Nat) : Int) < 4 := by omega
        have r4 : (8 * (k % 8)).min 64 = 8 * (k % 8) := Nat.min_eq_left (by omega)
        have hx := u8_lt ((s[k]?).getD 0)
        have hp64 : ((s[k]?).getD 0).toNat * 2 ^ (8 * (k % 8)) < 18446744073709551616 := by
          have h1 : ((s[k]?).getD 0).toNat * 2 ^ (8 * (k % 8)) < 2 ^ 8 * 2 ^ (8 * (k % 8)) := Nat.mul_lt_mul_of_pos_right hx (Nat.two_pow_pos _)
          rw [← Nat.pow_add] at h1
          exact Nat.lt_of_lt_of_le h1 (Nat.pow_le_pow_right (n := 2) (j := 64) (by decide) (by omega))
        have hw8 := wn_lt hc (k / 8)
        have r5 : wrapA .u64 (Int.ofNat ((s[k]?).getD 0).toNat) = ((((s[k]?).getD 0).toNat : Nat) : Int) := wrap_u64 (by simp) (by simp; omega)
        have r6 : wrapA .u64 (((((s[k]?).getD 0).toNat : Nat) : Int) * Int.ofNat (Nat.pow 2 (8 * (k % 8)))) = ((((s[k]?).getD 0).toNat * 2 ^ (8 * (k % 8)) : Nat) : Int) := by
          have e3 : ((((s[k]?).getD 0).toNat : Nat) : Int) * Int.ofNat (Nat.pow 2 (8 * (k % 8))) = ((((s[k]?).getD 0).toNat * 2 ^ (8 * (k % 8)) : Nat) : Int) := by
            rw [Int.natCast_mul]; rfl
          rw [e3]; exact wrap_u64 (Int.natCast_nonneg _) (by omega)
        have r7 := or_u64 hw8 hp64
        have r8 := coll_byte (s := s) (i := k) (by omega)
        refine CW.vc env15 [0, 2, 3, 4, 5, 12, 15, 16, 17] (by kernel_rfl) ?_
        (simp (config := { maxSteps := 6000000 }) only [go_sem, reduceIte, reduceCtorEq, Nat.reduceAdd, Nat.reduceMul, Nat.reduceSub, Nat.reduceLT, Nat.reduceLeDiff, Nat.reduceEqDiff, Int.reduceEq, Int.reduceLT, Int.reduceLE, Int.reduceNe, rem64, mask64, c_iu, wrapu_mod, bl_len, bl_take, bl_ren, bl_app, bl_one, bOf_bl, Nat.mul_one, slenS, stRd, sindex, hlt, hlt1, r1, r2, r3, r4, r5, r6, r7, h4, h5, h6, bl_get hc h4, bl_splice h4, c_bu, Int.toNat_natCast]; repeat (refine Vc.mk' ?_; simp (config := { maxSteps := 6000000 }) only [go_sem, reduceIte, reduceCtorEq, Nat.reduceAdd, Nat.reduceMul, Nat.reduceSub, Nat.reduceLT, Nat.reduceLeDiff, Nat.reduceEqDiff, Int.reduceEq, Int.reduceLT, Int.reduceLE, Int.reduceNe, rem64, mask64, c_iu, wrapu_mod, bl_len, bl_take, bl_ren, bl_app, bl_one, bOf_bl, Nat.mul_one, slenS, stRd, sindex, hlt, hlt1, r1, r2, r3, r4, r5, r6, r7, h4, h5, h6, bl_get hc h4, bl_splice h4, c_bu, Int.toNat_natCast]))
        refine .mk (k + 1) hlt (by omega) (SubR.mk' [top, top + 1] hcl (by simp) (by simp) rfl (frSub_ok (by simp [frSub, lkG, ren, renL, renL_set, renL_ints, UpdOk.nil, UpdOk.cons, renOO_some, renO_cells, renO_map, renOO_mkOb, rn_base, rn_add, ren_mkSl, Enc.flat_ren, set_same, set_ne, sets_cons, sets_nil, Keep.set, Keep.setK, Keep.refl, bl_ren, wrap_succ hlt (by omega), r8])) (by simp [frSub, lkG, ren, renL, renL_set, renL_ints, UpdOk.nil, UpdOk.cons, renOO_some, renO_cells, renO_map, renOO_mkOb, rn_base, rn_add, ren_mkSl, Enc.flat_ren, set_same, set_ne, sets_cons, sets_nil, Keep.set, Keep.setK, Keep.refl, bl_ren, wrap_succ hlt (by omega), r8]) (by simp [frSub, lkG, ren, renL, renL_set, renL_ints, UpdOk.nil, UpdOk.cons, renOO_some, renO_cells, renO_map, renOO_mkOb, rn_base, rn_add, ren_mkSl, Enc.flat_ren, set_same, set_ne, sets_cons, sets_nil, Keep.set, Keep.setK, Keep.refl, bl_ren, wrap_succ hlt (by omega), r8]))
      · have hk2 : k = s.length := by omega
        subst hk2
        refine CW.vc env15 [0, 2, 3, 4, 5, 12, 15, 16, 17] (by kernel_rfl) ?_
        (simp (config := { maxSteps := 6000000 }) only [go_sem, reduceIte, reduceCtorEq, Nat.reduceAdd, Nat.reduceMul, Nat.reduceSub, Nat.reduceLT, Nat.reduceLeDiff, Nat.reduceEqDiff, Int.reduceEq, Int.reduceLT, Int.reduceLE, Int.reduceNe, rem64, mask64, c_iu, wrapu_mod, bl_len, bl_take, bl_ren, bl_app, bl_one, bOf_bl, Nat.mul_one, slenS, stRd, Nat.lt_irrefl, Int.lt_irrefl, decide_false]; repeat (refine Vc.mk' ?_; simp (config := { maxSteps := 6000000 }) only [go_sem, reduceIte, reduceCtorEq, Nat.reduceAdd, Nat.reduceMul, Nat.reduceSub, Nat.reduceLT, Nat.reduceLeDiff, Nat.reduceEqDiff, Int.reduceEq, Int.reduceLT, Int.reduceLE, Int.reduceNe, rem64, mask64, c_iu, wrapu_mod, bl_len, bl_take, bl_ren, bl_app, bl_one, bOf_bl, Nat.mul_one, slenS, stRd, Nat.lt_irrefl, Int.lt_irrefl, decide_false]))
def stRRd (hp : Hp) (top : Nat) (s : List UInt8) (k : Nat) : SS := ⟨[(0, .string ⟨⟨s⟩⟩, true), (2, .pointer (some ⟨top, 0, none⟩), true), (4, .pointer (some ⟨top + 1, 0, none⟩), true), (5, .int .i64 (k : Int), true)], hp.sets [(top, some (.cells true 0 (bl zb))), (top + 1, some (.cells true 0 (bl (coll (pS s) k))))], top + 2⟩
theorem G15_put : G15 48 = conPut := rfl

theorem rread_ok : ConOk Tryd.prog 19 conRead := by
  refine .mkRd fn19_ok ?_ ?_
  · rintro args hp h
    match args, h with
    | [.string ⟨⟨s⟩⟩], _ => exact readV_plain s
  intro args hp hpre top hcl hsc
  match args, hpre with
  | [.string ⟨⟨s⟩⟩], _ =>
  simp only [strOf_string]
  refine CalledOk.of_fun tt_ok fn19_ok rfl 37 rfl [.cell 2 25, .tmp 3] rfl (show 1 ≤ 37 by decide) ?_
  by_cases h0 : s.length = 0
  · have e : readV s = .tuple ⟨[.agg ⟨bl zb⟩, .int .i64 4]⟩ := if_pos (.inl h0)
    have h1 : (s.length : Int) < 1 := by omega
    rw [e]
    refine CW.vc env15 [0, 2, 3, 4, 5, 13, 19, 31] (by kernel_rfl) ?_
    (simp (config := { maxSteps := 6000000 }) only [go_sem, reduceIte, reduceCtorEq, Nat.reduceAdd, Nat.reduceMul, Nat.reduceSub, Nat.reduceLT, Nat.reduceLeDiff, Nat.reduceEqDiff, Int.reduceEq, Int.reduceLT, Int.reduceLE, Int.reduceNe, rem64, mask64, c_iu, wrapu_mod, bl_len, bl_take, bl_ren, bl_app, bl_one, bOf_bl, Nat.mul_one, slenS, h1]; repeat (refine Vc.mk' ?_; simp (config := { maxSteps := 6000000 }) only [go_sem, reduceIte, reduceCtorEq, Nat.reduceAdd, Nat.reduceMul, Nat.reduceSub, Nat.reduceLT, Nat.reduceLeDiff, Nat.reduceEqDiff, Int.reduceEq, Int.reduceLT, Int.reduceLE, Int.reduceNe, rem64, mask64, c_iu, wrapu_mod, bl_len, bl_take, bl_ren, bl_app, bl_one, bOf_bl, Nat.mul_one, slenS, h1]))
    rfl
  have h1 : ¬ (s.length : Int) < 1 := by omega
  by_cases hl : 32 < s.length
  · have e : readV s = .tuple ⟨[.agg ⟨bl zb⟩, .int .i64 4]⟩ := if_pos (.inr hl)
    have hl1 : (32 : Int) < (s.length : Int) := by omega
    rw [e]
    refine CW.vc env15 [0, 2, 3, 4, 5, 13, 19, 31] (by kernel_rfl) ?_
    (simp (config := { maxSteps := 6000000 }) only [go_sem, reduceIte, reduceCtorEq, Nat.reduceAdd, Nat.reduceMul, Nat.reduceSub, Nat.reduceLT, Nat.reduceLeDiff, Nat.reduceEqDiff, Int.reduceEq, Int.reduceLT, Int.reduceLE, Int.reduceNe, rem64, mask64, c_iu, wrapu_mod, bl_len, bl_take, bl_ren, bl_app, bl_one, bOf_bl, Nat.mul_one, slenS, h1, hl1]; repeat (refine Vc.mk' ?_; simp (config := { maxSteps := 6000000 }) only [go_sem, reduceIte, reduceCtorEq, Nat.reduceAdd, Nat.reduceMul, Nat.reduceSub, Nat.reduceLT, Nat.reduceLeDiff, Nat.reduceEqDiff, Int.reduceEq, Int.reduceLT, Int.reduceLE, Int.reduceNe, rem64, mask64, c_iu, wrapu_mod, bl_len, bl_take, bl_ren, bl_app, bl_one, bOf_bl, Nat.mul_one, slenS, h1, hl1]))
    rfl
  · have e : readV s = .tuple ⟨[.agg ⟨bl (coll (pS s) (8 * s.length))⟩, .int .i64 0]⟩ := if_neg (by rintro (h | h) <;> omega)
    have hl1 : ¬ (32 : Int) < (s.length : Int) := by omega
    rw [e]
    have w8 : wrapA .i64 (8 * (s.length : Int)) = ((8 * s.length : Nat) : Int) := by rw [wrap64 (by omega) (by omega)]; omega
    refine CW.vc env15 [0, 2, 3, 4, 5, 13, 19, 31] (by kernel_rfl) ?_
    (simp (config := { maxSteps := 6000000 }) only [go_sem, reduceIte, reduceCtorEq, Nat.reduceAdd, Nat.reduceMul, Nat.reduceSub, Nat.reduceLT, Nat.reduceLeDiff, Nat.reduceEqDiff, Int.reduceEq, Int.reduceLT, Int.reduceLE, Int.reduceNe, rem64, mask64, c_iu, wrapu_mod, bl_len, bl_take, bl_ren, bl_app, bl_one, bOf_bl, Nat.mul_one, slenS, h1, hl1]; repeat (refine Vc.mk' ?_; simp (config := { maxSteps := 6000000 }) only [go_sem, reduceIte, reduceCtorEq, Nat.reduceAdd, Nat.reduceMul, Nat.reduceSub, Nat.reduceLT, Nat.reduceLeDiff, Nat.reduceEqDiff, Int.reduceEq, Int.reduceLT, Int.reduceLE, Int.reduceNe, rem64, mask64, c_iu, wrapu_mod, bl_len, bl_take, bl_ren, bl_app, bl_one, bOf_bl, Nat.mul_one, slenS, h1, hl1]))
    refine CW.loopR (stRRd hp top s) (fun k => k ≤ 8 * s.length) (fun k => 8 * s.length - k) 0 (Nat.zero_le _) ?_ ?_
    · exact SubR.mk' [top, top + 1] hcl (by simp) (by simp) rfl (frSub_ok (by simp [frSub, lkG, ren, renL, renL_set, renL_ints, UpdOk.nil, UpdOk.cons, renOO_some, renO_cells, renO_map, renOO_mkOb, rn_base, rn_add, ren_mkSl, Enc.flat_ren, set_same, set_ne, sets_cons, sets_nil, Keep.set, Keep.setK, Keep.refl, bl_ren, show coll (pS s) 0 = zb from rfl, bl_zb])) (by simp [frSub, lkG, ren, renL, renL_set, renL_ints, UpdOk.nil, UpdOk.cons, renOO_some, renO_cells, renO_map, renOO_mkOb, rn_base, rn_add, ren_mkSl, Enc.flat_ren, set_same, set_ne, sets_cons, sets_nil, Keep.set, Keep.setK, Keep.refl, bl_ren, show coll (pS s) 0 = zb from rfl, bl_zb]) (by simp [frSub, lkG, ren, renL, renL_set, renL_ints, UpdOk.nil, UpdOk.cons, renOO_some, renO_cells, renO_map, renOO_mkOb, rn_base, rn_add, ren_mkSl, Enc.flat_ren, set_same, set_ne, sets_cons, sets_nil, Keep.set, Keep.setK, Keep.refl, bl_ren, show coll (pS s) 0 = zb from rfl, bl_zb])
    · intro k hk
      have hIc := isBits_bl (coll_ok (p := pS s) k)
      by_cases hlt : k < 8 * s.length
      · have hlt1 : (k : Int) < ((8 * s.length : Nat) : Int) := by omega
        have r1 : IntKind.i64.wrap ((k : Int).tdiv 8) = ((k / 8 : Nat) : Int) := by
          rw [show (k : Int).tdiv 8 = ((k / 8 : Nat) : Int) from rfl, ← wrapA_eq, wrap64 (by omega) (by omega)]
        have r2 : (k : Int).tmod 8 = ((k % 8 : Nat) : Int) := rfl
        have r3 : wrapA .u64 ((k % 8 : Nat) : Int) = ((k % 8 : Nat) : Int) := wrap_u64 (by omega) (by omega)
        have r4 : (k % 8).min 8 = k % 8 := Nat.min_eq_left (by omega)
        have h4 : k / 8 < s.length := by omega
        have h6 : ((k / 8 : Nat) : Int) < (s.length : Int) := by omega
        have hx := u8_lt ((s[k / 8]?).getD 0)
        have r5 : decide (bitsI .and .u8 ((Int.ofNat ((s[k / 8]?).getD 0).toNat).fdiv (Int.ofNat (Nat.pow 2 (k % 8)))) 1 = 1) = pS s k := by
          have e2 : (Int.ofNat ((s[k / 8]?).getD 0).toNat).fdiv (Int.ofNat (Nat.pow 2 (k % 8))) = ((((s[k / 8]?).getD 0).toNat / 2 ^ (k % 8) : Nat) : Int) := (Int.ofNat_fdiv _ _).symm
          have hq : ((s[k / 8]?).getD 0).toNat / 2 ^ (k % 8) < 256 := Nat.lt_of_le_of_lt (Nat.div_le_self ..) hx
          have := and_u8 (x := ((s[k / 8]?).getD 0).toNat / 2 ^ (k % 8)) (y := 1) hq (by decide)
          rw [e2, show (1 : Int) = ((1 : Nat) : Int) from rfl, this, Nat.and_one_is_mod]
          unfold pS
          rw [Nat.testBit_eq_decide_div_mod_eq]
          exact decide_eq_decide.2 (by omega)
        have hk1 : wrapA .i64 ((k : Int) + 1) = (k : Int) + 1 := by rw [wrap64 (by omega) (by omega)]
        have p1 : 1 ≤ (k : Int) + 1 := by omega
        have p2 : (k : Int) + 1 ≤ 256 := by omega
        have hk2 : ((k + 1 : Nat) : Int) = (k : Int) + 1 := by omega
        cases hq : pS s k <;> rw [hq] at r5
        all_goals
          refine CW.vc env15 [0, 2, 3, 4, 5, 13, 19, 31] (by kernel_rfl) ?_
          (simp (config := { maxSteps := 6000000 }) only [go_sem, reduceIte, reduceCtorEq, Nat.reduceAdd, Nat.reduceMul, Nat.reduceSub, Nat.reduceLT, Nat.reduceLeDiff, Nat.reduceEqDiff, Int.reduceEq, Int.reduceLT, Int.reduceLE, Int.reduceNe, rem64, mask64, c_iu, wrapu_mod, bl_len, bl_take, bl_ren, bl_app, bl_one, bOf_bl, Nat.mul_one, slenS, stRRd, sindex, w8, hlt, hlt1, r1, r2, r3, r4, r5, h4, h6, c_iuint, Int.toNat_natCast, G15_put, conPut, hIc, hk1, p1, p2, kp1]; repeat (refine Vc.mk' ?_; simp (config := { maxSteps := 6000000 }) only [go_sem, reduceIte, reduceCtorEq, Nat.reduceAdd, Nat.reduceMul, Nat.reduceSub, Nat.reduceLT, Nat.reduceLeDiff, Nat.reduceEqDiff, Int.reduceEq, Int.reduceLT, Int.reduceLE, Int.reduceNe, rem64, mask64, c_iu, wrapu_mod, bl_len, bl_take, bl_ren, bl_app, bl_one, bOf_bl, Nat.mul_one, slenS, stRRd, sindex, w8, hlt, hlt1, r1, r2, r3, r4, r5, h4, h6, c_iuint, Int.toNat_natCast, G15_put, conPut, hIc, hk1, p1, p2, kp1]))
          refine .mk (k + 1) hlt (by omega) (SubR.mk' [top, top + 1] hcl (by simp) (by simp) rfl (frSub_ok (by simp [frSub, lkG, ren, renL, renL_set, renL_ints, UpdOk.nil, UpdOk.cons, renOO_some, renO_cells, renO_map, renOO_mkOb, rn_base, rn_add, ren_mkSl, Enc.flat_ren, set_same, set_ne, sets_cons, sets_nil, Keep.set, Keep.setK, Keep.refl, bl_ren, hk1, hk2, coll_step hq])) (by simp [frSub, lkG, ren, renL, renL_set, renL_ints, UpdOk.nil, UpdOk.cons, renOO_some, renO_cells, renO_map, renOO_mkOb, rn_base, rn_add, ren_mkSl, Enc.flat_ren, set_same, set_ne, sets_cons, sets_nil, Keep.set, Keep.setK, Keep.refl, bl_ren, hk1, hk2, coll_step hq]) (by simp [frSub, lkG, ren, renL, renL_set, renL_ints, UpdOk.nil, UpdOk.cons, renOO_some, renO_cells, renO_map, renOO_mkOb, rn_base, rn_add, ren_mkSl, Enc.flat_ren, set_same, set_ne, sets_cons, sets_nil, Keep.set, Keep.setK, Keep.refl, bl_ren, hk1, hk2, coll_step hq]))
      · have hk2 : k = 8 * s.length := by omega
        subst hk2
        refine CW.vc env15 [0, 2, 3, 4, 5, 13, 19, 31] (by kernel_rfl) ?_
        (simp (config := { maxSteps := 6000000 }) only [go_sem, reduceIte, reduceCtorEq, Nat.reduceAdd, Nat.reduceMul, Nat.reduceSub, Nat.reduceLT, Nat.reduceLeDiff, Nat.reduceEqDiff, Int.reduceEq, Int.reduceLT, Int.reduceLE, Int.reduceNe, rem64, mask64, c_iu, wrapu_mod, bl_len, bl_take, bl_ren, bl_app, bl_one, bOf_bl, Nat.mul_one, slenS, stRRd, w8, Nat.lt_irrefl, Int.lt_irrefl, decide_false]; repeat (refine Vc.mk' ?_; simp (config := { maxSteps := 6000000 }) only [go_sem, reduceIte, reduceCtorEq, Nat.reduceAdd, Nat.reduceMul, Nat.reduceSub, Nat.reduceLT, Nat.reduceLeDiff, Nat.reduceEqDiff, Int.reduceEq, Int.reduceLT, Int.reduceLE, Int.reduceNe, rem64, mask64, c_iu, wrapu_mod, bl_len, bl_take, bl_ren, bl_app, bl_one, bOf_bl, Nat.mul_one, slenS, stRRd, w8, Nat.lt_irrefl, Int.lt_irrefl, decide_false]))
/-! ### BitsBytes -/
def bytS (b : T_Bits) (w : Int) : List UInt8 := if byW w then (if belowB b w then bytesOf (oI b (w.toNat / 8) (w.toNat / 8)) else []) else []
def bytE (b : T_Bits) (w : Int) : Int := if byW w then (if belowB b w then 0 else 3) else 2
theorem bytV_eq {b : T_Bits} {w : Int} : bytV b w = .tuple ⟨[.string ⟨⟨bytS b w⟩⟩, .int .i64 (bytE b w)]⟩ := by
  unfold bytV bytS bytE
  split
  · split <;> rfl
  · rfl
def rdB (s : List UInt8) : T_Bits := if s.length = 0 ∨ 32 < s.length then zb else coll (pS s) (8 * s.length)
def rdE (s : List UInt8) : Int := if s.length = 0 ∨ 32 < s.length then 4 else 0
theorem readV_eq {s : List UInt8} : readV s = .tuple ⟨[.agg ⟨bl (rdB s)⟩, .int .i64 (rdE s)]⟩ := by
  unfold readV rdB rdE
  split <;> rfl
def G16 := addG (addG (addG (addG G15 16 conBytes) 17 conBytes) 18 conRead) 19 conRead
theorem env16 : EnvV Tryd.prog tt.get G16 := (((env15.add bytes_ok).add rbytes_ok).add read_ok).add rread_ok
theorem G16_bytes : G16 16 = conBytes := rfl
theorem G16_rbytes : G16 17 = conBytes := rfl
theorem G16_read : G16 18 = conRead := rfl
theorem G16_rread : G16 19 = conRead := rfl
theorem G16_works : G16 15 = conWorks := rfl
def conBB : Con := .pure (fun args hp => match args with | [v, .int .i64 _, .string ⟨⟨_⟩⟩] => IsBits v ∧ hp 0 = some tzO ∧ hp 1 = some powO | _ => False) (fun _ _ => .bool true)

theorem bitsBytes_ok : ConOk Tryd.prog 4 conBB := by
  refine .mkRd fn4_ok (fun _ _ _ => rfl) ?_
  intro args hp hpre top hcl hsc
  match args, hpre with
  | [_, .int .i64 w, .string ⟨⟨s⟩⟩], ⟨⟨b, rfl, hb⟩, ht, hp1⟩ =>
  have ht0 := hcl.lt _ _ ht
  have ht1 := hcl.lt _ _ hp1
  have hI := isBits_bl hb
  refine CalledOk.of_fun tt_ok fn4_ok rfl 54 rfl [.tmp 6] rfl (show 3 ≤ 54 by decide) ?_
  refine CW.vc env16 [0, 1, 2, 3, 6, 7, 8, 9, 10, 11, 12, 32] (by kernel_rfl) ?_
  (simp (config := { maxSteps := 6000000 }) only [go_sem, reduceIte, reduceCtorEq, Nat.reduceAdd, Nat.reduceMul, Nat.reduceSub, Nat.reduceLT, Nat.reduceLeDiff, Nat.reduceEqDiff, Int.reduceEq, Int.reduceLT, Int.reduceLE, Int.reduceNe, rem64, mask64, c_iu, wrapu_mod, bl_len, bl_take, bl_ren, bl_app, bl_one, bOf_bl, Nat.mul_one, G16_bytes, G16_rbytes, G16_read, G16_rread, G16_works, conBytes, conRead, conWorks, bytV_eq, readV_eq, hI, eqB_self, bits_eql, set_lt ht0, set_lt ht1, ht, hp1, decide_true, Bool.not_true]; repeat (refine Vc.mk' ?_; simp (config := { maxSteps := 6000000 }) only [go_sem, reduceIte, reduceCtorEq, Nat.reduceAdd, Nat.reduceMul, Nat.reduceSub, Nat.reduceLT, Nat.reduceLeDiff, Nat.reduceEqDiff, Int.reduceEq, Int.reduceLT, Int.reduceLE, Int.reduceNe, rem64, mask64, c_iu, wrapu_mod, bl_len, bl_take, bl_ren, bl_app, bl_one, bOf_bl, Nat.mul_one, G16_bytes, G16_rbytes, G16_read, G16_rread, G16_works, conBytes, conRead, conWorks, bytV_eq, readV_eq, hI, eqB_self, bits_eql, set_lt ht0, set_lt ht1, ht, hp1, decide_true, Bool.not_true]))
end Go.Proofs.YtkofmbhopmgmhaaDoor.Dm
