/- Single bits. -/
import Derived.Test.YtkofmbhopmgmhaaDoorB2
set_option linter.unusedSimpArgs false
set_option linter.unusedVariables false
namespace Go.Proofs.YtkofmbhopmgmhaaDoor.Dm
open Go.Dm
set_option maxHeartbeats 4000000

theorem bool_eq {a b : Bool} (h : a = true ↔ b = true) : Value.bool a = Value.bool b := by rw [Bool.eq_iff_iff.2 h]
theorem bool_eq' {a b : Bool} (h : a = true ↔ b = true) : a = b := Bool.eq_iff_iff.2 h
def rightB (n : Int) : Bool := decide (1 ≤ n) && decide (n ≤ 256)
def con1 (f : Int → Bool) : Con := .pure (fun args _ => match args with | [x] => IsI .i64 x | _ => False) (fun args _ => match args with | [x] => .bool (f (intOf x)) | _ => undef)

theorem right_ok : ConOk Tryd.prog 45 (con1 rightB) := by
  refine .mkPure fn45_ok ?_
  intro args hp hpre top
  match args, hpre with
  | [x], hx =>
  rw [hx]
  refine CalledOk.of_fun tt_ok fn45_ok rfl 9 rfl [.tmp 2] rfl (show 1 ≤ 9 by decide) ?_
  refine CW.vc env0 [0, 2] (by kernel_rfl) ?_
  (simp only [go_sem, reduceIte, reduceCtorEq, Nat.reduceAdd, Nat.reduceMul, Nat.reduceSub, Nat.reduceLT, Nat.reduceLeDiff, Nat.reduceEqDiff, Int.reduceEq, Int.reduceLT, Int.reduceLE, Int.reduceNe]; repeat (refine Vc.mk' ?_; simp only [go_sem, reduceIte, reduceCtorEq, Nat.reduceAdd, Nat.reduceMul, Nat.reduceSub, Nat.reduceLT, Nat.reduceLeDiff, Nat.reduceEqDiff, Int.reduceEq, Int.reduceLT, Int.reduceLE, Int.reduceNe]))
  refine bool_eq ?_
  simp [rightB]; try omega

theorem rright_ok : ConOk Tryd.prog 47 (con1 rightB) := by
  refine .mkPure fn47_ok ?_
  intro args hp hpre top
  match args, hpre with
  | [x], hx =>
  rw [hx]
  refine CalledOk.of_fun tt_ok fn47_ok rfl 9 rfl [.tmp 2] rfl (show 1 ≤ 9 by decide) ?_
  refine CW.vc env0 [0, 2] (by kernel_rfl) ?_
  (simp only [go_sem, reduceIte, reduceCtorEq, Nat.reduceAdd, Nat.reduceMul, Nat.reduceSub, Nat.reduceLT, Nat.reduceLeDiff, Nat.reduceEqDiff, Int.reduceEq, Int.reduceLT, Int.reduceLE, Int.reduceNe]; repeat (refine Vc.mk' ?_; simp only [go_sem, reduceIte, reduceCtorEq, Nat.reduceAdd, Nat.reduceMul, Nat.reduceSub, Nat.reduceLT, Nat.reduceLeDiff, Nat.reduceEqDiff, Int.reduceEq, Int.reduceLT, Int.reduceLE, Int.reduceNe]))
  refine bool_eq ?_
  simp [rightB]; try omega
/-- the mask of a bit -/
def bitM (k : Nat) : Int := ((2 ^ (k % 64) : Nat) : Int)
/-! ### numbers -/
theorem quo64 {k : Nat} (h : k < 256) : IntKind.i64.wrap ((k : Int).tdiv 64) = ((k / 64 : Nat) : Int) := by
  rw [← wrapA_eq, show (k : Int).tdiv 64 = ((k / 64 : Nat) : Int) from rfl, wrap64 (by omega) (by omega)]
theorem rem64 {k : Nat} : (k : Int).tmod 64 = ((k % 64 : Nat) : Int) := rfl
theorem pow_lt {k : Nat} (h : k < 64) : 2 ^ k < 18446744073709551616 := Nat.pow_lt_pow_right (a := 2) (n := 64) (by decide) h
theorem mask64 {k : Nat} : wrapA .u64 (1 * Int.ofNat (Nat.pow 2 ((k % 64).min 64))) = bitM k := by
  have h : k % 64 < 64 := Nat.mod_lt _ (by decide)
  have h2 := pow_lt h
  have e : (k % 64).min 64 = k % 64 := Nat.min_eq_left (by omega)
  rw [e, Int.one_mul]
  exact wrap_u64 (Int.natCast_nonneg _) (by have : ((2 ^ (k % 64) : Nat) : Int) < 18446744073709551616 := by omega
                                            exact this)

def conOne : Con := .pure (fun args _ => match args with | [.int .i64 n] => 1 ≤ n ∧ n ≤ 256 | _ => False) (fun args _ => match args with | [n] => .tuple ⟨[.int .i64 (((intOf n - 1).toNat / 64 : Nat) : Int), .int .u64 (bitM (intOf n - 1).toNat)]⟩ | _ => undef)

theorem one_ok : ConOk Tryd.prog 46 conOne := by
  refine .mkPure fn46_ok ?_
  intro args hp hpre top
  match args, hpre with
  | [.int .i64 n], ⟨h1, h2⟩ =>
  obtain ⟨k, rfl⟩ : ∃ k : Nat, n = (k : Int) + 1 := ⟨(n - 1).toNat, by omega⟩
  have hk : k < 256 := by omega
  have e1 : wrapA .i64 ((k : Int) + 1 - 1) = (k : Int) := by rw [wrap64 (by omega) (by omega)]; omega
  refine CalledOk.of_fun tt_ok fn46_ok rfl 11 rfl [.tmp 2, .tmp 3] rfl (show 1 ≤ 11 by decide) ?_
  refine CW.vc env0 [0, 2, 3] (by kernel_rfl) ?_
  have e2 : ((k : Int) + 1 - 1).toNat = k := by omega
  have e3 : (0 : Int) ≤ ((k % 64 : Nat) : Int) := by omega
  (simp only [go_sem, reduceIte, reduceCtorEq, Nat.reduceAdd, Nat.reduceMul, Nat.reduceSub, Nat.reduceLT, Nat.reduceLeDiff, Nat.reduceEqDiff, Int.reduceEq, Int.reduceLT, Int.reduceLE, Int.reduceNe, e1, quo64 hk, rem64, mask64, e2, e3]; repeat (refine Vc.mk' ?_; simp only [go_sem, reduceIte, reduceCtorEq, Nat.reduceAdd, Nat.reduceMul, Nat.reduceSub, Nat.reduceLT, Nat.reduceLeDiff, Nat.reduceEqDiff, Int.reduceEq, Int.reduceLT, Int.reduceLE, Int.reduceNe, e1, quo64 hk, rem64, mask64, e2, e3]))
/-! ### bit strings as values -/
theorem sconvH_int {s d : TypeId} {k1 k2 : IntKind} {hp : Hp} {x : Value} (h1 : kindOf tt.get s = some (.int k1)) (h2 : kindOf tt.get d = some (.int k2)) : sconvH tt.get hp s d x = (.int k2 (wrapA k2 (intOf x)), IsN x) := by
  simp [sconvH, h1, sconv, h2]
theorem c_iu {hp : Hp} {x : Value} : sconvH tt.get hp 3 56 x = (.int .u64 (wrapA .u64 (intOf x)), IsN x) := sconvH_int k_int k_uint
theorem wrapu_mod {k : Nat} : wrapA .u64 ((k % 64 : Nat) : Int) = ((k % 64 : Nat) : Int) := wrap_u64 (by omega) (by omega)
def bl (b : T_Bits) : List Value := e_Bits.enc b
def setw (b : T_Bits) (i n : Nat) : T_Bits := match i with
  | 0 => { b with x0 := n }
  | 1 => { b with x1 := n }
  | 2 => { b with x2 := n }
  | _ => { b with x3 := n }
def wn (b : T_Bits) (i : Nat) : Nat := (wd b i).toNat
def bOf (v : Value) : T_Bits := e_Bits.dec (aggOf v)
def IsBits (v : Value) : Prop := ∃ b, v = .agg ⟨bl b⟩ ∧ OkB b
theorem bOf_bl {b : T_Bits} : bOf (.agg ⟨bl b⟩) = b := e_Bits.h b
theorem bl_inj {a b : T_Bits} (h : bl a = bl b) : a = b := by have := congrArg e_Bits.dec h; rwa [show e_Bits.dec (bl a) = a from e_Bits.h a, show e_Bits.dec (bl b) = b from e_Bits.h b] at this
theorem isBits_bl {b : T_Bits} (h : OkB b) : IsBits (.agg ⟨bl b⟩) = True := eq_true ⟨b, rfl, h⟩
theorem bl_len {b : T_Bits} : (bl b).length = 4 := rfl
theorem bl_one {b : T_Bits} : oneCells (bl b) = true := rfl
theorem bl_ren {b : T_Bits} {ρ : Nat → Nat} : renL ρ (bl b) = bl b := rfl
theorem bl_app {a b : T_Bits} : bl a ++ (bl b).drop 4 = bl a := by simp [bl, en_Bits]
theorem bl_take {b : T_Bits} : (bl b).take 4 = bl b := rfl
theorem bl_get {b : T_Bits} {i : Nat} (hb : OkB b) (h : i < 4) : ((bl b)[i]?).getD undef = .int .u64 (wn b i : Int) := by
  unfold bl wn
  rw [bits_get h]
  congr 1
  have := (hb.wd i).1
  omega
theorem bl_splice {b : T_Bits} {i n : Nat} (h : i < 4) : splice (bl b) i [.int .u64 (n : Int)] = bl (setw b i n) := by
  rw [splice_one (by exact h)]
  rcases i with _ | _ | _ | _ | i
  · rfl
  · rfl
  · rfl
  · rfl
  · omega

theorem wn_lt {b : T_Bits} (hb : OkB b) (i : Nat) : wn b i < 18446744073709551616 := by have := (hb.wd i); unfold wn; unfold U64 at this; omega
theorem setw_ok {b : T_Bits} {i n : Nat} (hb : OkB b) (hn : n < 18446744073709551616) : OkB (setw b i n) := by
  obtain ⟨h0, h1, h2, h3⟩ := hb
  have hu : U64 (n : Int) := ⟨by omega, by omega⟩
  rcases i with _ | _ | _ | i
  · exact ⟨hu, h1, h2, h3⟩
  · exact ⟨h0, hu, h2, h3⟩
  · exact ⟨h0, h1, hu, h3⟩
  · exact ⟨h0, h1, h2, hu⟩
theorem setw_get {b : T_Bits} {i j n : Nat} (hi : i < 4) (hj : j < 4) : wn (setw b i n) j = if j = i then n else wn b j := by
  rcases i with _ | _ | _ | _ | i
  all_goals first
    | omega
    | (rcases j with _ | _ | _ | _ | j
       all_goals first
         | omega
         | rfl)
def zb : T_Bits := ⟨0, 0, 0, 0⟩
theorem zb_ok : OkB zb := by refine ⟨?_, ?_, ?_, ?_⟩ <;> exact ⟨by decide, by decide⟩
def putB (b : T_Bits) (k : Nat) : T_Bits := setw b (k / 64) (wn b (k / 64) ||| 2 ^ (k % 64))
theorem or_lt {x y : Nat} (hx : x < 18446744073709551616) (hy : y < 18446744073709551616) : x ||| y < 18446744073709551616 := Nat.or_lt_two_pow (n := 64) hx hy
theorem putB_ok {b : T_Bits} {k : Nat} (hb : OkB b) : OkB (putB b k) := setw_ok hb (or_lt (wn_lt hb _) (pow_lt (Nat.mod_lt _ (by decide))))
theorem or_u64 {x y : Nat} (hx : x < 18446744073709551616) (hy : y < 18446744073709551616) : bitsI .or .u64 (x : Int) (y : Int) = ((x ||| y : Nat) : Int) := by
  have h1 := or_lt hx hy
  have e : (BitVec.ofInt 64 (x : Int) ||| BitVec.ofInt 64 (y : Int)).toNat = x ||| y := by rw [BitVec.toNat_or, bv_nat hx, bv_nat hy]
  show IntKind.u64.wrap ((BitVec.ofInt 64 (x : Int) ||| BitVec.ofInt 64 (y : Int)).toNat : Int) = _
  rw [e]
  have := bv_int (x := x ||| y)
  rwa [Nat.mod_eq_of_lt h1] at this
def conPut : Con := .pure (fun args _ => match args with | [v, .int .i64 n] => IsBits v ∧ 1 ≤ n ∧ n ≤ 256 | _ => False) (fun args _ => match args with | [v, n] => .agg ⟨bl (putB (bOf v) (intOf n - 1).toNat)⟩ | _ => undef)

theorem put_ok : ConOk Tryd.prog 48 conPut := by
  refine .mkRd fn48_ok ?_ ?_
  · rintro args hp h
    match args, h with
    | [_, .int .i64 n], ⟨⟨b, rfl, hb⟩, h1, h2⟩ => rfl
  intro args hp hpre top hcl hsc
  match args, hpre with
  | [_, .int .i64 n], ⟨⟨b, rfl, hb⟩, h1, h2⟩ =>
  obtain ⟨k, rfl⟩ : ∃ k : Nat, n = (k : Int) + 1 := ⟨(n - 1).toNat, by omega⟩
  have hk : k < 256 := by omega
  have e1 : wrapA .i64 ((k : Int) + 1 - 1) = (k : Int) := by rw [wrap64 (by omega) (by omega)]; omega
  refine CalledOk.of_fun tt_ok fn48_ok rfl 21 rfl [.cell 4 25] rfl (show 2 ≤ 21 by decide) ?_
  refine CW.vc env0 [0, 1, 2, 4] (by kernel_rfl) ?_
  have h4 : k / 64 < 4 := by omega
  have h5 : k / 64 ≤ 3 := by omega
  have e2 : ((k : Int) + 1 - 1).toNat = k := by omega
  have e3 : (0 : Int) ≤ ((k % 64 : Nat) : Int) := by omega
  have eo : bitsI .or .u64 ((wn b (k / 64) : Nat) : Int) (bitM k) = ((wn b (k / 64) ||| 2 ^ (k % 64) : Nat) : Int) := or_u64 (wn_lt hb _) (pow_lt (Nat.mod_lt _ (by decide)))
  (simp only [go_sem, reduceIte, reduceCtorEq, Nat.reduceAdd, Nat.reduceMul, Nat.reduceSub, Nat.reduceLT, Nat.reduceLeDiff, Nat.reduceEqDiff, Int.reduceEq, Int.reduceLT, Int.reduceLE, Int.reduceNe, e1, quo64 hk, rem64, mask64, c_iu, wrapu_mod, bl_len, bl_take, bl_ren, bl_app, bl_one, bOf_bl, Nat.mul_one, bl_get hb h4, bl_splice h4, h4, h5, e2, e3, eo, putB]; repeat (refine Vc.mk' ?_; simp only [go_sem, reduceIte, reduceCtorEq, Nat.reduceAdd, Nat.reduceMul, Nat.reduceSub, Nat.reduceLT, Nat.reduceLeDiff, Nat.reduceEqDiff, Int.reduceEq, Int.reduceLT, Int.reduceLE, Int.reduceNe, e1, quo64 hk, rem64, mask64, c_iu, wrapu_mod, bl_len, bl_take, bl_ren, bl_app, bl_one, bOf_bl, Nat.mul_one, bl_get hb h4, bl_splice h4, h4, h5, e2, e3, eo, putB]))
theorem shr_bit {w k : Nat} (hw : w < 18446744073709551616) : bitsI .and .u64 ((w : Int).fdiv (Int.ofNat (Nat.pow 2 ((k % 64).min 64)))) 1 = (if w.testBit (k % 64) then 1 else 0) := by
  have e : (k % 64).min 64 = k % 64 := Nat.min_eq_left (by omega)
  rw [e]
  have e2 : (w : Int).fdiv (Int.ofNat (Nat.pow 2 (k % 64))) = ((w / 2 ^ (k % 64) : Nat) : Int) := (Int.ofNat_fdiv w _).symm
  have hl : w / 2 ^ (k % 64) < 18446744073709551616 := Nat.lt_of_le_of_lt (Nat.div_le_self ..) hw
  rw [e2]
  have := and_u64 (x := w / 2 ^ (k % 64)) (y := 1) hl (by decide)
  rw [show ((1 : Nat) : Int) = 1 from rfl] at this
  rw [this, Nat.and_one_is_mod, Nat.testBit_eq_decide_div_mod_eq]
  have := Nat.mod_two_eq_zero_or_one (w / 2 ^ (k % 64))
  rcases this with h | h <;> simp [h]
theorem and_two_pow {w j : Nat} : w &&& 2 ^ j = if w.testBit j then 2 ^ j else 0 := by
  refine Nat.eq_of_testBit_eq fun i => ?_
  rw [Nat.testBit_and, Nat.testBit_two_pow]
  by_cases h : j = i
  · subst h; cases hw : w.testBit j <;> simp
  · simp [h]; split <;> simp [Nat.testBit_two_pow, h]
theorem and_bit {w k : Nat} (hw : w < 18446744073709551616) : decide (bitsI .and .u64 (w : Int) (bitM k) = 0) = !w.testBit (k % 64) := by
  have := and_u64 (x := w) (y := 2 ^ (k % 64)) hw (pow_lt (Nat.mod_lt _ (by decide)))
  unfold bitM
  rw [this, and_two_pow]
  have := Nat.two_pow_pos (k % 64)
  cases hb : w.testBit (k % 64) with
  | true => have h2 : (2 : Int) ^ (k % 64) ≠ 0 := Int.pow_ne_zero (by decide)
            simp [h2]
  | false => simp
def hasB (b : T_Bits) (k : Nat) : Bool := (wn b (k / 64)).testBit (k % 64)
def conHas : Con := .pure (fun args _ => match args with | [v, .int .i64 _] => IsBits v | _ => False) (fun args _ => match args with | [v, n] => .bool (rightB (intOf n) && hasB (bOf v) (intOf n - 1).toNat) | _ => undef)
def G1 := addG (addG (addG (addG G0 45 (con1 rightB)) 47 (con1 rightB)) 46 conOne) 48 conPut
theorem env1 : EnvV Tryd.prog tt.get G1 := (((env0.add right_ok).add rright_ok).add one_ok).add put_ok
theorem G1_right : G1 45 = con1 rightB := rfl
theorem G1_rright : G1 47 = con1 rightB := rfl
theorem G1_one : G1 46 = conOne := rfl
theorem G1_put : G1 48 = conPut := rfl

theorem rhas_ok : ConOk Tryd.prog 31 conHas := by
  refine .mkRd fn31_ok ?_ ?_
  · rintro args hp h
    match args, h with
    | [_, .int .i64 n], ⟨b, rfl, hb⟩ => rfl
  intro args hp hpre top hcl hsc
  match args, hpre with
  | [_, .int .i64 n], ⟨b, rfl, hb⟩ =>
  refine CalledOk.of_fun tt_ok fn31_ok rfl 21 rfl [.tmp 4] rfl (show 2 ≤ 21 by decide) ?_
  cases hr : rightB n with
  | false =>
    refine CW.vc env1 [0, 1, 2, 4] (by kernel_rfl) ?_
    (simp only [go_sem, reduceIte, reduceCtorEq, Nat.reduceAdd, Nat.reduceMul, Nat.reduceSub, Nat.reduceLT, Nat.reduceLeDiff, Nat.reduceEqDiff, Int.reduceEq, Int.reduceLT, Int.reduceLE, Int.reduceNe, rem64, mask64, c_iu, wrapu_mod, bl_len, bl_take, bl_ren, bl_app, bl_one, bOf_bl, Nat.mul_one, G1_right, G1_rright, G1_one, G1_put, con1, conOne, conPut, hr, Bool.false_and]; repeat (refine Vc.mk' ?_; simp only [go_sem, reduceIte, reduceCtorEq, Nat.reduceAdd, Nat.reduceMul, Nat.reduceSub, Nat.reduceLT, Nat.reduceLeDiff, Nat.reduceEqDiff, Int.reduceEq, Int.reduceLT, Int.reduceLE, Int.reduceNe, rem64, mask64, c_iu, wrapu_mod, bl_len, bl_take, bl_ren, bl_app, bl_one, bOf_bl, Nat.mul_one, G1_right, G1_rright, G1_one, G1_put, con1, conOne, conPut, hr, Bool.false_and]))
  | true =>
    simp only [rightB, Bool.and_eq_true, decide_eq_true_eq] at hr
    obtain ⟨h1, h2⟩ := hr
    obtain ⟨k, rfl⟩ : ∃ k : Nat, n = (k : Int) + 1 := ⟨(n - 1).toNat, by omega⟩
    have hr : rightB ((k : Int) + 1) = true := by simp [rightB]; omega
    have hk : k < 256 := by omega
    have e1 : wrapA .i64 ((k : Int) + 1 - 1) = (k : Int) := by rw [wrap64 (by omega) (by omega)]; omega
    have h4 : k / 64 < 4 := by omega
    have h5 : k / 64 ≤ 3 := by omega
    have e2 : ((k : Int) + 1 - 1).toNat = k := by omega
    have e3 : (0 : Int) ≤ ((k % 64 : Nat) : Int) := by omega
    refine CW.vc env1 [0, 1, 2, 4] (by kernel_rfl) ?_
    (simp only [go_sem, reduceIte, reduceCtorEq, Nat.reduceAdd, Nat.reduceMul, Nat.reduceSub, Nat.reduceLT, Nat.reduceLeDiff, Nat.reduceEqDiff, Int.reduceEq, Int.reduceLT, Int.reduceLE, Int.reduceNe, e1, quo64 hk, rem64, mask64, c_iu, wrapu_mod, bl_len, bl_take, bl_ren, bl_app, bl_one, bOf_bl, Nat.mul_one, G1_right, G1_rright, G1_one, G1_put, con1, conOne, conPut, bl_get hb h4, h4, h5, e2, e3, hr, shr_bit (wn_lt hb (k / 64))]; repeat (refine Vc.mk' ?_; simp only [go_sem, reduceIte, reduceCtorEq, Nat.reduceAdd, Nat.reduceMul, Nat.reduceSub, Nat.reduceLT, Nat.reduceLeDiff, Nat.reduceEqDiff, Int.reduceEq, Int.reduceLT, Int.reduceLE, Int.reduceNe, e1, quo64 hk, rem64, mask64, c_iu, wrapu_mod, bl_len, bl_take, bl_ren, bl_app, bl_one, bOf_bl, Nat.mul_one, G1_right, G1_rright, G1_one, G1_put, con1, conOne, conPut, bl_get hb h4, h4, h5, e2, e3, hr, shr_bit (wn_lt hb (k / 64))]))
    unfold hasB
    cases (wn b (k / 64)).testBit (k % 64) <;> rfl

theorem has_ok : ConOk Tryd.prog 29 conHas := by
  refine .mkRd fn29_ok ?_ ?_
  · rintro args hp h
    match args, h with
    | [_, .int .i64 n], ⟨b, rfl, hb⟩ => rfl
  intro args hp hpre top hcl hsc
  match args, hpre with
  | [_, .int .i64 n], ⟨b, rfl, hb⟩ =>
  refine CalledOk.of_fun tt_ok fn29_ok rfl 21 rfl [.tmp 4] rfl (show 2 ≤ 21 by decide) ?_
  cases hr : rightB n with
  | false =>
    refine CW.vc env1 [0, 1, 2, 4, 5, 6, 9] (by kernel_rfl) ?_
    (simp only [go_sem, reduceIte, reduceCtorEq, Nat.reduceAdd, Nat.reduceMul, Nat.reduceSub, Nat.reduceLT, Nat.reduceLeDiff, Nat.reduceEqDiff, Int.reduceEq, Int.reduceLT, Int.reduceLE, Int.reduceNe, rem64, mask64, c_iu, wrapu_mod, bl_len, bl_take, bl_ren, bl_app, bl_one, bOf_bl, Nat.mul_one, G1_right, G1_rright, G1_one, G1_put, con1, conOne, conPut, hr, Bool.false_and]; repeat (refine Vc.mk' ?_; simp only [go_sem, reduceIte, reduceCtorEq, Nat.reduceAdd, Nat.reduceMul, Nat.reduceSub, Nat.reduceLT, Nat.reduceLeDiff, Nat.reduceEqDiff, Int.reduceEq, Int.reduceLT, Int.reduceLE, Int.reduceNe, rem64, mask64, c_iu, wrapu_mod, bl_len, bl_take, bl_ren, bl_app, bl_one, bOf_bl, Nat.mul_one, G1_right, G1_rright, G1_one, G1_put, con1, conOne, conPut, hr, Bool.false_and]))
  | true =>
    simp only [rightB, Bool.and_eq_true, decide_eq_true_eq] at hr
    obtain ⟨h1, h2⟩ := hr
    obtain ⟨k, rfl⟩ : ∃ k : Nat, n = (k : Int) + 1 := ⟨(n - 1).toNat, by omega⟩
    have hr : rightB ((k : Int) + 1) = true := by simp [rightB]; omega
    have hk : k < 256 := by omega
    have e1 : wrapA .i64 ((k : Int) + 1 - 1) = (k : Int) := by rw [wrap64 (by omega) (by omega)]; omega
    have h4 : k / 64 < 4 := by omega
    have h5 : k / 64 ≤ 3 := by omega
    have e2 : ((k : Int) + 1 - 1).toNat = k := by omega
    have e3 : (0 : Int) ≤ ((k % 64 : Nat) : Int) := by omega
    refine CW.vc env1 [0, 1, 2, 4, 5, 6, 9] (by kernel_rfl) ?_
    (simp only [go_sem, reduceIte, reduceCtorEq, Nat.reduceAdd, Nat.reduceMul, Nat.reduceSub, Nat.reduceLT, Nat.reduceLeDiff, Nat.reduceEqDiff, Int.reduceEq, Int.reduceLT, Int.reduceLE, Int.reduceNe, e1, quo64 hk, rem64, mask64, c_iu, wrapu_mod, bl_len, bl_take, bl_ren, bl_app, bl_one, bOf_bl, Nat.mul_one, G1_right, G1_rright, G1_one, G1_put, con1, conOne, conPut, bl_get hb h4, h4, h5, e2, e3, hr, h1, h2, and_bit (wn_lt hb (k / 64))]; repeat (refine Vc.mk' ?_; simp only [go_sem, reduceIte, reduceCtorEq, Nat.reduceAdd, Nat.reduceMul, Nat.reduceSub, Nat.reduceLT, Nat.reduceLeDiff, Nat.reduceEqDiff, Int.reduceEq, Int.reduceLT, Int.reduceLE, Int.reduceNe, e1, quo64 hk, rem64, mask64, c_iu, wrapu_mod, bl_len, bl_take, bl_ren, bl_app, bl_one, bOf_bl, Nat.mul_one, G1_right, G1_rright, G1_one, G1_put, con1, conOne, conPut, bl_get hb h4, h4, h5, e2, e3, hr, h1, h2, and_bit (wn_lt hb (k / 64))]))
    rfl
/-! ### two bit strings, word by word -/
def uptoW (f : Nat → Nat → Nat) (a b : T_Bits) : Nat → T_Bits
  | 0 => a
  | i + 1 => setw (uptoW f a b i) i (f (wn a i) (wn b i))
def mapW (f : Nat → Nat → Nat) (a b : T_Bits) : T_Bits := uptoW f a b 4
theorem uptoW_ok {f : Nat → Nat → Nat} {a b : T_Bits} (ha : OkB a) (hf : ∀ i, f (wn a i) (wn b i) < 18446744073709551616) : ∀ i, OkB (uptoW f a b i)
  | 0 => ha
  | i + 1 => setw_ok (uptoW_ok ha hf i) (hf i)
theorem uptoW_get {f : Nat → Nat → Nat} {a b : T_Bits} : ∀ {i j : Nat}, i ≤ 4 → j < 4 → wn (uptoW f a b i) j = if j < i then f (wn a j) (wn b j) else wn a j
  | 0, j, _, _ => by simp [uptoW]
  | i + 1, j, hi, hj => by
    rw [uptoW, setw_get (by omega) hj, uptoW_get (by omega) hj]
    by_cases h : j = i
    · subst h; simp
    · by_cases h2 : j < i
      · simp [h, h2, show j < i + 1 from by omega]
      · simp [h, h2, show ¬ j < i + 1 from by omega]
theorem xor_lt {x y : Nat} (hx : x < 18446744073709551616) (hy : y < 18446744073709551616) : x ^^^ y < 18446744073709551616 := Nat.xor_lt_two_pow (n := 64) hx hy
theorem and_lt {x y : Nat} (hx : x < 18446744073709551616) : x &&& y < 18446744073709551616 := Nat.lt_of_le_of_lt Nat.and_le_left hx
def andN (x y : Nat) : Nat := x &&& (y ^^^ 18446744073709551615)
theorem andN_u64 {x y : Nat} (hx : x < 18446744073709551616) (hy : y < 18446744073709551616) : bitsI .andNot .u64 (x : Int) (y : Int) = ((andN x y : Nat) : Int) := by
  have h1 : andN x y < 18446744073709551616 := and_lt hx
  have e : (BitVec.ofInt 64 (x : Int) &&& ~~~ BitVec.ofInt 64 (y : Int)).toNat = andN x y := by
    have h2 : (BitVec.allOnes 64).toNat = 18446744073709551615 := rfl
    rw [BitVec.toNat_and, ← BitVec.xor_allOnes, BitVec.toNat_xor, bv_nat hx, bv_nat hy, h2]; rfl
  show IntKind.u64.wrap ((BitVec.ofInt 64 (x : Int) &&& ~~~ BitVec.ofInt 64 (y : Int)).toNat : Int) = _
  rw [e]
  have := bv_int (x := andN x y)
  rwa [Nat.mod_eq_of_lt h1] at this
def conBin (f : Nat → Nat → Nat) : Con := .pure (fun args _ => match args with | [v, u] => IsBits v ∧ IsBits u | _ => False) (fun args _ => match args with | [v, u] => .agg ⟨bl (mapW f (bOf v) (bOf u))⟩ | _ => undef)
def stBin (hp : Hp) (top : Nat) (f : Nat → Nat → Nat) (a b : T_Bits) (i : Nat) : SS := ⟨[(2, .pointer (some ⟨top, 0, none⟩), true), (3, .pointer (some ⟨top + 1, 0, none⟩), true), (4, .pointer (some ⟨top + 2, 0, none⟩), true), (6, .int .i64 (i : Int), true)], hp.sets [(top, some (.cells true 0 (bl (uptoW f a b i)))), (top + 1, some (.cells true 0 (bl b))), (top + 2, some (.cells true 0 (bl zb)))], top + 3⟩

theorem and_ok : ConOk Tryd.prog 20 (conBin (· &&& ·)) := by
  refine .mkRd fn20_ok ?_ ?_
  · rintro args hp h
    match args, h with
    | [_, _], ⟨⟨a, rfl, ha⟩, ⟨b, rfl, hb⟩⟩ => rfl
  intro args hp hpre top hcl hsc
  match args, hpre with
  | [_, _], ⟨⟨a, rfl, ha⟩, ⟨b, rfl, hb⟩⟩ =>
  refine CalledOk.of_fun tt_ok fn20_ok rfl 19 rfl [.cell 4 25] rfl (show 2 ≤ 19 by decide) ?_
  refine CW.vc env1 [0, 1, 2, 3, 4, 5, 6, 7] (by kernel_rfl) ?_
  (simp only [go_sem, reduceIte, reduceCtorEq, Nat.reduceAdd, Nat.reduceMul, Nat.reduceSub, Nat.reduceLT, Nat.reduceLeDiff, Nat.reduceEqDiff, Int.reduceEq, Int.reduceLT, Int.reduceLE, Int.reduceNe, rem64, mask64, c_iu, wrapu_mod, bl_len, bl_take, bl_ren, bl_app, bl_one, bOf_bl, Nat.mul_one]; repeat (refine Vc.mk' ?_; simp only [go_sem, reduceIte, reduceCtorEq, Nat.reduceAdd, Nat.reduceMul, Nat.reduceSub, Nat.reduceLT, Nat.reduceLeDiff, Nat.reduceEqDiff, Int.reduceEq, Int.reduceLT, Int.reduceLE, Int.reduceNe, rem64, mask64, c_iu, wrapu_mod, bl_len, bl_take, bl_ren, bl_app, bl_one, bOf_bl, Nat.mul_one]))
  have hu := uptoW_ok (f := (· &&& ·)) (b := b) ha (fun i => and_lt (wn_lt ha i))
  refine CW.loopR (stBin hp top (· &&& ·) a b) (fun k => k ≤ 4) (fun k => 4 - k) 0 (by omega) ?_ ?_
  · exact SubR.mk' [top, top + 1, top + 2] hcl (by simp) (by simp) rfl (frSub_ok (by simp [frSub, lkG, ren, renL, renL_set, renL_ints, UpdOk.nil, UpdOk.cons, renOO_some, renO_cells, renO_map, renOO_mkOb, rn_base, rn_add, ren_mkSl, Enc.flat_ren, set_same, set_ne, sets_cons, sets_nil, Keep.set, Keep.setK, Keep.refl, bl_ren, show uptoW (· &&& ·) a b 0 = a from rfl, show bl zb = [.int .u64 0, .int .u64 0, .int .u64 0, .int .u64 0] from rfl])) (by simp [frSub, lkG, ren, renL, renL_set, renL_ints, UpdOk.nil, UpdOk.cons, renOO_some, renO_cells, renO_map, renOO_mkOb, rn_base, rn_add, ren_mkSl, Enc.flat_ren, set_same, set_ne, sets_cons, sets_nil, Keep.set, Keep.setK, Keep.refl, bl_ren, show uptoW (· &&& ·) a b 0 = a from rfl, show bl zb = [.int .u64 0, .int .u64 0, .int .u64 0, .int .u64 0] from rfl]) (by simp [frSub, lkG, ren, renL, renL_set, renL_ints, UpdOk.nil, UpdOk.cons, renOO_some, renO_cells, renO_map, renOO_mkOb, rn_base, rn_add, ren_mkSl, Enc.flat_ren, set_same, set_ne, sets_cons, sets_nil, Keep.set, Keep.setK, Keep.refl, bl_ren, show uptoW (· &&& ·) a b 0 = a from rfl, show bl zb = [.int .u64 0, .int .u64 0, .int .u64 0, .int .u64 0] from rfl])
  · rintro i hi
    by_cases hlt : i < 4
    · have h4 : (i : Int) < 4 := by omega
      have h3 : i ≤ 3 := by omega
      have ha1 := bl_get (hu i) hlt
      have hg : wn (uptoW (· &&& ·) a b i) i = wn a i := by rw [uptoW_get hi hlt]; simp
      rw [hg] at ha1
      refine CW.vc env1 [0, 1, 2, 3, 4, 5, 6, 7] (by kernel_rfl) ?_
      (simp only [go_sem, reduceIte, reduceCtorEq, Nat.reduceAdd, Nat.reduceMul, Nat.reduceSub, Nat.reduceLT, Nat.reduceLeDiff, Nat.reduceEqDiff, Int.reduceEq, Int.reduceLT, Int.reduceLE, Int.reduceNe, rem64, mask64, c_iu, wrapu_mod, bl_len, bl_take, bl_ren, bl_app, bl_one, bOf_bl, Nat.mul_one, stBin, hlt, h3, h4, ha1, bl_get hb hlt, bl_splice hlt, and_u64 (wn_lt ha i) (wn_lt hb i)]; repeat (refine Vc.mk' ?_; simp only [go_sem, reduceIte, reduceCtorEq, Nat.reduceAdd, Nat.reduceMul, Nat.reduceSub, Nat.reduceLT, Nat.reduceLeDiff, Nat.reduceEqDiff, Int.reduceEq, Int.reduceLT, Int.reduceLE, Int.reduceNe, rem64, mask64, c_iu, wrapu_mod, bl_len, bl_take, bl_ren, bl_app, bl_one, bOf_bl, Nat.mul_one, stBin, hlt, h3, h4, ha1, bl_get hb hlt, bl_splice hlt, and_u64 (wn_lt ha i) (wn_lt hb i)]))
      refine .mk (i + 1) hlt (by omega) (SubR.mk' [top, top + 1, top + 2] hcl (by simp) (by simp) rfl (frSub_ok (by simp [frSub, lkG, ren, renL, renL_set, renL_ints, UpdOk.nil, UpdOk.cons, renOO_some, renO_cells, renO_map, renOO_mkOb, rn_base, rn_add, ren_mkSl, Enc.flat_ren, set_same, set_ne, sets_cons, sets_nil, Keep.set, Keep.setK, Keep.refl, bl_ren, wrap_succ hlt (by decide), show uptoW (· &&& ·) a b (i + 1) = setw (uptoW (· &&& ·) a b i) i (wn a i &&& wn b i) from rfl])) (by simp [frSub, lkG, ren, renL, renL_set, renL_ints, UpdOk.nil, UpdOk.cons, renOO_some, renO_cells, renO_map, renOO_mkOb, rn_base, rn_add, ren_mkSl, Enc.flat_ren, set_same, set_ne, sets_cons, sets_nil, Keep.set, Keep.setK, Keep.refl, bl_ren, wrap_succ hlt (by decide), show uptoW (· &&& ·) a b (i + 1) = setw (uptoW (· &&& ·) a b i) i (wn a i &&& wn b i) from rfl]) (by simp [frSub, lkG, ren, renL, renL_set, renL_ints, UpdOk.nil, UpdOk.cons, renOO_some, renO_cells, renO_map, renOO_mkOb, rn_base, rn_add, ren_mkSl, Enc.flat_ren, set_same, set_ne, sets_cons, sets_nil, Keep.set, Keep.setK, Keep.refl, bl_ren, wrap_succ hlt (by decide), show uptoW (· &&& ·) a b (i + 1) = setw (uptoW (· &&& ·) a b i) i (wn a i &&& wn b i) from rfl]))
    · have hi4 : i = 4 := by omega
      have h4 : ¬ (i : Int) < 4 := by omega
      refine CW.vc env1 [0, 1, 2, 3, 4, 5, 6, 7] (by kernel_rfl) ?_
      (simp only [go_sem, reduceIte, reduceCtorEq, Nat.reduceAdd, Nat.reduceMul, Nat.reduceSub, Nat.reduceLT, Nat.reduceLeDiff, Nat.reduceEqDiff, Int.reduceEq, Int.reduceLT, Int.reduceLE, Int.reduceNe, rem64, mask64, c_iu, wrapu_mod, bl_len, bl_take, bl_ren, bl_app, bl_one, bOf_bl, Nat.mul_one, stBin, h4]; repeat (refine Vc.mk' ?_; simp only [go_sem, reduceIte, reduceCtorEq, Nat.reduceAdd, Nat.reduceMul, Nat.reduceSub, Nat.reduceLT, Nat.reduceLeDiff, Nat.reduceEqDiff, Int.reduceEq, Int.reduceLT, Int.reduceLE, Int.reduceNe, rem64, mask64, c_iu, wrapu_mod, bl_len, bl_take, bl_ren, bl_app, bl_one, bOf_bl, Nat.mul_one, stBin, h4]))
      rw [hi4]; rfl

theorem or_ok : ConOk Tryd.prog 22 (conBin (· ||| ·)) := by
  refine .mkRd fn22_ok ?_ ?_
  · rintro args hp h
    match args, h with
    | [_, _], ⟨⟨a, rfl, ha⟩, ⟨b, rfl, hb⟩⟩ => rfl
  intro args hp hpre top hcl hsc
  match args, hpre with
  | [_, _], ⟨⟨a, rfl, ha⟩, ⟨b, rfl, hb⟩⟩ =>
  refine CalledOk.of_fun tt_ok fn22_ok rfl 19 rfl [.cell 4 25] rfl (show 2 ≤ 19 by decide) ?_
  refine CW.vc env1 [0, 1, 2, 3, 4, 5, 6, 7] (by kernel_rfl) ?_
  (simp only [go_sem, reduceIte, reduceCtorEq, Nat.reduceAdd, Nat.reduceMul, Nat.reduceSub, Nat.reduceLT, Nat.reduceLeDiff, Nat.reduceEqDiff, Int.reduceEq, Int.reduceLT, Int.reduceLE, Int.reduceNe, rem64, mask64, c_iu, wrapu_mod, bl_len, bl_take, bl_ren, bl_app, bl_one, bOf_bl, Nat.mul_one]; repeat (refine Vc.mk' ?_; simp only [go_sem, reduceIte, reduceCtorEq, Nat.reduceAdd, Nat.reduceMul, Nat.reduceSub, Nat.reduceLT, Nat.reduceLeDiff, Nat.reduceEqDiff, Int.reduceEq, Int.reduceLT, Int.reduceLE, Int.reduceNe, rem64, mask64, c_iu, wrapu_mod, bl_len, bl_take, bl_ren, bl_app, bl_one, bOf_bl, Nat.mul_one]))
  have hu := uptoW_ok (f := (· ||| ·)) (b := b) ha (fun i => or_lt (wn_lt ha i) (wn_lt hb i))
  refine CW.loopR (stBin hp top (· ||| ·) a b) (fun k => k ≤ 4) (fun k => 4 - k) 0 (by omega) ?_ ?_
  · exact SubR.mk' [top, top + 1, top + 2] hcl (by simp) (by simp) rfl (frSub_ok (by simp [frSub, lkG, ren, renL, renL_set, renL_ints, UpdOk.nil, UpdOk.cons, renOO_some, renO_cells, renO_map, renOO_mkOb, rn_base, rn_add, ren_mkSl, Enc.flat_ren, set_same, set_ne, sets_cons, sets_nil, Keep.set, Keep.setK, Keep.refl, bl_ren, show uptoW (· ||| ·) a b 0 = a from rfl, show bl zb = [.int .u64 0, .int .u64 0, .int .u64 0, .int .u64 0] from rfl])) (by simp [frSub, lkG, ren, renL, renL_set, renL_ints, UpdOk.nil, UpdOk.cons, renOO_some, renO_cells, renO_map, renOO_mkOb, rn_base, rn_add, ren_mkSl, Enc.flat_ren, set_same, set_ne, sets_cons, sets_nil, Keep.set, Keep.setK, Keep.refl, bl_ren, show uptoW (· ||| ·) a b 0 = a from rfl, show bl zb = [.int .u64 0, .int .u64 0, .int .u64 0, .int .u64 0] from rfl]) (by simp [frSub, lkG, ren, renL, renL_set, renL_ints, UpdOk.nil, UpdOk.cons, renOO_some, renO_cells, renO_map, renOO_mkOb, rn_base, rn_add, ren_mkSl, Enc.flat_ren, set_same, set_ne, sets_cons, sets_nil, Keep.set, Keep.setK, Keep.refl, bl_ren, show uptoW (· ||| ·) a b 0 = a from rfl, show bl zb = [.int .u64 0, .int .u64 0, .int .u64 0, .int .u64 0] from rfl])
  · rintro i hi
    by_cases hlt : i < 4
    · have h4 : (i : Int) < 4 := by omega
      have h3 : i ≤ 3 := by omega
      have ha1 := bl_get (hu i) hlt
      have hg : wn (uptoW (· ||| ·) a b i) i = wn a i := by rw [uptoW_get hi hlt]; simp
      rw [hg] at ha1
      refine CW.vc env1 [0, 1, 2, 3, 4, 5, 6, 7] (by kernel_rfl) ?_
      (simp only [go_sem, reduceIte, reduceCtorEq, Nat.reduceAdd, Nat.reduceMul, Nat.reduceSub, Nat.reduceLT, Nat.reduceLeDiff, Nat.reduceEqDiff, Int.reduceEq, Int.reduceLT, Int.reduceLE, Int.reduceNe, rem64, mask64, c_iu, wrapu_mod, bl_len, bl_take, bl_ren, bl_app, bl_one, bOf_bl, Nat.mul_one, stBin, hlt, h3, h4, ha1, bl_get hb hlt, bl_splice hlt, or_u64 (wn_lt ha i) (wn_lt hb i)]; repeat (refine Vc.mk' ?_; simp only [go_sem, reduceIte, reduceCtorEq, Nat.reduceAdd, Nat.reduceMul, Nat.reduceSub, Nat.reduceLT, Nat.reduceLeDiff, Nat.reduceEqDiff, Int.reduceEq, Int.reduceLT, Int.reduceLE, Int.reduceNe, rem64, mask64, c_iu, wrapu_mod, bl_len, bl_take, bl_ren, bl_app, bl_one, bOf_bl, Nat.mul_one, stBin, hlt, h3, h4, ha1, bl_get hb hlt, bl_splice hlt, or_u64 (wn_lt ha i) (wn_lt hb i)]))
      refine .mk (i + 1) hlt (by omega) (SubR.mk' [top, top + 1, top + 2] hcl (by simp) (by simp) rfl (frSub_ok (by simp [frSub, lkG, ren, renL, renL_set, renL_ints, UpdOk.nil, UpdOk.cons, renOO_some, renO_cells, renO_map, renOO_mkOb, rn_base, rn_add, ren_mkSl, Enc.flat_ren, set_same, set_ne, sets_cons, sets_nil, Keep.set, Keep.setK, Keep.refl, bl_ren, wrap_succ hlt (by decide), show uptoW (· ||| ·) a b (i + 1) = setw (uptoW (· ||| ·) a b i) i (wn a i ||| wn b i) from rfl])) (by simp [frSub, lkG, ren, renL, renL_set, renL_ints, UpdOk.nil, UpdOk.cons, renOO_some, renO_cells, renO_map, renOO_mkOb, rn_base, rn_add, ren_mkSl, Enc.flat_ren, set_same, set_ne, sets_cons, sets_nil, Keep.set, Keep.setK, Keep.refl, bl_ren, wrap_succ hlt (by decide), show uptoW (· ||| ·) a b (i + 1) = setw (uptoW (· ||| ·) a b i) i (wn a i ||| wn b i) from rfl]) (by simp [frSub, lkG, ren, renL, renL_set, renL_ints, UpdOk.nil, UpdOk.cons, renOO_some, renO_cells, renO_map, renOO_mkOb, rn_base, rn_add, ren_mkSl, Enc.flat_ren, set_same, set_ne, sets_cons, sets_nil, Keep.set, Keep.setK, Keep.refl, bl_ren, wrap_succ hlt (by decide), show uptoW (· ||| ·) a b (i + 1) = setw (uptoW (· ||| ·) a b i) i (wn a i ||| wn b i) from rfl]))
    · have hi4 : i = 4 := by omega
      have h4 : ¬ (i : Int) < 4 := by omega
      refine CW.vc env1 [0, 1, 2, 3, 4, 5, 6, 7] (by kernel_rfl) ?_
      (simp only [go_sem, reduceIte, reduceCtorEq, Nat.reduceAdd, Nat.reduceMul, Nat.reduceSub, Nat.reduceLT, Nat.reduceLeDiff, Nat.reduceEqDiff, Int.reduceEq, Int.reduceLT, Int.reduceLE, Int.reduceNe, rem64, mask64, c_iu, wrapu_mod, bl_len, bl_take, bl_ren, bl_app, bl_one, bOf_bl, Nat.mul_one, stBin, h4]; repeat (refine Vc.mk' ?_; simp only [go_sem, reduceIte, reduceCtorEq, Nat.reduceAdd, Nat.reduceMul, Nat.reduceSub, Nat.reduceLT, Nat.reduceLeDiff, Nat.reduceEqDiff, Int.reduceEq, Int.reduceLT, Int.reduceLE, Int.reduceNe, rem64, mask64, c_iu, wrapu_mod, bl_len, bl_take, bl_ren, bl_app, bl_one, bOf_bl, Nat.mul_one, stBin, h4]))
      rw [hi4]; rfl

theorem andnot_ok : ConOk Tryd.prog 24 (conBin andN) := by
  refine .mkRd fn24_ok ?_ ?_
  · rintro args hp h
    match args, h with
    | [_, _], ⟨⟨a, rfl, ha⟩, ⟨b, rfl, hb⟩⟩ => rfl
  intro args hp hpre top hcl hsc
  match args, hpre with
  | [_, _], ⟨⟨a, rfl, ha⟩, ⟨b, rfl, hb⟩⟩ =>
  refine CalledOk.of_fun tt_ok fn24_ok rfl 19 rfl [.cell 4 25] rfl (show 2 ≤ 19 by decide) ?_
  refine CW.vc env1 [0, 1, 2, 3, 4, 5, 6, 7] (by kernel_rfl) ?_
  (simp only [go_sem, reduceIte, reduceCtorEq, Nat.reduceAdd, Nat.reduceMul, Nat.reduceSub, Nat.reduceLT, Nat.reduceLeDiff, Nat.reduceEqDiff, Int.reduceEq, Int.reduceLT, Int.reduceLE, Int.reduceNe, rem64, mask64, c_iu, wrapu_mod, bl_len, bl_take, bl_ren, bl_app, bl_one, bOf_bl, Nat.mul_one]; repeat (refine Vc.mk' ?_; simp only [go_sem, reduceIte, reduceCtorEq, Nat.reduceAdd, Nat.reduceMul, Nat.reduceSub, Nat.reduceLT, Nat.reduceLeDiff, Nat.reduceEqDiff, Int.reduceEq, Int.reduceLT, Int.reduceLE, Int.reduceNe, rem64, mask64, c_iu, wrapu_mod, bl_len, bl_take, bl_ren, bl_app, bl_one, bOf_bl, Nat.mul_one]))
  have hu := uptoW_ok (f := andN) (b := b) ha (fun i => and_lt (wn_lt ha i))
  refine CW.loopR (stBin hp top andN a b) (fun k => k ≤ 4) (fun k => 4 - k) 0 (by omega) ?_ ?_
  · exact SubR.mk' [top, top + 1, top + 2] hcl (by simp) (by simp) rfl (frSub_ok (by simp [frSub, lkG, ren, renL, renL_set, renL_ints, UpdOk.nil, UpdOk.cons, renOO_some, renO_cells, renO_map, renOO_mkOb, rn_base, rn_add, ren_mkSl, Enc.flat_ren, set_same, set_ne, sets_cons, sets_nil, Keep.set, Keep.setK, Keep.refl, bl_ren, show uptoW andN a b 0 = a from rfl, show bl zb = [.int .u64 0, .int .u64 0, .int .u64 0, .int .u64 0] from rfl])) (by simp [frSub, lkG, ren, renL, renL_set, renL_ints, UpdOk.nil, UpdOk.cons, renOO_some, renO_cells, renO_map, renOO_mkOb, rn_base, rn_add, ren_mkSl, Enc.flat_ren, set_same, set_ne, sets_cons, sets_nil, Keep.set, Keep.setK, Keep.refl, bl_ren, show uptoW andN a b 0 = a from rfl, show bl zb = [.int .u64 0, .int .u64 0, .int .u64 0, .int .u64 0] from rfl]) (by simp [frSub, lkG, ren, renL, renL_set, renL_ints, UpdOk.nil, UpdOk.cons, renOO_some, renO_cells, renO_map, renOO_mkOb, rn_base, rn_add, ren_mkSl, Enc.flat_ren, set_same, set_ne, sets_cons, sets_nil, Keep.set, Keep.setK, Keep.refl, bl_ren, show uptoW andN a b 0 = a from rfl, show bl zb = [.int .u64 0, .int .u64 0, .int .u64 0, .int .u64 0] from rfl])
  · rintro i hi
    by_cases hlt : i < 4
    · have h4 : (i : Int) < 4 := by omega
      have h3 : i ≤ 3 := by omega
      have ha1 := bl_get (hu i) hlt
      have hg : wn (uptoW andN a b i) i = wn a i := by rw [uptoW_get hi hlt]; simp
      rw [hg] at ha1
      refine CW.vc env1 [0, 1, 2, 3, 4, 5, 6, 7] (by kernel_rfl) ?_
      (simp only [go_sem, reduceIte, reduceCtorEq, Nat.reduceAdd, Nat.reduceMul, Nat.reduceSub, Nat.reduceLT, Nat.reduceLeDiff, Nat.reduceEqDiff, Int.reduceEq, Int.reduceLT, Int.reduceLE, Int.reduceNe, rem64, mask64, c_iu, wrapu_mod, bl_len, bl_take, bl_ren, bl_app, bl_one, bOf_bl, Nat.mul_one, stBin, hlt, h3, h4, ha1, bl_get hb hlt, bl_splice hlt, andN_u64 (wn_lt ha i) (wn_lt hb i)]; repeat (refine Vc.mk' ?_; simp only [go_sem, reduceIte, reduceCtorEq, Nat.reduceAdd, Nat.reduceMul, Nat.reduceSub, Nat.reduceLT, Nat.reduceLeDiff, Nat.reduceEqDiff, Int.reduceEq, Int.reduceLT, Int.reduceLE, Int.reduceNe, rem64, mask64, c_iu, wrapu_mod, bl_len, bl_take, bl_ren, bl_app, bl_one, bOf_bl, Nat.mul_one, stBin, hlt, h3, h4, ha1, bl_get hb hlt, bl_splice hlt, andN_u64 (wn_lt ha i) (wn_lt hb i)]))
      refine .mk (i + 1) hlt (by omega) (SubR.mk' [top, top + 1, top + 2] hcl (by simp) (by simp) rfl (frSub_ok (by simp [frSub, lkG, ren, renL, renL_set, renL_ints, UpdOk.nil, UpdOk.cons, renOO_some, renO_cells, renO_map, renOO_mkOb, rn_base, rn_add, ren_mkSl, Enc.flat_ren, set_same, set_ne, sets_cons, sets_nil, Keep.set, Keep.setK, Keep.refl, bl_ren, wrap_succ hlt (by decide), show uptoW andN a b (i + 1) = setw (uptoW andN a b i) i (andN (wn a i) (wn b i)) from rfl])) (by simp [frSub, lkG, ren, renL, renL_set, renL_ints, UpdOk.nil, UpdOk.cons, renOO_some, renO_cells, renO_map, renOO_mkOb, rn_base, rn_add, ren_mkSl, Enc.flat_ren, set_same, set_ne, sets_cons, sets_nil, Keep.set, Keep.setK, Keep.refl, bl_ren, wrap_succ hlt (by decide), show uptoW andN a b (i + 1) = setw (uptoW andN a b i) i (andN (wn a i) (wn b i)) from rfl]) (by simp [frSub, lkG, ren, renL, renL_set, renL_ints, UpdOk.nil, UpdOk.cons, renOO_some, renO_cells, renO_map, renOO_mkOb, rn_base, rn_add, ren_mkSl, Enc.flat_ren, set_same, set_ne, sets_cons, sets_nil, Keep.set, Keep.setK, Keep.refl, bl_ren, wrap_succ hlt (by decide), show uptoW andN a b (i + 1) = setw (uptoW andN a b i) i (andN (wn a i) (wn b i)) from rfl]))
    · have hi4 : i = 4 := by omega
      have h4 : ¬ (i : Int) < 4 := by omega
      refine CW.vc env1 [0, 1, 2, 3, 4, 5, 6, 7] (by kernel_rfl) ?_
      (simp only [go_sem, reduceIte, reduceCtorEq, Nat.reduceAdd, Nat.reduceMul, Nat.reduceSub, Nat.reduceLT, Nat.reduceLeDiff, Nat.reduceEqDiff, Int.reduceEq, Int.reduceLT, Int.reduceLE, Int.reduceNe, rem64, mask64, c_iu, wrapu_mod, bl_len, bl_take, bl_ren, bl_app, bl_one, bOf_bl, Nat.mul_one, stBin, h4]; repeat (refine Vc.mk' ?_; simp only [go_sem, reduceIte, reduceCtorEq, Nat.reduceAdd, Nat.reduceMul, Nat.reduceSub, Nat.reduceLT, Nat.reduceLeDiff, Nat.reduceEqDiff, Int.reduceEq, Int.reduceLT, Int.reduceLE, Int.reduceNe, rem64, mask64, c_iu, wrapu_mod, bl_len, bl_take, bl_ren, bl_app, bl_one, bOf_bl, Nat.mul_one, stBin, h4]))
      rw [hi4]; rfl
end Go.Proofs.YtkofmbhopmgmhaaDoor.Dm
