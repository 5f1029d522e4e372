/- Lowest, List, With, Without: what they compute. -/
import Derived.Test.YtkofmbhopmgmhaaDoorBLL
set_option linter.unusedSimpArgs false
set_option linter.unusedVariables false
namespace Go.Proofs.YtkofmbhopmgmhaaDoor.Dm
open Go.Dm
set_option maxHeartbeats 4000000

theorem G10_tz : G10 50 = conTz := rfl
theorem G10_each : G10 42 = conEach := rfl
theorem G10_right : G10 45 = con1 rightB := rfl
theorem G10_one : G10 46 = conOne := rfl
/-! ### Lowest -/
def conLow : Con := .pure (fun args hp => match args with | [v] => IsBits v ∧ hp 0 = some tzO | _ => False) (fun args _ => match args with | [v] => .int .i64 (hd0 (lsB (bOf v))) | _ => undef)
def stLo (hp : Hp) (top : Nat) (b : T_Bits) (i : Nat) : SS := ⟨[(5, .agg ⟨bl b⟩, true), (6, .int .i64 (i : Int), true)], hp.sets [(top, some (.cells true 0 (bl b)))], top + 1⟩
theorem hd0_rest {b : T_Bits} {i : Nat} (hb : OkB b) (h : bitsL b = restL b i) (hi : i < 4) (hz : ¬ wn b i = 0) : hd0 (lsB b) = ((i * 64 + Lib.ctz 64 (wn b i) + 1 : Nat) : Int) := by
  have hc := ctz_lt hz (wn_lt hb i)
  have e : wl i (wd b i).toNat = _ := wl_step hz
  rw [← ls_eq hb, h, restL_step hi, e]
  show (toBn _).1 = _
  exact toBn_val ⟨by omega, by unfold wn at hc; omega⟩

theorem low_ok : ConOk Tryd.prog 28 conLow := by
  refine .mkRd fn28_ok ?_ ?_
  · rintro args hp h
    match args, h with
    | [_], ⟨⟨b, rfl, hb⟩, _⟩ => rfl
  intro args hp hpre top hcl hsc
  match args, hpre with
  | [_], ⟨⟨b, rfl, hb⟩, ht⟩ =>
  have ht0 := hcl.lt _ _ ht
  refine CalledOk.of_fun tt_ok fn28_ok rfl 19 rfl [.tmp 2] rfl (show 1 ≤ 19 by decide) ?_
  refine CW.vc env10 [0, 1, 2, 3, 4, 5, 6, 7, 11] (by kernel_rfl) ?_
  (simp (config := { maxSteps := 2000000 }) only [go_sem, reduceIte, reduceCtorEq, Nat.reduceAdd, Nat.reduceMul, Nat.reduceSub, Nat.reduceLT, Nat.reduceLeDiff, Nat.reduceEqDiff, Int.reduceEq, Int.reduceLT, Int.reduceLE, Int.reduceNe, rem64, mask64, c_iu, wrapu_mod, bl_len, bl_take, bl_ren, bl_app, bl_one, bOf_bl, Nat.mul_one]; repeat (refine Vc.mk' ?_; simp (config := { maxSteps := 2000000 }) only [go_sem, reduceIte, reduceCtorEq, Nat.reduceAdd, Nat.reduceMul, Nat.reduceSub, Nat.reduceLT, Nat.reduceLeDiff, Nat.reduceEqDiff, Int.reduceEq, Int.reduceLT, Int.reduceLE, Int.reduceNe, rem64, mask64, c_iu, wrapu_mod, bl_len, bl_take, bl_ren, bl_app, bl_one, bOf_bl, Nat.mul_one]))
  refine CW.loopR (stLo hp top b) (fun k => k ≤ 4 ∧ bitsL b = restL b k) (fun k => 4 - k) 0 ⟨by omega, rfl⟩ ?_ ?_
  · exact SubR.mk' [top] hcl (by simp) (by simp) rfl (frSub_ok (by simp [frSub, lkG, ren, renL, renL_set, renL_ints, UpdOk.nil, UpdOk.cons, renOO_some, renO_cells, renO_map, renOO_mkOb, rn_base, rn_add, ren_mkSl, Enc.flat_ren, set_same, set_ne, sets_cons, sets_nil, Keep.set, Keep.setK, Keep.refl, bl_ren])) (by simp [frSub, lkG, ren, renL, renL_set, renL_ints, UpdOk.nil, UpdOk.cons, renOO_some, renO_cells, renO_map, renOO_mkOb, rn_base, rn_add, ren_mkSl, Enc.flat_ren, set_same, set_ne, sets_cons, sets_nil, Keep.set, Keep.setK, Keep.refl, bl_ren]) (by simp [frSub, lkG, ren, renL, renL_set, renL_ints, UpdOk.nil, UpdOk.cons, renOO_some, renO_cells, renO_map, renOO_mkOb, rn_base, rn_add, ren_mkSl, Enc.flat_ren, set_same, set_ne, sets_cons, sets_nil, Keep.set, Keep.setK, Keep.refl, bl_ren])
  · rintro i ⟨hi, hm⟩
    by_cases hlt : i < 4
    · have h4 : (i : Int) < 4 := by omega
      have h3 : i ≤ 3 := by omega
      have hu : U64 (wn b i : Int) = True := eq_true ⟨by omega, by have := wn_lt hb i; omega⟩
      by_cases hz : wn b i = 0
      · have hz1 : ((wn b i : Nat) : Int) = 0 := by omega
        refine CW.vc env10 [0, 1, 2, 3, 4, 5, 6, 7, 11] (by kernel_rfl) ?_
        (simp (config := { maxSteps := 2000000 }) only [go_sem, reduceIte, reduceCtorEq, Nat.reduceAdd, Nat.reduceMul, Nat.reduceSub, Nat.reduceLT, Nat.reduceLeDiff, Nat.reduceEqDiff, Int.reduceEq, Int.reduceLT, Int.reduceLE, Int.reduceNe, rem64, mask64, c_iu, wrapu_mod, bl_len, bl_take, bl_ren, bl_app, bl_one, bOf_bl, Nat.mul_one, stLo, hlt, h3, h4, sindex, Int.toNat_natCast, bl_get hb hlt, hz1]; repeat (refine Vc.mk' ?_; simp (config := { maxSteps := 2000000 }) only [go_sem, reduceIte, reduceCtorEq, Nat.reduceAdd, Nat.reduceMul, Nat.reduceSub, Nat.reduceLT, Nat.reduceLeDiff, Nat.reduceEqDiff, Int.reduceEq, Int.reduceLT, Int.reduceLE, Int.reduceNe, rem64, mask64, c_iu, wrapu_mod, bl_len, bl_take, bl_ren, bl_app, bl_one, bOf_bl, Nat.mul_one, stLo, hlt, h3, h4, sindex, Int.toNat_natCast, bl_get hb hlt, hz1]))
        have e : wl i (wd b i).toNat = [] := by show wl i (wn b i) = []; rw [hz, wl_zero]
        refine .mk (i + 1) ⟨hlt, by rw [hm, restL_step hlt, e]; rfl⟩ (by omega) (SubR.mk' [top] hcl (by simp) (by simp) rfl (frSub_ok (by simp [frSub, lkG, ren, renL, renL_set, renL_ints, UpdOk.nil, UpdOk.cons, renOO_some, renO_cells, renO_map, renOO_mkOb, rn_base, rn_add, ren_mkSl, Enc.flat_ren, set_same, set_ne, sets_cons, sets_nil, Keep.set, Keep.setK, Keep.refl, bl_ren, wrap_succ hlt (by decide)])) (by simp [frSub, lkG, ren, renL, renL_set, renL_ints, UpdOk.nil, UpdOk.cons, renOO_some, renO_cells, renO_map, renOO_mkOb, rn_base, rn_add, ren_mkSl, Enc.flat_ren, set_same, set_ne, sets_cons, sets_nil, Keep.set, Keep.setK, Keep.refl, bl_ren, wrap_succ hlt (by decide)]) (by simp [frSub, lkG, ren, renL, renL_set, renL_ints, UpdOk.nil, UpdOk.cons, renOO_some, renO_cells, renO_map, renOO_mkOb, rn_base, rn_add, ren_mkSl, Enc.flat_ren, set_same, set_ne, sets_cons, sets_nil, Keep.set, Keep.setK, Keep.refl, bl_ren, wrap_succ hlt (by decide)]))
      · have hz1 : ¬ ((wn b i : Nat) : Int) = 0 := by omega
        have hc := ctz_lt hz (wn_lt hb i)
        have w1 : wrapA .i64 ((i : Int) * 64) = (i : Int) * 64 := by rw [wrap64 (by omega) (by omega)]
        have w2 : wrapA .i64 ((i : Int) * 64 + (Lib.ctz 64 (wn b i) : Int)) = (i : Int) * 64 + (Lib.ctz 64 (wn b i) : Int) := by rw [wrap64 (by omega) (by omega)]
        have w3 : wrapA .i64 ((i : Int) * 64 + (Lib.ctz 64 (wn b i) : Int) + 1) = hd0 (lsB b) := by rw [hd0_rest hb hm hlt hz, wrap64 (by omega) (by omega)]; omega
        refine CW.vc env10 [0, 1, 2, 3, 4, 5, 6, 7, 11] (by kernel_rfl) ?_
        (simp (config := { maxSteps := 2000000 }) only [go_sem, reduceIte, reduceCtorEq, Nat.reduceAdd, Nat.reduceMul, Nat.reduceSub, Nat.reduceLT, Nat.reduceLeDiff, Nat.reduceEqDiff, Int.reduceEq, Int.reduceLT, Int.reduceLE, Int.reduceNe, rem64, mask64, c_iu, wrapu_mod, bl_len, bl_take, bl_ren, bl_app, bl_one, bOf_bl, Nat.mul_one, stLo, hlt, h3, h4, sindex, Int.toNat_natCast, bl_get hb hlt, hz1, hu, G10_tz, conTz, set_lt ht0, ht, w1, w2, w3]; repeat (refine Vc.mk' ?_; simp (config := { maxSteps := 2000000 }) only [go_sem, reduceIte, reduceCtorEq, Nat.reduceAdd, Nat.reduceMul, Nat.reduceSub, Nat.reduceLT, Nat.reduceLeDiff, Nat.reduceEqDiff, Int.reduceEq, Int.reduceLT, Int.reduceLE, Int.reduceNe, rem64, mask64, c_iu, wrapu_mod, bl_len, bl_take, bl_ren, bl_app, bl_one, bOf_bl, Nat.mul_one, stLo, hlt, h3, h4, sindex, Int.toNat_natCast, bl_get hb hlt, hz1, hu, G10_tz, conTz, set_lt ht0, ht, w1, w2, w3]))
    · have hi4 : i = 4 := by omega
      have h4 : ¬ (i : Int) < 4 := by omega
      refine CW.vc env10 [0, 1, 2, 3, 4, 5, 6, 7, 11] (by kernel_rfl) ?_
      (simp (config := { maxSteps := 2000000 }) only [go_sem, reduceIte, reduceCtorEq, Nat.reduceAdd, Nat.reduceMul, Nat.reduceSub, Nat.reduceLT, Nat.reduceLeDiff, Nat.reduceEqDiff, Int.reduceEq, Int.reduceLT, Int.reduceLE, Int.reduceNe, rem64, mask64, c_iu, wrapu_mod, bl_len, bl_take, bl_ren, bl_app, bl_one, bOf_bl, Nat.mul_one, stLo, h4]; repeat (refine Vc.mk' ?_; simp (config := { maxSteps := 2000000 }) only [go_sem, reduceIte, reduceCtorEq, Nat.reduceAdd, Nat.reduceMul, Nat.reduceSub, Nat.reduceLT, Nat.reduceLeDiff, Nat.reduceEqDiff, Int.reduceEq, Int.reduceLT, Int.reduceLE, Int.reduceNe, rem64, mask64, c_iu, wrapu_mod, bl_len, bl_take, bl_ren, bl_app, bl_one, bOf_bl, Nat.mul_one, stLo, h4]))
      rw [← ls_eq hb, hm, hi4]; rfl
/-! ### Without -/
def pairB (c : Bool) (x : T_Bits) : Value := .tuple ⟨[.agg ⟨bl (if c then x else zb)⟩, .int .i64 (if c then 0 else 2)]⟩
theorem pairB_t {x : T_Bits} : pairB true x = .tuple ⟨[.agg ⟨bl x⟩, .int .i64 0]⟩ := rfl
theorem pairB_f {x : T_Bits} : pairB false x = .tuple ⟨[.agg ⟨bl zb⟩, .int .i64 2]⟩ := rfl
def conSet (f : T_Bits → Nat → T_Bits) : Con := .pure (fun args _ => match args with | [v, .int .i64 _] => IsBits v | _ => False) (fun args _ => match args with | [v, n] => pairB (rightB (intOf n)) (f (bOf v) (intOf n - 1).toNat) | _ => undef)

theorem without_ok : ConOk Tryd.prog 30 (conSet delB) := by
  refine .mkRd fn30_ok ?_ ?_
  · rintro args hp h
    match args, h with
    | [_, .int .i64 n], ⟨b, rfl, hb⟩ => rfl
  intro args hp hpre top hcl hsc
  match args, hpre with
  | [_, .int .i64 n], ⟨b, rfl, hb⟩ =>
  refine CalledOk.of_fun tt_ok fn30_ok rfl 24 rfl [.cell 4 25, .tmp 5] rfl (show 2 ≤ 24 by decide) ?_
  simp only [intOf_int, bOf_bl]
  cases hr : rightB n with
  | false =>
    refine CW.vc env10 [0, 1, 2, 4, 5, 6, 7, 10] (by kernel_rfl) ?_
    (simp (config := { maxSteps := 2000000 }) only [go_sem, reduceIte, reduceCtorEq, Nat.reduceAdd, Nat.reduceMul, Nat.reduceSub, Nat.reduceLT, Nat.reduceLeDiff, Nat.reduceEqDiff, Int.reduceEq, Int.reduceLT, Int.reduceLE, Int.reduceNe, rem64, mask64, c_iu, wrapu_mod, bl_len, bl_take, bl_ren, bl_app, bl_one, bOf_bl, Nat.mul_one, G10_right, G10_one, con1, conOne, hr, pairB_f]; repeat (refine Vc.mk' ?_; simp (config := { maxSteps := 2000000 }) only [go_sem, reduceIte, reduceCtorEq, Nat.reduceAdd, Nat.reduceMul, Nat.reduceSub, Nat.reduceLT, Nat.reduceLeDiff, Nat.reduceEqDiff, Int.reduceEq, Int.reduceLT, Int.reduceLE, Int.reduceNe, rem64, mask64, c_iu, wrapu_mod, bl_len, bl_take, bl_ren, bl_app, bl_one, bOf_bl, Nat.mul_one, G10_right, G10_one, con1, conOne, hr, pairB_f]))
    rfl
  | true =>
    have hr1 := hr
    simp only [rightB, Bool.and_eq_true, decide_eq_true_eq] at hr1
    obtain ⟨h1, h2⟩ := hr1
    obtain ⟨k, rfl⟩ : ∃ k : Nat, n = (k : Int) + 1 := ⟨(n - 1).toNat, by omega⟩
    have hk : k < 256 := by omega
    have h4 : k / 64 < 4 := by omega
    have h5 : k / 64 ≤ 3 := by omega
    have ea : bitsI .andNot .u64 ((wn b (k / 64) : Nat) : Int) (bitM k) = ((andN (wn b (k / 64)) (2 ^ (k % 64)) : Nat) : Int) := andN_u64 (wn_lt hb _) (pow_lt (Nat.mod_lt _ (by decide)))
    refine CW.vc env10 [0, 1, 2, 4, 5, 6, 7, 10] (by kernel_rfl) ?_
    (simp (config := { maxSteps := 2000000 }) only [go_sem, reduceIte, reduceCtorEq, Nat.reduceAdd, Nat.reduceMul, Nat.reduceSub, Nat.reduceLT, Nat.reduceLeDiff, Nat.reduceEqDiff, Int.reduceEq, Int.reduceLT, Int.reduceLE, Int.reduceNe, rem64, mask64, c_iu, wrapu_mod, bl_len, bl_take, bl_ren, bl_app, bl_one, bOf_bl, Nat.mul_one, G10_right, G10_one, con1, conOne, hr, h1, h2, kp1, h4, h5, bl_get hb h4, bl_splice h4, ea, pairB_t]; repeat (refine Vc.mk' ?_; simp (config := { maxSteps := 2000000 }) only [go_sem, reduceIte, reduceCtorEq, Nat.reduceAdd, Nat.reduceMul, Nat.reduceSub, Nat.reduceLT, Nat.reduceLeDiff, Nat.reduceEqDiff, Int.reduceEq, Int.reduceLT, Int.reduceLE, Int.reduceNe, rem64, mask64, c_iu, wrapu_mod, bl_len, bl_take, bl_ren, bl_app, bl_one, bOf_bl, Nat.mul_one, G10_right, G10_one, con1, conOne, hr, h1, h2, kp1, h4, h5, bl_get hb h4, bl_splice h4, ea, pairB_t]))
    rfl

theorem with_ok : ConOk Tryd.prog 38 (conSet putB) := by
  refine .mkRd fn38_ok ?_ ?_
  · rintro args hp h
    match args, h with
    | [_, .int .i64 n], ⟨b, rfl, hb⟩ => rfl
  intro args hp hpre top hcl hsc
  match args, hpre with
  | [_, .int .i64 n], ⟨b, rfl, hb⟩ =>
  refine CalledOk.of_fun tt_ok fn38_ok rfl 24 rfl [.cell 4 25, .tmp 5] rfl (show 2 ≤ 24 by decide) ?_
  simp only [intOf_int, bOf_bl]
  cases hr : rightB n with
  | false =>
    refine CW.vc env10 [0, 1, 2, 4, 5, 6, 7, 10] (by kernel_rfl) ?_
    (simp (config := { maxSteps := 2000000 }) only [go_sem, reduceIte, reduceCtorEq, Nat.reduceAdd, Nat.reduceMul, Nat.reduceSub, Nat.reduceLT, Nat.reduceLeDiff, Nat.reduceEqDiff, Int.reduceEq, Int.reduceLT, Int.reduceLE, Int.reduceNe, rem64, mask64, c_iu, wrapu_mod, bl_len, bl_take, bl_ren, bl_app, bl_one, bOf_bl, Nat.mul_one, G10_right, G10_one, con1, conOne, hr, pairB_f]; repeat (refine Vc.mk' ?_; simp (config := { maxSteps := 2000000 }) only [go_sem, reduceIte, reduceCtorEq, Nat.reduceAdd, Nat.reduceMul, Nat.reduceSub, Nat.reduceLT, Nat.reduceLeDiff, Nat.reduceEqDiff, Int.reduceEq, Int.reduceLT, Int.reduceLE, Int.reduceNe, rem64, mask64, c_iu, wrapu_mod, bl_len, bl_take, bl_ren, bl_app, bl_one, bOf_bl, Nat.mul_one, G10_right, G10_one, con1, conOne, hr, pairB_f]))
    rfl
  | true =>
    have hr1 := hr
    simp only [rightB, Bool.and_eq_true, decide_eq_true_eq] at hr1
    obtain ⟨h1, h2⟩ := hr1
    obtain ⟨k, rfl⟩ : ∃ k : Nat, n = (k : Int) + 1 := ⟨(n - 1).toNat, by omega⟩
    have hk : k < 256 := by omega
    have h4 : k / 64 < 4 := by omega
    have h5 : k / 64 ≤ 3 := by omega
    have ea : bitsI .or .u64 ((wn b (k / 64) : Nat) : Int) (bitM k) = ((wn b (k / 64) ||| 2 ^ (k % 64) : Nat) : Int) := or_u64 (wn_lt hb _) (pow_lt (Nat.mod_lt _ (by decide)))
    refine CW.vc env10 [0, 1, 2, 4, 5, 6, 7, 10] (by kernel_rfl) ?_
    (simp (config := { maxSteps := 2000000 }) only [go_sem, reduceIte, reduceCtorEq, Nat.reduceAdd, Nat.reduceMul, Nat.reduceSub, Nat.reduceLT, Nat.reduceLeDiff, Nat.reduceEqDiff, Int.reduceEq, Int.reduceLT, Int.reduceLE, Int.reduceNe, rem64, mask64, c_iu, wrapu_mod, bl_len, bl_take, bl_ren, bl_app, bl_one, bOf_bl, Nat.mul_one, G10_right, G10_one, con1, conOne, hr, h1, h2, kp1, h4, h5, bl_get hb h4, bl_splice h4, ea, pairB_t]; repeat (refine Vc.mk' ?_; simp (config := { maxSteps := 2000000 }) only [go_sem, reduceIte, reduceCtorEq, Nat.reduceAdd, Nat.reduceMul, Nat.reduceSub, Nat.reduceLT, Nat.reduceLeDiff, Nat.reduceEqDiff, Int.reduceEq, Int.reduceLT, Int.reduceLE, Int.reduceNe, rem64, mask64, c_iu, wrapu_mod, bl_len, bl_take, bl_ren, bl_app, bl_one, bOf_bl, Nat.mul_one, G10_right, G10_one, con1, conOne, hr, h1, h2, kp1, h4, h5, bl_get hb h4, bl_splice h4, ea, pairB_t]))
    rfl
/-! ### List -/
def S6 (hp : Hp) (top : Nat) (b : T_Bits) (pre : List Bn) : Hp × Nat := (hp.sets [(top, some (.cells true 0 (bl b))), (top + 1, some (.cells true 0 [mkSl (top + 3) (valB pre)])), (top + 2, some (.cells true 0 (bl b))), (top + 3, mkOb e_int (valB pre))], top + 4)
def conList : Con := .det (fun args hp _ => match args with | [v] => IsBits v ∧ hp 0 = some tzO | _ => False) (fun args _ top => match args with | [v] => (mkSl top (lsB (bOf v)), [(top, mkOb e_int (lsB (bOf v)))], top + 1) | _ => (undef, [], top))
theorem valB_len (l : List Bn) : (valB l).length = l.length := by simp [valB]
theorem valB_snoc (l : List Bn) (x : Bn) : valB (l ++ [x]) = valB l ++ [x.1] := by simp [valB]

theorem list_ok : ConOk Tryd.prog 27 conList := by
  refine .mkDet fn27_ok ?_
  intro args hp top hpre hcl hsc
  match args, hpre with
  | [_], ⟨⟨b, rfl, hb⟩, ht⟩ =>
  simp only [bOf_bl]
  have hIb := isBits_bl hb
  have ht0 := hcl.lt _ _ ht
  refine CalledOk.of_funT tt_ok fn27_ok rfl 13 rfl [.tmp 2] rfl (show 1 ≤ 13 by decide) ?_
  refine CT.seq (CT.of (CW.vc env10 [0, 1, 2, 3, 4, 6] (by kernel_rfl) ?_))
  (simp (config := { maxSteps := 2000000 }) only [go_sem, reduceIte, reduceCtorEq, Nat.reduceAdd, Nat.reduceMul, Nat.reduceSub, Nat.reduceLT, Nat.reduceLeDiff, Nat.reduceEqDiff, Int.reduceEq, Int.reduceLT, Int.reduceLE, Int.reduceNe, rem64, mask64, c_iu, wrapu_mod, bl_len, bl_take, bl_ren, bl_app, bl_one, bOf_bl, Nat.mul_one, G10_each, conEach, hIb]; repeat (refine Vc.mk' ?_; simp (config := { maxSteps := 2000000 }) only [go_sem, reduceIte, reduceCtorEq, Nat.reduceAdd, Nat.reduceMul, Nat.reduceSub, Nat.reduceLT, Nat.reduceLeDiff, Nat.reduceEqDiff, Int.reduceEq, Int.reduceLT, Int.reduceLE, Int.reduceNe, rem64, mask64, c_iu, wrapu_mod, bl_len, bl_take, bl_ren, bl_app, bl_one, bOf_bl, Nat.mul_one, G10_each, conEach, hIb]))
  refine CT.seq (CT.of (CW.vc env10 [0, 1, 2, 3, 4, 6] (by kernel_rfl) ?_))
  (simp (config := { maxSteps := 2000000 }) only [go_sem, reduceIte, reduceCtorEq, Nat.reduceAdd, Nat.reduceMul, Nat.reduceSub, Nat.reduceLT, Nat.reduceLeDiff, Nat.reduceEqDiff, Int.reduceEq, Int.reduceLT, Int.reduceLE, Int.reduceNe, rem64, mask64, c_iu, wrapu_mod, bl_len, bl_take, bl_ren, bl_app, bl_one, bOf_bl, Nat.mul_one, G10_each, conEach, hIb]; repeat (refine Vc.mk' ?_; simp (config := { maxSteps := 2000000 }) only [go_sem, reduceIte, reduceCtorEq, Nat.reduceAdd, Nat.reduceMul, Nat.reduceSub, Nat.reduceLT, Nat.reduceLeDiff, Nat.reduceEqDiff, Int.reduceEq, Int.reduceLT, Int.reduceLE, Int.reduceNe, rem64, mask64, c_iu, wrapu_mod, bl_len, bl_take, bl_ren, bl_app, bl_one, bOf_bl, Nat.mul_one, G10_each, conEach, hIb]))
  refine CT.seq (CT.seq (CT.of (CW.vc env10 [0, 1, 2, 3, 4, 6] (by kernel_rfl) ?_)))
  (simp (config := { maxSteps := 2000000 }) only [go_sem, reduceIte, reduceCtorEq, Nat.reduceAdd, Nat.reduceMul, Nat.reduceSub, Nat.reduceLT, Nat.reduceLeDiff, Nat.reduceEqDiff, Int.reduceEq, Int.reduceLT, Int.reduceLE, Int.reduceNe, rem64, mask64, c_iu, wrapu_mod, bl_len, bl_take, bl_ren, bl_app, bl_one, bOf_bl, Nat.mul_one, G10_each, conEach, hIb]; repeat (refine Vc.mk' ?_; simp (config := { maxSteps := 2000000 }) only [go_sem, reduceIte, reduceCtorEq, Nat.reduceAdd, Nat.reduceMul, Nat.reduceSub, Nat.reduceLT, Nat.reduceLeDiff, Nat.reduceEqDiff, Int.reduceEq, Int.reduceLT, Int.reduceLE, Int.reduceNe, rem64, mask64, c_iu, wrapu_mod, bl_len, bl_take, bl_ren, bl_app, bl_one, bOf_bl, Nat.mul_one, G10_each, conEach, hIb]))
  refine CT.block ?_
  refine CT.range (g := .tmp 6) (p := 7) (q := 4) (Sd := fun xs => xs = bitsL b) (Sp := fun pre => pre <+: bitsL b) (N := (bitsL b).length) tt_ok Tryd.f55 (by kernel_rfl) fn55_ok.toFTOk (top + 3) ?hb1
    [(1, .pointer (some ⟨top, 0, none⟩), true), (3, .pointer (some ⟨top + 1, 0, none⟩), true), (6, eachF (top + 2), true)] (S6 hp top b) (fun _ _ _ => False) encB (fun _ => rfl) ?hp ?hq ?ho ?hd ?hgd [.pointer (some ⟨top + 2, 0, none⟩)] rfl
    ?h0 ?ht ?hfr ?hfl ?hfX tzT ?hT tzT_put ?hit ?hround ?hdone ?hret ?hexit
  case hb1 => exact Nat.le_add_right _ _
  case ho => rfl
  case hd => rfl
  case hgd => rfl
  case hp => decide
  case hq => decide
  case h0 => exact SubR.mk' [top, top + 1, top + 2, top + 3] hcl (by simp) (by simp) rfl (frSub_ok (by simp [frSub, lkG, ren, renL, renL_set, renL_ints, UpdOk.nil, UpdOk.cons, renOO_some, renO_cells, renO_map, renOO_mkOb, rn_base, rn_add, ren_mkSl, Enc.flat_ren, set_same, set_ne, sets_cons, sets_nil, Keep.set, Keep.setK, Keep.refl, bl_ren, eachF, show valB [] = [] from rfl, mkSl_nil, mkOb_nil])) (by simp [frSub, lkG, ren, renL, renL_set, renL_ints, UpdOk.nil, UpdOk.cons, renOO_some, renO_cells, renO_map, renOO_mkOb, rn_base, rn_add, ren_mkSl, Enc.flat_ren, set_same, set_ne, sets_cons, sets_nil, Keep.set, Keep.setK, Keep.refl, bl_ren, eachF, show valB [] = [] from rfl, mkSl_nil, mkOb_nil]) (by simp [frSub, lkG, ren, renL, renL_set, renL_ints, UpdOk.nil, UpdOk.cons, renOO_some, renO_cells, renO_map, renOO_mkOb, rn_base, rn_add, ren_mkSl, Enc.flat_ren, set_same, set_ne, sets_cons, sets_nil, Keep.set, Keep.setK, Keep.refl, bl_ren, eachF, show valB [] = [] from rfl, mkSl_nil, mkOb_nil])
  case ht => exact fun pre => Nat.le_succ _
  case hfr => exact scN.of (by simp [scN, Sc, ScL, eachF])
  case hfl =>
    refine fun pre => flat_sets hcl (by omega) ?_ (by simp)
    intro p hp' o e
    simp only [List.mem_cons, List.not_mem_nil, or_false] at hp'
    rcases hp' with rfl | rfl | rfl | rfl
    · cases e; trivial
    · cases e; trivial
    · cases e; trivial
    · exact mkOb_isC o e
  case hfX => exact fun _ _ _ h => h.elim
  case hT =>
    intro pre φ own W H
    refine tzT_of H ?_
    show hp.sets _ 0 = _
    rw [sets_low _ _ _ (by simp; omega)]; exact ht
  case hit =>
    intro φ own W caps' hV H
    exact each_stops b hb (by show hp.sets _ 0 = _; rw [sets_low _ _ _ (by simp; omega)]; exact ht) (gb := top + 2) (rw := true) (by simp [S6, sets_cons, sets_nil, set_same, set_ne, bl]) hV H
  case hround =>
    intro pre x hlen
    refine CW.vc env10 [0, 1, 2, 3, 4, 6] (by kernel_rfl) ?_
    have hll : (valB pre).length < 16777216 := by have := bitsL_len hb; rw [valB_len]; omega
    have hll2 : pre.length < 16777216 := by have := bitsL_len hb; omega
    (simp (config := { maxSteps := 2000000 }) only [go_sem, reduceIte, reduceCtorEq, Nat.reduceAdd, Nat.reduceMul, Nat.reduceSub, Nat.reduceLT, Nat.reduceLeDiff, Nat.reduceEqDiff, Int.reduceEq, Int.reduceLT, Int.reduceLE, Int.reduceNe, rem64, mask64, c_iu, wrapu_mod, bl_len, bl_take, bl_ren, bl_app, bl_one, bOf_bl, Nat.mul_one, S6, encB, hll]; repeat (refine Vc.mk' ?_; simp (config := { maxSteps := 2000000 }) only [go_sem, reduceIte, reduceCtorEq, Nat.reduceAdd, Nat.reduceMul, Nat.reduceSub, Nat.reduceLT, Nat.reduceLeDiff, Nat.reduceEqDiff, Int.reduceEq, Int.reduceLT, Int.reduceLE, Int.reduceNe, rem64, mask64, c_iu, wrapu_mod, bl_len, bl_take, bl_ren, bl_app, bl_one, bOf_bl, Nat.mul_one, S6, encB, hll]))
    have e0 : top < top + 3 := by omega
    have e1 : top + 1 < top + 3 := by omega
    have e2 : top + 2 < top + 3 := by omega
    refine SubR.mk' (hp := hp) [top + 5] (clUp hcl (by omega)) (by simp) (by simp) rfl (frSub_ok (by simp [frSub, lkG, ren, renL, renL_set, renL_ints, UpdOk.nil, UpdOk.cons, renOO_some, renO_cells, renO_map, renOO_mkOb, rn_base, rn_add, ren_mkSl, Enc.flat_ren, set_same, set_ne, sets_cons, sets_nil, Keep.set, Keep.setK, Keep.refl])) (by simp [frSub, lkG, ren, renL, renL_set, renL_ints, UpdOk.nil, UpdOk.cons, renOO_some, renO_cells, renO_map, renOO_mkOb, rn_base, rn_add, ren_mkSl, Enc.flat_ren, set_same, set_ne, sets_cons, sets_nil, Keep.set, Keep.setK, Keep.refl]) ?_
    simp [frSub, lkG, ren, renL, renL_set, renL_ints, UpdOk.nil, UpdOk.cons, renOO_some, renO_cells, renO_map, renOO_mkOb, rn_base, rn_add, ren_mkSl, Enc.flat_ren, set_same, set_ne, sets_cons, sets_nil, Keep.set, Keep.setK, Keep.refl, bl_ren, rn_low e0, rn_low e1, rn_low e2, valB_snoc]
  case hdone =>
    rintro xs rfl
    refine CT.of (CW.vc env10 [0, 1, 2, 3, 4, 6] (by kernel_rfl) ?_)
    rw [← ls_eq hb]
    (simp (config := { maxSteps := 2000000 }) only [go_sem, reduceIte, reduceCtorEq, Nat.reduceAdd, Nat.reduceMul, Nat.reduceSub, Nat.reduceLT, Nat.reduceLeDiff, Nat.reduceEqDiff, Int.reduceEq, Int.reduceLT, Int.reduceLE, Int.reduceNe, rem64, mask64, c_iu, wrapu_mod, bl_len, bl_take, bl_ren, bl_app, bl_one, bOf_bl, Nat.mul_one, S6]; repeat (refine Vc.mk' ?_; simp (config := { maxSteps := 2000000 }) only [go_sem, reduceIte, reduceCtorEq, Nat.reduceAdd, Nat.reduceMul, Nat.reduceSub, Nat.reduceLT, Nat.reduceLeDiff, Nat.reduceEqDiff, Int.reduceEq, Int.reduceLT, Int.reduceLE, Int.reduceNe, rem64, mask64, c_iu, wrapu_mod, bl_len, bl_take, bl_ren, bl_app, bl_one, bOf_bl, Nat.mul_one, S6]))
    exact ⟨[top + 3], by simp, by simp, by simp, by simp [frSub, lkG, ren, renL, renL_set, renL_ints, UpdOk.nil, UpdOk.cons, renOO_some, renO_cells, renO_map, renOO_mkOb, rn_base, rn_add, ren_mkSl, Enc.flat_ren, set_same, set_ne, sets_cons, sets_nil, Keep.set, Keep.setK, Keep.refl], by simp [frSub, lkG, ren, renL, renL_set, renL_ints, UpdOk.nil, UpdOk.cons, renOO_some, renO_cells, renO_map, renOO_mkOb, rn_base, rn_add, ren_mkSl, Enc.flat_ren, set_same, set_ne, sets_cons, sets_nil, Keep.set, Keep.setK, Keep.refl], by simp [frSub, lkG, ren, renL, renL_set, renL_ints, UpdOk.nil, UpdOk.cons, renOO_some, renO_cells, renO_map, renOO_mkOb, rn_base, rn_add, ren_mkSl, Enc.flat_ren, set_same, set_ne, sets_cons, sets_nil, Keep.set, Keep.setK, Keep.refl]⟩
  case hret => exact fun _ _ _ h => h.elim
  case hexit => exact fun _ _ _ _ h => h.elim
def G11 := addG (addG (addG (addG G10 28 conLow) 30 (conSet delB)) 38 (conSet putB)) 27 conList
theorem env11 : EnvV Tryd.prog tt.get G11 := (((env10.add low_ok).add without_ok).add with_ok).add list_ok
end Go.Proofs.YtkofmbhopmgmhaaDoor.Dm
