/- The document's answer for one bit string: List, Lowest, Count, Below, With, Without, Number, Text. -/
import Derived.Test.YtkofmbhopmgmhaaDoorBLC
import Derived.Lib.ItoaMem
set_option linter.unusedSimpArgs false
set_option linter.unusedVariables false
namespace Go.Proofs.YtkofmbhopmgmhaaDoor.Dm
open Go.Dm
set_option maxHeartbeats 8000000
theorem G11_rright : G11 47 = con1 rightB := rfl
theorem G11_rhas : G11 31 = conHas := rfl
theorem G11_put : G11 48 = conPut := rfl
/-! ### List -/
def conRList : Con := .det (fun args _ _ => match args with | [v] => IsBits v | _ => False) (fun args _ top => match args with | [v] => (mkSl top (lsB (bOf v)), [(top, mkOb e_int (lsB (bOf v)))], top + 1) | _ => (undef, [], top))
def stRL (hp : Hp) (top : Nat) (b : T_Bits) (k : Nat) : SS := ⟨[(1, .pointer (some ⟨top, 0, none⟩), true), (3, mkSl (top + 1) (lsN b k), true), (4, .int .i64 ((k : Int) + 1), true)], hp.sets [(top, some (.cells true 0 (bl b))), (top + 1, mkOb e_int (lsN b k))], top + 2⟩

theorem rlist_ok : ConOk Tryd.prog 41 conRList := by
  refine .mkDet fn41_ok ?_
  intro args hp top hpre hcl hsc
  match args, hpre with
  | [_], ⟨b, rfl, hb⟩ =>
  simp only [bOf_bl]
  have hI := isBits_bl hb
  refine CalledOk.of_fun tt_ok fn41_ok rfl 17 rfl [.tmp 2] rfl (show 1 ≤ 17 by decide) ?_
  refine CW.vc env11 [0, 1, 2, 3, 4, 6, 11] (by kernel_rfl) ?_
  (simp (config := { maxSteps := 4000000 }) only [go_sem, reduceIte, reduceCtorEq, Nat.reduceAdd, Nat.reduceMul, Nat.reduceSub, Nat.reduceLT, Nat.reduceLeDiff, Nat.reduceEqDiff, Int.reduceEq, Int.reduceLT, Int.reduceLE, Int.reduceNe, rem64, mask64, c_iu, wrapu_mod, bl_len, bl_take, bl_ren, bl_app, bl_one, bOf_bl, Nat.mul_one, G11_rright, G11_rhas, G11_put, con1, conHas, conPut]; repeat (refine Vc.mk' ?_; simp (config := { maxSteps := 4000000 }) only [go_sem, reduceIte, reduceCtorEq, Nat.reduceAdd, Nat.reduceMul, Nat.reduceSub, Nat.reduceLT, Nat.reduceLeDiff, Nat.reduceEqDiff, Int.reduceEq, Int.reduceLT, Int.reduceLE, Int.reduceNe, rem64, mask64, c_iu, wrapu_mod, bl_len, bl_take, bl_ren, bl_app, bl_one, bOf_bl, Nat.mul_one, G11_rright, G11_rhas, G11_put, con1, conHas, conPut]))
  refine CW.loopR (stRL hp top b) (fun k => k ≤ 256) (fun k => 256 - k) 0 (by omega) ?_ ?_
  · exact SubR.mk' [top, top + 1] hcl (by simp) (by simp) rfl (frSub_ok (by simp [frSub, lkG, ren, renL, renL_set, renL_ints, UpdOk.nil, UpdOk.cons, renOO_some, renO_cells, renO_map, renOO_mkOb, rn_base, rn_add, ren_mkSl, Enc.flat_ren, set_same, set_ne, sets_cons, sets_nil, Keep.set, Keep.setK, Keep.refl, bl_ren, show lsN b 0 = [] from rfl, mkSl_nil, mkOb_nil])) (by simp [frSub, lkG, ren, renL, renL_set, renL_ints, UpdOk.nil, UpdOk.cons, renOO_some, renO_cells, renO_map, renOO_mkOb, rn_base, rn_add, ren_mkSl, Enc.flat_ren, set_same, set_ne, sets_cons, sets_nil, Keep.set, Keep.setK, Keep.refl, bl_ren, show lsN b 0 = [] from rfl, mkSl_nil, mkOb_nil]) (by simp [frSub, lkG, ren, renL, renL_set, renL_ints, UpdOk.nil, UpdOk.cons, renOO_some, renO_cells, renO_map, renOO_mkOb, rn_base, rn_add, ren_mkSl, Enc.flat_ren, set_same, set_ne, sets_cons, sets_nil, Keep.set, Keep.setK, Keep.refl, bl_ren, show lsN b 0 = [] from rfl, mkSl_nil, mkOb_nil])
  · intro k hi
    by_cases hlt : k < 256
    · have h4 : (k : Int) + 1 ≤ 256 := by omega
      have h6 : ¬ (256 : Int) < (k : Int) + 1 := by omega
      have hl := lsN_len (b := b) k
      have hll : (lsN b k).length < 16777216 := by omega
      have hs := lsN_succ (b := b) (n := k)
      cases hA : hasB b k with
      | true =>
        rw [hA, if_pos rfl] at hs
        refine CW.vc env11 [0, 1, 2, 3, 4, 6, 11] (by kernel_rfl) ?_
        (simp (config := { maxSteps := 4000000 }) only [go_sem, reduceIte, reduceCtorEq, Nat.reduceAdd, Nat.reduceMul, Nat.reduceSub, Nat.reduceLT, Nat.reduceLeDiff, Nat.reduceEqDiff, Int.reduceEq, Int.reduceLT, Int.reduceLE, Int.reduceNe, rem64, mask64, c_iu, wrapu_mod, bl_len, bl_take, bl_ren, bl_app, bl_one, bOf_bl, Nat.mul_one, G11_rright, G11_rhas, G11_put, con1, conHas, conPut, stRL, h4, h6, hI, right_at hlt, kp1, hA, wrap_kp2 hlt, hll]; repeat (refine Vc.mk' ?_; simp (config := { maxSteps := 4000000 }) only [go_sem, reduceIte, reduceCtorEq, Nat.reduceAdd, Nat.reduceMul, Nat.reduceSub, Nat.reduceLT, Nat.reduceLeDiff, Nat.reduceEqDiff, Int.reduceEq, Int.reduceLT, Int.reduceLE, Int.reduceNe, rem64, mask64, c_iu, wrapu_mod, bl_len, bl_take, bl_ren, bl_app, bl_one, bOf_bl, Nat.mul_one, G11_rright, G11_rhas, G11_put, con1, conHas, conPut, stRL, h4, h6, hI, right_at hlt, kp1, hA, wrap_kp2 hlt, hll]))
        refine .mk (k + 1) hlt (by omega) (SubR.mk' [top, top + 3] hcl (by simp) (by simp) rfl (frSub_ok (by simp [frSub, lkG, ren, renL, renL_set, renL_ints, UpdOk.nil, UpdOk.cons, renOO_some, renO_cells, renO_map, renOO_mkOb, rn_base, rn_add, ren_mkSl, Enc.flat_ren, set_same, set_ne, sets_cons, sets_nil, Keep.set, Keep.setK, Keep.refl, bl_ren, hs])) (by simp [frSub, lkG, ren, renL, renL_set, renL_ints, UpdOk.nil, UpdOk.cons, renOO_some, renO_cells, renO_map, renOO_mkOb, rn_base, rn_add, ren_mkSl, Enc.flat_ren, set_same, set_ne, sets_cons, sets_nil, Keep.set, Keep.setK, Keep.refl, bl_ren, hs]) (by simp [frSub, lkG, ren, renL, renL_set, renL_ints, UpdOk.nil, UpdOk.cons, renOO_some, renO_cells, renO_map, renOO_mkOb, rn_base, rn_add, ren_mkSl, Enc.flat_ren, set_same, set_ne, sets_cons, sets_nil, Keep.set, Keep.setK, Keep.refl, bl_ren, hs]))
      | false =>
        rw [hA, if_neg (by simp)] at hs
        refine CW.vc env11 [0, 1, 2, 3, 4, 6, 11] (by kernel_rfl) ?_
        (simp (config := { maxSteps := 4000000 }) only [go_sem, reduceIte, reduceCtorEq, Nat.reduceAdd, Nat.reduceMul, Nat.reduceSub, Nat.reduceLT, Nat.reduceLeDiff, Nat.reduceEqDiff, Int.reduceEq, Int.reduceLT, Int.reduceLE, Int.reduceNe, rem64, mask64, c_iu, wrapu_mod, bl_len, bl_take, bl_ren, bl_app, bl_one, bOf_bl, Nat.mul_one, G11_rright, G11_rhas, G11_put, con1, conHas, conPut, stRL, h4, h6, hI, right_at hlt, kp1, hA, wrap_kp2 hlt, hll]; repeat (refine Vc.mk' ?_; simp (config := { maxSteps := 4000000 }) only [go_sem, reduceIte, reduceCtorEq, Nat.reduceAdd, Nat.reduceMul, Nat.reduceSub, Nat.reduceLT, Nat.reduceLeDiff, Nat.reduceEqDiff, Int.reduceEq, Int.reduceLT, Int.reduceLE, Int.reduceNe, rem64, mask64, c_iu, wrapu_mod, bl_len, bl_take, bl_ren, bl_app, bl_one, bOf_bl, Nat.mul_one, G11_rright, G11_rhas, G11_put, con1, conHas, conPut, stRL, h4, h6, hI, right_at hlt, kp1, hA, wrap_kp2 hlt, hll]))
        refine .mk (k + 1) hlt (by omega) (SubR.mk' [top, top + 1] hcl (by simp) (by simp) rfl (frSub_ok (by simp [frSub, lkG, ren, renL, renL_set, renL_ints, UpdOk.nil, UpdOk.cons, renOO_some, renO_cells, renO_map, renOO_mkOb, rn_base, rn_add, ren_mkSl, Enc.flat_ren, set_same, set_ne, sets_cons, sets_nil, Keep.set, Keep.setK, Keep.refl, bl_ren, hs])) (by simp [frSub, lkG, ren, renL, renL_set, renL_ints, UpdOk.nil, UpdOk.cons, renOO_some, renO_cells, renO_map, renOO_mkOb, rn_base, rn_add, ren_mkSl, Enc.flat_ren, set_same, set_ne, sets_cons, sets_nil, Keep.set, Keep.setK, Keep.refl, bl_ren, hs]) (by simp [frSub, lkG, ren, renL, renL_set, renL_ints, UpdOk.nil, UpdOk.cons, renOO_some, renO_cells, renO_map, renOO_mkOb, rn_base, rn_add, ren_mkSl, Enc.flat_ren, set_same, set_ne, sets_cons, sets_nil, Keep.set, Keep.setK, Keep.refl, bl_ren, hs]))
    · have hi4 : k = 256 := by omega
      have h4 : (256 : Int) < (k : Int) + 1 := by omega
      subst hi4
      refine CW.vc env11 [0, 1, 2, 3, 4, 6, 11] (by kernel_rfl) ?_
      (simp (config := { maxSteps := 4000000 }) only [go_sem, reduceIte, reduceCtorEq, Nat.reduceAdd, Nat.reduceMul, Nat.reduceSub, Nat.reduceLT, Nat.reduceLeDiff, Nat.reduceEqDiff, Int.reduceEq, Int.reduceLT, Int.reduceLE, Int.reduceNe, rem64, mask64, c_iu, wrapu_mod, bl_len, bl_take, bl_ren, bl_app, bl_one, bOf_bl, Nat.mul_one, stRL, h4]; repeat (refine Vc.mk' ?_; simp (config := { maxSteps := 4000000 }) only [go_sem, reduceIte, reduceCtorEq, Nat.reduceAdd, Nat.reduceMul, Nat.reduceSub, Nat.reduceLT, Nat.reduceLeDiff, Nat.reduceEqDiff, Int.reduceEq, Int.reduceLT, Int.reduceLE, Int.reduceNe, rem64, mask64, c_iu, wrapu_mod, bl_len, bl_take, bl_ren, bl_app, bl_one, bOf_bl, Nat.mul_one, stRL, h4]))
      exact ⟨[top + 1], by simp, by simp, by simp, by simp [frSub, lkG, ren, renL, renL_set, renL_ints, UpdOk.nil, UpdOk.cons, renOO_some, renO_cells, renO_map, renOO_mkOb, rn_base, rn_add, ren_mkSl, Enc.flat_ren, set_same, set_ne, sets_cons, sets_nil, Keep.set, Keep.setK, Keep.refl, show lsN b 256 = lsB b from rfl], by simp [frSub, lkG, ren, renL, renL_set, renL_ints, UpdOk.nil, UpdOk.cons, renOO_some, renO_cells, renO_map, renOO_mkOb, rn_base, rn_add, ren_mkSl, Enc.flat_ren, set_same, set_ne, sets_cons, sets_nil, Keep.set, Keep.setK, Keep.refl, show lsN b 256 = lsB b from rfl], by simp [frSub, lkG, ren, renL, renL_set, renL_ints, UpdOk.nil, UpdOk.cons, renOO_some, renO_cells, renO_map, renOO_mkOb, rn_base, rn_add, ren_mkSl, Enc.flat_ren, set_same, set_ne, sets_cons, sets_nil, Keep.set, Keep.setK, Keep.refl, show lsN b 256 = lsB b from rfl]⟩
def G12 := addG G11 41 conRList
theorem env12 : EnvV Tryd.prog tt.get G12 := env11.add rlist_ok
theorem G12_rlist : G12 41 = conRList := rfl
theorem G12_rright : G12 47 = con1 rightB := rfl
theorem G12_rhas : G12 31 = conHas := rfl
theorem G12_put : G12 48 = conPut := rfl
/-! ### Lowest, Count, Below -/
def conRLow : Con := .pure (fun args _ => match args with | [v] => IsBits v | _ => False) (fun args _ => match args with | [v] => .int .i64 (hd0 (lsB (bOf v))) | _ => undef)
theorem hobL {hp : Hp} {top : Nat} {b : T_Bits} : ((hp.set top (some (AObj.cells true 0 (bl b)))).set (top + 1) (mkOb e_int (lsB b))) (top + 1) = mkOb e_int (lsB b) := set_same ..

theorem rlow_ok : ConOk Tryd.prog 32 conRLow := by
  refine .mkRd fn32_ok ?_ ?_
  · rintro args hp h
    match args, h with
    | [_], ⟨b, rfl, hb⟩ => rfl
  intro args hp hpre top hcl hsc
  match args, hpre with
  | [_], ⟨b, rfl, hb⟩ =>
  have hI := isBits_bl hb
  have hL := ls_len (b := b)
  have hA := SlT.own (hobL (hp := hp) (top := top) (b := b)) (by omega)
  refine CalledOk.of_fun tt_ok fn32_ok rfl 12 rfl [.tmp 2] rfl (show 1 ≤ 12 by decide) ?_
  by_cases hz : (lsB b).length = 0
  · have e : hd0 (lsB b) = 0 := by rw [List.eq_nil_of_length_eq_zero hz]; rfl
    have hz1 : ((lsB b).length : Int) = 0 := by omega
    refine CW.vc env12 [0, 1, 2, 3, 8] (by kernel_rfl) ?_
    (simp (config := { maxSteps := 4000000 }) only [go_sem, reduceIte, reduceCtorEq, Nat.reduceAdd, Nat.reduceMul, Nat.reduceSub, Nat.reduceLT, Nat.reduceLeDiff, Nat.reduceEqDiff, Int.reduceEq, Int.reduceLT, Int.reduceLE, Int.reduceNe, rem64, mask64, c_iu, wrapu_mod, bl_len, bl_take, bl_ren, bl_app, bl_one, bOf_bl, Nat.mul_one, G12_rlist, G12_rright, G12_rhas, G12_put, conRList, con1, conHas, conPut, len_sint hA, idx_sint hA, ld_sint hA, sh_sint hA, sw_sint hA, hA.P, hA.oc, hA.cl, hA.rd, hA.ref, hI, hz1, e]; repeat (refine Vc.mk' ?_; simp (config := { maxSteps := 4000000 }) only [go_sem, reduceIte, reduceCtorEq, Nat.reduceAdd, Nat.reduceMul, Nat.reduceSub, Nat.reduceLT, Nat.reduceLeDiff, Nat.reduceEqDiff, Int.reduceEq, Int.reduceLT, Int.reduceLE, Int.reduceNe, rem64, mask64, c_iu, wrapu_mod, bl_len, bl_take, bl_ren, bl_app, bl_one, bOf_bl, Nat.mul_one, G12_rlist, G12_rright, G12_rhas, G12_put, conRList, con1, conHas, conPut, len_sint hA, idx_sint hA, ld_sint hA, sh_sint hA, sw_sint hA, hA.P, hA.oc, hA.cl, hA.rd, hA.ref, hI, hz1, e]))
  · have hz1 : ¬ ((lsB b).length : Int) = 0 := by omega
    have hlt : 0 < (lsB b).length := by omega
    have hlt1 : (0 : Int) < ((lsB b).length : Int) := by omega
    have e : hd0 (lsB b) = at' (lsB b) 0 := by
      cases hq : lsB b with
      | nil => rw [hq] at hlt; simp at hlt
      | cons x r => rfl
    have ld1 := ld_sint hA hlt
    rw [Nat.mul_one] at ld1
    refine CW.vc env12 [0, 1, 2, 3, 8] (by kernel_rfl) ?_
    (simp (config := { maxSteps := 4000000 }) only [go_sem, reduceIte, reduceCtorEq, Nat.reduceAdd, Nat.reduceMul, Nat.reduceSub, Nat.reduceLT, Nat.reduceLeDiff, Nat.reduceEqDiff, Int.reduceEq, Int.reduceLT, Int.reduceLE, Int.reduceNe, rem64, mask64, c_iu, wrapu_mod, bl_len, bl_take, bl_ren, bl_app, bl_one, bOf_bl, Nat.mul_one, G12_rlist, G12_rright, G12_rhas, G12_put, conRList, con1, conHas, conPut, len_sint hA, idx_sint hA, ld_sint hA, sh_sint hA, sw_sint hA, hA.P, hA.oc, hA.cl, hA.rd, hA.ref, hI, hz1, hlt, hlt1, e, ld1]; repeat (refine Vc.mk' ?_; simp (config := { maxSteps := 4000000 }) only [go_sem, reduceIte, reduceCtorEq, Nat.reduceAdd, Nat.reduceMul, Nat.reduceSub, Nat.reduceLT, Nat.reduceLeDiff, Nat.reduceEqDiff, Int.reduceEq, Int.reduceLT, Int.reduceLE, Int.reduceNe, rem64, mask64, c_iu, wrapu_mod, bl_len, bl_take, bl_ren, bl_app, bl_one, bOf_bl, Nat.mul_one, G12_rlist, G12_rright, G12_rhas, G12_put, conRList, con1, conHas, conPut, len_sint hA, idx_sint hA, ld_sint hA, sh_sint hA, sw_sint hA, hA.P, hA.oc, hA.cl, hA.rd, hA.ref, hI, hz1, hlt, hlt1, e, ld1]))
def conRCount : Con := .pure (fun args _ => match args with | [v] => IsBits v | _ => False) (fun args _ => match args with | [v] => .int .i64 ((lsB (bOf v)).length : Int) | _ => undef)

theorem rcount_ok : ConOk Tryd.prog 33 conRCount := by
  refine .mkRd fn33_ok ?_ ?_
  · rintro args hp h
    match args, h with
    | [_], ⟨b, rfl, hb⟩ => rfl
  intro args hp hpre top hcl hsc
  match args, hpre with
  | [_], ⟨b, rfl, hb⟩ =>
  have hI := isBits_bl hb
  have hL := ls_len (b := b)
  have hA := SlT.own (hobL (hp := hp) (top := top) (b := b)) (by omega)
  refine CalledOk.of_fun tt_ok fn33_ok rfl 6 rfl [.tmp 2] rfl (show 1 ≤ 6 by decide) ?_
  refine CW.vc env12 [0, 1, 2] (by kernel_rfl) ?_
  (simp (config := { maxSteps := 4000000 }) only [go_sem, reduceIte, reduceCtorEq, Nat.reduceAdd, Nat.reduceMul, Nat.reduceSub, Nat.reduceLT, Nat.reduceLeDiff, Nat.reduceEqDiff, Int.reduceEq, Int.reduceLT, Int.reduceLE, Int.reduceNe, rem64, mask64, c_iu, wrapu_mod, bl_len, bl_take, bl_ren, bl_app, bl_one, bOf_bl, Nat.mul_one, G12_rlist, G12_rright, G12_rhas, G12_put, conRList, con1, conHas, conPut, len_sint hA, idx_sint hA, ld_sint hA, sh_sint hA, sw_sint hA, hA.P, hA.oc, hA.cl, hA.rd, hA.ref, hI]; repeat (refine Vc.mk' ?_; simp (config := { maxSteps := 4000000 }) only [go_sem, reduceIte, reduceCtorEq, Nat.reduceAdd, Nat.reduceMul, Nat.reduceSub, Nat.reduceLT, Nat.reduceLeDiff, Nat.reduceEqDiff, Int.reduceEq, Int.reduceLT, Int.reduceLE, Int.reduceNe, rem64, mask64, c_iu, wrapu_mod, bl_len, bl_take, bl_ren, bl_app, bl_one, bOf_bl, Nat.mul_one, G12_rlist, G12_rright, G12_rhas, G12_put, conRList, con1, conHas, conPut, len_sint hA, idx_sint hA, ld_sint hA, sh_sint hA, sw_sint hA, hA.P, hA.oc, hA.cl, hA.rd, hA.ref, hI]))
/-- no bit above w -/
def belowL (l : List Int) (w : Int) : Bool := decide (0 ≤ w) && decide (w ≤ 256) && (decide (l.length = 0) || decide (at' l (l.length - 1) ≤ w))
def conRBelow : Con := .pure (fun args _ => match args with | [v, .int .i64 _] => IsBits v | _ => False) (fun args _ => match args with | [v, w] => .bool (belowL (lsB (bOf v)) (intOf w)) | _ => undef)

theorem rbelow_ok : ConOk Tryd.prog 35 conRBelow := by
  refine .mkRd fn35_ok ?_ ?_
  · rintro args hp h
    match args, h with
    | [_, .int .i64 w], ⟨b, rfl, hb⟩ => rfl
  intro args hp hpre top hcl hsc
  match args, hpre with
  | [_, .int .i64 w], ⟨b, rfl, hb⟩ =>
  have hI := isBits_bl hb
  have hL := ls_len (b := b)
  have hA := SlT.own (hobL (hp := hp) (top := top) (b := b)) (by omega)
  simp only [intOf_int, bOf_bl]
  refine CalledOk.of_fun tt_ok fn35_ok rfl 29 rfl [.tmp 4] rfl (show 2 ≤ 29 by decide) ?_
  have q1 : decide (0 ≤ w) = !decide (w < 0) := by rw [← decide_not]; exact decide_eq_decide.2 (by omega)
  have q2 : decide (w ≤ 256) = !decide (256 < w) := by rw [← decide_not]; exact decide_eq_decide.2 (by omega)
  by_cases hz : (lsB b).length = 0
  · have hz1 : ((lsB b).length : Int) = 0 := by omega
    have e : belowL (lsB b) w = (!decide (w < 0) && !decide (256 < w)) := by simp [belowL, hz, q1, q2]
    rw [e]
    cases h1 : decide (w < 0) <;> cases h2 : decide (256 < w)
    all_goals
      refine CW.vc env12 [0, 1, 2, 4, 5] (by kernel_rfl) ?_
      (simp (config := { maxSteps := 4000000 }) only [go_sem, reduceIte, reduceCtorEq, Nat.reduceAdd, Nat.reduceMul, Nat.reduceSub, Nat.reduceLT, Nat.reduceLeDiff, Nat.reduceEqDiff, Int.reduceEq, Int.reduceLT, Int.reduceLE, Int.reduceNe, rem64, mask64, c_iu, wrapu_mod, bl_len, bl_take, bl_ren, bl_app, bl_one, bOf_bl, Nat.mul_one, G12_rlist, G12_rright, G12_rhas, G12_put, conRList, con1, conHas, conPut, len_sint hA, idx_sint hA, ld_sint hA, sh_sint hA, sw_sint hA, hA.P, hA.oc, hA.cl, hA.rd, hA.ref, hI, hz1, h1, h2]; repeat (refine Vc.mk' ?_; simp (config := { maxSteps := 4000000 }) only [go_sem, reduceIte, reduceCtorEq, Nat.reduceAdd, Nat.reduceMul, Nat.reduceSub, Nat.reduceLT, Nat.reduceLeDiff, Nat.reduceEqDiff, Int.reduceEq, Int.reduceLT, Int.reduceLE, Int.reduceNe, rem64, mask64, c_iu, wrapu_mod, bl_len, bl_take, bl_ren, bl_app, bl_one, bOf_bl, Nat.mul_one, G12_rlist, G12_rright, G12_rhas, G12_put, conRList, con1, conHas, conPut, len_sint hA, idx_sint hA, ld_sint hA, sh_sint hA, sw_sint hA, hA.P, hA.oc, hA.cl, hA.rd, hA.ref, hI, hz1, h1, h2]))
  · have hz1 : ¬ ((lsB b).length : Int) = 0 := by omega
    obtain ⟨m, hm⟩ : ∃ m, (lsB b).length = m + 1 := ⟨(lsB b).length - 1, by omega⟩
    have hw : wrapA .i64 (((lsB b).length : Int) - 1) = (m : Int) := by rw [wrap64 (by omega) (by omega)]; omega
    have hlt : m < (lsB b).length := by omega
    have hlt1 : (m : Int) < ((lsB b).length : Int) := by omega
    have ld1 := ld_sint hA hlt
    rw [Nat.mul_one] at ld1
    have q3 : decide (at' (lsB b) m ≤ w) = !decide (w < at' (lsB b) m) := by rw [← decide_not]; exact decide_eq_decide.2 (by omega)
    have e : belowL (lsB b) w = (!decide (w < 0) && !decide (256 < w) && !decide (w < at' (lsB b) m)) := by
      have hm2 : (lsB b).length - 1 = m := by omega
      simp [belowL, hz, q1, q2, q3, hm2]
    rw [e]
    cases h1 : decide (w < 0) <;> cases h2 : decide (256 < w)
    all_goals
      refine CW.vc env12 [0, 1, 2, 4, 5] (by kernel_rfl) ?_
      (simp (config := { maxSteps := 4000000 }) only [go_sem, reduceIte, reduceCtorEq, Nat.reduceAdd, Nat.reduceMul, Nat.reduceSub, Nat.reduceLT, Nat.reduceLeDiff, Nat.reduceEqDiff, Int.reduceEq, Int.reduceLT, Int.reduceLE, Int.reduceNe, rem64, mask64, c_iu, wrapu_mod, bl_len, bl_take, bl_ren, bl_app, bl_one, bOf_bl, Nat.mul_one, G12_rlist, G12_rright, G12_rhas, G12_put, conRList, con1, conHas, conPut, len_sint hA, idx_sint hA, ld_sint hA, sh_sint hA, sw_sint hA, hA.P, hA.oc, hA.cl, hA.rd, hA.ref, hI, hz1, hw, hlt, hlt1, ld1, h1, h2, Bool.false_and]; repeat (refine Vc.mk' ?_; simp (config := { maxSteps := 4000000 }) only [go_sem, reduceIte, reduceCtorEq, Nat.reduceAdd, Nat.reduceMul, Nat.reduceSub, Nat.reduceLT, Nat.reduceLeDiff, Nat.reduceEqDiff, Int.reduceEq, Int.reduceLT, Int.reduceLE, Int.reduceNe, rem64, mask64, c_iu, wrapu_mod, bl_len, bl_take, bl_ren, bl_app, bl_one, bOf_bl, Nat.mul_one, G12_rlist, G12_rright, G12_rhas, G12_put, conRList, con1, conHas, conPut, len_sint hA, idx_sint hA, ld_sint hA, sh_sint hA, sw_sint hA, hA.P, hA.oc, hA.cl, hA.rd, hA.ref, hI, hz1, hw, hlt, hlt1, ld1, h1, h2, Bool.false_and]))
/-! ### With, Without -/

theorem rwith_ok : ConOk Tryd.prog 39 (conSet putB) := by
  refine .mkRd fn39_ok ?_ ?_
  · rintro args hp h
    match args, h with
    | [_, .int .i64 n], ⟨b, rfl, hb⟩ => rfl
  intro args hp hpre top hcl hsc
  match args, hpre with
  | [_, .int .i64 n], ⟨b, rfl, hb⟩ =>
  have hI := isBits_bl hb
  refine CalledOk.of_fun tt_ok fn39_ok rfl 13 rfl [.cell 4 25, .tmp 5] rfl (show 2 ≤ 13 by decide) ?_
  simp only [intOf_int, bOf_bl]
  cases hr : rightB n with
  | false =>
    refine CW.vc env12 [0, 1, 2, 4, 5, 8] (by kernel_rfl) ?_
    (simp (config := { maxSteps := 4000000 }) only [go_sem, reduceIte, reduceCtorEq, Nat.reduceAdd, Nat.reduceMul, Nat.reduceSub, Nat.reduceLT, Nat.reduceLeDiff, Nat.reduceEqDiff, Int.reduceEq, Int.reduceLT, Int.reduceLE, Int.reduceNe, rem64, mask64, c_iu, wrapu_mod, bl_len, bl_take, bl_ren, bl_app, bl_one, bOf_bl, Nat.mul_one, G12_rlist, G12_rright, G12_rhas, G12_put, conRList, con1, conHas, conPut, hr, pairB_f]; repeat (refine Vc.mk' ?_; simp (config := { maxSteps := 4000000 }) only [go_sem, reduceIte, reduceCtorEq, Nat.reduceAdd, Nat.reduceMul, Nat.reduceSub, Nat.reduceLT, Nat.reduceLeDiff, Nat.reduceEqDiff, Int.reduceEq, Int.reduceLT, Int.reduceLE, Int.reduceNe, rem64, mask64, c_iu, wrapu_mod, bl_len, bl_take, bl_ren, bl_app, bl_one, bOf_bl, Nat.mul_one, G12_rlist, G12_rright, G12_rhas, G12_put, conRList, con1, conHas, conPut, hr, pairB_f]))
    rfl
  | true =>
    have hr1 := hr
    simp only [rightB, Bool.and_eq_true, decide_eq_true_eq] at hr1
    obtain ⟨h1, h2⟩ := hr1
    refine CW.vc env12 [0, 1, 2, 4, 5, 8] (by kernel_rfl) ?_
    (simp (config := { maxSteps := 4000000 }) only [go_sem, reduceIte, reduceCtorEq, Nat.reduceAdd, Nat.reduceMul, Nat.reduceSub, Nat.reduceLT, Nat.reduceLeDiff, Nat.reduceEqDiff, Int.reduceEq, Int.reduceLT, Int.reduceLE, Int.reduceNe, rem64, mask64, c_iu, wrapu_mod, bl_len, bl_take, bl_ren, bl_app, bl_one, bOf_bl, Nat.mul_one, G12_rlist, G12_rright, G12_rhas, G12_put, conRList, con1, conHas, conPut, hr, h1, h2, hI, pairB_t]; repeat (refine Vc.mk' ?_; simp (config := { maxSteps := 4000000 }) only [go_sem, reduceIte, reduceCtorEq, Nat.reduceAdd, Nat.reduceMul, Nat.reduceSub, Nat.reduceLT, Nat.reduceLeDiff, Nat.reduceEqDiff, Int.reduceEq, Int.reduceLT, Int.reduceLE, Int.reduceNe, rem64, mask64, c_iu, wrapu_mod, bl_len, bl_take, bl_ren, bl_app, bl_one, bOf_bl, Nat.mul_one, G12_rlist, G12_rright, G12_rhas, G12_put, conRList, con1, conHas, conPut, hr, h1, h2, hI, pairB_t]))
theorem coll_del {b : T_Bits} {k : Nat} (hb : OkB b) (hk : k < 256) : coll (fun j => !decide (j = k) && hasB b j) 256 = delB b k := by
  refine has_ext (coll_ok _) (delB_ok hb) fun j hj => ?_
  rw [hasB_del hk hj]
  have h1 : 64 * (j / 64) + j % 64 = j := by omega
  unfold hasB
  rw [coll_bit (by omega) (Nat.mod_lt _ (by decide)) (by omega), h1]
  have h2 : decide (j < 256) = true := decide_eq_true hj
  rw [h2, Bool.true_and, Bool.and_comm]
def stRW (hp : Hp) (top : Nat) (p : Nat → Bool) (n : Int) (b : T_Bits) (k : Nat) : SS := ⟨[(1, .int .i64 n, true), (2, .pointer (some ⟨top, 0, none⟩), true), (4, .pointer (some ⟨top + 1, 0, none⟩), true), (6, .pointer (some ⟨top + 2, 0, none⟩), true), (7, .int .i64 ((k : Int) + 1), true)], hp.sets [(top, some (.cells true 0 (bl b))), (top + 1, some (.cells true 0 (bl zb))), (top + 2, some (.cells true 0 (bl (coll p k))))], top + 3⟩

theorem rwithout_ok : ConOk Tryd.prog 40 (conSet delB) := by
  refine .mkRd fn40_ok ?_ ?_
  · rintro args hp h
    match args, h with
    | [_, .int .i64 n], ⟨b, rfl, hb⟩ => rfl
  intro args hp hpre top hcl hsc
  match args, hpre with
  | [_, .int .i64 n], ⟨b, rfl, hb⟩ =>
  have hI := isBits_bl hb
  refine CalledOk.of_fun tt_ok fn40_ok rfl 28 rfl [.cell 4 25, .tmp 5] rfl (show 2 ≤ 28 by decide) ?_
  simp only [intOf_int, bOf_bl]
  cases hr : rightB n with
  | false =>
    refine CW.vc env12 [0, 1, 2, 4, 5, 6, 7, 10, 13, 23] (by kernel_rfl) ?_
    (simp (config := { maxSteps := 4000000 }) only [go_sem, reduceIte, reduceCtorEq, Nat.reduceAdd, Nat.reduceMul, Nat.reduceSub, Nat.reduceLT, Nat.reduceLeDiff, Nat.reduceEqDiff, Int.reduceEq, Int.reduceLT, Int.reduceLE, Int.reduceNe, rem64, mask64, c_iu, wrapu_mod, bl_len, bl_take, bl_ren, bl_app, bl_one, bOf_bl, Nat.mul_one, G12_rlist, G12_rright, G12_rhas, G12_put, conRList, con1, conHas, conPut, hr, pairB_f]; repeat (refine Vc.mk' ?_; simp (config := { maxSteps := 4000000 }) only [go_sem, reduceIte, reduceCtorEq, Nat.reduceAdd, Nat.reduceMul, Nat.reduceSub, Nat.reduceLT, Nat.reduceLeDiff, Nat.reduceEqDiff, Int.reduceEq, Int.reduceLT, Int.reduceLE, Int.reduceNe, rem64, mask64, c_iu, wrapu_mod, bl_len, bl_take, bl_ren, bl_app, bl_one, bOf_bl, Nat.mul_one, G12_rlist, G12_rright, G12_rhas, G12_put, conRList, con1, conHas, conPut, hr, pairB_f]))
    rfl
  | true =>
    have hr1 := hr
    simp only [rightB, Bool.and_eq_true, decide_eq_true_eq] at hr1
    obtain ⟨h1, h2⟩ := hr1
    obtain ⟨m, rfl⟩ : ∃ m : Nat, n = (m : Int) + 1 := ⟨(n - 1).toNat, by omega⟩
    have hm := coll_del hb (show m < 256 by omega)
    generalize hq : (fun j => !decide (j = m) && hasB b j) = q at hm
    refine CW.vc env12 [0, 1, 2, 4, 5, 6, 7, 10, 13, 23] (by kernel_rfl) ?_
    (simp (config := { maxSteps := 4000000 }) only [go_sem, reduceIte, reduceCtorEq, Nat.reduceAdd, Nat.reduceMul, Nat.reduceSub, Nat.reduceLT, Nat.reduceLeDiff, Nat.reduceEqDiff, Int.reduceEq, Int.reduceLT, Int.reduceLE, Int.reduceNe, rem64, mask64, c_iu, wrapu_mod, bl_len, bl_take, bl_ren, bl_app, bl_one, bOf_bl, Nat.mul_one, G12_rlist, G12_rright, G12_rhas, G12_put, conRList, con1, conHas, conPut, hr, h1, h2, hI, pairB_t]; repeat (refine Vc.mk' ?_; simp (config := { maxSteps := 4000000 }) only [go_sem, reduceIte, reduceCtorEq, Nat.reduceAdd, Nat.reduceMul, Nat.reduceSub, Nat.reduceLT, Nat.reduceLeDiff, Nat.reduceEqDiff, Int.reduceEq, Int.reduceLT, Int.reduceLE, Int.reduceNe, rem64, mask64, c_iu, wrapu_mod, bl_len, bl_take, bl_ren, bl_app, bl_one, bOf_bl, Nat.mul_one, G12_rlist, G12_rright, G12_rhas, G12_put, conRList, con1, conHas, conPut, hr, h1, h2, hI, pairB_t]))
    refine CW.loopR (stRW hp top q ((m : Int) + 1) b) (fun k => k ≤ 256) (fun k => 256 - k) 0 (by omega) ?_ ?_
    · exact SubR.mk' [top, top + 1, top + 2] hcl (by simp) (by simp) rfl (frSub_ok (by simp [frSub, lkG, ren, renL, renL_set, renL_ints, UpdOk.nil, UpdOk.cons, renOO_some, renO_cells, renO_map, renOO_mkOb, rn_base, rn_add, ren_mkSl, Enc.flat_ren, set_same, set_ne, sets_cons, sets_nil, Keep.set, Keep.setK, Keep.refl, bl_ren, show coll q 0 = zb from rfl, bl_zb])) (by simp [frSub, lkG, ren, renL, renL_set, renL_ints, UpdOk.nil, UpdOk.cons, renOO_some, renO_cells, renO_map, renOO_mkOb, rn_base, rn_add, ren_mkSl, Enc.flat_ren, set_same, set_ne, sets_cons, sets_nil, Keep.set, Keep.setK, Keep.refl, bl_ren, show coll q 0 = zb from rfl, bl_zb]) (by simp [frSub, lkG, ren, renL, renL_set, renL_ints, UpdOk.nil, UpdOk.cons, renOO_some, renO_cells, renO_map, renOO_mkOb, rn_base, rn_add, ren_mkSl, Enc.flat_ren, set_same, set_ne, sets_cons, sets_nil, Keep.set, Keep.setK, Keep.refl, bl_ren, show coll q 0 = zb from rfl, bl_zb])
    · rintro k hi
      by_cases hlt : k < 256
      · have h4 : (k : Int) + 1 ≤ 256 := by omega
        have h6 : ¬ (256 : Int) < (k : Int) + 1 := by omega
        have h5 : 1 ≤ (k : Int) + 1 := by omega
        have hIc := isBits_bl (coll_ok (p := q) k)
        have hqk : q k = (!decide (k = m) && hasB b k) := by rw [← hq]
        have hd : decide (((k : Int) + 1) = (m : Int) + 1) = decide (k = m) := decide_eq_decide.2 (by omega)
        cases hA : hasB b k <;> cases hB : decide (k = m) <;> rw [hA, hB] at hqk <;> rw [hB] at hd
        all_goals
          refine CW.vc env12 [0, 1, 2, 4, 5, 6, 7, 10, 13, 23] (by kernel_rfl) ?_
          (simp (config := { maxSteps := 4000000 }) only [go_sem, reduceIte, reduceCtorEq, Nat.reduceAdd, Nat.reduceMul, Nat.reduceSub, Nat.reduceLT, Nat.reduceLeDiff, Nat.reduceEqDiff, Int.reduceEq, Int.reduceLT, Int.reduceLE, Int.reduceNe, rem64, mask64, c_iu, wrapu_mod, bl_len, bl_take, bl_ren, bl_app, bl_one, bOf_bl, Nat.mul_one, G12_rlist, G12_rright, G12_rhas, G12_put, conRList, con1, conHas, conPut, stRW, h4, h5, h6, hI, hIc, right_at hlt, kp1, hA, hd, wrap_kp2 hlt, Bool.true_and, Bool.and_true, Bool.not_true, Bool.not_false]; repeat (refine Vc.mk' ?_; simp (config := { maxSteps := 4000000 }) only [go_sem, reduceIte, reduceCtorEq, Nat.reduceAdd, Nat.reduceMul, Nat.reduceSub, Nat.reduceLT, Nat.reduceLeDiff, Nat.reduceEqDiff, Int.reduceEq, Int.reduceLT, Int.reduceLE, Int.reduceNe, rem64, mask64, c_iu, wrapu_mod, bl_len, bl_take, bl_ren, bl_app, bl_one, bOf_bl, Nat.mul_one, G12_rlist, G12_rright, G12_rhas, G12_put, conRList, con1, conHas, conPut, stRW, h4, h5, h6, hI, hIc, right_at hlt, kp1, hA, hd, wrap_kp2 hlt, Bool.true_and, Bool.and_true, Bool.not_true, Bool.not_false]))
          refine .mk (k + 1) hlt (by omega) (SubR.mk' [top, top + 1, top + 2] hcl (by simp) (by simp) rfl (frSub_ok (by simp [frSub, lkG, ren, renL, renL_set, renL_ints, UpdOk.nil, UpdOk.cons, renOO_some, renO_cells, renO_map, renOO_mkOb, rn_base, rn_add, ren_mkSl, Enc.flat_ren, set_same, set_ne, sets_cons, sets_nil, Keep.set, Keep.setK, Keep.refl, bl_ren, coll_step hqk])) (by simp [frSub, lkG, ren, renL, renL_set, renL_ints, UpdOk.nil, UpdOk.cons, renOO_some, renO_cells, renO_map, renOO_mkOb, rn_base, rn_add, ren_mkSl, Enc.flat_ren, set_same, set_ne, sets_cons, sets_nil, Keep.set, Keep.setK, Keep.refl, bl_ren, coll_step hqk]) (by simp [frSub, lkG, ren, renL, renL_set, renL_ints, UpdOk.nil, UpdOk.cons, renOO_some, renO_cells, renO_map, renOO_mkOb, rn_base, rn_add, ren_mkSl, Enc.flat_ren, set_same, set_ne, sets_cons, sets_nil, Keep.set, Keep.setK, Keep.refl, bl_ren, coll_step hqk]))
      · have hi4 : k = 256 := by omega
        have h4 : (256 : Int) < (k : Int) + 1 := by omega
        refine CW.vc env12 [0, 1, 2, 4, 5, 6, 7, 10, 13, 23] (by kernel_rfl) ?_
        (simp (config := { maxSteps := 4000000 }) only [go_sem, reduceIte, reduceCtorEq, Nat.reduceAdd, Nat.reduceMul, Nat.reduceSub, Nat.reduceLT, Nat.reduceLeDiff, Nat.reduceEqDiff, Int.reduceEq, Int.reduceLT, Int.reduceLE, Int.reduceNe, rem64, mask64, c_iu, wrapu_mod, bl_len, bl_take, bl_ren, bl_app, bl_one, bOf_bl, Nat.mul_one, stRW, h4]; repeat (refine Vc.mk' ?_; simp (config := { maxSteps := 4000000 }) only [go_sem, reduceIte, reduceCtorEq, Nat.reduceAdd, Nat.reduceMul, Nat.reduceSub, Nat.reduceLT, Nat.reduceLeDiff, Nat.reduceEqDiff, Int.reduceEq, Int.reduceLT, Int.reduceLE, Int.reduceNe, rem64, mask64, c_iu, wrapu_mod, bl_len, bl_take, bl_ren, bl_app, bl_one, bOf_bl, Nat.mul_one, stRW, h4]))
        rw [hi4, hm, kp1]
/-! ### Number, Text -/
def conNum (m : Int) : Con := .pure (fun args _ => match args with | [.int .i64 n] => 0 ≤ n ∧ n < m | _ => False) (fun args _ => match args with | [n] => .string ⟨⟨Lib.itoa (intOf n)⟩⟩ | _ => undef)
theorem dec_small {u : Nat} (h : u < 10) : Lib.decDigits u = [UInt8.ofNat (48 + u)] := by rw [Lib.decDigits, dif_pos h]
theorem dec_big {u : Nat} (h : ¬ u < 10) : Lib.decDigits u = Lib.decDigits (u / 10) ++ [UInt8.ofNat (48 + u % 10)] := by rw [Lib.decDigits, dif_neg h]
theorem dec_len (u : Nat) : (Lib.decDigits u).length ≤ u + 1 := by
  induction u using Nat.strongRecOn with
  | _ u ih =>
    by_cases h : u < 10
    · rw [dec_small h]; simp
    · rw [dec_big h, List.length_append]
      have := ih (u / 10) (by omega)
      simp; omega
theorem c_ib {hp : Hp} {x : Value} : sconvH tt.get hp 3 5 x = (.int .u8 (wrapA .u8 (intOf x)), IsN x) := sconvH_int k_int k_uint8
theorem cv1 {hp : Hp} {b : Nat} {n : Int} : sconvH tt.get (hp.set b (some (.cells true 1 [.int .u8 n]))) 51 9 (.slice (some ⟨b, 0, none⟩) 1 1) = (.string ⟨⟨[UInt8.ofNat n.toNat]⟩⟩, True) := sconvH_one k_suint8 k_uint8 k_string (set_same ..)
def G13 (m : Int) := addG G12 54 (conNum m)
theorem G13_num {m : Int} : G13 m 54 = conNum m := rfl

theorem num_step (m : Nat) (hm : m ≤ 1000) (ih : ConOk Tryd.prog 54 (conNum m)) : ConOk Tryd.prog 54 (conNum (m + 1 : Nat)) := by
  have env13 : EnvV Tryd.prog tt.get (G13 m) := env12.add ih
  refine .mkRd fn54_ok ?_ ?_
  · rintro args hp h
    match args, h with
    | [.int .i64 n], _ => rfl
  intro args hp hpre top hcl hsc
  match args, hpre with
  | [.int .i64 n], ⟨h0, h1⟩ =>
  obtain ⟨u, rfl⟩ := Int.eq_ofNat_of_zero_le h0
  simp only [intOf_int, Lib.itoa_nonneg]
  refine CalledOk.of_fun tt_ok fn54_ok rfl 20 rfl [.tmp 2] rfl (show 1 ≤ 20 by decide) ?_
  by_cases hs : u < 10
  · have hs1 : (u : Int) < 10 := by omega
    have w1 : wrapA .i64 (48 + (u : Int)) = ((48 + u : Nat) : Int) := by rw [wrap64 (by omega) (by omega)]; omega
    have w2 : wrapA .u8 ((48 + u : Nat) : Int) = ((48 + u : Nat) : Int) := wrap_id (by simp [IntKind.signed]; omega) (by simp [IntKind.signed, IntKind.bits]; omega)
    refine CW.vc env13 [0, 2, 4, 1000003] (by kernel_rfl) ?_
    (simp (config := { maxSteps := 4000000 }) only [go_sem, reduceIte, reduceCtorEq, Nat.reduceAdd, Nat.reduceMul, Nat.reduceSub, Nat.reduceLT, Nat.reduceLeDiff, Nat.reduceEqDiff, Int.reduceEq, Int.reduceLT, Int.reduceLE, Int.reduceNe, rem64, mask64, c_iu, wrapu_mod, bl_len, bl_take, bl_ren, bl_app, bl_one, bOf_bl, Nat.mul_one, conNum, G13_num, hs1, w1, w2, c_ib, cv1, dec_small hs]; repeat ((first | refine Vc.mk' ?_ | refine CW.drawX env13 3 [0, 2, 4, 1000003] [(2, 7)] (by kernel_rfl) (by kernel_rfl) ?_); simp (config := { maxSteps := 4000000 }) only [go_sem, reduceIte, reduceCtorEq, Nat.reduceAdd, Nat.reduceMul, Nat.reduceSub, Nat.reduceLT, Nat.reduceLeDiff, Nat.reduceEqDiff, Int.reduceEq, Int.reduceLT, Int.reduceLE, Int.reduceNe, rem64, mask64, c_iu, wrapu_mod, bl_len, bl_take, bl_ren, bl_app, bl_one, bOf_bl, Nat.mul_one, conNum, G13_num, hs1, w1, w2, c_ib, cv1, dec_small hs]))
  · have hs1 : ¬ (u : Int) < 10 := by omega
    have q1 : IntKind.i64.wrap ((u : Int).tdiv 10) = ((u / 10 : Nat) : Int) := by
      rw [show (u : Int).tdiv 10 = ((u / 10 : Nat) : Int) from rfl, ← wrapA_eq, wrap64 (by omega) (by omega)]
    have q2 : (u : Int).tmod 10 = ((u % 10 : Nat) : Int) := rfl
    have w1 : wrapA .i64 (48 + ((u % 10 : Nat) : Int)) = ((48 + u % 10 : Nat) : Int) := by rw [wrap64 (by omega) (by omega)]; omega
    have w2 : wrapA .u8 ((48 + u % 10 : Nat) : Int) = ((48 + u % 10 : Nat) : Int) := wrap_id (by simp [IntKind.signed]; omega) (by simp [IntKind.signed, IntKind.bits]; omega)
    have p0 : (0 : Int) ≤ ((u / 10 : Nat) : Int) := by omega
    have p1 : ((u / 10 : Nat) : Int) < (m : Int) := by omega
    have hl := dec_len (u / 10)
    have p2 : (Lib.decDigits (u / 10)).length + 1 ≤ 4611686018427387904 := by omega
    refine CW.vc env13 [0, 2, 4, 1000003] (by kernel_rfl) ?_
    (simp (config := { maxSteps := 4000000 }) only [go_sem, reduceIte, reduceCtorEq, Nat.reduceAdd, Nat.reduceMul, Nat.reduceSub, Nat.reduceLT, Nat.reduceLeDiff, Nat.reduceEqDiff, Int.reduceEq, Int.reduceLT, Int.reduceLE, Int.reduceNe, rem64, mask64, c_iu, wrapu_mod, bl_len, bl_take, bl_ren, bl_app, bl_one, bOf_bl, Nat.mul_one, conNum, G13_num, hs1, w1, w2, q1, q2, p0, p1, p2, Lib.itoa_nonneg, c_ib, cv1, dec_big hs]; repeat ((first | refine Vc.mk' ?_ | refine CW.drawX env13 3 [0, 2, 4, 1000003] [(2, 7)] (by kernel_rfl) (by kernel_rfl) ?_); simp (config := { maxSteps := 4000000 }) only [go_sem, reduceIte, reduceCtorEq, Nat.reduceAdd, Nat.reduceMul, Nat.reduceSub, Nat.reduceLT, Nat.reduceLeDiff, Nat.reduceEqDiff, Int.reduceEq, Int.reduceLT, Int.reduceLE, Int.reduceNe, rem64, mask64, c_iu, wrapu_mod, bl_len, bl_take, bl_ren, bl_app, bl_one, bOf_bl, Nat.mul_one, conNum, G13_num, hs1, w1, w2, q1, q2, p0, p1, p2, Lib.itoa_nonneg, c_ib, cv1, dec_big hs]))
theorem num_all : ∀ m : Nat, m ≤ 1001 → ConOk Tryd.prog 54 (conNum m)
  | 0, _ => by
    refine ⟨⟨_, fn54_ok.toFTOk⟩, fun args hp h top => ?_⟩
    match args, h with
    | [.int .i64 n], ⟨h0, h1⟩ => omega
  | m + 1, h => num_step m (by omega) (num_all m (by omega))
def G14 := addG G12 54 (conNum 1001)
theorem env14 : EnvV Tryd.prog tt.get G14 := env12.add (num_all 1001 (by decide))
theorem G14_num : G14 54 = conNum 1001 := rfl
theorem G14_rlist : G14 41 = conRList := rfl
/-! ### Text -/
theorem join_snoc {sep x : List UInt8} {xs : List (List UInt8)} : Lib.join (xs ++ [x]) sep = if xs.length = 0 then x else Lib.join xs sep ++ sep ++ x := by
  cases xs with
  | nil => simp [Lib.join_one]
  | cons y r =>
    rw [List.cons_append, Lib.join_cons, Lib.join_cons]
    simp [Lib.joinTail, List.append_assoc]
def tk (l : List Int) (k : Nat) : List UInt8 := Lib.join ((l.take k).map Lib.itoa) [32]
theorem tk_succ {l : List Int} {k : Nat} (h : k < l.length) : tk l (k + 1) = (if k = 0 then [] else tk l k ++ [32]) ++ Lib.itoa (at' l k) := by
  unfold tk
  rw [List.take_succ_eq_append_getElem h, List.map_append, List.map_cons, List.map_nil, join_snoc, at'_get _ _ h, List.length_map, List.length_take, Nat.min_eq_left (by omega)]
  by_cases h0 : k = 0
  · rw [if_pos h0, if_pos h0]; rfl
  · rw [if_neg h0, if_neg h0]
def textN (l : List Int) : List UInt8 := if l.length = 0 then [45] else tk l l.length
theorem ls_rng {b : T_Bits} {k : Nat} (h : k < (lsB b).length) : 1 ≤ at' (lsB b) k ∧ at' (lsB b) k ≤ 256 := by
  have : at' (lsB b) k ∈ lsB b := by rw [at'_get _ _ h]; exact List.getElem_mem h
  obtain ⟨j, h1, h2, _⟩ := ls_mem.1 this
  omega
theorem tk_len {b : T_Bits} : ∀ k, k ≤ (lsB b).length → (tk (lsB b) k).length ≤ 22 * k
  | 0, _ => by simp [tk, Lib.join_nil]
  | k + 1, h => by
    have ih := tk_len (b := b) k (by omega)
    have hr := ls_rng (b := b) (k := k) h
    have hi := Lib.itoa_length_le (at' (lsB b) k) (by omega) (by omega)
    rw [tk_succ h, List.length_append]
    split
    · simp; omega
    · simp; omega
theorem textN_eq {b : T_Bits} (hb : OkB b) : textB b = textN (lsB b) := by
  unfold textB textN tk
  have e : (bitsL b).map txt = (lsB b).map Lib.itoa := by rw [← ls_eq hb]; simp [valB, txt, Function.comp_def]
  have e2 : (bitsL b).length = (lsB b).length := by rw [← ls_eq hb]; simp [valB]
  rw [e, e2, List.take_length]
def conRText : Con := .pure (fun args _ => match args with | [v] => IsBits v | _ => False) (fun args _ => match args with | [v] => .string ⟨⟨textN (lsB (bOf v))⟩⟩ | _ => undef)
def stRT (hp : Hp) (top : Nat) (b : T_Bits) (k : Nat) : SS := ⟨[(3, mkSl (top + 1) (lsB b), true), (4, .string ⟨⟨tk (lsB b) k⟩⟩, true), (5, .int .i64 (k : Int), true)], hp.sets [(top, some (.cells true 0 (bl b))), (top + 1, mkOb e_int (lsB b))], top + 2⟩

theorem rtext_ok : ConOk Tryd.prog 37 conRText := by
  refine .mkRd fn37_ok ?_ ?_
  · rintro args hp h
    match args, h with
    | [_], ⟨b, rfl, hb⟩ => rfl
  intro args hp hpre top hcl hsc
  match args, hpre with
  | [_], ⟨b, rfl, hb⟩ =>
  have hI := isBits_bl hb
  have hL := ls_len (b := b)
  have hA := SlT.own (hobL (hp := hp) (top := top) (b := b)) (by omega)
  simp only [bOf_bl]
  refine CalledOk.of_fun tt_ok fn37_ok rfl 29 rfl [.tmp 2] rfl (show 1 ≤ 29 by decide) ?_
  by_cases hz : (lsB b).length = 0
  · have hz1 : ((lsB b).length : Int) = 0 := by omega
    have e : textN (lsB b) = [45] := if_pos hz
    refine CW.vc env14 [0, 1, 2, 3, 4, 5, 10, 14, 18] (by kernel_rfl) ?_
    (simp (config := { maxSteps := 4000000 }) only [go_sem, reduceIte, reduceCtorEq, Nat.reduceAdd, Nat.reduceMul, Nat.reduceSub, Nat.reduceLT, Nat.reduceLeDiff, Nat.reduceEqDiff, Int.reduceEq, Int.reduceLT, Int.reduceLE, Int.reduceNe, rem64, mask64, c_iu, wrapu_mod, bl_len, bl_take, bl_ren, bl_app, bl_one, bOf_bl, Nat.mul_one, G14_num, G14_rlist, conNum, conRList, len_sint hA, idx_sint hA, ld_sint hA, sh_sint hA, sw_sint hA, hA.P, hA.oc, hA.cl, hA.rd, hA.ref, hI, hz1, e]; repeat (refine Vc.mk' ?_; simp (config := { maxSteps := 4000000 }) only [go_sem, reduceIte, reduceCtorEq, Nat.reduceAdd, Nat.reduceMul, Nat.reduceSub, Nat.reduceLT, Nat.reduceLeDiff, Nat.reduceEqDiff, Int.reduceEq, Int.reduceLT, Int.reduceLE, Int.reduceNe, rem64, mask64, c_iu, wrapu_mod, bl_len, bl_take, bl_ren, bl_app, bl_one, bOf_bl, Nat.mul_one, G14_num, G14_rlist, conNum, conRList, len_sint hA, idx_sint hA, ld_sint hA, sh_sint hA, sw_sint hA, hA.P, hA.oc, hA.cl, hA.rd, hA.ref, hI, hz1, e]))
  · have hz1 : ¬ ((lsB b).length : Int) = 0 := by omega
    have e : textN (lsB b) = tk (lsB b) (lsB b).length := if_neg hz
    refine CW.vc env14 [0, 1, 2, 3, 4, 5, 10, 14, 18] (by kernel_rfl) ?_
    (simp (config := { maxSteps := 4000000 }) only [go_sem, reduceIte, reduceCtorEq, Nat.reduceAdd, Nat.reduceMul, Nat.reduceSub, Nat.reduceLT, Nat.reduceLeDiff, Nat.reduceEqDiff, Int.reduceEq, Int.reduceLT, Int.reduceLE, Int.reduceNe, rem64, mask64, c_iu, wrapu_mod, bl_len, bl_take, bl_ren, bl_app, bl_one, bOf_bl, Nat.mul_one, G14_num, G14_rlist, conNum, conRList, len_sint hA, idx_sint hA, ld_sint hA, sh_sint hA, sw_sint hA, hA.P, hA.oc, hA.cl, hA.rd, hA.ref, hI, hz1, e]; repeat (refine Vc.mk' ?_; simp (config := { maxSteps := 4000000 }) only [go_sem, reduceIte, reduceCtorEq, Nat.reduceAdd, Nat.reduceMul, Nat.reduceSub, Nat.reduceLT, Nat.reduceLeDiff, Nat.reduceEqDiff, Int.reduceEq, Int.reduceLT, Int.reduceLE, Int.reduceNe, rem64, mask64, c_iu, wrapu_mod, bl_len, bl_take, bl_ren, bl_app, bl_one, bOf_bl, Nat.mul_one, G14_num, G14_rlist, conNum, conRList, len_sint hA, idx_sint hA, ld_sint hA, sh_sint hA, sw_sint hA, hA.P, hA.oc, hA.cl, hA.rd, hA.ref, hI, hz1, e]))
    refine CW.loopR (stRT hp top b) (fun k => k ≤ (lsB b).length) (fun k => (lsB b).length - k) 0 (Nat.zero_le _) ?_ ?_
    · exact SubR.mk' [top, top + 1] hcl (by simp) (by simp) rfl (frSub_ok (by simp [frSub, lkG, ren, renL, renL_set, renL_ints, UpdOk.nil, UpdOk.cons, renOO_some, renO_cells, renO_map, renOO_mkOb, rn_base, rn_add, ren_mkSl, Enc.flat_ren, set_same, set_ne, sets_cons, sets_nil, Keep.set, Keep.setK, Keep.refl, bl_ren, show tk (lsB b) 0 = [] from rfl])) (by simp [frSub, lkG, ren, renL, renL_set, renL_ints, UpdOk.nil, UpdOk.cons, renOO_some, renO_cells, renO_map, renOO_mkOb, rn_base, rn_add, ren_mkSl, Enc.flat_ren, set_same, set_ne, sets_cons, sets_nil, Keep.set, Keep.setK, Keep.refl, bl_ren, show tk (lsB b) 0 = [] from rfl]) (by simp [frSub, lkG, ren, renL, renL_set, renL_ints, UpdOk.nil, UpdOk.cons, renOO_some, renO_cells, renO_map, renOO_mkOb, rn_base, rn_add, ren_mkSl, Enc.flat_ren, set_same, set_ne, sets_cons, sets_nil, Keep.set, Keep.setK, Keep.refl, bl_ren, show tk (lsB b) 0 = [] from rfl])
    · intro k hk
      by_cases hlt : k < (lsB b).length
      · have hlt1 : (k : Int) < ((lsB b).length : Int) := by omega
        have ld1 := ld_sint hA hlt
        rw [Nat.mul_one] at ld1
        obtain ⟨r1, r2⟩ := ls_rng hlt
        have r0 : 0 ≤ at' (lsB b) k := by omega
        have r3 : at' (lsB b) k < 1001 := by omega
        have hs := tk_succ hlt
        have t1 := tk_len (b := b) k hk
        have t2 := Lib.itoa_length_le (at' (lsB b) k) (by omega) (by omega)
        have n1 : (tk (lsB b) k).length + 1 ≤ 4611686018427387904 := by omega
        by_cases h0 : k = 0
        · subst h0
          have p0 : ¬ (0 : Int) < ((0 : Nat) : Int) := by omega
          have n2 : (tk (lsB b) 0).length + (Lib.itoa (at' (lsB b) 0)).length ≤ 4611686018427387904 := by omega
          refine CW.vc env14 [0, 1, 2, 3, 4, 5, 10, 14, 18] (by kernel_rfl) ?_
          (simp (config := { maxSteps := 4000000 }) only [go_sem, reduceIte, reduceCtorEq, Nat.reduceAdd, Nat.reduceMul, Nat.reduceSub, Nat.reduceLT, Nat.reduceLeDiff, Nat.reduceEqDiff, Int.reduceEq, Int.reduceLT, Int.reduceLE, Int.reduceNe, rem64, mask64, c_iu, wrapu_mod, bl_len, bl_take, bl_ren, bl_app, bl_one, bOf_bl, Nat.mul_one, G14_num, G14_rlist, conNum, conRList, len_sint hA, idx_sint hA, ld_sint hA, sh_sint hA, sw_sint hA, hA.P, hA.oc, hA.cl, hA.rd, hA.ref, stRT, hlt, hlt1, ld1, r0, r3, p0, n2]; repeat (refine Vc.mk' ?_; simp (config := { maxSteps := 4000000 }) only [go_sem, reduceIte, reduceCtorEq, Nat.reduceAdd, Nat.reduceMul, Nat.reduceSub, Nat.reduceLT, Nat.reduceLeDiff, Nat.reduceEqDiff, Int.reduceEq, Int.reduceLT, Int.reduceLE, Int.reduceNe, rem64, mask64, c_iu, wrapu_mod, bl_len, bl_take, bl_ren, bl_app, bl_one, bOf_bl, Nat.mul_one, G14_num, G14_rlist, conNum, conRList, len_sint hA, idx_sint hA, ld_sint hA, sh_sint hA, sw_sint hA, hA.P, hA.oc, hA.cl, hA.rd, hA.ref, stRT, hlt, hlt1, ld1, r0, r3, p0, n2]))
          have hs1 : tk (lsB b) 1 = tk (lsB b) 0 ++ Lib.itoa (at' (lsB b) 0) := hs
          exact .mk 1 hlt (by omega) (SubR.mk' [top, top + 1] hcl (by simp) (by simp) rfl (frSub_ok (by simp [frSub, lkG, ren, renL, renL_set, renL_ints, UpdOk.nil, UpdOk.cons, renOO_some, renO_cells, renO_map, renOO_mkOb, rn_base, rn_add, ren_mkSl, Enc.flat_ren, set_same, set_ne, sets_cons, sets_nil, Keep.set, Keep.setK, Keep.refl, bl_ren, show wrapA .i64 1 = 1 from rfl, hs1])) (by simp [frSub, lkG, ren, renL, renL_set, renL_ints, UpdOk.nil, UpdOk.cons, renOO_some, renO_cells, renO_map, renOO_mkOb, rn_base, rn_add, ren_mkSl, Enc.flat_ren, set_same, set_ne, sets_cons, sets_nil, Keep.set, Keep.setK, Keep.refl, bl_ren, show wrapA .i64 1 = 1 from rfl, hs1]) (by simp [frSub, lkG, ren, renL, renL_set, renL_ints, UpdOk.nil, UpdOk.cons, renOO_some, renO_cells, renO_map, renOO_mkOb, rn_base, rn_add, ren_mkSl, Enc.flat_ren, set_same, set_ne, sets_cons, sets_nil, Keep.set, Keep.setK, Keep.refl, bl_ren, show wrapA .i64 1 = 1 from rfl, hs1]))
        · have p0 : (0 : Int) < (k : Int) := by omega
          have n2 : (tk (lsB b) k ++ [32]).length + (Lib.itoa (at' (lsB b) k)).length ≤ 4611686018427387904 := by rw [List.length_append]; simp; omega
          rw [if_neg h0] at hs
          refine CW.vc env14 [0, 1, 2, 3, 4, 5, 10, 14, 18] (by kernel_rfl) ?_
          (simp (config := { maxSteps := 4000000 }) only [go_sem, reduceIte, reduceCtorEq, Nat.reduceAdd, Nat.reduceMul, Nat.reduceSub, Nat.reduceLT, Nat.reduceLeDiff, Nat.reduceEqDiff, Int.reduceEq, Int.reduceLT, Int.reduceLE, Int.reduceNe, rem64, mask64, c_iu, wrapu_mod, bl_len, bl_take, bl_ren, bl_app, bl_one, bOf_bl, Nat.mul_one, G14_num, G14_rlist, conNum, conRList, len_sint hA, idx_sint hA, ld_sint hA, sh_sint hA, sw_sint hA, hA.P, hA.oc, hA.cl, hA.rd, hA.ref, stRT, hlt, hlt1, ld1, r0, r3, p0, n1, n2]; repeat (refine Vc.mk' ?_; simp (config := { maxSteps := 4000000 }) only [go_sem, reduceIte, reduceCtorEq, Nat.reduceAdd, Nat.reduceMul, Nat.reduceSub, Nat.reduceLT, Nat.reduceLeDiff, Nat.reduceEqDiff, Int.reduceEq, Int.reduceLT, Int.reduceLE, Int.reduceNe, rem64, mask64, c_iu, wrapu_mod, bl_len, bl_take, bl_ren, bl_app, bl_one, bOf_bl, Nat.mul_one, G14_num, G14_rlist, conNum, conRList, len_sint hA, idx_sint hA, ld_sint hA, sh_sint hA, sw_sint hA, hA.P, hA.oc, hA.cl, hA.rd, hA.ref, stRT, hlt, hlt1, ld1, r0, r3, p0, n1, n2]))
          exact .mk (k + 1) hlt (by omega) (SubR.mk' [top, top + 1] hcl (by simp) (by simp) rfl (frSub_ok (by simp [frSub, lkG, ren, renL, renL_set, renL_ints, UpdOk.nil, UpdOk.cons, renOO_some, renO_cells, renO_map, renOO_mkOb, rn_base, rn_add, ren_mkSl, Enc.flat_ren, set_same, set_ne, sets_cons, sets_nil, Keep.set, Keep.setK, Keep.refl, bl_ren, wrap_succ hlt (by omega), hs])) (by simp [frSub, lkG, ren, renL, renL_set, renL_ints, UpdOk.nil, UpdOk.cons, renOO_some, renO_cells, renO_map, renOO_mkOb, rn_base, rn_add, ren_mkSl, Enc.flat_ren, set_same, set_ne, sets_cons, sets_nil, Keep.set, Keep.setK, Keep.refl, bl_ren, wrap_succ hlt (by omega), hs]) (by simp [frSub, lkG, ren, renL, renL_set, renL_ints, UpdOk.nil, UpdOk.cons, renOO_some, renO_cells, renO_map, renOO_mkOb, rn_base, rn_add, ren_mkSl, Enc.flat_ren, set_same, set_ne, sets_cons, sets_nil, Keep.set, Keep.setK, Keep.refl, bl_ren, wrap_succ hlt (by omega), hs]))
      · have hk2 : k = (lsB b).length := by omega
        subst hk2
        refine CW.vc env14 [0, 1, 2, 3, 4, 5, 10, 14, 18] (by kernel_rfl) ?_
        (simp (config := { maxSteps := 4000000 }) only [go_sem, reduceIte, reduceCtorEq, Nat.reduceAdd, Nat.reduceMul, Nat.reduceSub, Nat.reduceLT, Nat.reduceLeDiff, Nat.reduceEqDiff, Int.reduceEq, Int.reduceLT, Int.reduceLE, Int.reduceNe, rem64, mask64, c_iu, wrapu_mod, bl_len, bl_take, bl_ren, bl_app, bl_one, bOf_bl, Nat.mul_one, G14_num, G14_rlist, conNum, conRList, len_sint hA, idx_sint hA, ld_sint hA, sh_sint hA, sw_sint hA, hA.P, hA.oc, hA.cl, hA.rd, hA.ref, stRT, Nat.lt_irrefl, decide_false]; repeat (refine Vc.mk' ?_; simp (config := { maxSteps := 4000000 }) only [go_sem, reduceIte, reduceCtorEq, Nat.reduceAdd, Nat.reduceMul, Nat.reduceSub, Nat.reduceLT, Nat.reduceLeDiff, Nat.reduceEqDiff, Int.reduceEq, Int.reduceLT, Int.reduceLE, Int.reduceNe, rem64, mask64, c_iu, wrapu_mod, bl_len, bl_take, bl_ren, bl_app, bl_one, bOf_bl, Nat.mul_one, G14_num, G14_rlist, conNum, conRList, len_sint hA, idx_sint hA, ld_sint hA, sh_sint hA, sw_sint hA, hA.P, hA.oc, hA.cl, hA.rd, hA.ref, stRT, Nat.lt_irrefl, decide_false]))
end Go.Proofs.YtkofmbhopmgmhaaDoor.Dm
