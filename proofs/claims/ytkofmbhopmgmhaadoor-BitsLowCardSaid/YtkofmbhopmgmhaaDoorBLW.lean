/- BitsLow: what it computes. -/
import Derived.Test.YtkofmbhopmgmhaaDoorBLC
set_option linter.unusedSimpArgs false
set_option linter.unusedVariables false
namespace Go.Proofs.YtkofmbhopmgmhaaDoor.Dm
open Go.Dm
set_option maxHeartbeats 8000000
theorem G11_low : G11 28 = conLow := rfl
theorem G11_list : G11 27 = conList := rfl
theorem G11_has : G11 29 = conHas := rfl
theorem G11_without : G11 30 = conSet delB := rfl
theorem G11_count : G11 26 = conCount := rfl
theorem G11_works : G11 15 = conWorks := rfl
def stLW (hp : Hp) (top : Nat) (b : T_Bits) (i : Nat) : SS := ⟨[(1, .pointer (some ⟨top, 0, none⟩), true), (3, mkSl (top + 1) (lsB b), true), (4, .pointer (some ⟨top + 2, 0, none⟩), true), (5, .int .i64 (i : Int), true)], hp.sets [(top, some (.cells true 0 (bl b))), (top + 1, mkOb e_int (lsB b)), (top + 2, some (.cells true 0 (bl (lowS b i))))], top + 3⟩
def conBLow : Con := .pure (fun args hp => match args with | [v] => IsBits v ∧ hp 0 = some tzO ∧ hp 1 = some powO | _ => False) (fun _ _ => .bool true)

theorem blow_ok : ConOk Tryd.prog 7 conBLow := by
  refine .mkRd fn7_ok (fun _ _ _ => rfl) ?_
  intro args hp hpre top hcl hsc
  match args, hpre with
  | [_], ⟨⟨b, rfl, hb⟩, ht, hp1⟩ =>
  have ht0 := hcl.lt _ _ ht
  have ht1 := hcl.lt _ _ hp1
  have hz : [Value.int .u64 0, Value.int .u64 0, Value.int .u64 0, Value.int .u64 0] = bl zb := rfl
  have i0 := isBits_bl hb
  have hL := ls_len (b := b)
  have hLn : (lsB b).length < 16777216 := by omega
  refine CalledOk.of_fun tt_ok fn7_ok rfl 78 rfl [.tmp 2] rfl (show 1 ≤ 78 by decide) ?_
  refine CW.vc env11 [0, 1, 2, 3, 4, 5, 6, 7, 8, 15, 44, 65] (by kernel_rfl) ?_
  (simp (config := { maxSteps := 4000000 }) only [go_sem, reduceIte, reduceCtorEq, Nat.reduceAdd, Nat.reduceMul, Nat.reduceSub, Nat.reduceLT, Nat.reduceLeDiff, Nat.reduceEqDiff, Int.reduceEq, Int.reduceLT, Int.reduceLE, Int.reduceNe, rem64, mask64, c_iu, wrapu_mod, bl_len, bl_take, bl_ren, bl_app, bl_one, bOf_bl, Nat.mul_one, G11_low, G11_list, G11_has, G11_without, G11_count, G11_works, conLow, conList, conHas, conSet, conCount, conWorks, i0, set_lt ht0, ht]; repeat (refine Vc.mk' ?_; simp (config := { maxSteps := 4000000 }) only [go_sem, reduceIte, reduceCtorEq, Nat.reduceAdd, Nat.reduceMul, Nat.reduceSub, Nat.reduceLT, Nat.reduceLeDiff, Nat.reduceEqDiff, Int.reduceEq, Int.reduceLT, Int.reduceLE, Int.reduceNe, rem64, mask64, c_iu, wrapu_mod, bl_len, bl_take, bl_ren, bl_app, bl_one, bOf_bl, Nat.mul_one, G11_low, G11_list, G11_has, G11_without, G11_count, G11_works, conLow, conList, conHas, conSet, conCount, conWorks, i0, set_lt ht0, ht]))
  refine CW.loopR (stLW hp top b) (fun k => k ≤ (lsB b).length) (fun k => (lsB b).length - k) 0 (Nat.zero_le _) ?_ ?_
  · exact SubR.mk' [top, top + 1, top + 2] hcl (by simp) (by simp) rfl (frSub_ok (by simp [frSub, lkG, ren, renL, renL_set, renL_ints, UpdOk.nil, UpdOk.cons, renOO_some, renO_cells, renO_map, renOO_mkOb, rn_base, rn_add, ren_mkSl, Enc.flat_ren, set_same, set_ne, sets_cons, sets_nil, Keep.set, Keep.setK, Keep.refl, bl_ren, lowS])) (by simp [frSub, lkG, ren, renL, renL_set, renL_ints, UpdOk.nil, UpdOk.cons, renOO_some, renO_cells, renO_map, renOO_mkOb, rn_base, rn_add, ren_mkSl, Enc.flat_ren, set_same, set_ne, sets_cons, sets_nil, Keep.set, Keep.setK, Keep.refl, bl_ren, lowS]) (by simp [frSub, lkG, ren, renL, renL_set, renL_ints, UpdOk.nil, UpdOk.cons, renOO_some, renO_cells, renO_map, renOO_mkOb, rn_base, rn_add, ren_mkSl, Enc.flat_ren, set_same, set_ne, sets_cons, sets_nil, Keep.set, Keep.setK, Keep.refl, bl_ren, lowS])
  · intro i hi
    have hob : ((hp.set top (some (AObj.cells true 0 (bl b)))).set (top + 1) (mkOb e_int (lsB b))).set (top + 2) (some (AObj.cells true 0 (bl (lowS b i)))) (top + 1) = mkOb e_int (lsB b) := by
      rw [set_ne _ _ _ _ (by omega), set_same]
    have hA := SlT.own hob (by omega)
    have iI := isBits_bl (lowS_ok hb i)
    by_cases hlt : i < (lsB b).length
    · have e0 := lowS_ls (b := b) i hi
      have e : (lsB b).drop i = at' (lsB b) i :: (lsB b).drop (i + 1) := at_get? hlt
      rw [e] at e0
      have iD := isBits_bl (delB_ok (k := (at' (lsB b) i - 1).toNat) (lowS_ok hb i))
      have en : lowS b (i + 1) = delB (lowS b i) (at' (lsB b) i - 1).toNat := by rw [lowS, e0]; rfl
      have e1 : hd0 (lsB (lowS b i)) = at' (lsB b) i := by rw [e0]; rfl
      have c1 : cnt (lowS b i) 4 = ((lsB b).length : Int) - i := by
        rw [cnt_ls (lowS_ok hb i), lowS_ls i hi, List.length_drop]; omega
      have c2 : cnt (delB (lowS b i) (at' (lsB b) i - 1).toNat) 4 = ((lsB b).length : Int) - i - 1 := by
        rw [← en, cnt_ls (lowS_ok hb _), lowS_ls _ hlt, List.length_drop]; omega
      obtain ⟨k, k1, k2, k3, k4, k5⟩ := ls_cons e0
      have h1 : rightB (at' (lsB b) i) = true := by rw [k2]; simp [rightB]; omega
      have ek : (at' (lsB b) i - 1).toNat = k := by rw [k2]; omega
      have h2 : hasB (lowS b i) (at' (lsB b) i - 1).toNat = true := by rw [ek]; exact k3
      have h3 : hasB (delB (lowS b i) (at' (lsB b) i - 1).toNat) (at' (lsB b) i - 1).toNat = false := by rw [ek, hasB_del k1 k1]; simp
      have w1 : wrapA .i64 (((lsB b).length : Int) - i - 1) = ((lsB b).length : Int) - i - 1 := by rw [wrap64 (by omega) (by omega)]
      have ld1 : sload tt.get (((hp.set top (some (AObj.cells true 0 (bl b)))).set (top + 1) (mkOb e_int (lsB b))).set (top + 2) (some (AObj.cells true 0 (bl (lowS b i))))) 3 (ptrS (mkSl (top + 1) (lsB b)) i) = (.int .i64 (at' (lsB b) i), True) := by have := ld_sint hA hlt; rwa [Nat.mul_one] at this
      rcases i with _ | j
      · have p0 : ¬ (0 : Int) < ((0 : Nat) : Int) := by omega
        refine CW.vc env11 [0, 1, 2, 3, 4, 5, 6, 7, 8, 15, 44, 65] (by kernel_rfl) ?_
        (simp (config := { maxSteps := 4000000 }) only [go_sem, reduceIte, reduceCtorEq, Nat.reduceAdd, Nat.reduceMul, Nat.reduceSub, Nat.reduceLT, Nat.reduceLeDiff, Nat.reduceEqDiff, Int.reduceEq, Int.reduceLT, Int.reduceLE, Int.reduceNe, rem64, mask64, c_iu, wrapu_mod, bl_len, bl_take, bl_ren, bl_app, bl_one, bOf_bl, Nat.mul_one, G11_low, G11_list, G11_has, G11_without, G11_count, G11_works, conLow, conList, conHas, conSet, conCount, conWorks, len_sint hA, idx_sint hA, ld_sint hA, sh_sint hA, sw_sint hA, hA.P, hA.oc, hA.cl, hA.rd, hA.ref, stLW, hlt, ld1, e1, c1, c2, h1, h2, h3, w1, iI, iD, pairB_t, p0, set_lt ht0, ht, Bool.or_false, Bool.false_or, decide_true, Bool.not_true]; repeat (refine Vc.mk' ?_; simp (config := { maxSteps := 4000000 }) only [go_sem, reduceIte, reduceCtorEq, Nat.reduceAdd, Nat.reduceMul, Nat.reduceSub, Nat.reduceLT, Nat.reduceLeDiff, Nat.reduceEqDiff, Int.reduceEq, Int.reduceLT, Int.reduceLE, Int.reduceNe, rem64, mask64, c_iu, wrapu_mod, bl_len, bl_take, bl_ren, bl_app, bl_one, bOf_bl, Nat.mul_one, G11_low, G11_list, G11_has, G11_without, G11_count, G11_works, conLow, conList, conHas, conSet, conCount, conWorks, len_sint hA, idx_sint hA, ld_sint hA, sh_sint hA, sw_sint hA, hA.P, hA.oc, hA.cl, hA.rd, hA.ref, stLW, hlt, ld1, e1, c1, c2, h1, h2, h3, w1, iI, iD, pairB_t, p0, set_lt ht0, ht, Bool.or_false, Bool.false_or, decide_true, Bool.not_true]))
        refine .mk 1 hlt (by omega) (SubR.mk' [top, top + 1, top + 2] hcl (by simp) (by simp) rfl (frSub_ok (by simp [frSub, lkG, ren, renL, renL_set, renL_ints, UpdOk.nil, UpdOk.cons, renOO_some, renO_cells, renO_map, renOO_mkOb, rn_base, rn_add, ren_mkSl, Enc.flat_ren, set_same, set_ne, sets_cons, sets_nil, Keep.set, Keep.setK, Keep.refl, bl_ren, show wrapA .i64 1 = 1 from rfl, en])) (by simp [frSub, lkG, ren, renL, renL_set, renL_ints, UpdOk.nil, UpdOk.cons, renOO_some, renO_cells, renO_map, renOO_mkOb, rn_base, rn_add, ren_mkSl, Enc.flat_ren, set_same, set_ne, sets_cons, sets_nil, Keep.set, Keep.setK, Keep.refl, bl_ren, show wrapA .i64 1 = 1 from rfl, en]) (by simp [frSub, lkG, ren, renL, renL_set, renL_ints, UpdOk.nil, UpdOk.cons, renOO_some, renO_cells, renO_map, renOO_mkOb, rn_base, rn_add, ren_mkSl, Enc.flat_ren, set_same, set_ne, sets_cons, sets_nil, Keep.set, Keep.setK, Keep.refl, bl_ren, show wrapA .i64 1 = 1 from rfl, en]))
      · have p0 : (0 : Int) < ((j + 1 : Nat) : Int) := by omega
        have hltj : j < (lsB b).length := by omega
        have wj : wrapA .i64 (((j + 1 : Nat) : Int) - 1) = (j : Int) := by rw [wrap64 (by omega) (by omega)]; omega
        have ldj : sload tt.get (((hp.set top (some (AObj.cells true 0 (bl b)))).set (top + 1) (mkOb e_int (lsB b))).set (top + 2) (some (AObj.cells true 0 (bl (lowS b (j + 1)))))) 3 (ptrS (mkSl (top + 1) (lsB b)) j) = (.int .i64 (at' (lsB b) j), True) := by have := ld_sint hA hltj; rwa [Nat.mul_one] at this
        have lj : at' (lsB b) j < at' (lsB b) (j + 1) := by
          rw [at'_get _ _ hltj, at'_get _ _ hlt]
          exact List.pairwise_iff_getElem.1 ls_sorted _ _ _ _ (by omega)
        refine CW.vc env11 [0, 1, 2, 3, 4, 5, 6, 7, 8, 15, 44, 65] (by kernel_rfl) ?_
        (simp (config := { maxSteps := 4000000 }) only [go_sem, reduceIte, reduceCtorEq, Nat.reduceAdd, Nat.reduceMul, Nat.reduceSub, Nat.reduceLT, Nat.reduceLeDiff, Nat.reduceEqDiff, Int.reduceEq, Int.reduceLT, Int.reduceLE, Int.reduceNe, rem64, mask64, c_iu, wrapu_mod, bl_len, bl_take, bl_ren, bl_app, bl_one, bOf_bl, Nat.mul_one, G11_low, G11_list, G11_has, G11_without, G11_count, G11_works, conLow, conList, conHas, conSet, conCount, conWorks, len_sint hA, idx_sint hA, ld_sint hA, sh_sint hA, sw_sint hA, hA.P, hA.oc, hA.cl, hA.rd, hA.ref, stLW, hlt, hltj, ld1, ldj, lj, wj, e1, c1, c2, h1, h2, h3, w1, iI, iD, pairB_t, p0, set_lt ht0, ht, Bool.or_false, Bool.false_or, decide_true, Bool.not_true]; repeat (refine Vc.mk' ?_; simp (config := { maxSteps := 4000000 }) only [go_sem, reduceIte, reduceCtorEq, Nat.reduceAdd, Nat.reduceMul, Nat.reduceSub, Nat.reduceLT, Nat.reduceLeDiff, Nat.reduceEqDiff, Int.reduceEq, Int.reduceLT, Int.reduceLE, Int.reduceNe, rem64, mask64, c_iu, wrapu_mod, bl_len, bl_take, bl_ren, bl_app, bl_one, bOf_bl, Nat.mul_one, G11_low, G11_list, G11_has, G11_without, G11_count, G11_works, conLow, conList, conHas, conSet, conCount, conWorks, len_sint hA, idx_sint hA, ld_sint hA, sh_sint hA, sw_sint hA, hA.P, hA.oc, hA.cl, hA.rd, hA.ref, stLW, hlt, hltj, ld1, ldj, lj, wj, e1, c1, c2, h1, h2, h3, w1, iI, iD, pairB_t, p0, set_lt ht0, ht, Bool.or_false, Bool.false_or, decide_true, Bool.not_true]))
        have w2 : wrapA .i64 ((j : Int) + 1 + 1) = (j : Int) + 1 + 1 := by rw [wrap64 (by omega) (by omega)]
        refine .mk (j + 1 + 1) hlt (by omega) (SubR.mk' [top, top + 1, top + 2] hcl (by simp) (by simp) rfl (frSub_ok (by simp [frSub, lkG, ren, renL, renL_set, renL_ints, UpdOk.nil, UpdOk.cons, renOO_some, renO_cells, renO_map, renOO_mkOb, rn_base, rn_add, ren_mkSl, Enc.flat_ren, set_same, set_ne, sets_cons, sets_nil, Keep.set, Keep.setK, Keep.refl, bl_ren, w2, en])) (by simp [frSub, lkG, ren, renL, renL_set, renL_ints, UpdOk.nil, UpdOk.cons, renOO_some, renO_cells, renO_map, renOO_mkOb, rn_base, rn_add, ren_mkSl, Enc.flat_ren, set_same, set_ne, sets_cons, sets_nil, Keep.set, Keep.setK, Keep.refl, bl_ren, w2, en]) (by simp [frSub, lkG, ren, renL, renL_set, renL_ints, UpdOk.nil, UpdOk.cons, renOO_some, renO_cells, renO_map, renOO_mkOb, rn_base, rn_add, ren_mkSl, Enc.flat_ren, set_same, set_ne, sets_cons, sets_nil, Keep.set, Keep.setK, Keep.refl, bl_ren, w2, en]))
    · have hi2 : i = (lsB b).length := by omega
      subst hi2
      have e0 : lowS b (lsB b).length = zb := ls_nil (lowS_ok hb _) (by rw [lowS_ls _ (Nat.le_refl _), List.drop_length])
      rw [e0] at iI
      have e1 : hd0 (lsB zb) = 0 := by rw [ls_zb]; rfl
      refine CW.vc env11 [0, 1, 2, 3, 4, 5, 6, 7, 8, 15, 44, 65] (by kernel_rfl) ?_
      (simp (config := { maxSteps := 4000000 }) only [go_sem, reduceIte, reduceCtorEq, Nat.reduceAdd, Nat.reduceMul, Nat.reduceSub, Nat.reduceLT, Nat.reduceLeDiff, Nat.reduceEqDiff, Int.reduceEq, Int.reduceLT, Int.reduceLE, Int.reduceNe, rem64, mask64, c_iu, wrapu_mod, bl_len, bl_take, bl_ren, bl_app, bl_one, bOf_bl, Nat.mul_one, G11_low, G11_list, G11_has, G11_without, G11_count, G11_works, conLow, conList, conHas, conSet, conCount, conWorks, len_sint hA, idx_sint hA, ld_sint hA, sh_sint hA, sw_sint hA, hA.P, hA.oc, hA.cl, hA.rd, hA.ref, stLW, Nat.lt_irrefl, decide_false, e0, hz, bits_eql, iI, e1, set_lt ht0, set_lt ht1, ht, hp1, decide_true]; repeat (refine Vc.mk' ?_; simp (config := { maxSteps := 4000000 }) only [go_sem, reduceIte, reduceCtorEq, Nat.reduceAdd, Nat.reduceMul, Nat.reduceSub, Nat.reduceLT, Nat.reduceLeDiff, Nat.reduceEqDiff, Int.reduceEq, Int.reduceLT, Int.reduceLE, Int.reduceNe, rem64, mask64, c_iu, wrapu_mod, bl_len, bl_take, bl_ren, bl_app, bl_one, bOf_bl, Nat.mul_one, G11_low, G11_list, G11_has, G11_without, G11_count, G11_works, conLow, conList, conHas, conSet, conCount, conWorks, len_sint hA, idx_sint hA, ld_sint hA, sh_sint hA, sw_sint hA, hA.P, hA.oc, hA.cl, hA.rd, hA.ref, stLW, Nat.lt_irrefl, decide_false, e0, hz, bits_eql, iI, e1, set_lt ht0, set_lt ht1, ht, hp1, decide_true]))
end Go.Proofs.YtkofmbhopmgmhaaDoor.Dm
