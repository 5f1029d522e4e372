/- BitsKnown: what it computes. -/
import Derived.Test.YtkofmbhopmgmhaaDoorBPW
set_option linter.unusedSimpArgs false
set_option linter.unusedVariables false
namespace Go.Proofs.YtkofmbhopmgmhaaDoor.Dm
open Go.Dm
set_option maxHeartbeats 16000000
set_option maxRecDepth 20000
theorem G18_of : G18 12 = conOf := rfl
theorem G18_bytes : G18 16 = conBytes := rfl
theorem G18_read : G18 18 = conRead := rfl
theorem G18_text : G18 36 = conText := rfl
theorem G18_below : G18 34 = conBelow := rfl
theorem G18_has : G18 29 = conHas := rfl
theorem G18_with : G18 38 = conSet putB := rfl
theorem G18_without : G18 30 = conSet delB := rfl
def kb : T_Bits := ⟨9223372036854775809, 1, 0, 9223372036854775808⟩
theorem kb_ok : OkB kb := by unfold OkB U64; decide
theorem of_k : ofL zb [1, 64, 65, 256, 64] = (kb, 0) := by decide +kernel
def kN : List Int := [0, -1, 257, 4611686018427387904]
def kW : List Int := [0, 12, 264, -8]
def kS : List (List UInt8) := [[], [51, 32, 49], [49, 32, 49], [48, 49], [50, 53, 55], [48], [49, 32, 32, 50], [32, 49], [49, 32], [43, 49], [45, 45]]
theorem kN_bad : ∀ n ∈ kN, rightB n = false := by decide +kernel
theorem kW_bad : ∀ n ∈ kW, bytE zb n = 2 := by decide +kernel
theorem kS_bad : ∀ s ∈ kS, parE s = 4 := by decide +kernel
theorem kS_len : ∀ s ∈ kS, s.length < 4294967281 := by decide +kernel
theorem kbl : Value.agg ⟨[.int .u64 9223372036854775809, .int .u64 1, .int .u64 0, .int .u64 9223372036854775808]⟩ = .agg ⟨bl kb⟩ := rfl
theorem zbB : IsBits (.agg ⟨[.int .u64 0, .int .u64 0, .int .u64 0, .int .u64 0]⟩) = True := isBits_bl zb_ok
theorem zbO : bOf (.agg ⟨[.int .u64 0, .int .u64 0, .int .u64 0, .int .u64 0]⟩) = zb := rfl
theorem kb_has : hasB kb (65 - 1 : Int).toNat = true := by decide +kernel
theorem r65 : rightB 65 = true := by decide +kernel
theorem r0 : rightB 0 = false := by decide +kernel
theorem r257 : rightB 257 = false := by decide +kernel
theorem kb_below : belowB kb 255 = false := by decide +kernel
theorem zb_below0 : belowB zb 0 = true := by decide +kernel
theorem zb_below257 : belowB zb 257 = false := by decide +kernel
theorem zb_belowm : belowB zb (-1) = false := by decide +kernel
theorem zb_text : textB zb = [45] := by rw [textN_eq zb_ok, ls_zb]; rfl
theorem zb_read : rdE [] = 4 := rfl
theorem one_of {n : Int} (h : rightB n = false) : ofL zb [n] = (zb, 2) := by unfold ofL; simp [h]
theorem reps5 {v : Value} : reps 5 v = [v, v, v, v, v] := rfl
theorem reps4 {v : Value} : reps 4 v = [v, v, v, v] := rfl
theorem reps11 {v : Value} : reps 11 v = [v, v, v, v, v, v, v, v, v, v, v] := rfl
theorem reps33 {v : Value} : reps 33 v = List.replicate 33 v := rfl
theorem slenN {hp : Hp} {a : Option Addr} {n c : Nat} : slen tt.get hp 22 (.slice a n c) = (.int .i64 (n : Int), True) := by
  unfold slen; simp only [k_sint, lenA, t_sint, ti22]; rfl
theorem slenT {hp : Hp} {a : Option Addr} {n c : Nat} : slen tt.get hp 50 (.slice a n c) = (.int .i64 (n : Int), True) := by
  unfold slen; simp only [k_sstring, lenA, t_sstring, ti50]; rfl
theorem mkN {b : Nat} : mkSl b kN = .slice (some ⟨b, 0, none⟩) 4 4 := rfl
theorem mkW {b : Nat} : mkSl b kW = .slice (some ⟨b, 0, none⟩) 4 4 := rfl
theorem mkS {b : Nat} : mkSl b kS = .slice (some ⟨b, 0, none⟩) 11 11 := rfl
theorem obN : mkOb e_int kN = some (.cells true 1 [.int .i64 0, .int .i64 (-1), .int .i64 257, .int .i64 4611686018427387904]) := rfl
theorem obW : mkOb e_int kW = some (.cells true 1 [.int .i64 0, .int .i64 12, .int .i64 264, .int .i64 (-8)]) := rfl
theorem obS : mkOb e_string kS = some (.cells true 1 [.string ⟨⟨[]⟩⟩, .string ⟨⟨[51, 32, 49]⟩⟩, .string ⟨⟨[49, 32, 49]⟩⟩, .string ⟨⟨[48, 49]⟩⟩, .string ⟨⟨[50, 53, 55]⟩⟩, .string ⟨⟨[48]⟩⟩, .string ⟨⟨[49, 32, 32, 50]⟩⟩, .string ⟨⟨[32, 49]⟩⟩, .string ⟨⟨[49, 32]⟩⟩, .string ⟨⟨[43, 49]⟩⟩, .string ⟨⟨[45, 45]⟩⟩]) := rfl
theorem n4 : ((4 : Nat) : Int) = 4 := rfl
theorem n11 : ((11 : Nat) : Int) = 11 := rfl
theorem oneP {h : Hp} {b : Nat} {n : Int} : SlP e_int (h.set b (some (.cells true 1 [.int .i64 n]))) (.slice (some ⟨b, 0, none⟩) 1 1) = True := own_P (l := [n]) (set_same ..) (by simp)
theorem oneR {h : Hp} {b : Nat} {n : Int} : e_int.rd (h.set b (some (.cells true 1 [.int .i64 n]))) (.slice (some ⟨b, 0, none⟩) 1 1) = [n] := own_rd (l := [n]) (set_same ..) (by simp)
theorem cv33 {h : Hp} {b : Nat} : sconvH tt.get (h.set b (some (.cells true 1 (reps 33 (.int .u8 0))))) 51 9 (.slice (some ⟨b, 0, none⟩) 33 33) = (.string ⟨⟨List.replicate 33 0⟩⟩, True) :=
  sconvH_bytes (l := List.replicate 33 0) k_suint8 k_uint8 k_string (set_same ..) rfl (by rw [reps_len]; omega)
theorem rd33 : rdE (List.replicate 33 0) = 4 := rfl
theorem stS {s : List UInt8} : strOf (.string ⟨⟨s⟩⟩) = s := rfl
theorem zbA : Value.agg ⟨[.int .u64 0, .int .u64 0, .int .u64 0, .int .u64 0]⟩ = .agg ⟨bl zb⟩ := rfl
def conKnown : Con := .pure (fun args hp => args = [] ∧ hp 0 = some tzO ∧ VarsOk hp) (fun _ _ => .bool true)
def stK1 (hp : Hp) (top : Nat) (k : Nat) : SS := ⟨[(0, .bool false, true), (1, .pointer (some ⟨top, 0, none⟩), true), (67, mkSl (top + 1) kN, true), (68, .int .i64 4, true), (69, .int .i64 (k : Int), true)], hp.sets [(top, some (.cells true 0 (bl kb))), (top + 1, mkOb e_int kN)], top + 2⟩
def stK2 (hp : Hp) (top : Nat) (k : Nat) : SS := ⟨[(0, .bool false, true), (102, mkSl top kW, true), (103, .int .i64 4, true), (104, .int .i64 (k : Int), true)], hp.sets [(top, mkOb e_int kW)], top + 1⟩
def stK3 (hp : Hp) (top : Nat) (k : Nat) : SS := ⟨[(0, .bool false, true), (117, mkSl top kS, true), (118, .int .i64 11, true), (119, .int .i64 (k : Int), true)], hp.sets [(top, mkOb e_string kS)], top + 1⟩

theorem known_ok : ConOk Tryd.prog 11 conKnown := by
  refine .mkRd fn11_ok (fun _ _ _ => rfl) ?_
  rintro args hp ⟨rfl, ht, hv⟩ top hcl hsc
  have ht5 := vars_top hcl hv
  have ht0 : 0 < top := by omega
  have ht1 : 1 < top := by omega
  have hp1 := hv.1
  have v1 : ∀ (i : Nat) (h : Hp) (o : Option AObj), VarsOk (h.set (top + i) o) = VarsOk h := fun i h o => vars_set (by omega)
  have v0 : ∀ (h : Hp) (o : Option AObj), VarsOk (h.set top o) = VarsOk h := fun h o => vars_set ht5
  have hI := isBits_bl kb_ok
  have hZ := isBits_bl zb_ok
  have hP : SlP e_int (hp.set top (some (.cells true 1 [.int .i64 1, .int .i64 64, .int .i64 65, .int .i64 256, .int .i64 64]))) (.slice (some ⟨top, 0, none⟩) 5 5) = True := own_P (l := [1, 64, 65, 256, 64]) (set_same ..) (by decide)
  have hR : e_int.rd (hp.set top (some (.cells true 1 [.int .i64 1, .int .i64 64, .int .i64 65, .int .i64 256, .int .i64 64]))) (.slice (some ⟨top, 0, none⟩) 5 5) = [1, 64, 65, 256, 64] := own_rd (l := [1, 64, 65, 256, 64]) (set_same ..) (by decide)
  refine CalledOk.of_fun tt_ok fn11_ok rfl 168 rfl [.tmp 0] rfl (show 0 ≤ 168 by decide) ?_
  refine CW.vc env18 [0, 1, 2, 4, 6, 8, 10, 12, 14, 16, 18, 20, 22, 23, 24, 66, 67, 68, 69, 70, 100, 102, 103, 104, 105, 115, 117, 118, 119, 120, 129] (by kernel_rfl) ?_
  (simp (config := { maxSteps := 6000000 }) only [go_sem, reduceIte, reduceCtorEq, Nat.reduceAdd, Nat.reduceMul, Nat.reduceSub, Nat.reduceLT, Nat.reduceLeDiff, Nat.reduceEqDiff, Int.reduceEq, Int.reduceLT, Int.reduceLE, Int.reduceNe, rem64, mask64, c_iu, wrapu_mod, bl_len, bl_take, bl_ren, bl_app, bl_one, bOf_bl, Nat.mul_one, G18_parse, G18_works, G18_of, G18_bytes, G18_read, G18_text, G18_below, G18_has, G18_with, G18_without, conParse, conWorks, conOf, conBytes, conRead, conText, conBelow, conHas, conSet, parV, bytV_eq, readV_eq, reps5, reps4, List.drop_succ_cons, List.drop_zero, List.length_cons, List.drop_nil, hP, hR, of_k, hI, hZ, bits_eql, bits_neq, Bool.false_and, Bool.or_false, Bool.or_self, kb_has, r65, r0, r257, kbl, zbB, zbO, kb_below, zb_below0, zb_below257, zb_belowm, slenN, n4]; repeat (refine Vc.mk' ?_; simp (config := { maxSteps := 6000000 }) only [go_sem, reduceIte, reduceCtorEq, Nat.reduceAdd, Nat.reduceMul, Nat.reduceSub, Nat.reduceLT, Nat.reduceLeDiff, Nat.reduceEqDiff, Int.reduceEq, Int.reduceLT, Int.reduceLE, Int.reduceNe, rem64, mask64, c_iu, wrapu_mod, bl_len, bl_take, bl_ren, bl_app, bl_one, bOf_bl, Nat.mul_one, G18_parse, G18_works, G18_of, G18_bytes, G18_read, G18_text, G18_below, G18_has, G18_with, G18_without, conParse, conWorks, conOf, conBytes, conRead, conText, conBelow, conHas, conSet, parV, bytV_eq, readV_eq, reps5, reps4, List.drop_succ_cons, List.drop_zero, List.length_cons, List.drop_nil, hP, hR, of_k, hI, hZ, bits_eql, bits_neq, Bool.false_and, Bool.or_false, Bool.or_self, kb_has, r65, r0, r257, kbl, zbB, zbO, kb_below, zb_below0, zb_below257, zb_belowm, slenN, n4]))
  refine CW.loopR (stK1 hp top) (fun k => k ≤ 4) (fun k => 4 - k) 0 (by omega) ?_ ?_
  · exact SubR.mk' [top + 1, top + 2] hcl (by simp) (by simp) rfl (frSub_ok (by simp [frSub, lkG, ren, renL, renL_set, renL_ints, UpdOk.nil, UpdOk.cons, renOO_some, renO_cells, renO_map, renOO_mkOb, rn_base, rn_add, ren_mkSl, Enc.flat_ren, set_same, set_ne, sets_cons, sets_nil, Keep.set, Keep.setK, Keep.refl, bl_ren, mkN, obN])) (by simp [frSub, lkG, ren, renL, renL_set, renL_ints, UpdOk.nil, UpdOk.cons, renOO_some, renO_cells, renO_map, renOO_mkOb, rn_base, rn_add, ren_mkSl, Enc.flat_ren, set_same, set_ne, sets_cons, sets_nil, Keep.set, Keep.setK, Keep.refl, bl_ren, mkN, obN]) (by simp [frSub, lkG, ren, renL, renL_set, renL_ints, UpdOk.nil, UpdOk.cons, renOO_some, renO_cells, renO_map, renOO_mkOb, rn_base, rn_add, ren_mkSl, Enc.flat_ren, set_same, set_ne, sets_cons, sets_nil, Keep.set, Keep.setK, Keep.refl, bl_ren, mkN, obN])
  intro k hk
  have hob : ((hp.set top (some (.cells true 0 (bl kb)))).set (top + 1) (mkOb e_int kN)) (top + 1) = mkOb e_int kN := set_same ..
  have hA := SlT.ownB hob (by decide)
  by_cases hlt : k < kN.length
  · have hlt1 : (k : Int) < 4 := by have : kN.length = 4 := rfl; omega
    have ld1 := ld_sint hA hlt
    rw [Nat.mul_one] at ld1
    obtain ⟨n, hn⟩ : ∃ n, at' kN k = n := ⟨_, rfl⟩
    have hb := kN_bad n (by rw [← hn, at'_get _ _ hlt]; exact List.getElem_mem hlt)
    have hb2 := one_of hb
    rw [hn] at ld1
    refine CW.vc env18 [0, 1, 2, 4, 6, 8, 10, 12, 14, 16, 18, 20, 22, 23, 24, 66, 67, 68, 69, 70, 100, 102, 103, 104, 105, 115, 117, 118, 119, 120, 129] (by kernel_rfl) ?_
    (simp (config := { maxSteps := 6000000 }) only [go_sem, reduceIte, reduceCtorEq, Nat.reduceAdd, Nat.reduceMul, Nat.reduceSub, Nat.reduceLT, Nat.reduceLeDiff, Nat.reduceEqDiff, Int.reduceEq, Int.reduceLT, Int.reduceLE, Int.reduceNe, rem64, mask64, c_iu, wrapu_mod, bl_len, bl_take, bl_ren, bl_app, bl_one, bOf_bl, Nat.mul_one, G18_parse, G18_works, G18_of, G18_bytes, G18_read, G18_text, G18_below, G18_has, G18_with, G18_without, conParse, conWorks, conOf, conBytes, conRead, conText, conBelow, conHas, conSet, parV, bytV_eq, readV_eq, len_sint hA, idx_sint hA, ld_sint hA, sh_sint hA, sw_sint hA, hA.P, hA.oc, hA.cl, hA.rd, hA.ref, stK1, hlt, hlt1, ld1, hI, hb, hb2, oneP, oneR, pairB_f]; repeat (refine Vc.mk' ?_; simp (config := { maxSteps := 6000000 }) only [go_sem, reduceIte, reduceCtorEq, Nat.reduceAdd, Nat.reduceMul, Nat.reduceSub, Nat.reduceLT, Nat.reduceLeDiff, Nat.reduceEqDiff, Int.reduceEq, Int.reduceLT, Int.reduceLE, Int.reduceNe, rem64, mask64, c_iu, wrapu_mod, bl_len, bl_take, bl_ren, bl_app, bl_one, bOf_bl, Nat.mul_one, G18_parse, G18_works, G18_of, G18_bytes, G18_read, G18_text, G18_below, G18_has, G18_with, G18_without, conParse, conWorks, conOf, conBytes, conRead, conText, conBelow, conHas, conSet, parV, bytV_eq, readV_eq, len_sint hA, idx_sint hA, ld_sint hA, sh_sint hA, sw_sint hA, hA.P, hA.oc, hA.cl, hA.rd, hA.ref, stK1, hlt, hlt1, ld1, hI, hb, hb2, oneP, oneR, pairB_f]))
    have kw : wrapA .i64 ((k : Int) + 1) = ((k + 1 : Nat) : Int) := by rw [wrap64 (by omega) (by omega)]; omega
    refine .mk (k + 1) (by have : kN.length = 4 := rfl; omega) (by have : kN.length = 4 := rfl; omega) (SubR.mk' [top, top + 1] hcl (by simp) (by simp) rfl (frSub_ok (by simp [frSub, lkG, ren, renL, renL_set, renL_ints, UpdOk.nil, UpdOk.cons, renOO_some, renO_cells, renO_map, renOO_mkOb, rn_base, rn_add, ren_mkSl, Enc.flat_ren, set_same, set_ne, sets_cons, sets_nil, Keep.set, Keep.setK, Keep.refl, bl_ren, kw])) (by simp [frSub, lkG, ren, renL, renL_set, renL_ints, UpdOk.nil, UpdOk.cons, renOO_some, renO_cells, renO_map, renOO_mkOb, rn_base, rn_add, ren_mkSl, Enc.flat_ren, set_same, set_ne, sets_cons, sets_nil, Keep.set, Keep.setK, Keep.refl, bl_ren, kw]) (by simp [frSub, lkG, ren, renL, renL_set, renL_ints, UpdOk.nil, UpdOk.cons, renOO_some, renO_cells, renO_map, renOO_mkOb, rn_base, rn_add, ren_mkSl, Enc.flat_ren, set_same, set_ne, sets_cons, sets_nil, Keep.set, Keep.setK, Keep.refl, bl_ren, kw]))
  have hlt1 : ¬ (k : Int) < 4 := by have : kN.length = 4 := rfl; omega
  refine CW.vc env18 [0, 1, 2, 4, 6, 8, 10, 12, 14, 16, 18, 20, 22, 23, 24, 66, 67, 68, 69, 70, 100, 102, 103, 104, 105, 115, 117, 118, 119, 120, 129] (by kernel_rfl) ?_
  (simp (config := { maxSteps := 6000000 }) only [go_sem, reduceIte, reduceCtorEq, Nat.reduceAdd, Nat.reduceMul, Nat.reduceSub, Nat.reduceLT, Nat.reduceLeDiff, Nat.reduceEqDiff, Int.reduceEq, Int.reduceLT, Int.reduceLE, Int.reduceNe, rem64, mask64, c_iu, wrapu_mod, bl_len, bl_take, bl_ren, bl_app, bl_one, bOf_bl, Nat.mul_one, G18_parse, G18_works, G18_of, G18_bytes, G18_read, G18_text, G18_below, G18_has, G18_with, G18_without, conParse, conWorks, conOf, conBytes, conRead, conText, conBelow, conHas, conSet, parV, bytV_eq, readV_eq, stK1, hlt1, reps4, List.drop_succ_cons, List.drop_zero, List.length_cons, List.drop_nil, slenN, n4]; repeat (refine Vc.mk' ?_; simp (config := { maxSteps := 6000000 }) only [go_sem, reduceIte, reduceCtorEq, Nat.reduceAdd, Nat.reduceMul, Nat.reduceSub, Nat.reduceLT, Nat.reduceLeDiff, Nat.reduceEqDiff, Int.reduceEq, Int.reduceLT, Int.reduceLE, Int.reduceNe, rem64, mask64, c_iu, wrapu_mod, bl_len, bl_take, bl_ren, bl_app, bl_one, bOf_bl, Nat.mul_one, G18_parse, G18_works, G18_of, G18_bytes, G18_read, G18_text, G18_below, G18_has, G18_with, G18_without, conParse, conWorks, conOf, conBytes, conRead, conText, conBelow, conHas, conSet, parV, bytV_eq, readV_eq, stK1, hlt1, reps4, List.drop_succ_cons, List.drop_zero, List.length_cons, List.drop_nil, slenN, n4]))
  refine CW.loopR (stK2 hp top) (fun k => k ≤ 4) (fun k => 4 - k) 0 (by omega) ?_ ?_
  · exact SubR.mk' [top + 2] hcl (by simp) (by simp) rfl (frSub_ok (by simp [frSub, lkG, ren, renL, renL_set, renL_ints, UpdOk.nil, UpdOk.cons, renOO_some, renO_cells, renO_map, renOO_mkOb, rn_base, rn_add, ren_mkSl, Enc.flat_ren, set_same, set_ne, sets_cons, sets_nil, Keep.set, Keep.setK, Keep.refl, bl_ren, mkW, obW])) (by simp [frSub, lkG, ren, renL, renL_set, renL_ints, UpdOk.nil, UpdOk.cons, renOO_some, renO_cells, renO_map, renOO_mkOb, rn_base, rn_add, ren_mkSl, Enc.flat_ren, set_same, set_ne, sets_cons, sets_nil, Keep.set, Keep.setK, Keep.refl, bl_ren, mkW, obW]) (by simp [frSub, lkG, ren, renL, renL_set, renL_ints, UpdOk.nil, UpdOk.cons, renOO_some, renO_cells, renO_map, renOO_mkOb, rn_base, rn_add, ren_mkSl, Enc.flat_ren, set_same, set_ne, sets_cons, sets_nil, Keep.set, Keep.setK, Keep.refl, bl_ren, mkW, obW])
  clear hlt hlt1 hk hob hA k
  intro k hk
  have hob : (hp.set top (mkOb e_int kW)) top = mkOb e_int kW := set_same ..
  have hA := SlT.ownB hob (by decide)
  by_cases hlt : k < kW.length
  · have hlt1 : (k : Int) < 4 := by have : kW.length = 4 := rfl; omega
    have ld1 := ld_sint hA hlt
    rw [Nat.mul_one] at ld1
    obtain ⟨n, hn⟩ : ∃ n, at' kW k = n := ⟨_, rfl⟩
    have hb := kW_bad n (by rw [← hn, at'_get _ _ hlt]; exact List.getElem_mem hlt)
    rw [hn] at ld1
    have kw : wrapA .i64 ((k : Int) + 1) = ((k + 1 : Nat) : Int) := by rw [wrap64 (by omega) (by omega)]; omega
    refine CW.vc env18 [0, 1, 2, 4, 6, 8, 10, 12, 14, 16, 18, 20, 22, 23, 24, 66, 67, 68, 69, 70, 100, 102, 103, 104, 105, 115, 117, 118, 119, 120, 129] (by kernel_rfl) ?_
    (simp (config := { maxSteps := 6000000 }) only [go_sem, reduceIte, reduceCtorEq, Nat.reduceAdd, Nat.reduceMul, Nat.reduceSub, Nat.reduceLT, Nat.reduceLeDiff, Nat.reduceEqDiff, Int.reduceEq, Int.reduceLT, Int.reduceLE, Int.reduceNe, rem64, mask64, c_iu, wrapu_mod, bl_len, bl_take, bl_ren, bl_app, bl_one, bOf_bl, Nat.mul_one, G18_parse, G18_works, G18_of, G18_bytes, G18_read, G18_text, G18_below, G18_has, G18_with, G18_without, conParse, conWorks, conOf, conBytes, conRead, conText, conBelow, conHas, conSet, parV, bytV_eq, readV_eq, len_sint hA, idx_sint hA, ld_sint hA, sh_sint hA, sw_sint hA, hA.P, hA.oc, hA.cl, hA.rd, hA.ref, stK2, hlt, hlt1, ld1, hZ, zbB, zbO, hb]; repeat (refine Vc.mk' ?_; simp (config := { maxSteps := 6000000 }) only [go_sem, reduceIte, reduceCtorEq, Nat.reduceAdd, Nat.reduceMul, Nat.reduceSub, Nat.reduceLT, Nat.reduceLeDiff, Nat.reduceEqDiff, Int.reduceEq, Int.reduceLT, Int.reduceLE, Int.reduceNe, rem64, mask64, c_iu, wrapu_mod, bl_len, bl_take, bl_ren, bl_app, bl_one, bOf_bl, Nat.mul_one, G18_parse, G18_works, G18_of, G18_bytes, G18_read, G18_text, G18_below, G18_has, G18_with, G18_without, conParse, conWorks, conOf, conBytes, conRead, conText, conBelow, conHas, conSet, parV, bytV_eq, readV_eq, len_sint hA, idx_sint hA, ld_sint hA, sh_sint hA, sw_sint hA, hA.P, hA.oc, hA.cl, hA.rd, hA.ref, stK2, hlt, hlt1, ld1, hZ, zbB, zbO, hb]))
    refine .mk (k + 1) (by have : kW.length = 4 := rfl; omega) (by have : kW.length = 4 := rfl; omega) (SubR.mk' [top] hcl (by simp) (by simp) rfl (frSub_ok (by simp [frSub, lkG, ren, renL, renL_set, renL_ints, UpdOk.nil, UpdOk.cons, renOO_some, renO_cells, renO_map, renOO_mkOb, rn_base, rn_add, ren_mkSl, Enc.flat_ren, set_same, set_ne, sets_cons, sets_nil, Keep.set, Keep.setK, Keep.refl, bl_ren, kw])) (by simp [frSub, lkG, ren, renL, renL_set, renL_ints, UpdOk.nil, UpdOk.cons, renOO_some, renO_cells, renO_map, renOO_mkOb, rn_base, rn_add, ren_mkSl, Enc.flat_ren, set_same, set_ne, sets_cons, sets_nil, Keep.set, Keep.setK, Keep.refl, bl_ren, kw]) (by simp [frSub, lkG, ren, renL, renL_set, renL_ints, UpdOk.nil, UpdOk.cons, renOO_some, renO_cells, renO_map, renOO_mkOb, rn_base, rn_add, ren_mkSl, Enc.flat_ren, set_same, set_ne, sets_cons, sets_nil, Keep.set, Keep.setK, Keep.refl, bl_ren, kw]))
  have hlt1 : ¬ (k : Int) < 4 := by have : kW.length = 4 := rfl; omega
  refine CW.vc env18 [0, 1, 2, 4, 6, 8, 10, 12, 14, 16, 18, 20, 22, 23, 24, 66, 67, 68, 69, 70, 100, 102, 103, 104, 105, 115, 117, 118, 119, 120, 129] (by kernel_rfl) ?_
  (simp (config := { maxSteps := 6000000 }) only [go_sem, reduceIte, reduceCtorEq, Nat.reduceAdd, Nat.reduceMul, Nat.reduceSub, Nat.reduceLT, Nat.reduceLeDiff, Nat.reduceEqDiff, Int.reduceEq, Int.reduceLT, Int.reduceLE, Int.reduceNe, rem64, mask64, c_iu, wrapu_mod, bl_len, bl_take, bl_ren, bl_app, bl_one, bOf_bl, Nat.mul_one, G18_parse, G18_works, G18_of, G18_bytes, G18_read, G18_text, G18_below, G18_has, G18_with, G18_without, conParse, conWorks, conOf, conBytes, conRead, conText, conBelow, conHas, conSet, parV, bytV_eq, readV_eq, stK2, hlt1, reps11, List.drop_succ_cons, List.drop_zero, List.length_cons, List.drop_nil, slenT, n11]; repeat (refine Vc.mk' ?_; simp (config := { maxSteps := 6000000 }) only [go_sem, reduceIte, reduceCtorEq, Nat.reduceAdd, Nat.reduceMul, Nat.reduceSub, Nat.reduceLT, Nat.reduceLeDiff, Nat.reduceEqDiff, Int.reduceEq, Int.reduceLT, Int.reduceLE, Int.reduceNe, rem64, mask64, c_iu, wrapu_mod, bl_len, bl_take, bl_ren, bl_app, bl_one, bOf_bl, Nat.mul_one, G18_parse, G18_works, G18_of, G18_bytes, G18_read, G18_text, G18_below, G18_has, G18_with, G18_without, conParse, conWorks, conOf, conBytes, conRead, conText, conBelow, conHas, conSet, parV, bytV_eq, readV_eq, stK2, hlt1, reps11, List.drop_succ_cons, List.drop_zero, List.length_cons, List.drop_nil, slenT, n11]))
  refine CW.loopR (stK3 hp top) (fun k => k ≤ 11) (fun k => 11 - k) 0 (by omega) ?_ ?_
  · exact SubR.mk' [top + 1] hcl (by simp) (by simp) rfl (frSub_ok (by simp [frSub, lkG, ren, renL, renL_set, renL_ints, UpdOk.nil, UpdOk.cons, renOO_some, renO_cells, renO_map, renOO_mkOb, rn_base, rn_add, ren_mkSl, Enc.flat_ren, set_same, set_ne, sets_cons, sets_nil, Keep.set, Keep.setK, Keep.refl, bl_ren, mkS, obS])) (by simp [frSub, lkG, ren, renL, renL_set, renL_ints, UpdOk.nil, UpdOk.cons, renOO_some, renO_cells, renO_map, renOO_mkOb, rn_base, rn_add, ren_mkSl, Enc.flat_ren, set_same, set_ne, sets_cons, sets_nil, Keep.set, Keep.setK, Keep.refl, bl_ren, mkS, obS]) (by simp [frSub, lkG, ren, renL, renL_set, renL_ints, UpdOk.nil, UpdOk.cons, renOO_some, renO_cells, renO_map, renOO_mkOb, rn_base, rn_add, ren_mkSl, Enc.flat_ren, set_same, set_ne, sets_cons, sets_nil, Keep.set, Keep.setK, Keep.refl, bl_ren, mkS, obS])
  clear hlt hlt1 hk hob hA k
  intro k hk
  have hob : (hp.set top (mkOb e_string kS)) top = mkOb e_string kS := set_same ..
  have hA := SlT.ownB hob (by decide)
  by_cases hlt : k < kS.length
  · have hlt1 : (k : Int) < 11 := by have : kS.length = 11 := rfl; omega
    have ld1 := ld_sstring hA hlt
    rw [Nat.mul_one] at ld1
    obtain ⟨n, hn⟩ : ∃ n, at' kS k = n := ⟨_, rfl⟩
    have hm : n ∈ kS := by rw [← hn, at'_get _ _ hlt]; exact List.getElem_mem hlt
    have hb := kS_bad n hm
    have hb2 := kS_len n hm
    rw [hn] at ld1
    have kw : wrapA .i64 ((k : Int) + 1) = ((k + 1 : Nat) : Int) := by rw [wrap64 (by omega) (by omega)]; omega
    refine CW.vc env18 [0, 1, 2, 4, 6, 8, 10, 12, 14, 16, 18, 20, 22, 23, 24, 66, 67, 68, 69, 70, 100, 102, 103, 104, 105, 115, 117, 118, 119, 120, 129] (by kernel_rfl) ?_
    (simp (config := { maxSteps := 6000000 }) only [go_sem, reduceIte, reduceCtorEq, Nat.reduceAdd, Nat.reduceMul, Nat.reduceSub, Nat.reduceLT, Nat.reduceLeDiff, Nat.reduceEqDiff, Int.reduceEq, Int.reduceLT, Int.reduceLE, Int.reduceNe, rem64, mask64, c_iu, wrapu_mod, bl_len, bl_take, bl_ren, bl_app, bl_one, bOf_bl, Nat.mul_one, G18_parse, G18_works, G18_of, G18_bytes, G18_read, G18_text, G18_below, G18_has, G18_with, G18_without, conParse, conWorks, conOf, conBytes, conRead, conText, conBelow, conHas, conSet, parV, bytV_eq, readV_eq, len_sstring hA, idx_sstring hA, ld_sstring hA, sh_sstring hA, sw_sstring hA, hA.P, hA.oc, hA.cl, hA.rd, hA.ref, stK3, hlt, hlt1, ld1, hb, hb2, hv, v0, v1]; repeat (refine Vc.mk' ?_; simp (config := { maxSteps := 6000000 }) only [go_sem, reduceIte, reduceCtorEq, Nat.reduceAdd, Nat.reduceMul, Nat.reduceSub, Nat.reduceLT, Nat.reduceLeDiff, Nat.reduceEqDiff, Int.reduceEq, Int.reduceLT, Int.reduceLE, Int.reduceNe, rem64, mask64, c_iu, wrapu_mod, bl_len, bl_take, bl_ren, bl_app, bl_one, bOf_bl, Nat.mul_one, G18_parse, G18_works, G18_of, G18_bytes, G18_read, G18_text, G18_below, G18_has, G18_with, G18_without, conParse, conWorks, conOf, conBytes, conRead, conText, conBelow, conHas, conSet, parV, bytV_eq, readV_eq, len_sstring hA, idx_sstring hA, ld_sstring hA, sh_sstring hA, sw_sstring hA, hA.P, hA.oc, hA.cl, hA.rd, hA.ref, stK3, hlt, hlt1, ld1, hb, hb2, hv, v0, v1]))
    refine .mk (k + 1) (by have : kS.length = 11 := rfl; omega) (by have : kS.length = 11 := rfl; omega) (SubR.mk' [top] hcl (by simp) (by simp) rfl (frSub_ok (by simp [frSub, lkG, ren, renL, renL_set, renL_ints, UpdOk.nil, UpdOk.cons, renOO_some, renO_cells, renO_map, renOO_mkOb, rn_base, rn_add, ren_mkSl, Enc.flat_ren, set_same, set_ne, sets_cons, sets_nil, Keep.set, Keep.setK, Keep.refl, bl_ren, kw])) (by simp [frSub, lkG, ren, renL, renL_set, renL_ints, UpdOk.nil, UpdOk.cons, renOO_some, renO_cells, renO_map, renOO_mkOb, rn_base, rn_add, ren_mkSl, Enc.flat_ren, set_same, set_ne, sets_cons, sets_nil, Keep.set, Keep.setK, Keep.refl, bl_ren, kw]) (by simp [frSub, lkG, ren, renL, renL_set, renL_ints, UpdOk.nil, UpdOk.cons, renOO_some, renO_cells, renO_map, renOO_mkOb, rn_base, rn_add, ren_mkSl, Enc.flat_ren, set_same, set_ne, sets_cons, sets_nil, Keep.set, Keep.setK, Keep.refl, bl_ren, kw]))
  have hlt1 : ¬ (k : Int) < 11 := by have : kS.length = 11 := rfl; omega
  obtain ⟨p1, p2⟩ := par_dash
  refine CW.vc env18 [0, 1, 2, 4, 6, 8, 10, 12, 14, 16, 18, 20, 22, 23, 24, 66, 67, 68, 69, 70, 100, 102, 103, 104, 105, 115, 117, 118, 119, 120, 129] (by kernel_rfl) ?_
  (simp (config := { maxSteps := 6000000 }) only [go_sem, reduceIte, reduceCtorEq, Nat.reduceAdd, Nat.reduceMul, Nat.reduceSub, Nat.reduceLT, Nat.reduceLeDiff, Nat.reduceEqDiff, Int.reduceEq, Int.reduceLT, Int.reduceLE, Int.reduceNe, rem64, mask64, c_iu, wrapu_mod, bl_len, bl_take, bl_ren, bl_app, bl_one, bOf_bl, Nat.mul_one, G18_parse, G18_works, G18_of, G18_bytes, G18_read, G18_text, G18_below, G18_has, G18_with, G18_without, conParse, conWorks, conOf, conBytes, conRead, conText, conBelow, conHas, conSet, parV, bytV_eq, readV_eq, stK3, hlt1, hv, v0, v1, p1, p2, cv33, rd33, zb_read, stS, zbA, eqB_self, decide_true, Bool.and_self, zb_text, hZ, bits_eql, set_lt ht0, set_lt ht1, ht, hp1]; repeat (refine Vc.mk' ?_; simp (config := { maxSteps := 6000000 }) only [go_sem, reduceIte, reduceCtorEq, Nat.reduceAdd, Nat.reduceMul, Nat.reduceSub, Nat.reduceLT, Nat.reduceLeDiff, Nat.reduceEqDiff, Int.reduceEq, Int.reduceLT, Int.reduceLE, Int.reduceNe, rem64, mask64, c_iu, wrapu_mod, bl_len, bl_take, bl_ren, bl_app, bl_one, bOf_bl, Nat.mul_one, G18_parse, G18_works, G18_of, G18_bytes, G18_read, G18_text, G18_below, G18_has, G18_with, G18_without, conParse, conWorks, conOf, conBytes, conRead, conText, conBelow, conHas, conSet, parV, bytV_eq, readV_eq, stK3, hlt1, hv, v0, v1, p1, p2, cv33, rd33, zb_read, stS, zbA, eqB_self, decide_true, Bool.and_self, zb_text, hZ, bits_eql, set_lt ht0, set_lt ht1, ht, hp1]))
end Go.Proofs.YtkofmbhopmgmhaaDoor.Dm
