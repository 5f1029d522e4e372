/- The fate package: a plan is copied. -/
import Derived.Test.YtnlbcaefljaceaaF8
import Derived.Laws.Externs
import Derived.MapKept
import Derived.WalkKit
set_option linter.unusedSimpArgs false
set_option linter.unusedVariables false
namespace Go.Proofs.Ytnlbcaefljaceaa.Dm
open Go.Dm Go.RowKit
set_option maxHeartbeats 4000000

theorem eqIn_mapnil {P : Program} (w : World) (d : Nat) (t k e : TypeId) (p : Option Nat) (h : P.underlying t = some (.map k e)) :
    (Op.equalIn (d + 1) t (.map p) (.map none)).run P w = .ok p.isNone w := by
  cases p <;> simp [Op.equalIn, run_underlying h]
theorem eql_mapnil {P : Program} (w : World) (t k e : TypeId) (p : Option Nat) (h : P.underlying t = some (.map k e)) :
    (binOp .eql t (.map p) (.map none)).run P w = .ok (.bool p.isNone) w := by
  simp only [binOp]
  simp [show Op.equal t (.map p) (.map none) = Op.equalIn (9999 + 1) t (.map p) (.map none) from rfl, eqIn_mapnil w 9999 t k e p h]
theorem assert_map {P : Program} (w : World) (t xT k e : TypeId) (v : Value) (h : P.underlying t = some (.map k e)) : (Instr.typeAssert (.iface t v) xT t false).run P w = .ok v w := by
  simp [Instr.typeAssert, run_underlying h, go_sem, Result.andThen]
theorem ext_clone {P : Program} (w : World) {r : Nat} {es : Array MapEntry} {clock : Nat} (t : TypeId) (hb : w.heap[r]? = some (.map es clock)) :
    (Extern.MapsClone.clone #[.iface t (.map (some r))]).run P w = .ok (.iface t (.map (some w.heap.size))) (w.alloc (.map es clock)) := by
  have e : Extern.MapsClone.clone #[.iface t (.map (some r))] = (getObj r >>= fun o => match o with
      | .map entries clock => (newObj (.map entries clock) >>= fun n => pure (.iface t (.map (some n))))
      | _ => stuck "maps.clone: a map expected") := rfl
  rw [e]
  simp [MapKept.run_getObj_map hb, Result.andThen, go_sem]

/-- the library's maps.Clone, run: a new block with the old entries -/
theorem clone_calls (b : Nat) (es : Array MapEntry) (clock : Nat) (w : World) (hb : w.heap[b]? = some (.map es clock)) :
    Calls Try.prog 25 #[.map (some b)] w fun e w' => e = .returned (.map (some w.heap.size)) ∧ w' = w.alloc (.map es clock) := by
  have hq := fun w => eql_mapnil (P := Try.prog) w 58 _ _ (some b) Try.underlying58
  go_enter Try.func25, Try.ntmps25
  go_wp2
  rw [run_callFunc_extern Try.func28 (by kernel_rfl) (by kernel_rfl) (by kernel_rfl) (e := Extern.MapsClone.clone) (by kernel_rfl), ext_clone w 58 hb]
  simp only [Result.andThen]
  rw [Oper.upon_value]
  go_wp2
  rw [assert_map _ 58 20 _ _ _ Try.underlying58]
  simp only [Result.andThen]
  rw [Oper.upon_value]
  go_wp2
  go_ret
  exact ⟨rfl, rfl⟩

def conClone : Con := .det (fun args hp _ => match args with | [.map (some b)] => ∃ es clk, hp b = some (.map es clk) | _ => False) (fun args hp top => match args with
  | [.map (some b)] => (.map (some top), [(top, hp b)], top + 1)
  | _ => (undef, [], top))

theorem clone_ok : ConOk Try.prog 25 conClone := by
  refine ⟨⟨_, fn25_ok.toFTOk⟩, fun args hp top hpre => ?_⟩
  match args, hpre with
  | [.map (some b)], ⟨es, clk, hb⟩ =>
  intro φ own w args' hv H htop
  cases hv with
  | cons _ x _ l hx hl =>
  cases hl
  cases hx with
  | map _ L hL =>
  obtain ⟨M, hM, es', hw, hE⟩ := H.obj b _ hb
  rw [hL] at hM; cases hM
  refine Calls.mono (clone_calls L.blk es' clk w hw) ?_
  rintro e w' ⟨rfl, rfl⟩
  have hn := htop _ (Nat.le_refl top)
  simp only [hb]
  refine ⟨_, _, _, _, φ.ext top ⟨w.heap.size, 0, 0, 0⟩, rfl, ⟨rfl, rfl, rfl⟩, ⟨Ren.le_ext hn, .map _ _ (Ren.ext_same ..), ?_, K.alloc _ _ _ w.drawn rfl, fun j hj => Ren.ext_none (htop j (by omega)) (by omega)⟩⟩
  exact H.alloc top (.map es clk) _ _ _ hn rfl ⟨es', rfl, hE⟩
def G15 := addG G14 25 conClone
theorem env15 : EnvV Try.prog tt.get G15 := env14.add clone_ok
theorem G15_clone : G15 25 = conClone := rfl
theorem G15_none : G15 20 = conNone := rfl

def resCopy (p : PlanS) (top : Nat) : Value × Upds × Nat := (.pointer (some ⟨top + 1, 0, none⟩), planUs top (top + 1) p, top + 2)
def conCopy : Con := .det (fun args hp _ => match args with | [v] => IsPlan hp v | _ => False) (fun args hp top => match args with
  | [v] => (match rdPlan hp v with
    | some (_, _, p) => resCopy p top
    | none => (undef, [], top))
  | _ => (undef, [], top))

theorem copy_ok : ConOk Try.prog 17 conCopy := by
  refine .mkDet fn17_ok ?_
  intro args hp top hpre hcl hsc
  match args, hpre with
  | [v], ⟨b, mb, p, h⟩ =>
  have hi : IsPlan hp v := ⟨b, mb, p, h⟩
  have hr := h.rd
  have hne := h.ne
  simp only [hr, resCopy]
  refine CalledOk.of_fun tt_ok fn17_ok rfl 16 rfl [.tmp 2] rfl (show 1 ≤ 16 by decide) ?_
  cases h with
  | mk b mb p hb hm hl =>
  have hbt := hcl.lt _ _ hb
  have hmt := hcl.lt _ _ hm
  have e1 : List.take 625 (p.ks.map (Value.int .i64)) = p.ks.map (Value.int .i64) := List.take_of_length_le (by rw [List.length_map]; omega)
  have e2 : List.drop 625 (reps 625 (Value.int .i64 0)) = [] := List.drop_eq_nil_of_le (by rw [reps_len]; exact Nat.le_refl _)
  refine CW.vc env15 [0, 2, 4, 1000003] (by kernel_rfl) ?_
  (simp only [vc_skip, vc_reg, vc_draw, leafR, dopsX_nil, dopsX_cons, inUn, hasUn, addRd, lateOk, earlyOk, vc_seqV, vc_cond, condP_t, condP_f, vc_block, vc_loop, vc_exit, vc_ret, vc_label, wops_nil, wops_cons, dops_nil, dops_cons, thenQ_n, thenQ_r, thenQ_e, blockQ_n, blockQ_r, blockQ_e, regQ_eq, retQ_n, retQ_r, vstep_eq, if_true, if_false, reduceIte, wrB, wrG, dcall, swrG, usOkL, Nat.lt_add_one, Nat.lt_add_right_iff_pos, Nat.add_lt_add_iff_left, Bool.or_false, Bool.false_or, pv, sguard, scall_eq, isWr, sread, swrite, swrO, sreadO, aopR, aopW, sev, plain, sput, keepF, lkG, lkF, av, avs, svs, obnd, obndOk, sfun, evO, sbinI, sbinB, sbinS, sun, sconv, unA, sargs, true_and, and_true, and_self, forall_const, imp_self, implies_true, List.getElem?_cons_succ, List.getElem?_cons_zero, intOf_int, boolOf_bool, IsI_int, IsN_int, IsB_bool, IsS_string, aggOf_agg, strOf_string, Bool.true_and, Bool.and_true, Bool.and_self, Bool.or_self, beq_true, beq_false, Bool.cond_false_right, Bool.cond_true_left, Bool.cond_true_right, Bool.cond_false_left, cond_true, cond_false, List.nil_append, List.append_nil, List.all_nil, List.all_cons, Bool.true_eq_false, Bool.false_eq_true, false_implies, Option.getD_some, List.length_cons, List.length_nil, Bool.not_not, Bool.not_true, Bool.not_false, Bool.not_eq_true', Bool.not_eq_false', Nat.reduceAdd, Nat.reduceMul, Nat.reduceSub, Nat.reduceLT, Nat.reduceLeDiff, Nat.reduceEqDiff, Int.reduceEq, Int.reduceLT, Int.reduceLE, Int.reduceNe, boxA, allocA, makeMapA, makeSliceA, nble_t, flat_rep, cl_agg, cl_int, cl_bool, cl_str, cl_ptr, cl_slice, cl_map, cl_func, cl_nilf, cl_iface, cl_nili, mkSl_cl, oneCells, sets_cons, sets_nil, set_same, set_ne, set_set, sload_ptr, sstore_ptr, aggD, storeA, sbuild, sbuildSlice, placesA, sfill, sparts, spartsOk, cellsOk, splice_zero, splice_succ, splice_1add, get_1add, drop_1add, rep1, rep2, rep3, rep4, sindexAddr_ptr, sindexAddr_slc, sfield, spart, zerosA, List.flatten_cons, List.flatten_nil, List.take_succ_cons, List.take_zero, List.drop_succ_cons, List.drop_zero, List.take_nil, List.drop_nil, List.cons_append, ltI_eq, eqI_dec, eqNums, NumsAs, beq_self_eq_true, List.length_map, Nat.add_one_pos, sbinX, Option.isNone_none, Option.isNone_some, Option.isSome_none, Option.isSome_some, Keep.refl, Keep.set, Nat.le_add_right, Nat.le_refl, Int.natCast_nonneg, Int.ofNat_lt, Int.ofNat_le, Int.toNat_natCast, oc_int, oc_bool, oc_str, oc_ptr, oc_slice, oc_map, oc_func, oc_nilf, oc_iface, oc_nili, mkSl_oc, own_P, own_rd, cellsOf_some, decide_true, decide_false, decide_not, decide_eq_true_eq, decide_eq_false_iff_not, Bool.and_eq_true, Bool.or_eq_true, Bool.and_eq_false_iff, Bool.or_eq_false_iff, Nat.add_left_cancel_iff, Nat.add_eq_left, Nat.left_eq_add, ne_eq, not_false_eq_true, not_true_eq_false, reduceCtorEq, false_or, or_false, true_or, or_true, false_and, and_false, Int.toNat_zero, Nat.zero_add, Nat.add_zero, Nat.zero_mul, Nat.add_assoc, sresOk, sres, sres1, tupA, Prod.mk.injEq, t_int, k_int, v_int, ti3, en_int, de_int, t_bool, k_bool, v_bool, ti4, en_bool, de_bool, t_Rule, v_Rule_eql, v_Rule_neq, fa_Rule_0, fa_Rule_1, fa_Rule_2, fa_Rule_3, fa_Rule_4, ti27, en_Rule, de_Rule, mk_Rule, t_pfate_Plan, k_pfate_Plan, v_pfate_Plan, n_pfate_Plan_eql, n_pfate_Plan_neq, ti28, t_m_message_Rule, k_m_message_Rule, v_m_message_Rule, le_m_message_Rule, ln_m_message_Rule, n_m_message_Rule_eql, n_m_message_Rule_neq, sl_m_message_Rule, su_m_message_Rule, sd_m_message_Rule, lo_m_message_Rule, lx_m_message_Rule, mu_m_message_Rule, md_m_message_Rule, gd_m_message_Rule, dm_me_m_message_Rule, mv_m_message_Rule, ti58, t_a25int, k_a25int, ti61, t_a25a25int, k_a25a25int, ti62, t_fate_Plan, fa_fate_Plan_0, fa_fate_Plan_1, ti64, t_message, v_message_eql, v_message_neq, fa_message_0, fa_message_1, fa_message_2, ti67, en_message, de_message, mk_message, G15_none, conNone, G15_clone, conClone, hb, planOb, hm, hi, set_lt hbt, set_lt hmt, set_gt hbt, set_gt hmt, hl, e1, e2, reps_len, Nat.min_self, Option.some.injEq, AObj.map.injEq, exists_eq_left', exists_and_left, exists_eq']; repeat ((first | refine Vc.mk' ?_ | refine CW.drawX env15 3 [0, 2, 4, 1000003] [(8, 4)] (by kernel_rfl) (by kernel_rfl) ?_); simp only [vc_skip, vc_reg, vc_draw, leafR, dopsX_nil, dopsX_cons, inUn, hasUn, addRd, lateOk, earlyOk, vc_seqV, vc_cond, condP_t, condP_f, vc_block, vc_loop, vc_exit, vc_ret, vc_label, wops_nil, wops_cons, dops_nil, dops_cons, thenQ_n, thenQ_r, thenQ_e, blockQ_n, blockQ_r, blockQ_e, regQ_eq, retQ_n, retQ_r, vstep_eq, if_true, if_false, reduceIte, wrB, wrG, dcall, swrG, usOkL, Nat.lt_add_one, Nat.lt_add_right_iff_pos, Nat.add_lt_add_iff_left, Bool.or_false, Bool.false_or, pv, sguard, scall_eq, isWr, sread, swrite, swrO, sreadO, aopR, aopW, sev, plain, sput, keepF, lkG, lkF, av, avs, svs, obnd, obndOk, sfun, evO, sbinI, sbinB, sbinS, sun, sconv, unA, sargs, true_and, and_true, and_self, forall_const, imp_self, implies_true, List.getElem?_cons_succ, List.getElem?_cons_zero, intOf_int, boolOf_bool, IsI_int, IsN_int, IsB_bool, IsS_string, aggOf_agg, strOf_string, Bool.true_and, Bool.and_true, Bool.and_self, Bool.or_self, beq_true, beq_false, Bool.cond_false_right, Bool.cond_true_left, Bool.cond_true_right, Bool.cond_false_left, cond_true, cond_false, List.nil_append, List.append_nil, List.all_nil, List.all_cons, Bool.true_eq_false, Bool.false_eq_true, false_implies, Option.getD_some, List.length_cons, List.length_nil, Bool.not_not, Bool.not_true, Bool.not_false, Bool.not_eq_true', Bool.not_eq_false', Nat.reduceAdd, Nat.reduceMul, Nat.reduceSub, Nat.reduceLT, Nat.reduceLeDiff, Nat.reduceEqDiff, Int.reduceEq, Int.reduceLT, Int.reduceLE, Int.reduceNe, boxA, allocA, makeMapA, makeSliceA, nble_t, flat_rep, cl_agg, cl_int, cl_bool, cl_str, cl_ptr, cl_slice, cl_map, cl_func, cl_nilf, cl_iface, cl_nili, mkSl_cl, oneCells, sets_cons, sets_nil, set_same, set_ne, set_set, sload_ptr, sstore_ptr, aggD, storeA, sbuild, sbuildSlice, placesA, sfill, sparts, spartsOk, cellsOk, splice_zero, splice_succ, splice_1add, get_1add, drop_1add, rep1, rep2, rep3, rep4, sindexAddr_ptr, sindexAddr_slc, sfield, spart, zerosA, List.flatten_cons, List.flatten_nil, List.take_succ_cons, List.take_zero, List.drop_succ_cons, List.drop_zero, List.take_nil, List.drop_nil, List.cons_append, ltI_eq, eqI_dec, eqNums, NumsAs, beq_self_eq_true, List.length_map, Nat.add_one_pos, sbinX, Option.isNone_none, Option.isNone_some, Option.isSome_none, Option.isSome_some, Keep.refl, Keep.set, Nat.le_add_right, Nat.le_refl, Int.natCast_nonneg, Int.ofNat_lt, Int.ofNat_le, Int.toNat_natCast, oc_int, oc_bool, oc_str, oc_ptr, oc_slice, oc_map, oc_func, oc_nilf, oc_iface, oc_nili, mkSl_oc, own_P, own_rd, cellsOf_some, decide_true, decide_false, decide_not, decide_eq_true_eq, decide_eq_false_iff_not, Bool.and_eq_true, Bool.or_eq_true, Bool.and_eq_false_iff, Bool.or_eq_false_iff, Nat.add_left_cancel_iff, Nat.add_eq_left, Nat.left_eq_add, ne_eq, not_false_eq_true, not_true_eq_false, reduceCtorEq, false_or, or_false, true_or, or_true, false_and, and_false, Int.toNat_zero, Nat.zero_add, Nat.add_zero, Nat.zero_mul, Nat.add_assoc, sresOk, sres, sres1, tupA, Prod.mk.injEq, t_int, k_int, v_int, ti3, en_int, de_int, t_bool, k_bool, v_bool, ti4, en_bool, de_bool, t_Rule, v_Rule_eql, v_Rule_neq, fa_Rule_0, fa_Rule_1, fa_Rule_2, fa_Rule_3, fa_Rule_4, ti27, en_Rule, de_Rule, mk_Rule, t_pfate_Plan, k_pfate_Plan, v_pfate_Plan, n_pfate_Plan_eql, n_pfate_Plan_neq, ti28, t_m_message_Rule, k_m_message_Rule, v_m_message_Rule, le_m_message_Rule, ln_m_message_Rule, n_m_message_Rule_eql, n_m_message_Rule_neq, sl_m_message_Rule, su_m_message_Rule, sd_m_message_Rule, lo_m_message_Rule, lx_m_message_Rule, mu_m_message_Rule, md_m_message_Rule, gd_m_message_Rule, dm_me_m_message_Rule, mv_m_message_Rule, ti58, t_a25int, k_a25int, ti61, t_a25a25int, k_a25a25int, ti62, t_fate_Plan, fa_fate_Plan_0, fa_fate_Plan_1, ti64, t_message, v_message_eql, v_message_neq, fa_message_0, fa_message_1, fa_message_2, ti67, en_message, de_message, mk_message, G15_none, conNone, G15_clone, conClone, hb, planOb, hm, hi, set_lt hbt, set_lt hmt, set_gt hbt, set_gt hmt, hl, e1, e2, reps_len, Nat.min_self, Option.some.injEq, AObj.map.injEq, exists_eq_left', exists_and_left, exists_eq']))
  exact ⟨[top, top + 1], by simp, by simp, by simp, by simp [frSub, lkG, ren, renL, renL_set, renL_ints, UpdOk.nil, UpdOk.cons, renOO_some, renO_cells, renO_map, renOO_mkOb, rn_base, rn_add, ren_mkSl, Enc.flat_ren, set_same, set_ne, sets_cons, sets_nil, Keep.set, Keep.setK, Keep.refl, rm_m_message_Rule, planUs, planOb], by simp [frSub, lkG, ren, renL, renL_set, renL_ints, UpdOk.nil, UpdOk.cons, renOO_some, renO_cells, renO_map, renOO_mkOb, rn_base, rn_add, ren_mkSl, Enc.flat_ren, set_same, set_ne, sets_cons, sets_nil, Keep.set, Keep.setK, Keep.refl, rm_m_message_Rule, planUs, planOb], by simp [frSub, lkG, ren, renL, renL_set, renL_ints, UpdOk.nil, UpdOk.cons, renOO_some, renO_cells, renO_map, renOO_mkOb, rn_base, rn_add, ren_mkSl, Enc.flat_ren, set_same, set_ne, sets_cons, sets_nil, Keep.set, Keep.setK, Keep.refl, rm_m_message_Rule, planUs, planOb]⟩
end Go.Proofs.Ytnlbcaefljaceaa.Dm
