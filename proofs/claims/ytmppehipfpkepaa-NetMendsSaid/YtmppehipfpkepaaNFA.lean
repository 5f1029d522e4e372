/- The fate package: right, may, planned. -/
import Derived.Test.YtmppehipfpkepaaDmK
set_option linter.unusedSimpArgs false
set_option linter.unusedVariables false
namespace Go.Proofs.Ytmppehipfpkepaa.Fa
open Go.Dm Go.Proofs.Ytmppehipfpkepaa.Dm
set_option maxHeartbeats 4000000
theorem bool_eq {a b : Bool} (h : a = true ↔ b = true) : Value.bool a = Value.bool b := by rw [Bool.eq_iff_iff.2 h]
def G0 : FuncId → Con := fun _ => .none
theorem env0 : EnvV Try.prog tt.get G0 := ⟨tt_ok, fun _ => trivial⟩
def rightB (a b : Int) : Bool := decide (1 ≤ a ∧ a ≤ 24 ∧ 1 ≤ b ∧ b ≤ 24 ∧ a ≠ b)
def conRight : Con := .pure (fun args _ => match args with | [x, y] => IsI .i64 x ∧ IsI .i64 y | _ => False) (fun args _ => match args with | [x, y] => .bool (rightB (intOf x) (intOf y)) | _ => undef)
theorem right_ok : ConOk Try.prog 56 conRight := by
  refine .mkPure fn56_ok ?_
  intro args hp hpre top
  match args, hpre with
  | [x, y], ⟨hx, hy⟩ =>
  rw [hx, hy]
  refine CalledOk.of_fun tt_ok fn56_ok rfl 24 rfl [.tmp 4] rfl (show 2 ≤ 24 by decide) ?_
  refine CW.vc env0 [0, 1, 4] (by kernel_rfl) ?_
  (repeat ((try refine Vc.mk' ?_); simp only [go_sem, reduceIte, reduceCtorEq, Nat.reduceAdd, Nat.reduceMul, Nat.reduceSub, Nat.reduceLT, Nat.reduceLeDiff, Nat.reduceEqDiff, Int.reduceEq, Int.reduceLT, Int.reduceLE, Int.reduceNe]))
  refine bool_eq ?_
  simp [rightB]; omega
def G1 := addG G0 56 conRight
theorem env1 : EnvV Try.prog tt.get G1 := env0.add right_ok
theorem G1_right : G1 56 = conRight := rfl
def mayB (r : T_Rule) : Bool :=
  rightB r.From r.To && decide (1 ≤ r.Nth ∧ r.Nth ≤ 1048576) && (if r.Kind = 1 then decide (r.By = 0) else if r.Kind = 2 ∨ r.Kind = 3 then decide (1 ≤ r.By ∧ r.By ≤ 64) else false)
def conMay : Con := .pure (fun args _ => match args with | [.agg ⟨l⟩] => e_Rule.enc (e_Rule.dec l) = l | _ => False) (fun args _ => match args with | [.agg ⟨l⟩] => .bool (mayB (e_Rule.dec l)) | _ => undef)
theorem may_ok : ConOk Try.prog 86 conMay := by
  refine .mkRd fn86_ok ?_ ?_
  · intro args hp h
    match args, h with
    | [.agg ⟨l⟩], _ => rfl
  intro args hp hpre top hcl hsc
  match args, hpre with
  | [.agg ⟨l⟩], hl =>
  obtain ⟨r, rfl⟩ : ∃ r, l = e_Rule.enc r := ⟨_, hl.symm⟩
  refine CalledOk.of_fun tt_ok fn86_ok rfl 37 rfl [.tmp 2] rfl (show 1 ≤ 37 by decide) ?_
  refine CW.vc env1 [0, 1, 2, 18, 20, 21, 26] (by kernel_rfl) ?_
  repeat' first | refine condP.mk (fun _ => ?_) (fun _ => ?_) | refine Vc.mk' ?_ | simp only [go_sem, reduceIte, reduceCtorEq, Nat.reduceAdd, Nat.reduceMul, Nat.reduceSub, Nat.reduceLT, Nat.reduceLeDiff, Nat.reduceEqDiff, Int.reduceEq, Int.reduceLT, Int.reduceLE, Int.reduceNe, G1_right, conRight]
  all_goals grind [mayB]
set_option maxHeartbeats 4000000
def G2 := addG G1 86 conMay
theorem env2 : EnvV Try.prog tt.get G2 := env1.add may_ok
theorem G2_may : G2 86 = conMay := rfl
abbrev MapR := M_m_message_Rule
def keyR (r : T_Rule) : T_message := ⟨r.From, r.To, r.Nth⟩
def goP : List T_Rule → Nat → MapR → Except (Nat × Int) MapR
  | [], _, m => .ok m
  | r :: l, k, m => if mayB r = false then .error (k, 2) else if (mget m (keyR r)).isSome then .error (k, 7) else goP l (k + 1) (mput m (keyR r) r k)
def planF (l : List T_Rule) : Except (Nat × Int) MapR := if 64 < l.length then .error (64, 3) else goP l 0 []
def resPlanned (l : List T_Rule) (top : Nat) : Value × Upds × Nat := match planF l with
  | .error (i, e) => (.tuple ⟨[.map none, .int .i64 (i : Int), .int .i64 e]⟩, [], top)
  | .ok m => (.tuple ⟨[.map (some top), .int .i64 0, .int .i64 0]⟩, [(top, some (.map (me_m_message_Rule m) l.length))], top + 1)
def conPlanned : Con := .det (fun args hp _ => match args with | [v] => SlP e_Rule hp v | _ => False) (fun args hp top => match args with | [v] => resPlanned (e_Rule.rd hp v) top | _ => (undef, [], top))
def stP (hp : Hp) (top : Nat) (v : Value) (l : List T_Rule) (x : Nat × MapR) : SS :=
  ⟨[(0, v, true), (2, .map none, true), (3, .int .i64 0, true), (4, .int .i64 0, true), (5, .map (some top), true), (13, .bool false, true), (15, v, true), (16, .int .i64 (l.length : Int), true), (17, .int .i64 (x.1 : Int), true)],
    hp.sets [(top, some (.map (me_m_message_Rule x.2) x.1))], top + 1⟩
set_option maxHeartbeats 2000000 in
theorem planned_ok : ConOk Try.prog 70 conPlanned := by
  refine .mkDet fn70_ok ?_
  intro args hp top hpre hcl hsc
  match args, hpre with
  | [v], ⟨l, h⟩ =>
  have hs := h.low hcl
  simp only [h.rd]
  refine CalledOk.of_fun tt_ok fn70_ok rfl 46 rfl [.tmp 2, .tmp 3, .tmp 4] rfl (show 1 ≤ 46 by decide) ?_
  refine CW.vc env2 [0, 2, 3, 4, 5, 6, 7, 8, 10, 13, 15, 16, 17, 18, 24, 39] (by kernel_rfl) ?_
  (repeat ((try refine Vc.mk' ?_); simp only [go_sem, reduceIte, reduceCtorEq, Nat.reduceAdd, Nat.reduceMul, Nat.reduceSub, Nat.reduceLT, Nat.reduceLeDiff, Nat.reduceEqDiff, Int.reduceEq, Int.reduceLT, Int.reduceLE, Int.reduceNe, len_sRule h, idx_sRule h, ld_sRule h, sh_sRule h, sw_sRule h, sf_sRule_0 h, sc_sRule_0 h, sf_sRule_1 h, sc_sRule_1 h, sf_sRule_2 h, sc_sRule_2 h, sf_sRule_3 h, sc_sRule_3 h, sf_sRule_4 h, sc_sRule_4 h, h.P, h.oc, h.cl, h.rd, h.ref, strip_P hs, strip_rd hs, strip_ld hs, strip_sl h hs k_sRule, G2_may, conMay]))
  refine condP.mk (fun h1 => ?_) (fun h1 => ?_)
  · have h2 : planF l = .error (64, 3) := by simp at h1; simp only [planF, if_pos (show 64 < l.length by omega)]
    (repeat ((try refine Vc.mk' ?_); simp only [go_sem, reduceIte, reduceCtorEq, Nat.reduceAdd, Nat.reduceMul, Nat.reduceSub, Nat.reduceLT, Nat.reduceLeDiff, Nat.reduceEqDiff, Int.reduceEq, Int.reduceLT, Int.reduceLE, Int.reduceNe, resPlanned, h2]))
    (refine ⟨[], by simp, by simp, by simp, ?_, ?_, ?_⟩ <;> simp [frSub, lkG, ren, renL, renL_set, renL_ints, UpdOk.nil, UpdOk.cons, renOO_some, renO_cells, renO_map, renOO_mkOb, rn_base, rn_add, ren_mkSl, Enc.flat_ren, set_same, set_ne, sets_cons, sets_nil, Keep.set, Keep.setK, Keep.refl, rm_m_int_bool, rm_m_message_Rule, rm_m_pair_bool, rm_m_pair_int])
  have h1' : ¬ 64 < l.length := by simp at h1; omega
  have hp1 : planF l = goP l 0 [] := by simp only [planF, if_neg h1']
  (repeat ((try refine Vc.mk' ?_); simp only [go_sem, reduceIte, reduceCtorEq, Nat.reduceAdd, Nat.reduceMul, Nat.reduceSub, Nat.reduceLT, Nat.reduceLeDiff, Nat.reduceEqDiff, Int.reduceEq, Int.reduceLT, Int.reduceLE, Int.reduceNe, len_sRule h, idx_sRule h, ld_sRule h, sh_sRule h, sw_sRule h, sf_sRule_0 h, sc_sRule_0 h, sf_sRule_1 h, sc_sRule_1 h, sf_sRule_2 h, sc_sRule_2 h, sf_sRule_3 h, sc_sRule_3 h, sf_sRule_4 h, sc_sRule_4 h, h.P, h.oc, h.cl, h.rd, h.ref, strip_P hs, strip_rd hs, strip_ld hs, strip_sl h hs k_sRule, G2_may, conMay]))
  refine CW.loopR (stP hp top v l) (fun x => x.1 ≤ l.length ∧ planF l = goP (l.drop x.1) x.1 x.2) (fun x => l.length - x.1) (0, []) ⟨Nat.zero_le _, hp1⟩ ?_ ?_
  · refine SubR.mk' [top] hcl (by simp) (by simp) rfl (frSub_ok ?_) ?_ ?_
    · simp [frSub, lkG, ren, renL, renL_set, renL_ints, UpdOk.nil, UpdOk.cons, renOO_some, renO_cells, renO_map, renOO_mkOb, rn_base, rn_add, ren_mkSl, Enc.flat_ren, set_same, set_ne, sets_cons, sets_nil, Keep.set, Keep.setK, Keep.refl, rm_m_int_bool, rm_m_message_Rule, rm_m_pair_bool, rm_m_pair_int, Sc.ren (fun j hj => rn_low hj) hs]; simpa using h1
    · simp [frSub, lkG, ren, renL, renL_set, renL_ints, UpdOk.nil, UpdOk.cons, renOO_some, renO_cells, renO_map, renOO_mkOb, rn_base, rn_add, ren_mkSl, Enc.flat_ren, set_same, set_ne, sets_cons, sets_nil, Keep.set, Keep.setK, Keep.refl, rm_m_int_bool, rm_m_message_Rule, rm_m_pair_bool, rm_m_pair_int]
    · simp [frSub, lkG, ren, renL, renL_set, renL_ints, UpdOk.nil, UpdOk.cons, renOO_some, renO_cells, renO_map, renOO_mkOb, rn_base, rn_add, ren_mkSl, Enc.flat_ren, set_same, set_ne, sets_cons, sets_nil, Keep.set, Keep.setK, Keep.refl, rm_m_int_bool, rm_m_message_Rule, rm_m_pair_bool, rm_m_pair_int, me_m_message_Rule]
  · rintro ⟨k, m⟩ ⟨hk, hm⟩
    simp only at hk hm
    by_cases hlt : k < l.length
    · have hd : l.drop k = at' l k :: l.drop (k + 1) := by rw [at'_get _ _ hlt]; exact List.drop_eq_getElem_cons hlt
      rw [hd, goP] at hm
      refine CW.vc env2 [0, 2, 3, 4, 5, 6, 7, 8, 10, 13, 15, 16, 17, 18, 24, 39] (by kernel_rfl) ?_
      (repeat ((try refine Vc.mk' ?_); simp only [go_sem, reduceIte, reduceCtorEq, Nat.reduceAdd, Nat.reduceMul, Nat.reduceSub, Nat.reduceLT, Nat.reduceLeDiff, Nat.reduceEqDiff, Int.reduceEq, Int.reduceLT, Int.reduceLE, Int.reduceNe, len_sRule h, idx_sRule h, ld_sRule h, sh_sRule h, sw_sRule h, sf_sRule_0 h, sc_sRule_0 h, sf_sRule_1 h, sc_sRule_1 h, sf_sRule_2 h, sc_sRule_2 h, sf_sRule_3 h, sc_sRule_3 h, sf_sRule_4 h, sc_sRule_4 h, h.P, h.oc, h.cl, h.rd, h.ref, strip_P hs, strip_rd hs, strip_ld hs, strip_sl h hs k_sRule, G2_may, conMay, hlt, stP]))
      refine condP.mk (fun c1 => ?_) (fun c1 => ?_)
      · (repeat ((try refine Vc.mk' ?_); simp only [go_sem, reduceIte, reduceCtorEq, Nat.reduceAdd, Nat.reduceMul, Nat.reduceSub, Nat.reduceLT, Nat.reduceLeDiff, Nat.reduceEqDiff, Int.reduceEq, Int.reduceLT, Int.reduceLE, Int.reduceNe]))
        simp only [Bool.not_eq_true'] at c1
        rw [if_pos c1] at hm
        simp only [resPlanned, hm]
        (refine ⟨[], by simp, by simp, by simp, ?_, ?_, ?_⟩ <;> simp [frSub, lkG, ren, renL, renL_set, renL_ints, UpdOk.nil, UpdOk.cons, renOO_some, renO_cells, renO_map, renOO_mkOb, rn_base, rn_add, ren_mkSl, Enc.flat_ren, set_same, set_ne, sets_cons, sets_nil, Keep.set, Keep.setK, Keep.refl, rm_m_int_bool, rm_m_message_Rule, rm_m_pair_bool, rm_m_pair_int])
      · (repeat ((try refine Vc.mk' ?_); simp only [go_sem, reduceIte, reduceCtorEq, Nat.reduceAdd, Nat.reduceMul, Nat.reduceSub, Nat.reduceLT, Nat.reduceLeDiff, Nat.reduceEqDiff, Int.reduceEq, Int.reduceLT, Int.reduceLE, Int.reduceNe]))
        simp only [Bool.not_eq_false'] at c1
        rw [if_neg (by simp [c1])] at hm
        refine condP.mk (fun c2 => ?_) (fun c2 => ?_)
        · (repeat ((try refine Vc.mk' ?_); simp only [go_sem, reduceIte, reduceCtorEq, Nat.reduceAdd, Nat.reduceMul, Nat.reduceSub, Nat.reduceLT, Nat.reduceLeDiff, Nat.reduceEqDiff, Int.reduceEq, Int.reduceLT, Int.reduceLE, Int.reduceNe]))
          rw [if_pos (show (mget m (keyR (at' l k))).isSome = true from c2)] at hm
          simp only [resPlanned, hm]
          (refine ⟨[], by simp, by simp, by simp, ?_, ?_, ?_⟩ <;> simp [frSub, lkG, ren, renL, renL_set, renL_ints, UpdOk.nil, UpdOk.cons, renOO_some, renO_cells, renO_map, renOO_mkOb, rn_base, rn_add, ren_mkSl, Enc.flat_ren, set_same, set_ne, sets_cons, sets_nil, Keep.set, Keep.setK, Keep.refl, rm_m_int_bool, rm_m_message_Rule, rm_m_pair_bool, rm_m_pair_int])
        · (repeat ((try refine Vc.mk' ?_); simp only [go_sem, reduceIte, reduceCtorEq, Nat.reduceAdd, Nat.reduceMul, Nat.reduceSub, Nat.reduceLT, Nat.reduceLeDiff, Nat.reduceEqDiff, Int.reduceEq, Int.reduceLT, Int.reduceLE, Int.reduceNe]))
          rw [if_neg (by simp [keyR, c2])] at hm
          have hmc : mclk m ⟨(at' l k).From, (at' l k).To, (at' l k).Nth⟩ k = k + 1 := by
            unfold mclk
            cases hg : mget m ⟨(at' l k).From, (at' l k).To, (at' l k).Nth⟩ with
            | none => rfl
            | some x => rw [hg] at c2; cases c2
          refine .mk (k + 1, mput m (keyR (at' l k)) (at' l k) k) ⟨hlt, hm⟩ (show l.length - (k + 1) < l.length - k by omega) (SubR.mk' [top] hcl (by simp) (by simp) rfl (frSub_ok ?_) ?_ ?_)
          · simp [frSub, lkG, ren, renL, renL_set, renL_ints, UpdOk.nil, UpdOk.cons, renOO_some, renO_cells, renO_map, renOO_mkOb, rn_base, rn_add, ren_mkSl, Enc.flat_ren, set_same, set_ne, sets_cons, sets_nil, Keep.set, Keep.setK, Keep.refl, rm_m_int_bool, rm_m_message_Rule, rm_m_pair_bool, rm_m_pair_int, Sc.ren (fun j hj => rn_low hj) hs, wrap_succ hlt h.le]
          · simp [frSub, lkG, ren, renL, renL_set, renL_ints, UpdOk.nil, UpdOk.cons, renOO_some, renO_cells, renO_map, renOO_mkOb, rn_base, rn_add, ren_mkSl, Enc.flat_ren, set_same, set_ne, sets_cons, sets_nil, Keep.set, Keep.setK, Keep.refl, rm_m_int_bool, rm_m_message_Rule, rm_m_pair_bool, rm_m_pair_int]
          · simp [frSub, lkG, ren, renL, renL_set, renL_ints, UpdOk.nil, UpdOk.cons, renOO_some, renO_cells, renO_map, renOO_mkOb, rn_base, rn_add, ren_mkSl, Enc.flat_ren, set_same, set_ne, sets_cons, sets_nil, Keep.set, Keep.setK, Keep.refl, rm_m_int_bool, rm_m_message_Rule, rm_m_pair_bool, rm_m_pair_int, hmc, keyR]
    · have hk2 : k = l.length := by omega
      subst hk2
      rw [List.drop_length, goP] at hm
      refine CW.vc env2 [0, 2, 3, 4, 5, 6, 7, 8, 10, 13, 15, 16, 17, 18, 24, 39] (by kernel_rfl) ?_
      (repeat ((try refine Vc.mk' ?_); simp only [go_sem, reduceIte, reduceCtorEq, Nat.reduceAdd, Nat.reduceMul, Nat.reduceSub, Nat.reduceLT, Nat.reduceLeDiff, Nat.reduceEqDiff, Int.reduceEq, Int.reduceLT, Int.reduceLE, Int.reduceNe, len_sRule h, idx_sRule h, ld_sRule h, sh_sRule h, sw_sRule h, sf_sRule_0 h, sc_sRule_0 h, sf_sRule_1 h, sc_sRule_1 h, sf_sRule_2 h, sc_sRule_2 h, sf_sRule_3 h, sc_sRule_3 h, sf_sRule_4 h, sc_sRule_4 h, h.P, h.oc, h.cl, h.rd, h.ref, strip_P hs, strip_rd hs, strip_ld hs, strip_sl h hs k_sRule, G2_may, conMay, hlt, stP]))
      simp only [resPlanned, hm]
      (refine ⟨[top], by simp, by simp, by simp, ?_, ?_, ?_⟩ <;> simp [frSub, lkG, ren, renL, renL_set, renL_ints, UpdOk.nil, UpdOk.cons, renOO_some, renO_cells, renO_map, renOO_mkOb, rn_base, rn_add, ren_mkSl, Enc.flat_ren, set_same, set_ne, sets_cons, sets_nil, Keep.set, Keep.setK, Keep.refl, rm_m_int_bool, rm_m_message_Rule, rm_m_pair_bool, rm_m_pair_int])
end Go.Proofs.Ytmppehipfpkepaa.Fa
