/- Calendars that are none. -/
import Derived.Test.YtogndgadipdikaaYs
set_option linter.unusedSimpArgs false
set_option linter.unusedVariables false
namespace Go.Proofs.Ytogndgadipdikaa.Dm
open Go.Dm
set_option maxHeartbeats 8000000
set_option maxRecDepth 20000

abbrev noCal : AObj := .cells true 0 [.bool false, .int .i64 0, .slice none 0 0]
/-- a calendar that is none -/
def NoneA : List Value → Hp → Prop
  | .pointer none :: _, _ => True
  | .pointer (some ⟨b, 0, none⟩) :: _, hp => hp b = some noCal
  | _, _ => False
open Classical in
noncomputable def orNone (n : Nat) (v : Value) : Con → Con
  | .det pre res => .det (fun a h t => (NoneA a h ∧ a.length = n) ∨ (¬ NoneA a h ∧ pre a h t)) (fun a h t => if NoneA a h then (v, [], t) else res a h t)
  | .pure pre res => .det (fun a h t => (NoneA a h ∧ a.length = n) ∨ (¬ NoneA a h ∧ pre a h)) (fun a h t => if NoneA a h then (v, [], t) else (res a h, [], t))
  | c => c
theorem noneA_nil {l : List Value} {hp : Hp} : NoneA (.pointer none :: l) hp = True := rfl
theorem noneA_at {l : List Value} {hp : Hp} {b : Nat} : NoneA (.pointer (some ⟨b, 0, none⟩) :: l) hp = (hp b = some noCal) := rfl
theorem isCal_none {hp : Hp} {b : Nat} (h : hp b = some noCal) : IsCal hp b = True := eq_true ⟨_, _, _, h⟩
open Classical in
theorem orNone_det {P : Program} {f : FuncId} {n : Nat} {v : Value} {pre : List Value → Hp → Nat → Prop} {res : List Value → Hp → Nat → Value × Upds × Nat} (h : ConOk P f (.det pre res))
    (hn : ∀ args hp top, NoneA args hp → args.length = n → Cl hp top → ScL top args → CalledOk P f args hp top fun v1 h1 top1 => top ≤ top1 ∧ ∃ bs, RetR hp top bs (v, [], top) v1 h1 top1) : ConOk P f (orNone n v (.det pre res)) := by
  refine ⟨h.1, fun args hp top hp0 => ?_⟩
  rcases hp0 with ⟨h1, h2⟩ | ⟨h1, h2⟩
  · show CalledOk P f args hp top fun r hp' top' => r = (if NoneA args hp then (v, [], top) else res args hp top).1 ∧ hp' = hp.sets (if NoneA args hp then (v, [], top) else res args hp top).2.1 ∧ top' = (if NoneA args hp then (v, [], top) else res args hp top).2.2
    rw [if_pos h1]
    exact CalledOk.mkDet (r := (v, [], top)) (hn args hp top h1 h2)
  · show CalledOk P f args hp top fun r hp' top' => r = (if NoneA args hp then (v, [], top) else res args hp top).1 ∧ hp' = hp.sets (if NoneA args hp then (v, [], top) else res args hp top).2.1 ∧ top' = (if NoneA args hp then (v, [], top) else res args hp top).2.2
    rw [if_neg h1]
    exact h.2 args hp top h2
open Classical in
theorem orNone_pure {P : Program} {f : FuncId} {n : Nat} {v : Value} {pre : List Value → Hp → Prop} {res : List Value → Hp → Value} (h : ConOk P f (.pure pre res))
    (hn : ∀ args hp top, NoneA args hp → args.length = n → Cl hp top → ScL top args → CalledOk P f args hp top fun v1 h1 top1 => top ≤ top1 ∧ ∃ bs, RetR hp top bs (v, [], top) v1 h1 top1) : ConOk P f (orNone n v (.pure pre res)) := by
  have : ConOk P f (.det (fun a h _ => pre a h) (fun a h t => (res a h, [], t))) := ⟨h.1, fun args hp top hp0 => h.2 args hp hp0 top⟩
  exact orNone_det this hn
noncomputable def conPut_s0 : Con := orNone 3 (.int .i64 0) conPut_s

theorem put_s_ok0 : ConOk Try.prog 27 conPut_s0 := by
  refine orNone_det put_s_ok ?_
  intro args hp top hno hlen hcl hsc
  match args, hno, hlen with
  | [.pointer (some ⟨b, 0, none⟩), x, y], hh, _ =>
    have hh : hp b = some noCal := hh
    have hbt : b < top := hcl.lt _ _ hh
    have hic : ∀ {h' : Hp}, h' b = some noCal → IsCal h' b = True := fun h => isCal_none h
    have hno : (some noCal : Option AObj) = some (.cells true 0 [.bool false, .int .i64 0, .slice none 0 0]) := rfl
    refine CalledOk.of_fun tt_ok fn27_ok rfl 50 rfl [.tmp 6] rfl (show 3 ≤ 50 by decide) ?_
    refine CW.vc env14s [0, 1, 2, 6, 7, 8, 11] (by kernel_rfl) ?_
    (simp only [go_sem, reduceIte, reduceCtorEq, Nat.reduceAdd, Nat.reduceMul, Nat.reduceSub, Nat.reduceLT, Nat.reduceLeDiff, Nat.reduceEqDiff, Int.reduceEq, Int.reduceLT, Int.reduceLE, Int.reduceNe, G14s_none, conNone_s, List.headD_cons, hh, hic, set_lt hbt]; repeat (refine Vc.mk' ?_; simp only [go_sem, reduceIte, reduceCtorEq, Nat.reduceAdd, Nat.reduceMul, Nat.reduceSub, Nat.reduceLT, Nat.reduceLeDiff, Nat.reduceEqDiff, Int.reduceEq, Int.reduceLT, Int.reduceLE, Int.reduceNe, G14s_none, conNone_s, List.headD_cons, hh, hic, set_lt hbt]))
    exact ⟨[], by simp, by simp, by simp, by simp [frSub, lkG, ren, renL, renL_set, renL_ints, UpdOk.nil, UpdOk.cons, renOO_some, renO_cells, renO_map, renOO_mkOb, rn_base, rn_add, ren_mkSl, Enc.flat_ren, set_same, set_ne, sets_cons, sets_nil, Keep.set, Keep.setK, Keep.refl], by simp [frSub, lkG, ren, renL, renL_set, renL_ints, UpdOk.nil, UpdOk.cons, renOO_some, renO_cells, renO_map, renOO_mkOb, rn_base, rn_add, ren_mkSl, Enc.flat_ren, set_same, set_ne, sets_cons, sets_nil, Keep.set, Keep.setK, Keep.refl], by simp [frSub, lkG, ren, renL, renL_set, renL_ints, UpdOk.nil, UpdOk.cons, renOO_some, renO_cells, renO_map, renOO_mkOb, rn_base, rn_add, ren_mkSl, Enc.flat_ren, set_same, set_ne, sets_cons, sets_nil, Keep.set, Keep.setK, Keep.refl]⟩
  | [.pointer none, x, y], _, _ =>
    refine CalledOk.of_fun tt_ok fn27_ok rfl 50 rfl [.tmp 6] rfl (show 3 ≤ 50 by decide) ?_
    refine CW.vc env14s [0, 1, 2, 6, 7, 8, 11] (by kernel_rfl) ?_
    (simp only [go_sem, reduceIte, reduceCtorEq, Nat.reduceAdd, Nat.reduceMul, Nat.reduceSub, Nat.reduceLT, Nat.reduceLeDiff, Nat.reduceEqDiff, Int.reduceEq, Int.reduceLT, Int.reduceLE, Int.reduceNe, G14s_none, conNone_s, List.headD_cons]; repeat (refine Vc.mk' ?_; simp only [go_sem, reduceIte, reduceCtorEq, Nat.reduceAdd, Nat.reduceMul, Nat.reduceSub, Nat.reduceLT, Nat.reduceLeDiff, Nat.reduceEqDiff, Int.reduceEq, Int.reduceLT, Int.reduceLE, Int.reduceNe, G14s_none, conNone_s, List.headD_cons]))
    exact ⟨[], by simp, by simp, by simp, by simp [frSub, lkG, ren, renL, renL_set, renL_ints, UpdOk.nil, UpdOk.cons, renOO_some, renO_cells, renO_map, renOO_mkOb, rn_base, rn_add, ren_mkSl, Enc.flat_ren, set_same, set_ne, sets_cons, sets_nil, Keep.set, Keep.setK, Keep.refl], by simp [frSub, lkG, ren, renL, renL_set, renL_ints, UpdOk.nil, UpdOk.cons, renOO_some, renO_cells, renO_map, renOO_mkOb, rn_base, rn_add, ren_mkSl, Enc.flat_ren, set_same, set_ne, sets_cons, sets_nil, Keep.set, Keep.setK, Keep.refl], by simp [frSub, lkG, ren, renL, renL_set, renL_ints, UpdOk.nil, UpdOk.cons, renOO_some, renO_cells, renO_map, renOO_mkOb, rn_base, rn_add, ren_mkSl, Enc.flat_ren, set_same, set_ne, sets_cons, sets_nil, Keep.set, Keep.setK, Keep.refl]⟩
noncomputable def conDrop_s0 : Con := orNone 2 (.bool false) conDrop_s

theorem drop_s_ok0 : ConOk Try.prog 29 conDrop_s0 := by
  refine orNone_det drop_s_ok ?_
  intro args hp top hno hlen hcl hsc
  match args, hno, hlen with
  | [.pointer (some ⟨b, 0, none⟩), x], hh, _ =>
    have hh : hp b = some noCal := hh
    have hbt : b < top := hcl.lt _ _ hh
    have hic : ∀ {h' : Hp}, h' b = some noCal → IsCal h' b = True := fun h => isCal_none h
    have hno : (some noCal : Option AObj) = some (.cells true 0 [.bool false, .int .i64 0, .slice none 0 0]) := rfl
    refine CalledOk.of_fun tt_ok fn29_ok rfl 27 rfl [.tmp 4] rfl (show 2 ≤ 27 by decide) ?_
    refine CW.vc env14s [0, 1, 3, 4, 5, 7, 15] (by kernel_rfl) ?_
    (simp only [go_sem, reduceIte, reduceCtorEq, Nat.reduceAdd, Nat.reduceMul, Nat.reduceSub, Nat.reduceLT, Nat.reduceLeDiff, Nat.reduceEqDiff, Int.reduceEq, Int.reduceLT, Int.reduceLE, Int.reduceNe, G14s_none, conNone_s, List.headD_cons, hh, hic, set_lt hbt]; repeat (refine Vc.mk' ?_; simp only [go_sem, reduceIte, reduceCtorEq, Nat.reduceAdd, Nat.reduceMul, Nat.reduceSub, Nat.reduceLT, Nat.reduceLeDiff, Nat.reduceEqDiff, Int.reduceEq, Int.reduceLT, Int.reduceLE, Int.reduceNe, G14s_none, conNone_s, List.headD_cons, hh, hic, set_lt hbt]))
    exact ⟨[], by simp, by simp, by simp, by simp [frSub, lkG, ren, renL, renL_set, renL_ints, UpdOk.nil, UpdOk.cons, renOO_some, renO_cells, renO_map, renOO_mkOb, rn_base, rn_add, ren_mkSl, Enc.flat_ren, set_same, set_ne, sets_cons, sets_nil, Keep.set, Keep.setK, Keep.refl], by simp [frSub, lkG, ren, renL, renL_set, renL_ints, UpdOk.nil, UpdOk.cons, renOO_some, renO_cells, renO_map, renOO_mkOb, rn_base, rn_add, ren_mkSl, Enc.flat_ren, set_same, set_ne, sets_cons, sets_nil, Keep.set, Keep.setK, Keep.refl], by simp [frSub, lkG, ren, renL, renL_set, renL_ints, UpdOk.nil, UpdOk.cons, renOO_some, renO_cells, renO_map, renOO_mkOb, rn_base, rn_add, ren_mkSl, Enc.flat_ren, set_same, set_ne, sets_cons, sets_nil, Keep.set, Keep.setK, Keep.refl]⟩
  | [.pointer none, x], _, _ =>
    refine CalledOk.of_fun tt_ok fn29_ok rfl 27 rfl [.tmp 4] rfl (show 2 ≤ 27 by decide) ?_
    refine CW.vc env14s [0, 1, 3, 4, 5, 7, 15] (by kernel_rfl) ?_
    (simp only [go_sem, reduceIte, reduceCtorEq, Nat.reduceAdd, Nat.reduceMul, Nat.reduceSub, Nat.reduceLT, Nat.reduceLeDiff, Nat.reduceEqDiff, Int.reduceEq, Int.reduceLT, Int.reduceLE, Int.reduceNe, G14s_none, conNone_s, List.headD_cons]; repeat (refine Vc.mk' ?_; simp only [go_sem, reduceIte, reduceCtorEq, Nat.reduceAdd, Nat.reduceMul, Nat.reduceSub, Nat.reduceLT, Nat.reduceLeDiff, Nat.reduceEqDiff, Int.reduceEq, Int.reduceLT, Int.reduceLE, Int.reduceNe, G14s_none, conNone_s, List.headD_cons]))
    exact ⟨[], by simp, by simp, by simp, by simp [frSub, lkG, ren, renL, renL_set, renL_ints, UpdOk.nil, UpdOk.cons, renOO_some, renO_cells, renO_map, renOO_mkOb, rn_base, rn_add, ren_mkSl, Enc.flat_ren, set_same, set_ne, sets_cons, sets_nil, Keep.set, Keep.setK, Keep.refl], by simp [frSub, lkG, ren, renL, renL_set, renL_ints, UpdOk.nil, UpdOk.cons, renOO_some, renO_cells, renO_map, renOO_mkOb, rn_base, rn_add, ren_mkSl, Enc.flat_ren, set_same, set_ne, sets_cons, sets_nil, Keep.set, Keep.setK, Keep.refl], by simp [frSub, lkG, ren, renL, renL_set, renL_ints, UpdOk.nil, UpdOk.cons, renOO_some, renO_cells, renO_map, renOO_mkOb, rn_base, rn_add, ren_mkSl, Enc.flat_ren, set_same, set_ne, sets_cons, sets_nil, Keep.set, Keep.setK, Keep.refl]⟩
noncomputable def conTake_s0 : Con := orNone 2 (.slice none 0 0) conTake_s

theorem take_s_ok0 : ConOk Try.prog 25 conTake_s0 := by
  refine orNone_det take_s_ok ?_
  intro args hp top hno hlen hcl hsc
  match args, hno, hlen with
  | [.pointer (some ⟨b, 0, none⟩), x], hh, _ =>
    have hh : hp b = some noCal := hh
    have hbt : b < top := hcl.lt _ _ hh
    have hic : ∀ {h' : Hp}, h' b = some noCal → IsCal h' b = True := fun h => isCal_none h
    have hno : (some noCal : Option AObj) = some (.cells true 0 [.bool false, .int .i64 0, .slice none 0 0]) := rfl
    refine CalledOk.of_fun tt_ok fn25_ok rfl 40 rfl [.tmp 4] rfl (show 2 ≤ 40 by decide) ?_
    refine CW.vc env14s [0, 1, 4, 5, 7, 9, 13, 14, 15, 16, 22] (by kernel_rfl) ?_
    (simp only [go_sem, reduceIte, reduceCtorEq, Nat.reduceAdd, Nat.reduceMul, Nat.reduceSub, Nat.reduceLT, Nat.reduceLeDiff, Nat.reduceEqDiff, Int.reduceEq, Int.reduceLT, Int.reduceLE, Int.reduceNe, G14s_none, conNone_s, List.headD_cons, hh, hic, set_lt hbt]; repeat (refine Vc.mk' ?_; simp only [go_sem, reduceIte, reduceCtorEq, Nat.reduceAdd, Nat.reduceMul, Nat.reduceSub, Nat.reduceLT, Nat.reduceLeDiff, Nat.reduceEqDiff, Int.reduceEq, Int.reduceLT, Int.reduceLE, Int.reduceNe, G14s_none, conNone_s, List.headD_cons, hh, hic, set_lt hbt]))
    exact ⟨[], by simp, by simp, by simp, by simp [frSub, lkG, ren, renL, renL_set, renL_ints, UpdOk.nil, UpdOk.cons, renOO_some, renO_cells, renO_map, renOO_mkOb, rn_base, rn_add, ren_mkSl, Enc.flat_ren, set_same, set_ne, sets_cons, sets_nil, Keep.set, Keep.setK, Keep.refl], by simp [frSub, lkG, ren, renL, renL_set, renL_ints, UpdOk.nil, UpdOk.cons, renOO_some, renO_cells, renO_map, renOO_mkOb, rn_base, rn_add, ren_mkSl, Enc.flat_ren, set_same, set_ne, sets_cons, sets_nil, Keep.set, Keep.setK, Keep.refl], by simp [frSub, lkG, ren, renL, renL_set, renL_ints, UpdOk.nil, UpdOk.cons, renOO_some, renO_cells, renO_map, renOO_mkOb, rn_base, rn_add, ren_mkSl, Enc.flat_ren, set_same, set_ne, sets_cons, sets_nil, Keep.set, Keep.setK, Keep.refl]⟩
  | [.pointer none, x], _, _ =>
    refine CalledOk.of_fun tt_ok fn25_ok rfl 40 rfl [.tmp 4] rfl (show 2 ≤ 40 by decide) ?_
    refine CW.vc env14s [0, 1, 4, 5, 7, 9, 13, 14, 15, 16, 22] (by kernel_rfl) ?_
    (simp only [go_sem, reduceIte, reduceCtorEq, Nat.reduceAdd, Nat.reduceMul, Nat.reduceSub, Nat.reduceLT, Nat.reduceLeDiff, Nat.reduceEqDiff, Int.reduceEq, Int.reduceLT, Int.reduceLE, Int.reduceNe, G14s_none, conNone_s, List.headD_cons]; repeat (refine Vc.mk' ?_; simp only [go_sem, reduceIte, reduceCtorEq, Nat.reduceAdd, Nat.reduceMul, Nat.reduceSub, Nat.reduceLT, Nat.reduceLeDiff, Nat.reduceEqDiff, Int.reduceEq, Int.reduceLT, Int.reduceLE, Int.reduceNe, G14s_none, conNone_s, List.headD_cons]))
    exact ⟨[], by simp, by simp, by simp, by simp [frSub, lkG, ren, renL, renL_set, renL_ints, UpdOk.nil, UpdOk.cons, renOO_some, renO_cells, renO_map, renOO_mkOb, rn_base, rn_add, ren_mkSl, Enc.flat_ren, set_same, set_ne, sets_cons, sets_nil, Keep.set, Keep.setK, Keep.refl], by simp [frSub, lkG, ren, renL, renL_set, renL_ints, UpdOk.nil, UpdOk.cons, renOO_some, renO_cells, renO_map, renOO_mkOb, rn_base, rn_add, ren_mkSl, Enc.flat_ren, set_same, set_ne, sets_cons, sets_nil, Keep.set, Keep.setK, Keep.refl], by simp [frSub, lkG, ren, renL, renL_set, renL_ints, UpdOk.nil, UpdOk.cons, renOO_some, renO_cells, renO_map, renOO_mkOb, rn_base, rn_add, ren_mkSl, Enc.flat_ren, set_same, set_ne, sets_cons, sets_nil, Keep.set, Keep.setK, Keep.refl]⟩
noncomputable def conNext_s0 : Con := orNone 1 (.tuple ⟨[.int .u64 0, .bool false]⟩) conNext_s

theorem next_s_ok0 : ConOk Try.prog 28 conNext_s0 := by
  refine orNone_pure next_s_ok ?_
  intro args hp top hno hlen hcl hsc
  match args, hno, hlen with
  | [.pointer (some ⟨b, 0, none⟩)], hh, _ =>
    have hh : hp b = some noCal := hh
    have hbt : b < top := hcl.lt _ _ hh
    have hic : ∀ {h' : Hp}, h' b = some noCal → IsCal h' b = True := fun h => isCal_none h
    have hno : (some noCal : Option AObj) = some (.cells true 0 [.bool false, .int .i64 0, .slice none 0 0]) := rfl
    refine CalledOk.of_fun tt_ok fn28_ok rfl 21 rfl [.tmp 2, .tmp 3] rfl (show 1 ≤ 21 by decide) ?_
    refine CW.vc env5_s [0, 2, 3, 13] (by kernel_rfl) ?_
    (simp only [go_sem, reduceIte, reduceCtorEq, Nat.reduceAdd, Nat.reduceMul, Nat.reduceSub, Nat.reduceLT, Nat.reduceLeDiff, Nat.reduceEqDiff, Int.reduceEq, Int.reduceLT, Int.reduceLE, Int.reduceNe, G5_s_none, conNone_s, List.headD_cons, hh, hic, set_lt hbt]; repeat (refine Vc.mk' ?_; simp only [go_sem, reduceIte, reduceCtorEq, Nat.reduceAdd, Nat.reduceMul, Nat.reduceSub, Nat.reduceLT, Nat.reduceLeDiff, Nat.reduceEqDiff, Int.reduceEq, Int.reduceLT, Int.reduceLE, Int.reduceNe, G5_s_none, conNone_s, List.headD_cons, hh, hic, set_lt hbt]))
    exact ⟨[], by simp, by simp, by simp, by simp [frSub, lkG, ren, renL, renL_set, renL_ints, UpdOk.nil, UpdOk.cons, renOO_some, renO_cells, renO_map, renOO_mkOb, rn_base, rn_add, ren_mkSl, Enc.flat_ren, set_same, set_ne, sets_cons, sets_nil, Keep.set, Keep.setK, Keep.refl], by simp [frSub, lkG, ren, renL, renL_set, renL_ints, UpdOk.nil, UpdOk.cons, renOO_some, renO_cells, renO_map, renOO_mkOb, rn_base, rn_add, ren_mkSl, Enc.flat_ren, set_same, set_ne, sets_cons, sets_nil, Keep.set, Keep.setK, Keep.refl], by simp [frSub, lkG, ren, renL, renL_set, renL_ints, UpdOk.nil, UpdOk.cons, renOO_some, renO_cells, renO_map, renOO_mkOb, rn_base, rn_add, ren_mkSl, Enc.flat_ren, set_same, set_ne, sets_cons, sets_nil, Keep.set, Keep.setK, Keep.refl]⟩
  | [.pointer none], _, _ =>
    refine CalledOk.of_fun tt_ok fn28_ok rfl 21 rfl [.tmp 2, .tmp 3] rfl (show 1 ≤ 21 by decide) ?_
    refine CW.vc env5_s [0, 2, 3, 13] (by kernel_rfl) ?_
    (simp only [go_sem, reduceIte, reduceCtorEq, Nat.reduceAdd, Nat.reduceMul, Nat.reduceSub, Nat.reduceLT, Nat.reduceLeDiff, Nat.reduceEqDiff, Int.reduceEq, Int.reduceLT, Int.reduceLE, Int.reduceNe, G5_s_none, conNone_s, List.headD_cons]; repeat (refine Vc.mk' ?_; simp only [go_sem, reduceIte, reduceCtorEq, Nat.reduceAdd, Nat.reduceMul, Nat.reduceSub, Nat.reduceLT, Nat.reduceLeDiff, Nat.reduceEqDiff, Int.reduceEq, Int.reduceLT, Int.reduceLE, Int.reduceNe, G5_s_none, conNone_s, List.headD_cons]))
    exact ⟨[], by simp, by simp, by simp, by simp [frSub, lkG, ren, renL, renL_set, renL_ints, UpdOk.nil, UpdOk.cons, renOO_some, renO_cells, renO_map, renOO_mkOb, rn_base, rn_add, ren_mkSl, Enc.flat_ren, set_same, set_ne, sets_cons, sets_nil, Keep.set, Keep.setK, Keep.refl], by simp [frSub, lkG, ren, renL, renL_set, renL_ints, UpdOk.nil, UpdOk.cons, renOO_some, renO_cells, renO_map, renOO_mkOb, rn_base, rn_add, ren_mkSl, Enc.flat_ren, set_same, set_ne, sets_cons, sets_nil, Keep.set, Keep.setK, Keep.refl], by simp [frSub, lkG, ren, renL, renL_set, renL_ints, UpdOk.nil, UpdOk.cons, renOO_some, renO_cells, renO_map, renOO_mkOb, rn_base, rn_add, ren_mkSl, Enc.flat_ren, set_same, set_ne, sets_cons, sets_nil, Keep.set, Keep.setK, Keep.refl]⟩
noncomputable def conLen_s0 : Con := orNone 1 (.int .i64 0) conLen_s

theorem len_s_ok0 : ConOk Try.prog 23 conLen_s0 := by
  refine orNone_pure len_s_ok ?_
  intro args hp top hno hlen hcl hsc
  match args, hno, hlen with
  | [.pointer (some ⟨b, 0, none⟩)], hh, _ =>
    have hh : hp b = some noCal := hh
    have hbt : b < top := hcl.lt _ _ hh
    have hic : ∀ {h' : Hp}, h' b = some noCal → IsCal h' b = True := fun h => isCal_none h
    have hno : (some noCal : Option AObj) = some (.cells true 0 [.bool false, .int .i64 0, .slice none 0 0]) := rfl
    refine CalledOk.of_fun tt_ok fn23_ok rfl 10 rfl [.tmp 2] rfl (show 1 ≤ 10 by decide) ?_
    refine CW.vc env14s [0, 2, 4] (by kernel_rfl) ?_
    (simp only [go_sem, reduceIte, reduceCtorEq, Nat.reduceAdd, Nat.reduceMul, Nat.reduceSub, Nat.reduceLT, Nat.reduceLeDiff, Nat.reduceEqDiff, Int.reduceEq, Int.reduceLT, Int.reduceLE, Int.reduceNe, G14s_none, conNone_s, List.headD_cons, hh, hic, set_lt hbt]; repeat (refine Vc.mk' ?_; simp only [go_sem, reduceIte, reduceCtorEq, Nat.reduceAdd, Nat.reduceMul, Nat.reduceSub, Nat.reduceLT, Nat.reduceLeDiff, Nat.reduceEqDiff, Int.reduceEq, Int.reduceLT, Int.reduceLE, Int.reduceNe, G14s_none, conNone_s, List.headD_cons, hh, hic, set_lt hbt]))
    exact ⟨[], by simp, by simp, by simp, by simp [frSub, lkG, ren, renL, renL_set, renL_ints, UpdOk.nil, UpdOk.cons, renOO_some, renO_cells, renO_map, renOO_mkOb, rn_base, rn_add, ren_mkSl, Enc.flat_ren, set_same, set_ne, sets_cons, sets_nil, Keep.set, Keep.setK, Keep.refl], by simp [frSub, lkG, ren, renL, renL_set, renL_ints, UpdOk.nil, UpdOk.cons, renOO_some, renO_cells, renO_map, renOO_mkOb, rn_base, rn_add, ren_mkSl, Enc.flat_ren, set_same, set_ne, sets_cons, sets_nil, Keep.set, Keep.setK, Keep.refl], by simp [frSub, lkG, ren, renL, renL_set, renL_ints, UpdOk.nil, UpdOk.cons, renOO_some, renO_cells, renO_map, renOO_mkOb, rn_base, rn_add, ren_mkSl, Enc.flat_ren, set_same, set_ne, sets_cons, sets_nil, Keep.set, Keep.setK, Keep.refl]⟩
  | [.pointer none], _, _ =>
    refine CalledOk.of_fun tt_ok fn23_ok rfl 10 rfl [.tmp 2] rfl (show 1 ≤ 10 by decide) ?_
    refine CW.vc env14s [0, 2, 4] (by kernel_rfl) ?_
    (simp only [go_sem, reduceIte, reduceCtorEq, Nat.reduceAdd, Nat.reduceMul, Nat.reduceSub, Nat.reduceLT, Nat.reduceLeDiff, Nat.reduceEqDiff, Int.reduceEq, Int.reduceLT, Int.reduceLE, Int.reduceNe, G14s_none, conNone_s, List.headD_cons]; repeat (refine Vc.mk' ?_; simp only [go_sem, reduceIte, reduceCtorEq, Nat.reduceAdd, Nat.reduceMul, Nat.reduceSub, Nat.reduceLT, Nat.reduceLeDiff, Nat.reduceEqDiff, Int.reduceEq, Int.reduceLT, Int.reduceLE, Int.reduceNe, G14s_none, conNone_s, List.headD_cons]))
    exact ⟨[], by simp, by simp, by simp, by simp [frSub, lkG, ren, renL, renL_set, renL_ints, UpdOk.nil, UpdOk.cons, renOO_some, renO_cells, renO_map, renOO_mkOb, rn_base, rn_add, ren_mkSl, Enc.flat_ren, set_same, set_ne, sets_cons, sets_nil, Keep.set, Keep.setK, Keep.refl], by simp [frSub, lkG, ren, renL, renL_set, renL_ints, UpdOk.nil, UpdOk.cons, renOO_some, renO_cells, renO_map, renOO_mkOb, rn_base, rn_add, ren_mkSl, Enc.flat_ren, set_same, set_ne, sets_cons, sets_nil, Keep.set, Keep.setK, Keep.refl], by simp [frSub, lkG, ren, renL, renL_set, renL_ints, UpdOk.nil, UpdOk.cons, renOO_some, renO_cells, renO_map, renOO_mkOb, rn_base, rn_add, ren_mkSl, Enc.flat_ren, set_same, set_ne, sets_cons, sets_nil, Keep.set, Keep.setK, Keep.refl]⟩
noncomputable def conSift_s0 : Con := orNone 2 (.int .i64 0) conSift_s

theorem sift_s_ok0 : ConOk Try.prog 31 conSift_s0 := by
  refine orNone_det sift_s_ok ?_
  intro args hp top hno hlen hcl hsc
  match args, hno, hlen with
  | [.pointer (some ⟨b, 0, none⟩), x], hh, _ =>
    have hh : hp b = some noCal := hh
    have hbt : b < top := hcl.lt _ _ hh
    have hic : ∀ {h' : Hp}, h' b = some noCal → IsCal h' b = True := fun h => isCal_none h
    have hno : (some noCal : Option AObj) = some (.cells true 0 [.bool false, .int .i64 0, .slice none 0 0]) := rfl
    refine CalledOk.of_fun tt_ok fn31_ok rfl 33 rfl [.tmp 4] rfl (show 2 ≤ 33 by decide) ?_
    refine CW.vc env14s [0, 1, 3, 4, 5, 11] (by kernel_rfl) ?_
    (simp only [go_sem, reduceIte, reduceCtorEq, Nat.reduceAdd, Nat.reduceMul, Nat.reduceSub, Nat.reduceLT, Nat.reduceLeDiff, Nat.reduceEqDiff, Int.reduceEq, Int.reduceLT, Int.reduceLE, Int.reduceNe, G14s_none, conNone_s, List.headD_cons, hh, hic, set_lt hbt]; repeat (refine Vc.mk' ?_; simp only [go_sem, reduceIte, reduceCtorEq, Nat.reduceAdd, Nat.reduceMul, Nat.reduceSub, Nat.reduceLT, Nat.reduceLeDiff, Nat.reduceEqDiff, Int.reduceEq, Int.reduceLT, Int.reduceLE, Int.reduceNe, G14s_none, conNone_s, List.headD_cons, hh, hic, set_lt hbt]))
    exact ⟨[], by simp, by simp, by simp, by simp [frSub, lkG, ren, renL, renL_set, renL_ints, UpdOk.nil, UpdOk.cons, renOO_some, renO_cells, renO_map, renOO_mkOb, rn_base, rn_add, ren_mkSl, Enc.flat_ren, set_same, set_ne, sets_cons, sets_nil, Keep.set, Keep.setK, Keep.refl], by simp [frSub, lkG, ren, renL, renL_set, renL_ints, UpdOk.nil, UpdOk.cons, renOO_some, renO_cells, renO_map, renOO_mkOb, rn_base, rn_add, ren_mkSl, Enc.flat_ren, set_same, set_ne, sets_cons, sets_nil, Keep.set, Keep.setK, Keep.refl], by simp [frSub, lkG, ren, renL, renL_set, renL_ints, UpdOk.nil, UpdOk.cons, renOO_some, renO_cells, renO_map, renOO_mkOb, rn_base, rn_add, ren_mkSl, Enc.flat_ren, set_same, set_ne, sets_cons, sets_nil, Keep.set, Keep.setK, Keep.refl]⟩
  | [.pointer none, x], _, _ =>
    refine CalledOk.of_fun tt_ok fn31_ok rfl 33 rfl [.tmp 4] rfl (show 2 ≤ 33 by decide) ?_
    refine CW.vc env14s [0, 1, 3, 4, 5, 11] (by kernel_rfl) ?_
    (simp only [go_sem, reduceIte, reduceCtorEq, Nat.reduceAdd, Nat.reduceMul, Nat.reduceSub, Nat.reduceLT, Nat.reduceLeDiff, Nat.reduceEqDiff, Int.reduceEq, Int.reduceLT, Int.reduceLE, Int.reduceNe, G14s_none, conNone_s, List.headD_cons]; repeat (refine Vc.mk' ?_; simp only [go_sem, reduceIte, reduceCtorEq, Nat.reduceAdd, Nat.reduceMul, Nat.reduceSub, Nat.reduceLT, Nat.reduceLeDiff, Nat.reduceEqDiff, Int.reduceEq, Int.reduceLT, Int.reduceLE, Int.reduceNe, G14s_none, conNone_s, List.headD_cons]))
    exact ⟨[], by simp, by simp, by simp, by simp [frSub, lkG, ren, renL, renL_set, renL_ints, UpdOk.nil, UpdOk.cons, renOO_some, renO_cells, renO_map, renOO_mkOb, rn_base, rn_add, ren_mkSl, Enc.flat_ren, set_same, set_ne, sets_cons, sets_nil, Keep.set, Keep.setK, Keep.refl], by simp [frSub, lkG, ren, renL, renL_set, renL_ints, UpdOk.nil, UpdOk.cons, renOO_some, renO_cells, renO_map, renOO_mkOb, rn_base, rn_add, ren_mkSl, Enc.flat_ren, set_same, set_ne, sets_cons, sets_nil, Keep.set, Keep.setK, Keep.refl], by simp [frSub, lkG, ren, renL, renL_set, renL_ints, UpdOk.nil, UpdOk.cons, renOO_some, renO_cells, renO_map, renOO_mkOb, rn_base, rn_add, ren_mkSl, Enc.flat_ren, set_same, set_ne, sets_cons, sets_nil, Keep.set, Keep.setK, Keep.refl]⟩
noncomputable def conCopy_s0 : Con := orNone 1 (.pointer none) conCopy_s

theorem copy_s_ok0 : ConOk Try.prog 33 conCopy_s0 := by
  refine orNone_det copy_s_ok ?_
  intro args hp top hno hlen hcl hsc
  match args, hno, hlen with
  | [.pointer (some ⟨b, 0, none⟩)], hh, _ =>
    have hh : hp b = some noCal := hh
    have hbt : b < top := hcl.lt _ _ hh
    have hic : ∀ {h' : Hp}, h' b = some noCal → IsCal h' b = True := fun h => isCal_none h
    have hno : (some noCal : Option AObj) = some (.cells true 0 [.bool false, .int .i64 0, .slice none 0 0]) := rfl
    refine CalledOk.of_fun tt_ok fn33_ok rfl 16 rfl [.tmp 2] rfl (show 1 ≤ 16 by decide) ?_
    refine CW.vc env14s [0, 2, 4, 1000003] (by kernel_rfl) ?_
    (simp only [go_sem, reduceIte, reduceCtorEq, Nat.reduceAdd, Nat.reduceMul, Nat.reduceSub, Nat.reduceLT, Nat.reduceLeDiff, Nat.reduceEqDiff, Int.reduceEq, Int.reduceLT, Int.reduceLE, Int.reduceNe, G14s_none, conNone_s, List.headD_cons, hh, hic, set_lt hbt]; repeat ((first | refine Vc.mk' ?_ | refine CW.drawX env14s 3 [0, 2, 4, 1000003] [(3, 8)] (by kernel_rfl) (by kernel_rfl) ?_); simp only [go_sem, reduceIte, reduceCtorEq, Nat.reduceAdd, Nat.reduceMul, Nat.reduceSub, Nat.reduceLT, Nat.reduceLeDiff, Nat.reduceEqDiff, Int.reduceEq, Int.reduceLT, Int.reduceLE, Int.reduceNe, G14s_none, conNone_s, List.headD_cons, hh, hic, set_lt hbt]))
    exact ⟨[], by simp, by simp, by simp, by simp [frSub, lkG, ren, renL, renL_set, renL_ints, UpdOk.nil, UpdOk.cons, renOO_some, renO_cells, renO_map, renOO_mkOb, rn_base, rn_add, ren_mkSl, Enc.flat_ren, set_same, set_ne, sets_cons, sets_nil, Keep.set, Keep.setK, Keep.refl], by simp [frSub, lkG, ren, renL, renL_set, renL_ints, UpdOk.nil, UpdOk.cons, renOO_some, renO_cells, renO_map, renOO_mkOb, rn_base, rn_add, ren_mkSl, Enc.flat_ren, set_same, set_ne, sets_cons, sets_nil, Keep.set, Keep.setK, Keep.refl], by simp [frSub, lkG, ren, renL, renL_set, renL_ints, UpdOk.nil, UpdOk.cons, renOO_some, renO_cells, renO_map, renOO_mkOb, rn_base, rn_add, ren_mkSl, Enc.flat_ren, set_same, set_ne, sets_cons, sets_nil, Keep.set, Keep.setK, Keep.refl]⟩
  | [.pointer none], _, _ =>
    refine CalledOk.of_fun tt_ok fn33_ok rfl 16 rfl [.tmp 2] rfl (show 1 ≤ 16 by decide) ?_
    refine CW.vc env14s [0, 2, 4, 1000003] (by kernel_rfl) ?_
    (simp only [go_sem, reduceIte, reduceCtorEq, Nat.reduceAdd, Nat.reduceMul, Nat.reduceSub, Nat.reduceLT, Nat.reduceLeDiff, Nat.reduceEqDiff, Int.reduceEq, Int.reduceLT, Int.reduceLE, Int.reduceNe, G14s_none, conNone_s, List.headD_cons]; repeat ((first | refine Vc.mk' ?_ | refine CW.drawX env14s 3 [0, 2, 4, 1000003] [(3, 8)] (by kernel_rfl) (by kernel_rfl) ?_); simp only [go_sem, reduceIte, reduceCtorEq, Nat.reduceAdd, Nat.reduceMul, Nat.reduceSub, Nat.reduceLT, Nat.reduceLeDiff, Nat.reduceEqDiff, Int.reduceEq, Int.reduceLT, Int.reduceLE, Int.reduceNe, G14s_none, conNone_s, List.headD_cons]))
    exact ⟨[], by simp, by simp, by simp, by simp [frSub, lkG, ren, renL, renL_set, renL_ints, UpdOk.nil, UpdOk.cons, renOO_some, renO_cells, renO_map, renOO_mkOb, rn_base, rn_add, ren_mkSl, Enc.flat_ren, set_same, set_ne, sets_cons, sets_nil, Keep.set, Keep.setK, Keep.refl], by simp [frSub, lkG, ren, renL, renL_set, renL_ints, UpdOk.nil, UpdOk.cons, renOO_some, renO_cells, renO_map, renOO_mkOb, rn_base, rn_add, ren_mkSl, Enc.flat_ren, set_same, set_ne, sets_cons, sets_nil, Keep.set, Keep.setK, Keep.refl], by simp [frSub, lkG, ren, renL, renL_set, renL_ints, UpdOk.nil, UpdOk.cons, renOO_some, renO_cells, renO_map, renOO_mkOb, rn_base, rn_add, ren_mkSl, Enc.flat_ren, set_same, set_ne, sets_cons, sets_nil, Keep.set, Keep.setK, Keep.refl]⟩
noncomputable def G18s : FuncId → Con := addG (addG (addG (addG (addG (addG (addG (G15s) 27 conPut_s0) 29 conDrop_s0) 25 conTake_s0) 28 conNext_s0) 23 conLen_s0) 31 conSift_s0) 33 conCopy_s0
theorem env18s : EnvV Try.prog tt.get G18s := (((((((env15s).add put_s_ok0).add drop_s_ok0).add take_s_ok0).add next_s_ok0).add len_s_ok0).add sift_s_ok0).add copy_s_ok0
theorem G18s_put : G18s 27 = conPut_s0 := rfl
theorem G18s_drop : G18s 29 = conDrop_s0 := rfl
theorem G18s_take : G18s 25 = conTake_s0 := rfl
theorem G18s_next : G18s 28 = conNext_s0 := rfl
theorem G18s_len : G18s 23 = conLen_s0 := rfl
theorem G18s_sift : G18s 31 = conSift_s0 := rfl
theorem G18s_copy : G18s 33 = conCopy_s0 := rfl
theorem G18s_new : G18s 21 = conNew_s := rfl
theorem G18s_works : G18s 17 = conWorks := rfl
theorem G18s_same : G18s 30 = conEq e_string := rfl
end Go.Proofs.Ytogndgadipdikaa.Dm
