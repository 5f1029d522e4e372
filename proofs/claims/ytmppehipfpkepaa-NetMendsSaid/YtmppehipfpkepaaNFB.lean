/- The fate package: New, Ask. -/
import Derived.Test.YtmppehipfpkepaaNFA
set_option linter.unusedSimpArgs false
set_option linter.unusedVariables false
namespace Go.Proofs.Ytmppehipfpkepaa.Fa
open Go.Dm Go.Proofs.Ytmppehipfpkepaa.Dm
set_option maxHeartbeats 4000000
def G3 := addG G2 70 conPlanned
theorem env3 : EnvV Try.prog tt.get G3 := env2.add planned_ok
theorem G3_planned : G3 70 = conPlanned := rfl
structure PlanS where
  m : MapR
  clk : Nat
  ks : List Int
def zeroP : List Int := List.replicate 625 0
theorem zeroP_eq : reps 625 (.int .i64 0) = zeroP.map (Value.int .i64) := reps_map
def planOb (mb : Nat) (ks : List Int) : Option AObj := some (.cells true 0 (.map (some mb) :: ks.map (Value.int .i64)))
def planUs (mb b : Nat) (p : PlanS) : Upds := [(mb, some (.map (me_m_message_Rule p.m) p.clk)), (b, planOb mb p.ks)]
/-- New -/
def resNew (l : List T_Rule) (top : Nat) : Value × Upds × Nat := match planF l with
  | .error (_, e) => (.tuple ⟨[.pointer none, .int .i64 e]⟩, [], top)
  | .ok m => (.tuple ⟨[.pointer (some ⟨top + 1, 0, none⟩), .int .i64 0]⟩, planUs top (top + 1) ⟨m, l.length, zeroP⟩, top + 2)
def conNew : Con := .det (fun args hp _ => match args with | [v] => SlP e_Rule hp v | _ => False) (fun args hp top => match args with | [v] => resNew (e_Rule.rd hp v) top | _ => (undef, [], top))
theorem goP_err : ∀ (l : List T_Rule) (k : Nat) (m : MapR) (i : Nat) (e : Int), goP l k m = .error (i, e) → e = 2 ∨ e = 7
  | [], _, _, _, _, h => by cases h
  | r :: l, k, m, i, e, h => by
    unfold goP at h
    split at h
    · cases h; exact .inl rfl
    · split at h
      · cases h; exact .inr rfl
      · exact goP_err l _ _ _ _ h
theorem planF_err {l : List T_Rule} {i : Nat} {e : Int} (h : planF l = .error (i, e)) : e ≠ 0 := by
  unfold planF at h
  split at h
  · cases h; decide
  · rcases goP_err _ _ _ _ _ h with rfl | rfl <;> decide
theorem new_ok : ConOk Try.prog 39 conNew := by
  refine .mkDet fn39_ok ?_
  intro args hp top hpre hcl hsc
  match args, hpre with
  | [v], ⟨l, h⟩ =>
  refine CalledOk.of_fun tt_ok fn39_ok rfl 19 rfl [.tmp 2, .tmp 3] rfl (show 1 ≤ 19 by decide) ?_
  refine CW.vc env3 [0, 2, 3, 4, 6, 14] (by kernel_rfl) ?_
  have hpl : SlP e_Rule hp v := ⟨l, h⟩
  cases hx : planF l with
  | error p =>
    obtain ⟨i, e⟩ := p
    have he := planF_err hx
    (repeat ((try refine Vc.mk' ?_); simp only [go_sem, reduceIte, reduceCtorEq, Nat.reduceAdd, Nat.reduceMul, Nat.reduceSub, Nat.reduceLT, Nat.reduceLeDiff, Nat.reduceEqDiff, Int.reduceEq, Int.reduceLT, Int.reduceLE, Int.reduceNe, G3_planned, conPlanned, h.rd, resPlanned, resNew, hx, hpl, he]))
    (refine ⟨[], by simp, by simp, by simp, ?_, ?_, ?_⟩ <;> simp [frSub, lkG, ren, renL, renL_set, renL_ints, UpdOk.nil, UpdOk.cons, renOO_some, renO_cells, renO_map, renOO_mkOb, rn_base, rn_add, ren_mkSl, Enc.flat_ren, set_same, set_ne, sets_cons, sets_nil, Keep.set, Keep.setK, Keep.refl, rm_m_int_bool, rm_m_message_Rule, rm_m_pair_bool, rm_m_pair_int])
  | ok m =>
    (repeat ((try refine Vc.mk' ?_); simp only [go_sem, reduceIte, reduceCtorEq, Nat.reduceAdd, Nat.reduceMul, Nat.reduceSub, Nat.reduceLT, Nat.reduceLeDiff, Nat.reduceEqDiff, Int.reduceEq, Int.reduceLT, Int.reduceLE, Int.reduceNe, G3_planned, conPlanned, h.rd, resPlanned, resNew, hx, hpl]))
    (refine ⟨[top, top + 1], by simp, by simp, by simp, ?_, ?_, ?_⟩ <;> simp [frSub, lkG, ren, renL, renL_set, renL_ints, UpdOk.nil, UpdOk.cons, renOO_some, renO_cells, renO_map, renOO_mkOb, rn_base, rn_add, ren_mkSl, Enc.flat_ren, set_same, set_ne, sets_cons, sets_nil, Keep.set, Keep.setK, Keep.refl, rm_m_int_bool, rm_m_message_Rule, rm_m_pair_bool, rm_m_pair_int, planUs, planOb, zeroP_eq])
def G4 := addG G3 39 conNew
theorem env4 : EnvV Try.prog tt.get G4 := env3.add new_ok
/-- a plan that is read -/
def rdPlan (hp : Hp) (v : Value) : Option (Nat × Nat × PlanS) := match v with
  | .pointer (some ⟨b, 0, none⟩) => match hp b with
    | some (.cells _ _ (.map (some mb) :: ks)) => match hp mb with
      | some (.map es clk) => some (b, mb, ⟨dm_m_message_Rule es, clk, ks.map intOf⟩)
      | _ => none
    | _ => none
  | _ => none
/-- a plan that is there -/
inductive PlanAt (hp : Hp) : Value → Nat → Nat → PlanS → Prop
  | mk (b mb : Nat) (p : PlanS) (hb : hp b = planOb mb p.ks) (hm : hp mb = some (.map (me_m_message_Rule p.m) p.clk)) (hl : p.ks.length = 625) : PlanAt hp (.pointer (some ⟨b, 0, none⟩)) b mb p
theorem ints_back (l : List Int) : (l.map (Value.int .i64)).map intOf = l := by rw [List.map_map]; exact (List.map_congr_left (fun _ _ => rfl)).trans (List.map_id l)
theorem PlanAt.rd {hp : Hp} {v : Value} {b mb : Nat} {p : PlanS} (h : PlanAt hp v b mb p) : rdPlan hp v = some (b, mb, p) := by
  cases h with
  | mk b mb p hb hm hl => simp only [rdPlan, hb, planOb, hm, dm_me_m_message_Rule, ints_back]
def IsPlan (hp : Hp) (v : Value) : Prop := ∃ b mb p, PlanAt hp v b mb p
theorem PlanAt.ne {hp : Hp} {v : Value} {b mb : Nat} {p : PlanS} (h : PlanAt hp v b mb p) : b ≠ mb := by
  cases h with
  | mk b mb p hb hm hl => intro e; subst e; rw [hm] at hb; cases hb
def conNone : Con := .pure (fun args hp => match args with | [v] => v = .pointer none ∨ IsPlan hp v | _ => False) (fun args _ => match args with | [.pointer none] => .bool true | _ => .bool false)
theorem none_ok : ConOk Try.prog 55 conNone := by
  refine .mkRd fn55_ok ?_ ?_
  · intro args hp h
    match args, h with
    | [v], _ => split <;> rfl
  intro args hp hpre top hcl hsc
  match args, hpre with
  | [v], h =>
  refine CalledOk.of_fun tt_ok fn55_ok rfl 12 rfl [.tmp 2] rfl (show 1 ≤ 12 by decide) ?_
  refine CW.vc env4 [0, 2] (by kernel_rfl) ?_
  rcases h with rfl | ⟨b, mb, p, h⟩
  · (repeat ((try refine Vc.mk' ?_); simp only [go_sem, reduceIte, reduceCtorEq, Nat.reduceAdd, Nat.reduceMul, Nat.reduceSub, Nat.reduceLT, Nat.reduceLeDiff, Nat.reduceEqDiff, Int.reduceEq, Int.reduceLT, Int.reduceLE, Int.reduceNe]))
  · cases h with
    | mk b mb p hb hm hl =>
    (repeat ((try refine Vc.mk' ?_); simp only [go_sem, reduceIte, reduceCtorEq, Nat.reduceAdd, Nat.reduceMul, Nat.reduceSub, Nat.reduceLT, Nat.reduceLeDiff, Nat.reduceEqDiff, Int.reduceEq, Int.reduceLT, Int.reduceLE, Int.reduceNe, hb, planOb, hm]))
def G5 := addG G4 55 conNone
theorem env5 : EnvV Try.prog tt.get G5 := env4.add none_ok
theorem G5_none : G5 55 = conNone := rfl
theorem G5_right : G5 56 = conRight := rfl
set_option maxHeartbeats 4000000
def fateOf (r : T_Rule) : T_Fate := if r.Kind = 2 then ⟨2, 0, r.By⟩ else if r.Kind = 3 then ⟨1, r.By, 0⟩ else ⟨0, 0, 0⟩
def bumpP (ks : List Int) (x y : Int) : Int := wrapA .i64 ((ks[x.toNat * 25 + y.toNat]?).getD 0 + 1)
def askF (p : PlanS) (x y : Int) : PlanS × T_Fate × Int :=
  if rightB x y = false then (p, ⟨0, 0, 0⟩, 2) else
  match mget p.m ⟨x, y, bumpP p.ks x y⟩ with
  | none => ({ p with ks := p.ks.set (x.toNat * 25 + y.toNat) (bumpP p.ks x y) }, ⟨1, 0, 0⟩, 0)
  | some r => (⟨mdel p.m ⟨x, y, bumpP p.ks x y⟩, p.clk, p.ks.set (x.toNat * 25 + y.toNat) (bumpP p.ks x y)⟩, fateOf r, 0)
def resAsk (b mb : Nat) (p : PlanS) (x y : Int) (top : Nat) : Value × Upds × Nat :=
  (.tuple ⟨[.agg ⟨e_Fate.enc (askF p x y).2.1⟩, .int .i64 (askF p x y).2.2]⟩, planUs mb b (askF p x y).1, top)
def conAsk : Con := .det (fun args hp _ => match args with | [v, x, y] => IsPlan hp v ∧ IsI .i64 x ∧ IsI .i64 y | _ => False) (fun args hp top => match args with
  | [v, x, y] => (match rdPlan hp v with
    | some (b, mb, p) => resAsk b mb p (intOf x) (intOf y) top
    | none => (undef, [], top))
  | _ => (undef, [], top))
set_option maxHeartbeats 4000000 in
theorem ask_ok : ConOk Try.prog 33 conAsk := by
  refine .mkDet fn33_ok ?_
  intro args hp top hpre hcl hsc
  match args, hpre with
  | [v, x, y], ⟨⟨b, mb, p, h⟩, hx, hy⟩ =>
  rw [hx, hy]
  generalize intOf x = x, intOf y = y
  have hi : IsPlan hp v := ⟨b, mb, p, h⟩
  have hr := h.rd
  have hne := h.ne
  simp only [hr, resAsk, intOf_int]
  refine CalledOk.of_fun tt_ok fn33_ok rfl 75 rfl [.cell 6 28, .tmp 7] rfl (show 3 ≤ 75 by decide) ?_
  cases h with
  | mk b mb p hb hm hl =>
  have hbt := hcl.lt _ _ hb
  have hmt := hcl.lt _ _ hm
  have hi2 : ∀ o, IsPlan (hp.set top o) (.pointer (some ⟨b, 0, none⟩)) := fun o => ⟨b, mb, p, .mk b mb p ((set_lt hbt (Nat.le_refl _)).trans hb) ((set_lt hmt (Nat.le_refl _)).trans hm) hl⟩
  cases hrt : rightB x y with
  | false =>
    refine CW.vc env5 [0, 1, 2, 6, 7, 8, 9, 10, 11, 15, 55, 63, 64, 69] (by kernel_rfl) ?_
    (repeat ((try refine Vc.mk' ?_); simp only [go_sem, reduceIte, reduceCtorEq, Nat.reduceAdd, Nat.reduceMul, Nat.reduceSub, Nat.reduceLT, Nat.reduceLeDiff, Nat.reduceEqDiff, Int.reduceEq, Int.reduceLT, Int.reduceLE, Int.reduceNe, G5_none, conNone, G5_right, conRight, hb, planOb, hm, hi, set_lt hbt, set_lt hmt, set_gt hbt, set_gt hmt, hne, hne.symm, hrt, hi2]))
    simp only [askF, hrt, if_true, planUs]
    refine ⟨[], by simp, by simp, by simp, by simp [frSub, lkG, ren, renL, renL_set, renL_ints, UpdOk.nil, UpdOk.cons, renOO_some, renO_cells, renO_map, renOO_mkOb, rn_base, rn_add, ren_mkSl, Enc.flat_ren, set_same, set_ne, sets_cons, sets_nil, Keep.set, Keep.setK, Keep.refl, rm_m_int_bool, rm_m_message_Rule, rm_m_pair_bool, rm_m_pair_int], by simp [frSub, lkG, ren, renL, renL_set, renL_ints, UpdOk.nil, UpdOk.cons, renOO_some, renO_cells, renO_map, renOO_mkOb, rn_base, rn_add, ren_mkSl, Enc.flat_ren, set_same, set_ne, sets_cons, sets_nil, Keep.set, Keep.setK, Keep.refl, rm_m_int_bool, rm_m_message_Rule, rm_m_pair_bool, rm_m_pair_int], ?_⟩
    simp [frSub, lkG, ren, renL, renL_set, renL_ints, UpdOk.nil, UpdOk.cons, renOO_some, renO_cells, renO_map, renOO_mkOb, rn_base, rn_add, ren_mkSl, Enc.flat_ren, set_same, set_ne, sets_cons, sets_nil, Keep.set, Keep.setK, Keep.refl, rm_m_int_bool, rm_m_message_Rule, rm_m_pair_bool, rm_m_pair_int, hb, planOb, hm, set_lt hbt, set_lt hmt, rn_low hbt, rn_low hmt]
  | true =>
    obtain ⟨r1, r2, r3, r4, r5⟩ := of_decide_eq_true (show decide (1 ≤ x ∧ x ≤ 24 ∧ 1 ≤ y ∧ y ≤ 24 ∧ x ≠ y) = true from hrt)
    have hix : x.toNat * 25 + y.toNat < 625 := by omega
    have hx0 : 0 ≤ x := by omega
    have hy0 : 0 ≤ y := by omega
    have hx1 : x < ((25 : Nat) : Int) := by omega
    have hy1 : y < ((25 : Nat) : Int) := by omega
    have hb1 : 1 + (x.toNat * 25 + y.toNat) < 626 := by omega
    have hb2 : 1 + (x.toNat * 25 + (y.toNat + 1)) ≤ 626 := by omega
    cases hg : mget p.m ⟨x, y, bumpP p.ks x y⟩ with
    | none =>
      have hf : askF p x y = ({ p with ks := p.ks.set (x.toNat * 25 + y.toNat) (bumpP p.ks x y) }, ⟨1, 0, 0⟩, 0) := by simp [askF, hrt, hg]
      have hg2 := hg
      simp only [bumpP] at hg2
      refine CW.vc env5 [0, 1, 2, 6, 7, 8, 9, 10, 11, 15, 55, 63, 64, 69] (by kernel_rfl) ?_
      (repeat ((try refine Vc.mk' ?_); simp only [go_sem, reduceIte, reduceCtorEq, Nat.reduceAdd, Nat.reduceMul, Nat.reduceSub, Nat.reduceLT, Nat.reduceLeDiff, Nat.reduceEqDiff, Int.reduceEq, Int.reduceLT, Int.reduceLE, Int.reduceNe, G5_none, conNone, G5_right, conRight, hb, planOb, hm, hi, set_lt hbt, set_lt hmt, set_gt hbt, set_gt hmt, hne, hne.symm, hrt, hi2, splice_ints, get_ints, hl, List.length_set, hix, hx0, hy0, hx1, hy1, hb1, hb2, Nat.mul_one, List.getElem?_set_self, hg2, hf]))
      refine ⟨[], by simp, by simp, by simp, by simp [frSub, lkG, ren, renL, renL_set, renL_ints, UpdOk.nil, UpdOk.cons, renOO_some, renO_cells, renO_map, renOO_mkOb, rn_base, rn_add, ren_mkSl, Enc.flat_ren, set_same, set_ne, sets_cons, sets_nil, Keep.set, Keep.setK, Keep.refl, rm_m_int_bool, rm_m_message_Rule, rm_m_pair_bool, rm_m_pair_int], by simp [frSub, lkG, ren, renL, renL_set, renL_ints, UpdOk.nil, UpdOk.cons, renOO_some, renO_cells, renO_map, renOO_mkOb, rn_base, rn_add, ren_mkSl, Enc.flat_ren, set_same, set_ne, sets_cons, sets_nil, Keep.set, Keep.setK, Keep.refl, rm_m_int_bool, rm_m_message_Rule, rm_m_pair_bool, rm_m_pair_int, planUs], ?_⟩
      simp [frSub, lkG, ren, renL, renL_set, renL_ints, UpdOk.nil, UpdOk.cons, renOO_some, renO_cells, renO_map, renOO_mkOb, rn_base, rn_add, ren_mkSl, Enc.flat_ren, set_same, set_ne, sets_cons, sets_nil, Keep.set, Keep.setK, Keep.refl, rm_m_int_bool, rm_m_message_Rule, rm_m_pair_bool, rm_m_pair_int, planUs, bumpP, hb, planOb, hm, set_lt hbt, set_lt hmt, rn_low hbt, rn_low hmt, hne, hne.symm]
    | some r =>
      have hg2 := hg
      simp only [bumpP] at hg2
      have hf : askF p x y = (⟨mdel p.m ⟨x, y, bumpP p.ks x y⟩, p.clk, p.ks.set (x.toNat * 25 + y.toNat) (bumpP p.ks x y)⟩, fateOf r, 0) := by simp [askF, hrt, hg]
      by_cases h2 : r.Kind = 2
      · have hf2 : fateOf r = ⟨2, 0, r.By⟩ := by simp [fateOf, h2]
        rw [hf2] at hf
        refine CW.vc env5 [0, 1, 2, 6, 7, 8, 9, 10, 11, 15, 55, 63, 64, 69] (by kernel_rfl) ?_
        (repeat ((try refine Vc.mk' ?_); simp only [go_sem, reduceIte, reduceCtorEq, Nat.reduceAdd, Nat.reduceMul, Nat.reduceSub, Nat.reduceLT, Nat.reduceLeDiff, Nat.reduceEqDiff, Int.reduceEq, Int.reduceLT, Int.reduceLE, Int.reduceNe, G5_none, conNone, G5_right, conRight, hb, planOb, hm, hi, set_lt hbt, set_lt hmt, set_gt hbt, set_gt hmt, hne, hne.symm, hrt, hi2, splice_ints, get_ints, hl, List.length_set, hix, hx0, hy0, hx1, hy1, hb1, hb2, Nat.mul_one, List.getElem?_set_self, hg2, hf, h2]))
        refine ⟨[], by simp, by simp, by simp, by simp [frSub, lkG, ren, renL, renL_set, renL_ints, UpdOk.nil, UpdOk.cons, renOO_some, renO_cells, renO_map, renOO_mkOb, rn_base, rn_add, ren_mkSl, Enc.flat_ren, set_same, set_ne, sets_cons, sets_nil, Keep.set, Keep.setK, Keep.refl, rm_m_int_bool, rm_m_message_Rule, rm_m_pair_bool, rm_m_pair_int], by simp [frSub, lkG, ren, renL, renL_set, renL_ints, UpdOk.nil, UpdOk.cons, renOO_some, renO_cells, renO_map, renOO_mkOb, rn_base, rn_add, ren_mkSl, Enc.flat_ren, set_same, set_ne, sets_cons, sets_nil, Keep.set, Keep.setK, Keep.refl, rm_m_int_bool, rm_m_message_Rule, rm_m_pair_bool, rm_m_pair_int, planUs], ?_⟩
        simp [frSub, lkG, ren, renL, renL_set, renL_ints, UpdOk.nil, UpdOk.cons, renOO_some, renO_cells, renO_map, renOO_mkOb, rn_base, rn_add, ren_mkSl, Enc.flat_ren, set_same, set_ne, sets_cons, sets_nil, Keep.set, Keep.setK, Keep.refl, rm_m_int_bool, rm_m_message_Rule, rm_m_pair_bool, rm_m_pair_int, planUs, bumpP, hb, planOb, hm, set_lt hbt, set_lt hmt, rn_low hbt, rn_low hmt, hne, hne.symm]
      by_cases h3 : r.Kind = 3
      · have hf2 : fateOf r = ⟨1, r.By, 0⟩ := by simp [fateOf, h3]
        rw [hf2] at hf
        refine CW.vc env5 [0, 1, 2, 6, 7, 8, 9, 10, 11, 15, 55, 63, 64, 69] (by kernel_rfl) ?_
        (repeat ((try refine Vc.mk' ?_); simp only [go_sem, reduceIte, reduceCtorEq, Nat.reduceAdd, Nat.reduceMul, Nat.reduceSub, Nat.reduceLT, Nat.reduceLeDiff, Nat.reduceEqDiff, Int.reduceEq, Int.reduceLT, Int.reduceLE, Int.reduceNe, G5_none, conNone, G5_right, conRight, hb, planOb, hm, hi, set_lt hbt, set_lt hmt, set_gt hbt, set_gt hmt, hne, hne.symm, hrt, hi2, splice_ints, get_ints, hl, List.length_set, hix, hx0, hy0, hx1, hy1, hb1, hb2, Nat.mul_one, List.getElem?_set_self, hg2, hf, h2, h3]))
        refine ⟨[], by simp, by simp, by simp, by simp [frSub, lkG, ren, renL, renL_set, renL_ints, UpdOk.nil, UpdOk.cons, renOO_some, renO_cells, renO_map, renOO_mkOb, rn_base, rn_add, ren_mkSl, Enc.flat_ren, set_same, set_ne, sets_cons, sets_nil, Keep.set, Keep.setK, Keep.refl, rm_m_int_bool, rm_m_message_Rule, rm_m_pair_bool, rm_m_pair_int], by simp [frSub, lkG, ren, renL, renL_set, renL_ints, UpdOk.nil, UpdOk.cons, renOO_some, renO_cells, renO_map, renOO_mkOb, rn_base, rn_add, ren_mkSl, Enc.flat_ren, set_same, set_ne, sets_cons, sets_nil, Keep.set, Keep.setK, Keep.refl, rm_m_int_bool, rm_m_message_Rule, rm_m_pair_bool, rm_m_pair_int, planUs], ?_⟩
        simp [frSub, lkG, ren, renL, renL_set, renL_ints, UpdOk.nil, UpdOk.cons, renOO_some, renO_cells, renO_map, renOO_mkOb, rn_base, rn_add, ren_mkSl, Enc.flat_ren, set_same, set_ne, sets_cons, sets_nil, Keep.set, Keep.setK, Keep.refl, rm_m_int_bool, rm_m_message_Rule, rm_m_pair_bool, rm_m_pair_int, planUs, bumpP, hb, planOb, hm, set_lt hbt, set_lt hmt, rn_low hbt, rn_low hmt, hne, hne.symm]
      · have hf2 : fateOf r = ⟨0, 0, 0⟩ := by simp [fateOf, h2, h3]
        rw [hf2] at hf
        refine CW.vc env5 [0, 1, 2, 6, 7, 8, 9, 10, 11, 15, 55, 63, 64, 69] (by kernel_rfl) ?_
        (repeat ((try refine Vc.mk' ?_); simp only [go_sem, reduceIte, reduceCtorEq, Nat.reduceAdd, Nat.reduceMul, Nat.reduceSub, Nat.reduceLT, Nat.reduceLeDiff, Nat.reduceEqDiff, Int.reduceEq, Int.reduceLT, Int.reduceLE, Int.reduceNe, G5_none, conNone, G5_right, conRight, hb, planOb, hm, hi, set_lt hbt, set_lt hmt, set_gt hbt, set_gt hmt, hne, hne.symm, hrt, hi2, splice_ints, get_ints, hl, List.length_set, hix, hx0, hy0, hx1, hy1, hb1, hb2, Nat.mul_one, List.getElem?_set_self, hg2, hf, h2, h3]))
        refine ⟨[], by simp, by simp, by simp, by simp [frSub, lkG, ren, renL, renL_set, renL_ints, UpdOk.nil, UpdOk.cons, renOO_some, renO_cells, renO_map, renOO_mkOb, rn_base, rn_add, ren_mkSl, Enc.flat_ren, set_same, set_ne, sets_cons, sets_nil, Keep.set, Keep.setK, Keep.refl, rm_m_int_bool, rm_m_message_Rule, rm_m_pair_bool, rm_m_pair_int], by simp [frSub, lkG, ren, renL, renL_set, renL_ints, UpdOk.nil, UpdOk.cons, renOO_some, renO_cells, renO_map, renOO_mkOb, rn_base, rn_add, ren_mkSl, Enc.flat_ren, set_same, set_ne, sets_cons, sets_nil, Keep.set, Keep.setK, Keep.refl, rm_m_int_bool, rm_m_message_Rule, rm_m_pair_bool, rm_m_pair_int, planUs], ?_⟩
        simp [frSub, lkG, ren, renL, renL_set, renL_ints, UpdOk.nil, UpdOk.cons, renOO_some, renO_cells, renO_map, renOO_mkOb, rn_base, rn_add, ren_mkSl, Enc.flat_ren, set_same, set_ne, sets_cons, sets_nil, Keep.set, Keep.setK, Keep.refl, rm_m_int_bool, rm_m_message_Rule, rm_m_pair_bool, rm_m_pair_int, planUs, bumpP, hb, planOb, hm, set_lt hbt, set_lt hmt, rn_low hbt, rn_low hmt, hne, hne.symm]
end Go.Proofs.Ytmppehipfpkepaa.Fa
