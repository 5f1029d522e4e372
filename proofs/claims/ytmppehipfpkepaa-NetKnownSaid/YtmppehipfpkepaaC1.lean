/- Comparing: cmp. -/
import Derived.Test.YtmppehipfpkepaaDmK
import Derived.Test.YtmppehipfpkepaaDmI
set_option linter.unusedSimpArgs false
set_option linter.unusedVariables false
namespace Go.Proofs.Ytmppehipfpkepaa.Dm
open Go.Dm
set_option maxHeartbeats 4000000
theorem drop_at {α : Type} [Inhabited α] {l : List α} {k : Nat} (h : k < l.length) : l.drop k = at' l k :: l.drop (k + 1) := by rw [at'_get _ _ h]; exact List.drop_eq_getElem_cons h
def G0 : FuncId → Con := fun _ => .none
theorem env0 : EnvV Try.prog tt.get G0 := ⟨tt_ok, fun _ => trivial⟩
def conNaN (k : IntKind) : Con := .pure (fun args _ => match args with | [x] => IsI k x | _ => False) (fun _ _ => .bool false)
theorem nanU_ok : ConOk Try.prog 80 (conNaN .u64) := by
  refine .mkPure fn80_ok ?_
  intro args hp hpre top
  match args, hpre with
  | [x], hx =>
  rw [hx]
  refine CalledOk.of_fun tt_ok fn80_ok rfl 6 rfl [.tmp 2] rfl (show 1 ≤ 6 by decide) ?_
  refine CW.vc env0 [0, 2] (by kernel_rfl) ?_
  (repeat ((try refine Vc.mk' ?_); simp only [go_sem, reduceIte, reduceCtorEq, Nat.reduceAdd, Nat.reduceMul, Nat.reduceSub, Nat.reduceLT, Nat.reduceLeDiff, Nat.reduceEqDiff, Int.reduceEq, Int.reduceLT, Int.reduceLE, Int.reduceNe]))
theorem nanI_ok : ConOk Try.prog 81 (conNaN .i64) := by
  refine .mkPure fn81_ok ?_
  intro args hp hpre top
  match args, hpre with
  | [x], hx =>
  rw [hx]
  refine CalledOk.of_fun tt_ok fn81_ok rfl 6 rfl [.tmp 2] rfl (show 1 ≤ 6 by decide) ?_
  refine CW.vc env0 [0, 2] (by kernel_rfl) ?_
  (repeat ((try refine Vc.mk' ?_); simp only [go_sem, reduceIte, reduceCtorEq, Nat.reduceAdd, Nat.reduceMul, Nat.reduceSub, Nat.reduceLT, Nat.reduceLeDiff, Nat.reduceEqDiff, Int.reduceEq, Int.reduceLT, Int.reduceLE, Int.reduceNe]))
def cmpI (a b : Int) : Int := if a < b then -1 else if b < a then 1 else 0
def conCmp (k : IntKind) : Con := .pure (fun args _ => match args with | [x, y] => IsI k x ∧ IsI k y | _ => False) (fun args _ => match args with | [x, y] => .int .i64 (cmpI (intOf x) (intOf y)) | _ => undef)
def G1 : FuncId → Con := addG (addG G0 80 (conNaN .u64)) 81 (conNaN .i64)
theorem env1 : EnvV Try.prog tt.get G1 := (env0.add nanU_ok).add nanI_ok
theorem G1_u : G1 80 = conNaN .u64 := rfl
theorem G1_i : G1 81 = conNaN .i64 := rfl
theorem cmpU_ok : ConOk Try.prog 60 (conCmp .u64) := by
  refine .mkPure fn60_ok ?_
  intro args hp hpre top
  match args, hpre with
  | [x, y], ⟨hx, hy⟩ =>
  rw [hx, hy]
  generalize intOf x = x, intOf y = y
  refine CalledOk.of_fun tt_ok fn60_ok rfl 20 rfl [.tmp 4] rfl (show 2 ≤ 20 by decide) ?_
  by_cases c1 : x < y
  · have e : cmpI x y = -1 := by unfold cmpI; rw [if_pos c1]
    refine CW.vc env1 [0, 1, 4, 5, 6, 11, 12, 13, 16, 19] (by kernel_rfl) ?_
    (repeat ((try refine Vc.mk' ?_); simp only [go_sem, reduceIte, reduceCtorEq, Nat.reduceAdd, Nat.reduceMul, Nat.reduceSub, Nat.reduceLT, Nat.reduceLeDiff, Nat.reduceEqDiff, Int.reduceEq, Int.reduceLT, Int.reduceLE, Int.reduceNe, G1_u, conNaN, c1, e]))
  · by_cases c2 : y < x
    · have e : cmpI x y = 1 := by unfold cmpI; rw [if_neg c1, if_pos c2]
      refine CW.vc env1 [0, 1, 4, 5, 6, 11, 12, 13, 16, 19] (by kernel_rfl) ?_
      (repeat ((try refine Vc.mk' ?_); simp only [go_sem, reduceIte, reduceCtorEq, Nat.reduceAdd, Nat.reduceMul, Nat.reduceSub, Nat.reduceLT, Nat.reduceLeDiff, Nat.reduceEqDiff, Int.reduceEq, Int.reduceLT, Int.reduceLE, Int.reduceNe, G1_u, conNaN, c1, c2, e]))
    · have e : cmpI x y = 0 := by unfold cmpI; rw [if_neg c1, if_neg c2]
      refine CW.vc env1 [0, 1, 4, 5, 6, 11, 12, 13, 16, 19] (by kernel_rfl) ?_
      (repeat ((try refine Vc.mk' ?_); simp only [go_sem, reduceIte, reduceCtorEq, Nat.reduceAdd, Nat.reduceMul, Nat.reduceSub, Nat.reduceLT, Nat.reduceLeDiff, Nat.reduceEqDiff, Int.reduceEq, Int.reduceLT, Int.reduceLE, Int.reduceNe, G1_u, conNaN, c1, c2, e]))
theorem cmpN_ok : ConOk Try.prog 61 (conCmp .i64) := by
  refine .mkPure fn61_ok ?_
  intro args hp hpre top
  match args, hpre with
  | [x, y], ⟨hx, hy⟩ =>
  rw [hx, hy]
  generalize intOf x = x, intOf y = y
  refine CalledOk.of_fun tt_ok fn61_ok rfl 20 rfl [.tmp 4] rfl (show 2 ≤ 20 by decide) ?_
  by_cases c1 : x < y
  · have e : cmpI x y = -1 := by unfold cmpI; rw [if_pos c1]
    refine CW.vc env1 [0, 1, 4, 5, 6, 11, 12, 13, 16, 19] (by kernel_rfl) ?_
    (repeat ((try refine Vc.mk' ?_); simp only [go_sem, reduceIte, reduceCtorEq, Nat.reduceAdd, Nat.reduceMul, Nat.reduceSub, Nat.reduceLT, Nat.reduceLeDiff, Nat.reduceEqDiff, Int.reduceEq, Int.reduceLT, Int.reduceLE, Int.reduceNe, G1_i, conNaN, c1, e]))
  · by_cases c2 : y < x
    · have e : cmpI x y = 1 := by unfold cmpI; rw [if_neg c1, if_pos c2]
      refine CW.vc env1 [0, 1, 4, 5, 6, 11, 12, 13, 16, 19] (by kernel_rfl) ?_
      (repeat ((try refine Vc.mk' ?_); simp only [go_sem, reduceIte, reduceCtorEq, Nat.reduceAdd, Nat.reduceMul, Nat.reduceSub, Nat.reduceLT, Nat.reduceLeDiff, Nat.reduceEqDiff, Int.reduceEq, Int.reduceLT, Int.reduceLE, Int.reduceNe, G1_i, conNaN, c1, c2, e]))
    · have e : cmpI x y = 0 := by unfold cmpI; rw [if_neg c1, if_neg c2]
      refine CW.vc env1 [0, 1, 4, 5, 6, 11, 12, 13, 16, 19] (by kernel_rfl) ?_
      (repeat ((try refine Vc.mk' ?_); simp only [go_sem, reduceIte, reduceCtorEq, Nat.reduceAdd, Nat.reduceMul, Nat.reduceSub, Nat.reduceLT, Nat.reduceLeDiff, Nat.reduceEqDiff, Int.reduceEq, Int.reduceLT, Int.reduceLE, Int.reduceNe, G1_i, conNaN, c1, c2, e]))
def orF (l : List Int) : Int := (l.find? fun x => !decide (x = 0)).getD 0
def conOr : Con := .pure (fun args hp => match args with | [v] => SlP e_int hp v | _ => False) (fun args hp => match args with | [v] => .int .i64 (orF (e_int.rd hp v)) | _ => undef)
def stOr (hp : Hp) (top : Nat) (v : Value) (n i : Nat) : SS := ⟨[(3, .int .i64 0, true), (6, v, true), (7, .int .i64 (n : Int), true), (8, .int .i64 (i : Int), true)], hp.sets [], top + 0⟩
theorem or_ok : ConOk Try.prog 59 conOr := by
  refine .mkRd fn59_ok ?_ ?_
  · intro args hp h
    match args, h with
    | [v], _ => rfl
  intro args hp hpre top hcl hsc
  match args, hpre with
  | [v], ⟨l, h⟩ =>
  have hs := h.low hcl
  simp only [h.rd]
  refine CalledOk.of_fun tt_ok fn59_ok rfl 18 rfl [.tmp 2] rfl (show 1 ≤ 18 by decide) ?_
  refine CW.vc env1 [0, 2, 3, 5, 6, 7, 8, 9, 14] (by kernel_rfl) ?_
  (repeat ((try refine Vc.mk' ?_); simp only [go_sem, reduceIte, reduceCtorEq, Nat.reduceAdd, Nat.reduceMul, Nat.reduceSub, Nat.reduceLT, Nat.reduceLeDiff, Nat.reduceEqDiff, Int.reduceEq, Int.reduceLT, Int.reduceLE, Int.reduceNe, len_sint h, idx_sint h, ld_sint h, sh_sint h, sw_sint h, h.P, h.oc, h.cl, h.rd, h.ref, strip_P hs, strip_rd hs, strip_ld hs, strip_sl h hs k_sint]))
  refine CW.loopR (stOr hp top v l.length) (fun i => i ≤ l.length ∧ orF l = orF (l.drop i)) (fun i => l.length - i) 0 ⟨Nat.zero_le _, rfl⟩ ?_ ?_
  · exact (by refine SubR.mk' [] hcl (by simp) (by simp) rfl (frSub_ok ?_) ?_ ?_ <;> simp [frSub, lkG, ren, renL, renL_set, renL_ints, UpdOk.nil, UpdOk.cons, renOO_some, renO_cells, renO_map, renOO_mkOb, rn_base, rn_add, ren_mkSl, Enc.flat_ren, set_same, set_ne, sets_cons, sets_nil, Keep.set, Keep.setK, Keep.refl, rm_m_int_bool, rm_m_message_Rule, rm_m_pair_bool, rm_m_pair_int, Sc.ren (fun j hj => rn_low hj) hs])
  · rintro i ⟨hi, hm⟩
    by_cases hlt : i < l.length
    · rw [drop_at hlt] at hm
      by_cases c : at' l i = 0
      · have hm2 : orF l = orF (l.drop (i + 1)) := by rw [hm]; simp [orF, c]
        refine CW.vc env1 [0, 2, 3, 5, 6, 7, 8, 9, 14] (by kernel_rfl) ?_
        (repeat ((try refine Vc.mk' ?_); simp only [go_sem, reduceIte, reduceCtorEq, Nat.reduceAdd, Nat.reduceMul, Nat.reduceSub, Nat.reduceLT, Nat.reduceLeDiff, Nat.reduceEqDiff, Int.reduceEq, Int.reduceLT, Int.reduceLE, Int.reduceNe, len_sint h, idx_sint h, ld_sint h, sh_sint h, sw_sint h, h.P, h.oc, h.cl, h.rd, h.ref, strip_P hs, strip_rd hs, strip_ld hs, strip_sl h hs k_sint, stOr, hlt, c]))
        exact .mk (i + 1) ⟨hlt, hm2⟩ (by omega) ((by refine SubR.mk' [] hcl (by simp) (by simp) rfl (frSub_ok ?_) ?_ ?_ <;> simp [frSub, lkG, ren, renL, renL_set, renL_ints, UpdOk.nil, UpdOk.cons, renOO_some, renO_cells, renO_map, renOO_mkOb, rn_base, rn_add, ren_mkSl, Enc.flat_ren, set_same, set_ne, sets_cons, sets_nil, Keep.set, Keep.setK, Keep.refl, rm_m_int_bool, rm_m_message_Rule, rm_m_pair_bool, rm_m_pair_int, Sc.ren (fun j hj => rn_low hj) hs, wrap_succ hlt h.le]))
      · have hm2 : orF l = at' l i := by rw [hm]; simp [orF, c]
        refine CW.vc env1 [0, 2, 3, 5, 6, 7, 8, 9, 14] (by kernel_rfl) ?_
        (repeat ((try refine Vc.mk' ?_); simp only [go_sem, reduceIte, reduceCtorEq, Nat.reduceAdd, Nat.reduceMul, Nat.reduceSub, Nat.reduceLT, Nat.reduceLeDiff, Nat.reduceEqDiff, Int.reduceEq, Int.reduceLT, Int.reduceLE, Int.reduceNe, len_sint h, idx_sint h, ld_sint h, sh_sint h, sw_sint h, h.P, h.oc, h.cl, h.rd, h.ref, strip_P hs, strip_rd hs, strip_ld hs, strip_sl h hs k_sint, stOr, hlt, c, hm2]))
    · have hi2 : i = l.length := by omega
      subst hi2
      have hm2 : orF l = 0 := by rw [hm, List.drop_eq_nil_of_le (Nat.le_refl _)]; rfl
      refine CW.vc env1 [0, 2, 3, 5, 6, 7, 8, 9, 14] (by kernel_rfl) ?_
      (repeat ((try refine Vc.mk' ?_); simp only [go_sem, reduceIte, reduceCtorEq, Nat.reduceAdd, Nat.reduceMul, Nat.reduceSub, Nat.reduceLT, Nat.reduceLeDiff, Nat.reduceEqDiff, Int.reduceEq, Int.reduceLT, Int.reduceLE, Int.reduceNe, len_sint h, idx_sint h, ld_sint h, sh_sint h, sw_sint h, h.P, h.oc, h.cl, h.rd, h.ref, strip_P hs, strip_rd hs, strip_ld hs, strip_sl h hs k_sint, stOr, Nat.lt_irrefl, decide_false, hm2]))
def cmpK (a x b y : Int) : Int := orF [cmpI a b, cmpI x y]
theorem two_T {hp : Hp} {b : Nat} {x y : Int} (h : hp b = some (.cells true 1 [.int .i64 x, .int .i64 y])) : SlT e_int hp (.slice (some ⟨b, 0, none⟩) 2 2) [x, y] :=
  .rows b 0 2 true _ [x, y] h rfl (Nat.le_refl 2) (Nat.le_refl 2) (show 2 ≤ 9223372036854775807 by decide)
theorem two_P {hp : Hp} {b : Nat} {x y : Int} (h : hp b = some (.cells true 1 [.int .i64 x, .int .i64 y])) : SlP e_int hp (.slice (some ⟨b, 0, none⟩) 2 2) = True := (two_T h).P
theorem two_rd {hp : Hp} {b : Nat} {x y : Int} (h : hp b = some (.cells true 1 [.int .i64 x, .int .i64 y])) : e_int.rd hp (.slice (some ⟨b, 0, none⟩) 2 2) = [x, y] := (two_T h).rd
def G2 : FuncId → Con := addG (addG (addG G1 60 (conCmp .u64)) 61 (conCmp .i64)) 59 conOr
theorem env2 : EnvV Try.prog tt.get G2 := ((env1.add cmpU_ok).add cmpN_ok).add or_ok
theorem G2_cu : G2 60 = conCmp .u64 := rfl
theorem G2_ci : G2 61 = conCmp .i64 := rfl
theorem G2_or : G2 59 = conOr := rfl
end Go.Proofs.Ytmppehipfpkepaa.Dm
