/- graph.Of. -/
import Derived.Test.YtmppehipfpkepaaNGP
set_option linter.unusedSimpArgs false
set_option linter.unusedVariables false
namespace Go.Proofs.Ytmppehipfpkepaa.Gr
open Go.Dm Go.Proofs.Ytmppehipfpkepaa.Dm
set_option maxHeartbeats 8000000
set_option maxRecDepth 20000
theorem G5_router : G5 67 = con1 routerB := rfl
theorem G5_cost : G5 68 = con1 costB := rfl
theorem G5_sq : G5 69 = conSq := rfl
def resOf (R : List Int) (l : List T_Link) (top : Nat) : Value × Upds × Nat :=
  (.tuple ⟨[.agg ⟨[mkSl top (nO R l), mkSl (top + 1) (eO R l)]⟩, .int .i64 (errL R l)]⟩, [(top, mkOb e_int (nO R l)), (top + 1, mkOb e_Edge (eO R l))], top + 2)
def conOf : Con := .det (fun args hp _ => match args with | [u, v] => SlP e_int hp u ∧ SlP e_Link hp v | _ => False) (fun args hp top => match args with | [u, v] => resOf (e_int.rd hp u) (e_Link.rd hp v) top | _ => (undef, [], top))
theorem resOf_err {R : List Int} {l : List T_Link} {top : Nat} {e : Int} (h : errL R l = e) (he : e ≠ 0) : resOf R l top = (.tuple ⟨[.agg ⟨[.slice none 0 0, .slice none 0 0]⟩, .int .i64 e]⟩, [(top, none), (top + 1, none)], top + 2) := by
  unfold resOf nO eO
  rw [h, if_neg he, if_neg he]; rfl
theorem resOf_ok {R : List Int} {l : List T_Link} {top : Nat} (h : errL R l = 0) : resOf R l top = (.tuple ⟨[.agg ⟨[mkSl top (nodesO R 25), mkSl (top + 1) (edgesO R l 25)]⟩, .int .i64 0]⟩, [(top, mkOb e_int (nodesO R 25)), (top + 1, mkOb e_Edge (edgesO R l 25))], top + 2) := by
  unfold resOf nO eO
  rw [h, if_pos rfl, if_pos rfl]
def stO1 (hp : Hp) (top : Nat) (u v : Value) (R : List Int) (k : Nat) : SS :=
  ⟨[(1, v, true), (4, .pointer (some ⟨top, 0, none⟩), true), (6, .pointer (some ⟨top + 1, 0, none⟩), true), (7, .pointer (some ⟨top + 2, 0, none⟩), true), (12, u, true), (13, .int .i64 (R.length : Int), true), (14, .int .i64 (k : Int), true)],
    hp.sets [(top, some (.cells true 0 [.slice none 0 0, .slice none 0 0])), (top + 1, some (.cells true 0 ((sL []).map (Value.int .i64)))), (top + 2, some (.cells true 0 ((isR (R.take k)).map Value.bool)))], top + 3⟩
def stO2 (hp : Hp) (top : Nat) (v : Value) (R : List Int) (l : List T_Link) (k : Nat) : SS :=
  ⟨[(4, .pointer (some ⟨top, 0, none⟩), true), (6, .pointer (some ⟨top + 1, 0, none⟩), true), (7, .pointer (some ⟨top + 2, 0, none⟩), true), (34, v, true), (35, .int .i64 (l.length : Int), true), (36, .int .i64 (k : Int), true)],
    hp.sets [(top, some (.cells true 0 [.slice none 0 0, .slice none 0 0])), (top + 1, some (.cells true 0 ((sL (l.take k)).map (Value.int .i64)))), (top + 2, some (.cells true 0 ((isR R).map Value.bool)))], top + 3⟩
theorem sL_nil : reps 625 (.int .i64 0) = (sL []).map (Value.int .i64) := by
  rw [reps_map]
  have : sL [] = List.replicate 625 0 := by decide +kernel
  rw [this]
theorem isR_nil : reps 25 (.bool false) = (isR []).map Value.bool := by
  rw [reps_bools]
  have : isR [] = List.replicate 25 false := by decide +kernel
  rw [this]
theorem errL_1 {R : List Int} (l : List T_Link) (h : goR [] R = false) : errL R l = 2 := by unfold errL; rw [if_pos h]
theorem errL_2 {R : List Int} {l : List T_Link} (h : goR [] R = true) (hl : 48 < l.length) : errL R l = 3 := by unfold errL; rw [if_neg (by simp [h]), if_pos hl]
theorem errL_3 {R : List Int} {l : List T_Link} (h : goR [] R = true) (hl : ¬ 48 < l.length) : errL R l = goL R [] l := by unfold errL; rw [if_neg (by simp [h]), if_neg hl]
theorem of_ok : ConOk Try.prog 38 conOf := by
  refine .mkDet fn38_ok ?_
  intro args hp top hpre hcl hsc
  match args, hpre with
  | [u, v], ⟨⟨R, h⟩, ⟨l, g⟩⟩ =>
  have hs := h.low hcl
  have gs := g.low hcl
  simp only [h.rd, g.rd]
  refine CalledOk.of_fun tt_ok fn38_ok rfl 108 rfl [.cell 4 76, .tmp 5] rfl (show 2 ≤ 108 by decide) ?_
  refine CW.vc env5 [0, 1, 4, 5, 6, 7, 9, 11, 12, 13, 14, 15, 25, 32, 34, 35, 36, 37, 40, 79, 1000019] (by kernel_rfl) ?_
  (repeat ((first | refine Vc.mk' ?_ | refine CW.drawX env5 19 [0, 1, 4, 5, 6, 7, 9, 11, 12, 13, 14, 15, 25, 32, 34, 35, 36, 37, 40, 79, 1000019] [(5, 14), (7, 14), (11, 14)] (by kernel_rfl) (by kernel_rfl) ?_ | skip); simp only [go_sem, reduceIte, reduceCtorEq, Nat.reduceAdd, Nat.reduceMul, Nat.reduceSub, Nat.reduceLT, Nat.reduceLeDiff, Nat.reduceEqDiff, Int.reduceEq, Int.reduceLT, Int.reduceLE, Int.reduceNe, len_sint h, idx_sint h, ld_sint h, sh_sint h, sw_sint h, h.P, h.oc, h.cl, h.rd, h.ref, strip_P hs, strip_rd hs, strip_ld hs, strip_sl h hs k_sint, len_sLink g, idx_sLink g, ld_sLink g, sh_sLink g, sw_sLink g, sf_sLink_0 g, sc_sLink_0 g, sf_sLink_1 g, sc_sLink_1 g, sf_sLink_2 g, sc_sLink_2 g, g.P, g.oc, g.cl, g.rd, g.ref, strip_P gs, strip_rd gs, strip_ld gs, strip_sl g gs k_sLink, G5_router, G5_cost, con1, G5_sq, conSq, one_ri, one_rb]))
  refine CW.loopR (stO1 hp top u v R) (fun k => k ≤ R.length ∧ goR [] R = goR (R.take k) (R.drop k)) (fun k => R.length - k) 0 ⟨Nat.zero_le _, rfl⟩ ?_ ?_
  · exact (by refine SubR.mk' [top, top + 1, top + 2] hcl (by simp) (by simp) rfl (frSub_ok ?_) ?_ ?_ <;> simp [frSub, lkG, ren, renL, renL_set, renL_ints, UpdOk.nil, UpdOk.cons, renOO_some, renO_cells, renO_map, renOO_mkOb, rn_base, rn_add, ren_mkSl, Enc.flat_ren, set_same, set_ne, sets_cons, sets_nil, Keep.set, Keep.setK, Keep.refl, rm_m_int_bool, rm_m_message_Rule, rm_m_pair_bool, rm_m_pair_int, Sc.ren (fun j hj => rn_low hj) hs, Sc.ren (fun j hj => rn_low hj) gs, sL_nil, isR_nil, renL_bools])
  · rintro k ⟨hk, hm⟩
    by_cases hlt : k < R.length
    · rw [drop_at hlt, goR] at hm
      generalize hn : at' R k = n at hm
      cases c1 : routerB n with
      | false =>
        rw [c1, Bool.false_and, Bool.false_and] at hm
        simp only [resOf_err (errL_1 l hm) (by decide)]
        refine CW.vc env5 [0, 1, 4, 5, 6, 7, 9, 11, 12, 13, 14, 15, 25, 32, 34, 35, 36, 37, 40, 79, 1000019] (by kernel_rfl) ?_
        (repeat ((first | refine Vc.mk' ?_ | refine CW.drawX env5 19 [0, 1, 4, 5, 6, 7, 9, 11, 12, 13, 14, 15, 25, 32, 34, 35, 36, 37, 40, 79, 1000019] [(5, 14), (7, 14), (11, 14)] (by kernel_rfl) (by kernel_rfl) ?_ | skip); simp only [go_sem, reduceIte, reduceCtorEq, Nat.reduceAdd, Nat.reduceMul, Nat.reduceSub, Nat.reduceLT, Nat.reduceLeDiff, Nat.reduceEqDiff, Int.reduceEq, Int.reduceLT, Int.reduceLE, Int.reduceNe, len_sint h, idx_sint h, ld_sint h, sh_sint h, sw_sint h, h.P, h.oc, h.cl, h.rd, h.ref, strip_P hs, strip_rd hs, strip_ld hs, strip_sl h hs k_sint, len_sLink g, idx_sLink g, ld_sLink g, sh_sLink g, sw_sLink g, sf_sLink_0 g, sc_sLink_0 g, sf_sLink_1 g, sc_sLink_1 g, sf_sLink_2 g, sc_sLink_2 g, g.P, g.oc, g.cl, g.rd, g.ref, strip_P gs, strip_rd gs, strip_ld gs, strip_sl g gs k_sLink, G5_router, G5_cost, con1, G5_sq, conSq, one_ri, one_rb, hlt, stO1, hn, c1]))
        (refine ⟨[top, top + 1], by simp, by simp, by simp, ?_, ?_, ?_⟩ <;> simp [frSub, lkG, ren, renL, renL_set, renL_ints, UpdOk.nil, UpdOk.cons, renOO_some, renO_cells, renO_map, renOO_mkOb, rn_base, rn_add, ren_mkSl, Enc.flat_ren, set_same, set_ne, sets_cons, sets_nil, Keep.set, Keep.setK, Keep.refl, rm_m_int_bool, rm_m_message_Rule, rm_m_pair_bool, rm_m_pair_int])
      | true =>
        have hro := c1
        simp only [routerB, Bool.and_eq_true, decide_eq_true_eq] at hro
        have o0 : 0 ≤ n := by omega
        have o1 : n < ((25 : Nat) : Int) := by omega
        have o2 : n.toNat < 25 := by omega
        have o5 : n.toNat ≤ 24 := by omega
        have o4 : ((n.toNat : Nat) : Int) = n := by omega
        have hl1 : sload tt.get hp 3 (ptrS u k) = (.int .i64 n, True) := by have := ld_sint h hlt; rw [Nat.mul_one, hn] at this; exact this
        have hil := isR_len (R.take k)
        have hig := isR_get (R.take k) o2
        rw [o4] at hig
        cases c2 : (R.take k).any (isI n) with
        | true =>
          rw [c2] at hig
          rw [c2, Bool.not_true, Bool.and_false, Bool.false_and] at hm
          simp only [resOf_err (errL_1 l hm) (by decide)]
          refine CW.vc env5 [0, 1, 4, 5, 6, 7, 9, 11, 12, 13, 14, 15, 25, 32, 34, 35, 36, 37, 40, 79, 1000019] (by kernel_rfl) ?_
          (repeat ((first | refine Vc.mk' ?_ | refine CW.drawX env5 19 [0, 1, 4, 5, 6, 7, 9, 11, 12, 13, 14, 15, 25, 32, 34, 35, 36, 37, 40, 79, 1000019] [(5, 14), (7, 14), (11, 14)] (by kernel_rfl) (by kernel_rfl) ?_ | skip); simp only [go_sem, reduceIte, reduceCtorEq, Nat.reduceAdd, Nat.reduceMul, Nat.reduceSub, Nat.reduceLT, Nat.reduceLeDiff, Nat.reduceEqDiff, Int.reduceEq, Int.reduceLT, Int.reduceLE, Int.reduceNe, len_sint h, idx_sint h, ld_sint h, sh_sint h, sw_sint h, h.P, h.oc, h.cl, h.rd, h.ref, strip_P hs, strip_rd hs, strip_ld hs, strip_sl h hs k_sint, len_sLink g, idx_sLink g, ld_sLink g, sh_sLink g, sw_sLink g, sf_sLink_0 g, sc_sLink_0 g, sf_sLink_1 g, sc_sLink_1 g, sf_sLink_2 g, sc_sLink_2 g, g.P, g.oc, g.cl, g.rd, g.ref, strip_P gs, strip_rd gs, strip_ld gs, strip_sl g gs k_sLink, G5_router, G5_cost, con1, G5_sq, conSq, one_ri, one_rb, hlt, stO1, hn, hl1, c1, o0, o1, o2, o5, hig, hil, get_bools, Nat.mul_one, List.length_map]))
          (refine ⟨[top, top + 1], by simp, by simp, by simp, ?_, ?_, ?_⟩ <;> simp [frSub, lkG, ren, renL, renL_set, renL_ints, UpdOk.nil, UpdOk.cons, renOO_some, renO_cells, renO_map, renOO_mkOb, rn_base, rn_add, ren_mkSl, Enc.flat_ren, set_same, set_ne, sets_cons, sets_nil, Keep.set, Keep.setK, Keep.refl, rm_m_int_bool, rm_m_message_Rule, rm_m_pair_bool, rm_m_pair_int])
        | false =>
          rw [c2] at hig
          rw [c1, c2, Bool.not_false, Bool.and_self, Bool.true_and] at hm
          have hst := isR_step (done := R.take k) c1
          rw [← hn, ← take_at hlt, hn] at hst
          refine CW.vc env5 [0, 1, 4, 5, 6, 7, 9, 11, 12, 13, 14, 15, 25, 32, 34, 35, 36, 37, 40, 79, 1000019] (by kernel_rfl) ?_
          (repeat ((first | refine Vc.mk' ?_ | refine CW.drawX env5 19 [0, 1, 4, 5, 6, 7, 9, 11, 12, 13, 14, 15, 25, 32, 34, 35, 36, 37, 40, 79, 1000019] [(5, 14), (7, 14), (11, 14)] (by kernel_rfl) (by kernel_rfl) ?_ | skip); simp only [go_sem, reduceIte, reduceCtorEq, Nat.reduceAdd, Nat.reduceMul, Nat.reduceSub, Nat.reduceLT, Nat.reduceLeDiff, Nat.reduceEqDiff, Int.reduceEq, Int.reduceLT, Int.reduceLE, Int.reduceNe, len_sint h, idx_sint h, ld_sint h, sh_sint h, sw_sint h, h.P, h.oc, h.cl, h.rd, h.ref, strip_P hs, strip_rd hs, strip_ld hs, strip_sl h hs k_sint, len_sLink g, idx_sLink g, ld_sLink g, sh_sLink g, sw_sLink g, sf_sLink_0 g, sc_sLink_0 g, sf_sLink_1 g, sc_sLink_1 g, sf_sLink_2 g, sc_sLink_2 g, g.P, g.oc, g.cl, g.rd, g.ref, strip_P gs, strip_rd gs, strip_ld gs, strip_sl g gs k_sLink, G5_router, G5_cost, con1, G5_sq, conSq, one_ri, one_rb, hlt, stO1, hn, hl1, c1, o0, o1, o2, o5, hig, hil, get_bools, splice_bools, Nat.mul_one, List.length_map, hst]))
          refine .mk (k + 1) ⟨hlt, ?_⟩ (by omega) ((by refine SubR.mk' [top, top + 1, top + 2] hcl (by simp) (by simp) rfl (frSub_ok ?_) ?_ ?_ <;> simp [frSub, lkG, ren, renL, renL_set, renL_ints, UpdOk.nil, UpdOk.cons, renOO_some, renO_cells, renO_map, renOO_mkOb, rn_base, rn_add, ren_mkSl, Enc.flat_ren, set_same, set_ne, sets_cons, sets_nil, Keep.set, Keep.setK, Keep.refl, rm_m_int_bool, rm_m_message_Rule, rm_m_pair_bool, rm_m_pair_int, Sc.ren (fun j hj => rn_low hj) hs, Sc.ren (fun j hj => rn_low hj) gs, renL_bools, wrap_succ hlt h.le]))
          rw [hm, take_at hlt, hn]
    · have hk2 : k = R.length := by omega
      subst hk2
      have hG : goR [] R = true := by rw [hm, List.drop_eq_nil_of_le (Nat.le_refl _)]; rfl
      by_cases hl : 48 < l.length
      · have hl2 : (48 : Int) < (l.length : Int) := by omega
        simp only [resOf_err (errL_2 hG hl) (by decide)]
        refine CW.vc env5 [0, 1, 4, 5, 6, 7, 9, 11, 12, 13, 14, 15, 25, 32, 34, 35, 36, 37, 40, 79, 1000019] (by kernel_rfl) ?_
        (repeat ((first | refine Vc.mk' ?_ | refine CW.drawX env5 19 [0, 1, 4, 5, 6, 7, 9, 11, 12, 13, 14, 15, 25, 32, 34, 35, 36, 37, 40, 79, 1000019] [(5, 14), (7, 14), (11, 14)] (by kernel_rfl) (by kernel_rfl) ?_ | skip); simp only [go_sem, reduceIte, reduceCtorEq, Nat.reduceAdd, Nat.reduceMul, Nat.reduceSub, Nat.reduceLT, Nat.reduceLeDiff, Nat.reduceEqDiff, Int.reduceEq, Int.reduceLT, Int.reduceLE, Int.reduceNe, len_sint h, idx_sint h, ld_sint h, sh_sint h, sw_sint h, h.P, h.oc, h.cl, h.rd, h.ref, strip_P hs, strip_rd hs, strip_ld hs, strip_sl h hs k_sint, len_sLink g, idx_sLink g, ld_sLink g, sh_sLink g, sw_sLink g, sf_sLink_0 g, sc_sLink_0 g, sf_sLink_1 g, sc_sLink_1 g, sf_sLink_2 g, sc_sLink_2 g, g.P, g.oc, g.cl, g.rd, g.ref, strip_P gs, strip_rd gs, strip_ld gs, strip_sl g gs k_sLink, G5_router, G5_cost, con1, G5_sq, conSq, one_ri, one_rb, stO1, Nat.lt_irrefl, decide_false, hl2]))
        (refine ⟨[top, top + 1], by simp, by simp, by simp, ?_, ?_, ?_⟩ <;> simp [frSub, lkG, ren, renL, renL_set, renL_ints, UpdOk.nil, UpdOk.cons, renOO_some, renO_cells, renO_map, renOO_mkOb, rn_base, rn_add, ren_mkSl, Enc.flat_ren, set_same, set_ne, sets_cons, sets_nil, Keep.set, Keep.setK, Keep.refl, rm_m_int_bool, rm_m_message_Rule, rm_m_pair_bool, rm_m_pair_int])
      · have hl2 : ¬ (48 : Int) < (l.length : Int) := by omega
        have hE := errL_3 hG hl
        have hR := goR_ok R [] hG
        refine CW.vc env5 [0, 1, 4, 5, 6, 7, 9, 11, 12, 13, 14, 15, 25, 32, 34, 35, 36, 37, 40, 79, 1000019] (by kernel_rfl) ?_
        (repeat ((first | refine Vc.mk' ?_ | refine CW.drawX env5 19 [0, 1, 4, 5, 6, 7, 9, 11, 12, 13, 14, 15, 25, 32, 34, 35, 36, 37, 40, 79, 1000019] [(5, 14), (7, 14), (11, 14)] (by kernel_rfl) (by kernel_rfl) ?_ | skip); simp only [go_sem, reduceIte, reduceCtorEq, Nat.reduceAdd, Nat.reduceMul, Nat.reduceSub, Nat.reduceLT, Nat.reduceLeDiff, Nat.reduceEqDiff, Int.reduceEq, Int.reduceLT, Int.reduceLE, Int.reduceNe, len_sint h, idx_sint h, ld_sint h, sh_sint h, sw_sint h, h.P, h.oc, h.cl, h.rd, h.ref, strip_P hs, strip_rd hs, strip_ld hs, strip_sl h hs k_sint, len_sLink g, idx_sLink g, ld_sLink g, sh_sLink g, sw_sLink g, sf_sLink_0 g, sc_sLink_0 g, sf_sLink_1 g, sc_sLink_1 g, sf_sLink_2 g, sc_sLink_2 g, g.P, g.oc, g.cl, g.rd, g.ref, strip_P gs, strip_rd gs, strip_ld gs, strip_sl g gs k_sLink, G5_router, G5_cost, con1, G5_sq, conSq, one_ri, one_rb, stO1, Nat.lt_irrefl, decide_false, hl2]))
        refine CW.loopR (stO2 hp top v R l) (fun k => k ≤ l.length ∧ goL R [] l = goL R (l.take k) (l.drop k) ∧ ∀ x ∈ l.take k, linkOk R x = true) (fun k => l.length - k) 0 ⟨Nat.zero_le _, rfl, by simp⟩ ?_ ?_
        · exact (by refine SubR.mk' [top, top + 1, top + 2] hcl (by simp) (by simp) rfl (frSub_ok ?_) ?_ ?_ <;> simp [frSub, lkG, ren, renL, renL_set, renL_ints, UpdOk.nil, UpdOk.cons, renOO_some, renO_cells, renO_map, renOO_mkOb, rn_base, rn_add, ren_mkSl, Enc.flat_ren, set_same, set_ne, sets_cons, sets_nil, Keep.set, Keep.setK, Keep.refl, rm_m_int_bool, rm_m_message_Rule, rm_m_pair_bool, rm_m_pair_int, Sc.ren (fun j hj => rn_low hj) gs, List.take_length, renL_bools])
        · rintro k ⟨hk, hm, hok⟩
          by_cases hlt : k < l.length
          · rw [drop_at hlt, goL] at hm
            have bad : linkOk R (at' l k) = false → errL R l = 2 := fun e => by rw [hE, hm, if_pos e]
            have anyF : ∀ a, routerB a = false → R.any (isI a) = false := fun a ha => by
              cases h' : R.any (isI a) with
              | false => rfl
              | true => have := any_router hR h'; rw [ha] at this; cases this
            cases a1 : routerB (at' l k).A with
            | false =>
              have e := bad (by simp [linkOk, anyF _ a1])
              simp only [resOf_err e (by decide)]
              refine CW.vc env5 [0, 1, 4, 5, 6, 7, 9, 11, 12, 13, 14, 15, 25, 32, 34, 35, 36, 37, 40, 79, 1000019] (by kernel_rfl) ?_
              (repeat ((first | refine Vc.mk' ?_ | refine CW.drawX env5 19 [0, 1, 4, 5, 6, 7, 9, 11, 12, 13, 14, 15, 25, 32, 34, 35, 36, 37, 40, 79, 1000019] [(5, 14), (7, 14), (11, 14)] (by kernel_rfl) (by kernel_rfl) ?_ | skip); simp only [go_sem, reduceIte, reduceCtorEq, Nat.reduceAdd, Nat.reduceMul, Nat.reduceSub, Nat.reduceLT, Nat.reduceLeDiff, Nat.reduceEqDiff, Int.reduceEq, Int.reduceLT, Int.reduceLE, Int.reduceNe, len_sint h, idx_sint h, ld_sint h, sh_sint h, sw_sint h, h.P, h.oc, h.cl, h.rd, h.ref, strip_P hs, strip_rd hs, strip_ld hs, strip_sl h hs k_sint, len_sLink g, idx_sLink g, ld_sLink g, sh_sLink g, sw_sLink g, sf_sLink_0 g, sc_sLink_0 g, sf_sLink_1 g, sc_sLink_1 g, sf_sLink_2 g, sc_sLink_2 g, g.P, g.oc, g.cl, g.rd, g.ref, strip_P gs, strip_rd gs, strip_ld gs, strip_sl g gs k_sLink, G5_router, G5_cost, con1, G5_sq, conSq, one_ri, one_rb, hlt, stO2, a1]))
              (refine ⟨[top, top + 1], by simp, by simp, by simp, ?_, ?_, ?_⟩ <;> simp [frSub, lkG, ren, renL, renL_set, renL_ints, UpdOk.nil, UpdOk.cons, renOO_some, renO_cells, renO_map, renOO_mkOb, rn_base, rn_add, ren_mkSl, Enc.flat_ren, set_same, set_ne, sets_cons, sets_nil, Keep.set, Keep.setK, Keep.refl, rm_m_int_bool, rm_m_message_Rule, rm_m_pair_bool, rm_m_pair_int])
            | true =>
            cases b1 : routerB (at' l k).B with
            | false =>
              have e := bad (by simp [linkOk, anyF _ b1])
              simp only [resOf_err e (by decide)]
              refine CW.vc env5 [0, 1, 4, 5, 6, 7, 9, 11, 12, 13, 14, 15, 25, 32, 34, 35, 36, 37, 40, 79, 1000019] (by kernel_rfl) ?_
              (repeat ((first | refine Vc.mk' ?_ | refine CW.drawX env5 19 [0, 1, 4, 5, 6, 7, 9, 11, 12, 13, 14, 15, 25, 32, 34, 35, 36, 37, 40, 79, 1000019] [(5, 14), (7, 14), (11, 14)] (by kernel_rfl) (by kernel_rfl) ?_ | skip); simp only [go_sem, reduceIte, reduceCtorEq, Nat.reduceAdd, Nat.reduceMul, Nat.reduceSub, Nat.reduceLT, Nat.reduceLeDiff, Nat.reduceEqDiff, Int.reduceEq, Int.reduceLT, Int.reduceLE, Int.reduceNe, len_sint h, idx_sint h, ld_sint h, sh_sint h, sw_sint h, h.P, h.oc, h.cl, h.rd, h.ref, strip_P hs, strip_rd hs, strip_ld hs, strip_sl h hs k_sint, len_sLink g, idx_sLink g, ld_sLink g, sh_sLink g, sw_sLink g, sf_sLink_0 g, sc_sLink_0 g, sf_sLink_1 g, sc_sLink_1 g, sf_sLink_2 g, sc_sLink_2 g, g.P, g.oc, g.cl, g.rd, g.ref, strip_P gs, strip_rd gs, strip_ld gs, strip_sl g gs k_sLink, G5_router, G5_cost, con1, G5_sq, conSq, one_ri, one_rb, hlt, stO2, a1, b1]))
              (refine ⟨[top, top + 1], by simp, by simp, by simp, ?_, ?_, ?_⟩ <;> simp [frSub, lkG, ren, renL, renL_set, renL_ints, UpdOk.nil, UpdOk.cons, renOO_some, renO_cells, renO_map, renOO_mkOb, rn_base, rn_add, ren_mkSl, Enc.flat_ren, set_same, set_ne, sets_cons, sets_nil, Keep.set, Keep.setK, Keep.refl, rm_m_int_bool, rm_m_message_Rule, rm_m_pair_bool, rm_m_pair_int])
            | true =>
            have ra := a1
            have rb := b1
            simp only [routerB, Bool.and_eq_true, decide_eq_true_eq] at ra rb
            have o0 : 0 ≤ (at' l k).A := by omega
            have o1 : (at' l k).A < ((25 : Nat) : Int) := by omega
            have o2 : (at' l k).A.toNat < 25 := by omega
            have o5 : (at' l k).A.toNat ≤ 24 := by omega
            have o4 : (((at' l k).A.toNat : Nat) : Int) = (at' l k).A := by omega
            have q0 : 0 ≤ (at' l k).B := by omega
            have q1 : (at' l k).B < ((25 : Nat) : Int) := by omega
            have q2 : (at' l k).B.toNat < 25 := by omega
            have q5 : (at' l k).B.toNat ≤ 24 := by omega
            have q4 : (((at' l k).B.toNat : Nat) : Int) = (at' l k).B := by omega
            have hil := isR_len R
            have hia := isR_get R o2
            have hib := isR_get R q2
            rw [o4] at hia
            rw [q4] at hib
            have hsl := sL_len (l.take k)
            have hv := sL_get (l.take k) o2 q2
            rw [o4, q4] at hv
            have t1 : (at' l k).A.toNat * 25 + (at' l k).B.toNat < 625 := by omega
            have t2 : (at' l k).B.toNat * 25 + (at' l k).A.toNat < 625 := by omega
            have t3 : (at' l k).A.toNat * 25 + (at' l k).B.toNat ≤ 624 := by omega
            have t4 : (at' l k).B.toNat * 25 + (at' l k).A.toNat ≤ 624 := by omega
            have t5 : (at' l k).A.toNat * 25 + ((at' l k).B.toNat + 1) ≤ 625 := by omega
            have t6 : (at' l k).B.toNat * 25 + ((at' l k).A.toNat + 1) ≤ 625 := by omega
            cases a2 : R.any (isI (at' l k).A) with
            | false =>
              have e := bad (by simp [linkOk, a2])
              rw [a2] at hia
              simp only [resOf_err e (by decide)]
              refine CW.vc env5 [0, 1, 4, 5, 6, 7, 9, 11, 12, 13, 14, 15, 25, 32, 34, 35, 36, 37, 40, 79, 1000019] (by kernel_rfl) ?_
              (repeat ((first | refine Vc.mk' ?_ | refine CW.drawX env5 19 [0, 1, 4, 5, 6, 7, 9, 11, 12, 13, 14, 15, 25, 32, 34, 35, 36, 37, 40, 79, 1000019] [(5, 14), (7, 14), (11, 14)] (by kernel_rfl) (by kernel_rfl) ?_ | skip); simp only [go_sem, reduceIte, reduceCtorEq, Nat.reduceAdd, Nat.reduceMul, Nat.reduceSub, Nat.reduceLT, Nat.reduceLeDiff, Nat.reduceEqDiff, Int.reduceEq, Int.reduceLT, Int.reduceLE, Int.reduceNe, len_sint h, idx_sint h, ld_sint h, sh_sint h, sw_sint h, h.P, h.oc, h.cl, h.rd, h.ref, strip_P hs, strip_rd hs, strip_ld hs, strip_sl h hs k_sint, len_sLink g, idx_sLink g, ld_sLink g, sh_sLink g, sw_sLink g, sf_sLink_0 g, sc_sLink_0 g, sf_sLink_1 g, sc_sLink_1 g, sf_sLink_2 g, sc_sLink_2 g, g.P, g.oc, g.cl, g.rd, g.ref, strip_P gs, strip_rd gs, strip_ld gs, strip_sl g gs k_sLink, G5_router, G5_cost, con1, G5_sq, conSq, one_ri, one_rb, hlt, stO2, a1, b1, o0, o1, o2, o5, q0, q1, q2, q5, hil, hia, hib, hsl, get_bools, get_ints, Nat.mul_one, List.length_map]))
              (refine ⟨[top, top + 1], by simp, by simp, by simp, ?_, ?_, ?_⟩ <;> simp [frSub, lkG, ren, renL, renL_set, renL_ints, UpdOk.nil, UpdOk.cons, renOO_some, renO_cells, renO_map, renOO_mkOb, rn_base, rn_add, ren_mkSl, Enc.flat_ren, set_same, set_ne, sets_cons, sets_nil, Keep.set, Keep.setK, Keep.refl, rm_m_int_bool, rm_m_message_Rule, rm_m_pair_bool, rm_m_pair_int])
            | true =>
            rw [a2] at hia
            cases b2 : R.any (isI (at' l k).B) with
            | false =>
              have e := bad (by simp [linkOk, b2])
              rw [b2] at hib
              simp only [resOf_err e (by decide)]
              refine CW.vc env5 [0, 1, 4, 5, 6, 7, 9, 11, 12, 13, 14, 15, 25, 32, 34, 35, 36, 37, 40, 79, 1000019] (by kernel_rfl) ?_
              (repeat ((first | refine Vc.mk' ?_ | refine CW.drawX env5 19 [0, 1, 4, 5, 6, 7, 9, 11, 12, 13, 14, 15, 25, 32, 34, 35, 36, 37, 40, 79, 1000019] [(5, 14), (7, 14), (11, 14)] (by kernel_rfl) (by kernel_rfl) ?_ | skip); simp only [go_sem, reduceIte, reduceCtorEq, Nat.reduceAdd, Nat.reduceMul, Nat.reduceSub, Nat.reduceLT, Nat.reduceLeDiff, Nat.reduceEqDiff, Int.reduceEq, Int.reduceLT, Int.reduceLE, Int.reduceNe, len_sint h, idx_sint h, ld_sint h, sh_sint h, sw_sint h, h.P, h.oc, h.cl, h.rd, h.ref, strip_P hs, strip_rd hs, strip_ld hs, strip_sl h hs k_sint, len_sLink g, idx_sLink g, ld_sLink g, sh_sLink g, sw_sLink g, sf_sLink_0 g, sc_sLink_0 g, sf_sLink_1 g, sc_sLink_1 g, sf_sLink_2 g, sc_sLink_2 g, g.P, g.oc, g.cl, g.rd, g.ref, strip_P gs, strip_rd gs, strip_ld gs, strip_sl g gs k_sLink, G5_router, G5_cost, con1, G5_sq, conSq, one_ri, one_rb, hlt, stO2, a1, b1, o0, o1, o2, o5, q0, q1, q2, q5, hil, hia, hib, hsl, get_bools, get_ints, Nat.mul_one, List.length_map]))
              (refine ⟨[top, top + 1], by simp, by simp, by simp, ?_, ?_, ?_⟩ <;> simp [frSub, lkG, ren, renL, renL_set, renL_ints, UpdOk.nil, UpdOk.cons, renOO_some, renO_cells, renO_map, renOO_mkOb, rn_base, rn_add, ren_mkSl, Enc.flat_ren, set_same, set_ne, sets_cons, sets_nil, Keep.set, Keep.setK, Keep.refl, rm_m_int_bool, rm_m_message_Rule, rm_m_pair_bool, rm_m_pair_int])
            | true =>
            rw [b2] at hib
            by_cases ab : (at' l k).A = (at' l k).B
            · have e := bad (by simp [linkOk, ab])
              simp only [resOf_err e (by decide)]
              refine CW.vc env5 [0, 1, 4, 5, 6, 7, 9, 11, 12, 13, 14, 15, 25, 32, 34, 35, 36, 37, 40, 79, 1000019] (by kernel_rfl) ?_
              (repeat ((first | refine Vc.mk' ?_ | refine CW.drawX env5 19 [0, 1, 4, 5, 6, 7, 9, 11, 12, 13, 14, 15, 25, 32, 34, 35, 36, 37, 40, 79, 1000019] [(5, 14), (7, 14), (11, 14)] (by kernel_rfl) (by kernel_rfl) ?_ | skip); simp only [go_sem, reduceIte, reduceCtorEq, Nat.reduceAdd, Nat.reduceMul, Nat.reduceSub, Nat.reduceLT, Nat.reduceLeDiff, Nat.reduceEqDiff, Int.reduceEq, Int.reduceLT, Int.reduceLE, Int.reduceNe, len_sint h, idx_sint h, ld_sint h, sh_sint h, sw_sint h, h.P, h.oc, h.cl, h.rd, h.ref, strip_P hs, strip_rd hs, strip_ld hs, strip_sl h hs k_sint, len_sLink g, idx_sLink g, ld_sLink g, sh_sLink g, sw_sLink g, sf_sLink_0 g, sc_sLink_0 g, sf_sLink_1 g, sc_sLink_1 g, sf_sLink_2 g, sc_sLink_2 g, g.P, g.oc, g.cl, g.rd, g.ref, strip_P gs, strip_rd gs, strip_ld gs, strip_sl g gs k_sLink, G5_router, G5_cost, con1, G5_sq, conSq, one_ri, one_rb, hlt, stO2, a1, b1, o0, o1, o2, o5, q0, q1, q2, q5, hil, hia, hib, hsl, get_bools, get_ints, Nat.mul_one, List.length_map, ab]))
              (refine ⟨[top, top + 1], by simp, by simp, by simp, ?_, ?_, ?_⟩ <;> simp [frSub, lkG, ren, renL, renL_set, renL_ints, UpdOk.nil, UpdOk.cons, renOO_some, renO_cells, renO_map, renOO_mkOb, rn_base, rn_add, ren_mkSl, Enc.flat_ren, set_same, set_ne, sets_cons, sets_nil, Keep.set, Keep.setK, Keep.refl, rm_m_int_bool, rm_m_message_Rule, rm_m_pair_bool, rm_m_pair_int])
            cases c3 : costB (at' l k).Cost with
            | false =>
              have e := bad (by simp [linkOk, c3])
              simp only [resOf_err e (by decide)]
              refine CW.vc env5 [0, 1, 4, 5, 6, 7, 9, 11, 12, 13, 14, 15, 25, 32, 34, 35, 36, 37, 40, 79, 1000019] (by kernel_rfl) ?_
              (repeat ((first | refine Vc.mk' ?_ | refine CW.drawX env5 19 [0, 1, 4, 5, 6, 7, 9, 11, 12, 13, 14, 15, 25, 32, 34, 35, 36, 37, 40, 79, 1000019] [(5, 14), (7, 14), (11, 14)] (by kernel_rfl) (by kernel_rfl) ?_ | skip); simp only [go_sem, reduceIte, reduceCtorEq, Nat.reduceAdd, Nat.reduceMul, Nat.reduceSub, Nat.reduceLT, Nat.reduceLeDiff, Nat.reduceEqDiff, Int.reduceEq, Int.reduceLT, Int.reduceLE, Int.reduceNe, len_sint h, idx_sint h, ld_sint h, sh_sint h, sw_sint h, h.P, h.oc, h.cl, h.rd, h.ref, strip_P hs, strip_rd hs, strip_ld hs, strip_sl h hs k_sint, len_sLink g, idx_sLink g, ld_sLink g, sh_sLink g, sw_sLink g, sf_sLink_0 g, sc_sLink_0 g, sf_sLink_1 g, sc_sLink_1 g, sf_sLink_2 g, sc_sLink_2 g, g.P, g.oc, g.cl, g.rd, g.ref, strip_P gs, strip_rd gs, strip_ld gs, strip_sl g gs k_sLink, G5_router, G5_cost, con1, G5_sq, conSq, one_ri, one_rb, hlt, stO2, a1, b1, o0, o1, o2, o5, q0, q1, q2, q5, hil, hia, hib, hsl, get_bools, get_ints, Nat.mul_one, List.length_map, ab, c3]))
              (refine ⟨[top, top + 1], by simp, by simp, by simp, ?_, ?_, ?_⟩ <;> simp [frSub, lkG, ren, renL, renL_set, renL_ints, UpdOk.nil, UpdOk.cons, renOO_some, renO_cells, renO_map, renOO_mkOb, rn_base, rn_add, ren_mkSl, Enc.flat_ren, set_same, set_ne, sets_cons, sets_nil, Keep.set, Keep.setK, Keep.refl, rm_m_int_bool, rm_m_message_Rule, rm_m_pair_bool, rm_m_pair_int])
            | true =>
            have hlk : linkOk R (at' l k) = true := by simp [linkOk, a2, b2, ab, c3]
            rw [if_neg (by simp [hlk])] at hm
            have hpos := linkC_pos hok (at' l k).A (at' l k).B
            cases p : (l.take k).any (pr (at' l k).A (at' l k).B) with
            | true =>
              have hp := hpos.2 p
              rw [if_pos p] at hm
              have e : errL R l = 7 := by rw [hE, hm]
              simp only [resOf_err e (by decide)]
              refine CW.vc env5 [0, 1, 4, 5, 6, 7, 9, 11, 12, 13, 14, 15, 25, 32, 34, 35, 36, 37, 40, 79, 1000019] (by kernel_rfl) ?_
              (repeat ((first | refine Vc.mk' ?_ | refine CW.drawX env5 19 [0, 1, 4, 5, 6, 7, 9, 11, 12, 13, 14, 15, 25, 32, 34, 35, 36, 37, 40, 79, 1000019] [(5, 14), (7, 14), (11, 14)] (by kernel_rfl) (by kernel_rfl) ?_ | skip); simp only [go_sem, reduceIte, reduceCtorEq, Nat.reduceAdd, Nat.reduceMul, Nat.reduceSub, Nat.reduceLT, Nat.reduceLeDiff, Nat.reduceEqDiff, Int.reduceEq, Int.reduceLT, Int.reduceLE, Int.reduceNe, len_sint h, idx_sint h, ld_sint h, sh_sint h, sw_sint h, h.P, h.oc, h.cl, h.rd, h.ref, strip_P hs, strip_rd hs, strip_ld hs, strip_sl h hs k_sint, len_sLink g, idx_sLink g, ld_sLink g, sh_sLink g, sw_sLink g, sf_sLink_0 g, sc_sLink_0 g, sf_sLink_1 g, sc_sLink_1 g, sf_sLink_2 g, sc_sLink_2 g, g.P, g.oc, g.cl, g.rd, g.ref, strip_P gs, strip_rd gs, strip_ld gs, strip_sl g gs k_sLink, G5_router, G5_cost, con1, G5_sq, conSq, one_ri, one_rb, hlt, stO2, a1, b1, o0, o1, o2, o5, q0, q1, q2, q5, hil, hia, hib, hsl, get_bools, get_ints, Nat.mul_one, List.length_map, ab, c3, t1, t3, t5, hv, hp]))
              (refine ⟨[top, top + 1], by simp, by simp, by simp, ?_, ?_, ?_⟩ <;> simp [frSub, lkG, ren, renL, renL_set, renL_ints, UpdOk.nil, UpdOk.cons, renOO_some, renO_cells, renO_map, renOO_mkOb, rn_base, rn_add, ren_mkSl, Enc.flat_ren, set_same, set_ne, sets_cons, sets_nil, Keep.set, Keep.setK, Keep.refl, rm_m_int_bool, rm_m_message_Rule, rm_m_pair_bool, rm_m_pair_int])
            | false =>
              have hp : ¬ 0 < linkC (l.take k) (at' l k).A (at' l k).B := fun e => by rw [hpos.1 e] at p; cases p
              rw [if_neg (by simp [p])] at hm
              have hss := sL_step a1 b1 p
              rw [← take_at hlt] at hss hm
              refine CW.vc env5 [0, 1, 4, 5, 6, 7, 9, 11, 12, 13, 14, 15, 25, 32, 34, 35, 36, 37, 40, 79, 1000019] (by kernel_rfl) ?_
              (repeat ((first | refine Vc.mk' ?_ | refine CW.drawX env5 19 [0, 1, 4, 5, 6, 7, 9, 11, 12, 13, 14, 15, 25, 32, 34, 35, 36, 37, 40, 79, 1000019] [(5, 14), (7, 14), (11, 14)] (by kernel_rfl) (by kernel_rfl) ?_ | skip); simp only [go_sem, reduceIte, reduceCtorEq, Nat.reduceAdd, Nat.reduceMul, Nat.reduceSub, Nat.reduceLT, Nat.reduceLeDiff, Nat.reduceEqDiff, Int.reduceEq, Int.reduceLT, Int.reduceLE, Int.reduceNe, len_sint h, idx_sint h, ld_sint h, sh_sint h, sw_sint h, h.P, h.oc, h.cl, h.rd, h.ref, strip_P hs, strip_rd hs, strip_ld hs, strip_sl h hs k_sint, len_sLink g, idx_sLink g, ld_sLink g, sh_sLink g, sw_sLink g, sf_sLink_0 g, sc_sLink_0 g, sf_sLink_1 g, sc_sLink_1 g, sf_sLink_2 g, sc_sLink_2 g, g.P, g.oc, g.cl, g.rd, g.ref, strip_P gs, strip_rd gs, strip_ld gs, strip_sl g gs k_sLink, G5_router, G5_cost, con1, G5_sq, conSq, one_ri, one_rb, hlt, stO2, a1, b1, o0, o1, o2, o5, q0, q1, q2, q5, hil, hia, hib, hsl, get_bools, get_ints, Nat.mul_one, List.length_map, ab, c3, t1, t2, t3, t4, t5, t6, hv, hp, List.length_set, splice_ints, hss]))
              refine .mk (k + 1) ⟨hlt, hm, ?_⟩ (by omega) ((by refine SubR.mk' [top, top + 1, top + 2] hcl (by simp) (by simp) rfl (frSub_ok ?_) ?_ ?_ <;> simp [frSub, lkG, ren, renL, renL_set, renL_ints, UpdOk.nil, UpdOk.cons, renOO_some, renO_cells, renO_map, renOO_mkOb, rn_base, rn_add, ren_mkSl, Enc.flat_ren, set_same, set_ne, sets_cons, sets_nil, Keep.set, Keep.setK, Keep.refl, rm_m_int_bool, rm_m_message_Rule, rm_m_pair_bool, rm_m_pair_int, Sc.ren (fun j hj => rn_low hj) gs, renL_bools, wrap_succ hlt g.le]))
              intro y hy
              rw [take_at hlt] at hy
              rcases List.mem_append.1 hy with hy | hy
              · exact hok y hy
              · rw [List.mem_singleton.1 hy]; exact hlk
          · have hk2 : k = l.length := by omega
            subst hk2
            have htl : l.take l.length = l := List.take_length
            have hz : goL R [] l = 0 := by rw [hm, List.drop_eq_nil_of_le (Nat.le_refl _)]; rfl
            have hsl := sL_len l
            have hil := isR_len R
            have hb25 : List.take 25 ((isR R).map Value.bool) = (isR R).map Value.bool := take_map_len hil
            have e : errL R l = 0 := by rw [hE, hz]
            have hEd := edgesA_L (goL_links hz)
            have hNd := nodesA_R R
            simp only [resOf_ok e]
            refine CW.vc env5 [0, 1, 4, 5, 6, 7, 9, 11, 12, 13, 14, 15, 25, 32, 34, 35, 36, 37, 40, 79, 1000019] (by kernel_rfl) ?_
            (repeat ((first | refine Vc.mk' ?_ | refine CW.drawX env5 19 [0, 1, 4, 5, 6, 7, 9, 11, 12, 13, 14, 15, 25, 32, 34, 35, 36, 37, 40, 79, 1000019] [(5, 14), (7, 14), (11, 14)] (by kernel_rfl) (by kernel_rfl) ?_ | skip); simp only [go_sem, reduceIte, reduceCtorEq, Nat.reduceAdd, Nat.reduceMul, Nat.reduceSub, Nat.reduceLT, Nat.reduceLeDiff, Nat.reduceEqDiff, Int.reduceEq, Int.reduceLT, Int.reduceLE, Int.reduceNe, len_sint h, idx_sint h, ld_sint h, sh_sint h, sw_sint h, h.P, h.oc, h.cl, h.rd, h.ref, strip_P hs, strip_rd hs, strip_ld hs, strip_sl h hs k_sint, len_sLink g, idx_sLink g, ld_sLink g, sh_sLink g, sw_sLink g, sf_sLink_0 g, sc_sLink_0 g, sf_sLink_1 g, sc_sLink_1 g, sf_sLink_2 g, sc_sLink_2 g, g.P, g.oc, g.cl, g.rd, g.ref, strip_P gs, strip_rd gs, strip_ld gs, strip_sl g gs k_sLink, G5_router, G5_cost, con1, G5_sq, conSq, one_ri, one_rb, stO2, Nat.lt_irrefl, decide_false, htl, hsl, hil, hb25, sqOk, sqOf, ints_back, bools_back, List.length_map, resG, hEd, hNd]))
            (refine ⟨[top + 3, top + 4], by simp, by simp, by simp, ?_, ?_, ?_⟩ <;> simp [frSub, lkG, ren, renL, renL_set, renL_ints, UpdOk.nil, UpdOk.cons, renOO_some, renO_cells, renO_map, renOO_mkOb, rn_base, rn_add, ren_mkSl, Enc.flat_ren, set_same, set_ne, sets_cons, sets_nil, Keep.set, Keep.setK, Keep.refl, rm_m_int_bool, rm_m_message_Rule, rm_m_pair_bool, rm_m_pair_int])
end Go.Proofs.Ytmppehipfpkepaa.Gr
