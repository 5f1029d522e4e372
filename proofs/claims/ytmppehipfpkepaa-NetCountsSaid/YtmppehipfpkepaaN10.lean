/- The net: Start; what Mend and Start leave is a net. -/
import Derived.Test.YtmppehipfpkepaaN9
set_option linter.unusedSimpArgs false
set_option linter.unusedVariables false
namespace Go.Proofs.Ytmppehipfpkepaa.Dm
open Go.Dm
set_option maxHeartbeats 16000000
set_option maxRecDepth 20000
def isR (s : NetS) (a : Int) : Bool := s.R.any (isE a)
def startE (s : NetS) (a : Int) : Int := if isR s a = false then 2 else if isStop s a = false then 6 else 0
def startU (n : Nat) (s : NetS) (a : Int) : Upds := if startE s a = 0 then [(n + 3, some (.map (me_m_int_bool (mdel s.S a)) s.sc))] else []
noncomputable def conStart : Con := .det (fun args hp _ => match args with | [.pointer (some ⟨n, 0, none⟩), a] => IsNet hp n ∧ IsI .i64 a | _ => False) (fun args hp top => match args with
  | [.pointer (some ⟨n, _, _⟩), a] => (.int .i64 (startE (netS hp n) (intOf a)), startU n (netS hp n) (intOf a), top) | _ => (undef, [], top))
theorem NetAt.sR {hp : Hp} {n : Nat} {lv : Value} {s : NetS} (h : NetAt hp n lv s) : SlT e_int hp (mkSl (n + 7) s.R) s.R := by
  by_cases c : s.R = []
  · rw [c]; exact .nils
  · exact .own (h.R c) (by have := h.rn; omega)
theorem start_ok : ConOk Try.prog 18 conStart := by
  refine .mkDet fn18_ok ?_
  intro args hp top hpre hcl hsc
  match args, hpre with
  | [.pointer (some ⟨n, 0, none⟩), a], ⟨⟨lv, s, h⟩, ha⟩ =>
  rw [ha]
  generalize intOf a = a
  simp only [h.s, intOf_int]
  have hlow := h.low hcl
  have n0 : n < top := by omega
  have n3 : n + 3 < top := by omega
  have hh := h.h
  have hS := h.S
  have his := h.is
  have rP : SlP e_int hp (mkSl (n + 7) s.R) = True := h.sR.P
  have rR : e_int.rd hp (mkSl (n + 7) s.R) = s.R := h.sR.rd
  refine CalledOk.of_fun tt_ok fn18_ok rfl 29 rfl [.tmp 4] rfl (show 2 ≤ 29 by decide) ?_
  cases c1 : isR s a with
  | false =>
    have c1' : s.R.any (isE a) = false := c1
    have e : startE s a = 2 := by unfold startE; rw [if_pos c1]
    refine CW.vc env17_r [0, 1, 4, 5, 8, 16] (by kernel_rfl) ?_
    (repeat ((try refine Vc.mk' ?_); simp only [go_sem, reduceIte, reduceCtorEq, Nat.reduceAdd, Nat.reduceMul, Nat.reduceSub, Nat.reduceLT, Nat.reduceLeDiff, Nat.reduceEqDiff, Int.reduceEq, Int.reduceLT, Int.reduceLE, Int.reduceNe, hh, netOb, hS, G17_none, conNoneN, his, G17_has, conHas, rP, rR, set_lt n0, set_lt n3, c1']))
    simp only [e, startU]
    (refine ⟨[], by simp, by simp, by simp, ?_, ?_, ?_⟩ <;> simp [frSub, lkG, ren, renL, renL_set, renL_ints, UpdOk.nil, UpdOk.cons, renOO_some, renO_cells, renO_map, renOO_mkOb, rn_base, rn_add, ren_mkSl, Enc.flat_ren, set_same, set_ne, sets_cons, sets_nil, Keep.set, Keep.setK, Keep.refl, rm_m_int_bool, rm_m_message_Rule, rm_m_pair_bool, rm_m_pair_int])
  | true =>
  have c1' : s.R.any (isE a) = true := c1
  cases c2 : isStop s a with
  | false =>
    have c2' : (mget s.S a).getD default = false := c2
    have e : startE s a = 6 := by unfold startE; rw [if_neg (by rw [c1]; simp), if_pos c2]
    refine CW.vc env17_r [0, 1, 4, 5, 8, 16] (by kernel_rfl) ?_
    (repeat ((try refine Vc.mk' ?_); simp only [go_sem, reduceIte, reduceCtorEq, Nat.reduceAdd, Nat.reduceMul, Nat.reduceSub, Nat.reduceLT, Nat.reduceLeDiff, Nat.reduceEqDiff, Int.reduceEq, Int.reduceLT, Int.reduceLE, Int.reduceNe, hh, netOb, hS, G17_none, conNoneN, his, G17_has, conHas, rP, rR, set_lt n0, set_lt n3, c1', c2']))
    simp only [e, startU]
    (refine ⟨[], by simp, by simp, by simp, ?_, ?_, ?_⟩ <;> simp [frSub, lkG, ren, renL, renL_set, renL_ints, UpdOk.nil, UpdOk.cons, renOO_some, renO_cells, renO_map, renOO_mkOb, rn_base, rn_add, ren_mkSl, Enc.flat_ren, set_same, set_ne, sets_cons, sets_nil, Keep.set, Keep.setK, Keep.refl, rm_m_int_bool, rm_m_message_Rule, rm_m_pair_bool, rm_m_pair_int])
  | true =>
    have c2' : (mget s.S a).getD default = true := c2
    have e : startE s a = 0 := by unfold startE; rw [if_neg (by rw [c1]; simp), if_neg (by rw [c2]; simp)]
    have m3 : ¬ top = n + 3 := by omega
    refine CW.vc env17_r [0, 1, 4, 5, 8, 16] (by kernel_rfl) ?_
    (repeat ((try refine Vc.mk' ?_); simp only [go_sem, reduceIte, reduceCtorEq, Nat.reduceAdd, Nat.reduceMul, Nat.reduceSub, Nat.reduceLT, Nat.reduceLeDiff, Nat.reduceEqDiff, Int.reduceEq, Int.reduceLT, Int.reduceLE, Int.reduceNe, hh, netOb, hS, G17_none, conNoneN, his, G17_has, conHas, rP, rR, set_lt n0, set_lt n3, c1', c2']))
    simp only [e, startU, if_true]
    (refine ⟨[], by simp, by simp, by simp, ?_, ?_, ?_⟩ <;> simp [frSub, lkG, ren, renL, renL_set, renL_ints, UpdOk.nil, UpdOk.cons, renOO_some, renO_cells, renO_map, renOO_mkOb, rn_base, rn_add, ren_mkSl, Enc.flat_ren, set_same, set_ne, sets_cons, sets_nil, Keep.set, Keep.setK, Keep.refl, rm_m_int_bool, rm_m_message_Rule, rm_m_pair_bool, rm_m_pair_int, rn_low n3, m3])
/-! ### what they leave -/
def mendS (s : NetS) (a b : Int) : NetS := if mendE s a b = 0 then { s with C := mdel s.C (pk a b) } else s
def startS (s : NetS) (a : Int) : NetS := if startE s a = 0 then { s with S := mdel s.S a } else s
theorem NetAt.apart {hp : Hp} {n : Nat} {lv : Value} {s : NetS} (h : NetAt hp n lv s) : Apart n lv ∧ Apart (n + 1) lv ∧ Apart (n + 2) lv ∧ Apart (n + 3) lv ∧ Apart (n + 4) lv ∧ Apart (n + 5) lv ∧ Apart (n + 6) lv ∧ (s.R ≠ [] → Apart (n + 7) lv) := by
  refine ⟨h.W.off (j := n) fun vs e => ?_, h.W.off (j := n + 1) fun vs e => ?_, h.W.off (j := n + 2) fun vs e => ?_, h.W.off (j := n + 3) fun vs e => ?_, h.W.off (j := n + 4) fun vs e => ?_, h.W.off (j := n + 5) fun vs e => ?_, h.W.ap, fun hr => h.W.off (j := n + 7) fun vs e => ?_⟩
  · rw [h.h] at e; exact absurd (cellZ e) (by decide)
  · rw [h.L] at e; cases e
  · rw [h.C] at e; cases e
  · rw [h.S] at e; cases e
  · rw [h.P] at e; exact absurd (cellZ e) (by decide)
  · rw [h.M] at e; cases e
  · rw [h.R hr] at e
    cases hl : s.R with
    | nil => exact hr hl
    | cons x l => rw [hl] at e; exact absurd (cellZ e) (by decide)
theorem NetAt.setC {hp : Hp} {n : Nat} {lv : Value} {s : NetS} (h : NetAt hp n lv s) (m : M_m_pair_bool) (c : Nat) : NetAt (hp.set (n + 2) (some (.map (me_m_pair_bool m) c))) n lv { s with C := m, cc := c } := by
  have hA := h.apart.2.2.1
  refine ⟨(set_ne _ _ _ _ (by omega)).trans h.h, (set_ne _ _ _ _ (by omega)).trans h.L, set_same .., (set_ne _ _ _ _ (by omega)).trans h.S, (set_ne _ _ _ _ (by omega)).trans h.P, (set_ne _ _ _ _ (by omega)).trans h.M, h.pl, ⟨(set_ne _ _ _ _ (by omega)).trans h.W.h, h.W.o.mono fun b k x e => set_ne _ _ _ _ (by subst e; exact fun e => hA e.symm), h.W.up, h.W.tk, h.W.l0, h.W.l1, h.W.n⟩, fun hr => (set_ne _ _ _ _ (by omega)).trans (h.R hr), h.rn, h.lt0, h.lt1, h.nw0, h.nw1⟩
theorem NetAt.setS {hp : Hp} {n : Nat} {lv : Value} {s : NetS} (h : NetAt hp n lv s) (m : M_m_int_bool) (c : Nat) : NetAt (hp.set (n + 3) (some (.map (me_m_int_bool m) c))) n lv { s with S := m, sc := c } := by
  have hA := h.apart.2.2.2.1
  refine ⟨(set_ne _ _ _ _ (by omega)).trans h.h, (set_ne _ _ _ _ (by omega)).trans h.L, (set_ne _ _ _ _ (by omega)).trans h.C, set_same .., (set_ne _ _ _ _ (by omega)).trans h.P, (set_ne _ _ _ _ (by omega)).trans h.M, h.pl, ⟨(set_ne _ _ _ _ (by omega)).trans h.W.h, h.W.o.mono fun b k x e => set_ne _ _ _ _ (by subst e; exact fun e => hA e.symm), h.W.up, h.W.tk, h.W.l0, h.W.l1, h.W.n⟩, fun hr => (set_ne _ _ _ _ (by omega)).trans (h.R hr), h.rn, h.lt0, h.lt1, h.nw0, h.nw1⟩
theorem NetAt.mend {hp : Hp} {n : Nat} {lv : Value} {s : NetS} (h : NetAt hp n lv s) (a b : Int) : NetAt (hp.sets (mendU n s a b)) n lv (mendS s a b) := by
  unfold mendU mendS
  split
  · exact h.setC _ _
  · exact h
theorem NetAt.start {hp : Hp} {n : Nat} {lv : Value} {s : NetS} (h : NetAt hp n lv s) (a : Int) : NetAt (hp.sets (startU n s a)) n lv (startS s a) := by
  unfold startU startS
  split
  · exact h.setS _ _
  · exact h
end Go.Proofs.Ytmppehipfpkepaa.Dm
