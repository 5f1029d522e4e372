/- The net: Cut, Stop. -/
import Derived.Test.YtmppehipfpkepaaN18
set_option linter.unusedSimpArgs false
set_option linter.unusedVariables false
namespace Go.Proofs.Ytmppehipfpkepaa.Dm
open Go.Dm
set_option maxHeartbeats 16000000
set_option maxRecDepth 20000
noncomputable def G24_r : FuncId → Con := addG G23_r 36 conLost
theorem env24_r : EnvV Try.prog tt.get G24_r := env23_r.add lost_ok
theorem G24_lost : G24_r 36 = conLost := rfl
theorem G24_none : G24_r 29 = conNoneN := rfl
theorem G24_pair : G24_r 30 = conPair := rfl
theorem G24_has : G24_r 37 = conHas := rfl
def cutE (s : NetS) (a b : Int) : Int := if costF s a b = 0 then 2 else if isCut s a b = true then 7 else 0
def cutC (s : NetS) (a b : Int) : NetS := { s with C := mput s.C (pk a b) true s.cc, cc := mclk s.C (pk a b) s.cc }
def cutRes (n : Nat) (lv : Value) (s : NetS) (a b : Int) (top : Nat) : Value × Upds × Nat :=
  if cutE s a b = 0 then (.tuple ⟨[mkSl top (goneA (isDown (cutC s a b)) s.l), .int .i64 0]⟩, (n + 2, some (.map (me_m_pair_bool (cutC s a b).C) (cutC s a b).cc)) :: (lostRes n lv (cutC s a b) top).2.1, top + 1)
  else (.tuple ⟨[.slice none 0 0, .int .i64 (cutE s a b)]⟩, [], top)
noncomputable def conCut : Con := .det (fun args hp _ => match args with | [.pointer (some ⟨n, 0, none⟩), a, b] => IsNet hp n ∧ IsI .i64 a ∧ IsI .i64 b | _ => False) (fun args hp top => match args with
  | [.pointer (some ⟨n, _, _⟩), a, b] => cutRes n (netV hp n) (netS hp n) (intOf a) (intOf b) top | _ => (undef, [], top))
theorem cut_ok2 : ConOk Try.prog 15 conCut := by
  refine .mkDet fn15_ok ?_
  intro args hp top hpre hcl hsc
  match args, hpre with
  | [.pointer (some ⟨n, 0, none⟩), a, b], ⟨⟨lv, s, h⟩, ha, hb⟩ =>
  rw [ha, hb]
  generalize intOf a = a, intOf b = b
  simp only [h.s, h.v, intOf_int]
  have hlow := h.low hcl
  have n0 : n < top := by omega
  have n1 : n + 1 < top := by omega
  have n2 : n + 2 < top := by omega
  have hh := h.h
  have hL := h.L
  have hC := h.C
  have hk : ∀ {o}, NetAt (hp.set top o) n lv s := fun {o} => h.keep hcl fun i hi => set_lt hi (Nat.le_refl _)
  have his' : ∀ {o}, IsNet (hp.set top o) n = True := fun {o} => (hk (o := o)).is
  refine CalledOk.of_fun tt_ok fn15_ok rfl 37 rfl [.tmp 6, .tmp 7] rfl (show 3 ≤ 37 by decide) ?_
  by_cases c1 : costF s a b = 0
  · have c1' : (mget s.L ⟨min a b, max a b⟩).getD default = 0 := c1
    have e : cutE s a b = 2 := by unfold cutE; rw [if_pos c1]
    refine CW.vc env24_r [0, 1, 2, 6, 7, 8, 12, 15, 23] (by kernel_rfl) ?_
    (repeat ((try refine Vc.mk' ?_); simp only [go_sem, reduceIte, reduceCtorEq, Nat.reduceAdd, Nat.reduceMul, Nat.reduceSub, Nat.reduceLT, Nat.reduceLeDiff, Nat.reduceEqDiff, Int.reduceEq, Int.reduceLT, Int.reduceLE, Int.reduceNe, hh, netOb, hL, hC, G24_none, conNoneN, his', G24_pair, conPair, G24_lost, conLost, set_lt n0, set_lt n1, set_lt n2, c1']))
    simp only [e, cutRes]
    (refine ⟨[], by simp, by simp, by simp, ?_, ?_, ?_⟩ <;> simp [frSub, lkG, ren, renL, renL_set, renL_ints, UpdOk.nil, UpdOk.cons, renOO_some, renO_cells, renO_map, renOO_mkOb, rn_base, rn_add, ren_mkSl, Enc.flat_ren, set_same, set_ne, sets_cons, sets_nil, Keep.set, Keep.setK, Keep.refl, rm_m_int_bool, rm_m_message_Rule, rm_m_pair_bool, rm_m_pair_int])
  have c1' : ¬ (mget s.L ⟨min a b, max a b⟩).getD default = 0 := c1
  cases c2 : isCut s a b with
  | true =>
    have c2' : (mget s.C ⟨min a b, max a b⟩).getD default = true := c2
    have e : cutE s a b = 7 := by unfold cutE; rw [if_neg c1, if_pos c2]
    refine CW.vc env24_r [0, 1, 2, 6, 7, 8, 12, 15, 23] (by kernel_rfl) ?_
    (repeat ((try refine Vc.mk' ?_); simp only [go_sem, reduceIte, reduceCtorEq, Nat.reduceAdd, Nat.reduceMul, Nat.reduceSub, Nat.reduceLT, Nat.reduceLeDiff, Nat.reduceEqDiff, Int.reduceEq, Int.reduceLT, Int.reduceLE, Int.reduceNe, hh, netOb, hL, hC, G24_none, conNoneN, his', G24_pair, conPair, G24_lost, conLost, set_lt n0, set_lt n1, set_lt n2, c1', c2']))
    simp only [e, cutRes]
    (refine ⟨[], by simp, by simp, by simp, ?_, ?_, ?_⟩ <;> simp [frSub, lkG, ren, renL, renL_set, renL_ints, UpdOk.nil, UpdOk.cons, renOO_some, renO_cells, renO_map, renOO_mkOb, rn_base, rn_add, ren_mkSl, Enc.flat_ren, set_same, set_ne, sets_cons, sets_nil, Keep.set, Keep.setK, Keep.refl, rm_m_int_bool, rm_m_message_Rule, rm_m_pair_bool, rm_m_pair_int])
  | false =>
    have c2' : (mget s.C ⟨min a b, max a b⟩).getD default = false := c2
    have e : cutE s a b = 0 := by unfold cutE; rw [if_neg c1, if_neg (by rw [c2]; simp)]
    have hN : ∀ {o}, NetAt ((hp.set top o).set (n + 2) (some (.map (me_m_pair_bool (mput s.C ⟨min a b, max a b⟩ true s.cc)) (mclk s.C ⟨min a b, max a b⟩ s.cc)))) n lv (cutC s a b) := fun {o} => (hk (o := o)).setC _ _
    have hNs : ∀ {o}, netS ((hp.set top o).set (n + 2) (some (.map (me_m_pair_bool (mput s.C ⟨min a b, max a b⟩ true s.cc)) (mclk s.C ⟨min a b, max a b⟩ s.cc)))) n = cutC s a b := fun {o} => (hN (o := o)).s
    have hNv : ∀ {o}, netV ((hp.set top o).set (n + 2) (some (.map (me_m_pair_bool (mput s.C ⟨min a b, max a b⟩ true s.cc)) (mclk s.C ⟨min a b, max a b⟩ s.cc)))) n = lv := fun {o} => (hN (o := o)).v
    have hNi : ∀ {o}, IsNet ((hp.set top o).set (n + 2) (some (.map (me_m_pair_bool (mput s.C ⟨min a b, max a b⟩ true s.cc)) (mclk s.C ⟨min a b, max a b⟩ s.cc)))) n = True := fun {o} => (hN (o := o)).is
    refine CW.vc env24_r [0, 1, 2, 6, 7, 8, 12, 15, 23] (by kernel_rfl) ?_
    (repeat ((try refine Vc.mk' ?_); simp only [go_sem, reduceIte, reduceCtorEq, Nat.reduceAdd, Nat.reduceMul, Nat.reduceSub, Nat.reduceLT, Nat.reduceLeDiff, Nat.reduceEqDiff, Int.reduceEq, Int.reduceLT, Int.reduceLE, Int.reduceNe, hh, netOb, hL, hC, G24_none, conNoneN, his', G24_pair, conPair, G24_lost, conLost, set_lt n0, set_lt n1, set_lt n2, c1', c2', hNs, hNv, hNi, lostRes]))
    have m2 : ¬ top = n + 2 := by omega
    have m6 : ¬ top = n + 6 := by omega
    have m12 : ¬ top + 1 = n + 2 := by omega
    have m16 : ¬ top + 1 = n + 6 := by omega
    have r2 : ¬ n + 2 = top + 1 := by omega
    have r6 : ¬ n + 6 = top + 1 := by omega
    have d26 : ¬ n + 2 = n + 6 := by omega
    have d62 : ¬ n + 6 = n + 2 := by omega
    have n6 : n + 6 < top := by omega
    have w6 := h.W.h
    have lvs := h.W.low hcl
    have el : (cutC s a b).l = s.l := rfl
    have eL : (cutC s a b).last = s.last := rfl
    have eC : (cutC s a b).C = mput s.C ⟨min a b, max a b⟩ true s.cc := rfl
    have ec : (cutC s a b).cc = mclk s.C ⟨min a b, max a b⟩ s.cc := rfl
    rcases own_cases h.W.o with ⟨rfl, hnil⟩ | ⟨q, rfl, hq⟩
    · simp only [cutRes, e, if_true, lostRes, dfV, dfU, List.nil_append, el, eL, eC, ec]
      (refine ⟨[top + 1], by simp, by simp, by simp, ?_, ?_, ?_⟩ <;> simp [frSub, lkG, ren, renL, renL_set, renL_ints, UpdOk.nil, UpdOk.cons, renOO_some, renO_cells, renO_map, renOO_mkOb, rn_base, rn_add, ren_mkSl, Enc.flat_ren, set_same, set_ne, sets_cons, sets_nil, Keep.set, Keep.setK, Keep.refl, rm_m_int_bool, rm_m_message_Rule, rm_m_pair_bool, rm_m_pair_int, calOb, rn_low n2, rn_low n6, m2, m6, m12, m16, r2, r6, d26, d62, set_lt n2, set_lt n6])
    · have hqt : q < top := lvs
      have hqc : ¬ q = n + 6 := fun e => by rw [e, w6] at hq; exact absurd (cellZ hq) (by decide)
      have hcq : ¬ n + 6 = q := fun e => hqc e.symm
      have hq2 : ¬ q = n + 2 := fun e => by rw [e, hC] at hq; cases hq
      have h2q : ¬ n + 2 = q := fun e => hq2 e.symm
      have a1 : ¬ top + 1 = q := by omega
      have b1 : ¬ q = top + 1 := by omega
      simp only [cutRes, e, if_true, lostRes, dfV, dfU, List.cons_append, List.nil_append, el, eL, eC, ec]
      (refine ⟨[top + 1], by simp, by simp, by simp, ?_, ?_, ?_⟩ <;> simp [frSub, lkG, ren, renL, renL_set, renL_ints, UpdOk.nil, UpdOk.cons, renOO_some, renO_cells, renO_map, renOO_mkOb, rn_base, rn_add, ren_mkSl, Enc.flat_ren, set_same, set_ne, sets_cons, sets_nil, Keep.set, Keep.setK, Keep.refl, rm_m_int_bool, rm_m_message_Rule, rm_m_pair_bool, rm_m_pair_int, calOb, ownS, ownO, rn_low n2, rn_low n6, rn_low hqt, m2, m6, m12, m16, r2, r6, d26, d62, hqc, hcq, hq2, h2q, a1, b1, Enc.flat_ren, set_lt n2, set_lt n6, set_lt hqt])
end Go.Proofs.Ytmppehipfpkepaa.Dm
