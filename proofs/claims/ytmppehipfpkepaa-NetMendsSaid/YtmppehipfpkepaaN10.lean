/- The net: Contains of numbers, Mend, Start. -/
import Derived.Test.YtmppehipfpkepaaN8
set_option linter.unusedSimpArgs false
set_option linter.unusedVariables false
namespace Go.Proofs.Ytmppehipfpkepaa.Dm
open Go.Dm
set_option maxHeartbeats 16000000
set_option maxRecDepth 20000
def isE (x a : Int) : Bool := decide (x = a)
def ixI (l : List Int) (x : Int) : Int := if l.any (isE x) then (l.findIdx (isE x) : Int) else -1
def conIndex : Con := .pure (fun args hp => match args with | [v, n] => SlP e_int hp v ∧ IsI .i64 n | _ => False) (fun args hp => match args with | [v, n] => .int .i64 (ixI (e_int.rd hp v) (intOf n)) | _ => undef)
def stIx (hp : Hp) (top : Nat) (v : Value) (x : Int) (n i : Nat) : SS := ⟨[(0, v, true), (1, .int .i64 x, true), (7, .int .i64 (n : Int), true), (8, .int .i64 (i : Int), true)], hp.sets [], top + 0⟩
theorem index_ok : ConOk Try.prog 66 conIndex := by
  refine .mkRd fn66_ok ?_ ?_
  · intro args hp h
    match args, h with
    | [v, n], _ => rfl
  intro args hp hpre top hcl hsc
  match args, hpre with
  | [v, n], ⟨⟨l, h⟩, hx⟩ =>
  rw [hx]
  generalize intOf n = x
  have hs := h.low hcl
  simp only [h.rd, intOf_int]
  refine CalledOk.of_fun tt_ok fn66_ok rfl 19 rfl [.tmp 4] rfl (show 2 ≤ 19 by decide) ?_
  refine CW.vc env14_r [0, 1, 4, 5, 7, 8, 9, 16] (by kernel_rfl) ?_
  (repeat ((try refine Vc.mk' ?_); simp only [go_sem, reduceIte, reduceCtorEq, Nat.reduceAdd, Nat.reduceMul, Nat.reduceSub, Nat.reduceLT, Nat.reduceLeDiff, Nat.reduceEqDiff, Int.reduceEq, Int.reduceLT, Int.reduceLE, Int.reduceNe, len_sint h, idx_sint h, ld_sint h, sh_sint h, sw_sint h, h.P, h.oc, h.cl, h.rd, h.ref, strip_P hs, strip_rd hs, strip_ld hs, strip_sl h hs k_sint]))
  refine CW.loopR (stIx hp top v x l.length) (fun i => i ≤ l.length ∧ ∀ j, j < i → isE x (at' l j) = false) (fun i => l.length - i) 0 ⟨Nat.zero_le _, fun j hj => absurd hj (Nat.not_lt_zero _)⟩ ?_ ?_
  · exact (by refine SubR.mk' [] hcl (by simp) (by simp) rfl (frSub_ok ?_) ?_ ?_ <;> simp [frSub, lkG, ren, renL, renL_set, renL_ints, UpdOk.nil, UpdOk.cons, renOO_some, renO_cells, renO_map, renOO_mkOb, rn_base, rn_add, ren_mkSl, Enc.flat_ren, set_same, set_ne, sets_cons, sets_nil, Keep.set, Keep.setK, Keep.refl, rm_m_int_bool, rm_m_message_Rule, rm_m_pair_bool, rm_m_pair_int, Sc.ren (fun j hj => rn_low hj) hs])
  · rintro i ⟨hi, hm⟩
    by_cases hlt : i < l.length
    · by_cases hc : x = at' l i
      · have h1 : l.any (isE x) = true := List.any_eq_true.2 ⟨_, at_mem hlt, by simp [isE, ← hc]⟩
        have h2 : l.findIdx (isE x) = i := by
          rw [List.findIdx_eq hlt]
          refine ⟨by rw [← at'_get _ _ hlt]; simp [isE, ← hc], fun j hj => ?_⟩
          have := hm j hj
          rwa [at'_get _ _ (by omega)] at this
        have e : ixI l x = (i : Int) := by unfold ixI; rw [if_pos h1, h2]
        refine CW.vc env14_r [0, 1, 4, 5, 7, 8, 9, 16] (by kernel_rfl) ?_
        (repeat ((try refine Vc.mk' ?_); simp only [go_sem, reduceIte, reduceCtorEq, Nat.reduceAdd, Nat.reduceMul, Nat.reduceSub, Nat.reduceLT, Nat.reduceLeDiff, Nat.reduceEqDiff, Int.reduceEq, Int.reduceLT, Int.reduceLE, Int.reduceNe, len_sint h, idx_sint h, ld_sint h, sh_sint h, sw_sint h, h.P, h.oc, h.cl, h.rd, h.ref, strip_P hs, strip_rd hs, strip_ld hs, strip_sl h hs k_sint, stIx, hlt, ← hc, e]))
      · refine CW.vc env14_r [0, 1, 4, 5, 7, 8, 9, 16] (by kernel_rfl) ?_
        (repeat ((try refine Vc.mk' ?_); simp only [go_sem, reduceIte, reduceCtorEq, Nat.reduceAdd, Nat.reduceMul, Nat.reduceSub, Nat.reduceLT, Nat.reduceLeDiff, Nat.reduceEqDiff, Int.reduceEq, Int.reduceLT, Int.reduceLE, Int.reduceNe, len_sint h, idx_sint h, ld_sint h, sh_sint h, sw_sint h, h.P, h.oc, h.cl, h.rd, h.ref, strip_P hs, strip_rd hs, strip_ld hs, strip_sl h hs k_sint, stIx, hlt, hc]))
        refine .mk (i + 1) ⟨hlt, fun j hj => ?_⟩ (by omega) ((by refine SubR.mk' [] hcl (by simp) (by simp) rfl (frSub_ok ?_) ?_ ?_ <;> simp [frSub, lkG, ren, renL, renL_set, renL_ints, UpdOk.nil, UpdOk.cons, renOO_some, renO_cells, renO_map, renOO_mkOb, rn_base, rn_add, ren_mkSl, Enc.flat_ren, set_same, set_ne, sets_cons, sets_nil, Keep.set, Keep.setK, Keep.refl, rm_m_int_bool, rm_m_message_Rule, rm_m_pair_bool, rm_m_pair_int, Sc.ren (fun j hj => rn_low hj) hs, wrap_succ hlt h.le]))
        by_cases e : j < i
        · exact hm j e
        · have : j = i := by omega
          subst this; simp [isE, hc]
    · have hi2 : i = l.length := by omega
      subst hi2
      have e : ixI l x = -1 := by
        unfold ixI
        rw [if_neg]
        intro c
        obtain ⟨a, ha, hb⟩ := List.any_eq_true.1 c
        obtain ⟨j, hj, rfl⟩ := List.getElem_of_mem ha
        have := hm j hj
        rw [at'_get _ _ hj, hb] at this; cases this
      refine CW.vc env14_r [0, 1, 4, 5, 7, 8, 9, 16] (by kernel_rfl) ?_
      (repeat ((try refine Vc.mk' ?_); simp only [go_sem, reduceIte, reduceCtorEq, Nat.reduceAdd, Nat.reduceMul, Nat.reduceSub, Nat.reduceLT, Nat.reduceLeDiff, Nat.reduceEqDiff, Int.reduceEq, Int.reduceLT, Int.reduceLE, Int.reduceNe, len_sint h, idx_sint h, ld_sint h, sh_sint h, sw_sint h, h.P, h.oc, h.cl, h.rd, h.ref, strip_P hs, strip_rd hs, strip_ld hs, strip_sl h hs k_sint, stIx, Nat.lt_irrefl, decide_false, e]))
def conHas : Con := .pure (fun args hp => match args with | [v, n] => SlP e_int hp v ∧ IsI .i64 n | _ => False) (fun args hp => match args with | [v, n] => .bool ((e_int.rd hp v).any (isE (intOf n))) | _ => undef)
noncomputable def G16_r : FuncId → Con := addG G14_r 66 conIndex
theorem env16_r : EnvV Try.prog tt.get G16_r := env14_r.add index_ok
theorem G16_ix : G16_r 66 = conIndex := rfl
theorem has_ok : ConOk Try.prog 37 conHas := by
  refine .mkRd fn37_ok ?_ ?_
  · intro args hp h
    match args, h with
    | [v, n], _ => rfl
  intro args hp hpre top hcl hsc
  match args, hpre with
  | [v, n], ⟨⟨l, h⟩, hx⟩ =>
  rw [hx]
  generalize intOf n = x
  have hs := h.low hcl
  have hP : SlP e_int hp v = True := h.P
  have hR := h.rd
  simp only [h.rd, intOf_int]
  refine CalledOk.of_fun tt_ok fn37_ok rfl 9 rfl [.tmp 4] rfl (show 2 ≤ 9 by decide) ?_
  have e : (!decide (ixI l x < 0)) = l.any (isE x) := by
    unfold ixI
    cases c : l.any (isE x) with
    | true => simp
    | false => simp
  refine CW.vc env16_r [0, 1, 4] (by kernel_rfl) ?_
  (repeat ((try refine Vc.mk' ?_); simp only [go_sem, reduceIte, reduceCtorEq, Nat.reduceAdd, Nat.reduceMul, Nat.reduceSub, Nat.reduceLT, Nat.reduceLeDiff, Nat.reduceEqDiff, Int.reduceEq, Int.reduceLT, Int.reduceLE, Int.reduceNe, G16_ix, conIndex, hP, hR, e]))
noncomputable def G17_r : FuncId → Con := addG G16_r 37 conHas
theorem env17_r : EnvV Try.prog tt.get G17_r := env16_r.add has_ok
theorem G17_has : G17_r 37 = conHas := rfl
theorem G17_none : G17_r 29 = conNoneN := rfl
theorem G17_pair : G17_r 30 = conPair := rfl
/-! ### Mend -/
def isCut (s : NetS) (a b : Int) : Bool := (mget s.C (pk a b)).getD false
def isStop (s : NetS) (a : Int) : Bool := (mget s.S a).getD false
def mendE (s : NetS) (a b : Int) : Int := if costF s a b = 0 then 2 else if isCut s a b = false then 6 else 0
def mendU (n : Nat) (s : NetS) (a b : Int) : Upds := if mendE s a b = 0 then [(n + 2, some (.map (me_m_pair_bool (mdel s.C (pk a b))) s.cc))] else []
noncomputable def conMend : Con := .det (fun args hp _ => match args with | [.pointer (some ⟨n, 0, none⟩), a, b] => IsNet hp n ∧ IsI .i64 a ∧ IsI .i64 b | _ => False) (fun args hp top => match args with
  | [.pointer (some ⟨n, _, _⟩), a, b] => (.int .i64 (mendE (netS hp n) (intOf a) (intOf b)), mendU n (netS hp n) (intOf a) (intOf b), top) | _ => (undef, [], top))
theorem mend_ok : ConOk Try.prog 16 conMend := by
  refine .mkDet fn16_ok ?_
  intro args hp top hpre hcl hsc
  match args, hpre with
  | [.pointer (some ⟨n, 0, none⟩), a, b], ⟨⟨lv, s, h⟩, ha, hb⟩ =>
  rw [ha, hb]
  generalize intOf a = a, intOf b = b
  simp only [h.s, intOf_int]
  have hlow := h.low hcl
  have n0 : n < top := by omega
  have n1 : n + 1 < top := by omega
  have n2 : n + 2 < top := by omega
  have hh := h.h
  have hL := h.L
  have hC := h.C
  have his' : ∀ {o}, IsNet (hp.set top o) n = True := fun {o} => (h.keep hcl fun i hi => set_lt hi (Nat.le_refl _)).is
  refine CalledOk.of_fun tt_ok fn16_ok rfl 35 rfl [.tmp 6] rfl (show 3 ≤ 35 by decide) ?_
  by_cases c1 : costF s a b = 0
  · have c1' : (mget s.L ⟨min a b, max a b⟩).getD default = 0 := c1
    have e : mendE s a b = 2 := by unfold mendE; rw [if_pos c1]
    refine CW.vc env17_r [0, 1, 2, 6, 7, 11, 14, 22] (by kernel_rfl) ?_
    (repeat ((try refine Vc.mk' ?_); simp only [go_sem, reduceIte, reduceCtorEq, Nat.reduceAdd, Nat.reduceMul, Nat.reduceSub, Nat.reduceLT, Nat.reduceLeDiff, Nat.reduceEqDiff, Int.reduceEq, Int.reduceLT, Int.reduceLE, Int.reduceNe, hh, netOb, hL, hC, G17_none, conNoneN, his', G17_pair, conPair, set_lt n0, set_lt n1, set_lt n2, c1']))
    simp only [e, mendU]
    (refine ⟨[], by simp, by simp, by simp, ?_, ?_, ?_⟩ <;> simp [frSub, lkG, ren, renL, renL_set, renL_ints, UpdOk.nil, UpdOk.cons, renOO_some, renO_cells, renO_map, renOO_mkOb, rn_base, rn_add, ren_mkSl, Enc.flat_ren, set_same, set_ne, sets_cons, sets_nil, Keep.set, Keep.setK, Keep.refl, rm_m_int_bool, rm_m_message_Rule, rm_m_pair_bool, rm_m_pair_int])
  have c1' : ¬ (mget s.L ⟨min a b, max a b⟩).getD default = 0 := c1
  cases c2 : isCut s a b with
  | false =>
    have c2' : (mget s.C ⟨min a b, max a b⟩).getD default = false := c2
    have e : mendE s a b = 6 := by unfold mendE; rw [if_neg c1, if_pos c2]
    refine CW.vc env17_r [0, 1, 2, 6, 7, 11, 14, 22] (by kernel_rfl) ?_
    (repeat ((try refine Vc.mk' ?_); simp only [go_sem, reduceIte, reduceCtorEq, Nat.reduceAdd, Nat.reduceMul, Nat.reduceSub, Nat.reduceLT, Nat.reduceLeDiff, Nat.reduceEqDiff, Int.reduceEq, Int.reduceLT, Int.reduceLE, Int.reduceNe, hh, netOb, hL, hC, G17_none, conNoneN, his', G17_pair, conPair, set_lt n0, set_lt n1, set_lt n2, c1', c2']))
    simp only [e, mendU]
    (refine ⟨[], by simp, by simp, by simp, ?_, ?_, ?_⟩ <;> simp [frSub, lkG, ren, renL, renL_set, renL_ints, UpdOk.nil, UpdOk.cons, renOO_some, renO_cells, renO_map, renOO_mkOb, rn_base, rn_add, ren_mkSl, Enc.flat_ren, set_same, set_ne, sets_cons, sets_nil, Keep.set, Keep.setK, Keep.refl, rm_m_int_bool, rm_m_message_Rule, rm_m_pair_bool, rm_m_pair_int])
  | true =>
    have c2' : (mget s.C ⟨min a b, max a b⟩).getD default = true := c2
    have e : mendE s a b = 0 := by unfold mendE; rw [if_neg c1, if_neg (by rw [c2]; simp)]
    have m2 : ¬ top = n + 2 := by omega
    refine CW.vc env17_r [0, 1, 2, 6, 7, 11, 14, 22] (by kernel_rfl) ?_
    (repeat ((try refine Vc.mk' ?_); simp only [go_sem, reduceIte, reduceCtorEq, Nat.reduceAdd, Nat.reduceMul, Nat.reduceSub, Nat.reduceLT, Nat.reduceLeDiff, Nat.reduceEqDiff, Int.reduceEq, Int.reduceLT, Int.reduceLE, Int.reduceNe, hh, netOb, hL, hC, G17_none, conNoneN, his', G17_pair, conPair, set_lt n0, set_lt n1, set_lt n2, c1', c2']))
    simp only [e, mendU, if_true]
    (refine ⟨[], by simp, by simp, by simp, ?_, ?_, ?_⟩ <;> simp [frSub, lkG, ren, renL, renL_set, renL_ints, UpdOk.nil, UpdOk.cons, renOO_some, renO_cells, renO_map, renOO_mkOb, rn_base, rn_add, ren_mkSl, Enc.flat_ren, set_same, set_ne, sets_cons, sets_nil, Keep.set, Keep.setK, Keep.refl, rm_m_int_bool, rm_m_message_Rule, rm_m_pair_bool, rm_m_pair_int, rn_low n2, m2, pk])
end Go.Proofs.Ytmppehipfpkepaa.Dm
/- The net: Start; what Mend and Start leave is a net. -/
set_option linter.unusedSimpArgs false
set_option linter.unusedVariables false
namespace Go.Proofs.Ytmppehipfpkepaa.Dm
open Go.Dm
set_option maxHeartbeats 16000000
set_option maxRecDepth 20000
def isR (s : NetS) (a : Int) : Bool := s.R.any (isE a)
def startE (s : NetS) (a : Int) : Int := if isR s a = false then 2 else if isStop s a = false then 6 else 0
def startU (n : Nat) (s : NetS) (a : Int) : Upds := if startE s a = 0 then [(n + 3, some (.map (me_m_int_bool (mdel s.S a)) s.sc))] else []
noncomputable def conStart : Con := .det (fun args hp _ => match args with | [.pointer (some ⟨n, 0, none⟩), a] => IsNet hp n ∧ IsI .i64 a | _ => False) (fun args hp top => match args with
  | [.pointer (some ⟨n, _, _⟩), a] => (.int .i64 (startE (netS hp n) (intOf a)), startU n (netS hp n) (intOf a), top) | _ => (undef, [], top))
theorem NetAt.sR {hp : Hp} {n : Nat} {lv : Value} {s : NetS} (h : NetAt hp n lv s) : SlT e_int hp (mkSl (n + 7) s.R) s.R := by
  by_cases c : s.R = []
  · rw [c]; exact .nils
  · exact .own (h.R c) (by have := h.rn; omega)
theorem start_ok : ConOk Try.prog 18 conStart := by
  refine .mkDet fn18_ok ?_
  intro args hp top hpre hcl hsc
  match args, hpre with
  | [.pointer (some ⟨n, 0, none⟩), a], ⟨⟨lv, s, h⟩, ha⟩ =>
  rw [ha]
  generalize intOf a = a
  simp only [h.s, intOf_int]
  have hlow := h.low hcl
  have n0 : n < top := by omega
  have n3 : n + 3 < top := by omega
  have hh := h.h
  have hS := h.S
  have his := h.is
  have rP : SlP e_int hp (mkSl (n + 7) s.R) = True := h.sR.P
  have rR : e_int.rd hp (mkSl (n + 7) s.R) = s.R := h.sR.rd
  refine CalledOk.of_fun tt_ok fn18_ok rfl 29 rfl [.tmp 4] rfl (show 2 ≤ 29 by decide) ?_
  cases c1 : isR s a with
  | false =>
    have c1' : s.R.any (isE a) = false := c1
    have e : startE s a = 2 := by unfold startE; rw [if_pos c1]
    refine CW.vc env17_r [0, 1, 4, 5, 8, 16] (by kernel_rfl) ?_
    (repeat ((try refine Vc.mk' ?_); simp only [go_sem, reduceIte, reduceCtorEq, Nat.reduceAdd, Nat.reduceMul, Nat.reduceSub, Nat.reduceLT, Nat.reduceLeDiff, Nat.reduceEqDiff, Int.reduceEq, Int.reduceLT, Int.reduceLE, Int.reduceNe, hh, netOb, hS, G17_none, conNoneN, his, G17_has, conHas, rP, rR, set_lt n0, set_lt n3, c1']))
    simp only [e, startU]
    (refine ⟨[], by simp, by simp, by simp, ?_, ?_, ?_⟩ <;> simp [frSub, lkG, ren, renL, renL_set, renL_ints, UpdOk.nil, UpdOk.cons, renOO_some, renO_cells, renO_map, renOO_mkOb, rn_base, rn_add, ren_mkSl, Enc.flat_ren, set_same, set_ne, sets_cons, sets_nil, Keep.set, Keep.setK, Keep.refl, rm_m_int_bool, rm_m_message_Rule, rm_m_pair_bool, rm_m_pair_int])
  | true =>
  have c1' : s.R.any (isE a) = true := c1
  cases c2 : isStop s a with
  | false =>
    have c2' : (mget s.S a).getD default = false := c2
    have e : startE s a = 6 := by unfold startE; rw [if_neg (by rw [c1]; simp), if_pos c2]
    refine CW.vc env17_r [0, 1, 4, 5, 8, 16] (by kernel_rfl) ?_
    (repeat ((try refine Vc.mk' ?_); simp only [go_sem, reduceIte, reduceCtorEq, Nat.reduceAdd, Nat.reduceMul, Nat.reduceSub, Nat.reduceLT, Nat.reduceLeDiff, Nat.reduceEqDiff, Int.reduceEq, Int.reduceLT, Int.reduceLE, Int.reduceNe, hh, netOb, hS, G17_none, conNoneN, his, G17_has, conHas, rP, rR, set_lt n0, set_lt n3, c1', c2']))
    simp only [e, startU]
    (refine ⟨[], by simp, by simp, by simp, ?_, ?_, ?_⟩ <;> simp [frSub, lkG, ren, renL, renL_set, renL_ints, UpdOk.nil, UpdOk.cons, renOO_some, renO_cells, renO_map, renOO_mkOb, rn_base, rn_add, ren_mkSl, Enc.flat_ren, set_same, set_ne, sets_cons, sets_nil, Keep.set, Keep.setK, Keep.refl, rm_m_int_bool, rm_m_message_Rule, rm_m_pair_bool, rm_m_pair_int])
  | true =>
    have c2' : (mget s.S a).getD default = true := c2
    have e : startE s a = 0 := by unfold startE; rw [if_neg (by rw [c1]; simp), if_neg (by rw [c2]; simp)]
    have m3 : ¬ top = n + 3 := by omega
    refine CW.vc env17_r [0, 1, 4, 5, 8, 16] (by kernel_rfl) ?_
    (repeat ((try refine Vc.mk' ?_); simp only [go_sem, reduceIte, reduceCtorEq, Nat.reduceAdd, Nat.reduceMul, Nat.reduceSub, Nat.reduceLT, Nat.reduceLeDiff, Nat.reduceEqDiff, Int.reduceEq, Int.reduceLT, Int.reduceLE, Int.reduceNe, hh, netOb, hS, G17_none, conNoneN, his, G17_has, conHas, rP, rR, set_lt n0, set_lt n3, c1', c2']))
    simp only [e, startU, if_true]
    (refine ⟨[], by simp, by simp, by simp, ?_, ?_, ?_⟩ <;> simp [frSub, lkG, ren, renL, renL_set, renL_ints, UpdOk.nil, UpdOk.cons, renOO_some, renO_cells, renO_map, renOO_mkOb, rn_base, rn_add, ren_mkSl, Enc.flat_ren, set_same, set_ne, sets_cons, sets_nil, Keep.set, Keep.setK, Keep.refl, rm_m_int_bool, rm_m_message_Rule, rm_m_pair_bool, rm_m_pair_int, rn_low n3, m3])
/-! ### what they leave -/
def mendS (s : NetS) (a b : Int) : NetS := if mendE s a b = 0 then { s with C := mdel s.C (pk a b) } else s
def startS (s : NetS) (a : Int) : NetS := if startE s a = 0 then { s with S := mdel s.S a } else s
theorem NetAt.apart {hp : Hp} {n : Nat} {lv : Value} {s : NetS} (h : NetAt hp n lv s) : Apart n lv ∧ Apart (n + 1) lv ∧ Apart (n + 2) lv ∧ Apart (n + 3) lv ∧ Apart (n + 4) lv ∧ Apart (n + 5) lv ∧ Apart (n + 6) lv ∧ (s.R ≠ [] → Apart (n + 7) lv) := by
  refine ⟨h.W.off (j := n) fun vs e => ?_, h.W.off (j := n + 1) fun vs e => ?_, h.W.off (j := n + 2) fun vs e => ?_, h.W.off (j := n + 3) fun vs e => ?_, h.W.off (j := n + 4) fun vs e => ?_, h.W.off (j := n + 5) fun vs e => ?_, h.W.ap, fun hr => h.W.off (j := n + 7) fun vs e => ?_⟩
  · rw [h.h] at e; exact absurd (cellZ e) (by decide)
  · rw [h.L] at e; cases e
  · rw [h.C] at e; cases e
  · rw [h.S] at e; cases e
  · rw [h.P] at e; exact absurd (cellZ e) (by decide)
  · rw [h.M] at e; cases e
  · rw [h.R hr] at e
    cases hl : s.R with
    | nil => exact hr hl
    | cons x l => rw [hl] at e; exact absurd (cellZ e) (by decide)
theorem NetAt.setC {hp : Hp} {n : Nat} {lv : Value} {s : NetS} (h : NetAt hp n lv s) (m : M_m_pair_bool) (c : Nat) : NetAt (hp.set (n + 2) (some (.map (me_m_pair_bool m) c))) n lv { s with C := m, cc := c } := by
  have hA := h.apart.2.2.1
  refine ⟨(set_ne _ _ _ _ (by omega)).trans h.h, (set_ne _ _ _ _ (by omega)).trans h.L, set_same .., (set_ne _ _ _ _ (by omega)).trans h.S, (set_ne _ _ _ _ (by omega)).trans h.P, (set_ne _ _ _ _ (by omega)).trans h.M, h.pl, ⟨(set_ne _ _ _ _ (by omega)).trans h.W.h, h.W.o.mono fun b k x e => set_ne _ _ _ _ (by subst e; exact fun e => hA e.symm), h.W.up, h.W.tk, h.W.l0, h.W.l1, h.W.n⟩, fun hr => (set_ne _ _ _ _ (by omega)).trans (h.R hr), h.rn, h.lt0, h.lt1, h.nw0, h.nw1⟩
theorem NetAt.setS {hp : Hp} {n : Nat} {lv : Value} {s : NetS} (h : NetAt hp n lv s) (m : M_m_int_bool) (c : Nat) : NetAt (hp.set (n + 3) (some (.map (me_m_int_bool m) c))) n lv { s with S := m, sc := c } := by
  have hA := h.apart.2.2.2.1
  refine ⟨(set_ne _ _ _ _ (by omega)).trans h.h, (set_ne _ _ _ _ (by omega)).trans h.L, (set_ne _ _ _ _ (by omega)).trans h.C, set_same .., (set_ne _ _ _ _ (by omega)).trans h.P, (set_ne _ _ _ _ (by omega)).trans h.M, h.pl, ⟨(set_ne _ _ _ _ (by omega)).trans h.W.h, h.W.o.mono fun b k x e => set_ne _ _ _ _ (by subst e; exact fun e => hA e.symm), h.W.up, h.W.tk, h.W.l0, h.W.l1, h.W.n⟩, fun hr => (set_ne _ _ _ _ (by omega)).trans (h.R hr), h.rn, h.lt0, h.lt1, h.nw0, h.nw1⟩
theorem NetAt.mend {hp : Hp} {n : Nat} {lv : Value} {s : NetS} (h : NetAt hp n lv s) (a b : Int) : NetAt (hp.sets (mendU n s a b)) n lv (mendS s a b) := by
  unfold mendU mendS
  split
  · exact h.setC _ _
  · exact h
theorem NetAt.start {hp : Hp} {n : Nat} {lv : Value} {s : NetS} (h : NetAt hp n lv s) (a : Int) : NetAt (hp.sets (startU n s a)) n lv (startS s a) := by
  unfold startU startS
  split
  · exact h.setS _ _
  · exact h
end Go.Proofs.Ytmppehipfpkepaa.Dm
