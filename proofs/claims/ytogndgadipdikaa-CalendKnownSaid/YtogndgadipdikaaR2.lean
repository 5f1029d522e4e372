/- The document's calendar: Put, Drop, Sift. -/
import Derived.Test.YtogndgadipdikaaR1
set_option linter.unusedSimpArgs false
set_option linter.unusedVariables false
namespace Go.Proofs.Ytogndgadipdikaa.Dm
open Go.Dm
set_option maxHeartbeats 8000000
set_option maxRecDepth 20000

/-! ### Put -/
def upR (l : List T_Thing) : Prop := l.Pairwise fun a b => a.At ≤ b.At
theorem upR_at {l : List T_Thing} (h : upR l) {i j : Nat} (hij : i ≤ j) (hj : j < l.length) : (at' l i).At ≤ (at' l j).At := by
  by_cases e : i = j
  · subst e; exact Int.le_refl _
  · have := List.pairwise_iff_getElem.1 h i j (by omega) hj (by omega)
    rw [at'_get _ _ (by omega), at'_get _ _ hj]
    exact this
def putR (l : List T_Thing) (t : T_Thing) : List T_Thing := l.take (kFR l t.At) ++ [t] ++ l.drop (kFR l t.At)
theorem putR_len (l : List T_Thing) (t : T_Thing) : (putR l t).length = l.length + 1 := by
  have := kFR_le l t.At
  unfold putR
  simp only [List.length_append, List.length_take, List.length_drop, List.length_cons, List.length_nil]
  omega
def thingR (a : Value) (k : Int) (v : Value) : T_Thing := ⟨intOf a, k, strOf v⟩
def RPutPre (hp : Hp) (mb : Nat) (a v : Value) : Prop := ∃ last mv l, RefAt hp mb last mv l ∧ upR l ∧ last < 1000000 ∧ l.length < 1000000 ∧ IsI .u64 a ∧ IsS v
def rputRes (mb : Nat) (last : Int) (l : List T_Thing) (t : T_Thing) (top : Nat) : Value × Upds × Nat :=
  (.int .i64 (last + 1), [(mb, some (.cells true 0 [mkSl top (putR l t), .int .i64 (last + 1)])), (top, mkOb e_Thing (putR l t))], top + 1)
def conRPut : Con := .det (fun args hp _ => match args with | [.pointer (some ⟨mb, 0, none⟩), a, v] => RPutPre hp mb a v | _ => False) (fun args hp top => match args with
  | [.pointer (some ⟨mb, _, _⟩), a, v] => rputRes mb (refLast hp mb) (e_Thing.rd hp (refL hp mb)) (thingR a (refLast hp mb + 1) v) top | _ => (undef, [], top))
def stRP (hp : Hp) (top mb : Nat) (last now : Int) (s : List UInt8) (mv : Value) (k : Nat) : SS :=
  ⟨[(0, .pointer (some ⟨mb, 0, none⟩), true), (1, .int .u64 now, true), (2, .string ⟨⟨s⟩⟩, true), (7, .int .i64 (k : Int), true)], hp.sets [(mb, some (.cells true 0 [mv, .int .i64 (last + 1)]))], top + 0⟩

theorem rput_ok : ConOk Try.prog 51 conRPut := by
  refine .mkDet fn51_ok ?_
  intro args hp top hpre hcl hsc
  match args, hpre with
  | [.pointer (some ⟨mb, 0, none⟩), av, sv], ⟨last, mv, l, R, hup, hl1, hl2, ha, hv⟩ =>
  rw [ha, hv]
  generalize intOf av = now
  generalize strOf sv = s
  have hh := R.h
  have hmt : mb < top := hcl.lt _ _ hh
  have hmn : ¬ top = mb := by omega
  have hnm : ¬ mb = top := by omega
  have hmn3 : ¬ top + 3 = mb := by omega
  have lvs := R.low hcl
  have hl0 := R.l0
  have hS := R.o
  simp only [refL, refLast, hh, cellsOf_some, List.getElem?_cons_succ, List.getElem?_cons_zero, Option.getD_some, intOf_int, hS.rd]
  have hR : ∀ {h' : Hp}, Keep top [mb] h' hp → SlT e_Thing h' mv l := fun hk => R.mono hcl hk
  have hw1 : wrapA .i64 (last + 1) = last + 1 := wrap64 (by omega) (by omega)
  refine CalledOk.of_fun tt_ok fn51_ok rfl 71 rfl [.tmp 6] rfl (show 3 ≤ 71 by decide) ?_
  refine CW.vc env6_s [0, 1, 2, 6, 7, 8, 35] (by kernel_rfl) ?_
  (simp only [go_sem, reduceIte, reduceCtorEq, Nat.reduceAdd, Nat.reduceMul, Nat.reduceSub, Nat.reduceLT, Nat.reduceLeDiff, Nat.reduceEqDiff, Int.reduceEq, Int.reduceLT, Int.reduceLE, Int.reduceNe, len_sThing hS, idx_sThing hS, Keep.setK, List.mem_singleton, hmn, hnm, set_lt hmt, hh, hS.cl, hS.oc, hw1]; repeat (refine Vc.mk' ?_; simp only [go_sem, reduceIte, reduceCtorEq, Nat.reduceAdd, Nat.reduceMul, Nat.reduceSub, Nat.reduceLT, Nat.reduceLeDiff, Nat.reduceEqDiff, Int.reduceEq, Int.reduceLT, Int.reduceLE, Int.reduceNe, len_sThing hS, idx_sThing hS, Keep.setK, List.mem_singleton, hmn, hnm, set_lt hmt, hh, hS.cl, hS.oc, hw1]))
  refine CW.loopR (stRP hp top mb last now s mv) (fun k => k ≤ l.length ∧ ∀ j, k ≤ j → j < l.length → now < (at' l j).At) (fun k => k) l.length ⟨Nat.le_refl _, fun j h1 h2 => by omega⟩ ?_ ?_
  · exact SubR.mk' [] hcl (by simp) (by simp) rfl (frSub_ok (by simp [frSub, lkG, ren, renL, renL_set, renL_ints, UpdOk.nil, UpdOk.cons, renOO_some, renO_cells, renO_map, renOO_mkOb, rn_base, rn_add, ren_mkSl, Enc.flat_ren, set_same, set_ne, sets_cons, sets_nil, Keep.set, Keep.setK, Keep.refl, Sc.ren (fun j hj => rn_low hj) lvs, rn_low hmt, hmn, hnm])) (by simp [frSub, lkG, ren, renL, renL_set, renL_ints, UpdOk.nil, UpdOk.cons, renOO_some, renO_cells, renO_map, renOO_mkOb, rn_base, rn_add, ren_mkSl, Enc.flat_ren, set_same, set_ne, sets_cons, sets_nil, Keep.set, Keep.setK, Keep.refl, Sc.ren (fun j hj => rn_low hj) lvs, rn_low hmt, hmn, hnm]) (by simp [frSub, lkG, ren, renL, renL_set, renL_ints, UpdOk.nil, UpdOk.cons, renOO_some, renO_cells, renO_map, renOO_mkOb, rn_base, rn_add, ren_mkSl, Enc.flat_ren, set_same, set_ne, sets_cons, sets_nil, Keep.set, Keep.setK, Keep.refl, Sc.ren (fun j hj => rn_low hj) lvs, rn_low hmt, hmn, hnm])
  · rintro k ⟨hk, hhi⟩
    have hkF : (0 < k → (at' l (k - 1)).At ≤ now) → kFR l now = k := fun h => by
      refine tw_len hk (fun j hj => ?_) fun hl => ?_
      · have h1 := h (by omega)
        have h2 := upR_at hup (show j ≤ k - 1 by omega) (by omega)
        exact decide_eq_true (by omega)
      · have := hhi k (Nat.le_refl _) hl
        exact decide_eq_false (by omega)
    by_cases hgo : 0 < k ∧ now < (at' l (k - 1)).At
    · obtain ⟨h0, h1⟩ := hgo
      have hk0 : (0 : Int) < (k : Int) := by omega
      have hk1 : k - 1 < l.length := by omega
      have hwk : wrapA .i64 ((k : Int) - 1) = ((k - 1 : Nat) : Int) := by rw [wrap64 (by omega) (by omega)]; omega
      have c0 : ∀ {h' : Hp}, Keep top [mb] h' hp → sload tt.get h' 29 (ptrS mv ((k - 1) * 3)) = (.int .u64 (at' l (k - 1)).At, True) := fun h => sc_sThing_0 (hR h) hk1
      have f0 := sf_sThing_0 hS hk1
      refine CW.vc env6_s [0, 1, 2, 6, 7, 8, 35] (by kernel_rfl) ?_
      (simp only [go_sem, reduceIte, reduceCtorEq, Nat.reduceAdd, Nat.reduceMul, Nat.reduceSub, Nat.reduceLT, Nat.reduceLeDiff, Nat.reduceEqDiff, Int.reduceEq, Int.reduceLT, Int.reduceLE, Int.reduceNe, len_sThing hS, idx_sThing hS, Keep.setK, List.mem_singleton, hmn, hnm, set_lt hmt, hh, hS.cl, hS.oc, hw1, stRP, hk0, hk1, hwk, c0, f0, h1]; repeat (refine Vc.mk' ?_; simp only [go_sem, reduceIte, reduceCtorEq, Nat.reduceAdd, Nat.reduceMul, Nat.reduceSub, Nat.reduceLT, Nat.reduceLeDiff, Nat.reduceEqDiff, Int.reduceEq, Int.reduceLT, Int.reduceLE, Int.reduceNe, len_sThing hS, idx_sThing hS, Keep.setK, List.mem_singleton, hmn, hnm, set_lt hmt, hh, hS.cl, hS.oc, hw1, stRP, hk0, hk1, hwk, c0, f0, h1]))
      exact .mk (k - 1) ⟨show k - 1 ≤ l.length by omega, fun j h2 h3 => by
        by_cases e : j = k - 1
        · subst e; exact h1
        · exact hhi j (by omega) h3⟩ (show k - 1 < k by omega) (SubR.mk' [] hcl (by simp) (by simp) rfl (frSub_ok (by simp [frSub, lkG, ren, renL, renL_set, renL_ints, UpdOk.nil, UpdOk.cons, renOO_some, renO_cells, renO_map, renOO_mkOb, rn_base, rn_add, ren_mkSl, Enc.flat_ren, set_same, set_ne, sets_cons, sets_nil, Keep.set, Keep.setK, Keep.refl, Sc.ren (fun j hj => rn_low hj) lvs, rn_low hmt, hmn, hnm])) (by simp [frSub, lkG, ren, renL, renL_set, renL_ints, UpdOk.nil, UpdOk.cons, renOO_some, renO_cells, renO_map, renOO_mkOb, rn_base, rn_add, ren_mkSl, Enc.flat_ren, set_same, set_ne, sets_cons, sets_nil, Keep.set, Keep.setK, Keep.refl, Sc.ren (fun j hj => rn_low hj) lvs, rn_low hmt, hmn, hnm]) (by simp [frSub, lkG, ren, renL, renL_set, renL_ints, UpdOk.nil, UpdOk.cons, renOO_some, renO_cells, renO_map, renOO_mkOb, rn_base, rn_add, ren_mkSl, Enc.flat_ren, set_same, set_ne, sets_cons, sets_nil, Keep.set, Keep.setK, Keep.refl, Sc.ren (fun j hj => rn_low hj) lvs, rn_low hmt, hmn, hnm]))
    · have hkk := hkF fun h => by omega
      obtain ⟨P, hP⟩ : ∃ P, P = l.take k ++ [⟨now, last + 1, s⟩] := ⟨_, rfl⟩
      obtain ⟨M, hM⟩ : ∃ M, M = putR l ⟨now, last + 1, s⟩ := ⟨_, rfl⟩
      have hMP : P ++ l.drop k = M := by rw [hM, hP]; unfold putR; rw [hkk]
      have htl : (l.take k).length = k := by rw [List.length_take]; omega
      have h16 : (l.take k).length < 16777216 := by omega
      have h17 : (l.take k).length ≤ 16777216 := by omega
      have hPl : P.length + (l.drop k).length ≤ 16777216 := by rw [hP, List.length_append, htl, List.length_drop, List.length_cons, List.length_nil]; omega
      have hhi : ∀ {h' : Hp}, Keep top [mb] h' hp → sslice tt.get h' 49 mv none (some (.int .i64 (k : Int))) = (subS 3 mv 0 k, True) := fun h => sh_sThing (hR h) (by omega) (by omega)
      have hlo : ∀ {h' : Hp}, Keep top [mb] h' hp → sslice tt.get h' 49 mv (some (.int .i64 (k : Int))) none = (subL 3 mv k, True) := fun h => sw_sThing (hR h) (by omega) (by omega)
      have hA1 : ∀ {h' : Hp} {t : Nat}, Keep top [mb] h' hp → appendA tt.get h' t [49, 49] (.slice none 0 0) (subS 3 mv 0 k) = some (mkSl t (l.take k), [(t, mkOb e_Thing (l.take k))], t + 1) := fun {h' t} h => by
        have hT := (hR h).take hk
        have := apn_sThing (top := t) (hp := h') ⟨_, hT⟩ (by rw [hT.rd]; exact h17)
        rw [hT.rd] at this
        exact this
      have hA3 : ∀ {h' : Hp} {b t : Nat}, h' b = mkOb e_Thing P → Keep top [mb] h' hp → appendA tt.get h' t [49, 49] (mkSl b P) (subL 3 mv k) = some (mkSl t M, appU b P t (mkOb e_Thing M), t + 1) := fun {h' b t} h0 h => by
        have hT := (hR h).drop hk
        have := ap_sThing (top := t) h0 ⟨_, hT⟩ (by rw [hT.rd]; exact hPl)
        rw [hT.rd, hMP] at this
        exact this
      have hMc : ∀ {b : Nat}, cellsL (mkSl b M) = [mkSl b M] := fun {b} => by cases M <;> rfl
      have hMo : ∀ {b : Nat}, (mkSl b M).oneCell' = true := fun {b} => by cases M <;> rfl
      have hor : (0 < k ∧ ¬ now < (at' l (k - 1)).At) ∨ k = 0 := by omega
      have hTh : thingR (.int .u64 now) (last + 1) (.string ⟨⟨s⟩⟩) = ⟨now, last + 1, s⟩ := rfl
      rw [hTh]
      simp only [rputRes]
      rw [← hM]
      rcases hor with ⟨h0, h1⟩ | h0
      · have hk0 : (0 : Int) < (k : Int) := by omega
        have hk1 : k - 1 < l.length := by omega
        have hwk : wrapA .i64 ((k : Int) - 1) = ((k - 1 : Nat) : Int) := by rw [wrap64 (by omega) (by omega)]; omega
        have c0 : ∀ {h' : Hp}, Keep top [mb] h' hp → sload tt.get h' 29 (ptrS mv ((k - 1) * 3)) = (.int .u64 (at' l (k - 1)).At, True) := fun h => sc_sThing_0 (hR h) hk1
        have f0 := sf_sThing_0 hS hk1
        refine CW.vc env6_s [0, 1, 2, 6, 7, 8, 35] (by kernel_rfl) ?_
        (simp only [go_sem, reduceIte, reduceCtorEq, Nat.reduceAdd, Nat.reduceMul, Nat.reduceSub, Nat.reduceLT, Nat.reduceLeDiff, Nat.reduceEqDiff, Int.reduceEq, Int.reduceLT, Int.reduceLE, Int.reduceNe, len_sThing hS, idx_sThing hS, Keep.setK, List.mem_singleton, hmn, hnm, set_lt hmt, hh, hS.cl, hS.oc, hw1, stRP, hk0, hk1, hwk, c0, f0, h1, hhi, hlo, hA1, hA3, h16, hMc, hMo, ← hP]; repeat (refine Vc.mk' ?_; simp only [go_sem, reduceIte, reduceCtorEq, Nat.reduceAdd, Nat.reduceMul, Nat.reduceSub, Nat.reduceLT, Nat.reduceLeDiff, Nat.reduceEqDiff, Int.reduceEq, Int.reduceLT, Int.reduceLE, Int.reduceNe, len_sThing hS, idx_sThing hS, Keep.setK, List.mem_singleton, hmn, hnm, set_lt hmt, hh, hS.cl, hS.oc, hw1, stRP, hk0, hk1, hwk, c0, f0, h1, hhi, hlo, hA1, hA3, h16, hMc, hMo, ← hP]))
        exact ⟨[top + 3], by simp, by simp, by simp, by simp [frSub, lkG, ren, renL, renL_set, renL_ints, UpdOk.nil, UpdOk.cons, renOO_some, renO_cells, renO_map, renOO_mkOb, rn_base, rn_add, ren_mkSl, Enc.flat_ren, set_same, set_ne, sets_cons, sets_nil, Keep.set, Keep.setK, Keep.refl, rn_low hmt, hmn, hnm, hmn3, set_lt hmt], by simp [frSub, lkG, ren, renL, renL_set, renL_ints, UpdOk.nil, UpdOk.cons, renOO_some, renO_cells, renO_map, renOO_mkOb, rn_base, rn_add, ren_mkSl, Enc.flat_ren, set_same, set_ne, sets_cons, sets_nil, Keep.set, Keep.setK, Keep.refl, rn_low hmt, hmn, hnm, hmn3, set_lt hmt], by simp [frSub, lkG, ren, renL, renL_set, renL_ints, UpdOk.nil, UpdOk.cons, renOO_some, renO_cells, renO_map, renOO_mkOb, rn_base, rn_add, ren_mkSl, Enc.flat_ren, set_same, set_ne, sets_cons, sets_nil, Keep.set, Keep.setK, Keep.refl, rn_low hmt, hmn, hnm, hmn3, set_lt hmt]⟩
      · have hk0 : ¬ (0 : Int) < (k : Int) := by omega
        refine CW.vc env6_s [0, 1, 2, 6, 7, 8, 35] (by kernel_rfl) ?_
        (simp only [go_sem, reduceIte, reduceCtorEq, Nat.reduceAdd, Nat.reduceMul, Nat.reduceSub, Nat.reduceLT, Nat.reduceLeDiff, Nat.reduceEqDiff, Int.reduceEq, Int.reduceLT, Int.reduceLE, Int.reduceNe, len_sThing hS, idx_sThing hS, Keep.setK, List.mem_singleton, hmn, hnm, set_lt hmt, hh, hS.cl, hS.oc, hw1, stRP, hk0, hhi, hlo, hA1, hA3, h16, hMc, hMo, ← hP]; repeat (refine Vc.mk' ?_; simp only [go_sem, reduceIte, reduceCtorEq, Nat.reduceAdd, Nat.reduceMul, Nat.reduceSub, Nat.reduceLT, Nat.reduceLeDiff, Nat.reduceEqDiff, Int.reduceEq, Int.reduceLT, Int.reduceLE, Int.reduceNe, len_sThing hS, idx_sThing hS, Keep.setK, List.mem_singleton, hmn, hnm, set_lt hmt, hh, hS.cl, hS.oc, hw1, stRP, hk0, hhi, hlo, hA1, hA3, h16, hMc, hMo, ← hP]))
        exact ⟨[top + 3], by simp, by simp, by simp, by simp [frSub, lkG, ren, renL, renL_set, renL_ints, UpdOk.nil, UpdOk.cons, renOO_some, renO_cells, renO_map, renOO_mkOb, rn_base, rn_add, ren_mkSl, Enc.flat_ren, set_same, set_ne, sets_cons, sets_nil, Keep.set, Keep.setK, Keep.refl, rn_low hmt, hmn, hnm, hmn3, set_lt hmt], by simp [frSub, lkG, ren, renL, renL_set, renL_ints, UpdOk.nil, UpdOk.cons, renOO_some, renO_cells, renO_map, renOO_mkOb, rn_base, rn_add, ren_mkSl, Enc.flat_ren, set_same, set_ne, sets_cons, sets_nil, Keep.set, Keep.setK, Keep.refl, rn_low hmt, hmn, hnm, hmn3, set_lt hmt], by simp [frSub, lkG, ren, renL, renL_set, renL_ints, UpdOk.nil, UpdOk.cons, renOO_some, renO_cells, renO_map, renOO_mkOb, rn_base, rn_add, ren_mkSl, Enc.flat_ren, set_same, set_ne, sets_cons, sets_nil, Keep.set, Keep.setK, Keep.refl, rn_low hmt, hmn, hnm, hmn3, set_lt hmt]⟩
/-! ### Drop -/
def ixR (l : List T_Thing) (t : Int) : Nat := ixF (fun a => decide (a.Ticket = t)) l
def cutR (l : List T_Thing) (i : Nat) : List T_Thing := l.take i ++ l.drop (i + 1)
def rdropRes (mb : Nat) (last : Int) (l : List T_Thing) (t : Int) (top : Nat) : Value × Upds × Nat :=
  if ixR l t < l.length then (.bool true, [(mb, some (.cells true 0 [mkSl top (cutR l (ixR l t)), .int .i64 last])), (top, mkOb e_Thing (cutR l (ixR l t)))], top + 1) else (.bool false, [], top)
def conRDrop : Con := .det (fun args hp _ => match args with | [.pointer (some ⟨mb, 0, none⟩), a] => RefIs hp mb ∧ IsI .i64 a | _ => False) (fun args hp top => match args with
  | [.pointer (some ⟨mb, _, _⟩), a] => rdropRes mb (refLast hp mb) (e_Thing.rd hp (refL hp mb)) (intOf a) top | _ => (undef, [], top))
def stRD (hp : Hp) (top mb : Nat) (t : Int) (i : Nat) : SS :=
  ⟨[(0, .pointer (some ⟨mb, 0, none⟩), true), (1, .int .i64 t, true), (5, .int .i64 (i : Int), true)], hp.sets [], top + 0⟩

theorem rdrop_ok : ConOk Try.prog 52 conRDrop := by
  refine .mkDet fn52_ok ?_
  intro args hp top hpre hcl hsc
  match args, hpre with
  | [.pointer (some ⟨mb, 0, none⟩), av], ⟨⟨last, mv, l, R⟩, ha⟩ =>
  rw [ha]
  generalize intOf av = t
  have hh := R.h
  have hmt : mb < top := hcl.lt _ _ hh
  have hmn : ¬ top = mb := by omega
  have hnm : ¬ mb = top := by omega
  have hmn1 : ¬ top + 1 = mb := by omega
  have lvs := R.low hcl
  have hS := R.o
  have hn := R.n
  simp only [refL, refLast, hh, cellsOf_some, List.getElem?_cons_succ, List.getElem?_cons_zero, Option.getD_some, intOf_int, hS.rd]
  have hR : ∀ {h' : Hp}, Keep top [mb] h' hp → SlT e_Thing h' mv l := fun hk => R.mono hcl hk
  refine CalledOk.of_fun tt_ok fn52_ok rfl 46 rfl [.tmp 4] rfl (show 2 ≤ 46 by decide) ?_
  refine CW.vc env6_s [0, 1, 4, 5, 6, 13, 25] (by kernel_rfl) ?_
  (simp only [go_sem, reduceIte, reduceCtorEq, Nat.reduceAdd, Nat.reduceMul, Nat.reduceSub, Nat.reduceLT, Nat.reduceLeDiff, Nat.reduceEqDiff, Int.reduceEq, Int.reduceLT, Int.reduceLE, Int.reduceNe, len_sThing hS, idx_sThing hS, Keep.setK, Keep.refl, List.mem_singleton, hmn, hnm, set_lt hmt, hh, hS.cl, hS.oc]; repeat (refine Vc.mk' ?_; simp only [go_sem, reduceIte, reduceCtorEq, Nat.reduceAdd, Nat.reduceMul, Nat.reduceSub, Nat.reduceLT, Nat.reduceLeDiff, Nat.reduceEqDiff, Int.reduceEq, Int.reduceLT, Int.reduceLE, Int.reduceNe, len_sThing hS, idx_sThing hS, Keep.setK, Keep.refl, List.mem_singleton, hmn, hnm, set_lt hmt, hh, hS.cl, hS.oc]))
  refine CW.loopR (stRD hp top mb t) (fun i => i ≤ l.length ∧ ∀ k', k' < i → decide ((at' l k').Ticket = t) = false) (fun i => l.length - i) 0 ⟨Nat.zero_le _, fun k' h' => absurd h' (Nat.not_lt_zero _)⟩ ?_ ?_
  · exact SubR.mk' [] hcl (by simp) (by simp) rfl (frSub_ok (by simp [frSub, lkG, ren, renL, renL_set, renL_ints, UpdOk.nil, UpdOk.cons, renOO_some, renO_cells, renO_map, renOO_mkOb, rn_base, rn_add, ren_mkSl, Enc.flat_ren, set_same, set_ne, sets_cons, sets_nil, Keep.set, Keep.setK, Keep.refl, rn_low hmt, Int.natCast_zero])) (by simp [frSub, lkG, ren, renL, renL_set, renL_ints, UpdOk.nil, UpdOk.cons, renOO_some, renO_cells, renO_map, renOO_mkOb, rn_base, rn_add, ren_mkSl, Enc.flat_ren, set_same, set_ne, sets_cons, sets_nil, Keep.set, Keep.setK, Keep.refl, rn_low hmt, Int.natCast_zero]) (by simp [frSub, lkG, ren, renL, renL_set, renL_ints, UpdOk.nil, UpdOk.cons, renOO_some, renO_cells, renO_map, renOO_mkOb, rn_base, rn_add, ren_mkSl, Enc.flat_ren, set_same, set_ne, sets_cons, sets_nil, Keep.set, Keep.setK, Keep.refl, rn_low hmt, Int.natCast_zero])
  · rintro i ⟨hi, hlo⟩
    by_cases hlt : i < l.length
    · have c1 : ∀ {h' : Hp}, Keep top [mb] h' hp → sload tt.get h' 3 (ptrS mv (i * 3 + 1)) = (.int .i64 (at' l i).Ticket, True) := fun h => sc_sThing_1 (hR h) hlt
      have f1 := sf_sThing_1 hS hlt
      by_cases c : (at' l i).Ticket = t
      · have hix : ixR l t = i := ixF_at (p := fun a : T_Thing => decide (a.Ticket = t)) hi hlo fun _ => decide_eq_true c
        obtain ⟨M, hM⟩ : ∃ M, M = cutR l i := ⟨_, rfl⟩
        have hMP : l.take i ++ l.drop (i + 1) = M := hM.symm
        have htl : (l.take i).length = i := by rw [List.length_take]; omega
        have hwi : wrapA .i64 ((i : Int) + 1) = ((i + 1 : Nat) : Int) := wrap_succ hlt (by omega)
        have hhi : ∀ {h' : Hp}, Keep top [mb] h' hp → sslice tt.get h' 49 mv none (some (.int .i64 (i : Int))) = (subS 3 mv 0 i, True) := fun h => sh_sThing (hR h) (by omega) (by omega)
        have hlo2 : ∀ {h' : Hp}, Keep top [mb] h' hp → sslice tt.get h' 49 mv (some (.int .i64 ((i + 1 : Nat) : Int))) none = (subL 3 mv (i + 1), True) := fun h => sw_sThing (hR h) (by omega) (by omega)
        have hA1 : ∀ {h' : Hp} {t : Nat}, Keep top [mb] h' hp → appendA tt.get h' t [49, 49] (.slice none 0 0) (subS 3 mv 0 i) = some (mkSl t (l.take i), [(t, mkOb e_Thing (l.take i))], t + 1) := fun {h' t} h => by
          have hT := (hR h).take hi
          have := apn_sThing (top := t) (hp := h') ⟨_, hT⟩ (by rw [hT.rd, htl]; omega)
          rw [hT.rd] at this
          exact this
        have hA3 : ∀ {h' : Hp} {b t : Nat}, h' b = mkOb e_Thing (l.take i) → Keep top [mb] h' hp → appendA tt.get h' t [49, 49] (mkSl b (l.take i)) (subL 3 mv (i + 1)) = some (mkSl t M, appU b (l.take i) t (mkOb e_Thing M), t + 1) := fun {h' b t} h0 h => by
          have hT := (hR h).drop (n := i + 1) hlt
          have := ap_sThing (top := t) h0 ⟨_, hT⟩ (by rw [hT.rd, htl, List.length_drop]; omega)
          rw [hT.rd, hMP] at this
          exact this
        have hMc : ∀ {b : Nat}, cellsL (mkSl b M) = [mkSl b M] := fun {b} => by cases M <;> rfl
        have hMo : ∀ {b : Nat}, (mkSl b M).oneCell' = true := fun {b} => by cases M <;> rfl
        refine CW.vc env6_s [0, 1, 4, 5, 6, 13, 25] (by kernel_rfl) ?_
        (simp only [go_sem, reduceIte, reduceCtorEq, Nat.reduceAdd, Nat.reduceMul, Nat.reduceSub, Nat.reduceLT, Nat.reduceLeDiff, Nat.reduceEqDiff, Int.reduceEq, Int.reduceLT, Int.reduceLE, Int.reduceNe, len_sThing hS, idx_sThing hS, Keep.setK, Keep.refl, List.mem_singleton, hmn, hnm, set_lt hmt, hh, hS.cl, hS.oc, stRD, hlt, c1, f1, c, hwi, hhi, hlo2, hA1, hA3, hMc, hMo]; repeat (refine Vc.mk' ?_; simp only [go_sem, reduceIte, reduceCtorEq, Nat.reduceAdd, Nat.reduceMul, Nat.reduceSub, Nat.reduceLT, Nat.reduceLeDiff, Nat.reduceEqDiff, Int.reduceEq, Int.reduceLT, Int.reduceLE, Int.reduceNe, len_sThing hS, idx_sThing hS, Keep.setK, Keep.refl, List.mem_singleton, hmn, hnm, set_lt hmt, hh, hS.cl, hS.oc, stRD, hlt, c1, f1, c, hwi, hhi, hlo2, hA1, hA3, hMc, hMo]))
        simp only [rdropRes, hix, hlt, if_true, ← hM]
        exact ⟨[top + 1], by simp, by simp, by simp, by simp [frSub, lkG, ren, renL, renL_set, renL_ints, UpdOk.nil, UpdOk.cons, renOO_some, renO_cells, renO_map, renOO_mkOb, rn_base, rn_add, ren_mkSl, Enc.flat_ren, set_same, set_ne, sets_cons, sets_nil, Keep.set, Keep.setK, Keep.refl, rn_low hmt, hmn, hnm, hmn1, set_lt hmt], by simp [frSub, lkG, ren, renL, renL_set, renL_ints, UpdOk.nil, UpdOk.cons, renOO_some, renO_cells, renO_map, renOO_mkOb, rn_base, rn_add, ren_mkSl, Enc.flat_ren, set_same, set_ne, sets_cons, sets_nil, Keep.set, Keep.setK, Keep.refl, rn_low hmt, hmn, hnm, hmn1, set_lt hmt], by simp [frSub, lkG, ren, renL, renL_set, renL_ints, UpdOk.nil, UpdOk.cons, renOO_some, renO_cells, renO_map, renOO_mkOb, rn_base, rn_add, ren_mkSl, Enc.flat_ren, set_same, set_ne, sets_cons, sets_nil, Keep.set, Keep.setK, Keep.refl, rn_low hmt, hmn, hnm, hmn1, set_lt hmt]⟩
      · refine CW.vc env6_s [0, 1, 4, 5, 6, 13, 25] (by kernel_rfl) ?_
        (simp only [go_sem, reduceIte, reduceCtorEq, Nat.reduceAdd, Nat.reduceMul, Nat.reduceSub, Nat.reduceLT, Nat.reduceLeDiff, Nat.reduceEqDiff, Int.reduceEq, Int.reduceLT, Int.reduceLE, Int.reduceNe, len_sThing hS, idx_sThing hS, Keep.setK, Keep.refl, List.mem_singleton, hmn, hnm, set_lt hmt, hh, hS.cl, hS.oc, stRD, hlt, c1, f1, c]; repeat (refine Vc.mk' ?_; simp only [go_sem, reduceIte, reduceCtorEq, Nat.reduceAdd, Nat.reduceMul, Nat.reduceSub, Nat.reduceLT, Nat.reduceLeDiff, Nat.reduceEqDiff, Int.reduceEq, Int.reduceLT, Int.reduceLE, Int.reduceNe, len_sThing hS, idx_sThing hS, Keep.setK, Keep.refl, List.mem_singleton, hmn, hnm, set_lt hmt, hh, hS.cl, hS.oc, stRD, hlt, c1, f1, c]))
        refine .mk (i + 1) ⟨hlt, fun k' h' => ?_⟩ (show l.length - (i + 1) < l.length - i by omega) (SubR.mk' [] hcl (by simp) (by simp) rfl (frSub_ok (by simp [frSub, lkG, ren, renL, renL_set, renL_ints, UpdOk.nil, UpdOk.cons, renOO_some, renO_cells, renO_map, renOO_mkOb, rn_base, rn_add, ren_mkSl, Enc.flat_ren, set_same, set_ne, sets_cons, sets_nil, Keep.set, Keep.setK, Keep.refl, rn_low hmt, wrap_succ hlt (by omega : l.length ≤ 9223372036854775807)])) (by simp [frSub, lkG, ren, renL, renL_set, renL_ints, UpdOk.nil, UpdOk.cons, renOO_some, renO_cells, renO_map, renOO_mkOb, rn_base, rn_add, ren_mkSl, Enc.flat_ren, set_same, set_ne, sets_cons, sets_nil, Keep.set, Keep.setK, Keep.refl, rn_low hmt, wrap_succ hlt (by omega : l.length ≤ 9223372036854775807)]) (by simp [frSub, lkG, ren, renL, renL_set, renL_ints, UpdOk.nil, UpdOk.cons, renOO_some, renO_cells, renO_map, renOO_mkOb, rn_base, rn_add, ren_mkSl, Enc.flat_ren, set_same, set_ne, sets_cons, sets_nil, Keep.set, Keep.setK, Keep.refl, rn_low hmt, wrap_succ hlt (by omega : l.length ≤ 9223372036854775807)]))
        by_cases e : k' < i
        · exact of_decide_eq_false (hlo k' e)
        · have e2 : k' = i := by omega
          subst e2
          exact c
    · have hi2 : i = l.length := by omega
      subst hi2
      have hix : ixR l t = l.length := ixF_at (p := fun a : T_Thing => decide (a.Ticket = t)) hi hlo fun h => absurd h (Nat.lt_irrefl _)
      refine CW.vc env6_s [0, 1, 4, 5, 6, 13, 25] (by kernel_rfl) ?_
      (simp only [go_sem, reduceIte, reduceCtorEq, Nat.reduceAdd, Nat.reduceMul, Nat.reduceSub, Nat.reduceLT, Nat.reduceLeDiff, Nat.reduceEqDiff, Int.reduceEq, Int.reduceLT, Int.reduceLE, Int.reduceNe, len_sThing hS, idx_sThing hS, Keep.setK, Keep.refl, List.mem_singleton, hmn, hnm, set_lt hmt, hh, hS.cl, hS.oc, stRD, Nat.lt_irrefl, decide_false]; repeat (refine Vc.mk' ?_; simp only [go_sem, reduceIte, reduceCtorEq, Nat.reduceAdd, Nat.reduceMul, Nat.reduceSub, Nat.reduceLT, Nat.reduceLeDiff, Nat.reduceEqDiff, Int.reduceEq, Int.reduceLT, Int.reduceLE, Int.reduceNe, len_sThing hS, idx_sThing hS, Keep.setK, Keep.refl, List.mem_singleton, hmn, hnm, set_lt hmt, hh, hS.cl, hS.oc, stRD, Nat.lt_irrefl, decide_false]))
      simp only [rdropRes, hix, Nat.lt_irrefl, if_false]
      exact ⟨[], by simp, by simp, by simp, by simp [frSub, lkG, ren, renL, renL_set, renL_ints, UpdOk.nil, UpdOk.cons, renOO_some, renO_cells, renO_map, renOO_mkOb, rn_base, rn_add, ren_mkSl, Enc.flat_ren, set_same, set_ne, sets_cons, sets_nil, Keep.set, Keep.setK, Keep.refl], by simp [frSub, lkG, ren, renL, renL_set, renL_ints, UpdOk.nil, UpdOk.cons, renOO_some, renO_cells, renO_map, renOO_mkOb, rn_base, rn_add, ren_mkSl, Enc.flat_ren, set_same, set_ne, sets_cons, sets_nil, Keep.set, Keep.setK, Keep.refl], by simp [frSub, lkG, ren, renL, renL_set, renL_ints, UpdOk.nil, UpdOk.cons, renOO_some, renO_cells, renO_map, renOO_mkOb, rn_base, rn_add, ren_mkSl, Enc.flat_ren, set_same, set_ne, sets_cons, sets_nil, Keep.set, Keep.setK, Keep.refl]⟩
/-! ### Sift -/
def goneR (g : List UInt8) (l : List T_Thing) : List T_Thing := l.filter fun a => !decide (a.Text = g)
def rsiftRes (mb : Nat) (last : Int) (l : List T_Thing) (g : List UInt8) (top : Nat) : Value × Upds × Nat :=
  (.tuple ⟨[.int .i64 ((l.length : Int) - ((goneR g l).length : Int)), mkSl (top + 1) (outsR l l.length)]⟩, [(mb, some (.cells true 0 [mkSl top (goneR g l), .int .i64 last])), (top, mkOb e_Thing (goneR g l)), (top + 1, mkOb e_string (outsR l l.length))], top + 2)
def conRSift : Con := .det (fun args hp _ => match args with | [.pointer (some ⟨mb, 0, none⟩), a] => RefIs hp mb ∧ IsS a | _ => False) (fun args hp top => match args with
  | [.pointer (some ⟨mb, _, _⟩), a] => rsiftRes mb (refLast hp mb) (e_Thing.rd hp (refL hp mb)) (strOf a) top | _ => (undef, [], top))
def stRS (hp : Hp) (top mb : Nat) (g : List UInt8) (l : List T_Thing) (i : Nat) : SS :=
  ⟨[(0, .pointer (some ⟨mb, 0, none⟩), true), (1, .string ⟨⟨g⟩⟩, true), (6, mkSl top (goneR g (l.take i)), true), (7, mkSl (top + 1) (outsR l i), true), (8, .int .i64 ((i : Int) - ((goneR g (l.take i)).length : Int)), true), (9, .int .i64 (i : Int), true)],
    hp.sets [(top, mkOb e_Thing (goneR g (l.take i))), (top + 1, mkOb e_string (outsR l i))], top + 2⟩

theorem rsift_ok : ConOk Try.prog 71 conRSift := by
  refine .mkDet fn71_ok ?_
  intro args hp top hpre hcl hsc
  match args, hpre with
  | [.pointer (some ⟨mb, 0, none⟩), av], ⟨⟨last, mv, l, R⟩, ha⟩ =>
  rw [ha]
  generalize strOf av = g
  have hh := R.h
  have hmt : mb < top := hcl.lt _ _ hh
  have hmn : ¬ top = mb := by omega
  have hnm : ¬ mb = top := by omega
  have hmn1 : ¬ top + 1 = mb := by omega
  have lvs := R.low hcl
  have hS := R.o
  have hn := R.n
  simp only [refL, refLast, hh, cellsOf_some, List.getElem?_cons_succ, List.getElem?_cons_zero, Option.getD_some, strOf_string, hS.rd]
  have hR : ∀ {h' : Hp}, Keep top [mb] h' hp → SlT e_Thing h' mv l := fun hk => R.mono hcl hk
  refine CalledOk.of_fun tt_ok fn71_ok rfl 58 rfl [.tmp 4, .tmp 5] rfl (show 2 ≤ 58 by decide) ?_
  refine CW.vc env6_s [0, 1, 4, 5, 6, 7, 8, 9, 16, 39] (by kernel_rfl) ?_
  (simp only [go_sem, reduceIte, reduceCtorEq, Nat.reduceAdd, Nat.reduceMul, Nat.reduceSub, Nat.reduceLT, Nat.reduceLeDiff, Nat.reduceEqDiff, Int.reduceEq, Int.reduceLT, Int.reduceLE, Int.reduceNe, len_sThing hS, idx_sThing hS, Keep.setK, Keep.refl, List.mem_singleton, hmn, hnm, set_lt hmt, hh, hS.cl, hS.oc]; repeat (refine Vc.mk' ?_; simp only [go_sem, reduceIte, reduceCtorEq, Nat.reduceAdd, Nat.reduceMul, Nat.reduceSub, Nat.reduceLT, Nat.reduceLeDiff, Nat.reduceEqDiff, Int.reduceEq, Int.reduceLT, Int.reduceLE, Int.reduceNe, len_sThing hS, idx_sThing hS, Keep.setK, Keep.refl, List.mem_singleton, hmn, hnm, set_lt hmt, hh, hS.cl, hS.oc]))
  refine CW.loopR (stRS hp top mb g l) (fun i => i ≤ l.length) (fun i => l.length - i) 0 (Nat.zero_le _) ?_ ?_
  · have e1 : goneR g [] = [] := rfl
    have e2 : outsR l 0 = [] := rfl
    exact SubR.mk' [top, top + 1] hcl (by simp) (by simp) rfl (frSub_ok (by simp [frSub, lkG, ren, renL, renL_set, renL_ints, UpdOk.nil, UpdOk.cons, renOO_some, renO_cells, renO_map, renOO_mkOb, rn_base, rn_add, ren_mkSl, Enc.flat_ren, set_same, set_ne, sets_cons, sets_nil, Keep.set, Keep.setK, Keep.refl, rn_low hmt, Int.natCast_zero, List.take_zero, e1, e2, mkSl_nil, mkOb_nil, List.length_nil, Int.sub_self])) (by simp [frSub, lkG, ren, renL, renL_set, renL_ints, UpdOk.nil, UpdOk.cons, renOO_some, renO_cells, renO_map, renOO_mkOb, rn_base, rn_add, ren_mkSl, Enc.flat_ren, set_same, set_ne, sets_cons, sets_nil, Keep.set, Keep.setK, Keep.refl, rn_low hmt, Int.natCast_zero, List.take_zero, e1, e2, mkSl_nil, mkOb_nil, List.length_nil, Int.sub_self]) (by simp [frSub, lkG, ren, renL, renL_set, renL_ints, UpdOk.nil, UpdOk.cons, renOO_some, renO_cells, renO_map, renOO_mkOb, rn_base, rn_add, ren_mkSl, Enc.flat_ren, set_same, set_ne, sets_cons, sets_nil, Keep.set, Keep.setK, Keep.refl, rn_low hmt, Int.natCast_zero, List.take_zero, e1, e2, mkSl_nil, mkOb_nil, List.length_nil, Int.sub_self])
  · intro i hi
    have hol := outsR_len hi
    have h16 : (outsR l i).length < 16777216 := by omega
    have hgl : (goneR g (l.take i)).length ≤ i := by have := List.length_filter_le (fun a : T_Thing => !decide (a.Text = g)) (l.take i); rw [List.length_take] at this; unfold goneR; omega
    have g16 : (goneR g (l.take i)).length < 16777216 := by omega
    by_cases hlt : i < l.length
    · have c2 : ∀ {h' : Hp}, Keep top [mb] h' hp → sload tt.get h' 9 (ptrS mv (i * 3 + 2)) = (.string ⟨⟨(at' l i).Text⟩⟩, True) := fun h => sc_sThing_2 (hR h) hlt
      have cl : ∀ {h' : Hp}, Keep top [mb] h' hp → sload tt.get h' 93 (ptrS mv (i * 3)) = (.agg ⟨[.int .u64 (at' l i).At, .int .i64 (at' l i).Ticket, .string ⟨⟨(at' l i).Text⟩⟩]⟩, True) := fun h => ld_sThing (hR h) hlt
      have f2 := sf_sThing_2 hS hlt
      have hst := outsR_succ hlt
      by_cases c : (at' l i).Text = g
      · have hgs : goneR g (l.take (i + 1)) = goneR g (l.take i) := by
          unfold goneR; rw [take_at hlt, List.filter_append]; simp [c]
        refine CW.vc env6_s [0, 1, 4, 5, 6, 7, 8, 9, 16, 39] (by kernel_rfl) ?_
        have ceq : eqB (at' l i).Text g = true := by rw [eqB_eq]; simp [c]
        have hwn : wrapA .i64 ((i : Int) - ((goneR g (l.take i)).length : Int) + 1) = ((i + 1 : Nat) : Int) - ((goneR g (l.take i)).length : Int) := by rw [wrap64 (by omega) (by omega)]; omega
        (simp only [go_sem, reduceIte, reduceCtorEq, Nat.reduceAdd, Nat.reduceMul, Nat.reduceSub, Nat.reduceLT, Nat.reduceLeDiff, Nat.reduceEqDiff, Int.reduceEq, Int.reduceLT, Int.reduceLE, Int.reduceNe, len_sThing hS, idx_sThing hS, Keep.setK, Keep.refl, List.mem_singleton, hmn, hnm, set_lt hmt, hh, hS.cl, hS.oc, stRS, hlt, c2, cl, f2, ceq, h16]; repeat (refine Vc.mk' ?_; simp only [go_sem, reduceIte, reduceCtorEq, Nat.reduceAdd, Nat.reduceMul, Nat.reduceSub, Nat.reduceLT, Nat.reduceLeDiff, Nat.reduceEqDiff, Int.reduceEq, Int.reduceLT, Int.reduceLE, Int.reduceNe, len_sThing hS, idx_sThing hS, Keep.setK, Keep.refl, List.mem_singleton, hmn, hnm, set_lt hmt, hh, hS.cl, hS.oc, stRS, hlt, c2, cl, f2, ceq, h16]))
        exact .mk (i + 1) hlt (show l.length - (i + 1) < l.length - i by omega) (SubR.mk' [top, top + 3] hcl (by simp) (by simp) rfl (frSub_ok (by simp [frSub, lkG, ren, renL, renL_set, renL_ints, UpdOk.nil, UpdOk.cons, renOO_some, renO_cells, renO_map, renOO_mkOb, rn_base, rn_add, ren_mkSl, Enc.flat_ren, set_same, set_ne, sets_cons, sets_nil, Keep.set, Keep.setK, Keep.refl, rn_low hmt, wrap_succ hlt (by omega : l.length ≤ 9223372036854775807), hst, hgs, hwn])) (by simp [frSub, lkG, ren, renL, renL_set, renL_ints, UpdOk.nil, UpdOk.cons, renOO_some, renO_cells, renO_map, renOO_mkOb, rn_base, rn_add, ren_mkSl, Enc.flat_ren, set_same, set_ne, sets_cons, sets_nil, Keep.set, Keep.setK, Keep.refl, rn_low hmt, wrap_succ hlt (by omega : l.length ≤ 9223372036854775807), hst, hgs, hwn]) (by simp [frSub, lkG, ren, renL, renL_set, renL_ints, UpdOk.nil, UpdOk.cons, renOO_some, renO_cells, renO_map, renOO_mkOb, rn_base, rn_add, ren_mkSl, Enc.flat_ren, set_same, set_ne, sets_cons, sets_nil, Keep.set, Keep.setK, Keep.refl, rn_low hmt, wrap_succ hlt (by omega : l.length ≤ 9223372036854775807), hst, hgs, hwn]))
      · have hgs : goneR g (l.take (i + 1)) = goneR g (l.take i) ++ [at' l i] := by
          unfold goneR; rw [take_at hlt, List.filter_append]; simp [c]
        refine CW.vc env6_s [0, 1, 4, 5, 6, 7, 8, 9, 16, 39] (by kernel_rfl) ?_
        have ceq : eqB (at' l i).Text g = false := by rw [eqB_eq]; simp [c]
        have hgl : (i : Int) + 1 - (((goneR g (l.take i)).length : Int) + 1) = (i : Int) - ((goneR g (l.take i)).length : Int) := by omega
        (simp only [go_sem, reduceIte, reduceCtorEq, Nat.reduceAdd, Nat.reduceMul, Nat.reduceSub, Nat.reduceLT, Nat.reduceLeDiff, Nat.reduceEqDiff, Int.reduceEq, Int.reduceLT, Int.reduceLE, Int.reduceNe, len_sThing hS, idx_sThing hS, Keep.setK, Keep.refl, List.mem_singleton, hmn, hnm, set_lt hmt, hh, hS.cl, hS.oc, stRS, hlt, c2, cl, f2, ceq, h16, g16]; repeat (refine Vc.mk' ?_; simp only [go_sem, reduceIte, reduceCtorEq, Nat.reduceAdd, Nat.reduceMul, Nat.reduceSub, Nat.reduceLT, Nat.reduceLeDiff, Nat.reduceEqDiff, Int.reduceEq, Int.reduceLT, Int.reduceLE, Int.reduceNe, len_sThing hS, idx_sThing hS, Keep.setK, Keep.refl, List.mem_singleton, hmn, hnm, set_lt hmt, hh, hS.cl, hS.oc, stRS, hlt, c2, cl, f2, ceq, h16, g16]))
        exact .mk (i + 1) hlt (show l.length - (i + 1) < l.length - i by omega) (SubR.mk' [top + 5, top + 3] hcl (by simp) (by simp) rfl (frSub_ok (by simp [frSub, lkG, ren, renL, renL_set, renL_ints, UpdOk.nil, UpdOk.cons, renOO_some, renO_cells, renO_map, renOO_mkOb, rn_base, rn_add, ren_mkSl, Enc.flat_ren, set_same, set_ne, sets_cons, sets_nil, Keep.set, Keep.setK, Keep.refl, rn_low hmt, wrap_succ hlt (by omega : l.length ≤ 9223372036854775807), hst, hgs, hgl])) (by simp [frSub, lkG, ren, renL, renL_set, renL_ints, UpdOk.nil, UpdOk.cons, renOO_some, renO_cells, renO_map, renOO_mkOb, rn_base, rn_add, ren_mkSl, Enc.flat_ren, set_same, set_ne, sets_cons, sets_nil, Keep.set, Keep.setK, Keep.refl, rn_low hmt, wrap_succ hlt (by omega : l.length ≤ 9223372036854775807), hst, hgs, hgl]) (by simp [frSub, lkG, ren, renL, renL_set, renL_ints, UpdOk.nil, UpdOk.cons, renOO_some, renO_cells, renO_map, renOO_mkOb, rn_base, rn_add, ren_mkSl, Enc.flat_ren, set_same, set_ne, sets_cons, sets_nil, Keep.set, Keep.setK, Keep.refl, rn_low hmt, wrap_succ hlt (by omega : l.length ≤ 9223372036854775807), hst, hgs, hgl]))
    · have hi2 : i = l.length := by omega
      subst hi2
      refine CW.vc env6_s [0, 1, 4, 5, 6, 7, 8, 9, 16, 39] (by kernel_rfl) ?_
      (simp only [go_sem, reduceIte, reduceCtorEq, Nat.reduceAdd, Nat.reduceMul, Nat.reduceSub, Nat.reduceLT, Nat.reduceLeDiff, Nat.reduceEqDiff, Int.reduceEq, Int.reduceLT, Int.reduceLE, Int.reduceNe, len_sThing hS, idx_sThing hS, Keep.setK, Keep.refl, List.mem_singleton, hmn, hnm, set_lt hmt, hh, hS.cl, hS.oc, stRS, Nat.lt_irrefl, decide_false]; repeat (refine Vc.mk' ?_; simp only [go_sem, reduceIte, reduceCtorEq, Nat.reduceAdd, Nat.reduceMul, Nat.reduceSub, Nat.reduceLT, Nat.reduceLeDiff, Nat.reduceEqDiff, Int.reduceEq, Int.reduceLT, Int.reduceLE, Int.reduceNe, len_sThing hS, idx_sThing hS, Keep.setK, Keep.refl, List.mem_singleton, hmn, hnm, set_lt hmt, hh, hS.cl, hS.oc, stRS, Nat.lt_irrefl, decide_false]))
      simp only [rsiftRes, List.take_length]
      exact ⟨[top, top + 1], by simp, by simp, by simp, by simp [frSub, lkG, ren, renL, renL_set, renL_ints, UpdOk.nil, UpdOk.cons, renOO_some, renO_cells, renO_map, renOO_mkOb, rn_base, rn_add, ren_mkSl, Enc.flat_ren, set_same, set_ne, sets_cons, sets_nil, Keep.set, Keep.setK, Keep.refl, rn_low hmt, hmn, hnm, hmn1, set_lt hmt], by simp [frSub, lkG, ren, renL, renL_set, renL_ints, UpdOk.nil, UpdOk.cons, renOO_some, renO_cells, renO_map, renOO_mkOb, rn_base, rn_add, ren_mkSl, Enc.flat_ren, set_same, set_ne, sets_cons, sets_nil, Keep.set, Keep.setK, Keep.refl, rn_low hmt, hmn, hnm, hmn1, set_lt hmt], by simp [frSub, lkG, ren, renL, renL_set, renL_ints, UpdOk.nil, UpdOk.cons, renOO_some, renO_cells, renO_map, renOO_mkOb, rn_base, rn_add, ren_mkSl, Enc.flat_ren, set_same, set_ne, sets_cons, sets_nil, Keep.set, Keep.setK, Keep.refl, rn_low hmt, hmn, hnm, hmn1, set_lt hmt]⟩
end Go.Proofs.Ytogndgadipdikaa.Dm
