/- The graph of records: the program's. -/
import Derived.Test.YtaenmabpekbjoaaG4
set_option linter.unusedSimpArgs false
set_option linter.unusedVariables false
namespace Go.Proofs.Ytaenmabpekbjoaa.Dm
open Go.Dm
set_option maxHeartbeats 4000000

theorem filter_congr' {α : Type} {p q : α → Bool} : ∀ {l : List α}, (∀ a ∈ l, p a = q a) → l.filter p = l.filter q
  | [], _ => rfl
  | a :: l, h => by
    have := filter_congr' (l := l) fun b hb => h b (List.mem_cons_of_mem _ hb)
    simp only [List.filter_cons, h a (List.mem_cons_self ..), this]
theorem flatMap_congr' {α β : Type} {f g : α → List β} : ∀ {l : List α}, (∀ a ∈ l, f a = g a) → l.flatMap f = l.flatMap g
  | [], _ => rfl
  | a :: l, h => by rw [List.flatMap_cons, List.flatMap_cons, h a (List.mem_cons_self ..), flatMap_congr' fun b hb => h b (List.mem_cons_of_mem _ hb)]
theorem iS_isOf (L : List RecD) {i : Nat} (h : i < 25) : iS (isOf L) i = L.any (isO (i : Int)) := isOf_get L h
theorem cS_sOf (L : List RecD) {a b : Nat} (ha : a < 25) (hb : b < 25) : cS (sOf L) a b = costF L (a : Int) (b : Int) := sOf_get L ha hb
theorem nodesA_F (L : List RecD) : nodesA (isOf L) 25 = nodesF L := by
  unfold nodesA nodesF
  rw [filter_congr' fun i hi => iS_isOf L (List.mem_range.1 hi)]
theorem edgesA_F (L : List RecD) : edgesA (sOf L) (isOf L) 25 = edgesF L := by
  rw [edges_all]
  unfold edgesA
  refine flatMap_congr' fun a ha => ?_
  have ha' := List.mem_range.1 ha
  rw [iS_isOf L ha']
  have : rowA (sOf L) a 25 = (List.range 25).flatMap fun (b : Nat) => edgeF (costF L) (a : Int) (b : Int) := by
    unfold rowA
    refine flatMap_congr' fun b hb => ?_
    have hb' := List.mem_range.1 hb
    unfold edgeN edgeF
    rw [cS_sOf L ha' hb', cS_sOf L hb' ha']
  rw [this]
def nF (L : List RecD) : List Int := if uniqF L = true then nodesF L else []
def eF (L : List RecD) : List T_Edge := if uniqF L = true then edgesF L else []
def errF (L : List RecD) : Int := if uniqF L = true then 0 else 2
def resBoth (L : List RecD) (top : Nat) : Value × Upds × Nat :=
  (.tuple ⟨[.agg ⟨[mkSl top (nF L), mkSl (top + 1) (eF L)]⟩, .int .i64 (errF L)]⟩, [(top, mkOb e_int (nF L)), (top + 1, mkOb e_Edge (eF L))], top + 2)
def conBoth : Con := .det (fun args hp _ => match args with | [v] => RecsOk hp v | _ => False) (fun args hp top => match args with | [v] => resBoth (recs hp v) top | _ => (undef, [], top))
def stB (hp : Hp) (top : Nat) (v : Value) (L : List RecD) (k : Nat) : SS :=
  ⟨[(2, .pointer (some ⟨top, 0, none⟩), true), (4, .pointer (some ⟨top + 1, 0, none⟩), true), (5, .pointer (some ⟨top + 2, 0, none⟩), true), (10, v, true), (11, .int .i64 (L.length : Int), true), (12, .int .i64 (k : Int), true)],
    hp.sets [(top, some (.cells true 0 [.slice none 0 0, .slice none 0 0])), (top + 1, some (.cells true 0 ((sOf (L.take k)).map (Value.int .i64)))), (top + 2, some (.cells true 0 ((isOf (L.take k)).map Value.bool)))], top + 3⟩
def stBi (hp : Hp) (top : Nat) (v : Value) (L : List RecD) (r : T_Record) (aj : List T_Adj) (k j : Nat) : SS :=
  ⟨[(2, .pointer (some ⟨top, 0, none⟩), true), (4, .pointer (some ⟨top + 1, 0, none⟩), true), (5, .pointer (some ⟨top + 2, 0, none⟩), true), (7, .pointer (some ⟨top + 3, 0, none⟩), true), (10, v, true), (11, .int .i64 (L.length : Int), true), (12, .int .i64 (k : Int), true), (30, r.Adjs.v, true), (31, .int .i64 (aj.length : Int), true), (32, .int .i64 (j : Int), true)],
    hp.sets [(top, some (.cells true 0 [.slice none 0 0, .slice none 0 0])), (top + 1, some (.cells true 0 ((sOf (L.take k ++ [takeA (at' L k) j])).map (Value.int .i64)))), (top + 2, some (.cells true 0 ((isOf (L.take (k + 1))).map Value.bool))), (top + 3, some (.cells true 0 (e_Record.enc r)))], top + 4⟩

theorem sOf_nil : reps 625 (.int .i64 0) = (sOf []).map (Value.int .i64) := by
  rw [reps_map]
  have : sOf [] = List.replicate 625 0 := by decide +kernel
  rw [this]
theorem isOf_nil : reps 25 (.bool false) = (isOf []).map Value.bool := by
  rw [reps_bools]
  have : isOf [] = List.replicate 25 false := by decide +kernel
  rw [this]
theorem both_ok : ConOk Try.prog 10 conBoth := by
  refine .mkDet fn10_ok ?_
  intro args hp top hpre hcl hsc
  match args, hpre with
  | [v], ⟨l, h, hr⟩ =>
  have H := RecsAt.of h hr hcl
  have hs := H.s
  simp only [H.rd (Keep.refl top [] hp ▸ trivial)]
  generalize hL : l.map (recD hp) = L
  have hLl : L.length = l.length := by rw [← hL, List.length_map]
  have hat : ∀ {k}, k < l.length → at' L k = recD hp (at' l k) := fun hk => by rw [← hL, at_map hk]
  refine CalledOk.of_fun tt_ok fn10_ok rfl 48 rfl [.cell 2 26, .tmp 3] rfl (show 1 ≤ 48 by decide) ?_
  refine CW.vc env5 [0, 2, 3, 4, 5, 7, 9, 10, 11, 12, 13, 24, 30, 31, 32, 33] (by kernel_rfl) ?_
  (simp only [go_sem, reduceIte, reduceCtorEq, Nat.reduceAdd, Nat.reduceMul, Nat.reduceSub, Nat.reduceLT, Nat.reduceLeDiff, Nat.reduceEqDiff, Int.reduceEq, Int.reduceLT, Int.reduceLE, Int.reduceNe, len_sRecord h, idx_sRecord h, ld_sRecord h, sh_sRecord h, sw_sRecord h, sf_sRecord_0 h, sc_sRecord_0 h, sf_sRecord_1 h, sc_sRecord_1 h, sf_sRecord_2 h, sc_sRecord_2 h, sf_sRecord_3 h, sc_sRecord_3 h, sf_sRecord_4 h, sc_sRecord_4 h, sf_sRecord_5 h, sc_sRecord_5 h, h.P, h.oc, h.cl, h.rd, h.ref, strip_P hs, strip_rd hs, strip_ld hs, strip_sl h hs k_sRecord, G5_may, conMay, G5_sq, conSq, refOf_v, hLl, one_ri, one_rb]; repeat (refine Vc.mk' ?_; simp only [go_sem, reduceIte, reduceCtorEq, Nat.reduceAdd, Nat.reduceMul, Nat.reduceSub, Nat.reduceLT, Nat.reduceLeDiff, Nat.reduceEqDiff, Int.reduceEq, Int.reduceLT, Int.reduceLE, Int.reduceNe, len_sRecord h, idx_sRecord h, ld_sRecord h, sh_sRecord h, sw_sRecord h, sf_sRecord_0 h, sc_sRecord_0 h, sf_sRecord_1 h, sc_sRecord_1 h, sf_sRecord_2 h, sc_sRecord_2 h, sf_sRecord_3 h, sc_sRecord_3 h, sf_sRecord_4 h, sc_sRecord_4 h, sf_sRecord_5 h, sc_sRecord_5 h, h.P, h.oc, h.cl, h.rd, h.ref, strip_P hs, strip_rd hs, strip_ld hs, strip_sl h hs k_sRecord, G5_may, conMay, G5_sq, conSq, refOf_v, hLl, one_ri, one_rb]))
  refine CW.loopR (stB hp top v L) (fun k => k ≤ l.length ∧ uniqF L = goU (L.take k) (L.drop k)) (fun k => l.length - k) 0 ⟨Nat.zero_le _, rfl⟩ ?_ ?_
  · exact SubR.mk' [top, top + 1, top + 2] hcl (by simp) (by simp) rfl (frSub_ok (by simp [frSub, lkG, ren, renL, renL_set, renL_ints, UpdOk.nil, UpdOk.cons, renOO_some, renO_cells, renO_map, renOO_mkOb, rn_base, rn_add, ren_mkSl, Enc.flat_ren, set_same, set_ne, sets_cons, sets_nil, Keep.set, Keep.setK, Keep.refl, Sc.ren (fun j hj => rn_low hj) hs, sOf_nil, isOf_nil, hLl, renL_bools])) (by simp [frSub, lkG, ren, renL, renL_set, renL_ints, UpdOk.nil, UpdOk.cons, renOO_some, renO_cells, renO_map, renOO_mkOb, rn_base, rn_add, ren_mkSl, Enc.flat_ren, set_same, set_ne, sets_cons, sets_nil, Keep.set, Keep.setK, Keep.refl, Sc.ren (fun j hj => rn_low hj) hs, sOf_nil, isOf_nil, hLl, renL_bools]) (by simp [frSub, lkG, ren, renL, renL_set, renL_ints, UpdOk.nil, UpdOk.cons, renOO_some, renO_cells, renO_map, renOO_mkOb, rn_base, rn_add, ren_mkSl, Enc.flat_ren, set_same, set_ne, sets_cons, sets_nil, Keep.set, Keep.setK, Keep.refl, Sc.ren (fun j hj => rn_low hj) hs, sOf_nil, isOf_nil, hLl, renL_bools])
  · rintro k ⟨hk, hm⟩
    by_cases hlt : k < l.length
    · obtain ⟨aj, hA, hAs, hD⟩ := H.at hlt
      rw [drop_at (by omega), goU, hat hlt] at hm
      cases c1 : mayR (recD hp (at' l k)) with
      | false =>
        refine CW.vc env5 [0, 2, 3, 4, 5, 7, 9, 10, 11, 12, 13, 24, 30, 31, 32, 33] (by kernel_rfl) ?_
        (simp only [go_sem, reduceIte, reduceCtorEq, Nat.reduceAdd, Nat.reduceMul, Nat.reduceSub, Nat.reduceLT, Nat.reduceLeDiff, Nat.reduceEqDiff, Int.reduceEq, Int.reduceLT, Int.reduceLE, Int.reduceNe, len_sRecord h, idx_sRecord h, ld_sRecord h, sh_sRecord h, sw_sRecord h, sf_sRecord_0 h, sc_sRecord_0 h, sf_sRecord_1 h, sc_sRecord_1 h, sf_sRecord_2 h, sc_sRecord_2 h, sf_sRecord_3 h, sc_sRecord_3 h, sf_sRecord_4 h, sc_sRecord_4 h, sf_sRecord_5 h, sc_sRecord_5 h, h.P, h.oc, h.cl, h.rd, h.ref, strip_P hs, strip_rd hs, strip_ld hs, strip_sl h hs k_sRecord, G5_may, conMay, G5_sq, conSq, refOf_v, hLl, one_ri, one_rb, len_sAdj hA, idx_sAdj hA, ld_sAdj hA, sh_sAdj hA, sw_sAdj hA, sf_sAdj_0 hA, sc_sAdj_0 hA, sf_sAdj_1 hA, sc_sAdj_1 hA, hA.P, hA.oc, hA.cl, hA.rd, hA.ref, strip_P hAs, strip_rd hAs, strip_ld hAs, strip_sl hA hAs k_sAdj, hlt, stB, strip_recD hAs, c1]; repeat (refine Vc.mk' ?_; simp only [go_sem, reduceIte, reduceCtorEq, Nat.reduceAdd, Nat.reduceMul, Nat.reduceSub, Nat.reduceLT, Nat.reduceLeDiff, Nat.reduceEqDiff, Int.reduceEq, Int.reduceLT, Int.reduceLE, Int.reduceNe, len_sRecord h, idx_sRecord h, ld_sRecord h, sh_sRecord h, sw_sRecord h, sf_sRecord_0 h, sc_sRecord_0 h, sf_sRecord_1 h, sc_sRecord_1 h, sf_sRecord_2 h, sc_sRecord_2 h, sf_sRecord_3 h, sc_sRecord_3 h, sf_sRecord_4 h, sc_sRecord_4 h, sf_sRecord_5 h, sc_sRecord_5 h, h.P, h.oc, h.cl, h.rd, h.ref, strip_P hs, strip_rd hs, strip_ld hs, strip_sl h hs k_sRecord, G5_may, conMay, G5_sq, conSq, refOf_v, hLl, one_ri, one_rb, len_sAdj hA, idx_sAdj hA, ld_sAdj hA, sh_sAdj hA, sw_sAdj hA, sf_sAdj_0 hA, sc_sAdj_0 hA, sf_sAdj_1 hA, sc_sAdj_1 hA, hA.P, hA.oc, hA.cl, hA.rd, hA.ref, strip_P hAs, strip_rd hAs, strip_ld hAs, strip_sl hA hAs k_sAdj, hlt, stB, strip_recD hAs, c1]))
        have hu : uniqF L = false := by rw [hm, c1]; rfl
        simp only [resBoth, nF, eF, errF, hu, Bool.false_eq_true, if_false, mkSl_nil, mkOb_nil]
        exact ⟨[top, top + 1], by simp, by simp, by simp, by simp [frSub, lkG, ren, renL, renL_set, renL_ints, UpdOk.nil, UpdOk.cons, renOO_some, renO_cells, renO_map, renOO_mkOb, rn_base, rn_add, ren_mkSl, Enc.flat_ren, set_same, set_ne, sets_cons, sets_nil, Keep.set, Keep.setK, Keep.refl], by simp [frSub, lkG, ren, renL, renL_set, renL_ints, UpdOk.nil, UpdOk.cons, renOO_some, renO_cells, renO_map, renOO_mkOb, rn_base, rn_add, ren_mkSl, Enc.flat_ren, set_same, set_ne, sets_cons, sets_nil, Keep.set, Keep.setK, Keep.refl], by simp [frSub, lkG, ren, renL, renL_set, renL_ints, UpdOk.nil, UpdOk.cons, renOO_some, renO_cells, renO_map, renOO_mkOb, rn_base, rn_add, ren_mkSl, Enc.flat_ren, set_same, set_ne, sets_cons, sets_nil, Keep.set, Keep.setK, Keep.refl]⟩
      | true =>
        have hor : (recD hp (at' l k)).Origin = (at' l k).Origin := rfl
        rw [c1, Bool.true_and, hor] at hm
        have c1' := c1
        rw [hD] at c1'
        simp only [mayR, headOk, Bool.and_eq_true] at c1'
        have hro : routerB (at' l k).Origin = true := c1'.1.1.1.1.1.1
        have hao : adjsOk (at' l k).Origin 0 aj = true := c1'.2
        have hro' := hro
        simp only [routerB, Bool.and_eq_true, decide_eq_true_eq] at hro'
        have o0 : 0 ≤ (at' l k).Origin := by omega
        have o1 : (at' l k).Origin < ((25 : Nat) : Int) := by omega
        have o2 : (at' l k).Origin.toNat < 25 := by omega
        have o5 : (at' l k).Origin.toNat ≤ 24 := by omega
        have o4 : ((((at' l k).Origin.toNat : Nat)) : Int) = (at' l k).Origin := by omega
        have hil := isOf_len (L.take k)
        have hig := isOf_get (L.take k) o2
        rw [o4] at hig
        cases c2 : (L.take k).any (isO (at' l k).Origin) with
        | true =>
          rw [c2] at hig
          refine CW.vc env5 [0, 2, 3, 4, 5, 7, 9, 10, 11, 12, 13, 24, 30, 31, 32, 33] (by kernel_rfl) ?_
          (simp only [go_sem, reduceIte, reduceCtorEq, Nat.reduceAdd, Nat.reduceMul, Nat.reduceSub, Nat.reduceLT, Nat.reduceLeDiff, Nat.reduceEqDiff, Int.reduceEq, Int.reduceLT, Int.reduceLE, Int.reduceNe, len_sRecord h, idx_sRecord h, ld_sRecord h, sh_sRecord h, sw_sRecord h, sf_sRecord_0 h, sc_sRecord_0 h, sf_sRecord_1 h, sc_sRecord_1 h, sf_sRecord_2 h, sc_sRecord_2 h, sf_sRecord_3 h, sc_sRecord_3 h, sf_sRecord_4 h, sc_sRecord_4 h, sf_sRecord_5 h, sc_sRecord_5 h, h.P, h.oc, h.cl, h.rd, h.ref, strip_P hs, strip_rd hs, strip_ld hs, strip_sl h hs k_sRecord, G5_may, conMay, G5_sq, conSq, refOf_v, hLl, one_ri, one_rb, len_sAdj hA, idx_sAdj hA, ld_sAdj hA, sh_sAdj hA, sw_sAdj hA, sf_sAdj_0 hA, sc_sAdj_0 hA, sf_sAdj_1 hA, sc_sAdj_1 hA, hA.P, hA.oc, hA.cl, hA.rd, hA.ref, strip_P hAs, strip_rd hAs, strip_ld hAs, strip_sl hA hAs k_sAdj, hlt, stB, strip_recD hAs, c1, o0, o1, o2, o5, hig, hil, get_bools, Nat.mul_one, List.length_map]; repeat (refine Vc.mk' ?_; simp only [go_sem, reduceIte, reduceCtorEq, Nat.reduceAdd, Nat.reduceMul, Nat.reduceSub, Nat.reduceLT, Nat.reduceLeDiff, Nat.reduceEqDiff, Int.reduceEq, Int.reduceLT, Int.reduceLE, Int.reduceNe, len_sRecord h, idx_sRecord h, ld_sRecord h, sh_sRecord h, sw_sRecord h, sf_sRecord_0 h, sc_sRecord_0 h, sf_sRecord_1 h, sc_sRecord_1 h, sf_sRecord_2 h, sc_sRecord_2 h, sf_sRecord_3 h, sc_sRecord_3 h, sf_sRecord_4 h, sc_sRecord_4 h, sf_sRecord_5 h, sc_sRecord_5 h, h.P, h.oc, h.cl, h.rd, h.ref, strip_P hs, strip_rd hs, strip_ld hs, strip_sl h hs k_sRecord, G5_may, conMay, G5_sq, conSq, refOf_v, hLl, one_ri, one_rb, len_sAdj hA, idx_sAdj hA, ld_sAdj hA, sh_sAdj hA, sw_sAdj hA, sf_sAdj_0 hA, sc_sAdj_0 hA, sf_sAdj_1 hA, sc_sAdj_1 hA, hA.P, hA.oc, hA.cl, hA.rd, hA.ref, strip_P hAs, strip_rd hAs, strip_ld hAs, strip_sl hA hAs k_sAdj, hlt, stB, strip_recD hAs, c1, o0, o1, o2, o5, hig, hil, get_bools, Nat.mul_one, List.length_map]))
          have hu : uniqF L = false := by rw [hm, c2]; rfl
          simp only [resBoth, nF, eF, errF, hu, Bool.false_eq_true, if_false, mkSl_nil, mkOb_nil]
          exact ⟨[top, top + 1], by simp, by simp, by simp, by simp [frSub, lkG, ren, renL, renL_set, renL_ints, UpdOk.nil, UpdOk.cons, renOO_some, renO_cells, renO_map, renOO_mkOb, rn_base, rn_add, ren_mkSl, Enc.flat_ren, set_same, set_ne, sets_cons, sets_nil, Keep.set, Keep.setK, Keep.refl], by simp [frSub, lkG, ren, renL, renL_set, renL_ints, UpdOk.nil, UpdOk.cons, renOO_some, renO_cells, renO_map, renOO_mkOb, rn_base, rn_add, ren_mkSl, Enc.flat_ren, set_same, set_ne, sets_cons, sets_nil, Keep.set, Keep.setK, Keep.refl], by simp [frSub, lkG, ren, renL, renL_set, renL_ints, UpdOk.nil, UpdOk.cons, renOO_some, renO_cells, renO_map, renOO_mkOb, rn_base, rn_add, ren_mkSl, Enc.flat_ren, set_same, set_ne, sets_cons, sets_nil, Keep.set, Keep.setK, Keep.refl]⟩
        | false =>
          rw [c2] at hig
          have hst := isOf_step (done := L.take k) (r := at' L k) (by rw [hat hlt]; exact hro)
          rw [← take_at (by omega)] at hst
          have e1 : (at' L k).Origin = (at' l k).Origin := by rw [hat hlt]; rfl
          rw [e1] at hst
          have hz := sOf_zero (done := L.take k) (r := at' L k)
          refine CW.vc env5 [0, 2, 3, 4, 5, 7, 9, 10, 11, 12, 13, 24, 30, 31, 32, 33] (by kernel_rfl) ?_
          (simp only [go_sem, reduceIte, reduceCtorEq, Nat.reduceAdd, Nat.reduceMul, Nat.reduceSub, Nat.reduceLT, Nat.reduceLeDiff, Nat.reduceEqDiff, Int.reduceEq, Int.reduceLT, Int.reduceLE, Int.reduceNe, len_sRecord h, idx_sRecord h, ld_sRecord h, sh_sRecord h, sw_sRecord h, sf_sRecord_0 h, sc_sRecord_0 h, sf_sRecord_1 h, sc_sRecord_1 h, sf_sRecord_2 h, sc_sRecord_2 h, sf_sRecord_3 h, sc_sRecord_3 h, sf_sRecord_4 h, sc_sRecord_4 h, sf_sRecord_5 h, sc_sRecord_5 h, h.P, h.oc, h.cl, h.rd, h.ref, strip_P hs, strip_rd hs, strip_ld hs, strip_sl h hs k_sRecord, G5_may, conMay, G5_sq, conSq, refOf_v, hLl, one_ri, one_rb, len_sAdj hA, idx_sAdj hA, ld_sAdj hA, sh_sAdj hA, sw_sAdj hA, sf_sAdj_0 hA, sc_sAdj_0 hA, sf_sAdj_1 hA, sc_sAdj_1 hA, hA.P, hA.oc, hA.cl, hA.rd, hA.ref, strip_P hAs, strip_rd hAs, strip_ld hAs, strip_sl hA hAs k_sAdj, hlt, stB, strip_recD hAs, c1, o0, o1, o2, o5, hig, hil, get_bools, splice_bools, Nat.mul_one, List.length_map, hst]; repeat (refine Vc.mk' ?_; simp only [go_sem, reduceIte, reduceCtorEq, Nat.reduceAdd, Nat.reduceMul, Nat.reduceSub, Nat.reduceLT, Nat.reduceLeDiff, Nat.reduceEqDiff, Int.reduceEq, Int.reduceLT, Int.reduceLE, Int.reduceNe, len_sRecord h, idx_sRecord h, ld_sRecord h, sh_sRecord h, sw_sRecord h, sf_sRecord_0 h, sc_sRecord_0 h, sf_sRecord_1 h, sc_sRecord_1 h, sf_sRecord_2 h, sc_sRecord_2 h, sf_sRecord_3 h, sc_sRecord_3 h, sf_sRecord_4 h, sc_sRecord_4 h, sf_sRecord_5 h, sc_sRecord_5 h, h.P, h.oc, h.cl, h.rd, h.ref, strip_P hs, strip_rd hs, strip_ld hs, strip_sl h hs k_sRecord, G5_may, conMay, G5_sq, conSq, refOf_v, hLl, one_ri, one_rb, len_sAdj hA, idx_sAdj hA, ld_sAdj hA, sh_sAdj hA, sw_sAdj hA, sf_sAdj_0 hA, sc_sAdj_0 hA, sf_sAdj_1 hA, sc_sAdj_1 hA, hA.P, hA.oc, hA.cl, hA.rd, hA.ref, strip_P hAs, strip_rd hAs, strip_ld hAs, strip_sl hA hAs k_sAdj, hlt, stB, strip_recD hAs, c1, o0, o1, o2, o5, hig, hil, get_bools, splice_bools, Nat.mul_one, List.length_map, hst]))
          refine CW.loopR (stBi hp top v L (at' l k) aj k) (fun j => j ≤ aj.length) (fun j => aj.length - j) 0 (Nat.zero_le _) ?_ ?_
          · exact SubR.mk' [top, top + 1, top + 2, top + 3] hcl (by simp) (by simp) rfl (frSub_ok (by simp [frSub, lkG, ren, renL, renL_set, renL_ints, UpdOk.nil, UpdOk.cons, renOO_some, renO_cells, renO_map, renOO_mkOb, rn_base, rn_add, ren_mkSl, Enc.flat_ren, set_same, set_ne, sets_cons, sets_nil, Keep.set, Keep.setK, Keep.refl, Sc.ren (fun j hj => rn_low hj) hs, ren_ref, SRef.ra_id (fun j hj => rn_low hj) hAs, hLl, renL_bools, hz, en_Record])) (by simp [frSub, lkG, ren, renL, renL_set, renL_ints, UpdOk.nil, UpdOk.cons, renOO_some, renO_cells, renO_map, renOO_mkOb, rn_base, rn_add, ren_mkSl, Enc.flat_ren, set_same, set_ne, sets_cons, sets_nil, Keep.set, Keep.setK, Keep.refl, Sc.ren (fun j hj => rn_low hj) hs, ren_ref, SRef.ra_id (fun j hj => rn_low hj) hAs, hLl, renL_bools, hz, en_Record]) (by simp [frSub, lkG, ren, renL, renL_set, renL_ints, UpdOk.nil, UpdOk.cons, renOO_some, renO_cells, renO_map, renOO_mkOb, rn_base, rn_add, ren_mkSl, Enc.flat_ren, set_same, set_ne, sets_cons, sets_nil, Keep.set, Keep.setK, Keep.refl, Sc.ren (fun j hj => rn_low hj) hs, ren_ref, SRef.ra_id (fun j hj => rn_low hj) hAs, hLl, renL_bools, hz, en_Record])
          · intro j hj
            by_cases hjl : j < aj.length
            · obtain ⟨g1, g2, _⟩ := adjs_rise aj 0 hao j hjl
              have e2 : (at' L k).Adjs = aj := by rw [hat hlt, hD]
              have hss := sOf_step (done := L.take k) (r := at' L k) (k := j) (by rw [e1]; exact c2) (by rw [e2]; exact hjl) (by rw [e1]; exact hro) (by rw [e2]; exact g2) (by rw [e2]; exact g1)
              rw [e1, e2] at hss
              simp only [routerB, Bool.and_eq_true, decide_eq_true_eq] at g2
              have t0 : 0 ≤ (at' aj j).To := by omega
              have t1 : (at' aj j).To < ((25 : Nat) : Int) := by omega
              have t2 : (at' l k).Origin.toNat * 25 + (at' aj j).To.toNat < 625 := by omega
              have t3 : (at' l k).Origin.toNat * 25 + (at' aj j).To.toNat + 1 ≤ 625 := by omega
              have t5 : (at' l k).Origin.toNat * 25 + (at' aj j).To.toNat ≤ 624 := by omega
              have t4 : (at' l k).Origin.toNat * 25 + ((at' aj j).To.toNat + 1) ≤ 625 := by omega
              have hsl := sOf_len (L.take k ++ [takeA (at' L k) j])
              refine CW.vc env5 [0, 2, 3, 4, 5, 7, 9, 10, 11, 12, 13, 24, 30, 31, 32, 33] (by kernel_rfl) ?_
              (simp only [go_sem, reduceIte, reduceCtorEq, Nat.reduceAdd, Nat.reduceMul, Nat.reduceSub, Nat.reduceLT, Nat.reduceLeDiff, Nat.reduceEqDiff, Int.reduceEq, Int.reduceLT, Int.reduceLE, Int.reduceNe, len_sRecord h, idx_sRecord h, ld_sRecord h, sh_sRecord h, sw_sRecord h, sf_sRecord_0 h, sc_sRecord_0 h, sf_sRecord_1 h, sc_sRecord_1 h, sf_sRecord_2 h, sc_sRecord_2 h, sf_sRecord_3 h, sc_sRecord_3 h, sf_sRecord_4 h, sc_sRecord_4 h, sf_sRecord_5 h, sc_sRecord_5 h, h.P, h.oc, h.cl, h.rd, h.ref, strip_P hs, strip_rd hs, strip_ld hs, strip_sl h hs k_sRecord, G5_may, conMay, G5_sq, conSq, refOf_v, hLl, one_ri, one_rb, len_sAdj hA, idx_sAdj hA, ld_sAdj hA, sh_sAdj hA, sw_sAdj hA, sf_sAdj_0 hA, sc_sAdj_0 hA, sf_sAdj_1 hA, sc_sAdj_1 hA, hA.P, hA.oc, hA.cl, hA.rd, hA.ref, strip_P hAs, strip_rd hAs, strip_ld hAs, strip_sl hA hAs k_sAdj, hlt, hjl, stBi, o0, o1, t0, t1, t2, t3, t4, t5, hsl, Nat.mul_one, List.length_map, splice_ints, hss]; repeat (refine Vc.mk' ?_; simp only [go_sem, reduceIte, reduceCtorEq, Nat.reduceAdd, Nat.reduceMul, Nat.reduceSub, Nat.reduceLT, Nat.reduceLeDiff, Nat.reduceEqDiff, Int.reduceEq, Int.reduceLT, Int.reduceLE, Int.reduceNe, len_sRecord h, idx_sRecord h, ld_sRecord h, sh_sRecord h, sw_sRecord h, sf_sRecord_0 h, sc_sRecord_0 h, sf_sRecord_1 h, sc_sRecord_1 h, sf_sRecord_2 h, sc_sRecord_2 h, sf_sRecord_3 h, sc_sRecord_3 h, sf_sRecord_4 h, sc_sRecord_4 h, sf_sRecord_5 h, sc_sRecord_5 h, h.P, h.oc, h.cl, h.rd, h.ref, strip_P hs, strip_rd hs, strip_ld hs, strip_sl h hs k_sRecord, G5_may, conMay, G5_sq, conSq, refOf_v, hLl, one_ri, one_rb, len_sAdj hA, idx_sAdj hA, ld_sAdj hA, sh_sAdj hA, sw_sAdj hA, sf_sAdj_0 hA, sc_sAdj_0 hA, sf_sAdj_1 hA, sc_sAdj_1 hA, hA.P, hA.oc, hA.cl, hA.rd, hA.ref, strip_P hAs, strip_rd hAs, strip_ld hAs, strip_sl hA hAs k_sAdj, hlt, hjl, stBi, o0, o1, t0, t1, t2, t3, t4, t5, hsl, Nat.mul_one, List.length_map, splice_ints, hss]))
              refine .mk (j + 1) hjl (by omega) (SubR.mk' [top, top + 1, top + 2, top + 3] hcl (by simp) (by simp) rfl (frSub_ok (by simp [frSub, lkG, ren, renL, renL_set, renL_ints, UpdOk.nil, UpdOk.cons, renOO_some, renO_cells, renO_map, renOO_mkOb, rn_base, rn_add, ren_mkSl, Enc.flat_ren, set_same, set_ne, sets_cons, sets_nil, Keep.set, Keep.setK, Keep.refl, Sc.ren (fun j hj => rn_low hj) hs, ren_ref, SRef.ra_id (fun j hj => rn_low hj) hAs, hLl, renL_bools, en_Record, wrap_succ hjl hA.le])) (by simp [frSub, lkG, ren, renL, renL_set, renL_ints, UpdOk.nil, UpdOk.cons, renOO_some, renO_cells, renO_map, renOO_mkOb, rn_base, rn_add, ren_mkSl, Enc.flat_ren, set_same, set_ne, sets_cons, sets_nil, Keep.set, Keep.setK, Keep.refl, Sc.ren (fun j hj => rn_low hj) hs, ren_ref, SRef.ra_id (fun j hj => rn_low hj) hAs, hLl, renL_bools, en_Record, wrap_succ hjl hA.le]) (by simp [frSub, lkG, ren, renL, renL_set, renL_ints, UpdOk.nil, UpdOk.cons, renOO_some, renO_cells, renO_map, renOO_mkOb, rn_base, rn_add, ren_mkSl, Enc.flat_ren, set_same, set_ne, sets_cons, sets_nil, Keep.set, Keep.setK, Keep.refl, Sc.ren (fun j hj => rn_low hj) hs, ren_ref, SRef.ra_id (fun j hj => rn_low hj) hAs, hLl, renL_bools, en_Record, wrap_succ hjl hA.le]))
            · have hj2 : j = aj.length := by omega
              subst hj2
              have e2 : (at' L k).Adjs = aj := by rw [hat hlt, hD]
              have hta : takeA (at' L k) aj.length = at' L k := by rw [← e2]; exact takeA_all _
              have htk : L.take k ++ [at' L k] = L.take (k + 1) := (take_at (by omega)).symm
              refine CW.vc env5 [0, 2, 3, 4, 5, 7, 9, 10, 11, 12, 13, 24, 30, 31, 32, 33] (by kernel_rfl) ?_
              (simp only [go_sem, reduceIte, reduceCtorEq, Nat.reduceAdd, Nat.reduceMul, Nat.reduceSub, Nat.reduceLT, Nat.reduceLeDiff, Nat.reduceEqDiff, Int.reduceEq, Int.reduceLT, Int.reduceLE, Int.reduceNe, len_sRecord h, idx_sRecord h, ld_sRecord h, sh_sRecord h, sw_sRecord h, sf_sRecord_0 h, sc_sRecord_0 h, sf_sRecord_1 h, sc_sRecord_1 h, sf_sRecord_2 h, sc_sRecord_2 h, sf_sRecord_3 h, sc_sRecord_3 h, sf_sRecord_4 h, sc_sRecord_4 h, sf_sRecord_5 h, sc_sRecord_5 h, h.P, h.oc, h.cl, h.rd, h.ref, strip_P hs, strip_rd hs, strip_ld hs, strip_sl h hs k_sRecord, G5_may, conMay, G5_sq, conSq, refOf_v, hLl, one_ri, one_rb, len_sAdj hA, idx_sAdj hA, ld_sAdj hA, sh_sAdj hA, sw_sAdj hA, sf_sAdj_0 hA, sc_sAdj_0 hA, sf_sAdj_1 hA, sc_sAdj_1 hA, hA.P, hA.oc, hA.cl, hA.rd, hA.ref, strip_P hAs, strip_rd hAs, strip_ld hAs, strip_sl hA hAs k_sAdj, hlt, stBi, Nat.lt_irrefl, decide_false, hta, htk]; repeat (refine Vc.mk' ?_; simp only [go_sem, reduceIte, reduceCtorEq, Nat.reduceAdd, Nat.reduceMul, Nat.reduceSub, Nat.reduceLT, Nat.reduceLeDiff, Nat.reduceEqDiff, Int.reduceEq, Int.reduceLT, Int.reduceLE, Int.reduceNe, len_sRecord h, idx_sRecord h, ld_sRecord h, sh_sRecord h, sw_sRecord h, sf_sRecord_0 h, sc_sRecord_0 h, sf_sRecord_1 h, sc_sRecord_1 h, sf_sRecord_2 h, sc_sRecord_2 h, sf_sRecord_3 h, sc_sRecord_3 h, sf_sRecord_4 h, sc_sRecord_4 h, sf_sRecord_5 h, sc_sRecord_5 h, h.P, h.oc, h.cl, h.rd, h.ref, strip_P hs, strip_rd hs, strip_ld hs, strip_sl h hs k_sRecord, G5_may, conMay, G5_sq, conSq, refOf_v, hLl, one_ri, one_rb, len_sAdj hA, idx_sAdj hA, ld_sAdj hA, sh_sAdj hA, sw_sAdj hA, sf_sAdj_0 hA, sc_sAdj_0 hA, sf_sAdj_1 hA, sc_sAdj_1 hA, hA.P, hA.oc, hA.cl, hA.rd, hA.ref, strip_P hAs, strip_rd hAs, strip_ld hAs, strip_sl hA hAs k_sAdj, hlt, stBi, Nat.lt_irrefl, decide_false, hta, htk]))
              refine .mk (k + 1) ⟨hlt, ?_⟩ (by omega) (SubR.mk' [top, top + 1, top + 2] hcl (by simp) (by simp) rfl (frSub_ok (by simp [frSub, lkG, ren, renL, renL_set, renL_ints, UpdOk.nil, UpdOk.cons, renOO_some, renO_cells, renO_map, renOO_mkOb, rn_base, rn_add, ren_mkSl, Enc.flat_ren, set_same, set_ne, sets_cons, sets_nil, Keep.set, Keep.setK, Keep.refl, Sc.ren (fun j hj => rn_low hj) hs, hLl, renL_bools, wrap_succ hlt h.le])) (by simp [frSub, lkG, ren, renL, renL_set, renL_ints, UpdOk.nil, UpdOk.cons, renOO_some, renO_cells, renO_map, renOO_mkOb, rn_base, rn_add, ren_mkSl, Enc.flat_ren, set_same, set_ne, sets_cons, sets_nil, Keep.set, Keep.setK, Keep.refl, Sc.ren (fun j hj => rn_low hj) hs, hLl, renL_bools, wrap_succ hlt h.le]) (by simp [frSub, lkG, ren, renL, renL_set, renL_ints, UpdOk.nil, UpdOk.cons, renOO_some, renO_cells, renO_map, renOO_mkOb, rn_base, rn_add, ren_mkSl, Enc.flat_ren, set_same, set_ne, sets_cons, sets_nil, Keep.set, Keep.setK, Keep.refl, Sc.ren (fun j hj => rn_low hj) hs, hLl, renL_bools, wrap_succ hlt h.le]))
              rw [hm, c2, Bool.not_false, Bool.true_and, ← htk, hat hlt]
    · have hk2 : k = l.length := by omega
      subst hk2
      have htl : L.take l.length = L := List.take_of_length_le (by omega)
      have hsl := sOf_len L
      have hil := isOf_len L
      have hb25 : List.take 25 ((isOf L).map Value.bool) = (isOf L).map Value.bool := take_map_len hil
      have hu : uniqF L = true := by rw [hm, List.drop_eq_nil_of_le (by omega)]; rfl
      refine CW.vc env5 [0, 2, 3, 4, 5, 7, 9, 10, 11, 12, 13, 24, 30, 31, 32, 33] (by kernel_rfl) ?_
      (simp only [go_sem, reduceIte, reduceCtorEq, Nat.reduceAdd, Nat.reduceMul, Nat.reduceSub, Nat.reduceLT, Nat.reduceLeDiff, Nat.reduceEqDiff, Int.reduceEq, Int.reduceLT, Int.reduceLE, Int.reduceNe, len_sRecord h, idx_sRecord h, ld_sRecord h, sh_sRecord h, sw_sRecord h, sf_sRecord_0 h, sc_sRecord_0 h, sf_sRecord_1 h, sc_sRecord_1 h, sf_sRecord_2 h, sc_sRecord_2 h, sf_sRecord_3 h, sc_sRecord_3 h, sf_sRecord_4 h, sc_sRecord_4 h, sf_sRecord_5 h, sc_sRecord_5 h, h.P, h.oc, h.cl, h.rd, h.ref, strip_P hs, strip_rd hs, strip_ld hs, strip_sl h hs k_sRecord, G5_may, conMay, G5_sq, conSq, refOf_v, hLl, one_ri, one_rb, stB, Nat.lt_irrefl, decide_false, htl, hsl, hil, hb25, sqOk, sqOf, ints_back, bools_back, List.length_map, resG, nodesA_F, edgesA_F]; repeat (refine Vc.mk' ?_; simp only [go_sem, reduceIte, reduceCtorEq, Nat.reduceAdd, Nat.reduceMul, Nat.reduceSub, Nat.reduceLT, Nat.reduceLeDiff, Nat.reduceEqDiff, Int.reduceEq, Int.reduceLT, Int.reduceLE, Int.reduceNe, len_sRecord h, idx_sRecord h, ld_sRecord h, sh_sRecord h, sw_sRecord h, sf_sRecord_0 h, sc_sRecord_0 h, sf_sRecord_1 h, sc_sRecord_1 h, sf_sRecord_2 h, sc_sRecord_2 h, sf_sRecord_3 h, sc_sRecord_3 h, sf_sRecord_4 h, sc_sRecord_4 h, sf_sRecord_5 h, sc_sRecord_5 h, h.P, h.oc, h.cl, h.rd, h.ref, strip_P hs, strip_rd hs, strip_ld hs, strip_sl h hs k_sRecord, G5_may, conMay, G5_sq, conSq, refOf_v, hLl, one_ri, one_rb, stB, Nat.lt_irrefl, decide_false, htl, hsl, hil, hb25, sqOk, sqOf, ints_back, bools_back, List.length_map, resG, nodesA_F, edgesA_F]))
      simp only [resBoth, nF, eF, errF, hu, if_true]
      exact ⟨[top + 3, top + 4], by simp, by simp, by simp, by simp [frSub, lkG, ren, renL, renL_set, renL_ints, UpdOk.nil, UpdOk.cons, renOO_some, renO_cells, renO_map, renOO_mkOb, rn_base, rn_add, ren_mkSl, Enc.flat_ren, set_same, set_ne, sets_cons, sets_nil, Keep.set, Keep.setK, Keep.refl], by simp [frSub, lkG, ren, renL, renL_set, renL_ints, UpdOk.nil, UpdOk.cons, renOO_some, renO_cells, renO_map, renOO_mkOb, rn_base, rn_add, ren_mkSl, Enc.flat_ren, set_same, set_ne, sets_cons, sets_nil, Keep.set, Keep.setK, Keep.refl], by simp [frSub, lkG, ren, renL, renL_set, renL_ints, UpdOk.nil, UpdOk.cons, renOO_some, renO_cells, renO_map, renOO_mkOb, rn_base, rn_add, ren_mkSl, Enc.flat_ren, set_same, set_ne, sets_cons, sets_nil, Keep.set, Keep.setK, Keep.refl]⟩
def G6 := addG G5 10 conBoth
theorem env6 : EnvV Try.prog tt.get G6 := env5.add both_ok
theorem G6_both : G6 10 = conBoth := rfl
theorem G6_unlike : G6 33 = conUnlike := rfl
theorem G6_rcost : G6 34 = conCost := rfl
end Go.Proofs.Ytaenmabpekbjoaa.Dm
