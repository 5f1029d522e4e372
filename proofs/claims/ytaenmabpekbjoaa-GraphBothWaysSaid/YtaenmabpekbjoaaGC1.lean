/- Graphs that may be, who is near. -/
import Derived.Test.YtaenmabpekbjoaaGCP
import Derived.Test.YtaenmabpekbjoaaGO1
set_option linter.unusedSimpArgs false
set_option linter.unusedVariables false
namespace Go.Proofs.Ytaenmabpekbjoaa.Dm
open Go.Dm
set_option maxHeartbeats 8000000
set_option maxRecDepth 20000

def conIdx : Con := .pure (fun args hp => match args with | [v, n] => SlP e_int hp v ∧ IsI .i64 n | _ => False) (fun args hp => match args with
  | [v, n] => .int .i64 (idxF (e_int.rd hp v) (intOf n)) | _ => undef)
def stIx (hp : Hp) (top : Nat) (v : Value) (x : Int) (n i : Nat) : SS := ⟨[(0, v, true), (1, .int .i64 x, true), (7, .int .i64 (n : Int), true), (8, .int .i64 (i : Int), true)], hp.sets [], top + 0⟩

theorem index_ok : ConOk Try.prog 44 conIdx := by
  refine .mkRd fn44_ok ?_ ?_
  · intro args hp h
    match args, h with
    | [v, n], _ => rfl
  intro args hp hpre top hcl hsc
  match args, hpre with
  | [v, n], ⟨⟨l, h⟩, hx⟩ =>
  rw [hx]
  generalize intOf n = x
  have hs := h.low hcl
  simp only [h.rd, intOf_int]
  refine CalledOk.of_fun tt_ok fn44_ok rfl 19 rfl [.tmp 4] rfl (show 2 ≤ 19 by decide) ?_
  refine CW.vc env14 [0, 1, 4, 5, 7, 8, 9, 16] (by kernel_rfl) ?_
  (simp only [go_sem, reduceIte, reduceCtorEq, Nat.reduceAdd, Nat.reduceMul, Nat.reduceSub, Nat.reduceLT, Nat.reduceLeDiff, Nat.reduceEqDiff, Int.reduceEq, Int.reduceLT, Int.reduceLE, Int.reduceNe, len_sint h, idx_sint h, ld_sint h, sh_sint h, sw_sint h, h.P, h.oc, h.cl, h.rd, h.ref, strip_P hs, strip_rd hs, strip_ld hs, strip_sl h hs k_sint]; repeat (refine Vc.mk' ?_; simp only [go_sem, reduceIte, reduceCtorEq, Nat.reduceAdd, Nat.reduceMul, Nat.reduceSub, Nat.reduceLT, Nat.reduceLeDiff, Nat.reduceEqDiff, Int.reduceEq, Int.reduceLT, Int.reduceLE, Int.reduceNe, len_sint h, idx_sint h, ld_sint h, sh_sint h, sw_sint h, h.P, h.oc, h.cl, h.rd, h.ref, strip_P hs, strip_rd hs, strip_ld hs, strip_sl h hs k_sint]))
  refine CW.loopR (stIx hp top v x l.length) (fun i => i ≤ l.length ∧ (l.take i).any (isI x) = false) (fun i => l.length - i) 0 ⟨Nat.zero_le _, rfl⟩ ?_ ?_
  · exact SubR.mk' [] hcl (by simp) (by simp) rfl (frSub_ok (by simp [frSub, lkG, ren, renL, renL_set, renL_ints, UpdOk.nil, UpdOk.cons, renOO_some, renO_cells, renO_map, renOO_mkOb, rn_base, rn_add, ren_mkSl, Enc.flat_ren, set_same, set_ne, sets_cons, sets_nil, Keep.set, Keep.setK, Keep.refl, Sc.ren (fun j hj => rn_low hj) hs])) (by simp [frSub, lkG, ren, renL, renL_set, renL_ints, UpdOk.nil, UpdOk.cons, renOO_some, renO_cells, renO_map, renOO_mkOb, rn_base, rn_add, ren_mkSl, Enc.flat_ren, set_same, set_ne, sets_cons, sets_nil, Keep.set, Keep.setK, Keep.refl, Sc.ren (fun j hj => rn_low hj) hs]) (by simp [frSub, lkG, ren, renL, renL_set, renL_ints, UpdOk.nil, UpdOk.cons, renOO_some, renO_cells, renO_map, renOO_mkOb, rn_base, rn_add, ren_mkSl, Enc.flat_ren, set_same, set_ne, sets_cons, sets_nil, Keep.set, Keep.setK, Keep.refl, Sc.ren (fun j hj => rn_low hj) hs])
  · rintro i ⟨hi, hm⟩
    by_cases hlt : i < l.length
    · have hst := any_take (p := isI x) hlt
      rw [hm, Bool.false_or] at hst
      by_cases hc : x = at' l i
      · have h1 : idxF l x = (i : Int) := idxF_at hlt hm hc.symm
        refine CW.vc env14 [0, 1, 4, 5, 7, 8, 9, 16] (by kernel_rfl) ?_
        (simp only [go_sem, reduceIte, reduceCtorEq, Nat.reduceAdd, Nat.reduceMul, Nat.reduceSub, Nat.reduceLT, Nat.reduceLeDiff, Nat.reduceEqDiff, Int.reduceEq, Int.reduceLT, Int.reduceLE, Int.reduceNe, len_sint h, idx_sint h, ld_sint h, sh_sint h, sw_sint h, h.P, h.oc, h.cl, h.rd, h.ref, strip_P hs, strip_rd hs, strip_ld hs, strip_sl h hs k_sint, stIx, hlt, ← hc, h1]; repeat (refine Vc.mk' ?_; simp only [go_sem, reduceIte, reduceCtorEq, Nat.reduceAdd, Nat.reduceMul, Nat.reduceSub, Nat.reduceLT, Nat.reduceLeDiff, Nat.reduceEqDiff, Int.reduceEq, Int.reduceLT, Int.reduceLE, Int.reduceNe, len_sint h, idx_sint h, ld_sint h, sh_sint h, sw_sint h, h.P, h.oc, h.cl, h.rd, h.ref, strip_P hs, strip_rd hs, strip_ld hs, strip_sl h hs k_sint, stIx, hlt, ← hc, h1]))
      · have h1 : isI x (at' l i) = false := by simp [isI, Ne.symm hc]
        rw [h1] at hst
        refine CW.vc env14 [0, 1, 4, 5, 7, 8, 9, 16] (by kernel_rfl) ?_
        (simp only [go_sem, reduceIte, reduceCtorEq, Nat.reduceAdd, Nat.reduceMul, Nat.reduceSub, Nat.reduceLT, Nat.reduceLeDiff, Nat.reduceEqDiff, Int.reduceEq, Int.reduceLT, Int.reduceLE, Int.reduceNe, len_sint h, idx_sint h, ld_sint h, sh_sint h, sw_sint h, h.P, h.oc, h.cl, h.rd, h.ref, strip_P hs, strip_rd hs, strip_ld hs, strip_sl h hs k_sint, stIx, hlt, hc]; repeat (refine Vc.mk' ?_; simp only [go_sem, reduceIte, reduceCtorEq, Nat.reduceAdd, Nat.reduceMul, Nat.reduceSub, Nat.reduceLT, Nat.reduceLeDiff, Nat.reduceEqDiff, Int.reduceEq, Int.reduceLT, Int.reduceLE, Int.reduceNe, len_sint h, idx_sint h, ld_sint h, sh_sint h, sw_sint h, h.P, h.oc, h.cl, h.rd, h.ref, strip_P hs, strip_rd hs, strip_ld hs, strip_sl h hs k_sint, stIx, hlt, hc]))
        exact .mk (i + 1) ⟨hlt, hst⟩ (by omega) (SubR.mk' [] hcl (by simp) (by simp) rfl (frSub_ok (by simp [frSub, lkG, ren, renL, renL_set, renL_ints, UpdOk.nil, UpdOk.cons, renOO_some, renO_cells, renO_map, renOO_mkOb, rn_base, rn_add, ren_mkSl, Enc.flat_ren, set_same, set_ne, sets_cons, sets_nil, Keep.set, Keep.setK, Keep.refl, Sc.ren (fun j hj => rn_low hj) hs, wrap_succ hlt h.le])) (by simp [frSub, lkG, ren, renL, renL_set, renL_ints, UpdOk.nil, UpdOk.cons, renOO_some, renO_cells, renO_map, renOO_mkOb, rn_base, rn_add, ren_mkSl, Enc.flat_ren, set_same, set_ne, sets_cons, sets_nil, Keep.set, Keep.setK, Keep.refl, Sc.ren (fun j hj => rn_low hj) hs, wrap_succ hlt h.le]) (by simp [frSub, lkG, ren, renL, renL_set, renL_ints, UpdOk.nil, UpdOk.cons, renOO_some, renO_cells, renO_map, renOO_mkOb, rn_base, rn_add, ren_mkSl, Enc.flat_ren, set_same, set_ne, sets_cons, sets_nil, Keep.set, Keep.setK, Keep.refl, Sc.ren (fun j hj => rn_low hj) hs, wrap_succ hlt h.le]))
    · have hi2 : i = l.length := by omega
      subst hi2
      rw [List.take_length] at hm
      have h1 := idxF_none hm
      refine CW.vc env14 [0, 1, 4, 5, 7, 8, 9, 16] (by kernel_rfl) ?_
      (simp only [go_sem, reduceIte, reduceCtorEq, Nat.reduceAdd, Nat.reduceMul, Nat.reduceSub, Nat.reduceLT, Nat.reduceLeDiff, Nat.reduceEqDiff, Int.reduceEq, Int.reduceLT, Int.reduceLE, Int.reduceNe, len_sint h, idx_sint h, ld_sint h, sh_sint h, sw_sint h, h.P, h.oc, h.cl, h.rd, h.ref, strip_P hs, strip_rd hs, strip_ld hs, strip_sl h hs k_sint, stIx, Nat.lt_irrefl, decide_false, h1]; repeat (refine Vc.mk' ?_; simp only [go_sem, reduceIte, reduceCtorEq, Nat.reduceAdd, Nat.reduceMul, Nat.reduceSub, Nat.reduceLT, Nat.reduceLeDiff, Nat.reduceEqDiff, Int.reduceEq, Int.reduceLT, Int.reduceLE, Int.reduceNe, len_sint h, idx_sint h, ld_sint h, sh_sint h, sw_sint h, h.P, h.oc, h.cl, h.rd, h.ref, strip_P hs, strip_rd hs, strip_ld hs, strip_sl h hs k_sint, stIx, Nat.lt_irrefl, decide_false, h1]))
theorem idxF_any' (l : List Int) (n : Int) : (!decide (idxF l n < 0)) = l.any (isI n) := by
  rw [← idxF_any, ← decide_not]; congr 1; simp
def G17 := addG G14 44 conIdx
theorem env17 : EnvV Try.prog tt.get G17 := env14.add index_ok
theorem G17_idx : G17 44 = conIdx := rfl

theorem contains_ok : ConOk Try.prog 35 conHasI := by
  refine .mkRd fn35_ok ?_ ?_
  · intro args hp h
    match args, h with
    | [v, n], _ => rfl
  intro args hp hpre top hcl hsc
  match args, hpre with
  | [v, n], ⟨⟨l, h⟩, hx⟩ =>
  rw [hx]
  generalize intOf n = x
  have hs := h.low hcl
  simp only [h.rd, intOf_int]
  refine CalledOk.of_fun tt_ok fn35_ok rfl 9 rfl [.tmp 4] rfl (show 2 ≤ 9 by decide) ?_
  refine CW.vc env17 [0, 1, 4] (by kernel_rfl) ?_
  (simp only [go_sem, reduceIte, reduceCtorEq, Nat.reduceAdd, Nat.reduceMul, Nat.reduceSub, Nat.reduceLT, Nat.reduceLeDiff, Nat.reduceEqDiff, Int.reduceEq, Int.reduceLT, Int.reduceLE, Int.reduceNe, len_sint h, idx_sint h, ld_sint h, sh_sint h, sw_sint h, h.P, h.oc, h.cl, h.rd, h.ref, strip_P hs, strip_rd hs, strip_ld hs, strip_sl h hs k_sint, G17_idx, conIdx, idxF_any']; repeat (refine Vc.mk' ?_; simp only [go_sem, reduceIte, reduceCtorEq, Nat.reduceAdd, Nat.reduceMul, Nat.reduceSub, Nat.reduceLT, Nat.reduceLeDiff, Nat.reduceEqDiff, Int.reduceEq, Int.reduceLT, Int.reduceLE, Int.reduceNe, len_sint h, idx_sint h, ld_sint h, sh_sint h, sw_sint h, h.P, h.oc, h.cl, h.rd, h.ref, strip_P hs, strip_rd hs, strip_ld hs, strip_sl h hs k_sint, G17_idx, conIdx, idxF_any']))
def G18 := addG G17 35 conHasI
theorem env18 : EnvV Try.prog tt.get G18 := env17.add contains_ok
theorem G18_con : G18 35 = conHasI := rfl
theorem G18_has : G18 36 = conHasI := rfl
theorem G18_router : G18 38 = con1 routerB := rfl
theorem G18_rrouter : G18 40 = con1 routerB := rfl
theorem G18_cost : G18 39 = con1 costB := rfl

def conChk : Con := .pure (fun args hp => match args with | [.agg ⟨[a, b]⟩] => SlP e_int hp a ∧ SlP e_Edge hp b | _ => False) (fun args hp => match args with
  | [.agg ⟨[a, b]⟩] => .int .i64 (errC (e_int.rd hp a) (e_Edge.rd hp b)) | _ => undef)
def lastN (N : List Int) (k : Nat) : Int := ((N.take k).getLast?).getD 0
theorem lastN_zero (N : List Int) : lastN N 0 = 0 := rfl
theorem lastN_succ {N : List Int} {k : Nat} (h : k < N.length) : lastN N (k + 1) = at' N k := by
  unfold lastN; rw [take_at h]; simp
def lastE (E : List T_Edge) (k : Nat) : T_Edge := ((E.take k).getLast?).getD ⟨0, 0, 0⟩
theorem lastE_zero (E : List T_Edge) : lastE E 0 = ⟨0, 0, 0⟩ := rfl
theorem lastE_succ {E : List T_Edge} {k : Nat} (h : k < E.length) : lastE E (k + 1) = at' E k := by
  unfold lastE; rw [take_at h]; simp
theorem errC_1 {N : List Int} (E : List T_Edge) (h : goN 0 N = false) : errC N E = 2 := by simp [errC, chkF, h]
theorem errC_2 (N : List Int) {E : List T_Edge} (h : ¬ E.length ≤ 384) : errC N E = 2 := by simp [errC, chkF, h]
theorem errC_3 {N : List Int} {E : List T_Edge} (h : goN 0 N = true) (h2 : E.length ≤ 384) : errC N E = if goE N ⟨0, 0, 0⟩ E = true then 0 else 2 := by simp [errC, chkF, h, h2]
def stC1 (hp : Hp) (top : Nat) (a b : Value) (N : List Int) (k : Nat) : SS :=
  ⟨[(1, .pointer (some ⟨top, 0, none⟩), true), (3, .pointer (some ⟨top + 1, 0, none⟩), true), (4, .int .i64 (lastN N k), true), (11, a, true), (12, .int .i64 (N.length : Int), true), (13, .int .i64 (k : Int), true)],
    hp.sets [(top, some (.cells true 0 [a, b])), (top + 1, some (.cells true 0 ((isR (N.take k)).map Value.bool)))], top + 2⟩
def stC2 (hp : Hp) (top : Nat) (b : Value) (N : List Int) (E : List T_Edge) (k : Nat) : SS :=
  ⟨[(3, .pointer (some ⟨top, 0, none⟩), true), (7, .pointer (some ⟨top + 1, 0, none⟩), true), (34, b, true), (35, .int .i64 (E.length : Int), true), (36, .int .i64 (k : Int), true)],
    hp.sets [(top, some (.cells true 0 ((isR N).map Value.bool))), (top + 1, some (.cells true 0 (e_Edge.enc (lastE E k))))], top + 2⟩

theorem check_ok : ConOk Try.prog 23 conChk := by
  refine .mkRd fn23_ok ?_ ?_
  · intro args hp h
    match args, h with
    | [.agg ⟨[a, b]⟩], _ => rfl
  intro args hp hpre top hcl hsc
  match args, hpre with
  | [.agg ⟨[a, b]⟩], ⟨⟨N, ha⟩, ⟨E, hb⟩⟩ =>
  have as1 := ha.low hcl
  have bs := hb.low hcl
  simp only [ha.rd, hb.rd]
  refine CalledOk.of_fun tt_ok fn23_ok rfl 98 rfl [.tmp 2] rfl (show 1 ≤ 98 by decide) ?_
  refine CW.vc env18 [0, 1, 2, 3, 4, 6, 7, 9, 11, 12, 13, 14, 24, 32, 34, 35, 36, 37, 76, 95] (by kernel_rfl) ?_
  (simp only [go_sem, reduceIte, reduceCtorEq, Nat.reduceAdd, Nat.reduceMul, Nat.reduceSub, Nat.reduceLT, Nat.reduceLeDiff, Nat.reduceEqDiff, Int.reduceEq, Int.reduceLT, Int.reduceLE, Int.reduceNe, len_sint ha, idx_sint ha, ld_sint ha, sh_sint ha, sw_sint ha, ha.P, ha.oc, ha.cl, ha.rd, ha.ref, strip_P as1, strip_rd as1, strip_ld as1, strip_sl ha as1 k_sint, len_sEdge hb, idx_sEdge hb, ld_sEdge hb, sh_sEdge hb, sw_sEdge hb, sf_sEdge_0 hb, sc_sEdge_0 hb, sf_sEdge_1 hb, sc_sEdge_1 hb, sf_sEdge_2 hb, sc_sEdge_2 hb, hb.P, hb.oc, hb.cl, hb.rd, hb.ref, strip_P bs, strip_rd bs, strip_ld bs, strip_sl hb bs k_sEdge, G18_router, G18_cost, con1, one_ri, one_rb]; repeat (refine Vc.mk' ?_; simp only [go_sem, reduceIte, reduceCtorEq, Nat.reduceAdd, Nat.reduceMul, Nat.reduceSub, Nat.reduceLT, Nat.reduceLeDiff, Nat.reduceEqDiff, Int.reduceEq, Int.reduceLT, Int.reduceLE, Int.reduceNe, len_sint ha, idx_sint ha, ld_sint ha, sh_sint ha, sw_sint ha, ha.P, ha.oc, ha.cl, ha.rd, ha.ref, strip_P as1, strip_rd as1, strip_ld as1, strip_sl ha as1 k_sint, len_sEdge hb, idx_sEdge hb, ld_sEdge hb, sh_sEdge hb, sw_sEdge hb, sf_sEdge_0 hb, sc_sEdge_0 hb, sf_sEdge_1 hb, sc_sEdge_1 hb, sf_sEdge_2 hb, sc_sEdge_2 hb, hb.P, hb.oc, hb.cl, hb.rd, hb.ref, strip_P bs, strip_rd bs, strip_ld bs, strip_sl hb bs k_sEdge, G18_router, G18_cost, con1, one_ri, one_rb]))
  refine CW.loopR (stC1 hp top a b N) (fun k => k ≤ N.length ∧ goN 0 N = goN (lastN N k) (N.drop k)) (fun k => N.length - k) 0 ⟨Nat.zero_le _, rfl⟩ ?_ ?_
  · exact SubR.mk' [top, top + 1] hcl (by simp) (by simp) rfl (frSub_ok (by simp [frSub, lkG, ren, renL, renL_set, renL_ints, UpdOk.nil, UpdOk.cons, renOO_some, renO_cells, renO_map, renOO_mkOb, rn_base, rn_add, ren_mkSl, Enc.flat_ren, set_same, set_ne, sets_cons, sets_nil, Keep.set, Keep.setK, Keep.refl, Sc.ren (fun j hj => rn_low hj) as1, Sc.ren (fun j hj => rn_low hj) bs, isR_nil, renL_bools, lastN_zero])) (by simp [frSub, lkG, ren, renL, renL_set, renL_ints, UpdOk.nil, UpdOk.cons, renOO_some, renO_cells, renO_map, renOO_mkOb, rn_base, rn_add, ren_mkSl, Enc.flat_ren, set_same, set_ne, sets_cons, sets_nil, Keep.set, Keep.setK, Keep.refl, Sc.ren (fun j hj => rn_low hj) as1, Sc.ren (fun j hj => rn_low hj) bs, isR_nil, renL_bools, lastN_zero]) (by simp [frSub, lkG, ren, renL, renL_set, renL_ints, UpdOk.nil, UpdOk.cons, renOO_some, renO_cells, renO_map, renOO_mkOb, rn_base, rn_add, ren_mkSl, Enc.flat_ren, set_same, set_ne, sets_cons, sets_nil, Keep.set, Keep.setK, Keep.refl, Sc.ren (fun j hj => rn_low hj) as1, Sc.ren (fun j hj => rn_low hj) bs, isR_nil, renL_bools, lastN_zero])
  · rintro k ⟨hk, hm⟩
    by_cases hlt : k < N.length
    · rw [drop_at hlt, goN] at hm
      have hls := lastN_succ hlt
      generalize hn : at' N k = n at hm hls
      cases c1 : routerB n with
      | false =>
        rw [c1, Bool.false_and, Bool.false_and] at hm
        have e := errC_1 E hm
        refine CW.vc env18 [0, 1, 2, 3, 4, 6, 7, 9, 11, 12, 13, 14, 24, 32, 34, 35, 36, 37, 76, 95] (by kernel_rfl) ?_
        (simp only [go_sem, reduceIte, reduceCtorEq, Nat.reduceAdd, Nat.reduceMul, Nat.reduceSub, Nat.reduceLT, Nat.reduceLeDiff, Nat.reduceEqDiff, Int.reduceEq, Int.reduceLT, Int.reduceLE, Int.reduceNe, len_sint ha, idx_sint ha, ld_sint ha, sh_sint ha, sw_sint ha, ha.P, ha.oc, ha.cl, ha.rd, ha.ref, strip_P as1, strip_rd as1, strip_ld as1, strip_sl ha as1 k_sint, len_sEdge hb, idx_sEdge hb, ld_sEdge hb, sh_sEdge hb, sw_sEdge hb, sf_sEdge_0 hb, sc_sEdge_0 hb, sf_sEdge_1 hb, sc_sEdge_1 hb, sf_sEdge_2 hb, sc_sEdge_2 hb, hb.P, hb.oc, hb.cl, hb.rd, hb.ref, strip_P bs, strip_rd bs, strip_ld bs, strip_sl hb bs k_sEdge, G18_router, G18_cost, con1, one_ri, one_rb, hlt, stC1, hn, c1, e]; repeat (refine Vc.mk' ?_; simp only [go_sem, reduceIte, reduceCtorEq, Nat.reduceAdd, Nat.reduceMul, Nat.reduceSub, Nat.reduceLT, Nat.reduceLeDiff, Nat.reduceEqDiff, Int.reduceEq, Int.reduceLT, Int.reduceLE, Int.reduceNe, len_sint ha, idx_sint ha, ld_sint ha, sh_sint ha, sw_sint ha, ha.P, ha.oc, ha.cl, ha.rd, ha.ref, strip_P as1, strip_rd as1, strip_ld as1, strip_sl ha as1 k_sint, len_sEdge hb, idx_sEdge hb, ld_sEdge hb, sh_sEdge hb, sw_sEdge hb, sf_sEdge_0 hb, sc_sEdge_0 hb, sf_sEdge_1 hb, sc_sEdge_1 hb, sf_sEdge_2 hb, sc_sEdge_2 hb, hb.P, hb.oc, hb.cl, hb.rd, hb.ref, strip_P bs, strip_rd bs, strip_ld bs, strip_sl hb bs k_sEdge, G18_router, G18_cost, con1, one_ri, one_rb, hlt, stC1, hn, c1, e]))
      | true =>
        have hro := c1
        simp only [routerB, Bool.and_eq_true, decide_eq_true_eq] at hro
        have o0 : 0 ≤ n := by omega
        have o1 : n < ((25 : Nat) : Int) := by omega
        have o2 : n.toNat < 25 := by omega
        have o5 : n.toNat ≤ 24 := by omega
        have hl1 : sload tt.get hp 3 (ptrS a k) = (.int .i64 n, True) := by have := ld_sint ha hlt; rw [Nat.mul_one, hn] at this; exact this
        have hil := isR_len (N.take k)
        by_cases c2 : ¬ lastN N k < n
        · rw [c1, decide_eq_false c2, Bool.and_false, Bool.false_and] at hm
          have e := errC_1 E hm
          refine CW.vc env18 [0, 1, 2, 3, 4, 6, 7, 9, 11, 12, 13, 14, 24, 32, 34, 35, 36, 37, 76, 95] (by kernel_rfl) ?_
          (simp only [go_sem, reduceIte, reduceCtorEq, Nat.reduceAdd, Nat.reduceMul, Nat.reduceSub, Nat.reduceLT, Nat.reduceLeDiff, Nat.reduceEqDiff, Int.reduceEq, Int.reduceLT, Int.reduceLE, Int.reduceNe, len_sint ha, idx_sint ha, ld_sint ha, sh_sint ha, sw_sint ha, ha.P, ha.oc, ha.cl, ha.rd, ha.ref, strip_P as1, strip_rd as1, strip_ld as1, strip_sl ha as1 k_sint, len_sEdge hb, idx_sEdge hb, ld_sEdge hb, sh_sEdge hb, sw_sEdge hb, sf_sEdge_0 hb, sc_sEdge_0 hb, sf_sEdge_1 hb, sc_sEdge_1 hb, sf_sEdge_2 hb, sc_sEdge_2 hb, hb.P, hb.oc, hb.cl, hb.rd, hb.ref, strip_P bs, strip_rd bs, strip_ld bs, strip_sl hb bs k_sEdge, G18_router, G18_cost, con1, one_ri, one_rb, hlt, stC1, hn, c1, c2, e]; repeat (refine Vc.mk' ?_; simp only [go_sem, reduceIte, reduceCtorEq, Nat.reduceAdd, Nat.reduceMul, Nat.reduceSub, Nat.reduceLT, Nat.reduceLeDiff, Nat.reduceEqDiff, Int.reduceEq, Int.reduceLT, Int.reduceLE, Int.reduceNe, len_sint ha, idx_sint ha, ld_sint ha, sh_sint ha, sw_sint ha, ha.P, ha.oc, ha.cl, ha.rd, ha.ref, strip_P as1, strip_rd as1, strip_ld as1, strip_sl ha as1 k_sint, len_sEdge hb, idx_sEdge hb, ld_sEdge hb, sh_sEdge hb, sw_sEdge hb, sf_sEdge_0 hb, sc_sEdge_0 hb, sf_sEdge_1 hb, sc_sEdge_1 hb, sf_sEdge_2 hb, sc_sEdge_2 hb, hb.P, hb.oc, hb.cl, hb.rd, hb.ref, strip_P bs, strip_rd bs, strip_ld bs, strip_sl hb bs k_sEdge, G18_router, G18_cost, con1, one_ri, one_rb, hlt, stC1, hn, c1, c2, e]))
        · have c2 : lastN N k < n := Classical.not_not.1 c2
          rw [c1, decide_eq_true c2, Bool.and_self, Bool.true_and] at hm
          have hst := isR_step (done := N.take k) c1
          rw [← hn, ← take_at hlt, hn] at hst
          refine CW.vc env18 [0, 1, 2, 3, 4, 6, 7, 9, 11, 12, 13, 14, 24, 32, 34, 35, 36, 37, 76, 95] (by kernel_rfl) ?_
          (simp only [go_sem, reduceIte, reduceCtorEq, Nat.reduceAdd, Nat.reduceMul, Nat.reduceSub, Nat.reduceLT, Nat.reduceLeDiff, Nat.reduceEqDiff, Int.reduceEq, Int.reduceLT, Int.reduceLE, Int.reduceNe, len_sint ha, idx_sint ha, ld_sint ha, sh_sint ha, sw_sint ha, ha.P, ha.oc, ha.cl, ha.rd, ha.ref, strip_P as1, strip_rd as1, strip_ld as1, strip_sl ha as1 k_sint, len_sEdge hb, idx_sEdge hb, ld_sEdge hb, sh_sEdge hb, sw_sEdge hb, sf_sEdge_0 hb, sc_sEdge_0 hb, sf_sEdge_1 hb, sc_sEdge_1 hb, sf_sEdge_2 hb, sc_sEdge_2 hb, hb.P, hb.oc, hb.cl, hb.rd, hb.ref, strip_P bs, strip_rd bs, strip_ld bs, strip_sl hb bs k_sEdge, G18_router, G18_cost, con1, one_ri, one_rb, hlt, stC1, hn, hl1, c1, c2, o0, o1, o2, o5, hil, get_bools, splice_bools, Nat.mul_one, List.length_map, hst]; repeat (refine Vc.mk' ?_; simp only [go_sem, reduceIte, reduceCtorEq, Nat.reduceAdd, Nat.reduceMul, Nat.reduceSub, Nat.reduceLT, Nat.reduceLeDiff, Nat.reduceEqDiff, Int.reduceEq, Int.reduceLT, Int.reduceLE, Int.reduceNe, len_sint ha, idx_sint ha, ld_sint ha, sh_sint ha, sw_sint ha, ha.P, ha.oc, ha.cl, ha.rd, ha.ref, strip_P as1, strip_rd as1, strip_ld as1, strip_sl ha as1 k_sint, len_sEdge hb, idx_sEdge hb, ld_sEdge hb, sh_sEdge hb, sw_sEdge hb, sf_sEdge_0 hb, sc_sEdge_0 hb, sf_sEdge_1 hb, sc_sEdge_1 hb, sf_sEdge_2 hb, sc_sEdge_2 hb, hb.P, hb.oc, hb.cl, hb.rd, hb.ref, strip_P bs, strip_rd bs, strip_ld bs, strip_sl hb bs k_sEdge, G18_router, G18_cost, con1, one_ri, one_rb, hlt, stC1, hn, hl1, c1, c2, o0, o1, o2, o5, hil, get_bools, splice_bools, Nat.mul_one, List.length_map, hst]))
          exact .mk (k + 1) ⟨hlt, by rw [hls]; exact hm⟩ (by omega) (SubR.mk' [top, top + 1] hcl (by simp) (by simp) rfl (frSub_ok (by simp [frSub, lkG, ren, renL, renL_set, renL_ints, UpdOk.nil, UpdOk.cons, renOO_some, renO_cells, renO_map, renOO_mkOb, rn_base, rn_add, ren_mkSl, Enc.flat_ren, set_same, set_ne, sets_cons, sets_nil, Keep.set, Keep.setK, Keep.refl, Sc.ren (fun j hj => rn_low hj) as1, Sc.ren (fun j hj => rn_low hj) bs, renL_bools, hls, wrap_succ hlt ha.le])) (by simp [frSub, lkG, ren, renL, renL_set, renL_ints, UpdOk.nil, UpdOk.cons, renOO_some, renO_cells, renO_map, renOO_mkOb, rn_base, rn_add, ren_mkSl, Enc.flat_ren, set_same, set_ne, sets_cons, sets_nil, Keep.set, Keep.setK, Keep.refl, Sc.ren (fun j hj => rn_low hj) as1, Sc.ren (fun j hj => rn_low hj) bs, renL_bools, hls, wrap_succ hlt ha.le]) (by simp [frSub, lkG, ren, renL, renL_set, renL_ints, UpdOk.nil, UpdOk.cons, renOO_some, renO_cells, renO_map, renOO_mkOb, rn_base, rn_add, ren_mkSl, Enc.flat_ren, set_same, set_ne, sets_cons, sets_nil, Keep.set, Keep.setK, Keep.refl, Sc.ren (fun j hj => rn_low hj) as1, Sc.ren (fun j hj => rn_low hj) bs, renL_bools, hls, wrap_succ hlt ha.le]))
    · have hk2 : k = N.length := by omega
      subst hk2
      have hG : goN 0 N = true := by rw [hm, List.drop_eq_nil_of_le (Nat.le_refl _)]; rfl
      have hN : ∀ n ∈ N, routerB n = true := fun n hn => ((goN_ok N 0 hG).1 n hn).1
      by_cases hl : E.length ≤ 384
      · have hl2 : ¬ (384 : Int) < (E.length : Int) := by omega
        have hE := errC_3 hG hl
        refine CW.vc env18 [0, 1, 2, 3, 4, 6, 7, 9, 11, 12, 13, 14, 24, 32, 34, 35, 36, 37, 76, 95] (by kernel_rfl) ?_
        (simp only [go_sem, reduceIte, reduceCtorEq, Nat.reduceAdd, Nat.reduceMul, Nat.reduceSub, Nat.reduceLT, Nat.reduceLeDiff, Nat.reduceEqDiff, Int.reduceEq, Int.reduceLT, Int.reduceLE, Int.reduceNe, len_sint ha, idx_sint ha, ld_sint ha, sh_sint ha, sw_sint ha, ha.P, ha.oc, ha.cl, ha.rd, ha.ref, strip_P as1, strip_rd as1, strip_ld as1, strip_sl ha as1 k_sint, len_sEdge hb, idx_sEdge hb, ld_sEdge hb, sh_sEdge hb, sw_sEdge hb, sf_sEdge_0 hb, sc_sEdge_0 hb, sf_sEdge_1 hb, sc_sEdge_1 hb, sf_sEdge_2 hb, sc_sEdge_2 hb, hb.P, hb.oc, hb.cl, hb.rd, hb.ref, strip_P bs, strip_rd bs, strip_ld bs, strip_sl hb bs k_sEdge, G18_router, G18_cost, con1, one_ri, one_rb, stC1, Nat.lt_irrefl, decide_false, hl2]; repeat (refine Vc.mk' ?_; simp only [go_sem, reduceIte, reduceCtorEq, Nat.reduceAdd, Nat.reduceMul, Nat.reduceSub, Nat.reduceLT, Nat.reduceLeDiff, Nat.reduceEqDiff, Int.reduceEq, Int.reduceLT, Int.reduceLE, Int.reduceNe, len_sint ha, idx_sint ha, ld_sint ha, sh_sint ha, sw_sint ha, ha.P, ha.oc, ha.cl, ha.rd, ha.ref, strip_P as1, strip_rd as1, strip_ld as1, strip_sl ha as1 k_sint, len_sEdge hb, idx_sEdge hb, ld_sEdge hb, sh_sEdge hb, sw_sEdge hb, sf_sEdge_0 hb, sc_sEdge_0 hb, sf_sEdge_1 hb, sc_sEdge_1 hb, sf_sEdge_2 hb, sc_sEdge_2 hb, hb.P, hb.oc, hb.cl, hb.rd, hb.ref, strip_P bs, strip_rd bs, strip_ld bs, strip_sl hb bs k_sEdge, G18_router, G18_cost, con1, one_ri, one_rb, stC1, Nat.lt_irrefl, decide_false, hl2]))
        refine CW.loopR (stC2 hp top b N E) (fun k => k ≤ E.length ∧ goE N ⟨0, 0, 0⟩ E = goE N (lastE E k) (E.drop k)) (fun k => E.length - k) 0 ⟨Nat.zero_le _, rfl⟩ ?_ ?_
        · exact SubR.mk' [top + 1, top + 2] hcl (by simp) (by simp) rfl (frSub_ok (by simp [frSub, lkG, ren, renL, renL_set, renL_ints, UpdOk.nil, UpdOk.cons, renOO_some, renO_cells, renO_map, renOO_mkOb, rn_base, rn_add, ren_mkSl, Enc.flat_ren, set_same, set_ne, sets_cons, sets_nil, Keep.set, Keep.setK, Keep.refl, Sc.ren (fun j hj => rn_low hj) bs, List.take_length, renL_bools, lastE_zero, en_Edge])) (by simp [frSub, lkG, ren, renL, renL_set, renL_ints, UpdOk.nil, UpdOk.cons, renOO_some, renO_cells, renO_map, renOO_mkOb, rn_base, rn_add, ren_mkSl, Enc.flat_ren, set_same, set_ne, sets_cons, sets_nil, Keep.set, Keep.setK, Keep.refl, Sc.ren (fun j hj => rn_low hj) bs, List.take_length, renL_bools, lastE_zero, en_Edge]) (by simp [frSub, lkG, ren, renL, renL_set, renL_ints, UpdOk.nil, UpdOk.cons, renOO_some, renO_cells, renO_map, renOO_mkOb, rn_base, rn_add, ren_mkSl, Enc.flat_ren, set_same, set_ne, sets_cons, sets_nil, Keep.set, Keep.setK, Keep.refl, Sc.ren (fun j hj => rn_low hj) bs, List.take_length, renL_bools, lastE_zero, en_Edge])
        · rintro k ⟨hk, hm⟩
          by_cases hlt : k < E.length
          · rw [drop_at hlt, goE] at hm
            have hls := lastE_succ hlt
            have bad : edOk N (at' E k) = false → errC N E = 2 := fun e => by rw [hE, hm, e, Bool.false_and, Bool.false_and]; rfl
            have anyF : ∀ a, routerB a = false → N.any (isI a) = false := fun a ha => by
              cases h' : N.any (isI a) with
              | false => rfl
              | true => have := any_router hN h'; rw [ha] at this; cases this
            cases a1 : routerB (at' E k).From with
            | false =>
              have e := bad (by simp [edOk, anyF _ a1])
              refine CW.vc env18 [0, 1, 2, 3, 4, 6, 7, 9, 11, 12, 13, 14, 24, 32, 34, 35, 36, 37, 76, 95] (by kernel_rfl) ?_
              (simp only [go_sem, reduceIte, reduceCtorEq, Nat.reduceAdd, Nat.reduceMul, Nat.reduceSub, Nat.reduceLT, Nat.reduceLeDiff, Nat.reduceEqDiff, Int.reduceEq, Int.reduceLT, Int.reduceLE, Int.reduceNe, len_sint ha, idx_sint ha, ld_sint ha, sh_sint ha, sw_sint ha, ha.P, ha.oc, ha.cl, ha.rd, ha.ref, strip_P as1, strip_rd as1, strip_ld as1, strip_sl ha as1 k_sint, len_sEdge hb, idx_sEdge hb, ld_sEdge hb, sh_sEdge hb, sw_sEdge hb, sf_sEdge_0 hb, sc_sEdge_0 hb, sf_sEdge_1 hb, sc_sEdge_1 hb, sf_sEdge_2 hb, sc_sEdge_2 hb, hb.P, hb.oc, hb.cl, hb.rd, hb.ref, strip_P bs, strip_rd bs, strip_ld bs, strip_sl hb bs k_sEdge, G18_router, G18_cost, con1, one_ri, one_rb, hlt, stC2, a1, e]; repeat (refine Vc.mk' ?_; simp only [go_sem, reduceIte, reduceCtorEq, Nat.reduceAdd, Nat.reduceMul, Nat.reduceSub, Nat.reduceLT, Nat.reduceLeDiff, Nat.reduceEqDiff, Int.reduceEq, Int.reduceLT, Int.reduceLE, Int.reduceNe, len_sint ha, idx_sint ha, ld_sint ha, sh_sint ha, sw_sint ha, ha.P, ha.oc, ha.cl, ha.rd, ha.ref, strip_P as1, strip_rd as1, strip_ld as1, strip_sl ha as1 k_sint, len_sEdge hb, idx_sEdge hb, ld_sEdge hb, sh_sEdge hb, sw_sEdge hb, sf_sEdge_0 hb, sc_sEdge_0 hb, sf_sEdge_1 hb, sc_sEdge_1 hb, sf_sEdge_2 hb, sc_sEdge_2 hb, hb.P, hb.oc, hb.cl, hb.rd, hb.ref, strip_P bs, strip_rd bs, strip_ld bs, strip_sl hb bs k_sEdge, G18_router, G18_cost, con1, one_ri, one_rb, hlt, stC2, a1, e]))
            | true =>
            cases b1 : routerB (at' E k).To with
            | false =>
              have e := bad (by simp [edOk, anyF _ b1])
              refine CW.vc env18 [0, 1, 2, 3, 4, 6, 7, 9, 11, 12, 13, 14, 24, 32, 34, 35, 36, 37, 76, 95] (by kernel_rfl) ?_
              (simp only [go_sem, reduceIte, reduceCtorEq, Nat.reduceAdd, Nat.reduceMul, Nat.reduceSub, Nat.reduceLT, Nat.reduceLeDiff, Nat.reduceEqDiff, Int.reduceEq, Int.reduceLT, Int.reduceLE, Int.reduceNe, len_sint ha, idx_sint ha, ld_sint ha, sh_sint ha, sw_sint ha, ha.P, ha.oc, ha.cl, ha.rd, ha.ref, strip_P as1, strip_rd as1, strip_ld as1, strip_sl ha as1 k_sint, len_sEdge hb, idx_sEdge hb, ld_sEdge hb, sh_sEdge hb, sw_sEdge hb, sf_sEdge_0 hb, sc_sEdge_0 hb, sf_sEdge_1 hb, sc_sEdge_1 hb, sf_sEdge_2 hb, sc_sEdge_2 hb, hb.P, hb.oc, hb.cl, hb.rd, hb.ref, strip_P bs, strip_rd bs, strip_ld bs, strip_sl hb bs k_sEdge, G18_router, G18_cost, con1, one_ri, one_rb, hlt, stC2, a1, b1, e]; repeat (refine Vc.mk' ?_; simp only [go_sem, reduceIte, reduceCtorEq, Nat.reduceAdd, Nat.reduceMul, Nat.reduceSub, Nat.reduceLT, Nat.reduceLeDiff, Nat.reduceEqDiff, Int.reduceEq, Int.reduceLT, Int.reduceLE, Int.reduceNe, len_sint ha, idx_sint ha, ld_sint ha, sh_sint ha, sw_sint ha, ha.P, ha.oc, ha.cl, ha.rd, ha.ref, strip_P as1, strip_rd as1, strip_ld as1, strip_sl ha as1 k_sint, len_sEdge hb, idx_sEdge hb, ld_sEdge hb, sh_sEdge hb, sw_sEdge hb, sf_sEdge_0 hb, sc_sEdge_0 hb, sf_sEdge_1 hb, sc_sEdge_1 hb, sf_sEdge_2 hb, sc_sEdge_2 hb, hb.P, hb.oc, hb.cl, hb.rd, hb.ref, strip_P bs, strip_rd bs, strip_ld bs, strip_sl hb bs k_sEdge, G18_router, G18_cost, con1, one_ri, one_rb, hlt, stC2, a1, b1, e]))
            | true =>
            have ra := a1
            have rb := b1
            simp only [routerB, Bool.and_eq_true, decide_eq_true_eq] at ra rb
            have o0 : 0 ≤ (at' E k).From := by omega
            have o1 : (at' E k).From < ((25 : Nat) : Int) := by omega
            have o2 : (at' E k).From.toNat < 25 := by omega
            have o5 : (at' E k).From.toNat ≤ 24 := by omega
            have o4 : (((at' E k).From.toNat : Nat) : Int) = (at' E k).From := by omega
            have q0 : 0 ≤ (at' E k).To := by omega
            have q1 : (at' E k).To < ((25 : Nat) : Int) := by omega
            have q2 : (at' E k).To.toNat < 25 := by omega
            have q5 : (at' E k).To.toNat ≤ 24 := by omega
            have q4 : (((at' E k).To.toNat : Nat) : Int) = (at' E k).To := by omega
            have hil := isR_len N
            have hia := isR_get N o2
            have hib := isR_get N q2
            rw [o4] at hia
            rw [q4] at hib
            cases a2 : N.any (isI (at' E k).From) with
            | false =>
              have e := bad (by simp [edOk, a2])
              rw [a2] at hia
              refine CW.vc env18 [0, 1, 2, 3, 4, 6, 7, 9, 11, 12, 13, 14, 24, 32, 34, 35, 36, 37, 76, 95] (by kernel_rfl) ?_
              (simp only [go_sem, reduceIte, reduceCtorEq, Nat.reduceAdd, Nat.reduceMul, Nat.reduceSub, Nat.reduceLT, Nat.reduceLeDiff, Nat.reduceEqDiff, Int.reduceEq, Int.reduceLT, Int.reduceLE, Int.reduceNe, len_sint ha, idx_sint ha, ld_sint ha, sh_sint ha, sw_sint ha, ha.P, ha.oc, ha.cl, ha.rd, ha.ref, strip_P as1, strip_rd as1, strip_ld as1, strip_sl ha as1 k_sint, len_sEdge hb, idx_sEdge hb, ld_sEdge hb, sh_sEdge hb, sw_sEdge hb, sf_sEdge_0 hb, sc_sEdge_0 hb, sf_sEdge_1 hb, sc_sEdge_1 hb, sf_sEdge_2 hb, sc_sEdge_2 hb, hb.P, hb.oc, hb.cl, hb.rd, hb.ref, strip_P bs, strip_rd bs, strip_ld bs, strip_sl hb bs k_sEdge, G18_router, G18_cost, con1, one_ri, one_rb, hlt, stC2, a1, b1, o0, o1, o2, o5, q0, q1, q2, q5, hil, hia, hib, get_bools, get_ints, Nat.mul_one, List.length_map, en_Edge, e]; repeat (refine Vc.mk' ?_; simp only [go_sem, reduceIte, reduceCtorEq, Nat.reduceAdd, Nat.reduceMul, Nat.reduceSub, Nat.reduceLT, Nat.reduceLeDiff, Nat.reduceEqDiff, Int.reduceEq, Int.reduceLT, Int.reduceLE, Int.reduceNe, len_sint ha, idx_sint ha, ld_sint ha, sh_sint ha, sw_sint ha, ha.P, ha.oc, ha.cl, ha.rd, ha.ref, strip_P as1, strip_rd as1, strip_ld as1, strip_sl ha as1 k_sint, len_sEdge hb, idx_sEdge hb, ld_sEdge hb, sh_sEdge hb, sw_sEdge hb, sf_sEdge_0 hb, sc_sEdge_0 hb, sf_sEdge_1 hb, sc_sEdge_1 hb, sf_sEdge_2 hb, sc_sEdge_2 hb, hb.P, hb.oc, hb.cl, hb.rd, hb.ref, strip_P bs, strip_rd bs, strip_ld bs, strip_sl hb bs k_sEdge, G18_router, G18_cost, con1, one_ri, one_rb, hlt, stC2, a1, b1, o0, o1, o2, o5, q0, q1, q2, q5, hil, hia, hib, get_bools, get_ints, Nat.mul_one, List.length_map, en_Edge, e]))
            | true =>
            rw [a2] at hia
            cases b2 : N.any (isI (at' E k).To) with
            | false =>
              have e := bad (by simp [edOk, b2])
              rw [b2] at hib
              refine CW.vc env18 [0, 1, 2, 3, 4, 6, 7, 9, 11, 12, 13, 14, 24, 32, 34, 35, 36, 37, 76, 95] (by kernel_rfl) ?_
              (simp only [go_sem, reduceIte, reduceCtorEq, Nat.reduceAdd, Nat.reduceMul, Nat.reduceSub, Nat.reduceLT, Nat.reduceLeDiff, Nat.reduceEqDiff, Int.reduceEq, Int.reduceLT, Int.reduceLE, Int.reduceNe, len_sint ha, idx_sint ha, ld_sint ha, sh_sint ha, sw_sint ha, ha.P, ha.oc, ha.cl, ha.rd, ha.ref, strip_P as1, strip_rd as1, strip_ld as1, strip_sl ha as1 k_sint, len_sEdge hb, idx_sEdge hb, ld_sEdge hb, sh_sEdge hb, sw_sEdge hb, sf_sEdge_0 hb, sc_sEdge_0 hb, sf_sEdge_1 hb, sc_sEdge_1 hb, sf_sEdge_2 hb, sc_sEdge_2 hb, hb.P, hb.oc, hb.cl, hb.rd, hb.ref, strip_P bs, strip_rd bs, strip_ld bs, strip_sl hb bs k_sEdge, G18_router, G18_cost, con1, one_ri, one_rb, hlt, stC2, a1, b1, o0, o1, o2, o5, q0, q1, q2, q5, hil, hia, hib, get_bools, get_ints, Nat.mul_one, List.length_map, en_Edge, e]; repeat (refine Vc.mk' ?_; simp only [go_sem, reduceIte, reduceCtorEq, Nat.reduceAdd, Nat.reduceMul, Nat.reduceSub, Nat.reduceLT, Nat.reduceLeDiff, Nat.reduceEqDiff, Int.reduceEq, Int.reduceLT, Int.reduceLE, Int.reduceNe, len_sint ha, idx_sint ha, ld_sint ha, sh_sint ha, sw_sint ha, ha.P, ha.oc, ha.cl, ha.rd, ha.ref, strip_P as1, strip_rd as1, strip_ld as1, strip_sl ha as1 k_sint, len_sEdge hb, idx_sEdge hb, ld_sEdge hb, sh_sEdge hb, sw_sEdge hb, sf_sEdge_0 hb, sc_sEdge_0 hb, sf_sEdge_1 hb, sc_sEdge_1 hb, sf_sEdge_2 hb, sc_sEdge_2 hb, hb.P, hb.oc, hb.cl, hb.rd, hb.ref, strip_P bs, strip_rd bs, strip_ld bs, strip_sl hb bs k_sEdge, G18_router, G18_cost, con1, one_ri, one_rb, hlt, stC2, a1, b1, o0, o1, o2, o5, q0, q1, q2, q5, hil, hia, hib, get_bools, get_ints, Nat.mul_one, List.length_map, en_Edge, e]))
            | true =>
            rw [b2] at hib
            by_cases ab : (at' E k).From = (at' E k).To
            · have e := bad (by simp [edOk, ab])
              refine CW.vc env18 [0, 1, 2, 3, 4, 6, 7, 9, 11, 12, 13, 14, 24, 32, 34, 35, 36, 37, 76, 95] (by kernel_rfl) ?_
              (simp only [go_sem, reduceIte, reduceCtorEq, Nat.reduceAdd, Nat.reduceMul, Nat.reduceSub, Nat.reduceLT, Nat.reduceLeDiff, Nat.reduceEqDiff, Int.reduceEq, Int.reduceLT, Int.reduceLE, Int.reduceNe, len_sint ha, idx_sint ha, ld_sint ha, sh_sint ha, sw_sint ha, ha.P, ha.oc, ha.cl, ha.rd, ha.ref, strip_P as1, strip_rd as1, strip_ld as1, strip_sl ha as1 k_sint, len_sEdge hb, idx_sEdge hb, ld_sEdge hb, sh_sEdge hb, sw_sEdge hb, sf_sEdge_0 hb, sc_sEdge_0 hb, sf_sEdge_1 hb, sc_sEdge_1 hb, sf_sEdge_2 hb, sc_sEdge_2 hb, hb.P, hb.oc, hb.cl, hb.rd, hb.ref, strip_P bs, strip_rd bs, strip_ld bs, strip_sl hb bs k_sEdge, G18_router, G18_cost, con1, one_ri, one_rb, hlt, stC2, a1, b1, o0, o1, o2, o5, q0, q1, q2, q5, hil, hia, hib, get_bools, get_ints, Nat.mul_one, List.length_map, en_Edge, ab, e]; repeat (refine Vc.mk' ?_; simp only [go_sem, reduceIte, reduceCtorEq, Nat.reduceAdd, Nat.reduceMul, Nat.reduceSub, Nat.reduceLT, Nat.reduceLeDiff, Nat.reduceEqDiff, Int.reduceEq, Int.reduceLT, Int.reduceLE, Int.reduceNe, len_sint ha, idx_sint ha, ld_sint ha, sh_sint ha, sw_sint ha, ha.P, ha.oc, ha.cl, ha.rd, ha.ref, strip_P as1, strip_rd as1, strip_ld as1, strip_sl ha as1 k_sint, len_sEdge hb, idx_sEdge hb, ld_sEdge hb, sh_sEdge hb, sw_sEdge hb, sf_sEdge_0 hb, sc_sEdge_0 hb, sf_sEdge_1 hb, sc_sEdge_1 hb, sf_sEdge_2 hb, sc_sEdge_2 hb, hb.P, hb.oc, hb.cl, hb.rd, hb.ref, strip_P bs, strip_rd bs, strip_ld bs, strip_sl hb bs k_sEdge, G18_router, G18_cost, con1, one_ri, one_rb, hlt, stC2, a1, b1, o0, o1, o2, o5, q0, q1, q2, q5, hil, hia, hib, get_bools, get_ints, Nat.mul_one, List.length_map, en_Edge, ab, e]))
            cases c3 : costB (at' E k).Cost with
            | false =>
              have e := bad (by simp [edOk, c3])
              refine CW.vc env18 [0, 1, 2, 3, 4, 6, 7, 9, 11, 12, 13, 14, 24, 32, 34, 35, 36, 37, 76, 95] (by kernel_rfl) ?_
              (simp only [go_sem, reduceIte, reduceCtorEq, Nat.reduceAdd, Nat.reduceMul, Nat.reduceSub, Nat.reduceLT, Nat.reduceLeDiff, Nat.reduceEqDiff, Int.reduceEq, Int.reduceLT, Int.reduceLE, Int.reduceNe, len_sint ha, idx_sint ha, ld_sint ha, sh_sint ha, sw_sint ha, ha.P, ha.oc, ha.cl, ha.rd, ha.ref, strip_P as1, strip_rd as1, strip_ld as1, strip_sl ha as1 k_sint, len_sEdge hb, idx_sEdge hb, ld_sEdge hb, sh_sEdge hb, sw_sEdge hb, sf_sEdge_0 hb, sc_sEdge_0 hb, sf_sEdge_1 hb, sc_sEdge_1 hb, sf_sEdge_2 hb, sc_sEdge_2 hb, hb.P, hb.oc, hb.cl, hb.rd, hb.ref, strip_P bs, strip_rd bs, strip_ld bs, strip_sl hb bs k_sEdge, G18_router, G18_cost, con1, one_ri, one_rb, hlt, stC2, a1, b1, o0, o1, o2, o5, q0, q1, q2, q5, hil, hia, hib, get_bools, get_ints, Nat.mul_one, List.length_map, en_Edge, ab, c3, e]; repeat (refine Vc.mk' ?_; simp only [go_sem, reduceIte, reduceCtorEq, Nat.reduceAdd, Nat.reduceMul, Nat.reduceSub, Nat.reduceLT, Nat.reduceLeDiff, Nat.reduceEqDiff, Int.reduceEq, Int.reduceLT, Int.reduceLE, Int.reduceNe, len_sint ha, idx_sint ha, ld_sint ha, sh_sint ha, sw_sint ha, ha.P, ha.oc, ha.cl, ha.rd, ha.ref, strip_P as1, strip_rd as1, strip_ld as1, strip_sl ha as1 k_sint, len_sEdge hb, idx_sEdge hb, ld_sEdge hb, sh_sEdge hb, sw_sEdge hb, sf_sEdge_0 hb, sc_sEdge_0 hb, sf_sEdge_1 hb, sc_sEdge_1 hb, sf_sEdge_2 hb, sc_sEdge_2 hb, hb.P, hb.oc, hb.cl, hb.rd, hb.ref, strip_P bs, strip_rd bs, strip_ld bs, strip_sl hb bs k_sEdge, G18_router, G18_cost, con1, one_ri, one_rb, hlt, stC2, a1, b1, o0, o1, o2, o5, q0, q1, q2, q5, hil, hia, hib, get_bools, get_ints, Nat.mul_one, List.length_map, en_Edge, ab, c3, e]))
            | true =>
            have hed : edOk N (at' E k) = true := by simp [edOk, a2, b2, ab, c3]
            rw [hed, Bool.true_and] at hm
            by_cases f1 : (at' E k).From < (lastE E k).From
            · have e : errC N E = 2 := by
                have : ltE (lastE E k) (at' E k) = false := by simp only [ltE, Bool.or_eq_false_iff, Bool.and_eq_false_iff, decide_eq_false_iff_not]; omega
                rw [hE, hm, this, Bool.false_and]; rfl
              refine CW.vc env18 [0, 1, 2, 3, 4, 6, 7, 9, 11, 12, 13, 14, 24, 32, 34, 35, 36, 37, 76, 95] (by kernel_rfl) ?_
              (simp only [go_sem, reduceIte, reduceCtorEq, Nat.reduceAdd, Nat.reduceMul, Nat.reduceSub, Nat.reduceLT, Nat.reduceLeDiff, Nat.reduceEqDiff, Int.reduceEq, Int.reduceLT, Int.reduceLE, Int.reduceNe, len_sint ha, idx_sint ha, ld_sint ha, sh_sint ha, sw_sint ha, ha.P, ha.oc, ha.cl, ha.rd, ha.ref, strip_P as1, strip_rd as1, strip_ld as1, strip_sl ha as1 k_sint, len_sEdge hb, idx_sEdge hb, ld_sEdge hb, sh_sEdge hb, sw_sEdge hb, sf_sEdge_0 hb, sc_sEdge_0 hb, sf_sEdge_1 hb, sc_sEdge_1 hb, sf_sEdge_2 hb, sc_sEdge_2 hb, hb.P, hb.oc, hb.cl, hb.rd, hb.ref, strip_P bs, strip_rd bs, strip_ld bs, strip_sl hb bs k_sEdge, G18_router, G18_cost, con1, one_ri, one_rb, hlt, stC2, a1, b1, o0, o1, o2, o5, q0, q1, q2, q5, hil, hia, hib, get_bools, get_ints, Nat.mul_one, List.length_map, en_Edge, ab, c3, f1, e]; repeat (refine Vc.mk' ?_; simp only [go_sem, reduceIte, reduceCtorEq, Nat.reduceAdd, Nat.reduceMul, Nat.reduceSub, Nat.reduceLT, Nat.reduceLeDiff, Nat.reduceEqDiff, Int.reduceEq, Int.reduceLT, Int.reduceLE, Int.reduceNe, len_sint ha, idx_sint ha, ld_sint ha, sh_sint ha, sw_sint ha, ha.P, ha.oc, ha.cl, ha.rd, ha.ref, strip_P as1, strip_rd as1, strip_ld as1, strip_sl ha as1 k_sint, len_sEdge hb, idx_sEdge hb, ld_sEdge hb, sh_sEdge hb, sw_sEdge hb, sf_sEdge_0 hb, sc_sEdge_0 hb, sf_sEdge_1 hb, sc_sEdge_1 hb, sf_sEdge_2 hb, sc_sEdge_2 hb, hb.P, hb.oc, hb.cl, hb.rd, hb.ref, strip_P bs, strip_rd bs, strip_ld bs, strip_sl hb bs k_sEdge, G18_router, G18_cost, con1, one_ri, one_rb, hlt, stC2, a1, b1, o0, o1, o2, o5, q0, q1, q2, q5, hil, hia, hib, get_bools, get_ints, Nat.mul_one, List.length_map, en_Edge, ab, c3, f1, e]))
            by_cases f2 : (at' E k).From = (lastE E k).From
            · by_cases f3 : ¬ (lastE E k).To < (at' E k).To
              · have e : errC N E = 2 := by
                  have : ltE (lastE E k) (at' E k) = false := by simp only [ltE, Bool.or_eq_false_iff, Bool.and_eq_false_iff, decide_eq_false_iff_not]; omega
                  rw [hE, hm, this, Bool.false_and]; rfl
                refine CW.vc env18 [0, 1, 2, 3, 4, 6, 7, 9, 11, 12, 13, 14, 24, 32, 34, 35, 36, 37, 76, 95] (by kernel_rfl) ?_
                (simp only [go_sem, reduceIte, reduceCtorEq, Nat.reduceAdd, Nat.reduceMul, Nat.reduceSub, Nat.reduceLT, Nat.reduceLeDiff, Nat.reduceEqDiff, Int.reduceEq, Int.reduceLT, Int.reduceLE, Int.reduceNe, len_sint ha, idx_sint ha, ld_sint ha, sh_sint ha, sw_sint ha, ha.P, ha.oc, ha.cl, ha.rd, ha.ref, strip_P as1, strip_rd as1, strip_ld as1, strip_sl ha as1 k_sint, len_sEdge hb, idx_sEdge hb, ld_sEdge hb, sh_sEdge hb, sw_sEdge hb, sf_sEdge_0 hb, sc_sEdge_0 hb, sf_sEdge_1 hb, sc_sEdge_1 hb, sf_sEdge_2 hb, sc_sEdge_2 hb, hb.P, hb.oc, hb.cl, hb.rd, hb.ref, strip_P bs, strip_rd bs, strip_ld bs, strip_sl hb bs k_sEdge, G18_router, G18_cost, con1, one_ri, one_rb, hlt, stC2, a1, b1, o0, o1, o2, o5, q0, q1, q2, q5, hil, hia, hib, get_bools, get_ints, Nat.mul_one, List.length_map, en_Edge, ab, c3, f1, f2.symm, f3, Int.lt_irrefl, e]; repeat (refine Vc.mk' ?_; simp only [go_sem, reduceIte, reduceCtorEq, Nat.reduceAdd, Nat.reduceMul, Nat.reduceSub, Nat.reduceLT, Nat.reduceLeDiff, Nat.reduceEqDiff, Int.reduceEq, Int.reduceLT, Int.reduceLE, Int.reduceNe, len_sint ha, idx_sint ha, ld_sint ha, sh_sint ha, sw_sint ha, ha.P, ha.oc, ha.cl, ha.rd, ha.ref, strip_P as1, strip_rd as1, strip_ld as1, strip_sl ha as1 k_sint, len_sEdge hb, idx_sEdge hb, ld_sEdge hb, sh_sEdge hb, sw_sEdge hb, sf_sEdge_0 hb, sc_sEdge_0 hb, sf_sEdge_1 hb, sc_sEdge_1 hb, sf_sEdge_2 hb, sc_sEdge_2 hb, hb.P, hb.oc, hb.cl, hb.rd, hb.ref, strip_P bs, strip_rd bs, strip_ld bs, strip_sl hb bs k_sEdge, G18_router, G18_cost, con1, one_ri, one_rb, hlt, stC2, a1, b1, o0, o1, o2, o5, q0, q1, q2, q5, hil, hia, hib, get_bools, get_ints, Nat.mul_one, List.length_map, en_Edge, ab, c3, f1, f2.symm, f3, Int.lt_irrefl, e]))
              · have f3 := Classical.not_not.1 f3
                have hl : ltE (lastE E k) (at' E k) = true := by simp only [ltE, Bool.or_eq_true, Bool.and_eq_true, decide_eq_true_eq]; omega
                rw [hl, Bool.true_and] at hm
                refine CW.vc env18 [0, 1, 2, 3, 4, 6, 7, 9, 11, 12, 13, 14, 24, 32, 34, 35, 36, 37, 76, 95] (by kernel_rfl) ?_
                (simp only [go_sem, reduceIte, reduceCtorEq, Nat.reduceAdd, Nat.reduceMul, Nat.reduceSub, Nat.reduceLT, Nat.reduceLeDiff, Nat.reduceEqDiff, Int.reduceEq, Int.reduceLT, Int.reduceLE, Int.reduceNe, len_sint ha, idx_sint ha, ld_sint ha, sh_sint ha, sw_sint ha, ha.P, ha.oc, ha.cl, ha.rd, ha.ref, strip_P as1, strip_rd as1, strip_ld as1, strip_sl ha as1 k_sint, len_sEdge hb, idx_sEdge hb, ld_sEdge hb, sh_sEdge hb, sw_sEdge hb, sf_sEdge_0 hb, sc_sEdge_0 hb, sf_sEdge_1 hb, sc_sEdge_1 hb, sf_sEdge_2 hb, sc_sEdge_2 hb, hb.P, hb.oc, hb.cl, hb.rd, hb.ref, strip_P bs, strip_rd bs, strip_ld bs, strip_sl hb bs k_sEdge, G18_router, G18_cost, con1, one_ri, one_rb, hlt, stC2, a1, b1, o0, o1, o2, o5, q0, q1, q2, q5, hil, hia, hib, get_bools, get_ints, Nat.mul_one, List.length_map, en_Edge, ab, c3, f1, f2.symm, f3, Int.lt_irrefl]; repeat (refine Vc.mk' ?_; simp only [go_sem, reduceIte, reduceCtorEq, Nat.reduceAdd, Nat.reduceMul, Nat.reduceSub, Nat.reduceLT, Nat.reduceLeDiff, Nat.reduceEqDiff, Int.reduceEq, Int.reduceLT, Int.reduceLE, Int.reduceNe, len_sint ha, idx_sint ha, ld_sint ha, sh_sint ha, sw_sint ha, ha.P, ha.oc, ha.cl, ha.rd, ha.ref, strip_P as1, strip_rd as1, strip_ld as1, strip_sl ha as1 k_sint, len_sEdge hb, idx_sEdge hb, ld_sEdge hb, sh_sEdge hb, sw_sEdge hb, sf_sEdge_0 hb, sc_sEdge_0 hb, sf_sEdge_1 hb, sc_sEdge_1 hb, sf_sEdge_2 hb, sc_sEdge_2 hb, hb.P, hb.oc, hb.cl, hb.rd, hb.ref, strip_P bs, strip_rd bs, strip_ld bs, strip_sl hb bs k_sEdge, G18_router, G18_cost, con1, one_ri, one_rb, hlt, stC2, a1, b1, o0, o1, o2, o5, q0, q1, q2, q5, hil, hia, hib, get_bools, get_ints, Nat.mul_one, List.length_map, en_Edge, ab, c3, f1, f2.symm, f3, Int.lt_irrefl]))
                exact .mk (k + 1) ⟨hlt, by rw [hls]; exact hm⟩ (by omega) (SubR.mk' [top, top + 1] hcl (by simp) (by simp) rfl (frSub_ok (by simp [frSub, lkG, ren, renL, renL_set, renL_ints, UpdOk.nil, UpdOk.cons, renOO_some, renO_cells, renO_map, renOO_mkOb, rn_base, rn_add, ren_mkSl, Enc.flat_ren, set_same, set_ne, sets_cons, sets_nil, Keep.set, Keep.setK, Keep.refl, Sc.ren (fun j hj => rn_low hj) bs, renL_bools, hls, en_Edge, wrap_succ hlt hb.le])) (by simp [frSub, lkG, ren, renL, renL_set, renL_ints, UpdOk.nil, UpdOk.cons, renOO_some, renO_cells, renO_map, renOO_mkOb, rn_base, rn_add, ren_mkSl, Enc.flat_ren, set_same, set_ne, sets_cons, sets_nil, Keep.set, Keep.setK, Keep.refl, Sc.ren (fun j hj => rn_low hj) bs, renL_bools, hls, en_Edge, wrap_succ hlt hb.le]) (by simp [frSub, lkG, ren, renL, renL_set, renL_ints, UpdOk.nil, UpdOk.cons, renOO_some, renO_cells, renO_map, renOO_mkOb, rn_base, rn_add, ren_mkSl, Enc.flat_ren, set_same, set_ne, sets_cons, sets_nil, Keep.set, Keep.setK, Keep.refl, Sc.ren (fun j hj => rn_low hj) bs, renL_bools, hls, en_Edge, wrap_succ hlt hb.le]))
            · have hl : ltE (lastE E k) (at' E k) = true := by simp only [ltE, Bool.or_eq_true, Bool.and_eq_true, decide_eq_true_eq]; omega
              rw [hl, Bool.true_and] at hm
              refine CW.vc env18 [0, 1, 2, 3, 4, 6, 7, 9, 11, 12, 13, 14, 24, 32, 34, 35, 36, 37, 76, 95] (by kernel_rfl) ?_
              (simp only [go_sem, reduceIte, reduceCtorEq, Nat.reduceAdd, Nat.reduceMul, Nat.reduceSub, Nat.reduceLT, Nat.reduceLeDiff, Nat.reduceEqDiff, Int.reduceEq, Int.reduceLT, Int.reduceLE, Int.reduceNe, len_sint ha, idx_sint ha, ld_sint ha, sh_sint ha, sw_sint ha, ha.P, ha.oc, ha.cl, ha.rd, ha.ref, strip_P as1, strip_rd as1, strip_ld as1, strip_sl ha as1 k_sint, len_sEdge hb, idx_sEdge hb, ld_sEdge hb, sh_sEdge hb, sw_sEdge hb, sf_sEdge_0 hb, sc_sEdge_0 hb, sf_sEdge_1 hb, sc_sEdge_1 hb, sf_sEdge_2 hb, sc_sEdge_2 hb, hb.P, hb.oc, hb.cl, hb.rd, hb.ref, strip_P bs, strip_rd bs, strip_ld bs, strip_sl hb bs k_sEdge, G18_router, G18_cost, con1, one_ri, one_rb, hlt, stC2, a1, b1, o0, o1, o2, o5, q0, q1, q2, q5, hil, hia, hib, get_bools, get_ints, Nat.mul_one, List.length_map, en_Edge, ab, c3, f1, f2]; repeat (refine Vc.mk' ?_; simp only [go_sem, reduceIte, reduceCtorEq, Nat.reduceAdd, Nat.reduceMul, Nat.reduceSub, Nat.reduceLT, Nat.reduceLeDiff, Nat.reduceEqDiff, Int.reduceEq, Int.reduceLT, Int.reduceLE, Int.reduceNe, len_sint ha, idx_sint ha, ld_sint ha, sh_sint ha, sw_sint ha, ha.P, ha.oc, ha.cl, ha.rd, ha.ref, strip_P as1, strip_rd as1, strip_ld as1, strip_sl ha as1 k_sint, len_sEdge hb, idx_sEdge hb, ld_sEdge hb, sh_sEdge hb, sw_sEdge hb, sf_sEdge_0 hb, sc_sEdge_0 hb, sf_sEdge_1 hb, sc_sEdge_1 hb, sf_sEdge_2 hb, sc_sEdge_2 hb, hb.P, hb.oc, hb.cl, hb.rd, hb.ref, strip_P bs, strip_rd bs, strip_ld bs, strip_sl hb bs k_sEdge, G18_router, G18_cost, con1, one_ri, one_rb, hlt, stC2, a1, b1, o0, o1, o2, o5, q0, q1, q2, q5, hil, hia, hib, get_bools, get_ints, Nat.mul_one, List.length_map, en_Edge, ab, c3, f1, f2]))
              exact .mk (k + 1) ⟨hlt, by rw [hls]; exact hm⟩ (by omega) (SubR.mk' [top, top + 1] hcl (by simp) (by simp) rfl (frSub_ok (by simp [frSub, lkG, ren, renL, renL_set, renL_ints, UpdOk.nil, UpdOk.cons, renOO_some, renO_cells, renO_map, renOO_mkOb, rn_base, rn_add, ren_mkSl, Enc.flat_ren, set_same, set_ne, sets_cons, sets_nil, Keep.set, Keep.setK, Keep.refl, Sc.ren (fun j hj => rn_low hj) bs, renL_bools, hls, en_Edge, wrap_succ hlt hb.le])) (by simp [frSub, lkG, ren, renL, renL_set, renL_ints, UpdOk.nil, UpdOk.cons, renOO_some, renO_cells, renO_map, renOO_mkOb, rn_base, rn_add, ren_mkSl, Enc.flat_ren, set_same, set_ne, sets_cons, sets_nil, Keep.set, Keep.setK, Keep.refl, Sc.ren (fun j hj => rn_low hj) bs, renL_bools, hls, en_Edge, wrap_succ hlt hb.le]) (by simp [frSub, lkG, ren, renL, renL_set, renL_ints, UpdOk.nil, UpdOk.cons, renOO_some, renO_cells, renO_map, renOO_mkOb, rn_base, rn_add, ren_mkSl, Enc.flat_ren, set_same, set_ne, sets_cons, sets_nil, Keep.set, Keep.setK, Keep.refl, Sc.ren (fun j hj => rn_low hj) bs, renL_bools, hls, en_Edge, wrap_succ hlt hb.le]))
          · have hk2 : k = E.length := by omega
            subst hk2
            have e : errC N E = 0 := by rw [hE, hm, List.drop_eq_nil_of_le (Nat.le_refl _)]; rfl
            refine CW.vc env18 [0, 1, 2, 3, 4, 6, 7, 9, 11, 12, 13, 14, 24, 32, 34, 35, 36, 37, 76, 95] (by kernel_rfl) ?_
            (simp only [go_sem, reduceIte, reduceCtorEq, Nat.reduceAdd, Nat.reduceMul, Nat.reduceSub, Nat.reduceLT, Nat.reduceLeDiff, Nat.reduceEqDiff, Int.reduceEq, Int.reduceLT, Int.reduceLE, Int.reduceNe, len_sint ha, idx_sint ha, ld_sint ha, sh_sint ha, sw_sint ha, ha.P, ha.oc, ha.cl, ha.rd, ha.ref, strip_P as1, strip_rd as1, strip_ld as1, strip_sl ha as1 k_sint, len_sEdge hb, idx_sEdge hb, ld_sEdge hb, sh_sEdge hb, sw_sEdge hb, sf_sEdge_0 hb, sc_sEdge_0 hb, sf_sEdge_1 hb, sc_sEdge_1 hb, sf_sEdge_2 hb, sc_sEdge_2 hb, hb.P, hb.oc, hb.cl, hb.rd, hb.ref, strip_P bs, strip_rd bs, strip_ld bs, strip_sl hb bs k_sEdge, G18_router, G18_cost, con1, one_ri, one_rb, stC2, Nat.lt_irrefl, decide_false, e]; repeat (refine Vc.mk' ?_; simp only [go_sem, reduceIte, reduceCtorEq, Nat.reduceAdd, Nat.reduceMul, Nat.reduceSub, Nat.reduceLT, Nat.reduceLeDiff, Nat.reduceEqDiff, Int.reduceEq, Int.reduceLT, Int.reduceLE, Int.reduceNe, len_sint ha, idx_sint ha, ld_sint ha, sh_sint ha, sw_sint ha, ha.P, ha.oc, ha.cl, ha.rd, ha.ref, strip_P as1, strip_rd as1, strip_ld as1, strip_sl ha as1 k_sint, len_sEdge hb, idx_sEdge hb, ld_sEdge hb, sh_sEdge hb, sw_sEdge hb, sf_sEdge_0 hb, sc_sEdge_0 hb, sf_sEdge_1 hb, sc_sEdge_1 hb, sf_sEdge_2 hb, sc_sEdge_2 hb, hb.P, hb.oc, hb.cl, hb.rd, hb.ref, strip_P bs, strip_rd bs, strip_ld bs, strip_sl hb bs k_sEdge, G18_router, G18_cost, con1, one_ri, one_rb, stC2, Nat.lt_irrefl, decide_false, e]))
      · have hl2 : (384 : Int) < (E.length : Int) := by omega
        have e := errC_2 N hl
        refine CW.vc env18 [0, 1, 2, 3, 4, 6, 7, 9, 11, 12, 13, 14, 24, 32, 34, 35, 36, 37, 76, 95] (by kernel_rfl) ?_
        (simp only [go_sem, reduceIte, reduceCtorEq, Nat.reduceAdd, Nat.reduceMul, Nat.reduceSub, Nat.reduceLT, Nat.reduceLeDiff, Nat.reduceEqDiff, Int.reduceEq, Int.reduceLT, Int.reduceLE, Int.reduceNe, len_sint ha, idx_sint ha, ld_sint ha, sh_sint ha, sw_sint ha, ha.P, ha.oc, ha.cl, ha.rd, ha.ref, strip_P as1, strip_rd as1, strip_ld as1, strip_sl ha as1 k_sint, len_sEdge hb, idx_sEdge hb, ld_sEdge hb, sh_sEdge hb, sw_sEdge hb, sf_sEdge_0 hb, sc_sEdge_0 hb, sf_sEdge_1 hb, sc_sEdge_1 hb, sf_sEdge_2 hb, sc_sEdge_2 hb, hb.P, hb.oc, hb.cl, hb.rd, hb.ref, strip_P bs, strip_rd bs, strip_ld bs, strip_sl hb bs k_sEdge, G18_router, G18_cost, con1, one_ri, one_rb, stC1, Nat.lt_irrefl, decide_false, hl2, e]; repeat (refine Vc.mk' ?_; simp only [go_sem, reduceIte, reduceCtorEq, Nat.reduceAdd, Nat.reduceMul, Nat.reduceSub, Nat.reduceLT, Nat.reduceLeDiff, Nat.reduceEqDiff, Int.reduceEq, Int.reduceLT, Int.reduceLE, Int.reduceNe, len_sint ha, idx_sint ha, ld_sint ha, sh_sint ha, sw_sint ha, ha.P, ha.oc, ha.cl, ha.rd, ha.ref, strip_P as1, strip_rd as1, strip_ld as1, strip_sl ha as1 k_sint, len_sEdge hb, idx_sEdge hb, ld_sEdge hb, sh_sEdge hb, sw_sEdge hb, sf_sEdge_0 hb, sc_sEdge_0 hb, sf_sEdge_1 hb, sc_sEdge_1 hb, sf_sEdge_2 hb, sc_sEdge_2 hb, hb.P, hb.oc, hb.cl, hb.rd, hb.ref, strip_P bs, strip_rd bs, strip_ld bs, strip_sl hb bs k_sEdge, G18_router, G18_cost, con1, one_ri, one_rb, stC1, Nat.lt_irrefl, decide_false, hl2, e]))
end Go.Proofs.Ytaenmabpekbjoaa.Dm
