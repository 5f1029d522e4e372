/- GraphSame: slices.Equal, graph.Same, a graph in memory of its own; the walk. -/
import Derived.Test.YtaenmabpekbjoaaG7
set_option linter.unusedSimpArgs false
set_option linter.unusedVariables false
namespace Go.Proofs.Ytaenmabpekbjoaa.Dm
open Go.Dm
set_option maxHeartbeats 8000000
set_option maxRecDepth 20000

def stQ (hp : Hp) (top : Nat) (u v : Value) (n : Nat) (i : Nat) : SS := ⟨[(0, u, true), (1, v, true), (12, .int .i64 (n : Int), true), (13, .int .i64 (i : Int), true)], hp.sets [], top + 0⟩

theorem eqInts_ok : ConOk Try.prog 41 (conEq e_int) := by
  refine .mkRd fn41_ok ?_ ?_
  · intro args hp h
    match args, h with
    | [u, v], _ => rfl
  intro args hp hpre top hcl hsc
  match args, hpre with
  | [u, v], ⟨⟨l, h⟩, ⟨m, g⟩⟩ =>
  have hs := h.low hcl
  have gs := g.low hcl
  simp only [h.rd, g.rd]
  refine CalledOk.of_fun tt_ok fn41_ok rfl 26 rfl [.tmp 4] rfl (show 2 ≤ 26 by decide) ?_
  by_cases hl : l.length = m.length
  · have hl2 : (l.length : Int) = (m.length : Int) := by omega
    refine CW.vc env9 [0, 1, 4, 5, 10, 12, 13, 14, 24] (by kernel_rfl) ?_
    (simp only [go_sem, reduceIte, reduceCtorEq, Nat.reduceAdd, Nat.reduceMul, Nat.reduceSub, Nat.reduceLT, Nat.reduceLeDiff, Nat.reduceEqDiff, Int.reduceEq, Int.reduceLT, Int.reduceLE, Int.reduceNe, len_sint h, idx_sint h, ld_sint h, sh_sint h, sw_sint h, h.P, h.oc, h.cl, h.rd, h.ref, strip_P hs, strip_rd hs, strip_ld hs, strip_sl h hs k_sint, len_sint g, idx_sint g, ld_sint g, sh_sint g, sw_sint g, g.P, g.oc, g.cl, g.rd, g.ref, strip_P gs, strip_rd gs, strip_ld gs, strip_sl g gs k_sint, hl2]; repeat (refine Vc.mk' ?_; simp only [go_sem, reduceIte, reduceCtorEq, Nat.reduceAdd, Nat.reduceMul, Nat.reduceSub, Nat.reduceLT, Nat.reduceLeDiff, Nat.reduceEqDiff, Int.reduceEq, Int.reduceLT, Int.reduceLE, Int.reduceNe, len_sint h, idx_sint h, ld_sint h, sh_sint h, sw_sint h, h.P, h.oc, h.cl, h.rd, h.ref, strip_P hs, strip_rd hs, strip_ld hs, strip_sl h hs k_sint, len_sint g, idx_sint g, ld_sint g, sh_sint g, sw_sint g, g.P, g.oc, g.cl, g.rd, g.ref, strip_P gs, strip_rd gs, strip_ld gs, strip_sl g gs k_sint, hl2]))
    refine CW.loopR (stQ hp top u v l.length) (fun i => i ≤ l.length ∧ l.take i = m.take i) (fun i => l.length - i) 0 ⟨Nat.zero_le _, rfl⟩ ?_ ?_
    · exact SubR.mk' [] hcl (by simp) (by simp) rfl (frSub_ok (by simp [frSub, lkG, ren, renL, renL_set, renL_ints, UpdOk.nil, UpdOk.cons, renOO_some, renO_cells, renO_map, renOO_mkOb, rn_base, rn_add, ren_mkSl, Enc.flat_ren, set_same, set_ne, sets_cons, sets_nil, Keep.set, Keep.setK, Keep.refl, Sc.ren (fun j hj => rn_low hj) hs, Sc.ren (fun j hj => rn_low hj) gs, hl2])) (by simp [frSub, lkG, ren, renL, renL_set, renL_ints, UpdOk.nil, UpdOk.cons, renOO_some, renO_cells, renO_map, renOO_mkOb, rn_base, rn_add, ren_mkSl, Enc.flat_ren, set_same, set_ne, sets_cons, sets_nil, Keep.set, Keep.setK, Keep.refl, Sc.ren (fun j hj => rn_low hj) hs, Sc.ren (fun j hj => rn_low hj) gs, hl2]) (by simp [frSub, lkG, ren, renL, renL_set, renL_ints, UpdOk.nil, UpdOk.cons, renOO_some, renO_cells, renO_map, renOO_mkOb, rn_base, rn_add, ren_mkSl, Enc.flat_ren, set_same, set_ne, sets_cons, sets_nil, Keep.set, Keep.setK, Keep.refl, Sc.ren (fun j hj => rn_low hj) hs, Sc.ren (fun j hj => rn_low hj) gs, hl2])
    · rintro i ⟨hi, hm⟩
      by_cases hlt : i < l.length
      · have hlm : i < m.length := by omega
        have he := take_eq hl hlt hm
        refine CW.vc env9 [0, 1, 4, 5, 10, 12, 13, 14, 24] (by kernel_rfl) ?_
        (simp only [go_sem, reduceIte, reduceCtorEq, Nat.reduceAdd, Nat.reduceMul, Nat.reduceSub, Nat.reduceLT, Nat.reduceLeDiff, Nat.reduceEqDiff, Int.reduceEq, Int.reduceLT, Int.reduceLE, Int.reduceNe, len_sint h, idx_sint h, ld_sint h, sh_sint h, sw_sint h, h.P, h.oc, h.cl, h.rd, h.ref, strip_P hs, strip_rd hs, strip_ld hs, strip_sl h hs k_sint, len_sint g, idx_sint g, ld_sint g, sh_sint g, sw_sint g, g.P, g.oc, g.cl, g.rd, g.ref, strip_P gs, strip_rd gs, strip_ld gs, strip_sl g gs k_sint, hlt, hlm, stQ]; repeat (refine Vc.mk' ?_; simp only [go_sem, reduceIte, reduceCtorEq, Nat.reduceAdd, Nat.reduceMul, Nat.reduceSub, Nat.reduceLT, Nat.reduceLeDiff, Nat.reduceEqDiff, Int.reduceEq, Int.reduceLT, Int.reduceLE, Int.reduceNe, len_sint h, idx_sint h, ld_sint h, sh_sint h, sw_sint h, h.P, h.oc, h.cl, h.rd, h.ref, strip_P hs, strip_rd hs, strip_ld hs, strip_sl h hs k_sint, len_sint g, idx_sint g, ld_sint g, sh_sint g, sw_sint g, g.P, g.oc, g.cl, g.rd, g.ref, strip_P gs, strip_rd gs, strip_ld gs, strip_sl g gs k_sint, hlt, hlm, stQ]))
        refine condP.mk (fun c => ?_) (fun c => ?_)
        · simp only [Bool.not_eq_true', decide_eq_false_iff_not] at c
          (simp only [go_sem, reduceIte, reduceCtorEq, Nat.reduceAdd, Nat.reduceMul, Nat.reduceSub, Nat.reduceLT, Nat.reduceLeDiff, Nat.reduceEqDiff, Int.reduceEq, Int.reduceLT, Int.reduceLE, Int.reduceNe, len_sint h, idx_sint h, ld_sint h, sh_sint h, sw_sint h, h.P, h.oc, h.cl, h.rd, h.ref, strip_P hs, strip_rd hs, strip_ld hs, strip_sl h hs k_sint, len_sint g, idx_sint g, ld_sint g, sh_sint g, sw_sint g, g.P, g.oc, g.cl, g.rd, g.ref, strip_P gs, strip_rd gs, strip_ld gs, strip_sl g gs k_sint]; repeat (refine Vc.mk' ?_; simp only [go_sem, reduceIte, reduceCtorEq, Nat.reduceAdd, Nat.reduceMul, Nat.reduceSub, Nat.reduceLT, Nat.reduceLeDiff, Nat.reduceEqDiff, Int.reduceEq, Int.reduceLT, Int.reduceLE, Int.reduceNe, len_sint h, idx_sint h, ld_sint h, sh_sint h, sw_sint h, h.P, h.oc, h.cl, h.rd, h.ref, strip_P hs, strip_rd hs, strip_ld hs, strip_sl h hs k_sint, len_sint g, idx_sint g, ld_sint g, sh_sint g, sw_sint g, g.P, g.oc, g.cl, g.rd, g.ref, strip_P gs, strip_rd gs, strip_ld gs, strip_sl g gs k_sint]))
          simp [ne_of_at c]
        · simp only [Bool.not_eq_false', decide_eq_true_eq] at c
          (simp only [go_sem, reduceIte, reduceCtorEq, Nat.reduceAdd, Nat.reduceMul, Nat.reduceSub, Nat.reduceLT, Nat.reduceLeDiff, Nat.reduceEqDiff, Int.reduceEq, Int.reduceLT, Int.reduceLE, Int.reduceNe, len_sint h, idx_sint h, ld_sint h, sh_sint h, sw_sint h, h.P, h.oc, h.cl, h.rd, h.ref, strip_P hs, strip_rd hs, strip_ld hs, strip_sl h hs k_sint, len_sint g, idx_sint g, ld_sint g, sh_sint g, sw_sint g, g.P, g.oc, g.cl, g.rd, g.ref, strip_P gs, strip_rd gs, strip_ld gs, strip_sl g gs k_sint]; repeat (refine Vc.mk' ?_; simp only [go_sem, reduceIte, reduceCtorEq, Nat.reduceAdd, Nat.reduceMul, Nat.reduceSub, Nat.reduceLT, Nat.reduceLeDiff, Nat.reduceEqDiff, Int.reduceEq, Int.reduceLT, Int.reduceLE, Int.reduceNe, len_sint h, idx_sint h, ld_sint h, sh_sint h, sw_sint h, h.P, h.oc, h.cl, h.rd, h.ref, strip_P hs, strip_rd hs, strip_ld hs, strip_sl h hs k_sint, len_sint g, idx_sint g, ld_sint g, sh_sint g, sw_sint g, g.P, g.oc, g.cl, g.rd, g.ref, strip_P gs, strip_rd gs, strip_ld gs, strip_sl g gs k_sint]))
          exact .mk (i + 1) ⟨hlt, he.2 c⟩ (by omega) (SubR.mk' [] hcl (by simp) (by simp) rfl (frSub_ok (by simp [frSub, lkG, ren, renL, renL_set, renL_ints, UpdOk.nil, UpdOk.cons, renOO_some, renO_cells, renO_map, renOO_mkOb, rn_base, rn_add, ren_mkSl, Enc.flat_ren, set_same, set_ne, sets_cons, sets_nil, Keep.set, Keep.setK, Keep.refl, Sc.ren (fun j hj => rn_low hj) hs, Sc.ren (fun j hj => rn_low hj) gs, wrap_succ hlt h.le])) (by simp [frSub, lkG, ren, renL, renL_set, renL_ints, UpdOk.nil, UpdOk.cons, renOO_some, renO_cells, renO_map, renOO_mkOb, rn_base, rn_add, ren_mkSl, Enc.flat_ren, set_same, set_ne, sets_cons, sets_nil, Keep.set, Keep.setK, Keep.refl, Sc.ren (fun j hj => rn_low hj) hs, Sc.ren (fun j hj => rn_low hj) gs, wrap_succ hlt h.le]) (by simp [frSub, lkG, ren, renL, renL_set, renL_ints, UpdOk.nil, UpdOk.cons, renOO_some, renO_cells, renO_map, renOO_mkOb, rn_base, rn_add, ren_mkSl, Enc.flat_ren, set_same, set_ne, sets_cons, sets_nil, Keep.set, Keep.setK, Keep.refl, Sc.ren (fun j hj => rn_low hj) hs, Sc.ren (fun j hj => rn_low hj) gs, wrap_succ hlt h.le]))
      · have hi2 : i = l.length := by omega
        subst hi2
        refine CW.vc env9 [0, 1, 4, 5, 10, 12, 13, 14, 24] (by kernel_rfl) ?_
        (simp only [go_sem, reduceIte, reduceCtorEq, Nat.reduceAdd, Nat.reduceMul, Nat.reduceSub, Nat.reduceLT, Nat.reduceLeDiff, Nat.reduceEqDiff, Int.reduceEq, Int.reduceLT, Int.reduceLE, Int.reduceNe, len_sint h, idx_sint h, ld_sint h, sh_sint h, sw_sint h, h.P, h.oc, h.cl, h.rd, h.ref, strip_P hs, strip_rd hs, strip_ld hs, strip_sl h hs k_sint, len_sint g, idx_sint g, ld_sint g, sh_sint g, sw_sint g, g.P, g.oc, g.cl, g.rd, g.ref, strip_P gs, strip_rd gs, strip_ld gs, strip_sl g gs k_sint, stQ, Nat.lt_irrefl, decide_false]; repeat (refine Vc.mk' ?_; simp only [go_sem, reduceIte, reduceCtorEq, Nat.reduceAdd, Nat.reduceMul, Nat.reduceSub, Nat.reduceLT, Nat.reduceLeDiff, Nat.reduceEqDiff, Int.reduceEq, Int.reduceLT, Int.reduceLE, Int.reduceNe, len_sint h, idx_sint h, ld_sint h, sh_sint h, sw_sint h, h.P, h.oc, h.cl, h.rd, h.ref, strip_P hs, strip_rd hs, strip_ld hs, strip_sl h hs k_sint, len_sint g, idx_sint g, ld_sint g, sh_sint g, sw_sint g, g.P, g.oc, g.cl, g.rd, g.ref, strip_P gs, strip_rd gs, strip_ld gs, strip_sl g gs k_sint, stQ, Nat.lt_irrefl, decide_false]))
        rw [List.take_length, hl, List.take_length] at hm
        simp [hm]
  · have hl2 : ¬ (l.length : Int) = (m.length : Int) := by omega
    refine CW.vc env9 [0, 1, 4, 5, 10, 12, 13, 14, 24] (by kernel_rfl) ?_
    (simp only [go_sem, reduceIte, reduceCtorEq, Nat.reduceAdd, Nat.reduceMul, Nat.reduceSub, Nat.reduceLT, Nat.reduceLeDiff, Nat.reduceEqDiff, Int.reduceEq, Int.reduceLT, Int.reduceLE, Int.reduceNe, len_sint h, idx_sint h, ld_sint h, sh_sint h, sw_sint h, h.P, h.oc, h.cl, h.rd, h.ref, strip_P hs, strip_rd hs, strip_ld hs, strip_sl h hs k_sint, len_sint g, idx_sint g, ld_sint g, sh_sint g, sw_sint g, g.P, g.oc, g.cl, g.rd, g.ref, strip_P gs, strip_rd gs, strip_ld gs, strip_sl g gs k_sint, hl2]; repeat (refine Vc.mk' ?_; simp only [go_sem, reduceIte, reduceCtorEq, Nat.reduceAdd, Nat.reduceMul, Nat.reduceSub, Nat.reduceLT, Nat.reduceLeDiff, Nat.reduceEqDiff, Int.reduceEq, Int.reduceLT, Int.reduceLE, Int.reduceNe, len_sint h, idx_sint h, ld_sint h, sh_sint h, sw_sint h, h.P, h.oc, h.cl, h.rd, h.ref, strip_P hs, strip_rd hs, strip_ld hs, strip_sl h hs k_sint, len_sint g, idx_sint g, ld_sint g, sh_sint g, sw_sint g, g.P, g.oc, g.cl, g.rd, g.ref, strip_P gs, strip_rd gs, strip_ld gs, strip_sl g gs k_sint, hl2]))
    simp [len_ne hl]

theorem eqEdges_ok : ConOk Try.prog 42 (conEq e_Edge) := by
  refine .mkRd fn42_ok ?_ ?_
  · intro args hp h
    match args, h with
    | [u, v], _ => rfl
  intro args hp hpre top hcl hsc
  match args, hpre with
  | [u, v], ⟨⟨l, h⟩, ⟨m, g⟩⟩ =>
  have hs := h.low hcl
  have gs := g.low hcl
  simp only [h.rd, g.rd]
  refine CalledOk.of_fun tt_ok fn42_ok rfl 26 rfl [.tmp 4] rfl (show 2 ≤ 26 by decide) ?_
  by_cases hl : l.length = m.length
  · have hl2 : (l.length : Int) = (m.length : Int) := by omega
    refine CW.vc env9 [0, 1, 4, 5, 10, 12, 13, 14, 24] (by kernel_rfl) ?_
    (simp only [go_sem, reduceIte, reduceCtorEq, Nat.reduceAdd, Nat.reduceMul, Nat.reduceSub, Nat.reduceLT, Nat.reduceLeDiff, Nat.reduceEqDiff, Int.reduceEq, Int.reduceLT, Int.reduceLE, Int.reduceNe, len_sEdge h, idx_sEdge h, ld_sEdge h, sh_sEdge h, sw_sEdge h, sf_sEdge_0 h, sc_sEdge_0 h, sf_sEdge_1 h, sc_sEdge_1 h, sf_sEdge_2 h, sc_sEdge_2 h, h.P, h.oc, h.cl, h.rd, h.ref, strip_P hs, strip_rd hs, strip_ld hs, strip_sl h hs k_sEdge, len_sEdge g, idx_sEdge g, ld_sEdge g, sh_sEdge g, sw_sEdge g, sf_sEdge_0 g, sc_sEdge_0 g, sf_sEdge_1 g, sc_sEdge_1 g, sf_sEdge_2 g, sc_sEdge_2 g, g.P, g.oc, g.cl, g.rd, g.ref, strip_P gs, strip_rd gs, strip_ld gs, strip_sl g gs k_sEdge, hl2]; repeat (refine Vc.mk' ?_; simp only [go_sem, reduceIte, reduceCtorEq, Nat.reduceAdd, Nat.reduceMul, Nat.reduceSub, Nat.reduceLT, Nat.reduceLeDiff, Nat.reduceEqDiff, Int.reduceEq, Int.reduceLT, Int.reduceLE, Int.reduceNe, len_sEdge h, idx_sEdge h, ld_sEdge h, sh_sEdge h, sw_sEdge h, sf_sEdge_0 h, sc_sEdge_0 h, sf_sEdge_1 h, sc_sEdge_1 h, sf_sEdge_2 h, sc_sEdge_2 h, h.P, h.oc, h.cl, h.rd, h.ref, strip_P hs, strip_rd hs, strip_ld hs, strip_sl h hs k_sEdge, len_sEdge g, idx_sEdge g, ld_sEdge g, sh_sEdge g, sw_sEdge g, sf_sEdge_0 g, sc_sEdge_0 g, sf_sEdge_1 g, sc_sEdge_1 g, sf_sEdge_2 g, sc_sEdge_2 g, g.P, g.oc, g.cl, g.rd, g.ref, strip_P gs, strip_rd gs, strip_ld gs, strip_sl g gs k_sEdge, hl2]))
    refine CW.loopR (stQ hp top u v l.length) (fun i => i ≤ l.length ∧ l.take i = m.take i) (fun i => l.length - i) 0 ⟨Nat.zero_le _, rfl⟩ ?_ ?_
    · exact SubR.mk' [] hcl (by simp) (by simp) rfl (frSub_ok (by simp [frSub, lkG, ren, renL, renL_set, renL_ints, UpdOk.nil, UpdOk.cons, renOO_some, renO_cells, renO_map, renOO_mkOb, rn_base, rn_add, ren_mkSl, Enc.flat_ren, set_same, set_ne, sets_cons, sets_nil, Keep.set, Keep.setK, Keep.refl, Sc.ren (fun j hj => rn_low hj) hs, Sc.ren (fun j hj => rn_low hj) gs, hl2])) (by simp [frSub, lkG, ren, renL, renL_set, renL_ints, UpdOk.nil, UpdOk.cons, renOO_some, renO_cells, renO_map, renOO_mkOb, rn_base, rn_add, ren_mkSl, Enc.flat_ren, set_same, set_ne, sets_cons, sets_nil, Keep.set, Keep.setK, Keep.refl, Sc.ren (fun j hj => rn_low hj) hs, Sc.ren (fun j hj => rn_low hj) gs, hl2]) (by simp [frSub, lkG, ren, renL, renL_set, renL_ints, UpdOk.nil, UpdOk.cons, renOO_some, renO_cells, renO_map, renOO_mkOb, rn_base, rn_add, ren_mkSl, Enc.flat_ren, set_same, set_ne, sets_cons, sets_nil, Keep.set, Keep.setK, Keep.refl, Sc.ren (fun j hj => rn_low hj) hs, Sc.ren (fun j hj => rn_low hj) gs, hl2])
    · rintro i ⟨hi, hm⟩
      by_cases hlt : i < l.length
      · have hlm : i < m.length := by omega
        have he := take_eq hl hlt hm
        refine CW.vc env9 [0, 1, 4, 5, 10, 12, 13, 14, 24] (by kernel_rfl) ?_
        (simp only [go_sem, reduceIte, reduceCtorEq, Nat.reduceAdd, Nat.reduceMul, Nat.reduceSub, Nat.reduceLT, Nat.reduceLeDiff, Nat.reduceEqDiff, Int.reduceEq, Int.reduceLT, Int.reduceLE, Int.reduceNe, len_sEdge h, idx_sEdge h, ld_sEdge h, sh_sEdge h, sw_sEdge h, sf_sEdge_0 h, sc_sEdge_0 h, sf_sEdge_1 h, sc_sEdge_1 h, sf_sEdge_2 h, sc_sEdge_2 h, h.P, h.oc, h.cl, h.rd, h.ref, strip_P hs, strip_rd hs, strip_ld hs, strip_sl h hs k_sEdge, len_sEdge g, idx_sEdge g, ld_sEdge g, sh_sEdge g, sw_sEdge g, sf_sEdge_0 g, sc_sEdge_0 g, sf_sEdge_1 g, sc_sEdge_1 g, sf_sEdge_2 g, sc_sEdge_2 g, g.P, g.oc, g.cl, g.rd, g.ref, strip_P gs, strip_rd gs, strip_ld gs, strip_sl g gs k_sEdge, hlt, hlm, stQ, edge_eq]; repeat (refine Vc.mk' ?_; simp only [go_sem, reduceIte, reduceCtorEq, Nat.reduceAdd, Nat.reduceMul, Nat.reduceSub, Nat.reduceLT, Nat.reduceLeDiff, Nat.reduceEqDiff, Int.reduceEq, Int.reduceLT, Int.reduceLE, Int.reduceNe, len_sEdge h, idx_sEdge h, ld_sEdge h, sh_sEdge h, sw_sEdge h, sf_sEdge_0 h, sc_sEdge_0 h, sf_sEdge_1 h, sc_sEdge_1 h, sf_sEdge_2 h, sc_sEdge_2 h, h.P, h.oc, h.cl, h.rd, h.ref, strip_P hs, strip_rd hs, strip_ld hs, strip_sl h hs k_sEdge, len_sEdge g, idx_sEdge g, ld_sEdge g, sh_sEdge g, sw_sEdge g, sf_sEdge_0 g, sc_sEdge_0 g, sf_sEdge_1 g, sc_sEdge_1 g, sf_sEdge_2 g, sc_sEdge_2 g, g.P, g.oc, g.cl, g.rd, g.ref, strip_P gs, strip_rd gs, strip_ld gs, strip_sl g gs k_sEdge, hlt, hlm, stQ, edge_eq]))
        refine condP.mk (fun c => ?_) (fun c => ?_)
        · simp only [Bool.not_eq_true', decide_eq_false_iff_not] at c
          (simp only [go_sem, reduceIte, reduceCtorEq, Nat.reduceAdd, Nat.reduceMul, Nat.reduceSub, Nat.reduceLT, Nat.reduceLeDiff, Nat.reduceEqDiff, Int.reduceEq, Int.reduceLT, Int.reduceLE, Int.reduceNe, len_sEdge h, idx_sEdge h, ld_sEdge h, sh_sEdge h, sw_sEdge h, sf_sEdge_0 h, sc_sEdge_0 h, sf_sEdge_1 h, sc_sEdge_1 h, sf_sEdge_2 h, sc_sEdge_2 h, h.P, h.oc, h.cl, h.rd, h.ref, strip_P hs, strip_rd hs, strip_ld hs, strip_sl h hs k_sEdge, len_sEdge g, idx_sEdge g, ld_sEdge g, sh_sEdge g, sw_sEdge g, sf_sEdge_0 g, sc_sEdge_0 g, sf_sEdge_1 g, sc_sEdge_1 g, sf_sEdge_2 g, sc_sEdge_2 g, g.P, g.oc, g.cl, g.rd, g.ref, strip_P gs, strip_rd gs, strip_ld gs, strip_sl g gs k_sEdge]; repeat (refine Vc.mk' ?_; simp only [go_sem, reduceIte, reduceCtorEq, Nat.reduceAdd, Nat.reduceMul, Nat.reduceSub, Nat.reduceLT, Nat.reduceLeDiff, Nat.reduceEqDiff, Int.reduceEq, Int.reduceLT, Int.reduceLE, Int.reduceNe, len_sEdge h, idx_sEdge h, ld_sEdge h, sh_sEdge h, sw_sEdge h, sf_sEdge_0 h, sc_sEdge_0 h, sf_sEdge_1 h, sc_sEdge_1 h, sf_sEdge_2 h, sc_sEdge_2 h, h.P, h.oc, h.cl, h.rd, h.ref, strip_P hs, strip_rd hs, strip_ld hs, strip_sl h hs k_sEdge, len_sEdge g, idx_sEdge g, ld_sEdge g, sh_sEdge g, sw_sEdge g, sf_sEdge_0 g, sc_sEdge_0 g, sf_sEdge_1 g, sc_sEdge_1 g, sf_sEdge_2 g, sc_sEdge_2 g, g.P, g.oc, g.cl, g.rd, g.ref, strip_P gs, strip_rd gs, strip_ld gs, strip_sl g gs k_sEdge]))
          simp [ne_of_at c]
        · simp only [Bool.not_eq_false', decide_eq_true_eq] at c
          (simp only [go_sem, reduceIte, reduceCtorEq, Nat.reduceAdd, Nat.reduceMul, Nat.reduceSub, Nat.reduceLT, Nat.reduceLeDiff, Nat.reduceEqDiff, Int.reduceEq, Int.reduceLT, Int.reduceLE, Int.reduceNe, len_sEdge h, idx_sEdge h, ld_sEdge h, sh_sEdge h, sw_sEdge h, sf_sEdge_0 h, sc_sEdge_0 h, sf_sEdge_1 h, sc_sEdge_1 h, sf_sEdge_2 h, sc_sEdge_2 h, h.P, h.oc, h.cl, h.rd, h.ref, strip_P hs, strip_rd hs, strip_ld hs, strip_sl h hs k_sEdge, len_sEdge g, idx_sEdge g, ld_sEdge g, sh_sEdge g, sw_sEdge g, sf_sEdge_0 g, sc_sEdge_0 g, sf_sEdge_1 g, sc_sEdge_1 g, sf_sEdge_2 g, sc_sEdge_2 g, g.P, g.oc, g.cl, g.rd, g.ref, strip_P gs, strip_rd gs, strip_ld gs, strip_sl g gs k_sEdge]; repeat (refine Vc.mk' ?_; simp only [go_sem, reduceIte, reduceCtorEq, Nat.reduceAdd, Nat.reduceMul, Nat.reduceSub, Nat.reduceLT, Nat.reduceLeDiff, Nat.reduceEqDiff, Int.reduceEq, Int.reduceLT, Int.reduceLE, Int.reduceNe, len_sEdge h, idx_sEdge h, ld_sEdge h, sh_sEdge h, sw_sEdge h, sf_sEdge_0 h, sc_sEdge_0 h, sf_sEdge_1 h, sc_sEdge_1 h, sf_sEdge_2 h, sc_sEdge_2 h, h.P, h.oc, h.cl, h.rd, h.ref, strip_P hs, strip_rd hs, strip_ld hs, strip_sl h hs k_sEdge, len_sEdge g, idx_sEdge g, ld_sEdge g, sh_sEdge g, sw_sEdge g, sf_sEdge_0 g, sc_sEdge_0 g, sf_sEdge_1 g, sc_sEdge_1 g, sf_sEdge_2 g, sc_sEdge_2 g, g.P, g.oc, g.cl, g.rd, g.ref, strip_P gs, strip_rd gs, strip_ld gs, strip_sl g gs k_sEdge]))
          exact .mk (i + 1) ⟨hlt, he.2 c⟩ (by omega) (SubR.mk' [] hcl (by simp) (by simp) rfl (frSub_ok (by simp [frSub, lkG, ren, renL, renL_set, renL_ints, UpdOk.nil, UpdOk.cons, renOO_some, renO_cells, renO_map, renOO_mkOb, rn_base, rn_add, ren_mkSl, Enc.flat_ren, set_same, set_ne, sets_cons, sets_nil, Keep.set, Keep.setK, Keep.refl, Sc.ren (fun j hj => rn_low hj) hs, Sc.ren (fun j hj => rn_low hj) gs, wrap_succ hlt h.le])) (by simp [frSub, lkG, ren, renL, renL_set, renL_ints, UpdOk.nil, UpdOk.cons, renOO_some, renO_cells, renO_map, renOO_mkOb, rn_base, rn_add, ren_mkSl, Enc.flat_ren, set_same, set_ne, sets_cons, sets_nil, Keep.set, Keep.setK, Keep.refl, Sc.ren (fun j hj => rn_low hj) hs, Sc.ren (fun j hj => rn_low hj) gs, wrap_succ hlt h.le]) (by simp [frSub, lkG, ren, renL, renL_set, renL_ints, UpdOk.nil, UpdOk.cons, renOO_some, renO_cells, renO_map, renOO_mkOb, rn_base, rn_add, ren_mkSl, Enc.flat_ren, set_same, set_ne, sets_cons, sets_nil, Keep.set, Keep.setK, Keep.refl, Sc.ren (fun j hj => rn_low hj) hs, Sc.ren (fun j hj => rn_low hj) gs, wrap_succ hlt h.le]))
      · have hi2 : i = l.length := by omega
        subst hi2
        refine CW.vc env9 [0, 1, 4, 5, 10, 12, 13, 14, 24] (by kernel_rfl) ?_
        (simp only [go_sem, reduceIte, reduceCtorEq, Nat.reduceAdd, Nat.reduceMul, Nat.reduceSub, Nat.reduceLT, Nat.reduceLeDiff, Nat.reduceEqDiff, Int.reduceEq, Int.reduceLT, Int.reduceLE, Int.reduceNe, len_sEdge h, idx_sEdge h, ld_sEdge h, sh_sEdge h, sw_sEdge h, sf_sEdge_0 h, sc_sEdge_0 h, sf_sEdge_1 h, sc_sEdge_1 h, sf_sEdge_2 h, sc_sEdge_2 h, h.P, h.oc, h.cl, h.rd, h.ref, strip_P hs, strip_rd hs, strip_ld hs, strip_sl h hs k_sEdge, len_sEdge g, idx_sEdge g, ld_sEdge g, sh_sEdge g, sw_sEdge g, sf_sEdge_0 g, sc_sEdge_0 g, sf_sEdge_1 g, sc_sEdge_1 g, sf_sEdge_2 g, sc_sEdge_2 g, g.P, g.oc, g.cl, g.rd, g.ref, strip_P gs, strip_rd gs, strip_ld gs, strip_sl g gs k_sEdge, stQ, Nat.lt_irrefl, decide_false]; repeat (refine Vc.mk' ?_; simp only [go_sem, reduceIte, reduceCtorEq, Nat.reduceAdd, Nat.reduceMul, Nat.reduceSub, Nat.reduceLT, Nat.reduceLeDiff, Nat.reduceEqDiff, Int.reduceEq, Int.reduceLT, Int.reduceLE, Int.reduceNe, len_sEdge h, idx_sEdge h, ld_sEdge h, sh_sEdge h, sw_sEdge h, sf_sEdge_0 h, sc_sEdge_0 h, sf_sEdge_1 h, sc_sEdge_1 h, sf_sEdge_2 h, sc_sEdge_2 h, h.P, h.oc, h.cl, h.rd, h.ref, strip_P hs, strip_rd hs, strip_ld hs, strip_sl h hs k_sEdge, len_sEdge g, idx_sEdge g, ld_sEdge g, sh_sEdge g, sw_sEdge g, sf_sEdge_0 g, sc_sEdge_0 g, sf_sEdge_1 g, sc_sEdge_1 g, sf_sEdge_2 g, sc_sEdge_2 g, g.P, g.oc, g.cl, g.rd, g.ref, strip_P gs, strip_rd gs, strip_ld gs, strip_sl g gs k_sEdge, stQ, Nat.lt_irrefl, decide_false]))
        rw [List.take_length, hl, List.take_length] at hm
        simp [hm]
  · have hl2 : ¬ (l.length : Int) = (m.length : Int) := by omega
    refine CW.vc env9 [0, 1, 4, 5, 10, 12, 13, 14, 24] (by kernel_rfl) ?_
    (simp only [go_sem, reduceIte, reduceCtorEq, Nat.reduceAdd, Nat.reduceMul, Nat.reduceSub, Nat.reduceLT, Nat.reduceLeDiff, Nat.reduceEqDiff, Int.reduceEq, Int.reduceLT, Int.reduceLE, Int.reduceNe, len_sEdge h, idx_sEdge h, ld_sEdge h, sh_sEdge h, sw_sEdge h, sf_sEdge_0 h, sc_sEdge_0 h, sf_sEdge_1 h, sc_sEdge_1 h, sf_sEdge_2 h, sc_sEdge_2 h, h.P, h.oc, h.cl, h.rd, h.ref, strip_P hs, strip_rd hs, strip_ld hs, strip_sl h hs k_sEdge, len_sEdge g, idx_sEdge g, ld_sEdge g, sh_sEdge g, sw_sEdge g, sf_sEdge_0 g, sc_sEdge_0 g, sf_sEdge_1 g, sc_sEdge_1 g, sf_sEdge_2 g, sc_sEdge_2 g, g.P, g.oc, g.cl, g.rd, g.ref, strip_P gs, strip_rd gs, strip_ld gs, strip_sl g gs k_sEdge, hl2]; repeat (refine Vc.mk' ?_; simp only [go_sem, reduceIte, reduceCtorEq, Nat.reduceAdd, Nat.reduceMul, Nat.reduceSub, Nat.reduceLT, Nat.reduceLeDiff, Nat.reduceEqDiff, Int.reduceEq, Int.reduceLT, Int.reduceLE, Int.reduceNe, len_sEdge h, idx_sEdge h, ld_sEdge h, sh_sEdge h, sw_sEdge h, sf_sEdge_0 h, sc_sEdge_0 h, sf_sEdge_1 h, sc_sEdge_1 h, sf_sEdge_2 h, sc_sEdge_2 h, h.P, h.oc, h.cl, h.rd, h.ref, strip_P hs, strip_rd hs, strip_ld hs, strip_sl h hs k_sEdge, len_sEdge g, idx_sEdge g, ld_sEdge g, sh_sEdge g, sw_sEdge g, sf_sEdge_0 g, sc_sEdge_0 g, sf_sEdge_1 g, sc_sEdge_1 g, sf_sEdge_2 g, sc_sEdge_2 g, g.P, g.oc, g.cl, g.rd, g.ref, strip_P gs, strip_rd gs, strip_ld gs, strip_sl g gs k_sEdge, hl2]))
    simp [len_ne hl]
def G12 := addG (addG G9 41 (conEq e_int)) 42 (conEq e_Edge)
theorem env12 : EnvV Try.prog tt.get G12 := (env9.add eqInts_ok).add eqEdges_ok
theorem G12_i : G12 41 = conEq e_int := rfl
theorem G12_e : G12 42 = conEq e_Edge := rfl

theorem gsame_ok : ConOk Try.prog 26 conSame := by
  refine .mkRd fn26_ok ?_ ?_
  · intro args hp h
    match args, h with
    | [.agg ⟨[a, b]⟩, .agg ⟨[c, d]⟩], _ => rfl
  intro args hp hpre top hcl hsc
  match args, hpre with
  | [.agg ⟨[a, b]⟩, .agg ⟨[c, d]⟩], ⟨⟨⟨la, ha⟩, ⟨lb, hb⟩⟩, ⟨lc, hc⟩, ⟨ld, hd⟩⟩ =>
  have as1 := ha.low hcl
  have bs := hb.low hcl
  have cs := hc.low hcl
  have ds := hd.low hcl
  simp only [ha.rd, hb.rd, hc.rd, hd.rd]
  refine CalledOk.of_fun tt_ok fn26_ok rfl 17 rfl [.tmp 4] rfl (show 2 ≤ 17 by decide) ?_
  refine CW.vc env12 [0, 1, 2, 3, 4] (by kernel_rfl) ?_
  (simp only [go_sem, reduceIte, reduceCtorEq, Nat.reduceAdd, Nat.reduceMul, Nat.reduceSub, Nat.reduceLT, Nat.reduceLeDiff, Nat.reduceEqDiff, Int.reduceEq, Int.reduceLT, Int.reduceLE, Int.reduceNe, len_sint ha, idx_sint ha, ld_sint ha, sh_sint ha, sw_sint ha, ha.P, ha.oc, ha.cl, ha.rd, ha.ref, strip_P as1, strip_rd as1, strip_ld as1, strip_sl ha as1 k_sint, len_sEdge hb, idx_sEdge hb, ld_sEdge hb, sh_sEdge hb, sw_sEdge hb, sf_sEdge_0 hb, sc_sEdge_0 hb, sf_sEdge_1 hb, sc_sEdge_1 hb, sf_sEdge_2 hb, sc_sEdge_2 hb, hb.P, hb.oc, hb.cl, hb.rd, hb.ref, strip_P bs, strip_rd bs, strip_ld bs, strip_sl hb bs k_sEdge, len_sint hc, idx_sint hc, ld_sint hc, sh_sint hc, sw_sint hc, hc.P, hc.oc, hc.cl, hc.rd, hc.ref, strip_P cs, strip_rd cs, strip_ld cs, strip_sl hc cs k_sint, len_sEdge hd, idx_sEdge hd, ld_sEdge hd, sh_sEdge hd, sw_sEdge hd, sf_sEdge_0 hd, sc_sEdge_0 hd, sf_sEdge_1 hd, sc_sEdge_1 hd, sf_sEdge_2 hd, sc_sEdge_2 hd, hd.P, hd.oc, hd.cl, hd.rd, hd.ref, strip_P ds, strip_rd ds, strip_ld ds, strip_sl hd ds k_sEdge, G12_i, G12_e, conEq]; repeat (refine Vc.mk' ?_; simp only [go_sem, reduceIte, reduceCtorEq, Nat.reduceAdd, Nat.reduceMul, Nat.reduceSub, Nat.reduceLT, Nat.reduceLeDiff, Nat.reduceEqDiff, Int.reduceEq, Int.reduceLT, Int.reduceLE, Int.reduceNe, len_sint ha, idx_sint ha, ld_sint ha, sh_sint ha, sw_sint ha, ha.P, ha.oc, ha.cl, ha.rd, ha.ref, strip_P as1, strip_rd as1, strip_ld as1, strip_sl ha as1 k_sint, len_sEdge hb, idx_sEdge hb, ld_sEdge hb, sh_sEdge hb, sw_sEdge hb, sf_sEdge_0 hb, sc_sEdge_0 hb, sf_sEdge_1 hb, sc_sEdge_1 hb, sf_sEdge_2 hb, sc_sEdge_2 hb, hb.P, hb.oc, hb.cl, hb.rd, hb.ref, strip_P bs, strip_rd bs, strip_ld bs, strip_sl hb bs k_sEdge, len_sint hc, idx_sint hc, ld_sint hc, sh_sint hc, sw_sint hc, hc.P, hc.oc, hc.cl, hc.rd, hc.ref, strip_P cs, strip_rd cs, strip_ld cs, strip_sl hc cs k_sint, len_sEdge hd, idx_sEdge hd, ld_sEdge hd, sh_sEdge hd, sw_sEdge hd, sf_sEdge_0 hd, sc_sEdge_0 hd, sf_sEdge_1 hd, sc_sEdge_1 hd, sf_sEdge_2 hd, sc_sEdge_2 hd, hd.P, hd.oc, hd.cl, hd.rd, hd.ref, strip_P ds, strip_rd ds, strip_ld ds, strip_sl hd ds k_sEdge, G12_i, G12_e, conEq]))
  simp
def ownV (b n : Nat) : Value := .slice (some ⟨b, 0, none⟩) n (n + 1)
def conOwn : Con := .det (fun args hp _ => match args with | [.agg ⟨[a, b]⟩] => (SlP e_int hp a ∧ SlP e_Edge hp b) ∧ roomB ((e_int.rd hp a).length + 1) 8 = true ∧ roomB ((e_Edge.rd hp b).length + 1) 24 = true | _ => False)
  (fun args hp top => match args with | [.agg ⟨[a, b]⟩] => (.agg ⟨[ownV top (e_int.rd hp a).length, ownV (top + 1) (e_Edge.rd hp b).length]⟩,
    [(top, mkOb e_int (e_int.rd hp a ++ [77])), (top + 1, mkOb e_Edge (e_Edge.rd hp b ++ [⟨0, 0, 77⟩]))], top + 2) | _ => (undef, [], top))
theorem roomB_le {n b : Nat} (h : roomB (n + 1) b = true) : roomB n b = true := by
  unfold roomB at h ⊢
  simp only [Bool.and_eq_true] at h ⊢
  have h1 := Nat.le_of_ble_eq_true h.1
  have h2 := Nat.le_of_ble_eq_true h.2
  exact ⟨Nat.ble_eq_true_of_le (by omega), Nat.ble_eq_true_of_le (by rw [Nat.succ_mul] at h2; omega)⟩
theorem roomB_n {n b : Nat} (h : roomB n b = true) : n ≤ 281474976710656 := by
  unfold roomB at h
  simp only [Bool.and_eq_true] at h
  exact Nat.le_of_ble_eq_true h.1

theorem own_ok : ConOk Try.prog 16 conOwn := by
  refine .mkDet fn16_ok ?_
  intro args hp top hpre hcl hsc
  match args, hpre with
  | [.agg ⟨[a, b]⟩], ⟨⟨⟨N, ha⟩, ⟨E, hb⟩⟩, r1, r2⟩ =>
  have as1 := ha.low hcl
  have bs := hb.low hcl
  simp only [ha.rd, hb.rd] at r1 r2 ⊢
  have r3 := roomB_le r1
  have r4 := roomB_le r2
  have n1 := roomB_n r1
  have n2 := roomB_n r2
  have hc1 : ∀ {h' : Hp} {b : Nat}, h' b = mkOb e_int (N ++ [77]) → sslice tt.get h' 23 (.slice (some ⟨b, 0, none⟩) (N.length + 1) (N.length + 1)) none (some (.int .i64 (N.length : Int))) = (.slice (some ⟨b, 0, none⟩) N.length (N.length + 1), True) :=
    fun h => by have := cap_slice (n := N.length + 1) (c := N.length + 1) k_sint t_int h (by simp) (by omega) (k := .i64) (x := (N.length : Int)) (by omega) (by omega); simpa using this
  have hc2 : ∀ {h' : Hp} {b : Nat}, h' b = mkOb e_Edge (E ++ [⟨0, 0, 77⟩]) → sslice tt.get h' 24 (.slice (some ⟨b, 0, none⟩) (E.length + 1) (E.length + 1)) none (some (.int .i64 (E.length : Int))) = (.slice (some ⟨b, 0, none⟩) E.length (E.length + 1), True) :=
    fun h => by have := cap_slice (n := E.length + 1) (c := E.length + 1) k_sEdge t_Edge h (by simp) (by omega) (k := .i64) (x := (E.length : Int)) (by omega) (by omega); simpa using this
  refine CalledOk.of_fun tt_ok fn16_ok rfl 29 rfl [.cell 2 26] rfl (show 1 ≤ 29 by decide) ?_
  refine CW.vc env12 [0, 1, 2, 3, 4, 1000003, 1000004] (by kernel_rfl) ?_
  (simp only [go_sem, reduceIte, reduceCtorEq, Nat.reduceAdd, Nat.reduceMul, Nat.reduceSub, Nat.reduceLT, Nat.reduceLeDiff, Nat.reduceEqDiff, Int.reduceEq, Int.reduceLT, Int.reduceLE, Int.reduceNe, len_sint ha, idx_sint ha, ld_sint ha, sh_sint ha, sw_sint ha, ha.P, ha.oc, ha.cl, ha.rd, ha.ref, strip_P as1, strip_rd as1, strip_ld as1, strip_sl ha as1 k_sint, len_sEdge hb, idx_sEdge hb, ld_sEdge hb, sh_sEdge hb, sw_sEdge hb, sf_sEdge_0 hb, sc_sEdge_0 hb, sf_sEdge_1 hb, sc_sEdge_1 hb, sf_sEdge_2 hb, sc_sEdge_2 hb, hb.P, hb.oc, hb.cl, hb.rd, hb.ref, strip_P bs, strip_rd bs, strip_ld bs, strip_sl hb bs k_sEdge, r1, r2, r3, r4, mkSl_snoc, hc1, hc2]; repeat ((first | refine Vc.mk' ?_ | refine CW.drawX env12 3 [0, 1, 2, 3, 4, 1000003, 1000004] [(2, 4), (7, 3), (7, 4), (7, 5), (8, 3), (8, 4), (8, 5)] (by kernel_rfl) (by kernel_rfl) ?_ | refine CW.drawX env12 4 [0, 1, 2, 3, 4, 1000003, 1000004] [(2, 5), (8, 3), (8, 5), (8, 6), (9, 3), (9, 5), (9, 6)] (by kernel_rfl) (by kernel_rfl) ?_); simp only [go_sem, reduceIte, reduceCtorEq, Nat.reduceAdd, Nat.reduceMul, Nat.reduceSub, Nat.reduceLT, Nat.reduceLeDiff, Nat.reduceEqDiff, Int.reduceEq, Int.reduceLT, Int.reduceLE, Int.reduceNe, len_sint ha, idx_sint ha, ld_sint ha, sh_sint ha, sw_sint ha, ha.P, ha.oc, ha.cl, ha.rd, ha.ref, strip_P as1, strip_rd as1, strip_ld as1, strip_sl ha as1 k_sint, len_sEdge hb, idx_sEdge hb, ld_sEdge hb, sh_sEdge hb, sw_sEdge hb, sf_sEdge_0 hb, sc_sEdge_0 hb, sf_sEdge_1 hb, sc_sEdge_1 hb, sf_sEdge_2 hb, sc_sEdge_2 hb, hb.P, hb.oc, hb.cl, hb.rd, hb.ref, strip_P bs, strip_rd bs, strip_ld bs, strip_sl hb bs k_sEdge, r1, r2, r3, r4, mkSl_snoc, hc1, hc2]))
  exact ⟨[top + 4, top + 7], by simp, by simp, by simp, by simp [frSub, lkG, ren, renL, renL_set, renL_ints, UpdOk.nil, UpdOk.cons, renOO_some, renO_cells, renO_map, renOO_mkOb, rn_base, rn_add, ren_mkSl, Enc.flat_ren, set_same, set_ne, sets_cons, sets_nil, Keep.set, Keep.setK, Keep.refl, ownV], by simp [frSub, lkG, ren, renL, renL_set, renL_ints, UpdOk.nil, UpdOk.cons, renOO_some, renO_cells, renO_map, renOO_mkOb, rn_base, rn_add, ren_mkSl, Enc.flat_ren, set_same, set_ne, sets_cons, sets_nil, Keep.set, Keep.setK, Keep.refl, ownV], by simp [frSub, lkG, ren, renL, renL_set, renL_ints, UpdOk.nil, UpdOk.cons, renOO_some, renO_cells, renO_map, renOO_mkOb, rn_base, rn_add, ren_mkSl, Enc.flat_ren, set_same, set_ne, sets_cons, sets_nil, Keep.set, Keep.setK, Keep.refl, ownV]⟩
theorem ownV_int {h' : Hp} {b : Nat} {N : List Int} (h : h' b = mkOb e_int (N ++ [77])) (hn : N.length ≤ 281474976710656) : SlT e_int h' (ownV b N.length) N := by
  have := SlT.pre (E := e_int) (n := N.length) (c := N.length + 1) h (by simp) (by omega) (by omega) (by omega)
  rwa [List.take_left'] at this
  rfl
theorem ownV_Edge {h' : Hp} {b : Nat} {E : List T_Edge} (h : h' b = mkOb e_Edge (E ++ [⟨0, 0, 77⟩])) (hn : E.length ≤ 281474976710656) : SlT e_Edge h' (ownV b E.length) E := by
  have := SlT.pre (E := e_Edge) (n := E.length) (c := E.length + 1) h (by simp) (by omega) (by omega) (by omega)
  rwa [List.take_left'] at this
  rfl
def G13 := addG (addG G12 26 conSame) 16 conOwn
theorem env13 : EnvV Try.prog tt.get G13 := (env12.add gsame_ok).add own_ok
theorem G13_gsame : G13 26 = conSame := rfl
theorem G13_same : G13 12 = conSame := rfl
theorem G13_own : G13 16 = conOwn := rfl
theorem G13_works : G13 14 = conWorks := rfl

theorem graphSame_walk (hp : Hp) (top : Nat) (a b c d : Value) (la lc : List Int) (lb ld : List T_Edge) (ha : SlT e_int hp a la) (hb : SlT e_Edge hp b lb) (hc : SlT e_int hp c lc) (hd : SlT e_Edge hp d ld)
    (hcl : Cl hp top) (r1 : roomB (la.length + 1) 8 = true) (r2 : roomB (lb.length + 1) 24 = true) :
    CalledOk Try.prog 6 [.agg ⟨[a, b]⟩, .agg ⟨[c, d]⟩] hp top fun r hp' _ => r = .bool true ∧ Keep top [] hp' hp := by
  have as1 := ha.low hcl
  have bs := hb.low hcl
  have cs := hc.low hcl
  have ds := hd.low hcl
  have n1 := roomB_n r1
  have n2 := roomB_n r2
  have o1 : ∀ {h' : Hp} {b : Nat}, h' b = mkOb e_int (la ++ [77]) → SlP e_int h' (ownV b la.length) = True := fun h => (ownV_int h (by omega)).P
  have o2 : ∀ {h' : Hp} {b : Nat}, h' b = mkOb e_int (la ++ [77]) → e_int.rd h' (ownV b la.length) = la := fun h => (ownV_int h (by omega)).rd
  have o3 : ∀ {h' : Hp} {b : Nat}, h' b = mkOb e_Edge (lb ++ [⟨0, 0, 77⟩]) → SlP e_Edge h' (ownV b lb.length) = True := fun h => (ownV_Edge h (by omega)).P
  have o4 : ∀ {h' : Hp} {b : Nat}, h' b = mkOb e_Edge (lb ++ [⟨0, 0, 77⟩]) → e_Edge.rd h' (ownV b lb.length) = lb := fun h => (ownV_Edge h (by omega)).rd
  refine CalledOk.of_fun tt_ok fn6_ok rfl 21 rfl [.tmp 4] rfl (show 2 ≤ 21 by decide) ?_
  refine CW.vc env13 [0, 1, 2, 3, 4, 1000001] (by kernel_rfl) ?_
  (simp only [go_sem, reduceIte, reduceCtorEq, Nat.reduceAdd, Nat.reduceMul, Nat.reduceSub, Nat.reduceLT, Nat.reduceLeDiff, Nat.reduceEqDiff, Int.reduceEq, Int.reduceLT, Int.reduceLE, Int.reduceNe, len_sint ha, idx_sint ha, ld_sint ha, sh_sint ha, sw_sint ha, ha.P, ha.oc, ha.cl, ha.rd, ha.ref, strip_P as1, strip_rd as1, strip_ld as1, strip_sl ha as1 k_sint, len_sEdge hb, idx_sEdge hb, ld_sEdge hb, sh_sEdge hb, sw_sEdge hb, sf_sEdge_0 hb, sc_sEdge_0 hb, sf_sEdge_1 hb, sc_sEdge_1 hb, sf_sEdge_2 hb, sc_sEdge_2 hb, hb.P, hb.oc, hb.cl, hb.rd, hb.ref, strip_P bs, strip_rd bs, strip_ld bs, strip_sl hb bs k_sEdge, len_sint hc, idx_sint hc, ld_sint hc, sh_sint hc, sw_sint hc, hc.P, hc.oc, hc.cl, hc.rd, hc.ref, strip_P cs, strip_rd cs, strip_ld cs, strip_sl hc cs k_sint, len_sEdge hd, idx_sEdge hd, ld_sEdge hd, sh_sEdge hd, sw_sEdge hd, sf_sEdge_0 hd, sc_sEdge_0 hd, sf_sEdge_1 hd, sc_sEdge_1 hd, sf_sEdge_2 hd, sc_sEdge_2 hd, hd.P, hd.oc, hd.cl, hd.rd, hd.ref, strip_P ds, strip_rd ds, strip_ld ds, strip_sl hd ds k_sEdge, r1, r2, G13_gsame, G13_same, conSame, G13_own, conOwn, G13_works, conWorks, o1, o2, o3, o4]; repeat ((first | refine Vc.mk' ?_ | refine CW.drawX env13 1 [0, 1, 2, 3, 4, 1000001] [(8, 10)] (by kernel_rfl) (by kernel_rfl) ?_); simp only [go_sem, reduceIte, reduceCtorEq, Nat.reduceAdd, Nat.reduceMul, Nat.reduceSub, Nat.reduceLT, Nat.reduceLeDiff, Nat.reduceEqDiff, Int.reduceEq, Int.reduceLT, Int.reduceLE, Int.reduceNe, len_sint ha, idx_sint ha, ld_sint ha, sh_sint ha, sw_sint ha, ha.P, ha.oc, ha.cl, ha.rd, ha.ref, strip_P as1, strip_rd as1, strip_ld as1, strip_sl ha as1 k_sint, len_sEdge hb, idx_sEdge hb, ld_sEdge hb, sh_sEdge hb, sw_sEdge hb, sf_sEdge_0 hb, sc_sEdge_0 hb, sf_sEdge_1 hb, sc_sEdge_1 hb, sf_sEdge_2 hb, sc_sEdge_2 hb, hb.P, hb.oc, hb.cl, hb.rd, hb.ref, strip_P bs, strip_rd bs, strip_ld bs, strip_sl hb bs k_sEdge, len_sint hc, idx_sint hc, ld_sint hc, sh_sint hc, sw_sint hc, hc.P, hc.oc, hc.cl, hc.rd, hc.ref, strip_P cs, strip_rd cs, strip_ld cs, strip_sl hc cs k_sint, len_sEdge hd, idx_sEdge hd, ld_sEdge hd, sh_sEdge hd, sw_sEdge hd, sf_sEdge_0 hd, sc_sEdge_0 hd, sf_sEdge_1 hd, sc_sEdge_1 hd, sf_sEdge_2 hd, sc_sEdge_2 hd, hd.P, hd.oc, hd.cl, hd.rd, hd.ref, strip_P ds, strip_rd ds, strip_ld ds, strip_sl hd ds k_sEdge, r1, r2, G13_gsame, G13_same, conSame, G13_own, conOwn, G13_works, conWorks, o1, o2, o3, o4]))
end Go.Proofs.Ytaenmabpekbjoaa.Dm
