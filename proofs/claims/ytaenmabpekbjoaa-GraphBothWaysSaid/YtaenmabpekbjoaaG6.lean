/- The graph of records: the document's. -/
import Derived.Test.YtaenmabpekbjoaaG5
set_option linter.unusedSimpArgs false
set_option linter.unusedVariables false
namespace Go.Proofs.Ytaenmabpekbjoaa.Dm
open Go.Dm
set_option maxHeartbeats 8000000

theorem goU_ok : ∀ (l done : List RecD), goU done l = true → (∀ r ∈ l, mayR r = true ∧ done.any (isO r.Origin) = false) ∧ l.Pairwise fun a b => a.Origin ≠ b.Origin
  | [], _, _ => ⟨by simp, .nil⟩
  | r :: l, done, h => by
    simp only [goU, Bool.and_eq_true, Bool.not_eq_true'] at h
    obtain ⟨⟨h1, h2⟩, h3⟩ := h
    obtain ⟨a, b⟩ := goU_ok l _ h3
    refine ⟨?_, List.pairwise_cons.2 ⟨?_, b⟩⟩
    · intro x hx
      rcases List.mem_cons.1 hx with rfl | hx
      · exact ⟨h1, h2⟩
      · obtain ⟨c, d⟩ := a x hx
        rw [List.any_append, Bool.or_eq_false_iff] at d
        exact ⟨c, d.1⟩
    · intro x hx e
      obtain ⟨_, d⟩ := a x hx
      rw [List.any_append, Bool.or_eq_false_iff] at d
      have := d.2
      simp [isO, e] at this
structure Uniq (L : List RecD) : Prop where
  may : ∀ r ∈ L, mayR r = true
  ne : L.Pairwise fun a b => a.Origin ≠ b.Origin
theorem uniq_of {L : List RecD} (h : uniqF L = true) : Uniq L := ⟨fun r hr => ((goU_ok L [] h).1 r hr).1, (goU_ok L [] h).2⟩
theorem mayR_router {r : RecD} (h : mayR r = true) : 1 ≤ r.Origin ∧ r.Origin ≤ 24 := by
  simp only [mayR, headOk, routerB, Bool.and_eq_true, decide_eq_true_eq] at h
  exact h.1.1.1.1.1.1
theorem Uniq.zero {L : List RecD} (h : Uniq L) : L.any (isO 0) = false := by
  rw [List.any_eq_false]
  intro r hr
  have := mayR_router (h.may r hr)
  simp only [isO, decide_eq_true_eq]; omega
theorem Uniq.first {L : List RecD} (h : Uniq L) {i : Nat} (hi : i < L.length) : (L.take i).any (isO (at' L i).Origin) = false := by
  rw [List.any_eq_false]
  intro r hr
  obtain ⟨j, hj, rfl⟩ := List.mem_take_iff_getElem.1 hr
  have := List.pairwise_iff_getElem.1 h.ne j i (by omega) hi (by omega)
  rw [at'_get _ _ hi]
  simp only [isO, decide_eq_true_eq]; exact this
def nodesN (L : List RecD) (n : Nat) : List Int := ((List.range n).filter fun (i : Nat) => L.any (isO (i : Int))).map fun (i : Nat) => (i : Int)
theorem nodesN_succ (L : List RecD) (n : Nat) : nodesN L (n + 1) = nodesN L n ++ (if L.any (isO (n : Int)) then [(n : Int)] else []) := by
  unfold nodesN
  rw [List.range_succ, List.filter_append, List.map_append]
  cases h : L.any (isO (n : Int)) <;> simp [h]
theorem nodesN_len (L : List RecD) (n : Nat) : (nodesN L n).length ≤ n := by
  unfold nodesN
  rw [List.length_map]
  exact Nat.le_trans (List.length_filter_le ..) (by simp)
def nodesI (L : List RecD) (n i : Nat) : List Int := nodesN L n ++ (if (L.take i).any (isO (n : Int)) then [(n : Int)] else [])
theorem nodesI_len (L : List RecD) (n i : Nat) : (nodesI L n i).length ≤ n + 1 := by
  have := nodesN_len L n
  unfold nodesI
  rw [List.length_append]; split <;> simp <;> omega
def rowB (c : Int → Int → Int) (N : List Int) (a : Int) : List T_Edge := N.flatMap fun b => edgeF c a b
def edgesB (c : Int → Int → Int) (N M : List Int) : List T_Edge := M.flatMap fun a => rowB c N a
theorem edgeF_len (c : Int → Int → Int) (a b : Int) : (edgeF c a b).length ≤ 1 := by unfold edgeF; split <;> simp
theorem rowB_len (c : Int → Int → Int) (a : Int) : ∀ N : List Int, (rowB c N a).length ≤ N.length
  | [] => by simp [rowB]
  | b :: N => by
    have h1 := edgeF_len c a b
    have h2 := rowB_len c a N
    unfold rowB at h2 ⊢
    rw [List.flatMap_cons, List.length_append, List.length_cons]; omega
theorem edgesB_len (c : Int → Int → Int) (N : List Int) : ∀ M : List Int, (edgesB c N M).length ≤ M.length * N.length
  | [] => by simp [edgesB]
  | a :: M => by
    have h1 := rowB_len c a N
    have h2 := edgesB_len c N M
    unfold edgesB at h2 ⊢
    rw [List.flatMap_cons, List.length_append, List.length_cons, Nat.succ_mul]; omega
theorem rowB_succ (c : Int → Int → Int) {N : List Int} {k : Nat} (h : k < N.length) (a : Int) : rowB c (N.take (k + 1)) a = rowB c (N.take k) a ++ edgeF c a (at' N k) := by
  rw [take_at h]; simp [rowB]
theorem edgesB_succ (c : Int → Int → Int) {N M : List Int} {k : Nat} (h : k < M.length) : edgesB c N (M.take (k + 1)) = edgesB c N (M.take k) ++ rowB c N (at' M k) := by
  rw [take_at h]; simp [edgesB]
def stN (hp : Hp) (top : Nat) (v : Value) (L : List RecD) (n : Nat) : SS :=
  ⟨[(0, v, true), (2, .pointer (some ⟨top + 1, 0, none⟩), true), (4, .pointer (some ⟨top + 2, 0, none⟩), true), (5, .int .i64 (n : Int), true)],
    hp.sets [(top, mkOb e_int (nodesN L n)), (top + 1, some (.cells true 0 [.slice none 0 0, .slice none 0 0])), (top + 2, some (.cells true 0 [mkSl top (nodesN L n), .slice none 0 0]))], top + 3⟩
def stNi (hp : Hp) (top : Nat) (v : Value) (L : List RecD) (n i : Nat) : SS :=
  ⟨[(0, v, true), (2, .pointer (some ⟨top + 1, 0, none⟩), true), (4, .pointer (some ⟨top + 2, 0, none⟩), true), (5, .int .i64 (n : Int), true), (6, .int .i64 (i : Int), true)],
    hp.sets [(top, mkOb e_int (nodesI L n i)), (top + 1, some (.cells true 0 [.slice none 0 0, .slice none 0 0])), (top + 2, some (.cells true 0 [mkSl top (nodesI L n i), .slice none 0 0]))], top + 3⟩
def stE (hp : Hp) (top : Nat) (v : Value) (N : List Int) (c : Int → Int → Int) (i : Nat) : SS :=
  ⟨[(0, v, true), (2, .pointer (some ⟨top + 1, 0, none⟩), true), (4, .pointer (some ⟨top + 2, 0, none⟩), true), (7, .int .i64 (i : Int), true)],
    hp.sets [(top, mkOb e_int N), (top + 1, some (.cells true 0 [.slice none 0 0, .slice none 0 0])), (top + 2, some (.cells true 0 [mkSl top N, mkSl (top + 3) (edgesB c N (N.take i))])), (top + 3, mkOb e_Edge (edgesB c N (N.take i)))], top + 4⟩
def stEi (hp : Hp) (top : Nat) (v : Value) (N : List Int) (c : Int → Int → Int) (i k : Nat) : SS :=
  ⟨[(0, v, true), (2, .pointer (some ⟨top + 1, 0, none⟩), true), (4, .pointer (some ⟨top + 2, 0, none⟩), true), (7, .int .i64 (i : Int), true), (8, .int .i64 (k : Int), true)],
    hp.sets [(top, mkOb e_int N), (top + 1, some (.cells true 0 [.slice none 0 0, .slice none 0 0])), (top + 2, some (.cells true 0 [mkSl top N, mkSl (top + 3) (edgesB c N (N.take i) ++ rowB c (N.take k) (at' N i))])), (top + 3, mkOb e_Edge (edgesB c N (N.take i) ++ rowB c (N.take k) (at' N i)))], top + 4⟩

theorem rboth_ok : ConOk Try.prog 11 conBoth := by
  refine .mkDet fn11_ok ?_
  intro args hp top hpre hcl hsc
  match args, hpre with
  | [v], ⟨l, h, hr⟩ =>
  have H := RecsAt.of h hr hcl
  have hs := H.s
  simp only [H.rd (Keep.refl top [] hp ▸ trivial)]
  generalize hL : l.map (recD hp) = L
  have hLl : L.length = l.length := by rw [← hL, List.length_map]
  have hat : ∀ {k}, k < l.length → at' L k = recD hp (at' l k) := fun hk => by rw [← hL, at_map hk]
  have hrd : ∀ {h'}, Keep top [] h' hp → recs h' v = L := fun hk => by rw [H.rd hk, hL]
  have hok : ∀ {h'}, Keep top [] h' hp → RecsOk h' v = True := fun hk => H.ok hk
  refine CalledOk.of_fun tt_ok fn11_ok rfl 86 rfl [.cell 2 26, .tmp 3] rfl (show 1 ≤ 86 by decide) ?_
  cases hu : uniqF L with
  | false =>
    refine CW.vc env6 [0, 2, 3, 4, 5, 6, 7, 8, 9, 10, 11, 14, 17, 23, 32, 43, 50, 75] (by kernel_rfl) ?_
    (simp only [go_sem, reduceIte, reduceCtorEq, Nat.reduceAdd, Nat.reduceMul, Nat.reduceSub, Nat.reduceLT, Nat.reduceLeDiff, Nat.reduceEqDiff, Int.reduceEq, Int.reduceLT, Int.reduceLE, Int.reduceNe, len_sRecord h, idx_sRecord h, ld_sRecord h, sh_sRecord h, sw_sRecord h, sf_sRecord_0 h, sc_sRecord_0 h, sf_sRecord_1 h, sc_sRecord_1 h, sf_sRecord_2 h, sc_sRecord_2 h, sf_sRecord_3 h, sc_sRecord_3 h, sf_sRecord_4 h, sc_sRecord_4 h, sf_sRecord_5 h, sc_sRecord_5 h, h.P, h.oc, h.cl, h.rd, h.ref, strip_P hs, strip_rd hs, strip_ld hs, strip_sl h hs k_sRecord, G6_unlike, conUnlike, G6_rcost, conCost, refOf_v, hrd, hok, hu]; repeat (refine Vc.mk' ?_; simp only [go_sem, reduceIte, reduceCtorEq, Nat.reduceAdd, Nat.reduceMul, Nat.reduceSub, Nat.reduceLT, Nat.reduceLeDiff, Nat.reduceEqDiff, Int.reduceEq, Int.reduceLT, Int.reduceLE, Int.reduceNe, len_sRecord h, idx_sRecord h, ld_sRecord h, sh_sRecord h, sw_sRecord h, sf_sRecord_0 h, sc_sRecord_0 h, sf_sRecord_1 h, sc_sRecord_1 h, sf_sRecord_2 h, sc_sRecord_2 h, sf_sRecord_3 h, sc_sRecord_3 h, sf_sRecord_4 h, sc_sRecord_4 h, sf_sRecord_5 h, sc_sRecord_5 h, h.P, h.oc, h.cl, h.rd, h.ref, strip_P hs, strip_rd hs, strip_ld hs, strip_sl h hs k_sRecord, G6_unlike, conUnlike, G6_rcost, conCost, refOf_v, hrd, hok, hu]))
    simp only [resBoth, nF, eF, errF, hu, Bool.false_eq_true, if_false, mkSl_nil, mkOb_nil]
    exact ⟨[top, top + 1], by simp, by simp, by simp, by simp [frSub, lkG, ren, renL, renL_set, renL_ints, UpdOk.nil, UpdOk.cons, renOO_some, renO_cells, renO_map, renOO_mkOb, rn_base, rn_add, ren_mkSl, Enc.flat_ren, set_same, set_ne, sets_cons, sets_nil, Keep.set, Keep.setK, Keep.refl], by simp [frSub, lkG, ren, renL, renL_set, renL_ints, UpdOk.nil, UpdOk.cons, renOO_some, renO_cells, renO_map, renOO_mkOb, rn_base, rn_add, ren_mkSl, Enc.flat_ren, set_same, set_ne, sets_cons, sets_nil, Keep.set, Keep.setK, Keep.refl], by simp [frSub, lkG, ren, renL, renL_set, renL_ints, UpdOk.nil, UpdOk.cons, renOO_some, renO_cells, renO_map, renOO_mkOb, rn_base, rn_add, ren_mkSl, Enc.flat_ren, set_same, set_ne, sets_cons, sets_nil, Keep.set, Keep.setK, Keep.refl]⟩
  | true =>
    have U := uniq_of hu
    refine CW.vc env6 [0, 2, 3, 4, 5, 6, 7, 8, 9, 10, 11, 14, 17, 23, 32, 43, 50, 75] (by kernel_rfl) ?_
    (simp only [go_sem, reduceIte, reduceCtorEq, Nat.reduceAdd, Nat.reduceMul, Nat.reduceSub, Nat.reduceLT, Nat.reduceLeDiff, Nat.reduceEqDiff, Int.reduceEq, Int.reduceLT, Int.reduceLE, Int.reduceNe, len_sRecord h, idx_sRecord h, ld_sRecord h, sh_sRecord h, sw_sRecord h, sf_sRecord_0 h, sc_sRecord_0 h, sf_sRecord_1 h, sc_sRecord_1 h, sf_sRecord_2 h, sc_sRecord_2 h, sf_sRecord_3 h, sc_sRecord_3 h, sf_sRecord_4 h, sc_sRecord_4 h, sf_sRecord_5 h, sc_sRecord_5 h, h.P, h.oc, h.cl, h.rd, h.ref, strip_P hs, strip_rd hs, strip_ld hs, strip_sl h hs k_sRecord, G6_unlike, conUnlike, G6_rcost, conCost, refOf_v, hrd, hok, hu]; repeat (refine Vc.mk' ?_; simp only [go_sem, reduceIte, reduceCtorEq, Nat.reduceAdd, Nat.reduceMul, Nat.reduceSub, Nat.reduceLT, Nat.reduceLeDiff, Nat.reduceEqDiff, Int.reduceEq, Int.reduceLT, Int.reduceLE, Int.reduceNe, len_sRecord h, idx_sRecord h, ld_sRecord h, sh_sRecord h, sw_sRecord h, sf_sRecord_0 h, sc_sRecord_0 h, sf_sRecord_1 h, sc_sRecord_1 h, sf_sRecord_2 h, sc_sRecord_2 h, sf_sRecord_3 h, sc_sRecord_3 h, sf_sRecord_4 h, sc_sRecord_4 h, sf_sRecord_5 h, sc_sRecord_5 h, h.P, h.oc, h.cl, h.rd, h.ref, strip_P hs, strip_rd hs, strip_ld hs, strip_sl h hs k_sRecord, G6_unlike, conUnlike, G6_rcost, conCost, refOf_v, hrd, hok, hu]))
    have hz : nodesN L 1 = [] := by
      rw [nodesN_succ]
      have : L.any (isO ((0 : Nat) : Int)) = false := U.zero
      rw [this]; rfl
    refine CW.loopR (stN hp top v L) (fun n => 1 ≤ n ∧ n ≤ 25) (fun n => 25 - n) 1 ⟨Nat.le_refl _, by decide⟩ ?_ ?_
    · exact SubR.mk' [top + 2, top, top + 1] hcl (by simp) (by simp) rfl (frSub_ok (by simp [frSub, lkG, ren, renL, renL_set, renL_ints, UpdOk.nil, UpdOk.cons, renOO_some, renO_cells, renO_map, renOO_mkOb, rn_base, rn_add, ren_mkSl, Enc.flat_ren, set_same, set_ne, sets_cons, sets_nil, Keep.set, Keep.setK, Keep.refl, Sc.ren (fun j hj => rn_low hj) hs, hz, mkSl_nil, mkOb_nil])) (by simp [frSub, lkG, ren, renL, renL_set, renL_ints, UpdOk.nil, UpdOk.cons, renOO_some, renO_cells, renO_map, renOO_mkOb, rn_base, rn_add, ren_mkSl, Enc.flat_ren, set_same, set_ne, sets_cons, sets_nil, Keep.set, Keep.setK, Keep.refl, Sc.ren (fun j hj => rn_low hj) hs, hz, mkSl_nil, mkOb_nil]) (by simp [frSub, lkG, ren, renL, renL_set, renL_ints, UpdOk.nil, UpdOk.cons, renOO_some, renO_cells, renO_map, renOO_mkOb, rn_base, rn_add, ren_mkSl, Enc.flat_ren, set_same, set_ne, sets_cons, sets_nil, Keep.set, Keep.setK, Keep.refl, Sc.ren (fun j hj => rn_low hj) hs, hz, mkSl_nil, mkOb_nil])
    · rintro n ⟨hn1, hn⟩
      have hnl := nodesN_len L n
      by_cases hlt : n < 25
      · have hlt2 : ¬ (24 : Int) < (n : Int) := by omega
        refine CW.vc env6 [0, 2, 3, 4, 5, 6, 7, 8, 9, 10, 11, 14, 17, 23, 32, 43, 50, 75] (by kernel_rfl) ?_
        (simp only [go_sem, reduceIte, reduceCtorEq, Nat.reduceAdd, Nat.reduceMul, Nat.reduceSub, Nat.reduceLT, Nat.reduceLeDiff, Nat.reduceEqDiff, Int.reduceEq, Int.reduceLT, Int.reduceLE, Int.reduceNe, len_sRecord h, idx_sRecord h, ld_sRecord h, sh_sRecord h, sw_sRecord h, sf_sRecord_0 h, sc_sRecord_0 h, sf_sRecord_1 h, sc_sRecord_1 h, sf_sRecord_2 h, sc_sRecord_2 h, sf_sRecord_3 h, sc_sRecord_3 h, sf_sRecord_4 h, sc_sRecord_4 h, sf_sRecord_5 h, sc_sRecord_5 h, h.P, h.oc, h.cl, h.rd, h.ref, strip_P hs, strip_rd hs, strip_ld hs, strip_sl h hs k_sRecord, G6_unlike, conUnlike, G6_rcost, conCost, refOf_v, hrd, hok, stN, hlt2]; repeat (refine Vc.mk' ?_; simp only [go_sem, reduceIte, reduceCtorEq, Nat.reduceAdd, Nat.reduceMul, Nat.reduceSub, Nat.reduceLT, Nat.reduceLeDiff, Nat.reduceEqDiff, Int.reduceEq, Int.reduceLT, Int.reduceLE, Int.reduceNe, len_sRecord h, idx_sRecord h, ld_sRecord h, sh_sRecord h, sw_sRecord h, sf_sRecord_0 h, sc_sRecord_0 h, sf_sRecord_1 h, sc_sRecord_1 h, sf_sRecord_2 h, sc_sRecord_2 h, sf_sRecord_3 h, sc_sRecord_3 h, sf_sRecord_4 h, sc_sRecord_4 h, sf_sRecord_5 h, sc_sRecord_5 h, h.P, h.oc, h.cl, h.rd, h.ref, strip_P hs, strip_rd hs, strip_ld hs, strip_sl h hs k_sRecord, G6_unlike, conUnlike, G6_rcost, conCost, refOf_v, hrd, hok, stN, hlt2]))
        refine CW.loopR (stNi hp top v L n) (fun i => i ≤ l.length) (fun i => l.length - i) 0 (Nat.zero_le _) ?_ ?_
        · have h0 : nodesI L n 0 = nodesN L n := by simp [nodesI]
          exact SubR.mk' [top, top + 1, top + 2] hcl (by simp) (by simp) rfl (frSub_ok (by simp [frSub, lkG, ren, renL, renL_set, renL_ints, UpdOk.nil, UpdOk.cons, renOO_some, renO_cells, renO_map, renOO_mkOb, rn_base, rn_add, ren_mkSl, Enc.flat_ren, set_same, set_ne, sets_cons, sets_nil, Keep.set, Keep.setK, Keep.refl, Sc.ren (fun j hj => rn_low hj) hs, h0])) (by simp [frSub, lkG, ren, renL, renL_set, renL_ints, UpdOk.nil, UpdOk.cons, renOO_some, renO_cells, renO_map, renOO_mkOb, rn_base, rn_add, ren_mkSl, Enc.flat_ren, set_same, set_ne, sets_cons, sets_nil, Keep.set, Keep.setK, Keep.refl, Sc.ren (fun j hj => rn_low hj) hs, h0]) (by simp [frSub, lkG, ren, renL, renL_set, renL_ints, UpdOk.nil, UpdOk.cons, renOO_some, renO_cells, renO_map, renOO_mkOb, rn_base, rn_add, ren_mkSl, Enc.flat_ren, set_same, set_ne, sets_cons, sets_nil, Keep.set, Keep.setK, Keep.refl, Sc.ren (fun j hj => rn_low hj) hs, h0])
        · intro i hi
          have hil := nodesI_len L n i
          by_cases hli : i < l.length
          · have hLi : i < L.length := by omega
            have ho : (at' L i).Origin = (at' l i).Origin := by rw [hat hli]; rfl
            have hst := any_take (p := isO (n : Int)) (l := L) (j := i) hLi
            have hio : isO (n : Int) (at' L i) = decide ((at' l i).Origin = (n : Int)) := by unfold isO; rw [ho]
            rw [hio] at hst
            have hf := U.first hLi
            rw [ho] at hf
            have h16 : (nodesI L n i).length < 16777216 := by omega
            by_cases hc : (at' l i).Origin = (n : Int)
            · rw [hc] at hf
              have h1 : nodesI L n (i + 1) = nodesI L n i ++ [(n : Int)] := by unfold nodesI; rw [hst, hf]; simp [hc]
              refine CW.vc env6 [0, 2, 3, 4, 5, 6, 7, 8, 9, 10, 11, 14, 17, 23, 32, 43, 50, 75] (by kernel_rfl) ?_
              (simp only [go_sem, reduceIte, reduceCtorEq, Nat.reduceAdd, Nat.reduceMul, Nat.reduceSub, Nat.reduceLT, Nat.reduceLeDiff, Nat.reduceEqDiff, Int.reduceEq, Int.reduceLT, Int.reduceLE, Int.reduceNe, len_sRecord h, idx_sRecord h, ld_sRecord h, sh_sRecord h, sw_sRecord h, sf_sRecord_0 h, sc_sRecord_0 h, sf_sRecord_1 h, sc_sRecord_1 h, sf_sRecord_2 h, sc_sRecord_2 h, sf_sRecord_3 h, sc_sRecord_3 h, sf_sRecord_4 h, sc_sRecord_4 h, sf_sRecord_5 h, sc_sRecord_5 h, h.P, h.oc, h.cl, h.rd, h.ref, strip_P hs, strip_rd hs, strip_ld hs, strip_sl h hs k_sRecord, G6_unlike, conUnlike, G6_rcost, conCost, refOf_v, hrd, hok, stNi, hli, hc, h16]; repeat (refine Vc.mk' ?_; simp only [go_sem, reduceIte, reduceCtorEq, Nat.reduceAdd, Nat.reduceMul, Nat.reduceSub, Nat.reduceLT, Nat.reduceLeDiff, Nat.reduceEqDiff, Int.reduceEq, Int.reduceLT, Int.reduceLE, Int.reduceNe, len_sRecord h, idx_sRecord h, ld_sRecord h, sh_sRecord h, sw_sRecord h, sf_sRecord_0 h, sc_sRecord_0 h, sf_sRecord_1 h, sc_sRecord_1 h, sf_sRecord_2 h, sc_sRecord_2 h, sf_sRecord_3 h, sc_sRecord_3 h, sf_sRecord_4 h, sc_sRecord_4 h, sf_sRecord_5 h, sc_sRecord_5 h, h.P, h.oc, h.cl, h.rd, h.ref, strip_P hs, strip_rd hs, strip_ld hs, strip_sl h hs k_sRecord, G6_unlike, conUnlike, G6_rcost, conCost, refOf_v, hrd, hok, stNi, hli, hc, h16]))
              exact .mk (i + 1) hli (by omega) (SubR.mk' [top + 4, top + 1, top + 2] hcl (by simp) (by simp) rfl (frSub_ok (by simp [frSub, lkG, ren, renL, renL_set, renL_ints, UpdOk.nil, UpdOk.cons, renOO_some, renO_cells, renO_map, renOO_mkOb, rn_base, rn_add, ren_mkSl, Enc.flat_ren, set_same, set_ne, sets_cons, sets_nil, Keep.set, Keep.setK, Keep.refl, Sc.ren (fun j hj => rn_low hj) hs, h1, wrap_succ hli h.le])) (by simp [frSub, lkG, ren, renL, renL_set, renL_ints, UpdOk.nil, UpdOk.cons, renOO_some, renO_cells, renO_map, renOO_mkOb, rn_base, rn_add, ren_mkSl, Enc.flat_ren, set_same, set_ne, sets_cons, sets_nil, Keep.set, Keep.setK, Keep.refl, Sc.ren (fun j hj => rn_low hj) hs, h1, wrap_succ hli h.le]) (by simp [frSub, lkG, ren, renL, renL_set, renL_ints, UpdOk.nil, UpdOk.cons, renOO_some, renO_cells, renO_map, renOO_mkOb, rn_base, rn_add, ren_mkSl, Enc.flat_ren, set_same, set_ne, sets_cons, sets_nil, Keep.set, Keep.setK, Keep.refl, Sc.ren (fun j hj => rn_low hj) hs, h1, wrap_succ hli h.le]))
            · have h1 : nodesI L n (i + 1) = nodesI L n i := by unfold nodesI; rw [hst]; simp [hc]
              refine CW.vc env6 [0, 2, 3, 4, 5, 6, 7, 8, 9, 10, 11, 14, 17, 23, 32, 43, 50, 75] (by kernel_rfl) ?_
              (simp only [go_sem, reduceIte, reduceCtorEq, Nat.reduceAdd, Nat.reduceMul, Nat.reduceSub, Nat.reduceLT, Nat.reduceLeDiff, Nat.reduceEqDiff, Int.reduceEq, Int.reduceLT, Int.reduceLE, Int.reduceNe, len_sRecord h, idx_sRecord h, ld_sRecord h, sh_sRecord h, sw_sRecord h, sf_sRecord_0 h, sc_sRecord_0 h, sf_sRecord_1 h, sc_sRecord_1 h, sf_sRecord_2 h, sc_sRecord_2 h, sf_sRecord_3 h, sc_sRecord_3 h, sf_sRecord_4 h, sc_sRecord_4 h, sf_sRecord_5 h, sc_sRecord_5 h, h.P, h.oc, h.cl, h.rd, h.ref, strip_P hs, strip_rd hs, strip_ld hs, strip_sl h hs k_sRecord, G6_unlike, conUnlike, G6_rcost, conCost, refOf_v, hrd, hok, stNi, hli, hc, h16]; repeat (refine Vc.mk' ?_; simp only [go_sem, reduceIte, reduceCtorEq, Nat.reduceAdd, Nat.reduceMul, Nat.reduceSub, Nat.reduceLT, Nat.reduceLeDiff, Nat.reduceEqDiff, Int.reduceEq, Int.reduceLT, Int.reduceLE, Int.reduceNe, len_sRecord h, idx_sRecord h, ld_sRecord h, sh_sRecord h, sw_sRecord h, sf_sRecord_0 h, sc_sRecord_0 h, sf_sRecord_1 h, sc_sRecord_1 h, sf_sRecord_2 h, sc_sRecord_2 h, sf_sRecord_3 h, sc_sRecord_3 h, sf_sRecord_4 h, sc_sRecord_4 h, sf_sRecord_5 h, sc_sRecord_5 h, h.P, h.oc, h.cl, h.rd, h.ref, strip_P hs, strip_rd hs, strip_ld hs, strip_sl h hs k_sRecord, G6_unlike, conUnlike, G6_rcost, conCost, refOf_v, hrd, hok, stNi, hli, hc, h16]))
              exact .mk (i + 1) hli (by omega) (SubR.mk' [top, top + 1, top + 2] hcl (by simp) (by simp) rfl (frSub_ok (by simp [frSub, lkG, ren, renL, renL_set, renL_ints, UpdOk.nil, UpdOk.cons, renOO_some, renO_cells, renO_map, renOO_mkOb, rn_base, rn_add, ren_mkSl, Enc.flat_ren, set_same, set_ne, sets_cons, sets_nil, Keep.set, Keep.setK, Keep.refl, Sc.ren (fun j hj => rn_low hj) hs, h1, wrap_succ hli h.le])) (by simp [frSub, lkG, ren, renL, renL_set, renL_ints, UpdOk.nil, UpdOk.cons, renOO_some, renO_cells, renO_map, renOO_mkOb, rn_base, rn_add, ren_mkSl, Enc.flat_ren, set_same, set_ne, sets_cons, sets_nil, Keep.set, Keep.setK, Keep.refl, Sc.ren (fun j hj => rn_low hj) hs, h1, wrap_succ hli h.le]) (by simp [frSub, lkG, ren, renL, renL_set, renL_ints, UpdOk.nil, UpdOk.cons, renOO_some, renO_cells, renO_map, renOO_mkOb, rn_base, rn_add, ren_mkSl, Enc.flat_ren, set_same, set_ne, sets_cons, sets_nil, Keep.set, Keep.setK, Keep.refl, Sc.ren (fun j hj => rn_low hj) hs, h1, wrap_succ hli h.le]))
          · have hi2 : i = l.length := by omega
            subst hi2
            have h1 : nodesI L n l.length = nodesN L (n + 1) := by
              unfold nodesI
              rw [nodesN_succ, List.take_of_length_le (by omega)]
            have hw : wrapA .i64 ((n : Int) + 1) = ((n + 1 : Nat) : Int) := wrap_succ hlt (by decide)
            refine CW.vc env6 [0, 2, 3, 4, 5, 6, 7, 8, 9, 10, 11, 14, 17, 23, 32, 43, 50, 75] (by kernel_rfl) ?_
            (simp only [go_sem, reduceIte, reduceCtorEq, Nat.reduceAdd, Nat.reduceMul, Nat.reduceSub, Nat.reduceLT, Nat.reduceLeDiff, Nat.reduceEqDiff, Int.reduceEq, Int.reduceLT, Int.reduceLE, Int.reduceNe, len_sRecord h, idx_sRecord h, ld_sRecord h, sh_sRecord h, sw_sRecord h, sf_sRecord_0 h, sc_sRecord_0 h, sf_sRecord_1 h, sc_sRecord_1 h, sf_sRecord_2 h, sc_sRecord_2 h, sf_sRecord_3 h, sc_sRecord_3 h, sf_sRecord_4 h, sc_sRecord_4 h, sf_sRecord_5 h, sc_sRecord_5 h, h.P, h.oc, h.cl, h.rd, h.ref, strip_P hs, strip_rd hs, strip_ld hs, strip_sl h hs k_sRecord, G6_unlike, conUnlike, G6_rcost, conCost, refOf_v, hrd, hok, stNi, Nat.lt_irrefl, decide_false]; repeat (refine Vc.mk' ?_; simp only [go_sem, reduceIte, reduceCtorEq, Nat.reduceAdd, Nat.reduceMul, Nat.reduceSub, Nat.reduceLT, Nat.reduceLeDiff, Nat.reduceEqDiff, Int.reduceEq, Int.reduceLT, Int.reduceLE, Int.reduceNe, len_sRecord h, idx_sRecord h, ld_sRecord h, sh_sRecord h, sw_sRecord h, sf_sRecord_0 h, sc_sRecord_0 h, sf_sRecord_1 h, sc_sRecord_1 h, sf_sRecord_2 h, sc_sRecord_2 h, sf_sRecord_3 h, sc_sRecord_3 h, sf_sRecord_4 h, sc_sRecord_4 h, sf_sRecord_5 h, sc_sRecord_5 h, h.P, h.oc, h.cl, h.rd, h.ref, strip_P hs, strip_rd hs, strip_ld hs, strip_sl h hs k_sRecord, G6_unlike, conUnlike, G6_rcost, conCost, refOf_v, hrd, hok, stNi, Nat.lt_irrefl, decide_false]))
            exact .mk (n + 1) ⟨by omega, hlt⟩ (by omega) (SubR.mk' [top, top + 1, top + 2] hcl (by simp) (by simp) rfl (frSub_ok (by simp [frSub, lkG, ren, renL, renL_set, renL_ints, UpdOk.nil, UpdOk.cons, renOO_some, renO_cells, renO_map, renOO_mkOb, rn_base, rn_add, ren_mkSl, Enc.flat_ren, set_same, set_ne, sets_cons, sets_nil, Keep.set, Keep.setK, Keep.refl, Sc.ren (fun j hj => rn_low hj) hs, h1, hw])) (by simp [frSub, lkG, ren, renL, renL_set, renL_ints, UpdOk.nil, UpdOk.cons, renOO_some, renO_cells, renO_map, renOO_mkOb, rn_base, rn_add, ren_mkSl, Enc.flat_ren, set_same, set_ne, sets_cons, sets_nil, Keep.set, Keep.setK, Keep.refl, Sc.ren (fun j hj => rn_low hj) hs, h1, hw]) (by simp [frSub, lkG, ren, renL, renL_set, renL_ints, UpdOk.nil, UpdOk.cons, renOO_some, renO_cells, renO_map, renOO_mkOb, rn_base, rn_add, ren_mkSl, Enc.flat_ren, set_same, set_ne, sets_cons, sets_nil, Keep.set, Keep.setK, Keep.refl, Sc.ren (fun j hj => rn_low hj) hs, h1, hw]))
      · have hn2 : n = 25 := by omega
        subst hn2
        have hNF : nodesN L 25 = nodesF L := rfl
        rw [hNF] at hnl
        have hEF : edgesF L = edgesB (costF L) (nodesF L) (nodesF L) := rfl
        generalize hN : nodesF L = N at hnl hNF hEF
        refine CW.vc env6 [0, 2, 3, 4, 5, 6, 7, 8, 9, 10, 11, 14, 17, 23, 32, 43, 50, 75] (by kernel_rfl) ?_
        (simp only [go_sem, reduceIte, reduceCtorEq, Nat.reduceAdd, Nat.reduceMul, Nat.reduceSub, Nat.reduceLT, Nat.reduceLeDiff, Nat.reduceEqDiff, Int.reduceEq, Int.reduceLT, Int.reduceLE, Int.reduceNe, len_sRecord h, idx_sRecord h, ld_sRecord h, sh_sRecord h, sw_sRecord h, sf_sRecord_0 h, sc_sRecord_0 h, sf_sRecord_1 h, sc_sRecord_1 h, sf_sRecord_2 h, sc_sRecord_2 h, sf_sRecord_3 h, sc_sRecord_3 h, sf_sRecord_4 h, sc_sRecord_4 h, sf_sRecord_5 h, sc_sRecord_5 h, h.P, h.oc, h.cl, h.rd, h.ref, strip_P hs, strip_rd hs, strip_ld hs, strip_sl h hs k_sRecord, G6_unlike, conUnlike, G6_rcost, conCost, refOf_v, hrd, hok, stN, Int.cast_ofNat_Int, hNF]; repeat (refine Vc.mk' ?_; simp only [go_sem, reduceIte, reduceCtorEq, Nat.reduceAdd, Nat.reduceMul, Nat.reduceSub, Nat.reduceLT, Nat.reduceLeDiff, Nat.reduceEqDiff, Int.reduceEq, Int.reduceLT, Int.reduceLE, Int.reduceNe, len_sRecord h, idx_sRecord h, ld_sRecord h, sh_sRecord h, sw_sRecord h, sf_sRecord_0 h, sc_sRecord_0 h, sf_sRecord_1 h, sc_sRecord_1 h, sf_sRecord_2 h, sc_sRecord_2 h, sf_sRecord_3 h, sc_sRecord_3 h, sf_sRecord_4 h, sc_sRecord_4 h, sf_sRecord_5 h, sc_sRecord_5 h, h.P, h.oc, h.cl, h.rd, h.ref, strip_P hs, strip_rd hs, strip_ld hs, strip_sl h hs k_sRecord, G6_unlike, conUnlike, G6_rcost, conCost, refOf_v, hrd, hok, stN, Int.cast_ofNat_Int, hNF]))
        have hN16 : N.length ≤ 16777216 := by omega
        have h2 : SlT e_int (hp.set top (mkOb e_int N)) (mkSl top N) N := .own (set_same ..) hN16
        have hs2 : Sc (top + 1) (mkSl top N) := mkSl_sc (Nat.lt_succ_self _)
        refine CW.loopR (stE hp top v N (costF L)) (fun i => i ≤ N.length) (fun i => N.length - i) 0 (Nat.zero_le _) ?_ ?_
        · exact SubR.mk' [top, top + 1, top + 2, top + 3] hcl (by simp) (by simp) rfl (frSub_ok (by simp [frSub, lkG, ren, renL, renL_set, renL_ints, UpdOk.nil, UpdOk.cons, renOO_some, renO_cells, renO_map, renOO_mkOb, rn_base, rn_add, ren_mkSl, Enc.flat_ren, set_same, set_ne, sets_cons, sets_nil, Keep.set, Keep.setK, Keep.refl, Sc.ren (fun j hj => rn_low hj) hs, edgesB, mkSl_nil, mkOb_nil])) (by simp [frSub, lkG, ren, renL, renL_set, renL_ints, UpdOk.nil, UpdOk.cons, renOO_some, renO_cells, renO_map, renOO_mkOb, rn_base, rn_add, ren_mkSl, Enc.flat_ren, set_same, set_ne, sets_cons, sets_nil, Keep.set, Keep.setK, Keep.refl, Sc.ren (fun j hj => rn_low hj) hs, edgesB, mkSl_nil, mkOb_nil]) (by simp [frSub, lkG, ren, renL, renL_set, renL_ints, UpdOk.nil, UpdOk.cons, renOO_some, renO_cells, renO_map, renOO_mkOb, rn_base, rn_add, ren_mkSl, Enc.flat_ren, set_same, set_ne, sets_cons, sets_nil, Keep.set, Keep.setK, Keep.refl, Sc.ren (fun j hj => rn_low hj) hs, edgesB, mkSl_nil, mkOb_nil])
        · intro i hi
          have hel := edgesB_len (costF L) N (N.take i)
          have hti : (N.take i).length ≤ 25 := by rw [List.length_take]; omega
          have hel2 : (edgesB (costF L) N (N.take i)).length ≤ 625 := Nat.le_trans hel (Nat.mul_le_mul hti hnl)
          by_cases hli : i < N.length
          · refine CW.vc env6 [0, 2, 3, 4, 5, 6, 7, 8, 9, 10, 11, 14, 17, 23, 32, 43, 50, 75] (by kernel_rfl) ?_
            (simp only [go_sem, reduceIte, reduceCtorEq, Nat.reduceAdd, Nat.reduceMul, Nat.reduceSub, Nat.reduceLT, Nat.reduceLeDiff, Nat.reduceEqDiff, Int.reduceEq, Int.reduceLT, Int.reduceLE, Int.reduceNe, len_sRecord h, idx_sRecord h, ld_sRecord h, sh_sRecord h, sw_sRecord h, sf_sRecord_0 h, sc_sRecord_0 h, sf_sRecord_1 h, sc_sRecord_1 h, sf_sRecord_2 h, sc_sRecord_2 h, sf_sRecord_3 h, sc_sRecord_3 h, sf_sRecord_4 h, sc_sRecord_4 h, sf_sRecord_5 h, sc_sRecord_5 h, h.P, h.oc, h.cl, h.rd, h.ref, strip_P hs, strip_rd hs, strip_ld hs, strip_sl h hs k_sRecord, G6_unlike, conUnlike, G6_rcost, conCost, refOf_v, hrd, hok, len_sint h2, idx_sint h2, ld_sint h2, sh_sint h2, sw_sint h2, h2.P, h2.oc, h2.cl, h2.rd, h2.ref, strip_P hs2, strip_rd hs2, strip_ld hs2, strip_sl h2 hs2 k_sint, stE, hli]; repeat (refine Vc.mk' ?_; simp only [go_sem, reduceIte, reduceCtorEq, Nat.reduceAdd, Nat.reduceMul, Nat.reduceSub, Nat.reduceLT, Nat.reduceLeDiff, Nat.reduceEqDiff, Int.reduceEq, Int.reduceLT, Int.reduceLE, Int.reduceNe, len_sRecord h, idx_sRecord h, ld_sRecord h, sh_sRecord h, sw_sRecord h, sf_sRecord_0 h, sc_sRecord_0 h, sf_sRecord_1 h, sc_sRecord_1 h, sf_sRecord_2 h, sc_sRecord_2 h, sf_sRecord_3 h, sc_sRecord_3 h, sf_sRecord_4 h, sc_sRecord_4 h, sf_sRecord_5 h, sc_sRecord_5 h, h.P, h.oc, h.cl, h.rd, h.ref, strip_P hs, strip_rd hs, strip_ld hs, strip_sl h hs k_sRecord, G6_unlike, conUnlike, G6_rcost, conCost, refOf_v, hrd, hok, len_sint h2, idx_sint h2, ld_sint h2, sh_sint h2, sw_sint h2, h2.P, h2.oc, h2.cl, h2.rd, h2.ref, strip_P hs2, strip_rd hs2, strip_ld hs2, strip_sl h2 hs2 k_sint, stE, hli]))
            refine CW.loopR (stEi hp top v N (costF L) i) (fun k => k ≤ N.length) (fun k => N.length - k) 0 (Nat.zero_le _) ?_ ?_
            · exact SubR.mk' [top, top + 1, top + 2, top + 3] hcl (by simp) (by simp) rfl (frSub_ok (by simp [frSub, lkG, ren, renL, renL_set, renL_ints, UpdOk.nil, UpdOk.cons, renOO_some, renO_cells, renO_map, renOO_mkOb, rn_base, rn_add, ren_mkSl, Enc.flat_ren, set_same, set_ne, sets_cons, sets_nil, Keep.set, Keep.setK, Keep.refl, Sc.ren (fun j hj => rn_low hj) hs, rowB])) (by simp [frSub, lkG, ren, renL, renL_set, renL_ints, UpdOk.nil, UpdOk.cons, renOO_some, renO_cells, renO_map, renOO_mkOb, rn_base, rn_add, ren_mkSl, Enc.flat_ren, set_same, set_ne, sets_cons, sets_nil, Keep.set, Keep.setK, Keep.refl, Sc.ren (fun j hj => rn_low hj) hs, rowB]) (by simp [frSub, lkG, ren, renL, renL_set, renL_ints, UpdOk.nil, UpdOk.cons, renOO_some, renO_cells, renO_map, renOO_mkOb, rn_base, rn_add, ren_mkSl, Enc.flat_ren, set_same, set_ne, sets_cons, sets_nil, Keep.set, Keep.setK, Keep.refl, Sc.ren (fun j hj => rn_low hj) hs, rowB])
            · intro k hk
              have hrl := rowB_len (costF L) (at' N i) (N.take k)
              have htk : (N.take k).length ≤ 25 := by rw [List.length_take]; omega
              by_cases hlk : k < N.length
              · have hrs := rowB_succ (costF L) hlk (at' N i)
                have h16 : (edgesB (costF L) N (N.take i) ++ rowB (costF L) (N.take k) (at' N i)).length < 16777216 := by rw [List.length_append]; omega
                by_cases hc1 : 0 < costF L (at' N i) (at' N k)
                · by_cases hc2 : 0 < costF L (at' N k) (at' N i)
                  · have he : edgeF (costF L) (at' N i) (at' N k) = [⟨at' N i, at' N k, costF L (at' N i) (at' N k)⟩] := by unfold edgeF; rw [if_pos ⟨hc1, hc2⟩]
                    rw [he] at hrs
                    refine CW.vc env6 [0, 2, 3, 4, 5, 6, 7, 8, 9, 10, 11, 14, 17, 23, 32, 43, 50, 75] (by kernel_rfl) ?_
                    (simp only [go_sem, reduceIte, reduceCtorEq, Nat.reduceAdd, Nat.reduceMul, Nat.reduceSub, Nat.reduceLT, Nat.reduceLeDiff, Nat.reduceEqDiff, Int.reduceEq, Int.reduceLT, Int.reduceLE, Int.reduceNe, len_sRecord h, idx_sRecord h, ld_sRecord h, sh_sRecord h, sw_sRecord h, sf_sRecord_0 h, sc_sRecord_0 h, sf_sRecord_1 h, sc_sRecord_1 h, sf_sRecord_2 h, sc_sRecord_2 h, sf_sRecord_3 h, sc_sRecord_3 h, sf_sRecord_4 h, sc_sRecord_4 h, sf_sRecord_5 h, sc_sRecord_5 h, h.P, h.oc, h.cl, h.rd, h.ref, strip_P hs, strip_rd hs, strip_ld hs, strip_sl h hs k_sRecord, G6_unlike, conUnlike, G6_rcost, conCost, refOf_v, hrd, hok, len_sint h2, idx_sint h2, ld_sint h2, sh_sint h2, sw_sint h2, h2.P, h2.oc, h2.cl, h2.rd, h2.ref, strip_P hs2, strip_rd hs2, strip_ld hs2, strip_sl h2 hs2 k_sint, stEi, hli, hlk, hc1, hc2, h16]; repeat (refine Vc.mk' ?_; simp only [go_sem, reduceIte, reduceCtorEq, Nat.reduceAdd, Nat.reduceMul, Nat.reduceSub, Nat.reduceLT, Nat.reduceLeDiff, Nat.reduceEqDiff, Int.reduceEq, Int.reduceLT, Int.reduceLE, Int.reduceNe, len_sRecord h, idx_sRecord h, ld_sRecord h, sh_sRecord h, sw_sRecord h, sf_sRecord_0 h, sc_sRecord_0 h, sf_sRecord_1 h, sc_sRecord_1 h, sf_sRecord_2 h, sc_sRecord_2 h, sf_sRecord_3 h, sc_sRecord_3 h, sf_sRecord_4 h, sc_sRecord_4 h, sf_sRecord_5 h, sc_sRecord_5 h, h.P, h.oc, h.cl, h.rd, h.ref, strip_P hs, strip_rd hs, strip_ld hs, strip_sl h hs k_sRecord, G6_unlike, conUnlike, G6_rcost, conCost, refOf_v, hrd, hok, len_sint h2, idx_sint h2, ld_sint h2, sh_sint h2, sw_sint h2, h2.P, h2.oc, h2.cl, h2.rd, h2.ref, strip_P hs2, strip_rd hs2, strip_ld hs2, strip_sl h2 hs2 k_sint, stEi, hli, hlk, hc1, hc2, h16]))
                    exact .mk (k + 1) hlk (by omega) (SubR.mk' [top, top + 1, top + 2, top + 5] hcl (by simp) (by simp) rfl (frSub_ok (by simp [frSub, lkG, ren, renL, renL_set, renL_ints, UpdOk.nil, UpdOk.cons, renOO_some, renO_cells, renO_map, renOO_mkOb, rn_base, rn_add, ren_mkSl, Enc.flat_ren, set_same, set_ne, sets_cons, sets_nil, Keep.set, Keep.setK, Keep.refl, Sc.ren (fun j hj => rn_low hj) hs, hrs, wrap_succ hlk h2.le])) (by simp [frSub, lkG, ren, renL, renL_set, renL_ints, UpdOk.nil, UpdOk.cons, renOO_some, renO_cells, renO_map, renOO_mkOb, rn_base, rn_add, ren_mkSl, Enc.flat_ren, set_same, set_ne, sets_cons, sets_nil, Keep.set, Keep.setK, Keep.refl, Sc.ren (fun j hj => rn_low hj) hs, hrs, wrap_succ hlk h2.le]) (by simp [frSub, lkG, ren, renL, renL_set, renL_ints, UpdOk.nil, UpdOk.cons, renOO_some, renO_cells, renO_map, renOO_mkOb, rn_base, rn_add, ren_mkSl, Enc.flat_ren, set_same, set_ne, sets_cons, sets_nil, Keep.set, Keep.setK, Keep.refl, Sc.ren (fun j hj => rn_low hj) hs, hrs, wrap_succ hlk h2.le]))
                  · have he : edgeF (costF L) (at' N i) (at' N k) = [] := by unfold edgeF; rw [if_neg (fun e => hc2 e.2)]
                    rw [he, List.append_nil] at hrs
                    refine CW.vc env6 [0, 2, 3, 4, 5, 6, 7, 8, 9, 10, 11, 14, 17, 23, 32, 43, 50, 75] (by kernel_rfl) ?_
                    (simp only [go_sem, reduceIte, reduceCtorEq, Nat.reduceAdd, Nat.reduceMul, Nat.reduceSub, Nat.reduceLT, Nat.reduceLeDiff, Nat.reduceEqDiff, Int.reduceEq, Int.reduceLT, Int.reduceLE, Int.reduceNe, len_sRecord h, idx_sRecord h, ld_sRecord h, sh_sRecord h, sw_sRecord h, sf_sRecord_0 h, sc_sRecord_0 h, sf_sRecord_1 h, sc_sRecord_1 h, sf_sRecord_2 h, sc_sRecord_2 h, sf_sRecord_3 h, sc_sRecord_3 h, sf_sRecord_4 h, sc_sRecord_4 h, sf_sRecord_5 h, sc_sRecord_5 h, h.P, h.oc, h.cl, h.rd, h.ref, strip_P hs, strip_rd hs, strip_ld hs, strip_sl h hs k_sRecord, G6_unlike, conUnlike, G6_rcost, conCost, refOf_v, hrd, hok, len_sint h2, idx_sint h2, ld_sint h2, sh_sint h2, sw_sint h2, h2.P, h2.oc, h2.cl, h2.rd, h2.ref, strip_P hs2, strip_rd hs2, strip_ld hs2, strip_sl h2 hs2 k_sint, stEi, hli, hlk, hc1, hc2, h16]; repeat (refine Vc.mk' ?_; simp only [go_sem, reduceIte, reduceCtorEq, Nat.reduceAdd, Nat.reduceMul, Nat.reduceSub, Nat.reduceLT, Nat.reduceLeDiff, Nat.reduceEqDiff, Int.reduceEq, Int.reduceLT, Int.reduceLE, Int.reduceNe, len_sRecord h, idx_sRecord h, ld_sRecord h, sh_sRecord h, sw_sRecord h, sf_sRecord_0 h, sc_sRecord_0 h, sf_sRecord_1 h, sc_sRecord_1 h, sf_sRecord_2 h, sc_sRecord_2 h, sf_sRecord_3 h, sc_sRecord_3 h, sf_sRecord_4 h, sc_sRecord_4 h, sf_sRecord_5 h, sc_sRecord_5 h, h.P, h.oc, h.cl, h.rd, h.ref, strip_P hs, strip_rd hs, strip_ld hs, strip_sl h hs k_sRecord, G6_unlike, conUnlike, G6_rcost, conCost, refOf_v, hrd, hok, len_sint h2, idx_sint h2, ld_sint h2, sh_sint h2, sw_sint h2, h2.P, h2.oc, h2.cl, h2.rd, h2.ref, strip_P hs2, strip_rd hs2, strip_ld hs2, strip_sl h2 hs2 k_sint, stEi, hli, hlk, hc1, hc2, h16]))
                    exact .mk (k + 1) hlk (by omega) (SubR.mk' [top, top + 1, top + 2, top + 3] hcl (by simp) (by simp) rfl (frSub_ok (by simp [frSub, lkG, ren, renL, renL_set, renL_ints, UpdOk.nil, UpdOk.cons, renOO_some, renO_cells, renO_map, renOO_mkOb, rn_base, rn_add, ren_mkSl, Enc.flat_ren, set_same, set_ne, sets_cons, sets_nil, Keep.set, Keep.setK, Keep.refl, Sc.ren (fun j hj => rn_low hj) hs, hrs, wrap_succ hlk h2.le])) (by simp [frSub, lkG, ren, renL, renL_set, renL_ints, UpdOk.nil, UpdOk.cons, renOO_some, renO_cells, renO_map, renOO_mkOb, rn_base, rn_add, ren_mkSl, Enc.flat_ren, set_same, set_ne, sets_cons, sets_nil, Keep.set, Keep.setK, Keep.refl, Sc.ren (fun j hj => rn_low hj) hs, hrs, wrap_succ hlk h2.le]) (by simp [frSub, lkG, ren, renL, renL_set, renL_ints, UpdOk.nil, UpdOk.cons, renOO_some, renO_cells, renO_map, renOO_mkOb, rn_base, rn_add, ren_mkSl, Enc.flat_ren, set_same, set_ne, sets_cons, sets_nil, Keep.set, Keep.setK, Keep.refl, Sc.ren (fun j hj => rn_low hj) hs, hrs, wrap_succ hlk h2.le]))
                · have he : edgeF (costF L) (at' N i) (at' N k) = [] := by unfold edgeF; rw [if_neg (fun e => hc1 e.1)]
                  rw [he, List.append_nil] at hrs
                  refine CW.vc env6 [0, 2, 3, 4, 5, 6, 7, 8, 9, 10, 11, 14, 17, 23, 32, 43, 50, 75] (by kernel_rfl) ?_
                  (simp only [go_sem, reduceIte, reduceCtorEq, Nat.reduceAdd, Nat.reduceMul, Nat.reduceSub, Nat.reduceLT, Nat.reduceLeDiff, Nat.reduceEqDiff, Int.reduceEq, Int.reduceLT, Int.reduceLE, Int.reduceNe, len_sRecord h, idx_sRecord h, ld_sRecord h, sh_sRecord h, sw_sRecord h, sf_sRecord_0 h, sc_sRecord_0 h, sf_sRecord_1 h, sc_sRecord_1 h, sf_sRecord_2 h, sc_sRecord_2 h, sf_sRecord_3 h, sc_sRecord_3 h, sf_sRecord_4 h, sc_sRecord_4 h, sf_sRecord_5 h, sc_sRecord_5 h, h.P, h.oc, h.cl, h.rd, h.ref, strip_P hs, strip_rd hs, strip_ld hs, strip_sl h hs k_sRecord, G6_unlike, conUnlike, G6_rcost, conCost, refOf_v, hrd, hok, len_sint h2, idx_sint h2, ld_sint h2, sh_sint h2, sw_sint h2, h2.P, h2.oc, h2.cl, h2.rd, h2.ref, strip_P hs2, strip_rd hs2, strip_ld hs2, strip_sl h2 hs2 k_sint, stEi, hli, hlk, hc1, h16]; repeat (refine Vc.mk' ?_; simp only [go_sem, reduceIte, reduceCtorEq, Nat.reduceAdd, Nat.reduceMul, Nat.reduceSub, Nat.reduceLT, Nat.reduceLeDiff, Nat.reduceEqDiff, Int.reduceEq, Int.reduceLT, Int.reduceLE, Int.reduceNe, len_sRecord h, idx_sRecord h, ld_sRecord h, sh_sRecord h, sw_sRecord h, sf_sRecord_0 h, sc_sRecord_0 h, sf_sRecord_1 h, sc_sRecord_1 h, sf_sRecord_2 h, sc_sRecord_2 h, sf_sRecord_3 h, sc_sRecord_3 h, sf_sRecord_4 h, sc_sRecord_4 h, sf_sRecord_5 h, sc_sRecord_5 h, h.P, h.oc, h.cl, h.rd, h.ref, strip_P hs, strip_rd hs, strip_ld hs, strip_sl h hs k_sRecord, G6_unlike, conUnlike, G6_rcost, conCost, refOf_v, hrd, hok, len_sint h2, idx_sint h2, ld_sint h2, sh_sint h2, sw_sint h2, h2.P, h2.oc, h2.cl, h2.rd, h2.ref, strip_P hs2, strip_rd hs2, strip_ld hs2, strip_sl h2 hs2 k_sint, stEi, hli, hlk, hc1, h16]))
                  exact .mk (k + 1) hlk (by omega) (SubR.mk' [top, top + 1, top + 2, top + 3] hcl (by simp) (by simp) rfl (frSub_ok (by simp [frSub, lkG, ren, renL, renL_set, renL_ints, UpdOk.nil, UpdOk.cons, renOO_some, renO_cells, renO_map, renOO_mkOb, rn_base, rn_add, ren_mkSl, Enc.flat_ren, set_same, set_ne, sets_cons, sets_nil, Keep.set, Keep.setK, Keep.refl, Sc.ren (fun j hj => rn_low hj) hs, hrs, wrap_succ hlk h2.le])) (by simp [frSub, lkG, ren, renL, renL_set, renL_ints, UpdOk.nil, UpdOk.cons, renOO_some, renO_cells, renO_map, renOO_mkOb, rn_base, rn_add, ren_mkSl, Enc.flat_ren, set_same, set_ne, sets_cons, sets_nil, Keep.set, Keep.setK, Keep.refl, Sc.ren (fun j hj => rn_low hj) hs, hrs, wrap_succ hlk h2.le]) (by simp [frSub, lkG, ren, renL, renL_set, renL_ints, UpdOk.nil, UpdOk.cons, renOO_some, renO_cells, renO_map, renOO_mkOb, rn_base, rn_add, ren_mkSl, Enc.flat_ren, set_same, set_ne, sets_cons, sets_nil, Keep.set, Keep.setK, Keep.refl, Sc.ren (fun j hj => rn_low hj) hs, hrs, wrap_succ hlk h2.le]))
              · have hk2 : k = N.length := by omega
                subst hk2
                have hes := edgesB_succ (costF L) (N := N) hli
                refine CW.vc env6 [0, 2, 3, 4, 5, 6, 7, 8, 9, 10, 11, 14, 17, 23, 32, 43, 50, 75] (by kernel_rfl) ?_
                (simp only [go_sem, reduceIte, reduceCtorEq, Nat.reduceAdd, Nat.reduceMul, Nat.reduceSub, Nat.reduceLT, Nat.reduceLeDiff, Nat.reduceEqDiff, Int.reduceEq, Int.reduceLT, Int.reduceLE, Int.reduceNe, len_sRecord h, idx_sRecord h, ld_sRecord h, sh_sRecord h, sw_sRecord h, sf_sRecord_0 h, sc_sRecord_0 h, sf_sRecord_1 h, sc_sRecord_1 h, sf_sRecord_2 h, sc_sRecord_2 h, sf_sRecord_3 h, sc_sRecord_3 h, sf_sRecord_4 h, sc_sRecord_4 h, sf_sRecord_5 h, sc_sRecord_5 h, h.P, h.oc, h.cl, h.rd, h.ref, strip_P hs, strip_rd hs, strip_ld hs, strip_sl h hs k_sRecord, G6_unlike, conUnlike, G6_rcost, conCost, refOf_v, hrd, hok, len_sint h2, idx_sint h2, ld_sint h2, sh_sint h2, sw_sint h2, h2.P, h2.oc, h2.cl, h2.rd, h2.ref, strip_P hs2, strip_rd hs2, strip_ld hs2, strip_sl h2 hs2 k_sint, stEi, hli, Nat.lt_irrefl, decide_false, List.take_length]; repeat (refine Vc.mk' ?_; simp only [go_sem, reduceIte, reduceCtorEq, Nat.reduceAdd, Nat.reduceMul, Nat.reduceSub, Nat.reduceLT, Nat.reduceLeDiff, Nat.reduceEqDiff, Int.reduceEq, Int.reduceLT, Int.reduceLE, Int.reduceNe, len_sRecord h, idx_sRecord h, ld_sRecord h, sh_sRecord h, sw_sRecord h, sf_sRecord_0 h, sc_sRecord_0 h, sf_sRecord_1 h, sc_sRecord_1 h, sf_sRecord_2 h, sc_sRecord_2 h, sf_sRecord_3 h, sc_sRecord_3 h, sf_sRecord_4 h, sc_sRecord_4 h, sf_sRecord_5 h, sc_sRecord_5 h, h.P, h.oc, h.cl, h.rd, h.ref, strip_P hs, strip_rd hs, strip_ld hs, strip_sl h hs k_sRecord, G6_unlike, conUnlike, G6_rcost, conCost, refOf_v, hrd, hok, len_sint h2, idx_sint h2, ld_sint h2, sh_sint h2, sw_sint h2, h2.P, h2.oc, h2.cl, h2.rd, h2.ref, strip_P hs2, strip_rd hs2, strip_ld hs2, strip_sl h2 hs2 k_sint, stEi, hli, Nat.lt_irrefl, decide_false, List.take_length]))
                exact .mk (i + 1) hli (by omega) (SubR.mk' [top, top + 1, top + 2, top + 3] hcl (by simp) (by simp) rfl (frSub_ok (by simp [frSub, lkG, ren, renL, renL_set, renL_ints, UpdOk.nil, UpdOk.cons, renOO_some, renO_cells, renO_map, renOO_mkOb, rn_base, rn_add, ren_mkSl, Enc.flat_ren, set_same, set_ne, sets_cons, sets_nil, Keep.set, Keep.setK, Keep.refl, Sc.ren (fun j hj => rn_low hj) hs, hes, wrap_succ hli h2.le])) (by simp [frSub, lkG, ren, renL, renL_set, renL_ints, UpdOk.nil, UpdOk.cons, renOO_some, renO_cells, renO_map, renOO_mkOb, rn_base, rn_add, ren_mkSl, Enc.flat_ren, set_same, set_ne, sets_cons, sets_nil, Keep.set, Keep.setK, Keep.refl, Sc.ren (fun j hj => rn_low hj) hs, hes, wrap_succ hli h2.le]) (by simp [frSub, lkG, ren, renL, renL_set, renL_ints, UpdOk.nil, UpdOk.cons, renOO_some, renO_cells, renO_map, renOO_mkOb, rn_base, rn_add, ren_mkSl, Enc.flat_ren, set_same, set_ne, sets_cons, sets_nil, Keep.set, Keep.setK, Keep.refl, Sc.ren (fun j hj => rn_low hj) hs, hes, wrap_succ hli h2.le]))
          · have hi2 : i = N.length := by omega
            subst hi2
            refine CW.vc env6 [0, 2, 3, 4, 5, 6, 7, 8, 9, 10, 11, 14, 17, 23, 32, 43, 50, 75] (by kernel_rfl) ?_
            (simp only [go_sem, reduceIte, reduceCtorEq, Nat.reduceAdd, Nat.reduceMul, Nat.reduceSub, Nat.reduceLT, Nat.reduceLeDiff, Nat.reduceEqDiff, Int.reduceEq, Int.reduceLT, Int.reduceLE, Int.reduceNe, len_sRecord h, idx_sRecord h, ld_sRecord h, sh_sRecord h, sw_sRecord h, sf_sRecord_0 h, sc_sRecord_0 h, sf_sRecord_1 h, sc_sRecord_1 h, sf_sRecord_2 h, sc_sRecord_2 h, sf_sRecord_3 h, sc_sRecord_3 h, sf_sRecord_4 h, sc_sRecord_4 h, sf_sRecord_5 h, sc_sRecord_5 h, h.P, h.oc, h.cl, h.rd, h.ref, strip_P hs, strip_rd hs, strip_ld hs, strip_sl h hs k_sRecord, G6_unlike, conUnlike, G6_rcost, conCost, refOf_v, hrd, hok, len_sint h2, idx_sint h2, ld_sint h2, sh_sint h2, sw_sint h2, h2.P, h2.oc, h2.cl, h2.rd, h2.ref, strip_P hs2, strip_rd hs2, strip_ld hs2, strip_sl h2 hs2 k_sint, stE, Nat.lt_irrefl, decide_false, List.take_length]; repeat (refine Vc.mk' ?_; simp only [go_sem, reduceIte, reduceCtorEq, Nat.reduceAdd, Nat.reduceMul, Nat.reduceSub, Nat.reduceLT, Nat.reduceLeDiff, Nat.reduceEqDiff, Int.reduceEq, Int.reduceLT, Int.reduceLE, Int.reduceNe, len_sRecord h, idx_sRecord h, ld_sRecord h, sh_sRecord h, sw_sRecord h, sf_sRecord_0 h, sc_sRecord_0 h, sf_sRecord_1 h, sc_sRecord_1 h, sf_sRecord_2 h, sc_sRecord_2 h, sf_sRecord_3 h, sc_sRecord_3 h, sf_sRecord_4 h, sc_sRecord_4 h, sf_sRecord_5 h, sc_sRecord_5 h, h.P, h.oc, h.cl, h.rd, h.ref, strip_P hs, strip_rd hs, strip_ld hs, strip_sl h hs k_sRecord, G6_unlike, conUnlike, G6_rcost, conCost, refOf_v, hrd, hok, len_sint h2, idx_sint h2, ld_sint h2, sh_sint h2, sw_sint h2, h2.P, h2.oc, h2.cl, h2.rd, h2.ref, strip_P hs2, strip_rd hs2, strip_ld hs2, strip_sl h2 hs2 k_sint, stE, Nat.lt_irrefl, decide_false, List.take_length]))
            simp only [resBoth, nF, eF, errF, hu, if_true, hEF, hN]
            exact ⟨[top, top + 3], by simp, by simp, by simp, by simp [frSub, lkG, ren, renL, renL_set, renL_ints, UpdOk.nil, UpdOk.cons, renOO_some, renO_cells, renO_map, renOO_mkOb, rn_base, rn_add, ren_mkSl, Enc.flat_ren, set_same, set_ne, sets_cons, sets_nil, Keep.set, Keep.setK, Keep.refl], by simp [frSub, lkG, ren, renL, renL_set, renL_ints, UpdOk.nil, UpdOk.cons, renOO_some, renO_cells, renO_map, renOO_mkOb, rn_base, rn_add, ren_mkSl, Enc.flat_ren, set_same, set_ne, sets_cons, sets_nil, Keep.set, Keep.setK, Keep.refl], by simp [frSub, lkG, ren, renL, renL_set, renL_ints, UpdOk.nil, UpdOk.cons, renOO_some, renO_cells, renO_map, renOO_mkOb, rn_base, rn_add, ren_mkSl, Enc.flat_ren, set_same, set_ne, sets_cons, sets_nil, Keep.set, Keep.setK, Keep.refl]⟩
theorem nF_len (L : List RecD) : (nF L).length ≤ 25 := by
  unfold nF
  split
  · exact nodesN_len L 25
  · simp
theorem eF_len (L : List RecD) : (eF L).length ≤ 625 := by
  unfold eF
  split
  · have h1 := edgesB_len (costF L) (nodesF L) (nodesF L)
    have h2 : (nodesF L).length ≤ 25 := nodesN_len L 25
    exact Nat.le_trans h1 (Nat.mul_le_mul h2 h2)
  · simp
def G7 := addG G6 11 conBoth
theorem env7 : EnvV Try.prog tt.get G7 := env6.add rboth_ok
theorem G7_both : G7 10 = conBoth := rfl
theorem G7_rboth : G7 11 = conBoth := rfl
end Go.Proofs.Ytaenmabpekbjoaa.Dm
