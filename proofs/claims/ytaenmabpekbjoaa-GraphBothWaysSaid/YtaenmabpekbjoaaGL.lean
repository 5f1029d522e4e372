/- GraphLess: the walk. -/
import Derived.Test.YtaenmabpekbjoaaGLP
set_option linter.unusedSimpArgs false
set_option linter.unusedVariables false
namespace Go.Proofs.Ytaenmabpekbjoaa.Dm
open Go.Dm
set_option maxHeartbeats 8000000
set_option maxRecDepth 20000

def conHas : Con := .pure (fun args hp => match args with | [.agg ⟨[_, b]⟩, x, y] => SlP e_Edge hp b ∧ IsI .i64 x ∧ IsI .i64 y | _ => False) (fun args hp => match args with
  | [.agg ⟨[_, b]⟩, x, y] => .bool (hasE (e_Edge.rd hp b) (intOf x) (intOf y)) | _ => undef)
def stH (hp : Hp) (top : Nat) (a b : Value) (x y : Int) (i : Nat) : SS := ⟨[(1, .int .i64 x, true), (2, .int .i64 y, true), (3, .pointer (some ⟨top, 0, none⟩), true), (7, .int .i64 (i : Int), true)], hp.sets [(top, some (.cells true 0 [a, b]))], top + 1⟩

theorem has_ok : ConOk Try.prog 15 conHas := by
  refine .mkRd fn15_ok ?_ ?_
  · intro args hp h
    match args, h with
    | [.agg ⟨[a, b]⟩, x, y], _ => rfl
  intro args hp hpre top hcl hsc
  match args, hpre with
  | [.agg ⟨[a, b]⟩, x, y], ⟨⟨E, hb⟩, hx, hy⟩ =>
  rw [hx, hy]
  generalize intOf x = x, intOf y = y
  have bs := hb.low hcl
  have as1 : Sc top a := hsc.1.1
  simp only [hb.rd, intOf_int]
  refine CalledOk.of_fun tt_ok fn15_ok rfl 33 rfl [.tmp 6] rfl (show 3 ≤ 33 by decide) ?_
  refine CW.vc env9 [0, 1, 2, 3, 6, 7, 12, 32] (by kernel_rfl) ?_
  (simp only [go_sem, reduceIte, reduceCtorEq, Nat.reduceAdd, Nat.reduceMul, Nat.reduceSub, Nat.reduceLT, Nat.reduceLeDiff, Nat.reduceEqDiff, Int.reduceEq, Int.reduceLT, Int.reduceLE, Int.reduceNe, len_sEdge hb, idx_sEdge hb, ld_sEdge hb, sh_sEdge hb, sw_sEdge hb, sf_sEdge_0 hb, sc_sEdge_0 hb, sf_sEdge_1 hb, sc_sEdge_1 hb, sf_sEdge_2 hb, sc_sEdge_2 hb, hb.P, hb.oc, hb.cl, hb.rd, hb.ref, strip_P bs, strip_rd bs, strip_ld bs, strip_sl hb bs k_sEdge]; repeat (refine Vc.mk' ?_; simp only [go_sem, reduceIte, reduceCtorEq, Nat.reduceAdd, Nat.reduceMul, Nat.reduceSub, Nat.reduceLT, Nat.reduceLeDiff, Nat.reduceEqDiff, Int.reduceEq, Int.reduceLT, Int.reduceLE, Int.reduceNe, len_sEdge hb, idx_sEdge hb, ld_sEdge hb, sh_sEdge hb, sw_sEdge hb, sf_sEdge_0 hb, sc_sEdge_0 hb, sf_sEdge_1 hb, sc_sEdge_1 hb, sf_sEdge_2 hb, sc_sEdge_2 hb, hb.P, hb.oc, hb.cl, hb.rd, hb.ref, strip_P bs, strip_rd bs, strip_ld bs, strip_sl hb bs k_sEdge]))
  refine CW.loopR (stH hp top a b x y) (fun i => i ≤ E.length ∧ hasE (E.take i) x y = false) (fun i => E.length - i) 0 ⟨Nat.zero_le _, rfl⟩ ?_ ?_
  · exact SubR.mk' [top] hcl (by simp) (by simp) rfl (frSub_ok (by simp [frSub, lkG, ren, renL, renL_set, renL_ints, UpdOk.nil, UpdOk.cons, renOO_some, renO_cells, renO_map, renOO_mkOb, rn_base, rn_add, ren_mkSl, Enc.flat_ren, set_same, set_ne, sets_cons, sets_nil, Keep.set, Keep.setK, Keep.refl, Sc.ren (fun j hj => rn_low hj) as1, Sc.ren (fun j hj => rn_low hj) bs])) (by simp [frSub, lkG, ren, renL, renL_set, renL_ints, UpdOk.nil, UpdOk.cons, renOO_some, renO_cells, renO_map, renOO_mkOb, rn_base, rn_add, ren_mkSl, Enc.flat_ren, set_same, set_ne, sets_cons, sets_nil, Keep.set, Keep.setK, Keep.refl, Sc.ren (fun j hj => rn_low hj) as1, Sc.ren (fun j hj => rn_low hj) bs]) (by simp [frSub, lkG, ren, renL, renL_set, renL_ints, UpdOk.nil, UpdOk.cons, renOO_some, renO_cells, renO_map, renOO_mkOb, rn_base, rn_add, ren_mkSl, Enc.flat_ren, set_same, set_ne, sets_cons, sets_nil, Keep.set, Keep.setK, Keep.refl, Sc.ren (fun j hj => rn_low hj) as1, Sc.ren (fun j hj => rn_low hj) bs])
  · rintro i ⟨hi, hm⟩
    by_cases hlt : i < E.length
    · have hst : hasE (E.take (i + 1)) x y = (decide ((at' E i).From = x) && decide ((at' E i).To = y)) := by
        have := any_take (p := fun z : T_Edge => decide (z.From = x) && decide (z.To = y)) hlt
        unfold hasE at hm ⊢
        rw [this, hm, Bool.false_or]
      refine CW.vc env9 [0, 1, 2, 3, 6, 7, 12, 32] (by kernel_rfl) ?_
      (simp only [go_sem, reduceIte, reduceCtorEq, Nat.reduceAdd, Nat.reduceMul, Nat.reduceSub, Nat.reduceLT, Nat.reduceLeDiff, Nat.reduceEqDiff, Int.reduceEq, Int.reduceLT, Int.reduceLE, Int.reduceNe, len_sEdge hb, idx_sEdge hb, ld_sEdge hb, sh_sEdge hb, sw_sEdge hb, sf_sEdge_0 hb, sc_sEdge_0 hb, sf_sEdge_1 hb, sc_sEdge_1 hb, sf_sEdge_2 hb, sc_sEdge_2 hb, hb.P, hb.oc, hb.cl, hb.rd, hb.ref, strip_P bs, strip_rd bs, strip_ld bs, strip_sl hb bs k_sEdge, stH, hlt]; repeat (refine Vc.mk' ?_; simp only [go_sem, reduceIte, reduceCtorEq, Nat.reduceAdd, Nat.reduceMul, Nat.reduceSub, Nat.reduceLT, Nat.reduceLeDiff, Nat.reduceEqDiff, Int.reduceEq, Int.reduceLT, Int.reduceLE, Int.reduceNe, len_sEdge hb, idx_sEdge hb, ld_sEdge hb, sh_sEdge hb, sw_sEdge hb, sf_sEdge_0 hb, sc_sEdge_0 hb, sf_sEdge_1 hb, sc_sEdge_1 hb, sf_sEdge_2 hb, sc_sEdge_2 hb, hb.P, hb.oc, hb.cl, hb.rd, hb.ref, strip_P bs, strip_rd bs, strip_ld bs, strip_sl hb bs k_sEdge, stH, hlt]))
      refine condP.mk (fun c => ?_) (fun c => ?_)
      · (simp only [go_sem, reduceIte, reduceCtorEq, Nat.reduceAdd, Nat.reduceMul, Nat.reduceSub, Nat.reduceLT, Nat.reduceLeDiff, Nat.reduceEqDiff, Int.reduceEq, Int.reduceLT, Int.reduceLE, Int.reduceNe, len_sEdge hb, idx_sEdge hb, ld_sEdge hb, sh_sEdge hb, sw_sEdge hb, sf_sEdge_0 hb, sc_sEdge_0 hb, sf_sEdge_1 hb, sc_sEdge_1 hb, sf_sEdge_2 hb, sc_sEdge_2 hb, hb.P, hb.oc, hb.cl, hb.rd, hb.ref, strip_P bs, strip_rd bs, strip_ld bs, strip_sl hb bs k_sEdge]; repeat (refine Vc.mk' ?_; simp only [go_sem, reduceIte, reduceCtorEq, Nat.reduceAdd, Nat.reduceMul, Nat.reduceSub, Nat.reduceLT, Nat.reduceLeDiff, Nat.reduceEqDiff, Int.reduceEq, Int.reduceLT, Int.reduceLE, Int.reduceNe, len_sEdge hb, idx_sEdge hb, ld_sEdge hb, sh_sEdge hb, sw_sEdge hb, sf_sEdge_0 hb, sc_sEdge_0 hb, sf_sEdge_1 hb, sc_sEdge_1 hb, sf_sEdge_2 hb, sc_sEdge_2 hb, hb.P, hb.oc, hb.cl, hb.rd, hb.ref, strip_P bs, strip_rd bs, strip_ld bs, strip_sl hb bs k_sEdge]))
        rw [c] at hst
        have : hasE E x y = true := by
          unfold hasE at hst ⊢
          obtain ⟨z, hz, e⟩ := List.any_eq_true.1 hst
          exact List.any_eq_true.2 ⟨z, List.mem_of_mem_take hz, e⟩
        simp [this]
      · (simp only [go_sem, reduceIte, reduceCtorEq, Nat.reduceAdd, Nat.reduceMul, Nat.reduceSub, Nat.reduceLT, Nat.reduceLeDiff, Nat.reduceEqDiff, Int.reduceEq, Int.reduceLT, Int.reduceLE, Int.reduceNe, len_sEdge hb, idx_sEdge hb, ld_sEdge hb, sh_sEdge hb, sw_sEdge hb, sf_sEdge_0 hb, sc_sEdge_0 hb, sf_sEdge_1 hb, sc_sEdge_1 hb, sf_sEdge_2 hb, sc_sEdge_2 hb, hb.P, hb.oc, hb.cl, hb.rd, hb.ref, strip_P bs, strip_rd bs, strip_ld bs, strip_sl hb bs k_sEdge]; repeat (refine Vc.mk' ?_; simp only [go_sem, reduceIte, reduceCtorEq, Nat.reduceAdd, Nat.reduceMul, Nat.reduceSub, Nat.reduceLT, Nat.reduceLeDiff, Nat.reduceEqDiff, Int.reduceEq, Int.reduceLT, Int.reduceLE, Int.reduceNe, len_sEdge hb, idx_sEdge hb, ld_sEdge hb, sh_sEdge hb, sw_sEdge hb, sf_sEdge_0 hb, sc_sEdge_0 hb, sf_sEdge_1 hb, sc_sEdge_1 hb, sf_sEdge_2 hb, sc_sEdge_2 hb, hb.P, hb.oc, hb.cl, hb.rd, hb.ref, strip_P bs, strip_rd bs, strip_ld bs, strip_sl hb bs k_sEdge]))
        rw [c] at hst
        exact .mk (i + 1) ⟨hlt, hst⟩ (by omega) (SubR.mk' [top] hcl (by simp) (by simp) rfl (frSub_ok (by simp [frSub, lkG, ren, renL, renL_set, renL_ints, UpdOk.nil, UpdOk.cons, renOO_some, renO_cells, renO_map, renOO_mkOb, rn_base, rn_add, ren_mkSl, Enc.flat_ren, set_same, set_ne, sets_cons, sets_nil, Keep.set, Keep.setK, Keep.refl, Sc.ren (fun j hj => rn_low hj) as1, Sc.ren (fun j hj => rn_low hj) bs, wrap_succ hlt hb.le])) (by simp [frSub, lkG, ren, renL, renL_set, renL_ints, UpdOk.nil, UpdOk.cons, renOO_some, renO_cells, renO_map, renOO_mkOb, rn_base, rn_add, ren_mkSl, Enc.flat_ren, set_same, set_ne, sets_cons, sets_nil, Keep.set, Keep.setK, Keep.refl, Sc.ren (fun j hj => rn_low hj) as1, Sc.ren (fun j hj => rn_low hj) bs, wrap_succ hlt hb.le]) (by simp [frSub, lkG, ren, renL, renL_set, renL_ints, UpdOk.nil, UpdOk.cons, renOO_some, renO_cells, renO_map, renOO_mkOb, rn_base, rn_add, ren_mkSl, Enc.flat_ren, set_same, set_ne, sets_cons, sets_nil, Keep.set, Keep.setK, Keep.refl, Sc.ren (fun j hj => rn_low hj) as1, Sc.ren (fun j hj => rn_low hj) bs, wrap_succ hlt hb.le]))
    · have hi2 : i = E.length := by omega
      subst hi2
      rw [List.take_length] at hm
      refine CW.vc env9 [0, 1, 2, 3, 6, 7, 12, 32] (by kernel_rfl) ?_
      (simp only [go_sem, reduceIte, reduceCtorEq, Nat.reduceAdd, Nat.reduceMul, Nat.reduceSub, Nat.reduceLT, Nat.reduceLeDiff, Nat.reduceEqDiff, Int.reduceEq, Int.reduceLT, Int.reduceLE, Int.reduceNe, len_sEdge hb, idx_sEdge hb, ld_sEdge hb, sh_sEdge hb, sw_sEdge hb, sf_sEdge_0 hb, sc_sEdge_0 hb, sf_sEdge_1 hb, sc_sEdge_1 hb, sf_sEdge_2 hb, sc_sEdge_2 hb, hb.P, hb.oc, hb.cl, hb.rd, hb.ref, strip_P bs, strip_rd bs, strip_ld bs, strip_sl hb bs k_sEdge, stH, Nat.lt_irrefl, decide_false]; repeat (refine Vc.mk' ?_; simp only [go_sem, reduceIte, reduceCtorEq, Nat.reduceAdd, Nat.reduceMul, Nat.reduceSub, Nat.reduceLT, Nat.reduceLeDiff, Nat.reduceEqDiff, Int.reduceEq, Int.reduceLT, Int.reduceLE, Int.reduceNe, len_sEdge hb, idx_sEdge hb, ld_sEdge hb, sh_sEdge hb, sw_sEdge hb, sf_sEdge_0 hb, sc_sEdge_0 hb, sf_sEdge_1 hb, sc_sEdge_1 hb, sf_sEdge_2 hb, sc_sEdge_2 hb, hb.P, hb.oc, hb.cl, hb.rd, hb.ref, strip_P bs, strip_rd bs, strip_ld bs, strip_sl hb bs k_sEdge, stH, Nat.lt_irrefl, decide_false]))
      simp [hm]
def G10 := addG G9 15 conHas
theorem env10 : EnvV Try.prog tt.get G10 := env9.add has_ok
theorem G10_has : G10 15 = conHas := rfl
theorem G10_both : G10 10 = conBoth := rfl
theorem G10_works : G10 14 = conWorks := rfl

def cntN (o g : Int) (E : List T_Edge) : Nat := E.countP fun x => !pairB o g x
def stL (hp : Hp) (top : Nat) (r : T_Record) (g : Int) (N N' : List Int) (E E' : List T_Edge) (i : Nat) : SS :=
  ⟨[(7, .pointer (some ⟨top + 2, 0, none⟩), true), (9, .pointer (some ⟨top + 3, 0, none⟩), true), (10, .int .i64 g, true), (13, .pointer (some ⟨top + 6, 0, none⟩), true), (15, .int .i64 (cntN r.Origin g (E.take i) : Int), true), (16, .int .i64 (i : Int), true)],
    hp.sets [(top, mkOb e_Edge E), (top + 1, mkOb e_int N), (top + 2, some (.cells true 0 [mkSl (top + 1) N, mkSl top E])), (top + 3, some (.cells true 0 (e_Record.enc r))), (top + 4, mkOb e_int N'), (top + 5, mkOb e_Edge E'), (top + 6, some (.cells true 0 [mkSl (top + 4) N', mkSl (top + 5) E']))], top + 7⟩

theorem less_walk (hp : Hp) (top : Nat) (v : Value) (wh at0 : Int) (l : List T_Record) (h : SlT e_Record hp v l) (hr : ∀ r ∈ l, SlP e_Adj hp r.Adjs.v) (hcl : Cl hp top) :
    CalledOk Try.prog 4 [v, .int .i64 wh, .int .i64 at0] hp top fun r hp' _ => r = .bool true ∧ Keep top [] hp' hp := by
  have H := RecsAt.of h hr hcl
  have hs := H.s
  generalize hL : l.map (recD hp) = L
  have hLl : L.length = l.length := by rw [← hL, List.length_map]
  have hat : ∀ {k}, k < l.length → at' L k = recD hp (at' l k) := fun hk => by rw [← hL, at_map hk]
  have hrd : ∀ {h'}, Keep top [] h' hp → recs h' v = L := fun hk => by rw [H.rd hk, hL]
  have hok : ∀ {h'}, Keep top [] h' hp → RecsOk h' v = True := fun hk => H.ok hk
  refine CalledOk.of_fun tt_ok fn4_ok rfl 160 rfl [.tmp 6] rfl (show 3 ≤ 160 by decide) ?_
  cases hu : uniqF L with
  | false =>
    have he : errF L = 2 := by unfold errF; rw [hu]; rfl
    refine CW.vc env10 [0, 1, 2, 6, 7, 8, 9, 10, 11, 12, 13, 14, 15, 16, 17, 18, 20, 32, 50, 97, 102, 141, 143] (by kernel_rfl) ?_
    (simp only [go_sem, reduceIte, reduceCtorEq, Nat.reduceAdd, Nat.reduceMul, Nat.reduceSub, Nat.reduceLT, Nat.reduceLeDiff, Nat.reduceEqDiff, Int.reduceEq, Int.reduceLT, Int.reduceLE, Int.reduceNe, len_sRecord h, idx_sRecord h, ld_sRecord h, sh_sRecord h, sw_sRecord h, sf_sRecord_0 h, sc_sRecord_0 h, sf_sRecord_1 h, sc_sRecord_1 h, sf_sRecord_2 h, sc_sRecord_2 h, sf_sRecord_3 h, sc_sRecord_3 h, sf_sRecord_4 h, sc_sRecord_4 h, sf_sRecord_5 h, sc_sRecord_5 h, h.P, h.oc, h.cl, h.rd, h.ref, strip_P hs, strip_rd hs, strip_ld hs, strip_sl h hs k_sRecord, G10_works, conWorks, G10_both, conBoth, resBoth, hrd, hok, refOf_v, he]; repeat (refine Vc.mk' ?_; simp only [go_sem, reduceIte, reduceCtorEq, Nat.reduceAdd, Nat.reduceMul, Nat.reduceSub, Nat.reduceLT, Nat.reduceLeDiff, Nat.reduceEqDiff, Int.reduceEq, Int.reduceLT, Int.reduceLE, Int.reduceNe, len_sRecord h, idx_sRecord h, ld_sRecord h, sh_sRecord h, sw_sRecord h, sf_sRecord_0 h, sc_sRecord_0 h, sf_sRecord_1 h, sc_sRecord_1 h, sf_sRecord_2 h, sc_sRecord_2 h, sf_sRecord_3 h, sc_sRecord_3 h, sf_sRecord_4 h, sc_sRecord_4 h, sf_sRecord_5 h, sc_sRecord_5 h, h.P, h.oc, h.cl, h.rd, h.ref, strip_P hs, strip_rd hs, strip_ld hs, strip_sl h hs k_sRecord, G10_works, conWorks, G10_both, conBoth, resBoth, hrd, hok, refOf_v, he]))
  | true =>
    have U := uniq_of hu
    have hl24 : l.length ≤ 24 := by rw [← hLl]; exact U.len
    have he : errF L = 0 := by unfold errF; rw [hu]; rfl
    by_cases h0 : l.length = 0
    · have h0' : (l.length : Int) = 0 := by omega
      refine CW.vc env10 [0, 1, 2, 6, 7, 8, 9, 10, 11, 12, 13, 14, 15, 16, 17, 18, 20, 32, 50, 97, 102, 141, 143] (by kernel_rfl) ?_
      (simp only [go_sem, reduceIte, reduceCtorEq, Nat.reduceAdd, Nat.reduceMul, Nat.reduceSub, Nat.reduceLT, Nat.reduceLeDiff, Nat.reduceEqDiff, Int.reduceEq, Int.reduceLT, Int.reduceLE, Int.reduceNe, len_sRecord h, idx_sRecord h, ld_sRecord h, sh_sRecord h, sw_sRecord h, sf_sRecord_0 h, sc_sRecord_0 h, sf_sRecord_1 h, sc_sRecord_1 h, sf_sRecord_2 h, sc_sRecord_2 h, sf_sRecord_3 h, sc_sRecord_3 h, sf_sRecord_4 h, sc_sRecord_4 h, sf_sRecord_5 h, sc_sRecord_5 h, h.P, h.oc, h.cl, h.rd, h.ref, strip_P hs, strip_rd hs, strip_ld hs, strip_sl h hs k_sRecord, G10_works, conWorks, G10_both, conBoth, resBoth, hrd, hok, refOf_v, he, h0']; repeat (refine Vc.mk' ?_; simp only [go_sem, reduceIte, reduceCtorEq, Nat.reduceAdd, Nat.reduceMul, Nat.reduceSub, Nat.reduceLT, Nat.reduceLeDiff, Nat.reduceEqDiff, Int.reduceEq, Int.reduceLT, Int.reduceLE, Int.reduceNe, len_sRecord h, idx_sRecord h, ld_sRecord h, sh_sRecord h, sw_sRecord h, sf_sRecord_0 h, sc_sRecord_0 h, sf_sRecord_1 h, sc_sRecord_1 h, sf_sRecord_2 h, sc_sRecord_2 h, sf_sRecord_3 h, sc_sRecord_3 h, sf_sRecord_4 h, sc_sRecord_4 h, sf_sRecord_5 h, sc_sRecord_5 h, h.P, h.oc, h.cl, h.rd, h.ref, strip_P hs, strip_rd hs, strip_ld hs, strip_sl h hs k_sRecord, G10_works, conWorks, G10_both, conBoth, resBoth, hrd, hok, refOf_v, he, h0']))
    · have h0' : ¬ (l.length : Int) = 0 := by omega
      obtain ⟨w, hw, hW⟩ := mod_idx wh (n := l.length) (by omega) (by omega)
      obtain ⟨aj, hA, hAs, hD⟩ := H.at hw
      have hmay := U.may _ (at_mem (show w < L.length by omega))
      rw [hat hw, hD] at hmay
      have haj : aj.length ≤ 16 := by
        simp only [mayR, headOk, Bool.and_eq_true, decide_eq_true_eq] at hmay
        exact hmay.1.2
      by_cases a0 : aj.length = 0
      · have a0' : (aj.length : Int) = 0 := by omega
        refine CW.vc env10 [0, 1, 2, 6, 7, 8, 9, 10, 11, 12, 13, 14, 15, 16, 17, 18, 20, 32, 50, 97, 102, 141, 143] (by kernel_rfl) ?_
        (simp only [go_sem, reduceIte, reduceCtorEq, Nat.reduceAdd, Nat.reduceMul, Nat.reduceSub, Nat.reduceLT, Nat.reduceLeDiff, Nat.reduceEqDiff, Int.reduceEq, Int.reduceLT, Int.reduceLE, Int.reduceNe, len_sRecord h, idx_sRecord h, ld_sRecord h, sh_sRecord h, sw_sRecord h, sf_sRecord_0 h, sc_sRecord_0 h, sf_sRecord_1 h, sc_sRecord_1 h, sf_sRecord_2 h, sc_sRecord_2 h, sf_sRecord_3 h, sc_sRecord_3 h, sf_sRecord_4 h, sc_sRecord_4 h, sf_sRecord_5 h, sc_sRecord_5 h, h.P, h.oc, h.cl, h.rd, h.ref, strip_P hs, strip_rd hs, strip_ld hs, strip_sl h hs k_sRecord, G10_works, conWorks, G10_both, conBoth, resBoth, hrd, hok, refOf_v, len_sAdj hA, idx_sAdj hA, ld_sAdj hA, sh_sAdj hA, sw_sAdj hA, sf_sAdj_0 hA, sc_sAdj_0 hA, sf_sAdj_1 hA, sc_sAdj_1 hA, hA.P, hA.oc, hA.cl, hA.rd, hA.ref, strip_P hAs, strip_rd hAs, strip_ld hAs, strip_sl hA hAs k_sAdj, he, h0', hW, hw, a0']; repeat (refine Vc.mk' ?_; simp only [go_sem, reduceIte, reduceCtorEq, Nat.reduceAdd, Nat.reduceMul, Nat.reduceSub, Nat.reduceLT, Nat.reduceLeDiff, Nat.reduceEqDiff, Int.reduceEq, Int.reduceLT, Int.reduceLE, Int.reduceNe, len_sRecord h, idx_sRecord h, ld_sRecord h, sh_sRecord h, sw_sRecord h, sf_sRecord_0 h, sc_sRecord_0 h, sf_sRecord_1 h, sc_sRecord_1 h, sf_sRecord_2 h, sc_sRecord_2 h, sf_sRecord_3 h, sc_sRecord_3 h, sf_sRecord_4 h, sc_sRecord_4 h, sf_sRecord_5 h, sc_sRecord_5 h, h.P, h.oc, h.cl, h.rd, h.ref, strip_P hs, strip_rd hs, strip_ld hs, strip_sl h hs k_sRecord, G10_works, conWorks, G10_both, conBoth, resBoth, hrd, hok, refOf_v, len_sAdj hA, idx_sAdj hA, ld_sAdj hA, sh_sAdj hA, sw_sAdj hA, sf_sAdj_0 hA, sc_sAdj_0 hA, sf_sAdj_1 hA, sc_sAdj_1 hA, hA.P, hA.oc, hA.cl, hA.rd, hA.ref, strip_P hAs, strip_rd hAs, strip_ld hAs, strip_sl hA hAs k_sAdj, he, h0', hW, hw, a0']))
      · have a0' : ¬ (aj.length : Int) = 0 := by omega
        obtain ⟨k, hk, hK⟩ := mod_idx at0 (n := aj.length) (by omega) (by omega)
        have hk1 : (k : Int) ≤ (aj.length : Int) := by omega
        have hk2 : ((k + 1 : Nat) : Int) ≤ (aj.length : Int) := by omega
        have hk3 : wrapA .i64 ((k : Int) + 1) = ((k + 1 : Nat) : Int) := wrap_succ hk (by omega)
        have hk4 : k ≤ aj.length := by omega
        have hk5 : k + 1 ≤ aj.length := by omega
        have hT : SlT e_Adj hp (subS 2 (at' l w).Adjs.v 0 k) (aj.take k) := hA.take hk4
        have hU : SlT e_Adj hp (subL 2 (at' l w).Adjs.v (k + 1)) (aj.drop (k + 1)) := hA.drop hk5
        have hTs := hT.low hcl
        have hUs := hU.low hcl
        have ht16 : (aj.take k).length ≤ 16777216 := by rw [List.length_take]; omega
        have hs16 : (aj.take k).length + (aj.drop (k + 1)).length ≤ 16777216 := by rw [List.length_take, List.length_drop]; omega
        have hl16 : l.length ≤ 16777216 := by omega
        have hrowl : ∀ (ab : Nat), (l.set w ⟨(at' l w).Origin, (at' l w).Epoch, (at' l w).Seq, (at' l w).Claim, (at' l w).Ingress, refOf (mkSl ab (aj.take k ++ aj.drop (k + 1)))⟩).length = l.length := fun ab => by rw [List.length_set]
        have hAJ16 : (aj.take k ++ aj.drop (k + 1)).length ≤ 16777216 := by rw [List.length_append]; exact hs16
        have hLw : w < L.length := by omega
        have hdrop : dropA (at' L w) k = ⟨(at' l w).Origin, (at' l w).Epoch, (at' l w).Seq, (at' l w).Claim, (at' l w).Ingress, aj.take k ++ aj.drop (k + 1)⟩ := by
          rw [hat hw, hD]; rfl
        have hM : ∀ {h' : Hp} {mb ab : Nat}, h' mb = mkOb e_Record (l.set w ⟨(at' l w).Origin, (at' l w).Epoch, (at' l w).Seq, (at' l w).Claim, (at' l w).Ingress, refOf (mkSl ab (aj.take k ++ aj.drop (k + 1)))⟩) →
            h' ab = mkOb e_Adj (aj.take k ++ aj.drop (k + 1)) → Keep top [] h' hp → RecsOk h' (mkSl mb l) ∧ recs h' (mkSl mb l) = L.set w (dropA (at' L w) k) := by
          intro h' mb ab h1 h2 h3
          rw [← mkSl_len (hrowl ab)]
          have S := SlT.own (E := e_Record) (hp := h') h1 (by rw [hrowl]; exact hl16)
          have SA := SlT.own (E := e_Adj) (hp := h') h2 hAJ16
          constructor
          · refine ⟨_, S, fun r hm => ?_⟩
            rcases List.mem_or_eq_of_mem_set hm with hm | rfl
            · obtain ⟨⟨a, ha⟩, hsr⟩ := H.r r hm
              exact ⟨a, SlT.keep ha hsr h3⟩
            · exact ⟨_, by show SlT e_Adj h' (refOf (mkSl ab _)).v _; rw [ref_mkSl]; exact SA⟩
          · unfold recs
            rw [S.rd, List.map_set]
            have e1 : l.map (recD h') = L := by
              rw [← hL]
              exact List.map_congr_left fun r hm => recD_keep (H.r r hm).1 (H.r r hm).2 h3
            rw [e1, hdrop]
            congr 1
            unfold recD
            simp only [ref_mkSl]
            rw [SA.rd]
        have hM1 : ∀ {h' : Hp}, h' (top + 6) = mkOb e_Record (l.set w ⟨(at' l w).Origin, (at' l w).Epoch, (at' l w).Seq, (at' l w).Claim, (at' l w).Ingress, refOf (mkSl (top + 5) (aj.take k ++ aj.drop (k + 1)))⟩) →
            h' (top + 5) = mkOb e_Adj (aj.take k ++ aj.drop (k + 1)) → Keep top [] h' hp → RecsOk h' (mkSl (top + 6) l) = True := fun h1 h2 h3 => eq_true (hM h1 h2 h3).1
        have hM2 : ∀ {h' : Hp}, h' (top + 6) = mkOb e_Record (l.set w ⟨(at' l w).Origin, (at' l w).Epoch, (at' l w).Seq, (at' l w).Claim, (at' l w).Ingress, refOf (mkSl (top + 5) (aj.take k ++ aj.drop (k + 1)))⟩) →
            h' (top + 5) = mkOb e_Adj (aj.take k ++ aj.drop (k + 1)) → Keep top [] h' hp → recs h' (mkSl (top + 6) l) = L.set w (dropA (at' L w) k) := fun h1 h2 h3 => (hM h1 h2 h3).2
        have hkA : k < (at' L w).Adjs.length := by rw [hat hw, hD]; exact hk
        have V := U.drop (k := k) hLw
        have huM := uniq_mk V
        have heM : errF (L.set w (dropA (at' L w) k)) = 0 := by unfold errF; rw [huM]; rfl
        have hNN : nF (L.set w (dropA (at' L w) k)) = nF L := by
          unfold nF; rw [huM, hu, if_pos rfl, if_pos rfl, nodes_set hLw]
        have ho : (at' L w).Origin = (at' l w).Origin := by rw [hat hw]; rfl
        have hg : (at' (at' L w).Adjs k).To = (at' aj k).To := by rw [hat hw, hD]
        have hEE : eF (L.set w (dropA (at' L w) k)) = (eF L).filter fun x => !pairB (at' l w).Origin (at' aj k).To x := by
          unfold eF
          rw [huM, hu, if_pos rfl, if_pos rfl, edges_set U hLw hkA, ho, hg]
        generalize hN' : nF (L.set w (dropA (at' L w) k)) = N' at hNN
        generalize hE' : eF (L.set w (dropA (at' L w) k)) = E' at hEE
        have hnl := nF_len L
        have hel := eF_len L
        have hel' : E'.length ≤ 16777216 := by
          rw [hEE]; exact Nat.le_trans (List.length_filter_le ..) (by omega)
        generalize hN : nF L = N at hnl hNN
        generalize hE : eF L = E at hel hEE
        have hn16 : N.length ≤ 16777216 := by omega
        have he16 : E.length ≤ 16777216 := by omega
        have hMs : SlT e_Record (hp.set (top + 6) (mkOb e_Record l)) (mkSl (top + 6) l) l := .own (set_same ..) hl16
        refine CW.vc env10 [0, 1, 2, 6, 7, 8, 9, 10, 11, 12, 13, 14, 15, 16, 17, 18, 20, 32, 50, 97, 102, 141, 143] (by kernel_rfl) ?_
        (simp only [go_sem, reduceIte, reduceCtorEq, Nat.reduceAdd, Nat.reduceMul, Nat.reduceSub, Nat.reduceLT, Nat.reduceLeDiff, Nat.reduceEqDiff, Int.reduceEq, Int.reduceLT, Int.reduceLE, Int.reduceNe, len_sRecord h, idx_sRecord h, ld_sRecord h, sh_sRecord h, sw_sRecord h, sf_sRecord_0 h, sc_sRecord_0 h, sf_sRecord_1 h, sc_sRecord_1 h, sf_sRecord_2 h, sc_sRecord_2 h, sf_sRecord_3 h, sc_sRecord_3 h, sf_sRecord_4 h, sc_sRecord_4 h, sf_sRecord_5 h, sc_sRecord_5 h, h.P, h.oc, h.cl, h.rd, h.ref, strip_P hs, strip_rd hs, strip_ld hs, strip_sl h hs k_sRecord, G10_works, conWorks, G10_both, conBoth, resBoth, hrd, hok, refOf_v, len_sAdj hA, idx_sAdj hA, ld_sAdj hA, sh_sAdj hA, sw_sAdj hA, sf_sAdj_0 hA, sc_sAdj_0 hA, sf_sAdj_1 hA, sc_sAdj_1 hA, hA.P, hA.oc, hA.cl, hA.rd, hA.ref, strip_P hAs, strip_rd hAs, strip_ld hAs, strip_sl hA hAs k_sAdj, he, h0', hW, hw, a0', hk, hK, hk1, hk2, hk3, hk4, hk5, len_sAdj hT, idx_sAdj hT, ld_sAdj hT, sh_sAdj hT, sw_sAdj hT, sf_sAdj_0 hT, sc_sAdj_0 hT, sf_sAdj_1 hT, sc_sAdj_1 hT, hT.P, hT.oc, hT.cl, hT.rd, hT.ref, strip_P hTs, strip_rd hTs, strip_ld hTs, strip_sl hT hTs k_sAdj, len_sAdj hU, idx_sAdj hU, ld_sAdj hU, sh_sAdj hU, sw_sAdj hU, sf_sAdj_0 hU, sc_sAdj_0 hU, sf_sAdj_1 hU, sc_sAdj_1 hU, hU.P, hU.oc, hU.cl, hU.rd, hU.ref, strip_P hUs, strip_rd hUs, strip_ld hUs, strip_sl hU hUs k_sAdj, ht16, hs16, hl16, idx_sRecord hMs, sf_sRecord_5 hMs, hM1, hM2, heM, hN', hE', hN, hE]; repeat (refine Vc.mk' ?_; simp only [go_sem, reduceIte, reduceCtorEq, Nat.reduceAdd, Nat.reduceMul, Nat.reduceSub, Nat.reduceLT, Nat.reduceLeDiff, Nat.reduceEqDiff, Int.reduceEq, Int.reduceLT, Int.reduceLE, Int.reduceNe, len_sRecord h, idx_sRecord h, ld_sRecord h, sh_sRecord h, sw_sRecord h, sf_sRecord_0 h, sc_sRecord_0 h, sf_sRecord_1 h, sc_sRecord_1 h, sf_sRecord_2 h, sc_sRecord_2 h, sf_sRecord_3 h, sc_sRecord_3 h, sf_sRecord_4 h, sc_sRecord_4 h, sf_sRecord_5 h, sc_sRecord_5 h, h.P, h.oc, h.cl, h.rd, h.ref, strip_P hs, strip_rd hs, strip_ld hs, strip_sl h hs k_sRecord, G10_works, conWorks, G10_both, conBoth, resBoth, hrd, hok, refOf_v, len_sAdj hA, idx_sAdj hA, ld_sAdj hA, sh_sAdj hA, sw_sAdj hA, sf_sAdj_0 hA, sc_sAdj_0 hA, sf_sAdj_1 hA, sc_sAdj_1 hA, hA.P, hA.oc, hA.cl, hA.rd, hA.ref, strip_P hAs, strip_rd hAs, strip_ld hAs, strip_sl hA hAs k_sAdj, he, h0', hW, hw, a0', hk, hK, hk1, hk2, hk3, hk4, hk5, len_sAdj hT, idx_sAdj hT, ld_sAdj hT, sh_sAdj hT, sw_sAdj hT, sf_sAdj_0 hT, sc_sAdj_0 hT, sf_sAdj_1 hT, sc_sAdj_1 hT, hT.P, hT.oc, hT.cl, hT.rd, hT.ref, strip_P hTs, strip_rd hTs, strip_ld hTs, strip_sl hT hTs k_sAdj, len_sAdj hU, idx_sAdj hU, ld_sAdj hU, sh_sAdj hU, sw_sAdj hU, sf_sAdj_0 hU, sc_sAdj_0 hU, sf_sAdj_1 hU, sc_sAdj_1 hU, hU.P, hU.oc, hU.cl, hU.rd, hU.ref, strip_P hUs, strip_rd hUs, strip_ld hUs, strip_sl hU hUs k_sAdj, ht16, hs16, hl16, idx_sRecord hMs, sf_sRecord_5 hMs, hM1, hM2, heM, hN', hE', hN, hE]))
        refine CW.loopR (stL hp top (at' l w) (at' aj k).To N N' E E') (fun i => i ≤ E.length) (fun i => E.length - i) 0 (Nat.zero_le _) ?_ ?_
        · have hz : ((cntN (at' l w).Origin (at' aj k).To [] : Nat) : Int) = 0 := rfl
          exact SubR.mk' [top + 1, top, top + 2, top + 3, top + 7, top + 8, top + 9] hcl (by simp) (by simp) rfl (frSub_ok (by simp [frSub, lkG, ren, renL, renL_set, renL_ints, UpdOk.nil, UpdOk.cons, renOO_some, renO_cells, renO_map, renOO_mkOb, rn_base, rn_add, ren_mkSl, Enc.flat_ren, set_same, set_ne, sets_cons, sets_nil, Keep.set, Keep.setK, Keep.refl, ren_ref, SRef.ra_id (fun j hj => rn_low hj) hAs, en_Record, hz, Sc.ren (fun j hj => rn_low hj) hAs])) (by simp [frSub, lkG, ren, renL, renL_set, renL_ints, UpdOk.nil, UpdOk.cons, renOO_some, renO_cells, renO_map, renOO_mkOb, rn_base, rn_add, ren_mkSl, Enc.flat_ren, set_same, set_ne, sets_cons, sets_nil, Keep.set, Keep.setK, Keep.refl, ren_ref, SRef.ra_id (fun j hj => rn_low hj) hAs, en_Record, hz, Sc.ren (fun j hj => rn_low hj) hAs]) (by simp [frSub, lkG, ren, renL, renL_set, renL_ints, UpdOk.nil, UpdOk.cons, renOO_some, renO_cells, renO_map, renOO_mkOb, rn_base, rn_add, ren_mkSl, Enc.flat_ren, set_same, set_ne, sets_cons, sets_nil, Keep.set, Keep.setK, Keep.refl, ren_ref, SRef.ra_id (fun j hj => rn_low hj) hAs, en_Record, hz, Sc.ren (fun j hj => rn_low hj) hAs])
        · intro i hi
          have hES : SlT e_Edge (hp.set top (mkOb e_Edge E)) (mkSl top E) E := .own (set_same ..) he16
          have hEs : Sc (top + 1) (mkSl top E) := mkSl_sc (Nat.lt_succ_self _)
          by_cases hlt : i < E.length
          · have hx : at' E i ∈ E := at_mem hlt
            have hhas := has_filter (o := (at' l w).Origin) (g := (at' aj k).To) hx
            rw [← hEE] at hhas
            have hct : cntN (at' l w).Origin (at' aj k).To (E.take (i + 1)) = cntN (at' l w).Origin (at' aj k).To (E.take i) + (if pairB (at' l w).Origin (at' aj k).To (at' E i) = true then 0 else 1) := by
              unfold cntN
              rw [take_at hlt, List.countP_append, List.countP_singleton]
              cases pairB (at' l w).Origin (at' aj k).To (at' E i) <;> rfl
            have hcl2 : cntN (at' l w).Origin (at' aj k).To (E.take i) ≤ 625 := Nat.le_trans (List.countP_le_length) (by rw [List.length_take]; omega)
            have hpb : (decide ((at' E i).From = (at' l w).Origin) && decide ((at' E i).To = (at' aj k).To) || decide ((at' E i).To = (at' l w).Origin) && decide ((at' E i).From = (at' aj k).To)) = pairB (at' l w).Origin (at' aj k).To (at' E i) := rfl
            cases hp1 : pairB (at' l w).Origin (at' aj k).To (at' E i) with
            | true =>
              rw [hp1] at hhas hct
              refine CW.vc env10 [0, 1, 2, 6, 7, 8, 9, 10, 11, 12, 13, 14, 15, 16, 17, 18, 20, 32, 50, 97, 102, 141, 143] (by kernel_rfl) ?_
              (simp only [go_sem, reduceIte, reduceCtorEq, Nat.reduceAdd, Nat.reduceMul, Nat.reduceSub, Nat.reduceLT, Nat.reduceLeDiff, Nat.reduceEqDiff, Int.reduceEq, Int.reduceLT, Int.reduceLE, Int.reduceNe, stL, len_sEdge hES, idx_sEdge hES, ld_sEdge hES, sh_sEdge hES, sw_sEdge hES, sf_sEdge_0 hES, sc_sEdge_0 hES, sf_sEdge_1 hES, sc_sEdge_1 hES, sf_sEdge_2 hES, sc_sEdge_2 hES, hES.P, hES.oc, hES.cl, hES.rd, hES.ref, strip_P hEs, strip_rd hEs, strip_ld hEs, strip_sl hES hEs k_sEdge, hlt, G10_has, conHas, hel', hhas, hpb, hp1]; repeat (refine Vc.mk' ?_; simp only [go_sem, reduceIte, reduceCtorEq, Nat.reduceAdd, Nat.reduceMul, Nat.reduceSub, Nat.reduceLT, Nat.reduceLeDiff, Nat.reduceEqDiff, Int.reduceEq, Int.reduceLT, Int.reduceLE, Int.reduceNe, stL, len_sEdge hES, idx_sEdge hES, ld_sEdge hES, sh_sEdge hES, sw_sEdge hES, sf_sEdge_0 hES, sc_sEdge_0 hES, sf_sEdge_1 hES, sc_sEdge_1 hES, sf_sEdge_2 hES, sc_sEdge_2 hES, hES.P, hES.oc, hES.cl, hES.rd, hES.ref, strip_P hEs, strip_rd hEs, strip_ld hEs, strip_sl hES hEs k_sEdge, hlt, G10_has, conHas, hel', hhas, hpb, hp1]))
              refine ⟨fun h => ⟨h, fun h2 => ⟨h, h2⟩⟩, ?_⟩
              repeat (refine Vc.mk' ?_; (simp only [go_sem, reduceIte, reduceCtorEq, Nat.reduceAdd, Nat.reduceMul, Nat.reduceSub, Nat.reduceLT, Nat.reduceLeDiff, Nat.reduceEqDiff, Int.reduceEq, Int.reduceLT, Int.reduceLE, Int.reduceNe, stL, len_sEdge hES, idx_sEdge hES, ld_sEdge hES, sh_sEdge hES, sw_sEdge hES, sf_sEdge_0 hES, sc_sEdge_0 hES, sf_sEdge_1 hES, sc_sEdge_1 hES, sf_sEdge_2 hES, sc_sEdge_2 hES, hES.P, hES.oc, hES.cl, hES.rd, hES.ref, strip_P hEs, strip_rd hEs, strip_ld hEs, strip_sl hES hEs k_sEdge, hlt, G10_has, conHas, hel', hhas, hpb, hp1]; repeat (refine Vc.mk' ?_; simp only [go_sem, reduceIte, reduceCtorEq, Nat.reduceAdd, Nat.reduceMul, Nat.reduceSub, Nat.reduceLT, Nat.reduceLeDiff, Nat.reduceEqDiff, Int.reduceEq, Int.reduceLT, Int.reduceLE, Int.reduceNe, stL, len_sEdge hES, idx_sEdge hES, ld_sEdge hES, sh_sEdge hES, sw_sEdge hES, sf_sEdge_0 hES, sc_sEdge_0 hES, sf_sEdge_1 hES, sc_sEdge_1 hES, sf_sEdge_2 hES, sc_sEdge_2 hES, hES.P, hES.oc, hES.cl, hES.rd, hES.ref, strip_P hEs, strip_rd hEs, strip_ld hEs, strip_sl hES hEs k_sEdge, hlt, G10_has, conHas, hel', hhas, hpb, hp1])))
              refine .mk (i + 1) hlt (by omega) (SubR.mk' [top, top + 1, top + 2, top + 3, top + 4, top + 5, top + 6] hcl (by simp) (by simp) rfl (frSub_ok (by simp [frSub, lkG, ren, renL, renL_set, renL_ints, UpdOk.nil, UpdOk.cons, renOO_some, renO_cells, renO_map, renOO_mkOb, rn_base, rn_add, ren_mkSl, Enc.flat_ren, set_same, set_ne, sets_cons, sets_nil, Keep.set, Keep.setK, Keep.refl, ren_ref, SRef.ra_id (fun j hj => rn_low hj) hAs, en_Record, wrap_succ hlt hES.le, hct])) (by simp [frSub, lkG, ren, renL, renL_set, renL_ints, UpdOk.nil, UpdOk.cons, renOO_some, renO_cells, renO_map, renOO_mkOb, rn_base, rn_add, ren_mkSl, Enc.flat_ren, set_same, set_ne, sets_cons, sets_nil, Keep.set, Keep.setK, Keep.refl, ren_ref, SRef.ra_id (fun j hj => rn_low hj) hAs, en_Record, wrap_succ hlt hES.le, hct]) (by simp [frSub, lkG, ren, renL, renL_set, renL_ints, UpdOk.nil, UpdOk.cons, renOO_some, renO_cells, renO_map, renOO_mkOb, rn_base, rn_add, ren_mkSl, Enc.flat_ren, set_same, set_ne, sets_cons, sets_nil, Keep.set, Keep.setK, Keep.refl, ren_ref, SRef.ra_id (fun j hj => rn_low hj) hAs, en_Record, wrap_succ hlt hES.le, hct]))
            | false =>
              rw [hp1] at hhas hct
              have hwc : wrapA .i64 ((cntN (at' l w).Origin (at' aj k).To (E.take i) : Int) + 1) = ((cntN (at' l w).Origin (at' aj k).To (E.take (i + 1)) : Nat) : Int) := by
                rw [wrap64 (by omega) (by omega), hct]; simp
              refine CW.vc env10 [0, 1, 2, 6, 7, 8, 9, 10, 11, 12, 13, 14, 15, 16, 17, 18, 20, 32, 50, 97, 102, 141, 143] (by kernel_rfl) ?_
              (simp only [go_sem, reduceIte, reduceCtorEq, Nat.reduceAdd, Nat.reduceMul, Nat.reduceSub, Nat.reduceLT, Nat.reduceLeDiff, Nat.reduceEqDiff, Int.reduceEq, Int.reduceLT, Int.reduceLE, Int.reduceNe, stL, len_sEdge hES, idx_sEdge hES, ld_sEdge hES, sh_sEdge hES, sw_sEdge hES, sf_sEdge_0 hES, sc_sEdge_0 hES, sf_sEdge_1 hES, sc_sEdge_1 hES, sf_sEdge_2 hES, sc_sEdge_2 hES, hES.P, hES.oc, hES.cl, hES.rd, hES.ref, strip_P hEs, strip_rd hEs, strip_ld hEs, strip_sl hES hEs k_sEdge, hlt, G10_has, conHas, hel', hhas, hpb, hp1]; repeat (refine Vc.mk' ?_; simp only [go_sem, reduceIte, reduceCtorEq, Nat.reduceAdd, Nat.reduceMul, Nat.reduceSub, Nat.reduceLT, Nat.reduceLeDiff, Nat.reduceEqDiff, Int.reduceEq, Int.reduceLT, Int.reduceLE, Int.reduceNe, stL, len_sEdge hES, idx_sEdge hES, ld_sEdge hES, sh_sEdge hES, sw_sEdge hES, sf_sEdge_0 hES, sc_sEdge_0 hES, sf_sEdge_1 hES, sc_sEdge_1 hES, sf_sEdge_2 hES, sc_sEdge_2 hES, hES.P, hES.oc, hES.cl, hES.rd, hES.ref, strip_P hEs, strip_rd hEs, strip_ld hEs, strip_sl hES hEs k_sEdge, hlt, G10_has, conHas, hel', hhas, hpb, hp1]))
              refine ⟨fun h => ⟨h, fun h2 => ⟨h, h2⟩⟩, ?_⟩
              repeat (refine Vc.mk' ?_; (simp only [go_sem, reduceIte, reduceCtorEq, Nat.reduceAdd, Nat.reduceMul, Nat.reduceSub, Nat.reduceLT, Nat.reduceLeDiff, Nat.reduceEqDiff, Int.reduceEq, Int.reduceLT, Int.reduceLE, Int.reduceNe, stL, len_sEdge hES, idx_sEdge hES, ld_sEdge hES, sh_sEdge hES, sw_sEdge hES, sf_sEdge_0 hES, sc_sEdge_0 hES, sf_sEdge_1 hES, sc_sEdge_1 hES, sf_sEdge_2 hES, sc_sEdge_2 hES, hES.P, hES.oc, hES.cl, hES.rd, hES.ref, strip_P hEs, strip_rd hEs, strip_ld hEs, strip_sl hES hEs k_sEdge, hlt, G10_has, conHas, hel', hhas, hpb, hp1]; repeat (refine Vc.mk' ?_; simp only [go_sem, reduceIte, reduceCtorEq, Nat.reduceAdd, Nat.reduceMul, Nat.reduceSub, Nat.reduceLT, Nat.reduceLeDiff, Nat.reduceEqDiff, Int.reduceEq, Int.reduceLT, Int.reduceLE, Int.reduceNe, stL, len_sEdge hES, idx_sEdge hES, ld_sEdge hES, sh_sEdge hES, sw_sEdge hES, sf_sEdge_0 hES, sc_sEdge_0 hES, sf_sEdge_1 hES, sc_sEdge_1 hES, sf_sEdge_2 hES, sc_sEdge_2 hES, hES.P, hES.oc, hES.cl, hES.rd, hES.ref, strip_P hEs, strip_rd hEs, strip_ld hEs, strip_sl hES hEs k_sEdge, hlt, G10_has, conHas, hel', hhas, hpb, hp1])))
              refine .mk (i + 1) hlt (by omega) (SubR.mk' [top, top + 1, top + 2, top + 3, top + 4, top + 5, top + 6] hcl (by simp) (by simp) rfl (frSub_ok (by simp [frSub, lkG, ren, renL, renL_set, renL_ints, UpdOk.nil, UpdOk.cons, renOO_some, renO_cells, renO_map, renOO_mkOb, rn_base, rn_add, ren_mkSl, Enc.flat_ren, set_same, set_ne, sets_cons, sets_nil, Keep.set, Keep.setK, Keep.refl, ren_ref, SRef.ra_id (fun j hj => rn_low hj) hAs, en_Record, wrap_succ hlt hES.le, hwc])) (by simp [frSub, lkG, ren, renL, renL_set, renL_ints, UpdOk.nil, UpdOk.cons, renOO_some, renO_cells, renO_map, renOO_mkOb, rn_base, rn_add, ren_mkSl, Enc.flat_ren, set_same, set_ne, sets_cons, sets_nil, Keep.set, Keep.setK, Keep.refl, ren_ref, SRef.ra_id (fun j hj => rn_low hj) hAs, en_Record, wrap_succ hlt hES.le, hwc]) (by simp [frSub, lkG, ren, renL, renL_set, renL_ints, UpdOk.nil, UpdOk.cons, renOO_some, renO_cells, renO_map, renOO_mkOb, rn_base, rn_add, ren_mkSl, Enc.flat_ren, set_same, set_ne, sets_cons, sets_nil, Keep.set, Keep.setK, Keep.refl, ren_ref, SRef.ra_id (fun j hj => rn_low hj) hAs, en_Record, wrap_succ hlt hES.le, hwc]))
          · have hi2 : i = E.length := by omega
            subst hi2
            have hEl : E'.length = cntN (at' l w).Origin (at' aj k).To E := by rw [hEE]; exact (List.countP_eq_length_filter ..).symm
            refine CW.vc env10 [0, 1, 2, 6, 7, 8, 9, 10, 11, 12, 13, 14, 15, 16, 17, 18, 20, 32, 50, 97, 102, 141, 143] (by kernel_rfl) ?_
            (simp only [go_sem, reduceIte, reduceCtorEq, Nat.reduceAdd, Nat.reduceMul, Nat.reduceSub, Nat.reduceLT, Nat.reduceLeDiff, Nat.reduceEqDiff, Int.reduceEq, Int.reduceLT, Int.reduceLE, Int.reduceNe, stL, len_sEdge hES, idx_sEdge hES, ld_sEdge hES, sh_sEdge hES, sw_sEdge hES, sf_sEdge_0 hES, sc_sEdge_0 hES, sf_sEdge_1 hES, sc_sEdge_1 hES, sf_sEdge_2 hES, sc_sEdge_2 hES, hES.P, hES.oc, hES.cl, hES.rd, hES.ref, strip_P hEs, strip_rd hEs, strip_ld hEs, strip_sl hES hEs k_sEdge, Nat.lt_irrefl, decide_false, List.take_length, hEl, hNN]; repeat (refine Vc.mk' ?_; simp only [go_sem, reduceIte, reduceCtorEq, Nat.reduceAdd, Nat.reduceMul, Nat.reduceSub, Nat.reduceLT, Nat.reduceLeDiff, Nat.reduceEqDiff, Int.reduceEq, Int.reduceLT, Int.reduceLE, Int.reduceNe, stL, len_sEdge hES, idx_sEdge hES, ld_sEdge hES, sh_sEdge hES, sw_sEdge hES, sf_sEdge_0 hES, sc_sEdge_0 hES, sf_sEdge_1 hES, sc_sEdge_1 hES, sf_sEdge_2 hES, sc_sEdge_2 hES, hES.P, hES.oc, hES.cl, hES.rd, hES.ref, strip_P hEs, strip_rd hEs, strip_ld hEs, strip_sl hES hEs k_sEdge, Nat.lt_irrefl, decide_false, List.take_length, hEl, hNN]))
end Go.Proofs.Ytaenmabpekbjoaa.Dm
