/- GraphBoth: the walk. -/
import Derived.Test.YtaenmabpekbjoaaG7b
set_option linter.unusedSimpArgs false
set_option linter.unusedVariables false
namespace Go.Proofs.Ytaenmabpekbjoaa.Dm
open Go.Dm
set_option maxHeartbeats 8000000
set_option maxRecDepth 20000

def zeroE (E : List T_Edge) (i : Nat) : List T_Edge := List.replicate i ⟨0, 0, 0⟩ ++ E.drop i
theorem zeroE_zero (E : List T_Edge) : zeroE E 0 = E := by simp [zeroE]
theorem zeroE_len {E : List T_Edge} {i : Nat} (h : i ≤ E.length) : (zeroE E i).length = E.length := by simp [zeroE]; omega
theorem zeroE_set {E : List T_Edge} {i : Nat} (h : i < E.length) : (zeroE E i).set i ⟨0, 0, 0⟩ = zeroE E (i + 1) := by
  unfold zeroE
  rw [List.drop_eq_getElem_cons h, List.set_append_right _ _ (by simp), List.length_replicate, Nat.sub_self, List.set_cons_zero, List.replicate_succ', List.append_assoc]
  rfl
theorem renOO_sc {α : Type} {E : Enc α} {hp : Hp} {v : Value} {l : List α} {n : Nat} (h : SlT E hp v l) (hcl : Cl hp n) {ρ : Nat → Nat} (hρ : ∀ j, j < n → ρ j = j) : renOO ρ (mkOb E l) = mkOb E l := by
  have key : ∀ m : List α, (∀ a ∈ m, ScL n (E.enc a)) → renL ρ (E.flat m) = E.flat m := by
    intro m
    induction m with
    | nil => intro _; rfl
    | cons a m ih =>
      intro hm
      rw [Enc.flat_cons, renL_append, ScL.ren hρ (hm a (List.mem_cons_self ..)), ih fun b hb => hm b (List.mem_cons_of_mem _ hb)]
  cases l with
  | nil => rfl
  | cons a l =>
    simp only [mkOb, renOO, renO, Option.map, key _ (h.sc hcl)]
def stZ (hp : Hp) (top : Nat) (v : Value) (l : List T_Record) (N : List Int) (E : List T_Edge) (er : Int) (i : Nat) : SS :=
  ⟨[(0, v, true), (3, mkSl top l, true), (4, .pointer (some ⟨top + 3, 0, none⟩), true), (6, .pointer (some ⟨top + 6, 0, none⟩), true), (7, .int .i64 er, true), (8, .int .i64 (i : Int), true)],
    hp.sets [(top, mkOb e_Record l), (top + 1, mkOb e_int N), (top + 2, mkOb e_Edge (zeroE E i)), (top + 3, some (.cells true 0 [mkSl (top + 1) N, mkSl (top + 2) (zeroE E i)])), (top + 4, mkOb e_int N), (top + 5, mkOb e_Edge E), (top + 6, some (.cells true 0 [mkSl (top + 4) N, mkSl (top + 5) E]))], top + 7⟩

theorem graphBoth_walk (hp : Hp) (top : Nat) (v : Value) (l : List T_Record) (h : SlT e_Record hp v l) (hr : ∀ r ∈ l, SlP e_Adj hp r.Adjs.v) (hcl : Cl hp top) (hroom : roomB l.length 56 = true) :
    CalledOk Try.prog 3 [v] hp top fun r hp' _ => r = .bool true ∧ Keep top [] hp' hp := by
  have H := RecsAt.of h hr hcl
  have hs := H.s
  generalize hL : l.map (recD hp) = L
  have hl63 : l.length ≤ 9223372036854775807 := h.le
  have hrd : ∀ {h'}, Keep top [] h' hp → recs h' v = L := fun hk => by rw [H.rd hk, hL]
  have hok : ∀ {h'}, Keep top [] h' hp → RecsOk h' v = True := fun hk => H.ok hk
  have hM : ∀ {h' : Hp}, h' top = mkOb e_Record l → Keep top [] h' hp → RecsOk h' (mkSl top l) ∧ recs h' (mkSl top l) = L := by
    intro h' h1 h3
    have S := SlT.ownB (E := e_Record) (hp := h') h1 hl63
    constructor
    · refine ⟨_, S, fun r hm => ?_⟩
      obtain ⟨⟨a, ha⟩, hsr⟩ := H.r r hm
      exact ⟨a, SlT.keep ha hsr h3⟩
    · unfold recs
      rw [S.rd, ← hL]
      exact List.map_congr_left fun r hm => recD_keep (H.r r hm).1 (H.r r hm).2 h3
  have hM1 : ∀ {h' : Hp}, h' top = mkOb e_Record l → Keep top [] h' hp → RecsOk h' (mkSl top l) = True := fun h1 h3 => eq_true (hM h1 h3).1
  have hM2 : ∀ {h' : Hp}, h' top = mkOb e_Record l → Keep top [] h' hp → recs h' (mkSl top l) = L := fun h1 h3 => (hM h1 h3).2
  have hnl := nF_len L
  have hel := eF_len L
  generalize hN : nF L = N at hnl
  generalize hE : eF L = E at hel
  generalize her : errF L = er
  have hN16 : N.length ≤ 16777216 := by omega
  have hE16 : E.length ≤ 16777216 := by omega
  refine CalledOk.of_fun tt_ok fn3_ok rfl 65 rfl [.tmp 2] rfl (show 1 ≤ 65 by decide) ?_
  refine CW.vc env11 [0, 2, 3, 4, 5, 6, 7, 8, 9, 31, 36] (by kernel_rfl) ?_
  (simp only [go_sem, reduceIte, reduceCtorEq, Nat.reduceAdd, Nat.reduceMul, Nat.reduceSub, Nat.reduceLT, Nat.reduceLeDiff, Nat.reduceEqDiff, Int.reduceEq, Int.reduceLT, Int.reduceLE, Int.reduceNe, len_sRecord h, idx_sRecord h, ld_sRecord h, sh_sRecord h, sw_sRecord h, sf_sRecord_0 h, sc_sRecord_0 h, sf_sRecord_1 h, sc_sRecord_1 h, sf_sRecord_2 h, sc_sRecord_2 h, sf_sRecord_3 h, sc_sRecord_3 h, sf_sRecord_4 h, sc_sRecord_4 h, sf_sRecord_5 h, sc_sRecord_5 h, h.P, h.oc, h.cl, h.rd, h.ref, strip_P hs, strip_rd hs, strip_ld hs, strip_sl h hs k_sRecord, hroom, hl63, G11_works, conWorks, G11_both, G11_rboth, conBoth, resBoth, G11_same, conSame, G11_sr, conSameR, hM1, hM2, hrd, hok, refOf_v, hN16, hE16, hN, hE, her]; repeat (refine Vc.mk' ?_; simp only [go_sem, reduceIte, reduceCtorEq, Nat.reduceAdd, Nat.reduceMul, Nat.reduceSub, Nat.reduceLT, Nat.reduceLeDiff, Nat.reduceEqDiff, Int.reduceEq, Int.reduceLT, Int.reduceLE, Int.reduceNe, len_sRecord h, idx_sRecord h, ld_sRecord h, sh_sRecord h, sw_sRecord h, sf_sRecord_0 h, sc_sRecord_0 h, sf_sRecord_1 h, sc_sRecord_1 h, sf_sRecord_2 h, sc_sRecord_2 h, sf_sRecord_3 h, sc_sRecord_3 h, sf_sRecord_4 h, sc_sRecord_4 h, sf_sRecord_5 h, sc_sRecord_5 h, h.P, h.oc, h.cl, h.rd, h.ref, strip_P hs, strip_rd hs, strip_ld hs, strip_sl h hs k_sRecord, hroom, hl63, G11_works, conWorks, G11_both, G11_rboth, conBoth, resBoth, G11_same, conSame, G11_sr, conSameR, hM1, hM2, hrd, hok, refOf_v, hN16, hE16, hN, hE, her]))
  refine CW.loopR (stZ hp top v l N E er) (fun i => i ≤ E.length) (fun i => E.length - i) 0 (Nat.zero_le _) ?_ ?_
  · exact SubR.mk' [top, top + 1, top + 2, top + 3, top + 4, top + 5, top + 6] hcl (by simp) (by simp) rfl (frSub_ok (by simp [frSub, lkG, ren, renL, renL_set, renL_ints, UpdOk.nil, UpdOk.cons, renOO_some, renO_cells, renO_map, renOO_mkOb, rn_base, rn_add, ren_mkSl, Enc.flat_ren, set_same, set_ne, sets_cons, sets_nil, Keep.set, Keep.setK, Keep.refl, Sc.ren (fun j hj => rn_low hj) hs, renOO_sc h hcl (fun j hj => rn_low hj), zeroE_zero])) (by simp [frSub, lkG, ren, renL, renL_set, renL_ints, UpdOk.nil, UpdOk.cons, renOO_some, renO_cells, renO_map, renOO_mkOb, rn_base, rn_add, ren_mkSl, Enc.flat_ren, set_same, set_ne, sets_cons, sets_nil, Keep.set, Keep.setK, Keep.refl, Sc.ren (fun j hj => rn_low hj) hs, renOO_sc h hcl (fun j hj => rn_low hj), zeroE_zero]) (by simp [frSub, lkG, ren, renL, renL_set, renL_ints, UpdOk.nil, UpdOk.cons, renOO_some, renO_cells, renO_map, renOO_mkOb, rn_base, rn_add, ren_mkSl, Enc.flat_ren, set_same, set_ne, sets_cons, sets_nil, Keep.set, Keep.setK, Keep.refl, Sc.ren (fun j hj => rn_low hj) hs, renOO_sc h hcl (fun j hj => rn_low hj), zeroE_zero])
  · intro i hi
    have hzl := zeroE_len hi
    by_cases hlt : i < E.length
    · have hzs := zeroE_set hlt
      have hz1 : ∀ b, mkSl b (zeroE E (i + 1)) = mkSl b (zeroE E i) := fun b => mkSl_len (by rw [hzl, zeroE_len hlt])
      have hlz : i < (zeroE E i).length := by omega
      have hZ : SlT e_Edge (hp.set (top + 2) (mkOb e_Edge (zeroE E i))) (mkSl (top + 2) (zeroE E i)) (zeroE E i) := .own (set_same ..) (by omega)
      refine CW.vc env11 [0, 2, 3, 4, 5, 6, 7, 8, 9, 31, 36] (by kernel_rfl) ?_
      (simp only [go_sem, reduceIte, reduceCtorEq, Nat.reduceAdd, Nat.reduceMul, Nat.reduceSub, Nat.reduceLT, Nat.reduceLeDiff, Nat.reduceEqDiff, Int.reduceEq, Int.reduceLT, Int.reduceLE, Int.reduceNe, len_sRecord h, idx_sRecord h, ld_sRecord h, sh_sRecord h, sw_sRecord h, sf_sRecord_0 h, sc_sRecord_0 h, sf_sRecord_1 h, sc_sRecord_1 h, sf_sRecord_2 h, sc_sRecord_2 h, sf_sRecord_3 h, sc_sRecord_3 h, sf_sRecord_4 h, sc_sRecord_4 h, sf_sRecord_5 h, sc_sRecord_5 h, h.P, h.oc, h.cl, h.rd, h.ref, strip_P hs, strip_rd hs, strip_ld hs, strip_sl h hs k_sRecord, hroom, hl63, G11_works, conWorks, G11_both, G11_rboth, conBoth, resBoth, G11_same, conSame, G11_sr, conSameR, hM1, hM2, hrd, hok, refOf_v, hN16, hE16, stZ, hzl, hlt, hlz, hzs, idx_sEdge hZ]; repeat (refine Vc.mk' ?_; simp only [go_sem, reduceIte, reduceCtorEq, Nat.reduceAdd, Nat.reduceMul, Nat.reduceSub, Nat.reduceLT, Nat.reduceLeDiff, Nat.reduceEqDiff, Int.reduceEq, Int.reduceLT, Int.reduceLE, Int.reduceNe, len_sRecord h, idx_sRecord h, ld_sRecord h, sh_sRecord h, sw_sRecord h, sf_sRecord_0 h, sc_sRecord_0 h, sf_sRecord_1 h, sc_sRecord_1 h, sf_sRecord_2 h, sc_sRecord_2 h, sf_sRecord_3 h, sc_sRecord_3 h, sf_sRecord_4 h, sc_sRecord_4 h, sf_sRecord_5 h, sc_sRecord_5 h, h.P, h.oc, h.cl, h.rd, h.ref, strip_P hs, strip_rd hs, strip_ld hs, strip_sl h hs k_sRecord, hroom, hl63, G11_works, conWorks, G11_both, G11_rboth, conBoth, resBoth, G11_same, conSame, G11_sr, conSameR, hM1, hM2, hrd, hok, refOf_v, hN16, hE16, stZ, hzl, hlt, hlz, hzs, idx_sEdge hZ]))
      exact .mk (i + 1) hlt (by omega) (SubR.mk' [top, top + 1, top + 2, top + 3, top + 4, top + 5, top + 6] hcl (by simp) (by simp) rfl (frSub_ok (by simp [frSub, lkG, ren, renL, renL_set, renL_ints, UpdOk.nil, UpdOk.cons, renOO_some, renO_cells, renO_map, renOO_mkOb, rn_base, rn_add, ren_mkSl, Enc.flat_ren, set_same, set_ne, sets_cons, sets_nil, Keep.set, Keep.setK, Keep.refl, Sc.ren (fun j hj => rn_low hj) hs, renOO_sc h hcl (fun j hj => rn_low hj), hz1, wrap_succ hlt (by omega : E.length ≤ 9223372036854775807)])) (by simp [frSub, lkG, ren, renL, renL_set, renL_ints, UpdOk.nil, UpdOk.cons, renOO_some, renO_cells, renO_map, renOO_mkOb, rn_base, rn_add, ren_mkSl, Enc.flat_ren, set_same, set_ne, sets_cons, sets_nil, Keep.set, Keep.setK, Keep.refl, Sc.ren (fun j hj => rn_low hj) hs, renOO_sc h hcl (fun j hj => rn_low hj), hz1, wrap_succ hlt (by omega : E.length ≤ 9223372036854775807)]) (by simp [frSub, lkG, ren, renL, renL_set, renL_ints, UpdOk.nil, UpdOk.cons, renOO_some, renO_cells, renO_map, renOO_mkOb, rn_base, rn_add, ren_mkSl, Enc.flat_ren, set_same, set_ne, sets_cons, sets_nil, Keep.set, Keep.setK, Keep.refl, Sc.ren (fun j hj => rn_low hj) hs, renOO_sc h hcl (fun j hj => rn_low hj), hz1, wrap_succ hlt (by omega : E.length ≤ 9223372036854775807)]))
    · have hi2 : i = E.length := by omega
      subst hi2
      refine CW.vc env11 [0, 2, 3, 4, 5, 6, 7, 8, 9, 31, 36] (by kernel_rfl) ?_
      (simp only [go_sem, reduceIte, reduceCtorEq, Nat.reduceAdd, Nat.reduceMul, Nat.reduceSub, Nat.reduceLT, Nat.reduceLeDiff, Nat.reduceEqDiff, Int.reduceEq, Int.reduceLT, Int.reduceLE, Int.reduceNe, len_sRecord h, idx_sRecord h, ld_sRecord h, sh_sRecord h, sw_sRecord h, sf_sRecord_0 h, sc_sRecord_0 h, sf_sRecord_1 h, sc_sRecord_1 h, sf_sRecord_2 h, sc_sRecord_2 h, sf_sRecord_3 h, sc_sRecord_3 h, sf_sRecord_4 h, sc_sRecord_4 h, sf_sRecord_5 h, sc_sRecord_5 h, h.P, h.oc, h.cl, h.rd, h.ref, strip_P hs, strip_rd hs, strip_ld hs, strip_sl h hs k_sRecord, hroom, hl63, G11_works, conWorks, G11_both, G11_rboth, conBoth, resBoth, G11_same, conSame, G11_sr, conSameR, hM1, hM2, hrd, hok, refOf_v, hN16, hE16, stZ, hzl, Nat.lt_irrefl, decide_false, hN, hE, her]; repeat (refine Vc.mk' ?_; simp only [go_sem, reduceIte, reduceCtorEq, Nat.reduceAdd, Nat.reduceMul, Nat.reduceSub, Nat.reduceLT, Nat.reduceLeDiff, Nat.reduceEqDiff, Int.reduceEq, Int.reduceLT, Int.reduceLE, Int.reduceNe, len_sRecord h, idx_sRecord h, ld_sRecord h, sh_sRecord h, sw_sRecord h, sf_sRecord_0 h, sc_sRecord_0 h, sf_sRecord_1 h, sc_sRecord_1 h, sf_sRecord_2 h, sc_sRecord_2 h, sf_sRecord_3 h, sc_sRecord_3 h, sf_sRecord_4 h, sc_sRecord_4 h, sf_sRecord_5 h, sc_sRecord_5 h, h.P, h.oc, h.cl, h.rd, h.ref, strip_P hs, strip_rd hs, strip_ld hs, strip_sl h hs k_sRecord, hroom, hl63, G11_works, conWorks, G11_both, G11_rboth, conBoth, resBoth, G11_same, conSame, G11_sr, conSameR, hM1, hM2, hrd, hok, refOf_v, hN16, hE16, stZ, hzl, Nat.lt_irrefl, decide_false, hN, hE, her]))
end Go.Proofs.Ytaenmabpekbjoaa.Dm
