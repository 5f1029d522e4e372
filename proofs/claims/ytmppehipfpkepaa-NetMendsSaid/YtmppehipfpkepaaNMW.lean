/- NetMends: the walk. -/
import Derived.Test.YtmppehipfpkepaaNML
set_option linter.unusedSimpArgs false
set_option linter.unusedVariables false
namespace Go.Proofs.Ytmppehipfpkepaa.Dm
open Go.Dm
set_option maxHeartbeats 16000000
set_option maxRecDepth 20000
noncomputable def G28_r : FuncId → Con := addG (addG (addG (addG (addG (addG G26_r 8 conWorks) 15 conCut) 17 conStop) 16 conMend) 18 conStart) 24 conGraph
theorem env28_r : EnvV Try.prog tt.get G28_r := (((((env26_r.add works_ok).add cut_ok2).add stop_ok).add mend_ok).add start_ok).add graph_ok
theorem G28_works : G28_r 8 = conWorks := rfl
theorem G28_new : G28_r 21 = conNewN := rfl
theorem G28_up : G28_r 14 = conUpX := rfl
theorem G28_cut : G28_r 15 = conCut := rfl
theorem G28_stop : G28_r 17 = conStop := rfl
theorem G28_mend : G28_r 16 = conMend := rfl
theorem G28_start : G28_r 18 = conStart := rfl
theorem G28_near : G28_r 27 = conNear := rfl
theorem G28_graph : G28_r 24 = conGraph := rfl
def tri (i : Nat) : Nat := (i - 1) * (i - 2) / 2
def frM1 (set a b : Int) (q : Nat) (l : List T_Link) (bit i : Nat) : SFr := [(0, .int .u8 set, true), (1, .int .u8 a, true), (2, .int .u8 b, true), (7, mkSl q l, true), (8, .int .i64 (bit : Int), true), (9, .int .i64 (i : Int), true)]
def frM2 (set a b : Int) (q : Nat) (l : List T_Link) (bit i k : Nat) : SFr := [(0, .int .u8 set, true), (1, .int .u8 a, true), (2, .int .u8 b, true), (7, mkSl q l, true), (8, .int .i64 (bit : Int), true), (9, .int .i64 (i : Int), true), (10, .int .i64 (k : Int), true)]
def frM3 (n p p' : Nat) (x y : Int) (up : Bool) (k : Nat) : SFr := [(11, .pointer (some ⟨n, 0, none⟩), true), (13, .pointer (some ⟨p, 0, none⟩), true), (14, .int .i64 x, true), (15, .int .i64 y, true), (16, .bool up, true), (25, .pointer (some ⟨p', 0, none⟩), true), (27, .int .i64 (k : Int), true)]
structure MJ (hp0 : Hp) (base q : Nat) (l : List T_Link) (hp : Hp) (top : Nat) : Prop where
  kp : Keep base [] hp hp0
  tp : base ≤ top
  q0 : base ≤ q
  qt : q < top
  at_ : hp q = mkOb e_Link l
def bitM (set : Int) (j : Nat) : Bool := decide (bitsI BinOp.and .u8 (set.fdiv (Int.ofNat (Nat.pow 2 (j.min 8)))) 1 = 1)
theorem SubR.up_ {base : Nat} {fr fr' : SFr} {hp : Hp} {top top' : Nat} (h : frSub id fr' fr) (ht : top ≤ top') : SubR id base ⟨fr', hp, top'⟩ ⟨fr, hp, top⟩ :=
  ⟨fun _ _ => rfl, fun _ h => Nat.le_trans ht h, fun _ _ _ _ h => h, frSub_ok h, fun _ o h => by rw [renO_id]; exact h⟩
theorem linkAt_tri : ∀ i, 1 ≤ i → i ≤ 4 → ∀ k, 1 ≤ k → k < i → linkAt (tri i + (k - 1)) = ⟨(i : Int), (k : Int), (i : Int) + (k : Int)⟩ := by
  intro i h1 h4 k k1 k2
  have hi : i = 2 ∨ i = 3 ∨ i = 4 := by omega
  have hk : k = 1 ∨ k = 2 ∨ k = 3 := by omega
  rcases hi with rfl | rfl | rfl <;> rcases hk with rfl | rfl | rfl <;> first | rfl | omega
theorem tri_le : ∀ i, i ≤ 5 → tri i ≤ 6 := by
  intro i h
  have hi : i = 0 ∨ i = 1 ∨ i = 2 ∨ i = 3 ∨ i = 4 ∨ i = 5 := by omega
  rcases hi with rfl | rfl | rfl | rfl | rfl | rfl <;> decide
theorem tri_succ {i : Nat} (h : 1 ≤ i) (h4 : i ≤ 4) : tri i + (i - 1) = tri (i + 1) := by
  have hi : i = 1 ∨ i = 2 ∨ i = 3 ∨ i = 4 := by omega
  rcases hi with rfl | rfl | rfl | rfl <;> rfl
theorem mod4 (a : Int) (a0 : 0 ≤ a) (a1 : a ≤ 255) : 1 ≤ wrapA .i64 (1 + (wrapA .i64 a).tmod 4) ∧ wrapA .i64 (1 + (wrapA .i64 a).tmod 4) ≤ 4 := by
  rw [wrap64 (n := a) (by omega) (by omega)]
  have b1 := Int.tmod_nonneg 4 a0
  have b2 : a.tmod 4 < 4 := Int.tmod_lt_of_pos _ (by decide)
  rw [wrap64 (by omega) (by omega)]; omega
def conMends : Con := .pure (fun args _ => match args with | [.int .u8 s, .int .u8 a, .int .u8 b] => 0 ≤ s ∧ s ≤ 255 ∧ 0 ≤ a ∧ a ≤ 255 ∧ 0 ≤ b ∧ b ≤ 255 | _ => False) (fun _ _ => .bool true)
theorem mends_ok : ConOk Try.prog 6 conMends := by
  refine .mkRd fn6_ok (fun _ _ _ => rfl) ?_
  intro args hp hpre top hcl hsc
  match args, hpre with
  | [.int .u8 set, .int .u8 a, .int .u8 b], ⟨s0, s1, a0, a1, b0, b1⟩ =>
  refine CalledOk.of_fun tt_ok fn6_ok rfl 202 rfl [.tmp 6] rfl (show 3 ≤ 202 by decide) ?_
  refine CW.vc env28_r [0, 1, 2, 6, 7, 8, 9, 10, 11, 12, 13, 14, 15, 16, 18, 19, 21, 22, 23, 24, 25, 26, 27, 29, 31, 36, 43, 66, 127, 142, 177, 182, 195] (by kernel_rfl) ?_
  (repeat ((try refine Vc.mk' ?_); simp only [go_sem, reduceIte, reduceCtorEq, Nat.reduceAdd, Nat.reduceMul, Nat.reduceSub, Nat.reduceLT, Nat.reduceLeDiff, Nat.reduceEqDiff, Int.reduceEq, Int.reduceLT, Int.reduceLE, Int.reduceNe, G28_works, conWorks, G28_new, conNewN, G28_up, conUpX, G28_cut, conCut, G28_stop, conStop, G28_mend, conMend, G28_start, conStart, G28_near, conNear, G28_graph, conGraph]))
  have hq : hp top = none := by
    cases e : hp top with
    | none => rfl
    | some o => exact absurd (hcl.lt _ _ e) (Nat.lt_irrefl top)
  refine CW.loopJ (fun (i : Nat) (st : SS) => ∃ hp' top' q, st = ⟨frM1 set a b q (lkB (bitM set) (tri i)) (tri i) i, hp', top'⟩ ∧ MJ hp top q (lkB (bitM set) (tri i)) hp' top' ∧ 1 ≤ i ∧ i ≤ 5) (fun i => 5 - i) 1 _ ⟨hp, top + 1, top, rfl, ⟨by rw [Keep.refl]; trivial, Nat.le_succ _, Nat.le_refl _, Nat.lt_succ_self _, hq⟩, by decide, by decide⟩ (SubR.up_ (by simp [frM1, frSub, lkG, ren_id, tri, lkB]; rfl) (Nat.le_succ _)) ?_
  rintro i _ ⟨hp', top', q, rfl, H, hi1, hi5⟩
  by_cases c1 : i ≤ 4
  case pos =>
    have c1' : ¬ 4 < (i : Int) := by omega
    refine CW.vc env28_r [0, 1, 2, 6, 7, 8, 9, 10, 11, 12, 13, 14, 15, 16, 18, 19, 21, 22, 23, 24, 25, 26, 27, 29, 31, 36, 43, 66, 127, 142, 177, 182, 195] (by kernel_rfl) ?_
    (repeat ((try refine Vc.mk' ?_); simp only [go_sem, reduceIte, reduceCtorEq, Nat.reduceAdd, Nat.reduceMul, Nat.reduceSub, Nat.reduceLT, Nat.reduceLeDiff, Nat.reduceEqDiff, Int.reduceEq, Int.reduceLT, Int.reduceLE, Int.reduceNe, G28_works, conWorks, G28_new, conNewN, G28_up, conUpX, G28_cut, conCut, G28_stop, conStop, G28_mend, conMend, G28_start, conStart, G28_near, conNear, G28_graph, conGraph, frM1, c1']))
    refine CW.loopJ (fun (k : Nat) (st : SS) => ∃ hp' top' q, st = ⟨frM2 set a b q (lkB (bitM set) (tri i + (k - 1))) (tri i + (k - 1)) i k, hp', top'⟩ ∧ MJ hp top q (lkB (bitM set) (tri i + (k - 1))) hp' top' ∧ 1 ≤ k ∧ k ≤ i) (fun k => i - k) 1 _ ⟨hp', top', q, rfl, H, by decide, hi1⟩ (SubR.fr_ (by simp [frM2, frSub, lkG, ren_id])) ?_
    rintro k _ ⟨hp', top', q, rfl, H, hk1, hki⟩
    by_cases c2 : k < i
    case pos =>
      have c2' : (k : Int) < (i : Int) := by omega
      have hla := linkAt_tri i hi1 c1 k hk1 c2
      have htl := tri_le (i + 1) (by omega)
      have hts := tri_succ hi1 c1
      have ej : tri i + (k + 1 - 1) = tri i + (k - 1) + 1 := by omega
      have ej2 : tri i + k = tri i + (k - 1) + 1 := by omega
      generalize hj : tri i + (k - 1) = j at H hla ej ej2
      have hsu := lkB_succ (bitM set) j
      have hlb := lkB_len (bitM set) j
      have wj : wrapA .i64 ((j : Int) + 1) = ((j + 1 : Nat) : Int) := wrap_succ (n := 100) (by omega) (by omega)
      have wk : wrapA .i64 ((k : Int) + 1) = ((k + 1 : Nat) : Int) := wrap_succ (n := 100) (by omega) (by omega)
      have wik : wrapA .i64 ((i : Int) + (k : Int)) = (i : Int) + (k : Int) := wrap64 (by omega) (by omega)
      have hqt := H.qt
      have hat := H.at_
      have hqs : ∀ {o : Option AObj}, (hp'.set top' o) q = mkOb e_Link (lkB (bitM set) j) := fun {o} => (set_ne _ _ _ _ (by omega)).trans hat
      have h16 : (lkB (bitM set) j).length < 16777216 := by omega
      have hqn : ¬ q = top' := by omega
      have hqn1 : ¬ q = top' + 1 := by omega
      have hqn2 : ¬ top' + 1 = q := by omega
      have tp := H.tp
      have q0 := H.q0
      have kp := H.kp
      cases c3 : bitM set j with
      | true =>
        have c3' : bitsI BinOp.and .u8 (set.fdiv (Int.ofNat (Nat.pow 2 (j.min 8)))) 1 = 1 := of_decide_eq_true c3
        rw [c3, if_pos rfl, hla] at hsu
        refine CW.vc env28_r [0, 1, 2, 6, 7, 8, 9, 10, 11, 12, 13, 14, 15, 16, 18, 19, 21, 22, 23, 24, 25, 26, 27, 29, 31, 36, 43, 66, 127, 142, 177, 182, 195] (by kernel_rfl) ?_
        (repeat ((try refine Vc.mk' ?_); simp only [go_sem, reduceIte, reduceCtorEq, Nat.reduceAdd, Nat.reduceMul, Nat.reduceSub, Nat.reduceLT, Nat.reduceLeDiff, Nat.reduceEqDiff, Int.reduceEq, Int.reduceLT, Int.reduceLE, Int.reduceNe, G28_works, conWorks, G28_new, conNewN, G28_up, conUpX, G28_cut, conCut, G28_stop, conStop, G28_mend, conMend, G28_start, conStart, G28_near, conNear, G28_graph, conGraph, frM2, hj, c2', c3', wj, wk, wik, hqs, h16]))
        refine ⟨k + 1, _, by show i - (k + 1) < i - k; omega, ⟨_, _, top' + 1, rfl, ⟨?_, ?_, ?_, ?_, ?_⟩, ?_, ?_⟩, SubR.fr_ (by simp [frM2, frSub, lkG, ren_id, ej, ej2, hsu])⟩
        · rw [Keep.set (by omega), Keep.set (by omega), Keep.set (by omega)]; exact kp
        · show top ≤ top' + 2; omega
        · show top ≤ top' + 1; omega
        · show top' + 1 < top' + 2; omega
        · rw [ej, hsu]; exact set_same ..
        · omega
        · omega
      | false =>
        have c3' : ¬ bitsI BinOp.and .u8 (set.fdiv (Int.ofNat (Nat.pow 2 (j.min 8)))) 1 = 1 := of_decide_eq_false c3
        rw [c3, if_neg (by simp), List.append_nil] at hsu
        refine CW.vc env28_r [0, 1, 2, 6, 7, 8, 9, 10, 11, 12, 13, 14, 15, 16, 18, 19, 21, 22, 23, 24, 25, 26, 27, 29, 31, 36, 43, 66, 127, 142, 177, 182, 195] (by kernel_rfl) ?_
        (repeat ((try refine Vc.mk' ?_); simp only [go_sem, reduceIte, reduceCtorEq, Nat.reduceAdd, Nat.reduceMul, Nat.reduceSub, Nat.reduceLT, Nat.reduceLeDiff, Nat.reduceEqDiff, Int.reduceEq, Int.reduceLT, Int.reduceLE, Int.reduceNe, G28_works, conWorks, G28_new, conNewN, G28_up, conUpX, G28_cut, conCut, G28_stop, conStop, G28_mend, conMend, G28_start, conStart, G28_near, conNear, G28_graph, conGraph, frM2, hj, c2', c3', wj, wk]))
        exact ⟨k + 1, _, by show i - (k + 1) < i - k; omega, ⟨_, _, q, rfl, by rw [ej, hsu]; exact H, by omega, by omega⟩, SubR.fr_ (by simp [frM2, frSub, lkG, ren_id, ej, ej2, hsu])⟩
    case neg =>
      have c2' : ¬ (k : Int) < (i : Int) := by omega
      have ek : k = i := by omega
      have hts := tri_succ hi1 c1
      have wi : wrapA .i64 ((i : Int) + 1) = ((i + 1 : Nat) : Int) := wrap_succ (n := 100) (by omega) (by omega)
      rw [ek, hts] at H
      refine CW.vc env28_r [0, 1, 2, 6, 7, 8, 9, 10, 11, 12, 13, 14, 15, 16, 18, 19, 21, 22, 23, 24, 25, 26, 27, 29, 31, 36, 43, 66, 127, 142, 177, 182, 195] (by kernel_rfl) ?_
      (repeat ((try refine Vc.mk' ?_); simp only [go_sem, reduceIte, reduceCtorEq, Nat.reduceAdd, Nat.reduceMul, Nat.reduceSub, Nat.reduceLT, Nat.reduceLeDiff, Nat.reduceEqDiff, Int.reduceEq, Int.reduceLT, Int.reduceLE, Int.reduceNe, G28_works, conWorks, G28_new, conNewN, G28_up, conUpX, G28_cut, conCut, G28_stop, conStop, G28_mend, conMend, G28_start, conStart, G28_near, conNear, G28_graph, conGraph, frM2, ek, Int.lt_irrefl, decide_false, wi, hts]))
      exact ⟨i + 1, _, by show 5 - (i + 1) < 5 - i; omega, ⟨_, _, q, rfl, H, by omega, by omega⟩, SubR.fr_ (by simp [frM1, frSub, lkG, ren_id])⟩
  case neg =>
    have c1' : 4 < (i : Int) := by omega
    have e5 : i = 5 := by omega
    subst e5
    have OK : OkM (lkB (bitM set) (tri 5)) := lkB_ok (bitM set)
    have hlb : (lkB (bitM set) (tri 5)).length ≤ 6 := lkB_len (bitM set) 6
    obtain ⟨l, hl⟩ : ∃ l, lkB (bitM set) (tri 5) = l := ⟨_, rfl⟩
    rw [hl] at H OK hlb
    have hqt := H.qt
    have hat := H.at_
    have tp := H.tp
    have kp := H.kp
    have p1 : ∀ {h' : Hp} {b : Nat}, h' b = some (.cells true 1 [.int .i64 1, .int .i64 2, .int .i64 3, .int .i64 4]) → (∃ R, SlT e_int h' (.slice (some ⟨b, 0, none⟩) 4 4) R ∧ ¬ R = [] ∧ R.length ≤ 1000) = True := fun h => eq_true ⟨R4, .own (l := R4) h (by decide), by decide, by decide⟩
    have p2 : ∀ {h' : Hp} {b : Nat}, h' b = some (.cells true 1 [.int .i64 1, .int .i64 2, .int .i64 3, .int .i64 4]) → e_int.rd h' (.slice (some ⟨b, 0, none⟩) 4 4) = R4 := fun h => (SlT.own (E := e_int) (l := R4) h (by decide)).rd
    have p0 : ∀ {o : Option AObj}, SlT e_Link (hp'.set top' o) (mkSl q l) l := fun {o} => .own ((set_ne _ _ _ _ (by omega)).trans hat) (by omega)
    have p3 : ∀ {o : Option AObj}, SlP e_Link (hp'.set top' o) (mkSl q l) = True := fun {o} => p0.P
    have p4 : ∀ {o : Option AObj}, e_Link.rd (hp'.set top' o) (mkSl q l) = l := fun {o} => p0.rd
    have p5 : ∀ {h' : Hp}, SlP e_Rule h' (.slice none 0 0) = True := fun {h'} => (SlT.nils (E := e_Rule) (hp := h')).P
    have p6 : ∀ {h' : Hp}, e_Rule.rd h' (.slice none 0 0) = [] := fun {h'} => (SlT.nils (E := e_Rule) (hp := h')).rd
    have hres : ∀ {T : Nat}, newRes R4 l [] 1 T = (.tuple ⟨[.pointer (some ⟨T, 0, none⟩), .int .i64 0]⟩, netU T (sM l), T + 8) := fun {T} => by
      unfold newRes
      rw [if_neg (by rintro (c | c | c); exact c OK.e; exact absurd c (by decide); exact absurd c (by decide))]
      rfl
    refine CW.vc env28_r [0, 1, 2, 6, 7, 8, 9, 10, 11, 12, 13, 14, 15, 16, 18, 19, 21, 22, 23, 24, 25, 26, 27, 29, 31, 36, 43, 66, 127, 142, 177, 182, 195] (by kernel_rfl) ?_
    (repeat ((try refine Vc.mk' ?_); simp only [go_sem, reduceIte, reduceCtorEq, Nat.reduceAdd, Nat.reduceMul, Nat.reduceSub, Nat.reduceLT, Nat.reduceLeDiff, Nat.reduceEqDiff, Int.reduceEq, Int.reduceLT, Int.reduceLE, Int.reduceNe, G28_works, conWorks, G28_new, conNewN, G28_up, conUpX, G28_cut, conCut, G28_stop, conStop, G28_mend, conMend, G28_start, conStart, G28_near, conNear, G28_graph, conGraph, frM1, c1', hl, p1, p2, p3, p4, p5, p6, hres]))
    have M0 : ∀ {o : Option AObj}, MnAt ((hp'.set top' o).sets (netU (top' + 1) (sM l))) (top' + 1) (top' + 9) ((hp'.set top' o).sets (netU (top' + 1) (sM l))) (top' + 9) (.slice none 0 0) (sM l) := fun {o} =>
      ⟨fun _ _ _ => rfl, by omega, Nat.le_refl _, NetAt.new rfl rfl (show Fa.zeroP.length = 625 by decide) (show R4.length ≤ 1000 by decide) (Int.le_refl 1) (show (1 : Int) ≤ 64 by decide) rfl, Hi.nil, trivial⟩
    have K0 : ∀ {o : Option AObj}, Keep top [] ((hp'.set top' o).sets (netU (top' + 1) (sM l))) hp := fun {o} => by
      rw [keep_sets (hi_net (by omega)), Keep.set (by omega)]; exact kp
    generalize hH : (hp'.set top' (some (.cells true 1 [.int .i64 1, .int .i64 2, .int .i64 3, .int .i64 4]))).sets (netU (top' + 1) (sM l)) = Hx
    replace M0 : MnAt Hx (top' + 1) (top' + 9) Hx (top' + 9) (.slice none 0 0) (sM l) := hH ▸ M0
    replace K0 : Keep top [] Hx hp := hH ▸ K0
    have g0 : GoodN (netS Hx (top' + 1)) = True := eq_true (by rw [M0.net.s]; exact OK.g)
    have i0 := M0.net.is
    have e0 := M0.net.s
    have gg : GoodN (sM l) = True := eq_true OK.g
    have dM := downM l
    (repeat ((try refine Vc.mk' ?_); simp only [go_sem, reduceIte, reduceCtorEq, Nat.reduceAdd, Nat.reduceMul, Nat.reduceSub, Nat.reduceLT, Nat.reduceLeDiff, Nat.reduceEqDiff, Int.reduceEq, Int.reduceLT, Int.reduceLE, Int.reduceNe, G28_works, conWorks, G28_new, conNewN, G28_up, conUpX, G28_cut, conCut, G28_stop, conStop, G28_mend, conMend, G28_start, conStart, G28_near, conNear, G28_graph, conGraph, i0, e0, gg, dM, graphRes]))
    have hNl := nodesM
    have hEl := OK.n
    generalize hN : Gr.nodesO R4 25 = N at hNl
    generalize hE : Gr.edgesO R4 (upL (sM l)) 25 = Ed at hEl
    generalize hHy : ((Hx.set (top' + 9) (mkOb e_int N)).set (top' + 10) (mkOb e_Edge Ed)).set (top' + 11) (some (.cells true 0 [mkSl (top' + 9) N, mkSl (top' + 10) Ed])) = Hy
    have M1 : MnAt Hy (top' + 1) (top' + 12) Hy (top' + 12) (.slice none 0 0) (sM l) := by
      have := ((M0.new (mkOb e_int N)).new (mkOb e_Edge Ed)).new (some (.cells true 0 [mkSl (top' + 9) N, mkSl (top' + 10) Ed]))
      rw [← hHy]
      exact this.froze Hi.nil
    have K1 : Keep top [] Hy hp := by rw [← hHy, Keep.set (by omega), Keep.set (by omega), Keep.set (by omega)]; exact K0
    have y1 : Hy (top' + 10) = mkOb e_Edge Ed := by rw [← hHy, set_ne _ _ _ _ (by omega), set_same]
    have y2 : Hy (top' + 11) = some (.cells true 0 [mkSl (top' + 9) N, mkSl (top' + 10) Ed]) := by rw [← hHy, set_same]
    have i1 := M1.net.is
    have e1 := M1.net.s
    have v1 := M1.net.v
    (repeat ((try refine Vc.mk' ?_); simp only [go_sem, reduceIte, reduceCtorEq, Nat.reduceAdd, Nat.reduceMul, Nat.reduceSub, Nat.reduceLT, Nat.reduceLeDiff, Nat.reduceEqDiff, Int.reduceEq, Int.reduceLT, Int.reduceLE, Int.reduceNe, G28_works, conWorks, G28_new, conNewN, G28_up, conUpX, G28_cut, conCut, G28_stop, conStop, G28_mend, conMend, G28_start, conStart, G28_near, conNear, G28_graph, conGraph, i1, e1, v1]))
    obtain ⟨x1, x4⟩ := mod4 a a0 a1
    obtain ⟨y1_, y4⟩ := mod4 b b0 b1
    generalize wrapA .i64 (1 + (wrapA .i64 a).tmod 4) = x at x1 x4
    generalize wrapA .i64 (1 + (wrapA .i64 b).tmod 4) = y at y1_ y4
    have M2 := M1.cut x y
    rw [cutS_M] at M2
    have i2 := M2.net.is
    have e2 := M2.net.s
    have v2 := M2.net.v
    have d2 := downX (l := l) (x := x) (y := y)
    have M3 := M2.stop x
    rw [stopS_M x1 x4] at M3
    have i3 := M3.net.is
    have e3 := M3.net.s
    have v3 := M3.net.v
    have E3 := stopE_M (l := l) (y := y) x1 x4
    have n3 : ∀ T, nearRes (sStop l x y) x T = (.tuple ⟨[.slice none 0 0, .int .i64 0]⟩, [(T, none)], T + 1) := fun T => by
      unfold nearRes
      rw [if_pos (isR_M (s := sStop l x y) (sCut_S (l := l) (x := x) (y := y)).2.2.2.1 x1 x4), nearM]; rfl
    have M4 := M3.new none
    have i4 := M4.net.is
    have e4 := M4.net.s
    have v4 := M4.net.v
    have E4 := startE_M (l := l) (y := y) x1 x4
    have M5 := M4.start x
    rw [startS_M x1 x4] at M5
    have i5 := M5.net.is
    have e5 := M5.net.s
    have v5 := M5.net.v
    have hup := upM (x := x) (y := y) OK
    have cE := cutE_M (l := l) (x := x) (y := y)
    have hsl : ∀ {h' : Hp}, slen tt.get h' 82 (.slice none 0 0) = (.int .i64 0, True) := fun {h'} => (SlT.nils (E := e_Adj) (hp := h')).len_any k_sAdj
    (repeat ((try refine Vc.mk' ?_); simp only [go_sem, reduceIte, reduceCtorEq, Nat.reduceAdd, Nat.reduceMul, Nat.reduceSub, Nat.reduceLT, Nat.reduceLeDiff, Nat.reduceEqDiff, Int.reduceEq, Int.reduceLT, Int.reduceLE, Int.reduceNe, G28_works, conWorks, G28_new, conNewN, G28_up, conUpX, G28_cut, conCut, G28_stop, conStop, G28_mend, conMend, G28_start, conStart, G28_near, conNear, G28_graph, conGraph, i1, e1, v1, i2, e2, v2, d2, i3, e3, v3, E3, n3, i4, e4, v4, E4, cutRes_u, stopRes_u, hsl]))
    by_cases c : costF (sM l) x y = 0
    · rw [if_pos c] at cE
      have hu : upF (sM l) x y = false := by rw [hup, cE]; rfl
      have ME := M5
      rw [show sStart l x y = sEnd l x y from (if_pos c).symm] at ME
      (repeat ((try refine Vc.mk' ?_); simp only [go_sem, reduceIte, reduceCtorEq, Nat.reduceAdd, Nat.reduceMul, Nat.reduceSub, Nat.reduceLT, Nat.reduceLeDiff, Nat.reduceEqDiff, Int.reduceEq, Int.reduceLT, Int.reduceLE, Int.reduceNe, G28_works, conWorks, G28_new, conNewN, G28_up, conUpX, G28_cut, conCut, G28_stop, conStop, G28_mend, conMend, G28_start, conStart, G28_near, conNear, G28_graph, conGraph, cE, hu, Bool.false_and, Bool.and_false]))
      generalize (((Hy.sets (cutX (top' + 1) (.slice none 0 0) (sM l) x y (top' + 12))).sets (stopX (top' + 1) (cutW (.slice none 0 0) (sM l) x y) (sCut l x y) x (cutT (sM l) x y (top' + 12)))).set (stopT (sCut l x y) x (cutT (sM l) x y (top' + 12))) none).sets (startU (top' + 1) (sStop l x y) x) = He at ME
      generalize stopT (sCut l x y) x (cutT (sM l) x y (top' + 12)) + 1 = Te at ME
      have hT : top' + 12 ≤ Te := ME.tp
      have iE := ME.net.is
      have eE := ME.net.s
      obtain ⟨dE, uE, fE⟩ := sEnd_same (l := l) (x := x) (y := y)
      have gE := sEnd_good (x := x) (y := y) OK
      have KE : Keep top [] He hp := fun i hi hn => by rw [ME.fx i (by omega) (.inl (by omega))]; exact K1 i hi hn
      have z1 : He (top' + 10) = mkOb e_Edge Ed := by rw [ME.fx _ (by omega) (.inr (by omega))]; exact y1
      have z2 : He (top' + 11) = some (.cells true 0 [mkSl (top' + 9) N, mkSl (top' + 10) Ed]) := by rw [ME.fx _ (by omega) (.inr (by omega))]; exact y2
      (repeat ((try refine Vc.mk' ?_); simp only [go_sem, reduceIte, reduceCtorEq, Nat.reduceAdd, Nat.reduceMul, Nat.reduceSub, Nat.reduceLT, Nat.reduceLeDiff, Nat.reduceEqDiff, Int.reduceEq, Int.reduceLT, Int.reduceLE, Int.reduceNe, G28_works, conWorks, G28_new, conNewN, G28_up, conUpX, G28_cut, conCut, G28_stop, conStop, G28_mend, conMend, G28_start, conStart, G28_near, conNear, G28_graph, conGraph, iE, eE, dE, uE, hN, hE, graphRes]))
      refine ⟨gE, ?_⟩
      generalize hF : ((He.set Te (mkOb e_int N)).set (Te + 1) (mkOb e_Edge Ed)).set (Te + 2) (some (.cells true 0 [mkSl Te N, mkSl (Te + 1) Ed])) = F
      have MF := ((ME.new (mkOb e_int N)).new (mkOb e_Edge Ed)).new (some (.cells true 0 [mkSl Te N, mkSl (Te + 1) Ed]))
      rw [hF] at MF
      have iF := MF.net.is
      have eF := MF.net.s
      have KF : Keep top [] F hp := by rw [← hF, Keep.set (by omega), Keep.set (by omega), Keep.set (by omega)]; exact KE
      have f1 : F (top' + 10) = mkOb e_Edge Ed := by rw [← hF, set_ne _ _ _ _ (by omega), set_ne _ _ _ _ (by omega), set_ne _ _ _ _ (by omega)]; exact z1
      have f2 : F (top' + 11) = some (.cells true 0 [mkSl (top' + 9) N, mkSl (top' + 10) Ed]) := by rw [← hF, set_ne _ _ _ _ (by omega), set_ne _ _ _ _ (by omega), set_ne _ _ _ _ (by omega)]; exact z2
      have f3 : F (Te + 1) = mkOb e_Edge Ed := by rw [← hF, set_ne _ _ _ _ (by omega), set_same]
      have f4 : F (Te + 2) = some (.cells true 0 [mkSl Te N, mkSl (Te + 1) Ed]) := by rw [← hF, set_same]
      have lN : ∀ {h' : Hp} {b : Nat}, slen tt.get h' 40 (mkSl b N) = (.int .i64 4, True) := fun {h'} {b} => by rw [ow_sint, hNl]; rfl
      have w2 : wrapA .i64 (2 * (l.length : Int)) = (Ed.length : Int) := by rw [wrap64 (by omega) (by omega)]; omega
      (repeat ((try refine Vc.mk' ?_); simp only [go_sem, reduceIte, reduceCtorEq, Nat.reduceAdd, Nat.reduceMul, Nat.reduceSub, Nat.reduceLT, Nat.reduceLeDiff, Nat.reduceEqDiff, Int.reduceEq, Int.reduceLT, Int.reduceLE, Int.reduceNe, G28_works, conWorks, G28_new, conNewN, G28_up, conUpX, G28_cut, conCut, G28_stop, conStop, G28_mend, conMend, G28_start, conStart, G28_near, conNear, G28_graph, conGraph, f2, f4, lN, w2]))
      have SA : SlT e_Edge F (mkSl (top' + 10) Ed) Ed := .own f1 (by omega)
      have SB : SlT e_Edge F (mkSl (Te + 1) Ed) Ed := .own f3 (by omega)
      refine CW.loopJ (fun (k : Nat) (st : SS) => st = ⟨frM3 (top' + 1) (top' + 11) (Te + 2) x y (upF (sM l) x y) k, F, Te + 3⟩ ∧ k ≤ Ed.length) (fun k => Ed.length - k) 0 _ ⟨rfl, Nat.zero_le _⟩ (SubR.fr_ (by simp [frM3, frSub, lkG, ren_id, hu])) ?_
      rintro k _ ⟨rfl, hk⟩
      by_cases c6 : k < Ed.length
      case pos =>
        have c6' : (k : Int) < (Ed.length : Int) := by omega
        have wk : wrapA .i64 ((k : Int) + 1) = ((k + 1 : Nat) : Int) := wrap_succ (n := 100) (by omega) (by omega)
        have ixA : sindexAddr tt.get 74 (mkSl (top' + 10) Ed) (.int .i64 (k : Int)) = (ptrS (mkSl (top' + 10) Ed) (k * 3), True) := by
          have := idx_sEdge SA (k := .i64) (n := (k : Int)) (by omega) (by omega)
          rwa [Int.toNat_natCast] at this
        have ixB : sindexAddr tt.get 74 (mkSl (Te + 1) Ed) (.int .i64 (k : Int)) = (ptrS (mkSl (Te + 1) Ed) (k * 3), True) := by
          have := idx_sEdge SB (k := .i64) (n := (k : Int)) (by omega) (by omega)
          rwa [Int.toNat_natCast] at this
        have ldA := ld_sEdge SA c6
        have ldB := ld_sEdge SB c6
        refine CW.vc env28_r [0, 1, 2, 6, 7, 8, 9, 10, 11, 12, 13, 14, 15, 16, 18, 19, 21, 22, 23, 24, 25, 26, 27, 29, 31, 36, 43, 66, 127, 142, 177, 182, 195] (by kernel_rfl) ?_
        (repeat ((try refine Vc.mk' ?_); simp only [go_sem, reduceIte, reduceCtorEq, Nat.reduceAdd, Nat.reduceMul, Nat.reduceSub, Nat.reduceLT, Nat.reduceLeDiff, Nat.reduceEqDiff, Int.reduceEq, Int.reduceLT, Int.reduceLE, Int.reduceNe, G28_works, conWorks, G28_new, conNewN, G28_up, conUpX, G28_cut, conCut, G28_stop, conStop, G28_mend, conMend, G28_start, conStart, G28_near, conNear, G28_graph, conGraph, frM3, f2, f4, c6, c6', wk, ixA, ixB, ldA, ldB]))
        exact ⟨k + 1, _, by show Ed.length - (k + 1) < Ed.length - k; omega, ⟨rfl, c6⟩, SubR.fr_ (by simp [frM3, frSub, lkG, ren_id])⟩
      case neg =>
        have c6' : ¬ (k : Int) < (Ed.length : Int) := by omega
        refine CW.vc env28_r [0, 1, 2, 6, 7, 8, 9, 10, 11, 12, 13, 14, 15, 16, 18, 19, 21, 22, 23, 24, 25, 26, 27, 29, 31, 36, 43, 66, 127, 142, 177, 182, 195] (by kernel_rfl) ?_
        (repeat ((try refine Vc.mk' ?_); simp only [go_sem, reduceIte, reduceCtorEq, Nat.reduceAdd, Nat.reduceMul, Nat.reduceSub, Nat.reduceLT, Nat.reduceLeDiff, Nat.reduceEqDiff, Int.reduceEq, Int.reduceLT, Int.reduceLE, Int.reduceNe, G28_works, conWorks, G28_new, conNewN, G28_up, conUpX, G28_cut, conCut, G28_stop, conStop, G28_mend, conMend, G28_start, conStart, G28_near, conNear, G28_graph, conGraph, frM3, f2, f4, c6, c6', iF, eF, fE, beq_self_eq_true]))
        exact KF
    · rw [if_neg c] at cE
      have hu : upF (sM l) x y = true := by rw [hup, cE]; rfl
      have E5 := mendE_M c
      have M6 := M5.mend y x
      have ME := M6
      rw [show mendS (sStart l x y) y x = sEnd l x y from (if_neg c).symm] at ME
      (repeat ((try refine Vc.mk' ?_); simp only [go_sem, reduceIte, reduceCtorEq, Nat.reduceAdd, Nat.reduceMul, Nat.reduceSub, Nat.reduceLT, Nat.reduceLeDiff, Nat.reduceEqDiff, Int.reduceEq, Int.reduceLT, Int.reduceLE, Int.reduceNe, G28_works, conWorks, G28_new, conNewN, G28_up, conUpX, G28_cut, conCut, G28_stop, conStop, G28_mend, conMend, G28_start, conStart, G28_near, conNear, G28_graph, conGraph, cE, hu, i5, e5, E5]))
      generalize ((((Hy.sets (cutX (top' + 1) (.slice none 0 0) (sM l) x y (top' + 12))).sets (stopX (top' + 1) (cutW (.slice none 0 0) (sM l) x y) (sCut l x y) x (cutT (sM l) x y (top' + 12)))).set (stopT (sCut l x y) x (cutT (sM l) x y (top' + 12))) none).sets (startU (top' + 1) (sStop l x y) x)).sets (mendU (top' + 1) (sStart l x y) y x) = He at ME
      generalize stopT (sCut l x y) x (cutT (sM l) x y (top' + 12)) + 1 = Te at ME
      have hT : top' + 12 ≤ Te := ME.tp
      have iE := ME.net.is
      have eE := ME.net.s
      obtain ⟨dE, uE, fE⟩ := sEnd_same (l := l) (x := x) (y := y)
      have gE := sEnd_good (x := x) (y := y) OK
      have KE : Keep top [] He hp := fun i hi hn => by rw [ME.fx i (by omega) (.inl (by omega))]; exact K1 i hi hn
      have z1 : He (top' + 10) = mkOb e_Edge Ed := by rw [ME.fx _ (by omega) (.inr (by omega))]; exact y1
      have z2 : He (top' + 11) = some (.cells true 0 [mkSl (top' + 9) N, mkSl (top' + 10) Ed]) := by rw [ME.fx _ (by omega) (.inr (by omega))]; exact y2
      (repeat ((try refine Vc.mk' ?_); simp only [go_sem, reduceIte, reduceCtorEq, Nat.reduceAdd, Nat.reduceMul, Nat.reduceSub, Nat.reduceLT, Nat.reduceLeDiff, Nat.reduceEqDiff, Int.reduceEq, Int.reduceLT, Int.reduceLE, Int.reduceNe, G28_works, conWorks, G28_new, conNewN, G28_up, conUpX, G28_cut, conCut, G28_stop, conStop, G28_mend, conMend, G28_start, conStart, G28_near, conNear, G28_graph, conGraph, iE, eE, dE, uE, hN, hE, graphRes]))
      refine ⟨gE, ?_⟩
      generalize hF : ((He.set Te (mkOb e_int N)).set (Te + 1) (mkOb e_Edge Ed)).set (Te + 2) (some (.cells true 0 [mkSl Te N, mkSl (Te + 1) Ed])) = F
      have MF := ((ME.new (mkOb e_int N)).new (mkOb e_Edge Ed)).new (some (.cells true 0 [mkSl Te N, mkSl (Te + 1) Ed]))
      rw [hF] at MF
      have iF := MF.net.is
      have eF := MF.net.s
      have KF : Keep top [] F hp := by rw [← hF, Keep.set (by omega), Keep.set (by omega), Keep.set (by omega)]; exact KE
      have f1 : F (top' + 10) = mkOb e_Edge Ed := by rw [← hF, set_ne _ _ _ _ (by omega), set_ne _ _ _ _ (by omega), set_ne _ _ _ _ (by omega)]; exact z1
      have f2 : F (top' + 11) = some (.cells true 0 [mkSl (top' + 9) N, mkSl (top' + 10) Ed]) := by rw [← hF, set_ne _ _ _ _ (by omega), set_ne _ _ _ _ (by omega), set_ne _ _ _ _ (by omega)]; exact z2
      have f3 : F (Te + 1) = mkOb e_Edge Ed := by rw [← hF, set_ne _ _ _ _ (by omega), set_same]
      have f4 : F (Te + 2) = some (.cells true 0 [mkSl Te N, mkSl (Te + 1) Ed]) := by rw [← hF, set_same]
      have lN : ∀ {h' : Hp} {b : Nat}, slen tt.get h' 40 (mkSl b N) = (.int .i64 4, True) := fun {h'} {b} => by rw [ow_sint, hNl]; rfl
      have w2 : wrapA .i64 (2 * (l.length : Int)) = (Ed.length : Int) := by rw [wrap64 (by omega) (by omega)]; omega
      (repeat ((try refine Vc.mk' ?_); simp only [go_sem, reduceIte, reduceCtorEq, Nat.reduceAdd, Nat.reduceMul, Nat.reduceSub, Nat.reduceLT, Nat.reduceLeDiff, Nat.reduceEqDiff, Int.reduceEq, Int.reduceLT, Int.reduceLE, Int.reduceNe, G28_works, conWorks, G28_new, conNewN, G28_up, conUpX, G28_cut, conCut, G28_stop, conStop, G28_mend, conMend, G28_start, conStart, G28_near, conNear, G28_graph, conGraph, f2, f4, lN, w2]))
      have SA : SlT e_Edge F (mkSl (top' + 10) Ed) Ed := .own f1 (by omega)
      have SB : SlT e_Edge F (mkSl (Te + 1) Ed) Ed := .own f3 (by omega)
      refine CW.loopJ (fun (k : Nat) (st : SS) => st = ⟨frM3 (top' + 1) (top' + 11) (Te + 2) x y (upF (sM l) x y) k, F, Te + 3⟩ ∧ k ≤ Ed.length) (fun k => Ed.length - k) 0 _ ⟨rfl, Nat.zero_le _⟩ (SubR.fr_ (by simp [frM3, frSub, lkG, ren_id, hu])) ?_
      rintro k _ ⟨rfl, hk⟩
      by_cases c6 : k < Ed.length
      case pos =>
        have c6' : (k : Int) < (Ed.length : Int) := by omega
        have wk : wrapA .i64 ((k : Int) + 1) = ((k + 1 : Nat) : Int) := wrap_succ (n := 100) (by omega) (by omega)
        have ixA : sindexAddr tt.get 74 (mkSl (top' + 10) Ed) (.int .i64 (k : Int)) = (ptrS (mkSl (top' + 10) Ed) (k * 3), True) := by
          have := idx_sEdge SA (k := .i64) (n := (k : Int)) (by omega) (by omega)
          rwa [Int.toNat_natCast] at this
        have ixB : sindexAddr tt.get 74 (mkSl (Te + 1) Ed) (.int .i64 (k : Int)) = (ptrS (mkSl (Te + 1) Ed) (k * 3), True) := by
          have := idx_sEdge SB (k := .i64) (n := (k : Int)) (by omega) (by omega)
          rwa [Int.toNat_natCast] at this
        have ldA := ld_sEdge SA c6
        have ldB := ld_sEdge SB c6
        refine CW.vc env28_r [0, 1, 2, 6, 7, 8, 9, 10, 11, 12, 13, 14, 15, 16, 18, 19, 21, 22, 23, 24, 25, 26, 27, 29, 31, 36, 43, 66, 127, 142, 177, 182, 195] (by kernel_rfl) ?_
        (repeat ((try refine Vc.mk' ?_); simp only [go_sem, reduceIte, reduceCtorEq, Nat.reduceAdd, Nat.reduceMul, Nat.reduceSub, Nat.reduceLT, Nat.reduceLeDiff, Nat.reduceEqDiff, Int.reduceEq, Int.reduceLT, Int.reduceLE, Int.reduceNe, G28_works, conWorks, G28_new, conNewN, G28_up, conUpX, G28_cut, conCut, G28_stop, conStop, G28_mend, conMend, G28_start, conStart, G28_near, conNear, G28_graph, conGraph, frM3, f2, f4, c6, c6', wk, ixA, ixB, ldA, ldB]))
        exact ⟨k + 1, _, by show Ed.length - (k + 1) < Ed.length - k; omega, ⟨rfl, c6⟩, SubR.fr_ (by simp [frM3, frSub, lkG, ren_id])⟩
      case neg =>
        have c6' : ¬ (k : Int) < (Ed.length : Int) := by omega
        refine CW.vc env28_r [0, 1, 2, 6, 7, 8, 9, 10, 11, 12, 13, 14, 15, 16, 18, 19, 21, 22, 23, 24, 25, 26, 27, 29, 31, 36, 43, 66, 127, 142, 177, 182, 195] (by kernel_rfl) ?_
        (repeat ((try refine Vc.mk' ?_); simp only [go_sem, reduceIte, reduceCtorEq, Nat.reduceAdd, Nat.reduceMul, Nat.reduceSub, Nat.reduceLT, Nat.reduceLeDiff, Nat.reduceEqDiff, Int.reduceEq, Int.reduceLT, Int.reduceLE, Int.reduceNe, G28_works, conWorks, G28_new, conNewN, G28_up, conUpX, G28_cut, conCut, G28_stop, conStop, G28_mend, conMend, G28_start, conStart, G28_near, conNear, G28_graph, conGraph, frM3, f2, f4, c6, c6', iF, eF, fE, beq_self_eq_true]))
        exact KF
end Go.Proofs.Ytmppehipfpkepaa.Dm
