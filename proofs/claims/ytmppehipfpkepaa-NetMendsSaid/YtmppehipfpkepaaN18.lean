/- The net: lost. -/
import Derived.Test.YtmppehipfpkepaaN17
set_option linter.unusedSimpArgs false
set_option linter.unusedVariables false
namespace Go.Proofs.Ytmppehipfpkepaa.Dm
open Go.Dm
set_option maxHeartbeats 16000000
set_option maxRecDepth 20000
noncomputable def G23_r : FuncId → Con := addG G22_r 64 conSift
theorem env23_r : EnvV Try.prog tt.get G23_r := env22_r.add sift_ok
theorem G23_sift : G23_r 64 = conSift := rfl
def lostRes (n : Nat) (lv : Value) (s : NetS) (top : Nat) : Value × Upds × Nat :=
  (mkSl top (goneA (isDown s) s.l), (n + 6, calOb s.last (dfV lv (keptP (isDown s) s.l))) :: (dfU e_t124 lv (keptP (isDown s) s.l) ++ [(top, mkOb e_Arrive (goneA (isDown s) s.l))]), top + 1)
noncomputable def conLost : Con := .det (fun args hp _ => match args with | [.pointer (some ⟨n, 0, none⟩)] => IsNet hp n | _ => False) (fun args hp top => match args with
  | [.pointer (some ⟨n, _, _⟩)] => lostRes n (netV hp n) (netS hp n) top | _ => (undef, [], top))
theorem lost_ok : ConOk Try.prog 36 conLost := by
  refine .mkDet fn36_ok ?_
  intro args hp top hpre hcl hsc
  match args, hpre with
  | [.pointer (some ⟨n, 0, none⟩)], ⟨lv, s, h⟩ =>
  simp only [h.s, h.v]
  have hlow := h.low hcl
  have n0 : n < top := by omega
  have n6 : n + 6 < top := by omega
  have hh := h.h
  have lvs := h.W.low hcl
  obtain ⟨H, hH⟩ : ∃ H, (hp.set top (some (.cells true 0 [.pointer (some ⟨n, 0, none⟩)]))).set (top + 1) (some (.cells true 0 [.slice none 0 0])) = H := ⟨_, rfl⟩
  have hk : NetAt ((hp.set top (some (.cells true 0 [.pointer (some ⟨n, 0, none⟩)]))).set (top + 1) (some (.cells true 0 [.slice none 0 0]))) n lv s := h.keep hcl fun i hi => by rw [set_ne _ _ _ _ (by omega), set_ne _ _ _ _ (by omega)]
  have hC : (∃ last v l, CalAt_r ((hp.set top (some (.cells true 0 [.pointer (some ⟨n, 0, none⟩)]))).set (top + 1) (some (.cells true 0 [.slice none 0 0]))) (n + 6) last v l) = True := eq_true ⟨_, _, _, hk.W⟩
  have hSf : SfPre ((hp.set top (some (.cells true 0 [.pointer (some ⟨n, 0, none⟩)]))).set (top + 1) (some (.cells true 0 [.slice none 0 0]))) (lostV top (top + 1)) = True :=
    eq_true ⟨top, top + 1, n, s, rfl, (set_ne _ _ _ _ (by omega)).trans (set_same ..), hk.up, set_same ..⟩
  have hcl0 : calLast ((hp.set top (some (.cells true 0 [.pointer (some ⟨n, 0, none⟩)]))).set (top + 1) (some (.cells true 0 [.slice none 0 0]))) (n + 6) = s.last := by unfold calLast; rw [hk.W.h]; rfl
  have hcv : calL ((hp.set top (some (.cells true 0 [.pointer (some ⟨n, 0, none⟩)]))).set (top + 1) (some (.cells true 0 [.slice none 0 0]))) (n + 6) = lv := hk.W.calL
  have hrd : e_t124.rd ((hp.set top (some (.cells true 0 [.pointer (some ⟨n, 0, none⟩)]))).set (top + 1) (some (.cells true 0 [.slice none 0 0]))) lv = s.l := hk.W.rd
  have hdw : downN ((hp.set top (some (.cells true 0 [.pointer (some ⟨n, 0, none⟩)]))).set (top + 1) (some (.cells true 0 [.slice none 0 0]))) top = isDown s := by
    funext a
    unfold downN isDown
    rw [show netOfC ((hp.set top (some (.cells true 0 [.pointer (some ⟨n, 0, none⟩)]))).set (top + 1) (some (.cells true 0 [.slice none 0 0]))) top = n from by unfold netOfC; rw [set_ne _ _ _ _ (by omega), set_same]; rfl, hk.up.eq]
  simp only [lostV] at hSf
  have m6 : ¬ top = n + 6 := by omega
  have m61 : ¬ top + 1 = n + 6 := by omega
  have m62 : ¬ top + 2 = n + 6 := by omega
  have m6a : ¬ n + 6 = top := by omega
  have m6b : ¬ n + 6 = top + 1 := by omega
  have m6c : ¬ n + 6 = top + 2 := by omega
  have w6 := h.W.h
  have ho := h.W.o
  rcases own_cases ho with ⟨rfl, hnil⟩ | ⟨q, rfl, hq⟩
  · have g0 : goneA (isDown s) s.l = [] := by rw [hnil]; rfl
    have k0 : keptP (isDown s) s.l = [] := by rw [hnil]; rfl
    refine CalledOk.of_fun tt_ok fn36_ok rfl 11 rfl [.tmp 2] rfl (show 1 ≤ 11 by decide) ?_
    refine CW.vc env23_r [0, 1, 2, 3] (by kernel_rfl) ?_
    (repeat ((try refine Vc.mk' ?_); simp only [go_sem, reduceIte, reduceCtorEq, Nat.reduceAdd, Nat.reduceMul, Nat.reduceSub, Nat.reduceLT, Nat.reduceLeDiff, Nat.reduceEqDiff, Int.reduceEq, Int.reduceLT, Int.reduceLE, Int.reduceNe, hh, netOb, G23_sift, conSift, hC, hSf, hcl0, hcv, hrd, hdw, siftRes, set_lt n0, lostV, evList, evO, g0, k0, dfV, dfU, dfU2, calOb, List.append_nil, w6, m6, m61, m6a, m6b]))
    simp only [lostRes, g0, k0, dfV, dfU, List.nil_append]
    (refine ⟨[top + 1], by simp, by simp, by simp, ?_, ?_, ?_⟩ <;> simp [frSub, lkG, ren, renL, renL_set, renL_ints, UpdOk.nil, UpdOk.cons, renOO_some, renO_cells, renO_map, renOO_mkOb, rn_base, rn_add, ren_mkSl, Enc.flat_ren, set_same, set_ne, sets_cons, sets_nil, Keep.set, Keep.setK, Keep.refl, rm_m_int_bool, rm_m_message_Rule, rm_m_pair_bool, rm_m_pair_int, calOb, rn_low n6, mkSl_nil, mkOb_nil, m6, m61, m6a, m6b])
  · have hqt : q < top := lvs
    have hqc : ¬ q = n + 6 := fun e => by rw [e, w6] at hq; exact absurd (cellZ hq) (by decide)
    have hcq : ¬ n + 6 = q := fun e => hqc e.symm
    have a0 : ¬ top = q := by omega
    have a1 : ¬ top + 1 = q := by omega
    have a2 : ¬ top + 2 = q := by omega
    have b0 : ¬ q = top := by omega
    have b1 : ¬ q = top + 1 := by omega
    have b2 : ¬ q = top + 2 := by omega
    by_cases hg : goneA (isDown s) s.l = []
    · refine CalledOk.of_fun tt_ok fn36_ok rfl 11 rfl [.tmp 2] rfl (show 1 ≤ 11 by decide) ?_
      refine CW.vc env23_r [0, 1, 2, 3] (by kernel_rfl) ?_
      (repeat ((try refine Vc.mk' ?_); simp only [go_sem, reduceIte, reduceCtorEq, Nat.reduceAdd, Nat.reduceMul, Nat.reduceSub, Nat.reduceLT, Nat.reduceLeDiff, Nat.reduceEqDiff, Int.reduceEq, Int.reduceLT, Int.reduceLE, Int.reduceNe, hh, netOb, G23_sift, conSift, hC, hSf, hcl0, hcv, hrd, hdw, siftRes, set_lt n0, lostV, evList, evO, hg, dfV, dfU, dfU2, ownS, ownO, calOb, List.append_nil, hq, w6, m6, m61, m6a, m6b, hqc, hcq, a0, a1, b0, b1, set_lt hqt, set_lt n6]))
      simp only [lostRes, hg, dfV, dfU, mkSl_nil, mkOb_nil]
      (refine ⟨[top + 1], by simp, by simp, by simp, ?_, ?_, ?_⟩ <;> simp [frSub, lkG, ren, renL, renL_set, renL_ints, UpdOk.nil, UpdOk.cons, renOO_some, renO_cells, renO_map, renOO_mkOb, rn_base, rn_add, ren_mkSl, Enc.flat_ren, set_same, set_ne, sets_cons, sets_nil, Keep.set, Keep.setK, Keep.refl, rm_m_int_bool, rm_m_message_Rule, rm_m_pair_bool, rm_m_pair_int, calOb, ownS, ownO, rn_low n6, rn_low hqt, m6, m61, m6a, m6b, hqc, hcq, a0, a1, b0, b1, Enc.flat_ren, set_lt hqt, set_lt n6])
    · refine CalledOk.of_fun tt_ok fn36_ok rfl 11 rfl [.tmp 2] rfl (show 1 ≤ 11 by decide) ?_
      refine CW.vc env23_r [0, 1, 2, 3] (by kernel_rfl) ?_
      (repeat ((try refine Vc.mk' ?_); simp only [go_sem, reduceIte, reduceCtorEq, Nat.reduceAdd, Nat.reduceMul, Nat.reduceSub, Nat.reduceLT, Nat.reduceLeDiff, Nat.reduceEqDiff, Int.reduceEq, Int.reduceLT, Int.reduceLE, Int.reduceNe, hh, netOb, G23_sift, conSift, hC, hSf, hcl0, hcv, hrd, hdw, siftRes, set_lt n0, lostV, evList, evO, hg, dfV, dfU, dfU2, ownS, ownO, calOb, List.append_nil, List.cons_append, List.nil_append, hq, w6, m6, m61, m62, m6a, m6b, m6c, hqc, hcq, a0, a1, a2, b0, b1, b2, set_lt hqt, set_lt n6]))
      simp only [lostRes, dfV, dfU]
      (refine ⟨[top + 2], by simp, by simp, by simp, ?_, ?_, ?_⟩ <;> simp [frSub, lkG, ren, renL, renL_set, renL_ints, UpdOk.nil, UpdOk.cons, renOO_some, renO_cells, renO_map, renOO_mkOb, rn_base, rn_add, ren_mkSl, Enc.flat_ren, set_same, set_ne, sets_cons, sets_nil, Keep.set, Keep.setK, Keep.refl, rm_m_int_bool, rm_m_message_Rule, rm_m_pair_bool, rm_m_pair_int, calOb, ownS, ownO, rn_low n6, rn_low hqt, m6, m61, m62, m6a, m6b, m6c, hqc, hcq, a0, a1, a2, b0, b1, b2, Enc.flat_ren, set_lt hqt, set_lt n6])
end Go.Proofs.Ytmppehipfpkepaa.Dm
