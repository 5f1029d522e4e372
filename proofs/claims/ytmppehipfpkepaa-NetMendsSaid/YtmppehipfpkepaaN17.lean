/- The net: Sift for lost. -/
import Derived.Test.YtmppehipfpkepaaN16
set_option linter.unusedSimpArgs false
set_option linter.unusedVariables false
namespace Go.Proofs.Ytmppehipfpkepaa.Dm
open Go.Dm
set_option maxHeartbeats 16000000
set_option maxRecDepth 20000
def SfPre (hp : Hp) (f : Value) : Prop := ∃ nb ob n s, f = lostV nb ob ∧ hp nb = some (.cells true 0 [.pointer (some ⟨n, 0, none⟩)]) ∧ UpAt hp n s ∧ hp ob = some (.cells true 0 [.slice none 0 0])
def siftRes (p : T_t124 → Bool) (cb : Nat) (last : Int) (ob : Nat) (lv : Value) (l : List T_t124) (top : Nat) : Value × Upds × Nat :=
  (.int .i64 ((l.length : Int) - ((keptP p l).length : Int)), (cb, calOb last (dfV lv (keptP p l))) :: (dfU e_t124 lv (keptP p l) ++ dfU2 ob top (goneA p l)), if goneA p l = [] then top else top + 1)
def downN (hp : Hp) (nb : Nat) (a : T_t124) : Bool := !upH hp (netOfC hp nb) a.v_From a.v_To
def conSift : Con := .det (fun args hp _ => match args with | [.pointer (some ⟨cb, 0, none⟩), f] => (∃ last lv l, CalAt_r hp cb last lv l) ∧ SfPre hp f | _ => False) (fun args hp top => match args with
  | [.pointer (some ⟨cb, _, _⟩), .func _ _ ⟨[.pointer (some ⟨nb, _, _⟩), .pointer (some ⟨ob, _, _⟩)]⟩] => siftRes (downN hp nb) cb (calLast hp cb) ob (calL hp cb) (e_t124.rd hp (calL hp cb)) top | _ => (undef, [], top))
theorem keptP_len {p : T_t124 → Bool} {l : List T_t124} : (keptP p l).length ≤ l.length := keptP_le
theorem lost_ne {nb ob : Nat} : binA tt.get .eql 134 (.tmp 9) (.const Value.nilFunc) (lostV nb ob) Value.nilFunc = some (.bool false) := by rfl
theorem slenR {h' : Hp} {a : Option Addr} {n c : Nat} : slen tt.get h' 114 (.slice a n c) = (.int .i64 (n : Int), True) := by
  unfold slen; simp only [k_st124, lenA, t_st124, ti114]; rfl
theorem sift_ok : ConOk Try.prog 64 conSift := by
  refine .mkDet fn64_ok ?_
  intro args hp top hpre hcl hsc
  match args, hpre with
  | [.pointer (some ⟨cb, 0, none⟩), _], ⟨⟨last, lv, l, C⟩, nb, ob, n, s, rfl, hnb, hU, ha⟩ =>
  have hh := C.h
  have hcbt : cb < top := hcl.lt _ _ hh
  have hat : ob < top := hcl.lt _ _ ha
  have hnt : nb < top := hcl.lt _ _ hnb
  have hS := C.o.slT
  have lvs := C.low hcl
  have hn := C.n
  have hcc : ¬ cb = top := by omega
  have hcc' : ¬ top = cb := by omega
  have hobt : ¬ ob = top := by omega
  have hobt' : ¬ top = ob := by omega
  have hob : ¬ ob = cb := fun e => by rw [e, hh] at ha; simp at ha
  have hob' : ¬ cb = ob := fun e => hob e.symm
  have hic : ∀ {h' : Hp}, h' cb = some (.cells true 0 [.bool true, .int .i64 last, lv]) → IsCal h' cb = True := fun h => eq_true ⟨_, _, _, h⟩
  simp only [lostV, calL, calLast, hh, cellsOf_some, List.getElem?_cons_succ, List.getElem?_cons_zero, Option.getD_some, intOf_int, hS.rd]
  have hdn : downN hp nb = isDown s := by
    funext a
    unfold downN isDown
    rw [show netOfC hp nb = n from by unfold netOfC; rw [hnb]; rfl, hU.eq]
  rw [hdn]
  have hOw : ∀ {h' : Hp}, Keep top [] h' hp → (∃ l, OwnV e_t124 h' lv l ∧ l.length ≤ 1000000) = True := fun {h'} hk => eq_true ⟨l, C.o.mono fun b n c e => by subst e; exact hk b lvs (by simp), hn⟩
  have hrd : ∀ {h' : Hp}, Keep top [] h' hp → e_t124.rd h' lv = l := fun {h'} hk => (C.o.mono fun b n c e => by subst e; exact hk b lvs (by simp)).slT.rd
  have hLt : LostAt (hp.set top (some (.cells true 0 [lostV nb ob]))) top nb ob n s := ⟨set_same .., (set_ne _ _ _ _ (by omega)).trans hnb, hU.keep hcl fun i hi => set_ne _ _ _ _ (by omega)⟩
  have hDp : DfPre (hp.set top (some (.cells true 0 [lostV nb ob]))) (.func (.func 85) ⟨[]⟩ ⟨[.pointer (some ⟨top, 0, none⟩)]⟩) = True := eq_true ⟨top, nb, ob, n, s, rfl, hLt, (set_ne _ _ _ _ (by omega)).trans ha⟩
  have hDd := hLt.down
  have hDo := hLt.out
  simp only [lostV] at hDp hDd hDo
  have hkl := keptP_len (p := isDown s) (l := l)
  have hwk : wrapA .i64 ((l.length : Int) - ((keptP (isDown s) l).length : Int)) = (l.length : Int) - ((keptP (isDown s) l).length : Int) := wrap64 (by omega) (by omega)
  have hap := C.ap
  have ho := C.o
  rcases own_cases ho with ⟨rfl, hnil⟩ | ⟨q, rfl, hq⟩
  · subst hnil
    refine CalledOk.of_fun tt_ok fn64_ok rfl 33 rfl [.tmp 4] rfl (show 2 ≤ 33 by decide) ?_
    refine CW.vc env22_r [0, 1, 3, 4, 5, 11] (by kernel_rfl) ?_
    have g0 : goneA (isDown s) [] = [] := rfl
    have k0 : keptP (isDown s) [] = [] := rfl
    (repeat ((try refine Vc.mk' ?_); simp only [go_sem, reduceIte, reduceCtorEq, Nat.reduceAdd, Nat.reduceMul, Nat.reduceSub, Nat.reduceLT, Nat.reduceLeDiff, Nat.reduceEqDiff, Int.reduceEq, Int.reduceLT, Int.reduceLE, Int.reduceNe, G22_none, conNone_r, G22_df, conDf, List.headD_cons, hh, hic, hcc, hcc', set_lt hcbt, hOw, hrd, evList, evO, hDp, hDd, hDo, dfRes, lostV, ha, hob, hobt, hobt', len_st124 hS, idx_st124 hS, ld_st124 hS, sh_st124 hS, sw_st124 hS, sf_st124_0 hS, sc_st124_0 hS, sf_st124_1 hS, sc_st124_1 hS, sf_st124_2 hS, hS.P, hS.oc, hS.cl, hS.rd, hS.ref, strip_P lvs, strip_rd lvs, strip_ld lvs, strip_sl hS lvs k_st124, lost_ne, g0, k0, dfV, dfU, dfU2, List.append_nil]))
    have w00 : wrapA .i64 (((0 : Nat) : Int) - ((0 : Nat) : Int)) = ((0 : Nat) : Int) - ((0 : Nat) : Int) := by decide
    simp only [siftRes, g0, k0, dfV, dfU, dfU2, if_true, List.append_nil, List.length_nil, w00]
    (refine ⟨[], by simp, by simp, by simp, ?_, ?_, ?_⟩ <;> simp [frSub, lkG, ren, renL, renL_set, renL_ints, UpdOk.nil, UpdOk.cons, renOO_some, renO_cells, renO_map, renOO_mkOb, rn_base, rn_add, ren_mkSl, Enc.flat_ren, set_same, set_ne, sets_cons, sets_nil, Keep.set, Keep.setK, Keep.refl, rm_m_int_bool, rm_m_message_Rule, rm_m_pair_bool, rm_m_pair_int, calOb, rn_low hcbt, hcc'])
  · have hqt : q < top := lvs
    have hqc : ¬ q = cb := fun e => by rw [e, hh] at hq; exact absurd (cellZ hq) (by decide)
    have hcq : ¬ cb = q := fun e => hqc e.symm
    have hqo : ¬ q = ob := fun e => by rw [e, ha] at hq; exact absurd (cellZ hq) (by decide)
    have hoq : ¬ ob = q := fun e => hqo e.symm
    have htq : ¬ top = q := by omega
    have hqt' : ¬ q = top := by omega
    have ht1c : ¬ top + 1 = cb := by omega
    have ht1o : ¬ top + 1 = ob := by omega
    have ht1q : ¬ top + 1 = q := by omega
    have hc1 : ¬ cb = top + 1 := by omega
    have ho1 : ¬ ob = top + 1 := by omega
    have hq1 : ¬ q = top + 1 := by omega
    by_cases hg : goneA (isDown s) l = []
    · refine CalledOk.of_fun tt_ok fn64_ok rfl 33 rfl [.tmp 4] rfl (show 2 ≤ 33 by decide) ?_
      refine CW.vc env22_r [0, 1, 3, 4, 5, 11] (by kernel_rfl) ?_
      (repeat ((try refine Vc.mk' ?_); simp only [go_sem, reduceIte, reduceCtorEq, Nat.reduceAdd, Nat.reduceMul, Nat.reduceSub, Nat.reduceLT, Nat.reduceLeDiff, Nat.reduceEqDiff, Int.reduceEq, Int.reduceLT, Int.reduceLE, Int.reduceNe, G22_none, conNone_r, G22_df, conDf, List.headD_cons, hh, hic, hcc, hcc', set_lt hcbt, hOw, hrd, evList, evO, hDp, hDd, hDo, dfRes, lostV, ha, hob, hobt, hobt', len_st124 hS, idx_st124 hS, ld_st124 hS, sh_st124 hS, sw_st124 hS, sf_st124_0 hS, sc_st124_0 hS, sf_st124_1 hS, sc_st124_1 hS, sf_st124_2 hS, hS.P, hS.oc, hS.cl, hS.rd, hS.ref, strip_P lvs, strip_rd lvs, strip_ld lvs, strip_sl hS lvs k_st124, lost_ne, hg, dfV, dfU, dfU2, ownS, ownO, List.append_nil, hq, hqc, hcq, hqo, hoq, htq, hqt', set_lt hqt, hob', hwk, slenR]))
      simp only [siftRes, hg, dfV, dfU, dfU2, if_true, List.append_nil]
      (refine ⟨[], by simp, by simp, by simp, ?_, ?_, ?_⟩ <;> simp [frSub, lkG, ren, renL, renL_set, renL_ints, UpdOk.nil, UpdOk.cons, renOO_some, renO_cells, renO_map, renOO_mkOb, rn_base, rn_add, ren_mkSl, Enc.flat_ren, set_same, set_ne, sets_cons, sets_nil, Keep.set, Keep.setK, Keep.refl, rm_m_int_bool, rm_m_message_Rule, rm_m_pair_bool, rm_m_pair_int, calOb, ownS, ownO, rn_low hcbt, rn_low hqt, hcc', hqc, hcq, htq, hqt', Enc.flat_ren, set_lt hqt, set_lt hcbt])
    · refine CalledOk.of_fun tt_ok fn64_ok rfl 33 rfl [.tmp 4] rfl (show 2 ≤ 33 by decide) ?_
      refine CW.vc env22_r [0, 1, 3, 4, 5, 11] (by kernel_rfl) ?_
      (repeat ((try refine Vc.mk' ?_); simp only [go_sem, reduceIte, reduceCtorEq, Nat.reduceAdd, Nat.reduceMul, Nat.reduceSub, Nat.reduceLT, Nat.reduceLeDiff, Nat.reduceEqDiff, Int.reduceEq, Int.reduceLT, Int.reduceLE, Int.reduceNe, G22_none, conNone_r, G22_df, conDf, List.headD_cons, hh, hic, hcc, hcc', set_lt hcbt, hOw, hrd, evList, evO, hDp, hDd, hDo, dfRes, lostV, ha, hob, hobt, hobt', len_st124 hS, idx_st124 hS, ld_st124 hS, sh_st124 hS, sw_st124 hS, sf_st124_0 hS, sc_st124_0 hS, sf_st124_1 hS, sc_st124_1 hS, sf_st124_2 hS, hS.P, hS.oc, hS.cl, hS.rd, hS.ref, strip_P lvs, strip_rd lvs, strip_ld lvs, strip_sl hS lvs k_st124, lost_ne, hg, dfV, dfU, dfU2, ownS, ownO, List.append_nil, List.cons_append, List.nil_append, hq, hqc, hcq, hqo, hoq, htq, hqt', ht1c, ht1o, ht1q, hc1, ho1, hq1, set_lt hqt, set_lt hat, hob', hwk, slenR]))
      simp only [siftRes, hg, dfV, dfU, dfU2, if_false, List.cons_append, List.nil_append]
      (refine ⟨[top + 1], by simp, by simp, by simp, ?_, ?_, ?_⟩ <;> simp [frSub, lkG, ren, renL, renL_set, renL_ints, UpdOk.nil, UpdOk.cons, renOO_some, renO_cells, renO_map, renOO_mkOb, rn_base, rn_add, ren_mkSl, Enc.flat_ren, set_same, set_ne, sets_cons, sets_nil, Keep.set, Keep.setK, Keep.refl, rm_m_int_bool, rm_m_message_Rule, rm_m_pair_bool, rm_m_pair_int, calOb, ownS, ownO, rn_low hcbt, rn_low hqt, rn_low hat, hcc', hqc, hcq, hqo, hoq, htq, hqt', ht1c, ht1o, ht1q, hc1, ho1, hq1, hob, hob', Enc.flat_ren, set_lt hqt, set_lt hcbt, set_lt hat])
end Go.Proofs.Ytmppehipfpkepaa.Dm
