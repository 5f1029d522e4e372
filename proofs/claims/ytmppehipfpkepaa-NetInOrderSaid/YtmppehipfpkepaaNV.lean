/- NetInOrder: the walk. -/
import Derived.Test.YtmppehipfpkepaaNW
set_option linter.unusedSimpArgs false
set_option linter.unusedVariables false
namespace Go.Proofs.Ytmppehipfpkepaa.Dm
open Go.Dm
set_option maxHeartbeats 16000000
set_option maxRecDepth 20000
noncomputable def G15_r : FuncId → Con := addG G14_r 8 conWorks
theorem env15_r : EnvV Try.prog tt.get G15_r := env14_r.add works_ok
theorem G15_works : G15_r 8 = conWorks := rfl
theorem G15_three : G15_r 9 = conThree := rfl
theorem G15_send : G15_r 10 = conSend := rfl
theorem G15_tick : G15_r 12 = conTick := rfl
theorem G15_now : G15_r 11 = conNow := rfl
def st1 (hp : Hp) (top : Nat) (v : Value) (late : Int) (x : Nat × List Int × List Int × Nat) : SS :=
  ⟨[(0, v, true), (1, .int .i64 late, true), (5, .pointer (some ⟨top, 0, none⟩), true), (6, mkSl (top + 9) x.2.2.1, true), (7, .int .i64 (x.2.2.2 : Int), true), (8, .int .i64 (x.1 : Int), true)], hp.sets (netUV top (netI late x.2.1 x.1 x.2.2.1 x.2.2.2) (lvI (top + 8) x.2.2.1 x.2.2.2) ++ [(top + 8, loI x.2.2.1 x.2.2.2), (top + 9, mkOb e_uint64 x.2.2.1)]), top + 10⟩
def st2 (hp : Hp) (top : Nat) (v : Value) (late : Int) (i D : Nat) (x : Nat × List Int × List Int) : SS :=
  ⟨[(0, v, true), (1, .int .i64 late, true), (5, .pointer (some ⟨top, 0, none⟩), true), (6, mkSl (top + 9) x.2.2, true), (7, .int .i64 (D : Int), true), (8, .int .i64 (i : Int), true), (9, .int .i64 (x.1 : Int), true)], hp.sets (netUV top (netI late x.2.1 i x.2.2 D) (lvI (top + 8) x.2.2 D) ++ [(top + 8, loI x.2.2 D), (top + 9, mkOb e_uint64 x.2.2)]), top + 10⟩
def st3 (hp : Hp) (top : Nat) (v : Value) (late : Int) (i : Nat) (ks W : List Int) (D : Nat) (k : Nat) : SS :=
  ⟨[(0, v, true), (1, .int .i64 late, true), (5, .pointer (some ⟨top, 0, none⟩), true), (6, mkSl (top + 9) W, true), (7, .int .i64 ((D + k : Nat) : Int), true), (8, .int .i64 (i : Int), true), (12, mkSl (top + 10) (tickL (netI late ks i W D)), true), (13, .int .i64 (k : Int), true)], hp.sets (netUV top (netI late ks ((i : Int) + 1) W (D + kI i W D)) (lvI (top + 8) W (D + kI i W D)) ++ [(top + 8, loI W (D + kI i W D)), (top + 9, mkOb e_uint64 W), (top + 10, mkOb e_Arrive (tickL (netI late ks i W D)))]), top + 11⟩
theorem lvI_ren {ρ : Nat → Nat} {q : Nat} {W : List Int} {D : Nat} : ren ρ (lvI q W D) = lvI (ρ q) W D := by
  unfold lvI
  split
  · rfl
  · simp [ownS, ren]
theorem loI_ren {ρ : Nat → Nat} {W : List Int} {D : Nat} : renOO ρ (loI W D) = loI W D := by
  unfold loI
  split
  · rfl
  · simp [ownO, renOO, renO, Enc.flat_ren]
theorem fam_keep {hp : Hp} {top : Nat} {s : NetS} {lv : Value} {a b : Option AObj} : Keep top [] (hp.sets (netUV top s lv ++ [(top + 8, a), (top + 9, b)])) hp = True := by
  rw [keep_sets, Keep.refl]
  intro p hp
  simp [netUV] at hp
  rcases hp with rfl | rfl | rfl | rfl | rfl | rfl | rfl | rfl | rfl | rfl <;> simp
theorem keepL {n : Nat} {ks : List Nat} {h hp : Hp} (k : Keep n [] h hp) : Keep n ks h hp = True := eq_true fun i hi _ => k i hi (by simp)
theorem lvI_send {q : Nat} {X : Nat} {late : Int} {ks : List Int} {now : Int} {W : List Int} {D : Nat} {w : Int} (hn : W.length ≤ 200) (hd : D ≤ W.length) : sendV (lvI q W D) (netI late ks now W D) 2 3 [UInt8.ofNat W.length] X = lvI X (W ++ [w]) D := by
  have hc : copies (netI late ks now W D) 2 3 = 1 := rfl
  unfold sendV
  rw [if_neg (by rintro (c | c); exact netI_up hn c; rw [hc] at c; cases c), hc, lvI_app]
  have : ((thI (W ++ [w])).drop D).length = ((thI W).drop D).length + (1 : Int).toNat := by
    rw [List.length_drop, List.length_drop, thI_len, thI_len]; simp; omega
  rw [this]; rfl
theorem nowI {late : Int} {ks : List Int} {now : Int} {W : List Int} {D : Nat} : (netI late ks now W D).now = now := rfl
theorem late_ok (x : Int) : 1 ≤ wrapA .i64 (1 + (wrapA .i64 (x.tmod 9 + 9)).tmod 9) ∧ wrapA .i64 (1 + (wrapA .i64 (x.tmod 9 + 9)).tmod 9) ≤ 9 := by
  have a1 : -9 < x.tmod 9 := Int.lt_tmod_of_pos x (by decide)
  have a2 : x.tmod 9 < 9 := Int.tmod_lt_of_pos x (by decide)
  have e1 : wrapA .i64 (x.tmod 9 + 9) = x.tmod 9 + 9 := wrap64 (by omega) (by omega)
  rw [e1]
  have b1 : 0 ≤ (x.tmod 9 + 9).tmod 9 := Int.tmod_nonneg 9 (by omega)
  have b2 : (x.tmod 9 + 9).tmod 9 < 9 := Int.tmod_lt_of_pos _ (by decide)
  rw [wrap64 (by omega) (by omega)]
  omega
theorem three_I {late : Int} {X : Nat} (h1 : 1 ≤ late) (h2 : late ≤ 9) : threeRes [] late X = (.pointer (some ⟨X, 0, none⟩), netU X (netI late Fa.zeroP 0 [] 0), X + 8) := by
  unfold threeRes
  rw [if_neg (by omega)]; rfl
def conInOrder : Con := .pure (fun args hp => match args with | [v, .int .i64 _] => ∃ l, SlT e_uint8 hp v l ∧ l.length ≤ 140737488355328 | _ => False) (fun _ _ => .bool true)

theorem inorder_ok : ConOk Try.prog 3 conInOrder := by
  refine .mkRd fn3_ok (fun _ _ _ => rfl) ?_
  intro args hp hpre top hcl hsc
  match args, hpre with
  | [v, .int .i64 late0], ⟨l, h, hln⟩ =>
  have hs := h.low hcl
  have rP : ∀ {h' : Hp}, SlP e_Rule h' (.slice none 0 0) = True := fun {h'} => (SlT.nils (E := e_Rule) (hp := h')).P
  have rR : ∀ {h' : Hp}, e_Rule.rd h' (.slice none 0 0) = [] := fun {h'} => (SlT.nils (E := e_Rule) (hp := h')).rd
  refine CalledOk.of_fun tt_ok fn3_ok rfl 122 rfl [.tmp 4] rfl (show 2 ≤ 122 by decide) ?_
  refine CW.vc env15_r [0, 1, 4, 5, 6, 7, 8, 9, 11, 12, 13, 15, 24, 34, 40, 53, 67, 81, 108] (by kernel_rfl) ?_
  (simp only [go_sem, reduceIte, reduceCtorEq, Nat.reduceAdd, Nat.reduceMul, Nat.reduceSub, Nat.reduceLT, Nat.reduceLeDiff, Nat.reduceEqDiff, Int.reduceEq, Int.reduceLT, Int.reduceLE, Int.reduceNe, G15_works, conWorks, G15_three, conThree, G15_send, conSend, G15_tick, conTick, G15_now, conNow, rP, rR, len_suint8 h, idx_suint8 h, ld_suint8 h, sh_suint8 h, sw_suint8 h, h.P, h.oc, h.cl, h.rd, h.ref, strip_P hs, strip_rd hs, strip_ld hs, strip_sl h hs k_suint8]; repeat (refine Vc.mk' ?_; simp only [go_sem, reduceIte, reduceCtorEq, Nat.reduceAdd, Nat.reduceMul, Nat.reduceSub, Nat.reduceLT, Nat.reduceLeDiff, Nat.reduceEqDiff, Int.reduceEq, Int.reduceLT, Int.reduceLE, Int.reduceNe, G15_works, conWorks, G15_three, conThree, G15_send, conSend, G15_tick, conTick, G15_now, conNow, rP, rR, len_suint8 h, idx_suint8 h, ld_suint8 h, sh_suint8 h, sw_suint8 h, h.P, h.oc, h.cl, h.rd, h.ref, strip_P hs, strip_rd hs, strip_ld hs, strip_sl h hs k_suint8]))
  obtain ⟨h1, h9⟩ := late_ok late0
  generalize wrapA .i64 (1 + (wrapA .i64 (late0.tmod 9 + 9)).tmod 9) = late at h1 h9
  have t3 : ∀ {X : Nat}, threeRes [] late X = _ := fun {X} => three_I h1 h9
  (simp only [go_sem, reduceIte, reduceCtorEq, Nat.reduceAdd, Nat.reduceMul, Nat.reduceSub, Nat.reduceLT, Nat.reduceLeDiff, Nat.reduceEqDiff, Int.reduceEq, Int.reduceLT, Int.reduceLE, Int.reduceNe, G15_works, conWorks, G15_three, conThree, G15_send, conSend, G15_tick, conTick, G15_now, conNow, rP, rR, len_suint8 h, idx_suint8 h, ld_suint8 h, sh_suint8 h, sw_suint8 h, h.P, h.oc, h.cl, h.rd, h.ref, strip_P hs, strip_rd hs, strip_ld hs, strip_sl h hs k_suint8, t3]; repeat (refine Vc.mk' ?_; simp only [go_sem, reduceIte, reduceCtorEq, Nat.reduceAdd, Nat.reduceMul, Nat.reduceSub, Nat.reduceLT, Nat.reduceLeDiff, Nat.reduceEqDiff, Int.reduceEq, Int.reduceLT, Int.reduceLE, Int.reduceNe, G15_works, conWorks, G15_three, conThree, G15_send, conSend, G15_tick, conTick, G15_now, conNow, rP, rR, len_suint8 h, idx_suint8 h, ld_suint8 h, sh_suint8 h, sw_suint8 h, h.P, h.oc, h.cl, h.rd, h.ref, strip_P hs, strip_rd hs, strip_ld hs, strip_sl h hs k_suint8, t3]))
  refine CW.loopR (st1 hp top v late) (fun x => x.1 ≤ 60 ∧ x.2.1.length = 625 ∧ InvI late x.1 l.length x.2.2.1 x.2.2.2) (fun x => 60 - x.1) (0, Fa.zeroP, [], 0) ⟨by decide, by decide, .zero⟩ ?_ ?_
  · exact SubR.mk' [top, top + 1, top + 2, top + 3, top + 4, top + 5, top + 6, top + 7, top + 8, top + 9] hcl (by simp) (by simp) rfl (frSub_ok (by simp [frSub, lkG, ren, renL, renL_set, renL_ints, UpdOk.nil, UpdOk.cons, renOO_some, renO_cells, renO_map, renOO_mkOb, rn_base, rn_add, ren_mkSl, Enc.flat_ren, set_same, set_ne, sets_cons, sets_nil, Keep.set, Keep.setK, Keep.refl, rm_m_int_bool, rm_m_message_Rule, rm_m_pair_bool, rm_m_pair_int, Sc.ren (fun j hj => rn_low hj) hs, netUV, netU, netOb, calOb, Fa.planOb, lvI, loI, mkSl_nil, mkOb_nil])) (by simp [frSub, lkG, ren, renL, renL_set, renL_ints, UpdOk.nil, UpdOk.cons, renOO_some, renO_cells, renO_map, renOO_mkOb, rn_base, rn_add, ren_mkSl, Enc.flat_ren, set_same, set_ne, sets_cons, sets_nil, Keep.set, Keep.setK, Keep.refl, rm_m_int_bool, rm_m_message_Rule, rm_m_pair_bool, rm_m_pair_int, Sc.ren (fun j hj => rn_low hj) hs, netUV, netU, netOb, calOb, Fa.planOb, lvI, loI, mkSl_nil, mkOb_nil]) (by simp [frSub, lkG, ren, renL, renL_set, renL_ints, UpdOk.nil, UpdOk.cons, renOO_some, renO_cells, renO_map, renOO_mkOb, rn_base, rn_add, ren_mkSl, Enc.flat_ren, set_same, set_ne, sets_cons, sets_nil, Keep.set, Keep.setK, Keep.refl, rm_m_int_bool, rm_m_message_Rule, rm_m_pair_bool, rm_m_pair_int, Sc.ren (fun j hj => rn_low hj) hs, netUV, netU, netOb, calOb, Fa.planOb, lvI, loI, mkSl_nil, mkOb_nil])
  · rintro ⟨i, ks, W, D⟩ ⟨hi, hks, hI⟩
    have hi : i ≤ 60 := hi
    have hks : ks.length = 625 := hks
    have hI : InvI late i l.length W D := hI
    have wln : wrapA .i64 ((l.length : Int) + late) = (l.length : Int) + late := wrap64 (by omega) (by omega)
    by_cases c1 : (i : Int) < (l.length : Int) + late
    case neg =>
      have hD := hI.all (by omega)
      have hD2 : (D : Int) = (W.length : Int) := by omega
      refine CW.vc env15_r [0, 1, 4, 5, 6, 7, 8, 9, 11, 12, 13, 15, 24, 34, 40, 53, 67, 81, 108] (by kernel_rfl) ?_
      (simp only [go_sem, reduceIte, reduceCtorEq, Nat.reduceAdd, Nat.reduceMul, Nat.reduceSub, Nat.reduceLT, Nat.reduceLeDiff, Nat.reduceEqDiff, Int.reduceEq, Int.reduceLT, Int.reduceLE, Int.reduceNe, G15_works, conWorks, G15_three, conThree, G15_send, conSend, G15_tick, conTick, G15_now, conNow, rP, rR, len_suint8 h, idx_suint8 h, ld_suint8 h, sh_suint8 h, sw_suint8 h, h.P, h.oc, h.cl, h.rd, h.ref, strip_P hs, strip_rd hs, strip_ld hs, strip_sl h hs k_suint8, st1, wln, c1, hD2, fam_keep]; repeat (refine Vc.mk' ?_; simp only [go_sem, reduceIte, reduceCtorEq, Nat.reduceAdd, Nat.reduceMul, Nat.reduceSub, Nat.reduceLT, Nat.reduceLeDiff, Nat.reduceEqDiff, Int.reduceEq, Int.reduceLT, Int.reduceLE, Int.reduceNe, G15_works, conWorks, G15_three, conThree, G15_send, conSend, G15_tick, conTick, G15_now, conNow, rP, rR, len_suint8 h, idx_suint8 h, ld_suint8 h, sh_suint8 h, sw_suint8 h, h.P, h.oc, h.cl, h.rd, h.ref, strip_P hs, strip_rd hs, strip_ld hs, strip_sl h hs k_suint8, st1, wln, c1, hD2, fam_keep]))
      by_cases c3 : 60 < (l.length : Int) + late
      · (simp only [go_sem, reduceIte, reduceCtorEq, Nat.reduceAdd, Nat.reduceMul, Nat.reduceSub, Nat.reduceLT, Nat.reduceLeDiff, Nat.reduceEqDiff, Int.reduceEq, Int.reduceLT, Int.reduceLE, Int.reduceNe, c3, fam_keep]; repeat (refine Vc.mk' ?_; simp only [go_sem, reduceIte, reduceCtorEq, Nat.reduceAdd, Nat.reduceMul, Nat.reduceSub, Nat.reduceLT, Nat.reduceLeDiff, Nat.reduceEqDiff, Int.reduceEq, Int.reduceLT, Int.reduceLE, Int.reduceNe, c3, fam_keep]))
      · (simp only [go_sem, reduceIte, reduceCtorEq, Nat.reduceAdd, Nat.reduceMul, Nat.reduceSub, Nat.reduceLT, Nat.reduceLeDiff, Nat.reduceEqDiff, Int.reduceEq, Int.reduceLT, Int.reduceLE, Int.reduceNe, c3, fam_keep]; repeat (refine Vc.mk' ?_; simp only [go_sem, reduceIte, reduceCtorEq, Nat.reduceAdd, Nat.reduceMul, Nat.reduceSub, Nat.reduceLT, Nat.reduceLeDiff, Nat.reduceEqDiff, Int.reduceEq, Int.reduceLT, Int.reduceLE, Int.reduceNe, c3, fam_keep]))
    by_cases c2 : i < 60
    case neg =>
      have c2' : ¬ (i : Int) < 60 := by omega
      have c3 : 60 < (l.length : Int) + late := by omega
      refine CW.vc env15_r [0, 1, 4, 5, 6, 7, 8, 9, 11, 12, 13, 15, 24, 34, 40, 53, 67, 81, 108] (by kernel_rfl) ?_
      (simp only [go_sem, reduceIte, reduceCtorEq, Nat.reduceAdd, Nat.reduceMul, Nat.reduceSub, Nat.reduceLT, Nat.reduceLeDiff, Nat.reduceEqDiff, Int.reduceEq, Int.reduceLT, Int.reduceLE, Int.reduceNe, G15_works, conWorks, G15_three, conThree, G15_send, conSend, G15_tick, conTick, G15_now, conNow, rP, rR, len_suint8 h, idx_suint8 h, ld_suint8 h, sh_suint8 h, sw_suint8 h, h.P, h.oc, h.cl, h.rd, h.ref, strip_P hs, strip_rd hs, strip_ld hs, strip_sl h hs k_suint8, st1, wln, c1, c2', c3, fam_keep]; repeat (refine Vc.mk' ?_; simp only [go_sem, reduceIte, reduceCtorEq, Nat.reduceAdd, Nat.reduceMul, Nat.reduceSub, Nat.reduceLT, Nat.reduceLeDiff, Nat.reduceEqDiff, Int.reduceEq, Int.reduceLT, Int.reduceLE, Int.reduceNe, G15_works, conWorks, G15_three, conThree, G15_send, conSend, G15_tick, conTick, G15_now, conNow, rP, rR, len_suint8 h, idx_suint8 h, ld_suint8 h, sh_suint8 h, sw_suint8 h, h.P, h.oc, h.cl, h.rd, h.ref, strip_P hs, strip_rd hs, strip_ld hs, strip_sl h hs k_suint8, st1, wln, c1, c2', c3, fam_keep]))
    have c2' : (i : Int) < 60 := by omega
    by_cases c4 : i < l.length
    · have c4' : (i : Int) < (l.length : Int) := by omega
      refine CW.vc env15_r [0, 1, 4, 5, 6, 7, 8, 9, 11, 12, 13, 15, 24, 34, 40, 53, 67, 81, 108] (by kernel_rfl) ?_
      (simp only [go_sem, reduceIte, reduceCtorEq, Nat.reduceAdd, Nat.reduceMul, Nat.reduceSub, Nat.reduceLT, Nat.reduceLeDiff, Nat.reduceEqDiff, Int.reduceEq, Int.reduceLT, Int.reduceLE, Int.reduceNe, G15_works, conWorks, G15_three, conThree, G15_send, conSend, G15_tick, conTick, G15_now, conNow, rP, rR, len_suint8 h, idx_suint8 h, ld_suint8 h, sh_suint8 h, sw_suint8 h, h.P, h.oc, h.cl, h.rd, h.ref, strip_P hs, strip_rd hs, strip_ld hs, strip_sl h hs k_suint8, st1, wln, c1, c2', c4']; repeat (refine Vc.mk' ?_; simp only [go_sem, reduceIte, reduceCtorEq, Nat.reduceAdd, Nat.reduceMul, Nat.reduceSub, Nat.reduceLT, Nat.reduceLeDiff, Nat.reduceEqDiff, Int.reduceEq, Int.reduceLT, Int.reduceLE, Int.reduceNe, G15_works, conWorks, G15_three, conThree, G15_send, conSend, G15_tick, conTick, G15_now, conNow, rP, rR, len_suint8 h, idx_suint8 h, ld_suint8 h, sh_suint8 h, sw_suint8 h, h.P, h.oc, h.cl, h.rd, h.ref, strip_P hs, strip_rd hs, strip_ld hs, strip_sl h hs k_suint8, st1, wln, c1, c2', c4']))
      refine CW.loopR (st2 hp top v late i D) (fun x => x.2.1.length = 625 ∧ InvS late i x.2.2 D) (fun x => 200 - x.2.2.length) (0, ks, W) ⟨hks, hI.s⟩ ?_ ?_
      · exact SubR.mk' [top, top + 1, top + 2, top + 3, top + 4, top + 5, top + 6, top + 7, top + 8, top + 9] hcl (by simp) (by simp) rfl (frSub_ok (by simp [frSub, lkG, ren, renL, renL_set, renL_ints, UpdOk.nil, UpdOk.cons, renOO_some, renO_cells, renO_map, renOO_mkOb, rn_base, rn_add, ren_mkSl, Enc.flat_ren, set_same, set_ne, sets_cons, sets_nil, Keep.set, Keep.setK, Keep.refl, rm_m_int_bool, rm_m_message_Rule, rm_m_pair_bool, rm_m_pair_int, Sc.ren (fun j hj => rn_low hj) hs, netUV, netOb, calOb, Fa.planOb, lvI_ren, loI_ren, netI, net3, net0, R3, L3])) (by simp [frSub, lkG, ren, renL, renL_set, renL_ints, UpdOk.nil, UpdOk.cons, renOO_some, renO_cells, renO_map, renOO_mkOb, rn_base, rn_add, ren_mkSl, Enc.flat_ren, set_same, set_ne, sets_cons, sets_nil, Keep.set, Keep.setK, Keep.refl, rm_m_int_bool, rm_m_message_Rule, rm_m_pair_bool, rm_m_pair_int, Sc.ren (fun j hj => rn_low hj) hs, netUV, netOb, calOb, Fa.planOb, lvI_ren, loI_ren, netI, net3, net0, R3, L3]) (by simp [frSub, lkG, ren, renL, renL_set, renL_ints, UpdOk.nil, UpdOk.cons, renOO_some, renO_cells, renO_map, renOO_mkOb, rn_base, rn_add, ren_mkSl, Enc.flat_ren, set_same, set_ne, sets_cons, sets_nil, Keep.set, Keep.setK, Keep.refl, rm_m_int_bool, rm_m_message_Rule, rm_m_pair_bool, rm_m_pair_int, Sc.ren (fun j hj => rn_low hj) hs, netUV, netOb, calOb, Fa.planOb, lvI_ren, loI_ren, netI, net3, net0, R3, L3])
      · rintro ⟨k, ks, W⟩ ⟨hks, hS⟩
        have hks : ks.length = 625 := hks
        have hS : InvS late i W D := hS
        have F0 : NetAt (hpI hp top late ks i W D) top (lvI (top + 8) W D) (netI late ks i W D) := fam_net h1 (by omega) (by omega) (by omega) hks hS.srt hS.nl
        have A0 : ∀ {o : Option AObj}, NetAt ((hpI hp top late ks i W D).set (top + 10) o) top (lvI (top + 8) W D) (netI late ks i W D) := fun {o} => F0.stay (top := top + 10) (by omega) (sc_up F0.W.o lvI_sc (by omega)) (by rw [Keep.set (by omega), Keep.refl]; trivial)
        have hnl := hS.nl
        by_cases c5 : W.length < 200
        case neg =>
          have c5' : ¬ (W.length : Int) < 200 := by omega
          have hi2 : ∀ w ∈ W, w < (min (i + 1) l.length : Nat) + late := fun w hw => by have := hS.hi w hw; omega
          have F0 : NetAt (hpI hp top late ks i W D) top (lvI (top + 8) W D) (netI late ks i W D) := fam_net h1 (by omega) (by omega) (by omega) hks hS.srt hS.nl
          have F0s := F0.s
          have F0v := F0.v
          have F0i := F0.is
          have t1 : ∀ {X : Nat}, tickRes top (lvI (top + 8) W D) (netI late ks i W D) X = (mkSl X (tickL (netI late ks i W D)), tickU top (lvI (top + 8) W D) (netI late ks i W D) X, X + 1) := fun {X} => tickRes_ok (by show (i : Int) < 1099511627776; omega)
          have sc0 : Sc (top + 10) (lvI (top + 8) W D) := sc_up F0.W.o lvI_sc (by omega)
          have A1 : NetAt ((hpI hp top late ks i W D).sets (tickU top (lvI (top + 8) W D) (netI late ks i W D) (top + 10))) top (lvI (top + 8) W (D + kI i W D)) (netI late ks ((i : Int) + 1) W (D + kI i W D)) := by
            have := F0.tick (top := top + 10) (by omega) sc0
            rw [netI_tick (by omega), lvI_tick (by omega)] at this
            exact this
          have W1 : ((hpI hp top late ks i W D).sets (tickU top (lvI (top + 8) W D) (netI late ks i W D) (top + 10))) (top + 9) = mkOb e_uint64 W := by
            rw [tickU_off F0.W.o (by omega) (by omega) (by omega) (lvI_off (by omega))]; exact fam_W
          have C10 : ((hpI hp top late ks i W D).sets (tickU top (lvI (top + 8) W D) (netI late ks i W D) (top + 10))) (top + 10) = mkOb e_Arrive (tickL (netI late ks i W D)) := tickU_at (by show (i : Int) < 1099511627776; omega) (by omega) sc0 F0.W.o
          have q8 : ((hpI hp top late ks i W D).sets (tickU top (lvI (top + 8) W D) (netI late ks i W D) (top + 10))) (top + 8) = loI W (D + kI i W D) := by
            by_cases c : W = []
            · rw [tickU_off F0.W.o (by omega) (by omega) (by omega) (by unfold lvI; rw [if_pos c]; trivial)]
              unfold hpI
              rw [sets_app]
              simp [Hp.sets, Hp.set, loI, c]
            · rw [show loI W (D + kI i W D) = ownO e_t124 ((thI W).drop (D + kI i W D)) from if_neg c]
              exact OwnV.at_ A1.W.o (if_neg c)
          have q0 := A1.h
          have q1 := A1.L
          have q2 := A1.C
          have q3 := A1.S
          have q4 := A1.P
          have q5 := A1.M
          have q6 := A1.W.h
          have q7 := A1.R (by simp [netI, net3, net0, R3])
          have kk : ∀ {L : List Nat}, Keep top L ((hpI hp top late ks i W D).sets (tickU top (lvI (top + 8) W D) (netI late ks i W D) (top + 10))) hp = True := fun {L} =>
            keepL (by rw [keep_sets (hi_tick F0.W.o (Nat.le_refl _) (by omega) lvI_hi)]; exact of_eq_true fam_keep)
          have ld1 : sload tt.get (hpI hp top late ks i W D) 5 (ptrS v (i * 1)) = (.int .u8 (at' l i), True) := ld_suint8 (h.keep hs (show Keep top [] (hpI hp top late ks i W D) hp from of_eq_true fam_keep)) c4
          by_cases c6 : (k : Int) < wrapA .i64 ((at' l i).tmod 4)
          · skip
            refine CW.vc env15_r [0, 1, 4, 5, 6, 7, 8, 9, 11, 12, 13, 15, 24, 34, 40, 53, 67, 81, 108] (by kernel_rfl) ?_
            have fold : hp.sets (netUV top (netI late ks i W D) (lvI (top + 8) W D) ++ [(top + 8, loI W D), (top + 9, mkOb e_uint64 W)]) = hpI hp top late ks i W D := rfl
            (simp only [go_sem, reduceIte, reduceCtorEq, Nat.reduceAdd, Nat.reduceMul, Nat.reduceSub, Nat.reduceLT, Nat.reduceLeDiff, Nat.reduceEqDiff, Int.reduceEq, Int.reduceLT, Int.reduceLE, Int.reduceNe, G15_works, conWorks, G15_three, conThree, G15_send, conSend, G15_tick, conTick, G15_now, conNow, rP, rR, len_suint8 h, idx_suint8 h, ld_suint8 h, sh_suint8 h, sw_suint8 h, h.P, h.oc, h.cl, h.rd, h.ref, strip_P hs, strip_rd hs, strip_ld hs, strip_sl h hs k_suint8, st2, c4, c4', c5', c6, ld1, fold, F0s, F0v, F0i, t1]; repeat (refine Vc.mk' ?_; simp only [go_sem, reduceIte, reduceCtorEq, Nat.reduceAdd, Nat.reduceMul, Nat.reduceSub, Nat.reduceLT, Nat.reduceLeDiff, Nat.reduceEqDiff, Int.reduceEq, Int.reduceLT, Int.reduceLE, Int.reduceNe, G15_works, conWorks, G15_three, conThree, G15_send, conSend, G15_tick, conTick, G15_now, conNow, rP, rR, len_suint8 h, idx_suint8 h, ld_suint8 h, sh_suint8 h, sw_suint8 h, h.P, h.oc, h.cl, h.rd, h.ref, strip_P hs, strip_rd hs, strip_ld hs, strip_sl h hs k_suint8, st2, c4, c4', c5', c6, ld1, fold, F0s, F0v, F0i, t1]))
            refine CW.loopR (st3 hp top v late i ks W D) (fun k => k ≤ kI i W D) (fun k => kI i W D - k) 0 (Nat.zero_le _) ?_ ?_
            · exact SubR.mk' [top, top + 1, top + 2, top + 3, top + 4, top + 5, top + 6, top + 7, top + 8, top + 9, top + 10] hcl (by simp) (by simp) rfl (frSub_ok (by simp [frSub, lkG, ren, renL, renL_set, renL_ints, UpdOk.nil, UpdOk.cons, renOO_some, renO_cells, renO_map, renOO_mkOb, rn_base, rn_add, ren_mkSl, Enc.flat_ren, set_same, set_ne, sets_cons, sets_nil, Keep.set, Keep.setK, Keep.refl, rm_m_int_bool, rm_m_message_Rule, rm_m_pair_bool, rm_m_pair_int, Sc.ren (fun j hj => rn_low hj) hs, q0, q1, q2, q3, q4, q5, q6, q7, q8, W1, C10, kk, netUV, netOb, calOb, Fa.planOb, lvI_ren, loI_ren])) (by simp [frSub, lkG, ren, renL, renL_set, renL_ints, UpdOk.nil, UpdOk.cons, renOO_some, renO_cells, renO_map, renOO_mkOb, rn_base, rn_add, ren_mkSl, Enc.flat_ren, set_same, set_ne, sets_cons, sets_nil, Keep.set, Keep.setK, Keep.refl, rm_m_int_bool, rm_m_message_Rule, rm_m_pair_bool, rm_m_pair_int, Sc.ren (fun j hj => rn_low hj) hs, q0, q1, q2, q3, q4, q5, q6, q7, q8, W1, C10, kk, netUV, netOb, calOb, Fa.planOb, lvI_ren, loI_ren]) (by simp [frSub, lkG, ren, renL, renL_set, renL_ints, UpdOk.nil, UpdOk.cons, renOO_some, renO_cells, renO_map, renOO_mkOb, rn_base, rn_add, ren_mkSl, Enc.flat_ren, set_same, set_ne, sets_cons, sets_nil, Keep.set, Keep.setK, Keep.refl, rm_m_int_bool, rm_m_message_Rule, rm_m_pair_bool, rm_m_pair_int, Sc.ren (fun j hj => rn_low hj) hs, q0, q1, q2, q3, q4, q5, q6, q7, q8, W1, C10, kk, netUV, netOb, calOb, Fa.planOb, lvI_ren, loI_ren])
            intro k hk
            have hk : k ≤ kI i W D := hk
            have hle := kI_le (i := i) hS.d
            have hnl := hS.nl
            have ei : ((i : Int) + 1 : Int) = ((i + 1 : Nat) : Int) := by omega
            obtain ⟨C, hC0⟩ : ∃ C, tickL (netI late ks i W D) = C := ⟨_, rfl⟩
            have hCl : C.length = kI i W D := by rw [← hC0, netI_out (by omega)]; exact out_len hS.d
            have fold3 : hp.sets (netUV top (netI late ks ((i : Int) + 1) W (D + kI i W D)) (lvI (top + 8) W (D + kI i W D)) ++ [(top + 8, loI W (D + kI i W D)), (top + 9, mkOb e_uint64 W), (top + 10, mkOb e_Arrive C)]) = (hpI hp top late ks ((i : Int) + 1) W (D + kI i W D)).set (top + 10) (mkOb e_Arrive C) := rfl
            have F3 : NetAt (hpI hp top late ks ((i : Int) + 1) W (D + kI i W D)) top (lvI (top + 8) W (D + kI i W D)) (netI late ks ((i : Int) + 1) W (D + kI i W D)) := fam_net h1 (by omega) (by omega) (by omega) hks hS.srt hS.nl
            by_cases hlt : k < kI i W D
            · have hDk : D + k < W.length := by omega
              have lt1 : ((D + k : Nat) : Int) < (W.length : Int) := by omega
              have cq : at' C k = ⟨2, 3, [UInt8.ofNat (D + k)]⟩ := by rw [← hC0, netI_out (by omega)]; exact out_at hS.d hlt
              have hq : decide (at' C k = ⟨2, 3, [UInt8.ofNat (D + k)]⟩) = true := decide_eq_true cq
              have wat : at' W (D + k) = (i : Int) + 1 := by rw [at'_get _ _ hDk]; exact hS.is hDk (by omega) (by omega)
              have hC : SlT e_Arrive ((hpI hp top late ks ((i : Int) + 1) W (D + kI i W D)).set (top + 10) (mkOb e_Arrive C)) (mkSl (top + 10) C) C := .own (set_same ..) (by omega)
              have hkC : k < C.length := by omega
              have ixC : sindexAddr tt.get 34 (mkSl (top + 10) C) (.int .i64 (k : Int)) = (ptrS (mkSl (top + 10) C) (k * 3), True) := by
                have := idx_sArrive hC (k := .i64) (n := (k : Int)) (by omega) (by omega)
                rwa [Int.toNat_natCast] at this
              have ldC := ld_sArrive hC hkC
              have hW : ∀ {o : Option AObj}, SlT e_uint64 (((hpI hp top late ks ((i : Int) + 1) W (D + kI i W D)).set (top + 10) (mkOb e_Arrive C)).set (top + 11) o) (mkSl (top + 9) W) W := fun {o} => .own (by rw [set_ne _ _ _ _ (by omega), set_ne _ _ _ _ (by omega)]; exact fam_W) (by omega)
              have ixW : sindexAddr tt.get 26 (mkSl (top + 9) W) (.int .i64 ((D + k : Nat) : Int)) = (ptrS (mkSl (top + 9) W) ((D + k) * 1), True) := by
                have := idx_suint64 (hW (o := none)) (k := .i64) (n := ((D + k : Nat) : Int)) (by omega) (by omega)
                rwa [Int.toNat_natCast] at this
              have ldW : ∀ {o : Option AObj}, sload tt.get (((hpI hp top late ks ((i : Int) + 1) W (D + kI i W D)).set (top + 10) (mkOb e_Arrive C)).set (top + 11) o) 32 (ptrS (mkSl (top + 9) W) ((D + k) * 1)) = (.int .u64 ((i : Int) + 1), True) := fun {o} => by
                have := ld_suint64 (hW (o := o)) hDk
                rwa [wat] at this
              rw [Nat.mul_one] at ixW
              simp only [Nat.mul_one] at ldW
              have w8 : wrapA .u8 ((D + k : Nat) : Int) = ((D + k : Nat) : Int) := wrap_id (by simp [IntKind.signed]; omega) (by simp [IntKind.signed, IntKind.bits]; omega)
              have hcv : ∀ {h' : Hp} {b : Nat} {n : Int}, sconvH tt.get (h'.set b (some (.cells true 1 [.int .u8 n]))) 22 9 (.slice (some ⟨b, 0, none⟩) 1 1) = (.string ⟨⟨[UInt8.ofNat n.toNat]⟩⟩, True) := fun {h'} {b} {n} => sconvH_one k_suint8 k_uint8 k_string (set_same ..)
              have B3 : ∀ {o : Option AObj}, NetAt (((hpI hp top late ks ((i : Int) + 1) W (D + kI i W D)).set (top + 10) (mkOb e_Arrive C)).set (top + 11) o) top _ _ := fun {o} => F3.stay (top := top + 10) (by omega) (sc_up F3.W.o lvI_sc (by omega)) (by rw [Keep.set (by omega), Keep.set (by omega), Keep.refl]; trivial)
              have B3s : ∀ {o : Option AObj}, netS (((hpI hp top late ks ((i : Int) + 1) W (D + kI i W D)).set (top + 10) (mkOb e_Arrive C)).set (top + 11) o) top = _ := fun {o} => (B3 (o := o)).s
              have B3i : ∀ {o : Option AObj}, IsNet (((hpI hp top late ks ((i : Int) + 1) W (D + kI i W D)).set (top + 10) (mkOb e_Arrive C)).set (top + 11) o) top = True := fun {o} => (B3 (o := o)).is
              have w7 : wrapA .i64 (((D + k : Nat) : Int) + 1) = ((D + (k + 1) : Nat) : Int) := by rw [wrap64 (by omega) (by omega)]; omega
              have w7' : wrapA .i64 ((D : Int) + (k : Int) + 1) = (D : Int) + ((k : Int) + 1) := by rw [wrap64 (by omega) (by omega)]; omega
              have kw : wrapA .i64 ((k : Int) + 1) = ((k + 1 : Nat) : Int) := by rw [wrap64 (by omega) (by omega)]; omega
              have kC : (k : Int) < (C.length : Int) := by omega
              refine CW.vc env15_r [0, 1, 4, 5, 6, 7, 8, 9, 11, 12, 13, 15, 24, 34, 40, 53, 67, 81, 108] (by kernel_rfl) ?_
              (simp only [go_sem, reduceIte, reduceCtorEq, Nat.reduceAdd, Nat.reduceMul, Nat.reduceSub, Nat.reduceLT, Nat.reduceLeDiff, Nat.reduceEqDiff, Int.reduceEq, Int.reduceLT, Int.reduceLE, Int.reduceNe, G15_works, conWorks, G15_three, conThree, G15_send, conSend, G15_tick, conTick, G15_now, conNow, rP, rR, len_suint8 h, idx_suint8 h, ld_suint8 h, sh_suint8 h, sw_suint8 h, h.P, h.oc, h.cl, h.rd, h.ref, strip_P hs, strip_rd hs, strip_ld hs, strip_sl h hs k_suint8, st3, hC0, fold3, hlt, kC, lt1, ixC, ldC, ixW, ldW, w8, hcv, hq, B3s, B3i, nowI, arr_neqC, Int.toNat_natCast, Nat.mul_one]; repeat (refine Vc.mk' ?_; simp only [go_sem, reduceIte, reduceCtorEq, Nat.reduceAdd, Nat.reduceMul, Nat.reduceSub, Nat.reduceLT, Nat.reduceLeDiff, Nat.reduceEqDiff, Int.reduceEq, Int.reduceLT, Int.reduceLE, Int.reduceNe, G15_works, conWorks, G15_three, conThree, G15_send, conSend, G15_tick, conTick, G15_now, conNow, rP, rR, len_suint8 h, idx_suint8 h, ld_suint8 h, sh_suint8 h, sw_suint8 h, h.P, h.oc, h.cl, h.rd, h.ref, strip_P hs, strip_rd hs, strip_ld hs, strip_sl h hs k_suint8, st3, hC0, fold3, hlt, kC, lt1, ixC, ldC, ixW, ldW, w8, hcv, hq, B3s, B3i, nowI, arr_neqC, Int.toNat_natCast, Nat.mul_one]))
              refine .mk (k + 1) hlt (by omega) (SubR.mk' [top, top + 1, top + 2, top + 3, top + 4, top + 5, top + 6, top + 7, top + 8, top + 9, top + 10] hcl (by simp) (by simp) rfl (frSub_ok (by simp [frSub, lkG, ren, renL, renL_set, renL_ints, UpdOk.nil, UpdOk.cons, renOO_some, renO_cells, renO_map, renOO_mkOb, rn_base, rn_add, ren_mkSl, Enc.flat_ren, set_same, set_ne, sets_cons, sets_nil, Keep.set, Keep.setK, Keep.refl, rm_m_int_bool, rm_m_message_Rule, rm_m_pair_bool, rm_m_pair_int, Sc.ren (fun j hj => rn_low hj) hs, hC0, w7, w7', kw, hpI, netUV, netOb, calOb, Fa.planOb, lvI_ren, loI_ren])) (by simp [frSub, lkG, ren, renL, renL_set, renL_ints, UpdOk.nil, UpdOk.cons, renOO_some, renO_cells, renO_map, renOO_mkOb, rn_base, rn_add, ren_mkSl, Enc.flat_ren, set_same, set_ne, sets_cons, sets_nil, Keep.set, Keep.setK, Keep.refl, rm_m_int_bool, rm_m_message_Rule, rm_m_pair_bool, rm_m_pair_int, Sc.ren (fun j hj => rn_low hj) hs, hC0, w7, w7', kw, hpI, netUV, netOb, calOb, Fa.planOb, lvI_ren, loI_ren]) (by simp [frSub, lkG, ren, renL, renL_set, renL_ints, UpdOk.nil, UpdOk.cons, renOO_some, renO_cells, renO_map, renOO_mkOb, rn_base, rn_add, ren_mkSl, Enc.flat_ren, set_same, set_ne, sets_cons, sets_nil, Keep.set, Keep.setK, Keep.refl, rm_m_int_bool, rm_m_message_Rule, rm_m_pair_bool, rm_m_pair_int, Sc.ren (fun j hj => rn_low hj) hs, hC0, w7, w7', kw, hpI, netUV, netOb, calOb, Fa.planOb, lvI_ren, loI_ren]))
            · have hkK : k = kI i W D := by omega
              subst hkK
              have kC : ¬ ((kI i W D : Nat) : Int) < (C.length : Int) := by omega
              have wi : wrapA .i64 ((i : Int) + 1) = (i : Int) + 1 := by rw [wrap64 (by omega) (by omega)]
              refine CW.vc env15_r [0, 1, 4, 5, 6, 7, 8, 9, 11, 12, 13, 15, 24, 34, 40, 53, 67, 81, 108] (by kernel_rfl) ?_
              (simp only [go_sem, reduceIte, reduceCtorEq, Nat.reduceAdd, Nat.reduceMul, Nat.reduceSub, Nat.reduceLT, Nat.reduceLeDiff, Nat.reduceEqDiff, Int.reduceEq, Int.reduceLT, Int.reduceLE, Int.reduceNe, G15_works, conWorks, G15_three, conThree, G15_send, conSend, G15_tick, conTick, G15_now, conNow, rP, rR, len_suint8 h, idx_suint8 h, ld_suint8 h, sh_suint8 h, sw_suint8 h, h.P, h.oc, h.cl, h.rd, h.ref, strip_P hs, strip_rd hs, strip_ld hs, strip_sl h hs k_suint8, st3, hC0, fold3, kC]; repeat (refine Vc.mk' ?_; simp only [go_sem, reduceIte, reduceCtorEq, Nat.reduceAdd, Nat.reduceMul, Nat.reduceSub, Nat.reduceLT, Nat.reduceLeDiff, Nat.reduceEqDiff, Int.reduceEq, Int.reduceLT, Int.reduceLE, Int.reduceNe, G15_works, conWorks, G15_three, conThree, G15_send, conSend, G15_tick, conTick, G15_now, conNow, rP, rR, len_suint8 h, idx_suint8 h, ld_suint8 h, sh_suint8 h, sw_suint8 h, h.P, h.oc, h.cl, h.rd, h.ref, strip_P hs, strip_rd hs, strip_ld hs, strip_sl h hs k_suint8, st3, hC0, fold3, kC]))
              refine .mk (i + 1, ks, W, D + kI i W D) ⟨by show i + 1 ≤ 60; omega, hks, hS.tick hi2⟩ (by show 60 - (i + 1) < 60 - i; omega) (SubR.mk' [top, top + 1, top + 2, top + 3, top + 4, top + 5, top + 6, top + 7, top + 8, top + 9] hcl (by simp) (by simp) rfl (frSub_ok (by simp [frSub, lkG, ren, renL, renL_set, renL_ints, UpdOk.nil, UpdOk.cons, renOO_some, renO_cells, renO_map, renOO_mkOb, rn_base, rn_add, ren_mkSl, Enc.flat_ren, set_same, set_ne, sets_cons, sets_nil, Keep.set, Keep.setK, Keep.refl, rm_m_int_bool, rm_m_message_Rule, rm_m_pair_bool, rm_m_pair_int, Sc.ren (fun j hj => rn_low hj) hs, wi, ei.symm, hpI, netUV, netOb, calOb, Fa.planOb, lvI_ren, loI_ren])) (by simp [frSub, lkG, ren, renL, renL_set, renL_ints, UpdOk.nil, UpdOk.cons, renOO_some, renO_cells, renO_map, renOO_mkOb, rn_base, rn_add, ren_mkSl, Enc.flat_ren, set_same, set_ne, sets_cons, sets_nil, Keep.set, Keep.setK, Keep.refl, rm_m_int_bool, rm_m_message_Rule, rm_m_pair_bool, rm_m_pair_int, Sc.ren (fun j hj => rn_low hj) hs, wi, ei.symm, hpI, netUV, netOb, calOb, Fa.planOb, lvI_ren, loI_ren]) (by simp [frSub, lkG, ren, renL, renL_set, renL_ints, UpdOk.nil, UpdOk.cons, renOO_some, renO_cells, renO_map, renOO_mkOb, rn_base, rn_add, ren_mkSl, Enc.flat_ren, set_same, set_ne, sets_cons, sets_nil, Keep.set, Keep.setK, Keep.refl, rm_m_int_bool, rm_m_message_Rule, rm_m_pair_bool, rm_m_pair_int, Sc.ren (fun j hj => rn_low hj) hs, wi, ei.symm, hpI, netUV, netOb, calOb, Fa.planOb, lvI_ren, loI_ren]))
          · skip
            refine CW.vc env15_r [0, 1, 4, 5, 6, 7, 8, 9, 11, 12, 13, 15, 24, 34, 40, 53, 67, 81, 108] (by kernel_rfl) ?_
            have fold : hp.sets (netUV top (netI late ks i W D) (lvI (top + 8) W D) ++ [(top + 8, loI W D), (top + 9, mkOb e_uint64 W)]) = hpI hp top late ks i W D := rfl
            (simp only [go_sem, reduceIte, reduceCtorEq, Nat.reduceAdd, Nat.reduceMul, Nat.reduceSub, Nat.reduceLT, Nat.reduceLeDiff, Nat.reduceEqDiff, Int.reduceEq, Int.reduceLT, Int.reduceLE, Int.reduceNe, G15_works, conWorks, G15_three, conThree, G15_send, conSend, G15_tick, conTick, G15_now, conNow, rP, rR, len_suint8 h, idx_suint8 h, ld_suint8 h, sh_suint8 h, sw_suint8 h, h.P, h.oc, h.cl, h.rd, h.ref, strip_P hs, strip_rd hs, strip_ld hs, strip_sl h hs k_suint8, st2, c4, c4', c6, ld1, fold, F0s, F0v, F0i, t1]; repeat (refine Vc.mk' ?_; simp only [go_sem, reduceIte, reduceCtorEq, Nat.reduceAdd, Nat.reduceMul, Nat.reduceSub, Nat.reduceLT, Nat.reduceLeDiff, Nat.reduceEqDiff, Int.reduceEq, Int.reduceLT, Int.reduceLE, Int.reduceNe, G15_works, conWorks, G15_three, conThree, G15_send, conSend, G15_tick, conTick, G15_now, conNow, rP, rR, len_suint8 h, idx_suint8 h, ld_suint8 h, sh_suint8 h, sw_suint8 h, h.P, h.oc, h.cl, h.rd, h.ref, strip_P hs, strip_rd hs, strip_ld hs, strip_sl h hs k_suint8, st2, c4, c4', c6, ld1, fold, F0s, F0v, F0i, t1]))
            refine CW.loopR (st3 hp top v late i ks W D) (fun k => k ≤ kI i W D) (fun k => kI i W D - k) 0 (Nat.zero_le _) ?_ ?_
            · exact SubR.mk' [top, top + 1, top + 2, top + 3, top + 4, top + 5, top + 6, top + 7, top + 8, top + 9, top + 10] hcl (by simp) (by simp) rfl (frSub_ok (by simp [frSub, lkG, ren, renL, renL_set, renL_ints, UpdOk.nil, UpdOk.cons, renOO_some, renO_cells, renO_map, renOO_mkOb, rn_base, rn_add, ren_mkSl, Enc.flat_ren, set_same, set_ne, sets_cons, sets_nil, Keep.set, Keep.setK, Keep.refl, rm_m_int_bool, rm_m_message_Rule, rm_m_pair_bool, rm_m_pair_int, Sc.ren (fun j hj => rn_low hj) hs, q0, q1, q2, q3, q4, q5, q6, q7, q8, W1, C10, kk, netUV, netOb, calOb, Fa.planOb, lvI_ren, loI_ren])) (by simp [frSub, lkG, ren, renL, renL_set, renL_ints, UpdOk.nil, UpdOk.cons, renOO_some, renO_cells, renO_map, renOO_mkOb, rn_base, rn_add, ren_mkSl, Enc.flat_ren, set_same, set_ne, sets_cons, sets_nil, Keep.set, Keep.setK, Keep.refl, rm_m_int_bool, rm_m_message_Rule, rm_m_pair_bool, rm_m_pair_int, Sc.ren (fun j hj => rn_low hj) hs, q0, q1, q2, q3, q4, q5, q6, q7, q8, W1, C10, kk, netUV, netOb, calOb, Fa.planOb, lvI_ren, loI_ren]) (by simp [frSub, lkG, ren, renL, renL_set, renL_ints, UpdOk.nil, UpdOk.cons, renOO_some, renO_cells, renO_map, renOO_mkOb, rn_base, rn_add, ren_mkSl, Enc.flat_ren, set_same, set_ne, sets_cons, sets_nil, Keep.set, Keep.setK, Keep.refl, rm_m_int_bool, rm_m_message_Rule, rm_m_pair_bool, rm_m_pair_int, Sc.ren (fun j hj => rn_low hj) hs, q0, q1, q2, q3, q4, q5, q6, q7, q8, W1, C10, kk, netUV, netOb, calOb, Fa.planOb, lvI_ren, loI_ren])
            intro k hk
            have hk : k ≤ kI i W D := hk
            have hle := kI_le (i := i) hS.d
            have hnl := hS.nl
            have ei : ((i : Int) + 1 : Int) = ((i + 1 : Nat) : Int) := by omega
            obtain ⟨C, hC0⟩ : ∃ C, tickL (netI late ks i W D) = C := ⟨_, rfl⟩
            have hCl : C.length = kI i W D := by rw [← hC0, netI_out (by omega)]; exact out_len hS.d
            have fold3 : hp.sets (netUV top (netI late ks ((i : Int) + 1) W (D + kI i W D)) (lvI (top + 8) W (D + kI i W D)) ++ [(top + 8, loI W (D + kI i W D)), (top + 9, mkOb e_uint64 W), (top + 10, mkOb e_Arrive C)]) = (hpI hp top late ks ((i : Int) + 1) W (D + kI i W D)).set (top + 10) (mkOb e_Arrive C) := rfl
            have F3 : NetAt (hpI hp top late ks ((i : Int) + 1) W (D + kI i W D)) top (lvI (top + 8) W (D + kI i W D)) (netI late ks ((i : Int) + 1) W (D + kI i W D)) := fam_net h1 (by omega) (by omega) (by omega) hks hS.srt hS.nl
            by_cases hlt : k < kI i W D
            · have hDk : D + k < W.length := by omega
              have lt1 : ((D + k : Nat) : Int) < (W.length : Int) := by omega
              have cq : at' C k = ⟨2, 3, [UInt8.ofNat (D + k)]⟩ := by rw [← hC0, netI_out (by omega)]; exact out_at hS.d hlt
              have hq : decide (at' C k = ⟨2, 3, [UInt8.ofNat (D + k)]⟩) = true := decide_eq_true cq
              have wat : at' W (D + k) = (i : Int) + 1 := by rw [at'_get _ _ hDk]; exact hS.is hDk (by omega) (by omega)
              have hC : SlT e_Arrive ((hpI hp top late ks ((i : Int) + 1) W (D + kI i W D)).set (top + 10) (mkOb e_Arrive C)) (mkSl (top + 10) C) C := .own (set_same ..) (by omega)
              have hkC : k < C.length := by omega
              have ixC : sindexAddr tt.get 34 (mkSl (top + 10) C) (.int .i64 (k : Int)) = (ptrS (mkSl (top + 10) C) (k * 3), True) := by
                have := idx_sArrive hC (k := .i64) (n := (k : Int)) (by omega) (by omega)
                rwa [Int.toNat_natCast] at this
              have ldC := ld_sArrive hC hkC
              have hW : ∀ {o : Option AObj}, SlT e_uint64 (((hpI hp top late ks ((i : Int) + 1) W (D + kI i W D)).set (top + 10) (mkOb e_Arrive C)).set (top + 11) o) (mkSl (top + 9) W) W := fun {o} => .own (by rw [set_ne _ _ _ _ (by omega), set_ne _ _ _ _ (by omega)]; exact fam_W) (by omega)
              have ixW : sindexAddr tt.get 26 (mkSl (top + 9) W) (.int .i64 ((D + k : Nat) : Int)) = (ptrS (mkSl (top + 9) W) ((D + k) * 1), True) := by
                have := idx_suint64 (hW (o := none)) (k := .i64) (n := ((D + k : Nat) : Int)) (by omega) (by omega)
                rwa [Int.toNat_natCast] at this
              have ldW : ∀ {o : Option AObj}, sload tt.get (((hpI hp top late ks ((i : Int) + 1) W (D + kI i W D)).set (top + 10) (mkOb e_Arrive C)).set (top + 11) o) 32 (ptrS (mkSl (top + 9) W) ((D + k) * 1)) = (.int .u64 ((i : Int) + 1), True) := fun {o} => by
                have := ld_suint64 (hW (o := o)) hDk
                rwa [wat] at this
              rw [Nat.mul_one] at ixW
              simp only [Nat.mul_one] at ldW
              have w8 : wrapA .u8 ((D + k : Nat) : Int) = ((D + k : Nat) : Int) := wrap_id (by simp [IntKind.signed]; omega) (by simp [IntKind.signed, IntKind.bits]; omega)
              have hcv : ∀ {h' : Hp} {b : Nat} {n : Int}, sconvH tt.get (h'.set b (some (.cells true 1 [.int .u8 n]))) 22 9 (.slice (some ⟨b, 0, none⟩) 1 1) = (.string ⟨⟨[UInt8.ofNat n.toNat]⟩⟩, True) := fun {h'} {b} {n} => sconvH_one k_suint8 k_uint8 k_string (set_same ..)
              have B3 : ∀ {o : Option AObj}, NetAt (((hpI hp top late ks ((i : Int) + 1) W (D + kI i W D)).set (top + 10) (mkOb e_Arrive C)).set (top + 11) o) top _ _ := fun {o} => F3.stay (top := top + 10) (by omega) (sc_up F3.W.o lvI_sc (by omega)) (by rw [Keep.set (by omega), Keep.set (by omega), Keep.refl]; trivial)
              have B3s : ∀ {o : Option AObj}, netS (((hpI hp top late ks ((i : Int) + 1) W (D + kI i W D)).set (top + 10) (mkOb e_Arrive C)).set (top + 11) o) top = _ := fun {o} => (B3 (o := o)).s
              have B3i : ∀ {o : Option AObj}, IsNet (((hpI hp top late ks ((i : Int) + 1) W (D + kI i W D)).set (top + 10) (mkOb e_Arrive C)).set (top + 11) o) top = True := fun {o} => (B3 (o := o)).is
              have w7 : wrapA .i64 (((D + k : Nat) : Int) + 1) = ((D + (k + 1) : Nat) : Int) := by rw [wrap64 (by omega) (by omega)]; omega
              have w7' : wrapA .i64 ((D : Int) + (k : Int) + 1) = (D : Int) + ((k : Int) + 1) := by rw [wrap64 (by omega) (by omega)]; omega
              have kw : wrapA .i64 ((k : Int) + 1) = ((k + 1 : Nat) : Int) := by rw [wrap64 (by omega) (by omega)]; omega
              have kC : (k : Int) < (C.length : Int) := by omega
              refine CW.vc env15_r [0, 1, 4, 5, 6, 7, 8, 9, 11, 12, 13, 15, 24, 34, 40, 53, 67, 81, 108] (by kernel_rfl) ?_
              (simp only [go_sem, reduceIte, reduceCtorEq, Nat.reduceAdd, Nat.reduceMul, Nat.reduceSub, Nat.reduceLT, Nat.reduceLeDiff, Nat.reduceEqDiff, Int.reduceEq, Int.reduceLT, Int.reduceLE, Int.reduceNe, G15_works, conWorks, G15_three, conThree, G15_send, conSend, G15_tick, conTick, G15_now, conNow, rP, rR, len_suint8 h, idx_suint8 h, ld_suint8 h, sh_suint8 h, sw_suint8 h, h.P, h.oc, h.cl, h.rd, h.ref, strip_P hs, strip_rd hs, strip_ld hs, strip_sl h hs k_suint8, st3, hC0, fold3, hlt, kC, lt1, ixC, ldC, ixW, ldW, w8, hcv, hq, B3s, B3i, nowI, arr_neqC, Int.toNat_natCast, Nat.mul_one]; repeat (refine Vc.mk' ?_; simp only [go_sem, reduceIte, reduceCtorEq, Nat.reduceAdd, Nat.reduceMul, Nat.reduceSub, Nat.reduceLT, Nat.reduceLeDiff, Nat.reduceEqDiff, Int.reduceEq, Int.reduceLT, Int.reduceLE, Int.reduceNe, G15_works, conWorks, G15_three, conThree, G15_send, conSend, G15_tick, conTick, G15_now, conNow, rP, rR, len_suint8 h, idx_suint8 h, ld_suint8 h, sh_suint8 h, sw_suint8 h, h.P, h.oc, h.cl, h.rd, h.ref, strip_P hs, strip_rd hs, strip_ld hs, strip_sl h hs k_suint8, st3, hC0, fold3, hlt, kC, lt1, ixC, ldC, ixW, ldW, w8, hcv, hq, B3s, B3i, nowI, arr_neqC, Int.toNat_natCast, Nat.mul_one]))
              refine .mk (k + 1) hlt (by omega) (SubR.mk' [top, top + 1, top + 2, top + 3, top + 4, top + 5, top + 6, top + 7, top + 8, top + 9, top + 10] hcl (by simp) (by simp) rfl (frSub_ok (by simp [frSub, lkG, ren, renL, renL_set, renL_ints, UpdOk.nil, UpdOk.cons, renOO_some, renO_cells, renO_map, renOO_mkOb, rn_base, rn_add, ren_mkSl, Enc.flat_ren, set_same, set_ne, sets_cons, sets_nil, Keep.set, Keep.setK, Keep.refl, rm_m_int_bool, rm_m_message_Rule, rm_m_pair_bool, rm_m_pair_int, Sc.ren (fun j hj => rn_low hj) hs, hC0, w7, w7', kw, hpI, netUV, netOb, calOb, Fa.planOb, lvI_ren, loI_ren])) (by simp [frSub, lkG, ren, renL, renL_set, renL_ints, UpdOk.nil, UpdOk.cons, renOO_some, renO_cells, renO_map, renOO_mkOb, rn_base, rn_add, ren_mkSl, Enc.flat_ren, set_same, set_ne, sets_cons, sets_nil, Keep.set, Keep.setK, Keep.refl, rm_m_int_bool, rm_m_message_Rule, rm_m_pair_bool, rm_m_pair_int, Sc.ren (fun j hj => rn_low hj) hs, hC0, w7, w7', kw, hpI, netUV, netOb, calOb, Fa.planOb, lvI_ren, loI_ren]) (by simp [frSub, lkG, ren, renL, renL_set, renL_ints, UpdOk.nil, UpdOk.cons, renOO_some, renO_cells, renO_map, renOO_mkOb, rn_base, rn_add, ren_mkSl, Enc.flat_ren, set_same, set_ne, sets_cons, sets_nil, Keep.set, Keep.setK, Keep.refl, rm_m_int_bool, rm_m_message_Rule, rm_m_pair_bool, rm_m_pair_int, Sc.ren (fun j hj => rn_low hj) hs, hC0, w7, w7', kw, hpI, netUV, netOb, calOb, Fa.planOb, lvI_ren, loI_ren]))
            · have hkK : k = kI i W D := by omega
              subst hkK
              have kC : ¬ ((kI i W D : Nat) : Int) < (C.length : Int) := by omega
              have wi : wrapA .i64 ((i : Int) + 1) = (i : Int) + 1 := by rw [wrap64 (by omega) (by omega)]
              refine CW.vc env15_r [0, 1, 4, 5, 6, 7, 8, 9, 11, 12, 13, 15, 24, 34, 40, 53, 67, 81, 108] (by kernel_rfl) ?_
              (simp only [go_sem, reduceIte, reduceCtorEq, Nat.reduceAdd, Nat.reduceMul, Nat.reduceSub, Nat.reduceLT, Nat.reduceLeDiff, Nat.reduceEqDiff, Int.reduceEq, Int.reduceLT, Int.reduceLE, Int.reduceNe, G15_works, conWorks, G15_three, conThree, G15_send, conSend, G15_tick, conTick, G15_now, conNow, rP, rR, len_suint8 h, idx_suint8 h, ld_suint8 h, sh_suint8 h, sw_suint8 h, h.P, h.oc, h.cl, h.rd, h.ref, strip_P hs, strip_rd hs, strip_ld hs, strip_sl h hs k_suint8, st3, hC0, fold3, kC]; repeat (refine Vc.mk' ?_; simp only [go_sem, reduceIte, reduceCtorEq, Nat.reduceAdd, Nat.reduceMul, Nat.reduceSub, Nat.reduceLT, Nat.reduceLeDiff, Nat.reduceEqDiff, Int.reduceEq, Int.reduceLT, Int.reduceLE, Int.reduceNe, G15_works, conWorks, G15_three, conThree, G15_send, conSend, G15_tick, conTick, G15_now, conNow, rP, rR, len_suint8 h, idx_suint8 h, ld_suint8 h, sh_suint8 h, sw_suint8 h, h.P, h.oc, h.cl, h.rd, h.ref, strip_P hs, strip_rd hs, strip_ld hs, strip_sl h hs k_suint8, st3, hC0, fold3, kC]))
              refine .mk (i + 1, ks, W, D + kI i W D) ⟨by show i + 1 ≤ 60; omega, hks, hS.tick hi2⟩ (by show 60 - (i + 1) < 60 - i; omega) (SubR.mk' [top, top + 1, top + 2, top + 3, top + 4, top + 5, top + 6, top + 7, top + 8, top + 9] hcl (by simp) (by simp) rfl (frSub_ok (by simp [frSub, lkG, ren, renL, renL_set, renL_ints, UpdOk.nil, UpdOk.cons, renOO_some, renO_cells, renO_map, renOO_mkOb, rn_base, rn_add, ren_mkSl, Enc.flat_ren, set_same, set_ne, sets_cons, sets_nil, Keep.set, Keep.setK, Keep.refl, rm_m_int_bool, rm_m_message_Rule, rm_m_pair_bool, rm_m_pair_int, Sc.ren (fun j hj => rn_low hj) hs, wi, ei.symm, hpI, netUV, netOb, calOb, Fa.planOb, lvI_ren, loI_ren])) (by simp [frSub, lkG, ren, renL, renL_set, renL_ints, UpdOk.nil, UpdOk.cons, renOO_some, renO_cells, renO_map, renOO_mkOb, rn_base, rn_add, ren_mkSl, Enc.flat_ren, set_same, set_ne, sets_cons, sets_nil, Keep.set, Keep.setK, Keep.refl, rm_m_int_bool, rm_m_message_Rule, rm_m_pair_bool, rm_m_pair_int, Sc.ren (fun j hj => rn_low hj) hs, wi, ei.symm, hpI, netUV, netOb, calOb, Fa.planOb, lvI_ren, loI_ren]) (by simp [frSub, lkG, ren, renL, renL_set, renL_ints, UpdOk.nil, UpdOk.cons, renOO_some, renO_cells, renO_map, renOO_mkOb, rn_base, rn_add, ren_mkSl, Enc.flat_ren, set_same, set_ne, sets_cons, sets_nil, Keep.set, Keep.setK, Keep.refl, rm_m_int_bool, rm_m_message_Rule, rm_m_pair_bool, rm_m_pair_int, Sc.ren (fun j hj => rn_low hj) hs, wi, ei.symm, hpI, netUV, netOb, calOb, Fa.planOb, lvI_ren, loI_ren]))
        have c5' : (W.length : Int) < 200 := by omega
        have wW : wrapA .u8 (W.length : Int) = (W.length : Int) := wrap_id (by simp [IntKind.signed]) (by simp [IntKind.signed, IntKind.bits]; omega)
        have hcv : ∀ {h' : Hp} {b : Nat} {n : Int}, sconvH tt.get (h'.set b (some (.cells true 1 [.int .u8 n]))) 22 9 (.slice (some ⟨b, 0, none⟩) 1 1) = (.string ⟨⟨[UInt8.ofNat n.toNat]⟩⟩, True) := fun {h'} {b} {n} => sconvH_one k_suint8 k_uint8 k_string (set_same ..)
        have A0s : ∀ {o : Option AObj}, netS ((hpI hp top late ks i W D).set (top + 10) o) top = _ := fun {o} => (A0 (o := o)).s
        have A0v : ∀ {o : Option AObj}, netV ((hpI hp top late ks i W D).set (top + 10) o) top = _ := fun {o} => (A0 (o := o)).v
        have A0i : ∀ {o : Option AObj}, IsNet ((hpI hp top late ks i W D).set (top + 10) o) top = True := fun {o} => (A0 (o := o)).is
        have hX := netI_up (late := late) (ks := ks) (now := (i : Int)) (W := W) (D := D) hnl
        have r1 : ∀ {X : Nat}, sendRes top (lvI (top + 8) W D) (netI late ks i W D) 2 3 [UInt8.ofNat W.length] X = (.tuple ⟨[.agg ⟨[.int .i64 1, .int .i64 0, .int .i64 0]⟩, .int .i64 0]⟩, sendU top (lvI (top + 8) W D) (netI late ks i W D) 2 3 [UInt8.ofNat W.length] X, X + 1) := fun {X} => sendRes_ok hX rfl (by decide)
        have ll : (netI late ks i W D).last < 999990 := by show (W.length : Int) < 999990; omega
        by_cases c6 : (k : Int) < wrapA .i64 ((at' l i).tmod 4)
        case neg =>
          have hi2 : ∀ w ∈ W, w < (min (i + 1) l.length : Nat) + late := fun w hw => by have := hS.hi w hw; omega
          have F0 : NetAt (hpI hp top late ks i W D) top (lvI (top + 8) W D) (netI late ks i W D) := fam_net h1 (by omega) (by omega) (by omega) hks hS.srt hS.nl
          have F0s := F0.s
          have F0v := F0.v
          have F0i := F0.is
          have t1 : ∀ {X : Nat}, tickRes top (lvI (top + 8) W D) (netI late ks i W D) X = (mkSl X (tickL (netI late ks i W D)), tickU top (lvI (top + 8) W D) (netI late ks i W D) X, X + 1) := fun {X} => tickRes_ok (by show (i : Int) < 1099511627776; omega)
          have sc0 : Sc (top + 10) (lvI (top + 8) W D) := sc_up F0.W.o lvI_sc (by omega)
          have A1 : NetAt ((hpI hp top late ks i W D).sets (tickU top (lvI (top + 8) W D) (netI late ks i W D) (top + 10))) top (lvI (top + 8) W (D + kI i W D)) (netI late ks ((i : Int) + 1) W (D + kI i W D)) := by
            have := F0.tick (top := top + 10) (by omega) sc0
            rw [netI_tick (by omega), lvI_tick (by omega)] at this
            exact this
          have W1 : ((hpI hp top late ks i W D).sets (tickU top (lvI (top + 8) W D) (netI late ks i W D) (top + 10))) (top + 9) = mkOb e_uint64 W := by
            rw [tickU_off F0.W.o (by omega) (by omega) (by omega) (lvI_off (by omega))]; exact fam_W
          have C10 : ((hpI hp top late ks i W D).sets (tickU top (lvI (top + 8) W D) (netI late ks i W D) (top + 10))) (top + 10) = mkOb e_Arrive (tickL (netI late ks i W D)) := tickU_at (by show (i : Int) < 1099511627776; omega) (by omega) sc0 F0.W.o
          have q8 : ((hpI hp top late ks i W D).sets (tickU top (lvI (top + 8) W D) (netI late ks i W D) (top + 10))) (top + 8) = loI W (D + kI i W D) := by
            by_cases c : W = []
            · rw [tickU_off F0.W.o (by omega) (by omega) (by omega) (by unfold lvI; rw [if_pos c]; trivial)]
              unfold hpI
              rw [sets_app]
              simp [Hp.sets, Hp.set, loI, c]
            · rw [show loI W (D + kI i W D) = ownO e_t124 ((thI W).drop (D + kI i W D)) from if_neg c]
              exact OwnV.at_ A1.W.o (if_neg c)
          have q0 := A1.h
          have q1 := A1.L
          have q2 := A1.C
          have q3 := A1.S
          have q4 := A1.P
          have q5 := A1.M
          have q6 := A1.W.h
          have q7 := A1.R (by simp [netI, net3, net0, R3])
          have kk : ∀ {L : List Nat}, Keep top L ((hpI hp top late ks i W D).sets (tickU top (lvI (top + 8) W D) (netI late ks i W D) (top + 10))) hp = True := fun {L} =>
            keepL (by rw [keep_sets (hi_tick F0.W.o (Nat.le_refl _) (by omega) lvI_hi)]; exact of_eq_true fam_keep)
          have ld1 : sload tt.get (hpI hp top late ks i W D) 5 (ptrS v (i * 1)) = (.int .u8 (at' l i), True) := ld_suint8 (h.keep hs (show Keep top [] (hpI hp top late ks i W D) hp from of_eq_true fam_keep)) c4
          refine CW.vc env15_r [0, 1, 4, 5, 6, 7, 8, 9, 11, 12, 13, 15, 24, 34, 40, 53, 67, 81, 108] (by kernel_rfl) ?_
          have fold : hp.sets (netUV top (netI late ks i W D) (lvI (top + 8) W D) ++ [(top + 8, loI W D), (top + 9, mkOb e_uint64 W)]) = hpI hp top late ks i W D := rfl
          (simp only [go_sem, reduceIte, reduceCtorEq, Nat.reduceAdd, Nat.reduceMul, Nat.reduceSub, Nat.reduceLT, Nat.reduceLeDiff, Nat.reduceEqDiff, Int.reduceEq, Int.reduceLT, Int.reduceLE, Int.reduceNe, G15_works, conWorks, G15_three, conThree, G15_send, conSend, G15_tick, conTick, G15_now, conNow, rP, rR, len_suint8 h, idx_suint8 h, ld_suint8 h, sh_suint8 h, sw_suint8 h, h.P, h.oc, h.cl, h.rd, h.ref, strip_P hs, strip_rd hs, strip_ld hs, strip_sl h hs k_suint8, st2, c4, c4', c6, ld1, fold, F0s, F0v, F0i, t1]; repeat (refine Vc.mk' ?_; simp only [go_sem, reduceIte, reduceCtorEq, Nat.reduceAdd, Nat.reduceMul, Nat.reduceSub, Nat.reduceLT, Nat.reduceLeDiff, Nat.reduceEqDiff, Int.reduceEq, Int.reduceLT, Int.reduceLE, Int.reduceNe, G15_works, conWorks, G15_three, conThree, G15_send, conSend, G15_tick, conTick, G15_now, conNow, rP, rR, len_suint8 h, idx_suint8 h, ld_suint8 h, sh_suint8 h, sw_suint8 h, h.P, h.oc, h.cl, h.rd, h.ref, strip_P hs, strip_rd hs, strip_ld hs, strip_sl h hs k_suint8, st2, c4, c4', c6, ld1, fold, F0s, F0v, F0i, t1]))
          refine CW.loopR (st3 hp top v late i ks W D) (fun k => k ≤ kI i W D) (fun k => kI i W D - k) 0 (Nat.zero_le _) ?_ ?_
          · exact SubR.mk' [top, top + 1, top + 2, top + 3, top + 4, top + 5, top + 6, top + 7, top + 8, top + 9, top + 10] hcl (by simp) (by simp) rfl (frSub_ok (by simp [frSub, lkG, ren, renL, renL_set, renL_ints, UpdOk.nil, UpdOk.cons, renOO_some, renO_cells, renO_map, renOO_mkOb, rn_base, rn_add, ren_mkSl, Enc.flat_ren, set_same, set_ne, sets_cons, sets_nil, Keep.set, Keep.setK, Keep.refl, rm_m_int_bool, rm_m_message_Rule, rm_m_pair_bool, rm_m_pair_int, Sc.ren (fun j hj => rn_low hj) hs, q0, q1, q2, q3, q4, q5, q6, q7, q8, W1, C10, kk, netUV, netOb, calOb, Fa.planOb, lvI_ren, loI_ren])) (by simp [frSub, lkG, ren, renL, renL_set, renL_ints, UpdOk.nil, UpdOk.cons, renOO_some, renO_cells, renO_map, renOO_mkOb, rn_base, rn_add, ren_mkSl, Enc.flat_ren, set_same, set_ne, sets_cons, sets_nil, Keep.set, Keep.setK, Keep.refl, rm_m_int_bool, rm_m_message_Rule, rm_m_pair_bool, rm_m_pair_int, Sc.ren (fun j hj => rn_low hj) hs, q0, q1, q2, q3, q4, q5, q6, q7, q8, W1, C10, kk, netUV, netOb, calOb, Fa.planOb, lvI_ren, loI_ren]) (by simp [frSub, lkG, ren, renL, renL_set, renL_ints, UpdOk.nil, UpdOk.cons, renOO_some, renO_cells, renO_map, renOO_mkOb, rn_base, rn_add, ren_mkSl, Enc.flat_ren, set_same, set_ne, sets_cons, sets_nil, Keep.set, Keep.setK, Keep.refl, rm_m_int_bool, rm_m_message_Rule, rm_m_pair_bool, rm_m_pair_int, Sc.ren (fun j hj => rn_low hj) hs, q0, q1, q2, q3, q4, q5, q6, q7, q8, W1, C10, kk, netUV, netOb, calOb, Fa.planOb, lvI_ren, loI_ren])
          intro k hk
          have hk : k ≤ kI i W D := hk
          have hle := kI_le (i := i) hS.d
          have hnl := hS.nl
          have ei : ((i : Int) + 1 : Int) = ((i + 1 : Nat) : Int) := by omega
          obtain ⟨C, hC0⟩ : ∃ C, tickL (netI late ks i W D) = C := ⟨_, rfl⟩
          have hCl : C.length = kI i W D := by rw [← hC0, netI_out (by omega)]; exact out_len hS.d
          have fold3 : hp.sets (netUV top (netI late ks ((i : Int) + 1) W (D + kI i W D)) (lvI (top + 8) W (D + kI i W D)) ++ [(top + 8, loI W (D + kI i W D)), (top + 9, mkOb e_uint64 W), (top + 10, mkOb e_Arrive C)]) = (hpI hp top late ks ((i : Int) + 1) W (D + kI i W D)).set (top + 10) (mkOb e_Arrive C) := rfl
          have F3 : NetAt (hpI hp top late ks ((i : Int) + 1) W (D + kI i W D)) top (lvI (top + 8) W (D + kI i W D)) (netI late ks ((i : Int) + 1) W (D + kI i W D)) := fam_net h1 (by omega) (by omega) (by omega) hks hS.srt hS.nl
          by_cases hlt : k < kI i W D
          · have hDk : D + k < W.length := by omega
            have lt1 : ((D + k : Nat) : Int) < (W.length : Int) := by omega
            have cq : at' C k = ⟨2, 3, [UInt8.ofNat (D + k)]⟩ := by rw [← hC0, netI_out (by omega)]; exact out_at hS.d hlt
            have hq : decide (at' C k = ⟨2, 3, [UInt8.ofNat (D + k)]⟩) = true := decide_eq_true cq
            have wat : at' W (D + k) = (i : Int) + 1 := by rw [at'_get _ _ hDk]; exact hS.is hDk (by omega) (by omega)
            have hC : SlT e_Arrive ((hpI hp top late ks ((i : Int) + 1) W (D + kI i W D)).set (top + 10) (mkOb e_Arrive C)) (mkSl (top + 10) C) C := .own (set_same ..) (by omega)
            have hkC : k < C.length := by omega
            have ixC : sindexAddr tt.get 34 (mkSl (top + 10) C) (.int .i64 (k : Int)) = (ptrS (mkSl (top + 10) C) (k * 3), True) := by
              have := idx_sArrive hC (k := .i64) (n := (k : Int)) (by omega) (by omega)
              rwa [Int.toNat_natCast] at this
            have ldC := ld_sArrive hC hkC
            have hW : ∀ {o : Option AObj}, SlT e_uint64 (((hpI hp top late ks ((i : Int) + 1) W (D + kI i W D)).set (top + 10) (mkOb e_Arrive C)).set (top + 11) o) (mkSl (top + 9) W) W := fun {o} => .own (by rw [set_ne _ _ _ _ (by omega), set_ne _ _ _ _ (by omega)]; exact fam_W) (by omega)
            have ixW : sindexAddr tt.get 26 (mkSl (top + 9) W) (.int .i64 ((D + k : Nat) : Int)) = (ptrS (mkSl (top + 9) W) ((D + k) * 1), True) := by
              have := idx_suint64 (hW (o := none)) (k := .i64) (n := ((D + k : Nat) : Int)) (by omega) (by omega)
              rwa [Int.toNat_natCast] at this
            have ldW : ∀ {o : Option AObj}, sload tt.get (((hpI hp top late ks ((i : Int) + 1) W (D + kI i W D)).set (top + 10) (mkOb e_Arrive C)).set (top + 11) o) 32 (ptrS (mkSl (top + 9) W) ((D + k) * 1)) = (.int .u64 ((i : Int) + 1), True) := fun {o} => by
              have := ld_suint64 (hW (o := o)) hDk
              rwa [wat] at this
            rw [Nat.mul_one] at ixW
            simp only [Nat.mul_one] at ldW
            have w8 : wrapA .u8 ((D + k : Nat) : Int) = ((D + k : Nat) : Int) := wrap_id (by simp [IntKind.signed]; omega) (by simp [IntKind.signed, IntKind.bits]; omega)
            have hcv : ∀ {h' : Hp} {b : Nat} {n : Int}, sconvH tt.get (h'.set b (some (.cells true 1 [.int .u8 n]))) 22 9 (.slice (some ⟨b, 0, none⟩) 1 1) = (.string ⟨⟨[UInt8.ofNat n.toNat]⟩⟩, True) := fun {h'} {b} {n} => sconvH_one k_suint8 k_uint8 k_string (set_same ..)
            have B3 : ∀ {o : Option AObj}, NetAt (((hpI hp top late ks ((i : Int) + 1) W (D + kI i W D)).set (top + 10) (mkOb e_Arrive C)).set (top + 11) o) top _ _ := fun {o} => F3.stay (top := top + 10) (by omega) (sc_up F3.W.o lvI_sc (by omega)) (by rw [Keep.set (by omega), Keep.set (by omega), Keep.refl]; trivial)
            have B3s : ∀ {o : Option AObj}, netS (((hpI hp top late ks ((i : Int) + 1) W (D + kI i W D)).set (top + 10) (mkOb e_Arrive C)).set (top + 11) o) top = _ := fun {o} => (B3 (o := o)).s
            have B3i : ∀ {o : Option AObj}, IsNet (((hpI hp top late ks ((i : Int) + 1) W (D + kI i W D)).set (top + 10) (mkOb e_Arrive C)).set (top + 11) o) top = True := fun {o} => (B3 (o := o)).is
            have w7 : wrapA .i64 (((D + k : Nat) : Int) + 1) = ((D + (k + 1) : Nat) : Int) := by rw [wrap64 (by omega) (by omega)]; omega
            have w7' : wrapA .i64 ((D : Int) + (k : Int) + 1) = (D : Int) + ((k : Int) + 1) := by rw [wrap64 (by omega) (by omega)]; omega
            have kw : wrapA .i64 ((k : Int) + 1) = ((k + 1 : Nat) : Int) := by rw [wrap64 (by omega) (by omega)]; omega
            have kC : (k : Int) < (C.length : Int) := by omega
            refine CW.vc env15_r [0, 1, 4, 5, 6, 7, 8, 9, 11, 12, 13, 15, 24, 34, 40, 53, 67, 81, 108] (by kernel_rfl) ?_
            (simp only [go_sem, reduceIte, reduceCtorEq, Nat.reduceAdd, Nat.reduceMul, Nat.reduceSub, Nat.reduceLT, Nat.reduceLeDiff, Nat.reduceEqDiff, Int.reduceEq, Int.reduceLT, Int.reduceLE, Int.reduceNe, G15_works, conWorks, G15_three, conThree, G15_send, conSend, G15_tick, conTick, G15_now, conNow, rP, rR, len_suint8 h, idx_suint8 h, ld_suint8 h, sh_suint8 h, sw_suint8 h, h.P, h.oc, h.cl, h.rd, h.ref, strip_P hs, strip_rd hs, strip_ld hs, strip_sl h hs k_suint8, st3, hC0, fold3, hlt, kC, lt1, ixC, ldC, ixW, ldW, w8, hcv, hq, B3s, B3i, nowI, arr_neqC, Int.toNat_natCast, Nat.mul_one]; repeat (refine Vc.mk' ?_; simp only [go_sem, reduceIte, reduceCtorEq, Nat.reduceAdd, Nat.reduceMul, Nat.reduceSub, Nat.reduceLT, Nat.reduceLeDiff, Nat.reduceEqDiff, Int.reduceEq, Int.reduceLT, Int.reduceLE, Int.reduceNe, G15_works, conWorks, G15_three, conThree, G15_send, conSend, G15_tick, conTick, G15_now, conNow, rP, rR, len_suint8 h, idx_suint8 h, ld_suint8 h, sh_suint8 h, sw_suint8 h, h.P, h.oc, h.cl, h.rd, h.ref, strip_P hs, strip_rd hs, strip_ld hs, strip_sl h hs k_suint8, st3, hC0, fold3, hlt, kC, lt1, ixC, ldC, ixW, ldW, w8, hcv, hq, B3s, B3i, nowI, arr_neqC, Int.toNat_natCast, Nat.mul_one]))
            refine .mk (k + 1) hlt (by omega) (SubR.mk' [top, top + 1, top + 2, top + 3, top + 4, top + 5, top + 6, top + 7, top + 8, top + 9, top + 10] hcl (by simp) (by simp) rfl (frSub_ok (by simp [frSub, lkG, ren, renL, renL_set, renL_ints, UpdOk.nil, UpdOk.cons, renOO_some, renO_cells, renO_map, renOO_mkOb, rn_base, rn_add, ren_mkSl, Enc.flat_ren, set_same, set_ne, sets_cons, sets_nil, Keep.set, Keep.setK, Keep.refl, rm_m_int_bool, rm_m_message_Rule, rm_m_pair_bool, rm_m_pair_int, Sc.ren (fun j hj => rn_low hj) hs, hC0, w7, w7', kw, hpI, netUV, netOb, calOb, Fa.planOb, lvI_ren, loI_ren])) (by simp [frSub, lkG, ren, renL, renL_set, renL_ints, UpdOk.nil, UpdOk.cons, renOO_some, renO_cells, renO_map, renOO_mkOb, rn_base, rn_add, ren_mkSl, Enc.flat_ren, set_same, set_ne, sets_cons, sets_nil, Keep.set, Keep.setK, Keep.refl, rm_m_int_bool, rm_m_message_Rule, rm_m_pair_bool, rm_m_pair_int, Sc.ren (fun j hj => rn_low hj) hs, hC0, w7, w7', kw, hpI, netUV, netOb, calOb, Fa.planOb, lvI_ren, loI_ren]) (by simp [frSub, lkG, ren, renL, renL_set, renL_ints, UpdOk.nil, UpdOk.cons, renOO_some, renO_cells, renO_map, renOO_mkOb, rn_base, rn_add, ren_mkSl, Enc.flat_ren, set_same, set_ne, sets_cons, sets_nil, Keep.set, Keep.setK, Keep.refl, rm_m_int_bool, rm_m_message_Rule, rm_m_pair_bool, rm_m_pair_int, Sc.ren (fun j hj => rn_low hj) hs, hC0, w7, w7', kw, hpI, netUV, netOb, calOb, Fa.planOb, lvI_ren, loI_ren]))
          · have hkK : k = kI i W D := by omega
            subst hkK
            have kC : ¬ ((kI i W D : Nat) : Int) < (C.length : Int) := by omega
            have wi : wrapA .i64 ((i : Int) + 1) = (i : Int) + 1 := by rw [wrap64 (by omega) (by omega)]
            refine CW.vc env15_r [0, 1, 4, 5, 6, 7, 8, 9, 11, 12, 13, 15, 24, 34, 40, 53, 67, 81, 108] (by kernel_rfl) ?_
            (simp only [go_sem, reduceIte, reduceCtorEq, Nat.reduceAdd, Nat.reduceMul, Nat.reduceSub, Nat.reduceLT, Nat.reduceLeDiff, Nat.reduceEqDiff, Int.reduceEq, Int.reduceLT, Int.reduceLE, Int.reduceNe, G15_works, conWorks, G15_three, conThree, G15_send, conSend, G15_tick, conTick, G15_now, conNow, rP, rR, len_suint8 h, idx_suint8 h, ld_suint8 h, sh_suint8 h, sw_suint8 h, h.P, h.oc, h.cl, h.rd, h.ref, strip_P hs, strip_rd hs, strip_ld hs, strip_sl h hs k_suint8, st3, hC0, fold3, kC]; repeat (refine Vc.mk' ?_; simp only [go_sem, reduceIte, reduceCtorEq, Nat.reduceAdd, Nat.reduceMul, Nat.reduceSub, Nat.reduceLT, Nat.reduceLeDiff, Nat.reduceEqDiff, Int.reduceEq, Int.reduceLT, Int.reduceLE, Int.reduceNe, G15_works, conWorks, G15_three, conThree, G15_send, conSend, G15_tick, conTick, G15_now, conNow, rP, rR, len_suint8 h, idx_suint8 h, ld_suint8 h, sh_suint8 h, sw_suint8 h, h.P, h.oc, h.cl, h.rd, h.ref, strip_P hs, strip_rd hs, strip_ld hs, strip_sl h hs k_suint8, st3, hC0, fold3, kC]))
            refine .mk (i + 1, ks, W, D + kI i W D) ⟨by show i + 1 ≤ 60; omega, hks, hS.tick hi2⟩ (by show 60 - (i + 1) < 60 - i; omega) (SubR.mk' [top, top + 1, top + 2, top + 3, top + 4, top + 5, top + 6, top + 7, top + 8, top + 9] hcl (by simp) (by simp) rfl (frSub_ok (by simp [frSub, lkG, ren, renL, renL_set, renL_ints, UpdOk.nil, UpdOk.cons, renOO_some, renO_cells, renO_map, renOO_mkOb, rn_base, rn_add, ren_mkSl, Enc.flat_ren, set_same, set_ne, sets_cons, sets_nil, Keep.set, Keep.setK, Keep.refl, rm_m_int_bool, rm_m_message_Rule, rm_m_pair_bool, rm_m_pair_int, Sc.ren (fun j hj => rn_low hj) hs, wi, ei.symm, hpI, netUV, netOb, calOb, Fa.planOb, lvI_ren, loI_ren])) (by simp [frSub, lkG, ren, renL, renL_set, renL_ints, UpdOk.nil, UpdOk.cons, renOO_some, renO_cells, renO_map, renOO_mkOb, rn_base, rn_add, ren_mkSl, Enc.flat_ren, set_same, set_ne, sets_cons, sets_nil, Keep.set, Keep.setK, Keep.refl, rm_m_int_bool, rm_m_message_Rule, rm_m_pair_bool, rm_m_pair_int, Sc.ren (fun j hj => rn_low hj) hs, wi, ei.symm, hpI, netUV, netOb, calOb, Fa.planOb, lvI_ren, loI_ren]) (by simp [frSub, lkG, ren, renL, renL_set, renL_ints, UpdOk.nil, UpdOk.cons, renOO_some, renO_cells, renO_map, renOO_mkOb, rn_base, rn_add, ren_mkSl, Enc.flat_ren, set_same, set_ne, sets_cons, sets_nil, Keep.set, Keep.setK, Keep.refl, rm_m_int_bool, rm_m_message_Rule, rm_m_pair_bool, rm_m_pair_int, Sc.ren (fun j hj => rn_low hj) hs, wi, ei.symm, hpI, netUV, netOb, calOb, Fa.planOb, lvI_ren, loI_ren]))
        have o0 : ∀ {o : Option AObj}, OwnV e_t124 ((hpI hp top late ks i W D).set (top + 10) o) (lvI (top + 8) W D) (netI late ks i W D).l := fun {o} => (A0 (o := o)).W.o
        have es := netI_send (late := late) (ks := ks) (now := (i : Int)) (W := W) (D := D) hnl hS.d hS.hi (by omega) (by omega)
        have A1 : ∀ {o : Option AObj}, NetAt (((hpI hp top late ks i W D).set (top + 10) o).sets (sendU top (lvI (top + 8) W D) (netI late ks i W D) 2 3 [UInt8.ofNat W.length] (top + 11))) top (lvI (top + 11) (W ++ [(i : Int) + late]) D) (netI late (ksI ks) i (W ++ [(i : Int) + late]) D) := fun {o} => by
          have := (A0 (o := o)).send (top := top + 11) (by omega) (sc_up (o0 (o := o)) lvI_sc (by omega)) ll 2 3 [UInt8.ofNat W.length]
          rw [es, lvI_send (w := (i : Int) + late) hnl hS.d] at this
          exact this
        have S11 : Sc (top + 12) (lvI (top + 11) (W ++ [(i : Int) + late]) D) := by rw [lvI_app]; exact Nat.lt_succ_self (top + 11)
        have B1 : ∀ {o p : Option AObj}, NetAt ((((hpI hp top late ks i W D).set (top + 10) o).sets (sendU top (lvI (top + 8) W D) (netI late ks i W D) 2 3 [UInt8.ofNat W.length] (top + 11))).set (top + 12) p) top _ _ := fun {o p} => (A1 (o := o)).stay (top := top + 12) (by omega) S11 (by rw [Keep.set (by omega), Keep.refl]; trivial)
        have B1s : ∀ {o p : Option AObj}, netS ((((hpI hp top late ks i W D).set (top + 10) o).sets (sendU top (lvI (top + 8) W D) (netI late ks i W D) 2 3 [UInt8.ofNat W.length] (top + 11))).set (top + 12) p) top = _ := fun {o p} => (B1 (o := o) (p := p)).s
        have B1i : ∀ {o p : Option AObj}, IsNet ((((hpI hp top late ks i W D).set (top + 10) o).sets (sendU top (lvI (top + 8) W D) (netI late ks i W D) 2 3 [UInt8.ofNat W.length] (top + 11))).set (top + 12) p) top = True := fun {o p} => (B1 (o := o) (p := p)).is
        have W1 : ∀ {o : Option AObj}, (((hpI hp top late ks i W D).set (top + 10) o).sets (sendU top (lvI (top + 8) W D) (netI late ks i W D) 2 3 [UInt8.ofNat W.length] (top + 11))) (top + 9) = mkOb e_uint64 W := fun {o} => by
          rw [sendU_off (o0 (o := o)) (by omega) (by omega) (by omega) (by omega) (lvI_off (by omega)), set_ne _ _ _ _ (by omega)]; exact fam_W
        have h16 : W.length < 16777216 := by omega
        have wl : wrapA .u64 late = late := wrapU (by omega) (by omega)
        have wiL : wrapA .u64 ((i : Int) + late) = (i : Int) + late := wrapU (by omega) (by omega)
        have kw : wrapA .i64 ((k : Int) + 1) = ((k + 1 : Nat) : Int) := by
          have a1 : -4 < (at' l i).tmod 4 := Int.lt_tmod_of_pos _ (by decide)
          have a2 : (at' l i).tmod 4 < 4 := Int.tmod_lt_of_pos _ (by decide)
          have e1 : wrapA .i64 ((at' l i).tmod 4) = (at' l i).tmod 4 := wrap64 (by omega) (by omega)
          rw [e1] at c6
          rw [wrap64 (by omega) (by omega)]; omega
        have kk : ∀ {o : Option AObj} {L : List Nat}, Keep top L (((hpI hp top late ks i W D).set (top + 10) o).sets (sendU top (lvI (top + 8) W D) (netI late ks i W D) 2 3 [UInt8.ofNat W.length] (top + 11))) hp = True := fun {o} {L} =>
          keepL (by rw [keep_sets (hi_send (o0 (o := o)) (Nat.le_refl _) (by omega) lvI_hi), Keep.set (by omega)]; exact of_eq_true fam_keep)
        have q0 : ∀ {o : Option AObj}, _ := fun {o} => (A1 (o := o)).h
        have q1 : ∀ {o : Option AObj}, _ := fun {o} => (A1 (o := o)).L
        have q2 : ∀ {o : Option AObj}, _ := fun {o} => (A1 (o := o)).C
        have q3 : ∀ {o : Option AObj}, _ := fun {o} => (A1 (o := o)).S
        have q4 : ∀ {o : Option AObj}, _ := fun {o} => (A1 (o := o)).P
        have q5 : ∀ {o : Option AObj}, _ := fun {o} => (A1 (o := o)).M
        have q6 : ∀ {o : Option AObj}, _ := fun {o} => (A1 (o := o)).W.h
        have q7 : ∀ {o : Option AObj}, _ := fun {o} => (A1 (o := o)).R (by simp [netI, net3, net0, R3])
        have q8 : ∀ {o : Option AObj}, (((hpI hp top late ks i W D).set (top + 10) o).sets (sendU top (lvI (top + 8) W D) (netI late ks i W D) 2 3 [UInt8.ofNat W.length] (top + 11))) (top + 11) = loI (W ++ [(i : Int) + late]) D := fun {o} => by
          rw [loI_app]; exact OwnV.at_ (A1 (o := o)).W.o lvI_app
        refine CW.vc env15_r [0, 1, 4, 5, 6, 7, 8, 9, 11, 12, 13, 15, 24, 34, 40, 53, 67, 81, 108] (by kernel_rfl) ?_
        have fold : hp.sets (netUV top (netI late ks i W D) (lvI (top + 8) W D) ++ [(top + 8, loI W D), (top + 9, mkOb e_uint64 W)]) = hpI hp top late ks i W D := rfl
        have ld1 : sload tt.get (hpI hp top late ks i W D) 5 (ptrS v (i * 1)) = (.int .u8 (at' l i), True) := ld_suint8 (h.keep hs (show Keep top [] (hpI hp top late ks i W D) hp from of_eq_true fam_keep)) c4
        (simp only [go_sem, reduceIte, reduceCtorEq, Nat.reduceAdd, Nat.reduceMul, Nat.reduceSub, Nat.reduceLT, Nat.reduceLeDiff, Nat.reduceEqDiff, Int.reduceEq, Int.reduceLT, Int.reduceLE, Int.reduceNe, G15_works, conWorks, G15_three, conThree, G15_send, conSend, G15_tick, conTick, G15_now, conNow, rP, rR, len_suint8 h, idx_suint8 h, ld_suint8 h, sh_suint8 h, sw_suint8 h, h.P, h.oc, h.cl, h.rd, h.ref, strip_P hs, strip_rd hs, strip_ld hs, strip_sl h hs k_suint8, st2, c4, c4', c5', fold, hcv, wW, A0s, A0v, A0i, r1, ll, ld1, c6, Int.toNat_natCast, B1s, B1i, W1, h16, wl, wiL, nowI]; repeat (refine Vc.mk' ?_; simp only [go_sem, reduceIte, reduceCtorEq, Nat.reduceAdd, Nat.reduceMul, Nat.reduceSub, Nat.reduceLT, Nat.reduceLeDiff, Nat.reduceEqDiff, Int.reduceEq, Int.reduceLT, Int.reduceLE, Int.reduceNe, G15_works, conWorks, G15_three, conThree, G15_send, conSend, G15_tick, conTick, G15_now, conNow, rP, rR, len_suint8 h, idx_suint8 h, ld_suint8 h, sh_suint8 h, sw_suint8 h, h.P, h.oc, h.cl, h.rd, h.ref, strip_P hs, strip_rd hs, strip_ld hs, strip_sl h hs k_suint8, st2, c4, c4', c5', fold, hcv, wW, A0s, A0v, A0i, r1, ll, ld1, c6, Int.toNat_natCast, B1s, B1i, W1, h16, wl, wiL, nowI]))
        refine .mk (k + 1, ksI ks, W ++ [(i : Int) + late]) ⟨by show (ksI ks).length = 625; unfold ksI; simp [hks], hS.add h1 c5⟩ (by show 200 - (W ++ [(i : Int) + late]).length < 200 - W.length; simp; omega) (SubR.mk' [top, top + 1, top + 2, top + 3, top + 4, top + 5, top + 6, top + 7, top + 11, top + 14] hcl (by simp) (by simp) rfl (frSub_ok (by simp [frSub, lkG, ren, renL, renL_set, renL_ints, UpdOk.nil, UpdOk.cons, renOO_some, renO_cells, renO_map, renOO_mkOb, rn_base, rn_add, ren_mkSl, Enc.flat_ren, set_same, set_ne, sets_cons, sets_nil, Keep.set, Keep.setK, Keep.refl, rm_m_int_bool, rm_m_message_Rule, rm_m_pair_bool, rm_m_pair_int, Sc.ren (fun j hj => rn_low hj) hs, q0, q1, q2, q3, q4, q5, q6, q7, q8, W1, kw, kk, netUV, netOb, calOb, Fa.planOb, lvI_ren, loI_ren])) (by simp [frSub, lkG, ren, renL, renL_set, renL_ints, UpdOk.nil, UpdOk.cons, renOO_some, renO_cells, renO_map, renOO_mkOb, rn_base, rn_add, ren_mkSl, Enc.flat_ren, set_same, set_ne, sets_cons, sets_nil, Keep.set, Keep.setK, Keep.refl, rm_m_int_bool, rm_m_message_Rule, rm_m_pair_bool, rm_m_pair_int, Sc.ren (fun j hj => rn_low hj) hs, q0, q1, q2, q3, q4, q5, q6, q7, q8, W1, kw, kk, netUV, netOb, calOb, Fa.planOb, lvI_ren, loI_ren]) (by simp [frSub, lkG, ren, renL, renL_set, renL_ints, UpdOk.nil, UpdOk.cons, renOO_some, renO_cells, renO_map, renOO_mkOb, rn_base, rn_add, ren_mkSl, Enc.flat_ren, set_same, set_ne, sets_cons, sets_nil, Keep.set, Keep.setK, Keep.refl, rm_m_int_bool, rm_m_message_Rule, rm_m_pair_bool, rm_m_pair_int, Sc.ren (fun j hj => rn_low hj) hs, q0, q1, q2, q3, q4, q5, q6, q7, q8, W1, kw, kk, netUV, netOb, calOb, Fa.planOb, lvI_ren, loI_ren]))
    · have c4' : ¬ (i : Int) < (l.length : Int) := by omega
      have hS := hI.s
      have hi2 : ∀ w ∈ W, w < (min (i + 1) l.length : Nat) + late := fun w hw => by have := hI.hi w hw; omega
      have F0 : NetAt (hpI hp top late ks i W D) top (lvI (top + 8) W D) (netI late ks i W D) := fam_net h1 (by omega) (by omega) (by omega) hks hS.srt hS.nl
      have F0s := F0.s
      have F0v := F0.v
      have F0i := F0.is
      have t1 : ∀ {X : Nat}, tickRes top (lvI (top + 8) W D) (netI late ks i W D) X = (mkSl X (tickL (netI late ks i W D)), tickU top (lvI (top + 8) W D) (netI late ks i W D) X, X + 1) := fun {X} => tickRes_ok (by show (i : Int) < 1099511627776; omega)
      have sc0 : Sc (top + 10) (lvI (top + 8) W D) := sc_up F0.W.o lvI_sc (by omega)
      have A1 : NetAt ((hpI hp top late ks i W D).sets (tickU top (lvI (top + 8) W D) (netI late ks i W D) (top + 10))) top (lvI (top + 8) W (D + kI i W D)) (netI late ks ((i : Int) + 1) W (D + kI i W D)) := by
        have := F0.tick (top := top + 10) (by omega) sc0
        rw [netI_tick (by omega), lvI_tick (by omega)] at this
        exact this
      have W1 : ((hpI hp top late ks i W D).sets (tickU top (lvI (top + 8) W D) (netI late ks i W D) (top + 10))) (top + 9) = mkOb e_uint64 W := by
        rw [tickU_off F0.W.o (by omega) (by omega) (by omega) (lvI_off (by omega))]; exact fam_W
      have C10 : ((hpI hp top late ks i W D).sets (tickU top (lvI (top + 8) W D) (netI late ks i W D) (top + 10))) (top + 10) = mkOb e_Arrive (tickL (netI late ks i W D)) := tickU_at (by show (i : Int) < 1099511627776; omega) (by omega) sc0 F0.W.o
      have q8 : ((hpI hp top late ks i W D).sets (tickU top (lvI (top + 8) W D) (netI late ks i W D) (top + 10))) (top + 8) = loI W (D + kI i W D) := by
        by_cases c : W = []
        · rw [tickU_off F0.W.o (by omega) (by omega) (by omega) (by unfold lvI; rw [if_pos c]; trivial)]
          unfold hpI
          rw [sets_app]
          simp [Hp.sets, Hp.set, loI, c]
        · rw [show loI W (D + kI i W D) = ownO e_t124 ((thI W).drop (D + kI i W D)) from if_neg c]
          exact OwnV.at_ A1.W.o (if_neg c)
      have q0 := A1.h
      have q1 := A1.L
      have q2 := A1.C
      have q3 := A1.S
      have q4 := A1.P
      have q5 := A1.M
      have q6 := A1.W.h
      have q7 := A1.R (by simp [netI, net3, net0, R3])
      have kk : ∀ {L : List Nat}, Keep top L ((hpI hp top late ks i W D).sets (tickU top (lvI (top + 8) W D) (netI late ks i W D) (top + 10))) hp = True := fun {L} =>
        keepL (by rw [keep_sets (hi_tick F0.W.o (Nat.le_refl _) (by omega) lvI_hi)]; exact of_eq_true fam_keep)
      refine CW.vc env15_r [0, 1, 4, 5, 6, 7, 8, 9, 11, 12, 13, 15, 24, 34, 40, 53, 67, 81, 108] (by kernel_rfl) ?_
      have fold : hp.sets (netUV top (netI late ks i W D) (lvI (top + 8) W D) ++ [(top + 8, loI W D), (top + 9, mkOb e_uint64 W)]) = hpI hp top late ks i W D := rfl
      (simp only [go_sem, reduceIte, reduceCtorEq, Nat.reduceAdd, Nat.reduceMul, Nat.reduceSub, Nat.reduceLT, Nat.reduceLeDiff, Nat.reduceEqDiff, Int.reduceEq, Int.reduceLT, Int.reduceLE, Int.reduceNe, G15_works, conWorks, G15_three, conThree, G15_send, conSend, G15_tick, conTick, G15_now, conNow, rP, rR, len_suint8 h, idx_suint8 h, ld_suint8 h, sh_suint8 h, sw_suint8 h, h.P, h.oc, h.cl, h.rd, h.ref, strip_P hs, strip_rd hs, strip_ld hs, strip_sl h hs k_suint8, st1, wln, c1, c2', c4', fold, F0s, F0v, F0i, t1]; repeat (refine Vc.mk' ?_; simp only [go_sem, reduceIte, reduceCtorEq, Nat.reduceAdd, Nat.reduceMul, Nat.reduceSub, Nat.reduceLT, Nat.reduceLeDiff, Nat.reduceEqDiff, Int.reduceEq, Int.reduceLT, Int.reduceLE, Int.reduceNe, G15_works, conWorks, G15_three, conThree, G15_send, conSend, G15_tick, conTick, G15_now, conNow, rP, rR, len_suint8 h, idx_suint8 h, ld_suint8 h, sh_suint8 h, sw_suint8 h, h.P, h.oc, h.cl, h.rd, h.ref, strip_P hs, strip_rd hs, strip_ld hs, strip_sl h hs k_suint8, st1, wln, c1, c2', c4', fold, F0s, F0v, F0i, t1]))
      refine CW.loopR (st3 hp top v late i ks W D) (fun k => k ≤ kI i W D) (fun k => kI i W D - k) 0 (Nat.zero_le _) ?_ ?_
      · exact SubR.mk' [top, top + 1, top + 2, top + 3, top + 4, top + 5, top + 6, top + 7, top + 8, top + 9, top + 10] hcl (by simp) (by simp) rfl (frSub_ok (by simp [frSub, lkG, ren, renL, renL_set, renL_ints, UpdOk.nil, UpdOk.cons, renOO_some, renO_cells, renO_map, renOO_mkOb, rn_base, rn_add, ren_mkSl, Enc.flat_ren, set_same, set_ne, sets_cons, sets_nil, Keep.set, Keep.setK, Keep.refl, rm_m_int_bool, rm_m_message_Rule, rm_m_pair_bool, rm_m_pair_int, Sc.ren (fun j hj => rn_low hj) hs, q0, q1, q2, q3, q4, q5, q6, q7, q8, W1, C10, kk, netUV, netOb, calOb, Fa.planOb, lvI_ren, loI_ren])) (by simp [frSub, lkG, ren, renL, renL_set, renL_ints, UpdOk.nil, UpdOk.cons, renOO_some, renO_cells, renO_map, renOO_mkOb, rn_base, rn_add, ren_mkSl, Enc.flat_ren, set_same, set_ne, sets_cons, sets_nil, Keep.set, Keep.setK, Keep.refl, rm_m_int_bool, rm_m_message_Rule, rm_m_pair_bool, rm_m_pair_int, Sc.ren (fun j hj => rn_low hj) hs, q0, q1, q2, q3, q4, q5, q6, q7, q8, W1, C10, kk, netUV, netOb, calOb, Fa.planOb, lvI_ren, loI_ren]) (by simp [frSub, lkG, ren, renL, renL_set, renL_ints, UpdOk.nil, UpdOk.cons, renOO_some, renO_cells, renO_map, renOO_mkOb, rn_base, rn_add, ren_mkSl, Enc.flat_ren, set_same, set_ne, sets_cons, sets_nil, Keep.set, Keep.setK, Keep.refl, rm_m_int_bool, rm_m_message_Rule, rm_m_pair_bool, rm_m_pair_int, Sc.ren (fun j hj => rn_low hj) hs, q0, q1, q2, q3, q4, q5, q6, q7, q8, W1, C10, kk, netUV, netOb, calOb, Fa.planOb, lvI_ren, loI_ren])
      intro k hk
      have hk : k ≤ kI i W D := hk
      have hle := kI_le (i := i) hS.d
      have hnl := hS.nl
      have ei : ((i : Int) + 1 : Int) = ((i + 1 : Nat) : Int) := by omega
      obtain ⟨C, hC0⟩ : ∃ C, tickL (netI late ks i W D) = C := ⟨_, rfl⟩
      have hCl : C.length = kI i W D := by rw [← hC0, netI_out (by omega)]; exact out_len hS.d
      have fold3 : hp.sets (netUV top (netI late ks ((i : Int) + 1) W (D + kI i W D)) (lvI (top + 8) W (D + kI i W D)) ++ [(top + 8, loI W (D + kI i W D)), (top + 9, mkOb e_uint64 W), (top + 10, mkOb e_Arrive C)]) = (hpI hp top late ks ((i : Int) + 1) W (D + kI i W D)).set (top + 10) (mkOb e_Arrive C) := rfl
      have F3 : NetAt (hpI hp top late ks ((i : Int) + 1) W (D + kI i W D)) top (lvI (top + 8) W (D + kI i W D)) (netI late ks ((i : Int) + 1) W (D + kI i W D)) := fam_net h1 (by omega) (by omega) (by omega) hks hS.srt hS.nl
      by_cases hlt : k < kI i W D
      · have hDk : D + k < W.length := by omega
        have lt1 : ((D + k : Nat) : Int) < (W.length : Int) := by omega
        have cq : at' C k = ⟨2, 3, [UInt8.ofNat (D + k)]⟩ := by rw [← hC0, netI_out (by omega)]; exact out_at hS.d hlt
        have hq : decide (at' C k = ⟨2, 3, [UInt8.ofNat (D + k)]⟩) = true := decide_eq_true cq
        have wat : at' W (D + k) = (i : Int) + 1 := by rw [at'_get _ _ hDk]; exact hS.is hDk (by omega) (by omega)
        have hC : SlT e_Arrive ((hpI hp top late ks ((i : Int) + 1) W (D + kI i W D)).set (top + 10) (mkOb e_Arrive C)) (mkSl (top + 10) C) C := .own (set_same ..) (by omega)
        have hkC : k < C.length := by omega
        have ixC : sindexAddr tt.get 34 (mkSl (top + 10) C) (.int .i64 (k : Int)) = (ptrS (mkSl (top + 10) C) (k * 3), True) := by
          have := idx_sArrive hC (k := .i64) (n := (k : Int)) (by omega) (by omega)
          rwa [Int.toNat_natCast] at this
        have ldC := ld_sArrive hC hkC
        have hW : ∀ {o : Option AObj}, SlT e_uint64 (((hpI hp top late ks ((i : Int) + 1) W (D + kI i W D)).set (top + 10) (mkOb e_Arrive C)).set (top + 11) o) (mkSl (top + 9) W) W := fun {o} => .own (by rw [set_ne _ _ _ _ (by omega), set_ne _ _ _ _ (by omega)]; exact fam_W) (by omega)
        have ixW : sindexAddr tt.get 26 (mkSl (top + 9) W) (.int .i64 ((D + k : Nat) : Int)) = (ptrS (mkSl (top + 9) W) ((D + k) * 1), True) := by
          have := idx_suint64 (hW (o := none)) (k := .i64) (n := ((D + k : Nat) : Int)) (by omega) (by omega)
          rwa [Int.toNat_natCast] at this
        have ldW : ∀ {o : Option AObj}, sload tt.get (((hpI hp top late ks ((i : Int) + 1) W (D + kI i W D)).set (top + 10) (mkOb e_Arrive C)).set (top + 11) o) 32 (ptrS (mkSl (top + 9) W) ((D + k) * 1)) = (.int .u64 ((i : Int) + 1), True) := fun {o} => by
          have := ld_suint64 (hW (o := o)) hDk
          rwa [wat] at this
        rw [Nat.mul_one] at ixW
        simp only [Nat.mul_one] at ldW
        have w8 : wrapA .u8 ((D + k : Nat) : Int) = ((D + k : Nat) : Int) := wrap_id (by simp [IntKind.signed]; omega) (by simp [IntKind.signed, IntKind.bits]; omega)
        have hcv : ∀ {h' : Hp} {b : Nat} {n : Int}, sconvH tt.get (h'.set b (some (.cells true 1 [.int .u8 n]))) 22 9 (.slice (some ⟨b, 0, none⟩) 1 1) = (.string ⟨⟨[UInt8.ofNat n.toNat]⟩⟩, True) := fun {h'} {b} {n} => sconvH_one k_suint8 k_uint8 k_string (set_same ..)
        have B3 : ∀ {o : Option AObj}, NetAt (((hpI hp top late ks ((i : Int) + 1) W (D + kI i W D)).set (top + 10) (mkOb e_Arrive C)).set (top + 11) o) top _ _ := fun {o} => F3.stay (top := top + 10) (by omega) (sc_up F3.W.o lvI_sc (by omega)) (by rw [Keep.set (by omega), Keep.set (by omega), Keep.refl]; trivial)
        have B3s : ∀ {o : Option AObj}, netS (((hpI hp top late ks ((i : Int) + 1) W (D + kI i W D)).set (top + 10) (mkOb e_Arrive C)).set (top + 11) o) top = _ := fun {o} => (B3 (o := o)).s
        have B3i : ∀ {o : Option AObj}, IsNet (((hpI hp top late ks ((i : Int) + 1) W (D + kI i W D)).set (top + 10) (mkOb e_Arrive C)).set (top + 11) o) top = True := fun {o} => (B3 (o := o)).is
        have w7 : wrapA .i64 (((D + k : Nat) : Int) + 1) = ((D + (k + 1) : Nat) : Int) := by rw [wrap64 (by omega) (by omega)]; omega
        have w7' : wrapA .i64 ((D : Int) + (k : Int) + 1) = (D : Int) + ((k : Int) + 1) := by rw [wrap64 (by omega) (by omega)]; omega
        have kw : wrapA .i64 ((k : Int) + 1) = ((k + 1 : Nat) : Int) := by rw [wrap64 (by omega) (by omega)]; omega
        have kC : (k : Int) < (C.length : Int) := by omega
        refine CW.vc env15_r [0, 1, 4, 5, 6, 7, 8, 9, 11, 12, 13, 15, 24, 34, 40, 53, 67, 81, 108] (by kernel_rfl) ?_
        (simp only [go_sem, reduceIte, reduceCtorEq, Nat.reduceAdd, Nat.reduceMul, Nat.reduceSub, Nat.reduceLT, Nat.reduceLeDiff, Nat.reduceEqDiff, Int.reduceEq, Int.reduceLT, Int.reduceLE, Int.reduceNe, G15_works, conWorks, G15_three, conThree, G15_send, conSend, G15_tick, conTick, G15_now, conNow, rP, rR, len_suint8 h, idx_suint8 h, ld_suint8 h, sh_suint8 h, sw_suint8 h, h.P, h.oc, h.cl, h.rd, h.ref, strip_P hs, strip_rd hs, strip_ld hs, strip_sl h hs k_suint8, st3, hC0, fold3, hlt, kC, lt1, ixC, ldC, ixW, ldW, w8, hcv, hq, B3s, B3i, nowI, arr_neqC, Int.toNat_natCast, Nat.mul_one]; repeat (refine Vc.mk' ?_; simp only [go_sem, reduceIte, reduceCtorEq, Nat.reduceAdd, Nat.reduceMul, Nat.reduceSub, Nat.reduceLT, Nat.reduceLeDiff, Nat.reduceEqDiff, Int.reduceEq, Int.reduceLT, Int.reduceLE, Int.reduceNe, G15_works, conWorks, G15_three, conThree, G15_send, conSend, G15_tick, conTick, G15_now, conNow, rP, rR, len_suint8 h, idx_suint8 h, ld_suint8 h, sh_suint8 h, sw_suint8 h, h.P, h.oc, h.cl, h.rd, h.ref, strip_P hs, strip_rd hs, strip_ld hs, strip_sl h hs k_suint8, st3, hC0, fold3, hlt, kC, lt1, ixC, ldC, ixW, ldW, w8, hcv, hq, B3s, B3i, nowI, arr_neqC, Int.toNat_natCast, Nat.mul_one]))
        refine .mk (k + 1) hlt (by omega) (SubR.mk' [top, top + 1, top + 2, top + 3, top + 4, top + 5, top + 6, top + 7, top + 8, top + 9, top + 10] hcl (by simp) (by simp) rfl (frSub_ok (by simp [frSub, lkG, ren, renL, renL_set, renL_ints, UpdOk.nil, UpdOk.cons, renOO_some, renO_cells, renO_map, renOO_mkOb, rn_base, rn_add, ren_mkSl, Enc.flat_ren, set_same, set_ne, sets_cons, sets_nil, Keep.set, Keep.setK, Keep.refl, rm_m_int_bool, rm_m_message_Rule, rm_m_pair_bool, rm_m_pair_int, Sc.ren (fun j hj => rn_low hj) hs, hC0, w7, w7', kw, hpI, netUV, netOb, calOb, Fa.planOb, lvI_ren, loI_ren])) (by simp [frSub, lkG, ren, renL, renL_set, renL_ints, UpdOk.nil, UpdOk.cons, renOO_some, renO_cells, renO_map, renOO_mkOb, rn_base, rn_add, ren_mkSl, Enc.flat_ren, set_same, set_ne, sets_cons, sets_nil, Keep.set, Keep.setK, Keep.refl, rm_m_int_bool, rm_m_message_Rule, rm_m_pair_bool, rm_m_pair_int, Sc.ren (fun j hj => rn_low hj) hs, hC0, w7, w7', kw, hpI, netUV, netOb, calOb, Fa.planOb, lvI_ren, loI_ren]) (by simp [frSub, lkG, ren, renL, renL_set, renL_ints, UpdOk.nil, UpdOk.cons, renOO_some, renO_cells, renO_map, renOO_mkOb, rn_base, rn_add, ren_mkSl, Enc.flat_ren, set_same, set_ne, sets_cons, sets_nil, Keep.set, Keep.setK, Keep.refl, rm_m_int_bool, rm_m_message_Rule, rm_m_pair_bool, rm_m_pair_int, Sc.ren (fun j hj => rn_low hj) hs, hC0, w7, w7', kw, hpI, netUV, netOb, calOb, Fa.planOb, lvI_ren, loI_ren]))
      · have hkK : k = kI i W D := by omega
        subst hkK
        have kC : ¬ ((kI i W D : Nat) : Int) < (C.length : Int) := by omega
        have wi : wrapA .i64 ((i : Int) + 1) = (i : Int) + 1 := by rw [wrap64 (by omega) (by omega)]
        refine CW.vc env15_r [0, 1, 4, 5, 6, 7, 8, 9, 11, 12, 13, 15, 24, 34, 40, 53, 67, 81, 108] (by kernel_rfl) ?_
        (simp only [go_sem, reduceIte, reduceCtorEq, Nat.reduceAdd, Nat.reduceMul, Nat.reduceSub, Nat.reduceLT, Nat.reduceLeDiff, Nat.reduceEqDiff, Int.reduceEq, Int.reduceLT, Int.reduceLE, Int.reduceNe, G15_works, conWorks, G15_three, conThree, G15_send, conSend, G15_tick, conTick, G15_now, conNow, rP, rR, len_suint8 h, idx_suint8 h, ld_suint8 h, sh_suint8 h, sw_suint8 h, h.P, h.oc, h.cl, h.rd, h.ref, strip_P hs, strip_rd hs, strip_ld hs, strip_sl h hs k_suint8, st3, hC0, fold3, kC]; repeat (refine Vc.mk' ?_; simp only [go_sem, reduceIte, reduceCtorEq, Nat.reduceAdd, Nat.reduceMul, Nat.reduceSub, Nat.reduceLT, Nat.reduceLeDiff, Nat.reduceEqDiff, Int.reduceEq, Int.reduceLT, Int.reduceLE, Int.reduceNe, G15_works, conWorks, G15_three, conThree, G15_send, conSend, G15_tick, conTick, G15_now, conNow, rP, rR, len_suint8 h, idx_suint8 h, ld_suint8 h, sh_suint8 h, sw_suint8 h, h.P, h.oc, h.cl, h.rd, h.ref, strip_P hs, strip_rd hs, strip_ld hs, strip_sl h hs k_suint8, st3, hC0, fold3, kC]))
        refine .mk (i + 1, ks, W, D + kI i W D) ⟨by show i + 1 ≤ 60; omega, hks, hS.tick hi2⟩ (by show 60 - (i + 1) < 60 - i; omega) (SubR.mk' [top, top + 1, top + 2, top + 3, top + 4, top + 5, top + 6, top + 7, top + 8, top + 9] hcl (by simp) (by simp) rfl (frSub_ok (by simp [frSub, lkG, ren, renL, renL_set, renL_ints, UpdOk.nil, UpdOk.cons, renOO_some, renO_cells, renO_map, renOO_mkOb, rn_base, rn_add, ren_mkSl, Enc.flat_ren, set_same, set_ne, sets_cons, sets_nil, Keep.set, Keep.setK, Keep.refl, rm_m_int_bool, rm_m_message_Rule, rm_m_pair_bool, rm_m_pair_int, Sc.ren (fun j hj => rn_low hj) hs, wi, ei.symm, hpI, netUV, netOb, calOb, Fa.planOb, lvI_ren, loI_ren])) (by simp [frSub, lkG, ren, renL, renL_set, renL_ints, UpdOk.nil, UpdOk.cons, renOO_some, renO_cells, renO_map, renOO_mkOb, rn_base, rn_add, ren_mkSl, Enc.flat_ren, set_same, set_ne, sets_cons, sets_nil, Keep.set, Keep.setK, Keep.refl, rm_m_int_bool, rm_m_message_Rule, rm_m_pair_bool, rm_m_pair_int, Sc.ren (fun j hj => rn_low hj) hs, wi, ei.symm, hpI, netUV, netOb, calOb, Fa.planOb, lvI_ren, loI_ren]) (by simp [frSub, lkG, ren, renL, renL_set, renL_ints, UpdOk.nil, UpdOk.cons, renOO_some, renO_cells, renO_map, renOO_mkOb, rn_base, rn_add, ren_mkSl, Enc.flat_ren, set_same, set_ne, sets_cons, sets_nil, Keep.set, Keep.setK, Keep.refl, rm_m_int_bool, rm_m_message_Rule, rm_m_pair_bool, rm_m_pair_int, Sc.ren (fun j hj => rn_low hj) hs, wi, ei.symm, hpI, netUV, netOb, calOb, Fa.planOb, lvI_ren, loI_ren]))
end Go.Proofs.Ytmppehipfpkepaa.Dm
