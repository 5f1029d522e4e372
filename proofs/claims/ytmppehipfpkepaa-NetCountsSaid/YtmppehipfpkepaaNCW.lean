/- NetCounts: the walk. -/
import Derived.Test.YtmppehipfpkepaaNCA
import Derived.Test.YtmppehipfpkepaaNU
set_option linter.unusedSimpArgs false
set_option linter.unusedVariables false
namespace Go.Proofs.Ytmppehipfpkepaa.Dm
open Go.Dm
set_option maxHeartbeats 16000000
set_option maxRecDepth 20000
noncomputable def G25_r : FuncId → Con := addG (addG (addG (addG (addG (addG G24_r 8 conWorks) 15 conCut) 17 conStop) 16 conMend) 18 conStart) 13 conCnt
theorem env25_r : EnvV Try.prog tt.get G25_r := (((((env24_r.add works_ok).add cut_ok2).add stop_ok).add mend_ok).add start_ok).add cnt_ok
theorem G25_works : G25_r 8 = conWorks := rfl
theorem G25_three : G25_r 9 = conThree := rfl
theorem G25_send : G25_r 10 = conSend := rfl
theorem G25_tick : G25_r 12 = conTick := rfl
theorem G25_fly : G25_r 19 = conFly := rfl
theorem G25_up : G25_r 14 = conUpX := rfl
theorem G25_cut : G25_r 15 = conCut := rfl
theorem G25_stop : G25_r 17 = conStop := rfl
theorem G25_mend : G25_r 16 = conMend := rfl
theorem G25_start : G25_r 18 = conStart := rfl
theorem G25_cnt : G25_r 13 = conCnt := rfl
theorem late_ok6 (x : Int) : 1 ≤ wrapA .i64 (1 + (wrapA .i64 (x.tmod 6 + 6)).tmod 6) ∧ wrapA .i64 (1 + (wrapA .i64 (x.tmod 6 + 6)).tmod 6) ≤ 6 := by
  have a1 : -6 < x.tmod 6 := Int.lt_tmod_of_pos x (by decide)
  have a2 : x.tmod 6 < 6 := Int.tmod_lt_of_pos x (by decide)
  have e1 : wrapA .i64 (x.tmod 6 + 6) = x.tmod 6 + 6 := wrap64 (by omega) (by omega)
  rw [e1]
  have b1 : 0 ≤ (x.tmod 6 + 6).tmod 6 := Int.tmod_nonneg 6 (by omega)
  have b2 : (x.tmod 6 + 6).tmod 6 < 6 := Int.tmod_lt_of_pos _ (by decide)
  rw [wrap64 (by omega) (by omega)]
  omega
def fnC (n : Nat) : Value := .func (.func 13) ⟨[]⟩ ⟨[.pointer (some ⟨n + 10, 0, none⟩)]⟩
def fr1 (v : Value) (n : Nat) (want : List Int) (sent i : Nat) : SFr := [(1, v, true), (7, .pointer (some ⟨n, 0, none⟩), true), (8, mkSl (n + 8) want, true), (9, .pointer (some ⟨n + 10, 0, none⟩), true), (10, fnC n, true), (11, .int .i64 (sent : Int), true), (12, .int .i64 (i : Int), true)]
structure NcX where
  i : Nat
  sent : Nat
  s : NetS
  want : List Int
  got : List Int
def J1 (hp0 : Hp) (n : Nat) (v : Value) (late : Int) (x : NcX) (st : SS) : Prop := ∃ hp top lv, st = ⟨fr1 v n x.want x.sent x.i, hp, top⟩ ∧ NcAt hp0 n x.want x.got hp top lv x.s ∧ Bal late x.s x.want x.got x.sent x.i ∧ x.i ≤ 250
def fr2 (n : Nat) (want : List Int) (j : Nat) : SFr := [(7, .pointer (some ⟨n, 0, none⟩), true), (8, mkSl (n + 8) want, true), (9, .pointer (some ⟨n + 10, 0, none⟩), true), (10, fnC n, true), (22, .int .i64 (j : Int), true)]
structure NcY where
  j : Nat
  s : NetS
  got : List Int
structure J2 (hp0 : Hp) (n : Nat) (late : Int) (want : List Int) (sent tk : Nat) (N : Int) (x : NcY) (hp : Hp) (top : Nat) (lv : Value) : Prop where
  H : NcAt hp0 n want x.got hp top lv x.s
  B : Bal late x.s want x.got sent (tk + x.j)
  j : x.j ≤ 136
  now : x.s.now = N + x.j
  up : ∀ t ∈ x.s.l, t.at_ ≤ N + 70
  lo : 0 < x.j → ∀ t ∈ x.s.l, x.s.now < t.at_
def fr3 (n : Nat) (want : List Int) (k : Nat) : SFr := [(7, .pointer (some ⟨n, 0, none⟩), true), (8, mkSl (n + 8) want, true), (9, .pointer (some ⟨n + 10, 0, none⟩), true), (23, .int .i64 (k : Int), true)]
def zero256 : List Int := List.replicate 256 0
theorem zero_len : zero256.length = 256 := List.length_replicate
theorem zero_at (k : Nat) (hk : k < 256) : at' zero256 k = 0 := by rw [at'_get _ _ (by rw [zero_len]; exact hk)]; exact List.getElem_replicate ..
theorem zero_ob : (some (AObj.cells true 1 (reps 256 (.int .i64 0)))) = mkOb e_int zero256 := rfl
theorem Bal.zero {late : Int} (h1 : 1 ≤ late) (h6 : late ≤ 6) {m : Fa.MapR} {c : Nat} (hm : ∀ e ∈ m, Fa.mayB e.2.1 = true) : Bal late (net3 m c late) zero256 zero256 0 0 :=
  ⟨zero_len, zero_len, fun k hk => by rw [zero_at k hk]; rfl, fun k hk => by rw [zero_at k hk]; decide, fun k hk => by rw [zero_at k hk]; decide, fun k hk _ => zero_at k hk, fun t ht => absurd ht (by simp [net3, net0]), fun t ht => absurd ht (by simp [net3, net0]), Nat.le_refl _, ⟨Int.le_refl _, Int.le_refl _⟩, rfl, h1, h6, rfl, rfl, hm, by decide, Nat.le_refl _, Int.le_refl _, Int.le_refl _, by decide⟩
theorem u8w (x : Int) : 0 ≤ IntKind.u8.wrap x ∧ IntKind.u8.wrap x < 256 := by
  unfold IntKind.wrap
  simp [IntKind.signed, IntKind.bits]
  omega
def conCounts : Con := .pure (fun args hp => match args with | [r, v, .int .i64 _] => SlP e_Rule hp r ∧ ∃ l, SlT e_uint8 hp v l ∧ l.length ≤ 140737488355328 ∧ ∀ x ∈ l, 0 ≤ x ∧ x ≤ 255 | _ => False) (fun _ _ => .bool true)
theorem counts_ok : ConOk Try.prog 4 conCounts := by
  refine .mkRd fn4_ok (fun _ _ _ => rfl) ?_
  intro args hp hpre top hcl hsc
  match args, hpre with
  | [r, v, .int .i64 late0], ⟨⟨rl, hr⟩, l, h, hln, hby⟩ =>
  have hs := h.low hcl
  have rP : SlP e_Rule hp r = True := hr.P
  have rR : e_Rule.rd hp r = rl := hr.rd
  refine CalledOk.of_fun tt_ok fn4_ok rfl 183 rfl [.tmp 6] rfl (show 3 ≤ 183 by decide) ?_
  refine CW.vc env25_r [0, 1, 2, 6, 7, 8, 9, 10, 11, 12, 13, 14, 15, 16, 17, 18, 20, 22, 23, 25, 35, 46, 61, 62, 76, 91, 106, 107, 120, 127, 135, 148, 160, 168, 179] (by kernel_rfl) ?_
  (repeat ((try refine Vc.mk' ?_); simp only [go_sem, reduceIte, reduceCtorEq, Nat.reduceAdd, Nat.reduceMul, Nat.reduceSub, Nat.reduceLT, Nat.reduceLeDiff, Nat.reduceEqDiff, Int.reduceEq, Int.reduceLT, Int.reduceLE, Int.reduceNe, G25_works, conWorks, G25_three, conThree, G25_send, conSend, G25_tick, conTick, G25_fly, conFly, G25_up, conUpX, G25_cut, conCut, G25_stop, conStop, G25_mend, conMend, G25_start, conStart, G25_cnt, conCnt, rP, rR, evList, evO, len_suint8 h, idx_suint8 h, ld_suint8 h, sh_suint8 h, sw_suint8 h, h.P, h.oc, h.cl, h.rd, h.ref, strip_P hs, strip_rd hs, strip_ld hs, strip_sl h hs k_suint8]))
  obtain ⟨h1, h6⟩ := late_ok6 late0
  generalize wrapA .i64 (1 + (wrapA .i64 (late0.tmod 6 + 6)).tmod 6) = late at h1 h6
  have hlate : ¬ (late < 1 ∨ 64 < late) := by omega
  cases hx : Fa.planF rl with
  | error p =>
    obtain ⟨i, e⟩ := p
    have t3 : ∀ {X : Nat}, threeRes rl late X = (.pointer none, [], X) := fun {X} => by unfold threeRes; rw [if_neg hlate, hx]
    (repeat ((try refine Vc.mk' ?_); simp only [go_sem, reduceIte, reduceCtorEq, Nat.reduceAdd, Nat.reduceMul, Nat.reduceSub, Nat.reduceLT, Nat.reduceLeDiff, Nat.reduceEqDiff, Int.reduceEq, Int.reduceLT, Int.reduceLE, Int.reduceNe, G25_works, conWorks, G25_three, conThree, G25_send, conSend, G25_tick, conTick, G25_fly, conFly, G25_up, conUpX, G25_cut, conCut, G25_stop, conStop, G25_mend, conMend, G25_start, conStart, G25_cnt, conCnt, rP, rR, evList, evO, len_suint8 h, idx_suint8 h, ld_suint8 h, sh_suint8 h, sw_suint8 h, h.P, h.oc, h.cl, h.rd, h.ref, strip_P hs, strip_rd hs, strip_ld hs, strip_sl h hs k_suint8, t3]))
  | ok m =>
    have t3 : ∀ {X : Nat}, threeRes rl late X = (.pointer (some ⟨X, 0, none⟩), netU X (net3 m rl.length late), X + 8) := fun {X} => by unfold threeRes; rw [if_neg hlate, hx]
    (repeat ((try refine Vc.mk' ?_); simp only [go_sem, reduceIte, reduceCtorEq, Nat.reduceAdd, Nat.reduceMul, Nat.reduceSub, Nat.reduceLT, Nat.reduceLeDiff, Nat.reduceEqDiff, Int.reduceEq, Int.reduceLT, Int.reduceLE, Int.reduceNe, G25_works, conWorks, G25_three, conThree, G25_send, conSend, G25_tick, conTick, G25_fly, conFly, G25_up, conUpX, G25_cut, conCut, G25_stop, conStop, G25_mend, conMend, G25_start, conStart, G25_cnt, conCnt, rP, rR, evList, evO, len_suint8 h, idx_suint8 h, ld_suint8 h, sh_suint8 h, sw_suint8 h, h.P, h.oc, h.cl, h.rd, h.ref, strip_P hs, strip_rd hs, strip_ld hs, strip_sl h hs k_suint8, t3]))
    rw [zero_ob]
    have HI : NcAt hp top zero256 zero256 ((((hp.sets (netU top (net3 m rl.length late))).set (top + 8) (mkOb e_int zero256)).set (top + 9) (mkOb e_int zero256)).set (top + 10) (some (.cells true 0 [.slice (some ⟨top + 9, 0, none⟩) 256 256]))) (top + 11) (.slice none 0 0) (net3 m rl.length late) := by
      have N0 : NetAt (hp.sets (netU top (net3 m rl.length late))) top (.slice none 0 0) (net3 m rl.length late) := NetAt.new rfl rfl (show Fa.zeroP.length = 625 by decide) (show R3.length ≤ 1000 by decide) h1 (by show late ≤ 64; omega) rfl
      refine ⟨?_, Nat.le_refl _, N0.at_ (fun j a1 a2 => ?_) (fun b k c e => by cases e), Hi.nil, trivial, ?_, ?_, set_same ..⟩
      · rw [Keep.set (by omega), Keep.set (by omega), Keep.set (by omega), keep_sets (hi_net (Nat.le_refl _)), Keep.refl]; trivial
      · rw [set_ne _ _ _ _ (by omega), set_ne _ _ _ _ (by omega), set_ne _ _ _ _ (by omega)]
      · rw [set_ne _ _ _ _ (by omega), set_ne _ _ _ _ (by omega), set_same]
      · rw [set_ne _ _ _ _ (by omega), set_same]
    refine CW.loopJ (J1 hp top v late) (fun x => 250 - x.i) ⟨0, 0, net3 m rl.length late, zero256, zero256⟩ _ ⟨_, _, _, rfl, HI, Bal.zero h1 h6 (planF_may hx), Nat.zero_le _⟩ (SubR.fr_ (by simp [fr1, frSub, lkG, ren_id, fnC]; rfl)) ?_
    rintro ⟨i, sent, s, want, got⟩ _ ⟨hp', top', lv, rfl, H, B, hi⟩
    replace H : NcAt hp top want got hp' top' lv s := H
    replace B : Bal late s want got sent i := B
    replace hi : i ≤ 250 := hi
    have hwl : want.length = 256 := B.hw
    have hgl : got.length = 256 := B.hg
    have hsn := B.sn
    have hst := B.st
    replace h : SlT e_uint8 hp' v l := h.keep hs H.kp
    by_cases c12 : i < l.length ∧ i < 250
    case neg =>
      refine CW.vc env25_r [0, 1, 2, 6, 7, 8, 9, 10, 11, 12, 13, 14, 15, 16, 17, 18, 20, 22, 23, 25, 35, 46, 61, 62, 76, 91, 106, 107, 120, 127, 135, 148, 160, 168, 179] (by kernel_rfl) ?_
      by_cases c1 : i < l.length
      case' pos =>
        have c2 : ¬ (i : Int) < 250 := fun e => c12 ⟨c1, by omega⟩
        (repeat ((try refine Vc.mk' ?_); simp only [go_sem, reduceIte, reduceCtorEq, Nat.reduceAdd, Nat.reduceMul, Nat.reduceSub, Nat.reduceLT, Nat.reduceLeDiff, Nat.reduceEqDiff, Int.reduceEq, Int.reduceLT, Int.reduceLE, Int.reduceNe, G25_works, conWorks, G25_three, conThree, G25_send, conSend, G25_tick, conTick, G25_fly, conFly, G25_up, conUpX, G25_cut, conCut, G25_stop, conStop, G25_mend, conMend, G25_start, conStart, G25_cnt, conCnt, rP, rR, evList, evO, len_suint8 h, idx_suint8 h, ld_suint8 h, sh_suint8 h, sw_suint8 h, h.P, h.oc, h.cl, h.rd, h.ref, strip_P hs, strip_rd hs, strip_ld hs, strip_sl h hs k_suint8, fr1, c1, c2]))
      case' neg =>
        (repeat ((try refine Vc.mk' ?_); simp only [go_sem, reduceIte, reduceCtorEq, Nat.reduceAdd, Nat.reduceMul, Nat.reduceSub, Nat.reduceLT, Nat.reduceLeDiff, Nat.reduceEqDiff, Int.reduceEq, Int.reduceLT, Int.reduceLE, Int.reduceNe, G25_works, conWorks, G25_three, conThree, G25_send, conSend, G25_tick, conTick, G25_fly, conFly, G25_up, conUpX, G25_cut, conCut, G25_stop, conStop, G25_mend, conMend, G25_start, conStart, G25_cnt, conCnt, rP, rR, evList, evO, len_suint8 h, idx_suint8 h, ld_suint8 h, sh_suint8 h, sw_suint8 h, h.P, h.oc, h.cl, h.rd, h.ref, strip_P hs, strip_rd hs, strip_ld hs, strip_sl h hs k_suint8, fr1, c1]))
      all_goals
        refine CW.loopJ (fun (x : NcY) (st : SS) => ∃ hp' top' lv, st = ⟨fr2 top want x.j, hp', top'⟩ ∧ J2 hp top late want sent i s.now x hp' top' lv) (fun x => 136 - x.j) ⟨0, s, got⟩ _ ⟨_, _, _, rfl, ⟨H, B, Nat.zero_le _, (Int.add_zero _).symm, B.at_, fun e => absurd e (Nat.lt_irrefl 0)⟩⟩ (SubR.fr_ (by simp [fr2, frSub, lkG, ren_id, fnC])) ?_
        rintro ⟨j, s, got⟩ _ ⟨hp', top', lv, rfl, ⟨H, B, hj, hnow, hup, hlo⟩⟩
        replace H : NcAt hp top want got hp' top' lv s := H
        replace B : Bal late s want got sent (i + j) := B
        replace hj : j ≤ 136 := hj
        replace hnow : s.now = _ + (j : Int) := hnow
        replace hup : ∀ t ∈ s.l, t.at_ ≤ _ := hup
        replace hlo : 0 < j → ∀ t ∈ s.l, s.now < t.at_ := hlo
        have hwl : want.length = 256 := B.hw
        have hgl : got.length = 256 := B.hg
        have Ns := H.net.s
        have Nv := H.net.v
        have Ni := H.net.is
        by_cases c3 : j < 136 ∧ s.l ≠ []
        case pos =>
          obtain ⟨c3, c4⟩ := c3
          have c3' : (j : Int) < 136 := by omega
          have c4' : 0 < s.l.length := List.length_pos_iff.2 c4
          have c5' : 0 < (s.l.length : Int) := by omega
          have wj : wrapA .i64 ((j : Int) + 1) = ((j + 1 : Nat) : Int) := wrap_succ (n := 200) (by omega) (by omega)
          have H1 := H.tick
          have O1 := H.tickO
          have P1 := O1.P
          have R1 := O1.rd
          have C1 := H1.cntP hgl
          have C2 := H1.cntQ hgl
          have C3 := H1.cntG hgl
          have C4 := B.tickN
          obtain ⟨BT, NT⟩ := B.tick (by omega)
          have hnn := B.now
          refine CW.vc env25_r [0, 1, 2, 6, 7, 8, 9, 10, 11, 12, 13, 14, 15, 16, 17, 18, 20, 22, 23, 25, 35, 46, 61, 62, 76, 91, 106, 107, 120, 127, 135, 148, 160, 168, 179] (by kernel_rfl) ?_
          (repeat ((try refine Vc.mk' ?_); simp only [go_sem, reduceIte, reduceCtorEq, Nat.reduceAdd, Nat.reduceMul, Nat.reduceSub, Nat.reduceLT, Nat.reduceLeDiff, Nat.reduceEqDiff, Int.reduceEq, Int.reduceLT, Int.reduceLE, Int.reduceNe, G25_works, conWorks, G25_three, conThree, G25_send, conSend, G25_tick, conTick, G25_fly, conFly, G25_up, conUpX, G25_cut, conCut, G25_stop, conStop, G25_mend, conMend, G25_start, conStart, G25_cnt, conCnt, rP, rR, evList, evO, len_suint8 h, idx_suint8 h, ld_suint8 h, sh_suint8 h, sw_suint8 h, h.P, h.oc, h.cl, h.rd, h.ref, strip_P hs, strip_rd hs, strip_ld hs, strip_sl h hs k_suint8, fr2, Ns, Nv, Ni, c3', c4', c5', wj, tickRes_u, fnC, P1, R1, C1, C2, C3, C4]))
          exact ⟨⟨j + 1, tickS s, bump got (tickL s)⟩, _, by show 136 - (j + 1) < 136 - j; omega, ⟨_, _, _, rfl, ⟨H1.setG (bump_len ..), BT, by show j + 1 ≤ 136; omega, by show (tickS s).now = _ + ((j + 1 : Nat) : Int); omega, fun t ht => hup t (tick_sub ht), fun _ => tick_gt H.net.W.up (by omega)⟩⟩, SubR.fr_ (by simp [fr2, frSub, lkG, ren_id, fnC])⟩
        case neg =>
        have hl : s.l = [] := by
          by_cases e : s.l = []
          · exact e
          · have hj : j = 136 := by
              have : ¬ j < 136 := fun c => c3 ⟨c, e⟩
              omega
            obtain ⟨t, ht⟩ := List.exists_mem_of_ne_nil _ e
            have a1 := hup t ht
            have a2 := hlo (by omega) t ht
            omega
        have hll : (s.l.length : Int) = 0 := by rw [hl]; rfl
        have hdone := B.done hl
        refine CW.vc env25_r [0, 1, 2, 6, 7, 8, 9, 10, 11, 12, 13, 14, 15, 16, 17, 18, 20, 22, 23, 25, 35, 46, 61, 62, 76, 91, 106, 107, 120, 127, 135, 148, 160, 168, 179] (by kernel_rfl) ?_
        (repeat ((try refine Vc.mk' ?_); simp only [go_sem, reduceIte, reduceCtorEq, Nat.reduceAdd, Nat.reduceMul, Nat.reduceSub, Nat.reduceLT, Nat.reduceLeDiff, Nat.reduceEqDiff, Int.reduceEq, Int.reduceLT, Int.reduceLE, Int.reduceNe, G25_works, conWorks, G25_three, conThree, G25_send, conSend, G25_tick, conTick, G25_fly, conFly, G25_up, conUpX, G25_cut, conCut, G25_stop, conStop, G25_mend, conMend, G25_start, conStart, G25_cnt, conCnt, rP, rR, evList, evO, len_suint8 h, idx_suint8 h, ld_suint8 h, sh_suint8 h, sw_suint8 h, h.P, h.oc, h.cl, h.rd, h.ref, strip_P hs, strip_rd hs, strip_ld hs, strip_sl h hs k_suint8, fr2, Ns, Nv, Ni, hll, Int.lt_irrefl, decide_false, Bool.and_false]))
        refine CW.loopJ (fun (k : Nat) (st : SS) => st = ⟨fr3 top want k, hp', top'⟩ ∧ k ≤ 256) (fun k => 256 - k) 0 _ ⟨rfl, Nat.zero_le _⟩ (SubR.fr_ (by simp [fr3, frSub, lkG, ren_id, fnC])) ?_
        rintro k _ ⟨rfl, hk⟩
        by_cases c6 : k < 256
        case pos =>
          have c6' : (k : Int) < 256 := by omega
          have wk : wrapA .i64 ((k : Int) + 1) = ((k + 1 : Nat) : Int) := wrap_succ (n := 300) (by omega) (by omega)
          have hgq := H.g
          have SW : SlT e_int hp' (mkSl (top + 8) want) want := .own H.w (by omega)
          have SG : SlT e_int hp' (mkSl (top + 9) got) got := .own H.q (by omega)
          have ixW : sindexAddr tt.get 40 (mkSl (top + 8) want) (.int .i64 (k : Int)) = (ptrS (mkSl (top + 8) want) (k * 1), True) := by
            have := idx_sint SW (k := .i64) (n := (k : Int)) (by omega) (by omega)
            rwa [Int.toNat_natCast] at this
          have ixG : sindexAddr tt.get 40 (mkSl (top + 9) got) (.int .i64 (k : Int)) = (ptrS (mkSl (top + 9) got) (k * 1), True) := by
            have := idx_sint SG (k := .i64) (n := (k : Int)) (by omega) (by omega)
            rwa [Int.toNat_natCast] at this
          have ldW := ld_sint SW (i := k) (by omega)
          have ldG := ld_sint SG (i := k) (by omega)
          have ek := hdone k c6
          refine CW.vc env25_r [0, 1, 2, 6, 7, 8, 9, 10, 11, 12, 13, 14, 15, 16, 17, 18, 20, 22, 23, 25, 35, 46, 61, 62, 76, 91, 106, 107, 120, 127, 135, 148, 160, 168, 179] (by kernel_rfl) ?_
          (repeat ((try refine Vc.mk' ?_); simp only [go_sem, reduceIte, reduceCtorEq, Nat.reduceAdd, Nat.reduceMul, Nat.reduceSub, Nat.reduceLT, Nat.reduceLeDiff, Nat.reduceEqDiff, Int.reduceEq, Int.reduceLT, Int.reduceLE, Int.reduceNe, G25_works, conWorks, G25_three, conThree, G25_send, conSend, G25_tick, conTick, G25_fly, conFly, G25_up, conUpX, G25_cut, conCut, G25_stop, conStop, G25_mend, conMend, G25_start, conStart, G25_cnt, conCnt, rP, rR, evList, evO, len_suint8 h, idx_suint8 h, ld_suint8 h, sh_suint8 h, sw_suint8 h, h.P, h.oc, h.cl, h.rd, h.ref, strip_P hs, strip_rd hs, strip_ld hs, strip_sl h hs k_suint8, fr3, c6', wk, hgq, ixW, ixG, ldW, ldG, ek]))
          exact ⟨k + 1, _, by show 256 - (k + 1) < 256 - k; omega, ⟨rfl, c6⟩, SubR.fr_ (by simp [fr3, frSub, lkG, ren_id, fnC])⟩
        case neg =>
          have c6' : ¬ (k : Int) < 256 := by omega
          have kp := H.kp
          refine CW.vc env25_r [0, 1, 2, 6, 7, 8, 9, 10, 11, 12, 13, 14, 15, 16, 17, 18, 20, 22, 23, 25, 35, 46, 61, 62, 76, 91, 106, 107, 120, 127, 135, 148, 160, 168, 179] (by kernel_rfl) ?_
          (repeat ((try refine Vc.mk' ?_); simp only [go_sem, reduceIte, reduceCtorEq, Nat.reduceAdd, Nat.reduceMul, Nat.reduceSub, Nat.reduceLT, Nat.reduceLeDiff, Nat.reduceEqDiff, Int.reduceEq, Int.reduceLT, Int.reduceLE, Int.reduceNe, G25_works, conWorks, G25_three, conThree, G25_send, conSend, G25_tick, conTick, G25_fly, conFly, G25_up, conUpX, G25_cut, conCut, G25_stop, conStop, G25_mend, conMend, G25_start, conStart, G25_cnt, conCnt, rP, rR, evList, evO, len_suint8 h, idx_suint8 h, ld_suint8 h, sh_suint8 h, sw_suint8 h, h.P, h.oc, h.cl, h.rd, h.ref, strip_P hs, strip_rd hs, strip_ld hs, strip_sl h hs k_suint8, fr3, c6', Ns, Nv, Ni, hll]))
          exact kp
    obtain ⟨c1, c2⟩ := c12
    have c2' : (i : Int) < 250 := by omega
    have hx8 := hby _ (at_mem c1)
    refine CW.vc env25_r [0, 1, 2, 6, 7, 8, 9, 10, 11, 12, 13, 14, 15, 16, 17, 18, 20, 22, 23, 25, 35, 46, 61, 62, 76, 91, 106, 107, 120, 127, 135, 148, 160, 168, 179] (by kernel_rfl) ?_
    (repeat ((try refine Vc.mk' ?_); simp only [go_sem, reduceIte, reduceCtorEq, Nat.reduceAdd, Nat.reduceMul, Nat.reduceSub, Nat.reduceLT, Nat.reduceLeDiff, Nat.reduceEqDiff, Int.reduceEq, Int.reduceLT, Int.reduceLE, Int.reduceNe, G25_works, conWorks, G25_three, conThree, G25_send, conSend, G25_tick, conTick, G25_fly, conFly, G25_up, conUpX, G25_cut, conCut, G25_stop, conStop, G25_mend, conMend, G25_start, conStart, G25_cnt, conCnt, rP, rR, evList, evO, len_suint8 h, idx_suint8 h, ld_suint8 h, sh_suint8 h, sw_suint8 h, h.P, h.oc, h.cl, h.rd, h.ref, strip_P hs, strip_rd hs, strip_ld hs, strip_sl h hs k_suint8, fr1, c1, c2']))
    obtain ⟨x, hxe⟩ : ∃ x, at' l i = x := ⟨_, rfl⟩
    rw [hxe] at hx8
    obtain ⟨hx0, hx255⟩ := hx8
    rw [hxe]
    have hA : wrapA .i64 (1 + (wrapA .i64 (IntKind.u8.wrap (x.tdiv 8))).tmod 2) = 1 ∨ wrapA .i64 (1 + (wrapA .i64 (IntKind.u8.wrap (x.tdiv 8))).tmod 2) = 2 := by
      have b1 := Int.tmod_nonneg (a := wrapA .i64 (IntKind.u8.wrap (x.tdiv 8))) 2 (by
        have := u8w (x.tdiv 8)
        rw [wrap64 (by omega) (by omega)]; omega)
      have b2 : (wrapA .i64 (IntKind.u8.wrap (x.tdiv 8))).tmod 2 < 2 := Int.tmod_lt_of_pos _ (by decide)
      rw [wrap64 (by omega) (by omega)]; omega
    generalize wrapA .i64 (1 + (wrapA .i64 (IntKind.u8.wrap (x.tdiv 8))).tmod 2) = a at hA
    have hm : (x.tmod 8 = 0 ∨ x.tmod 8 = 1 ∨ x.tmod 8 = 2 ∨ x.tmod 8 = 3) ∨ x.tmod 8 = 4 ∨ x.tmod 8 = 5 ∨ x.tmod 8 = 6 ∨ x.tmod 8 = 7 := by
      have b1 := Int.tmod_nonneg (a := x) 8 hx0
      have b2 : x.tmod 8 < 8 := Int.tmod_lt_of_pos _ (by decide)
      omega
    have hw1 : wrapA .i64 (a + 1) = a + 1 := wrap64 (by omega) (by omega)
    have Ns := H.net.s
    have Nv := H.net.v
    have Ni := H.net.is
    have wi : wrapA .i64 ((i : Int) + 1) = ((i + 1 : Nat) : Int) := wrap_succ c1 h.le
    have Bl := B.later (by omega)
    rcases hm with hm | hm | hm | hm | hm
    · have hcv : ∀ {h' : Hp} {b : Nat} {n : Int}, sconvH tt.get (h'.set b (some (.cells true 1 [.int .u8 n]))) 22 9 (.slice (some ⟨b, 0, none⟩) 1 1) = (.string ⟨⟨[UInt8.ofNat n.toNat]⟩⟩, True) := fun {h'} {b} {n} => sconvH_one k_suint8 k_uint8 k_string (set_same ..)
      have wW : wrapA .u8 (sent : Int) = (sent : Int) := wrap_id (by simp [IntKind.signed]) (by simp [IntKind.signed, IntKind.bits]; omega)
      rcases hm with hm | hm | hm | hm
      all_goals
        (repeat ((try refine Vc.mk' ?_); simp only [go_sem, reduceIte, reduceCtorEq, Nat.reduceAdd, Nat.reduceMul, Nat.reduceSub, Nat.reduceLT, Nat.reduceLeDiff, Nat.reduceEqDiff, Int.reduceEq, Int.reduceLT, Int.reduceLE, Int.reduceNe, G25_works, conWorks, G25_three, conThree, G25_send, conSend, G25_tick, conTick, G25_fly, conFly, G25_up, conUpX, G25_cut, conCut, G25_stop, conStop, G25_mend, conMend, G25_start, conStart, G25_cnt, conCnt, rP, rR, evList, evO, len_suint8 h, idx_suint8 h, ld_suint8 h, sh_suint8 h, sw_suint8 h, h.P, h.oc, h.cl, h.rd, h.ref, strip_P hs, strip_rd hs, strip_ld hs, strip_sl h hs k_suint8, Ns, Nv, Ni, wi, hw1, hm, hxe, c1]))
        by_cases c16 : (IntKind.u8.wrap (x.tdiv 16)).tmod 2 = 1
        · have hp_ : PairOk (a + 1) a := by unfold PairOk; omega
          have As : ∀ {o : Option AObj}, netS (hp'.set top' o) top = s := fun {o} => (H.new o).net.s
          have Av : ∀ {o : Option AObj}, netV (hp'.set top' o) top = lv := fun {o} => (H.new o).net.v
          have Ai : ∀ {o : Option AObj}, IsNet (hp'.set top' o) top = True := fun {o} => (H.new o).net.is
          have ll : s.last < 999990 := by have := B.last; omega
          have A2 : ∀ (o p : Option AObj), NcAt hp top want got (((hp'.set top' o).sets (sendU top lv s (a + 1) a [UInt8.ofNat sent] (top' + 1))).set (sendT s (a + 1) a [UInt8.ofNat sent] (top' + 1)) p) (sendT s (a + 1) a [UInt8.ofNat sent] (top' + 1) + 1) (sendV lv s (a + 1) a [UInt8.ofNat sent] (top' + 1)) (sendS s (a + 1) a [UInt8.ofNat sent]) := fun o p => ((H.new o).send ll (a + 1) a [UInt8.ofNat sent]).new p
          have hE := B.err hp_
          (repeat ((try refine Vc.mk' ?_); simp only [go_sem, reduceIte, reduceCtorEq, Nat.reduceAdd, Nat.reduceMul, Nat.reduceSub, Nat.reduceLT, Nat.reduceLeDiff, Nat.reduceEqDiff, Int.reduceEq, Int.reduceLT, Int.reduceLE, Int.reduceNe, G25_works, conWorks, G25_three, conThree, G25_send, conSend, G25_tick, conTick, G25_fly, conFly, G25_up, conUpX, G25_cut, conCut, G25_stop, conStop, G25_mend, conMend, G25_start, conStart, G25_cnt, conCnt, rP, rR, evList, evO, len_suint8 h, idx_suint8 h, ld_suint8 h, sh_suint8 h, sw_suint8 h, h.P, h.oc, h.cl, h.rd, h.ref, strip_P hs, strip_rd hs, strip_ld hs, strip_sl h hs k_suint8, Ns, Nv, Ni, wi, hw1, hm, hxe, c1, c16, As, Av, Ai, ll, hcv, wW, sendRes_u, List.length_singleton, List.length_cons, List.length_nil, Nat.zero_add, Int.toNat_natCast]))
          cases hu : upF s (a + 1) a with
          | false =>
            rw [hu, if_pos rfl] at hE
            have hX : sendX s (a + 1) a [UInt8.ofNat sent] := (B.noX hp_).2 hu
            have eF : sendF s (a + 1) a [UInt8.ofNat sent] = ⟨0, 0, 0⟩ := if_pos hX
            have eS : sendS s (a + 1) a [UInt8.ofNat sent] = s := if_pos hX
            have B2i : ∀ {o p : Option AObj}, IsNet (((hp'.set top' o).sets (sendU top lv s (a + 1) a [UInt8.ofNat sent] (top' + 1))).set (sendT s (a + 1) a [UInt8.ofNat sent] (top' + 1)) p) top = True := fun {o p} => (A2 o p).net.is
            have B2s : ∀ {o p : Option AObj}, netS (((hp'.set top' o).sets (sendU top lv s (a + 1) a [UInt8.ofNat sent] (top' + 1))).set (sendT s (a + 1) a [UInt8.ofNat sent] (top' + 1)) p) top = s := fun {o p} => (A2 o p).net.s.trans eS
            (repeat ((try refine Vc.mk' ?_); simp only [go_sem, reduceIte, reduceCtorEq, Nat.reduceAdd, Nat.reduceMul, Nat.reduceSub, Nat.reduceLT, Nat.reduceLeDiff, Nat.reduceEqDiff, Int.reduceEq, Int.reduceLT, Int.reduceLE, Int.reduceNe, G25_works, conWorks, G25_three, conThree, G25_send, conSend, G25_tick, conTick, G25_fly, conFly, G25_up, conUpX, G25_cut, conCut, G25_stop, conStop, G25_mend, conMend, G25_start, conStart, G25_cnt, conCnt, rP, rR, evList, evO, len_suint8 h, idx_suint8 h, ld_suint8 h, sh_suint8 h, sw_suint8 h, h.P, h.oc, h.cl, h.rd, h.ref, strip_P hs, strip_rd hs, strip_ld hs, strip_sl h hs k_suint8, Ns, Nv, Ni, wi, hw1, hm, hxe, c1, hE, eF, B2i, B2s, hu]))
            exact ⟨⟨i + 1, sent, sendS s (a + 1) a [UInt8.ofNat sent], want, got⟩, _, by show 250 - (i + 1) < 250 - i; omega, ⟨_, _, _, rfl, A2 _ _, (by rw [eS]; exact Bl), by show i + 1 ≤ 250; omega⟩, SubR.fr_ (by simp [fr1, frSub, lkG, ren_id, fnC])⟩
          | true =>
            rw [hu, if_neg (by simp)] at hE
            have hX : ¬ sendX s (a + 1) a [UInt8.ofNat sent] := fun c => by rw [(B.noX hp_).1 c] at hu; cases hu
            have eF : sendF s (a + 1) a [UInt8.ofNat sent] = (Fa.askF s.P (a + 1) a).2.1 := if_neg hX
            have eC : (Fa.askF s.P (a + 1) a).2.1.Copies = copies s (a + 1) a := rfl
            have W2 : ∀ {o p : Option AObj}, (((hp'.set top' o).sets (sendU top lv s (a + 1) a [UInt8.ofNat sent] (top' + 1))).set (sendT s (a + 1) a [UInt8.ofNat sent] (top' + 1)) p) (top + 8) = mkOb e_int want := fun {o p} => (A2 o p).w
            have S2 : ∀ {o p : Option AObj}, SlT e_int (((hp'.set top' o).sets (sendU top lv s (a + 1) a [UInt8.ofNat sent] (top' + 1))).set (sendT s (a + 1) a [UInt8.ofNat sent] (top' + 1)) p) (mkSl (top + 8) want) want := fun {o p} => .own W2 (by omega)
            have hsw : sent < want.length := by omega
            have ixW : sindexAddr tt.get 40 (mkSl (top + 8) want) (.int .i64 (sent : Int)) = (ptrS (mkSl (top + 8) want) (sent * 1), True) := by
              have := idx_sint (S2 (o := none) (p := none)) (k := .i64) (n := (sent : Int)) (by omega) (by omega)
              rwa [Int.toNat_natCast] at this
            have stW := fun (o p : Option AObj) (x : Int) => os_sint (W2 (o := o) (p := p)) hsw (x := x)
            have wS : wrapA .i64 ((sent : Int) + 1) = ((sent + 1 : Nat) : Int) := wrap_succ (n := 300) (by omega) (by omega)
            have hmk : mkSl (top + 8) want = mkSl (top + 8) (want.set sent (copies s (a + 1) a)) := mkSl_len (by rw [List.length_set])
            (repeat ((try refine Vc.mk' ?_); simp only [go_sem, reduceIte, reduceCtorEq, Nat.reduceAdd, Nat.reduceMul, Nat.reduceSub, Nat.reduceLT, Nat.reduceLeDiff, Nat.reduceEqDiff, Int.reduceEq, Int.reduceLT, Int.reduceLE, Int.reduceNe, G25_works, conWorks, G25_three, conThree, G25_send, conSend, G25_tick, conTick, G25_fly, conFly, G25_up, conUpX, G25_cut, conCut, G25_stop, conStop, G25_mend, conMend, G25_start, conStart, G25_cnt, conCnt, rP, rR, evList, evO, len_suint8 h, idx_suint8 h, ld_suint8 h, sh_suint8 h, sw_suint8 h, h.P, h.oc, h.cl, h.rd, h.ref, strip_P hs, strip_rd hs, strip_ld hs, strip_sl h hs k_suint8, Ns, Nv, Ni, wi, hw1, hm, hxe, c1, hE, eF, eC, ixW, stW, wS]))
            exact ⟨⟨i + 1, sent + 1, sendS s (a + 1) a [UInt8.ofNat sent], want.set sent (copies s (a + 1) a), got⟩, _, by show 250 - (i + 1) < 250 - i; omega, ⟨_, _, _, rfl, (A2 _ _).setW _, Bl.send hp_ (by omega) hu (by omega), by show i + 1 ≤ 250; omega⟩, SubR.fr_ (by simp [fr1, frSub, lkG, ren_id, fnC, ← hmk])⟩
        · have hp_ : PairOk a (a + 1) := by unfold PairOk; omega
          have As : ∀ {o : Option AObj}, netS (hp'.set top' o) top = s := fun {o} => (H.new o).net.s
          have Av : ∀ {o : Option AObj}, netV (hp'.set top' o) top = lv := fun {o} => (H.new o).net.v
          have Ai : ∀ {o : Option AObj}, IsNet (hp'.set top' o) top = True := fun {o} => (H.new o).net.is
          have ll : s.last < 999990 := by have := B.last; omega
          have A2 : ∀ (o p : Option AObj), NcAt hp top want got (((hp'.set top' o).sets (sendU top lv s a (a + 1) [UInt8.ofNat sent] (top' + 1))).set (sendT s a (a + 1) [UInt8.ofNat sent] (top' + 1)) p) (sendT s a (a + 1) [UInt8.ofNat sent] (top' + 1) + 1) (sendV lv s a (a + 1) [UInt8.ofNat sent] (top' + 1)) (sendS s a (a + 1) [UInt8.ofNat sent]) := fun o p => ((H.new o).send ll a (a + 1) [UInt8.ofNat sent]).new p
          have hE := B.err hp_
          (repeat ((try refine Vc.mk' ?_); simp only [go_sem, reduceIte, reduceCtorEq, Nat.reduceAdd, Nat.reduceMul, Nat.reduceSub, Nat.reduceLT, Nat.reduceLeDiff, Nat.reduceEqDiff, Int.reduceEq, Int.reduceLT, Int.reduceLE, Int.reduceNe, G25_works, conWorks, G25_three, conThree, G25_send, conSend, G25_tick, conTick, G25_fly, conFly, G25_up, conUpX, G25_cut, conCut, G25_stop, conStop, G25_mend, conMend, G25_start, conStart, G25_cnt, conCnt, rP, rR, evList, evO, len_suint8 h, idx_suint8 h, ld_suint8 h, sh_suint8 h, sw_suint8 h, h.P, h.oc, h.cl, h.rd, h.ref, strip_P hs, strip_rd hs, strip_ld hs, strip_sl h hs k_suint8, Ns, Nv, Ni, wi, hw1, hm, hxe, c1, c16, As, Av, Ai, ll, hcv, wW, sendRes_u, List.length_singleton, List.length_cons, List.length_nil, Nat.zero_add, Int.toNat_natCast]))
          cases hu : upF s a (a + 1) with
          | false =>
            rw [hu, if_pos rfl] at hE
            have hX : sendX s a (a + 1) [UInt8.ofNat sent] := (B.noX hp_).2 hu
            have eF : sendF s a (a + 1) [UInt8.ofNat sent] = ⟨0, 0, 0⟩ := if_pos hX
            have eS : sendS s a (a + 1) [UInt8.ofNat sent] = s := if_pos hX
            have B2i : ∀ {o p : Option AObj}, IsNet (((hp'.set top' o).sets (sendU top lv s a (a + 1) [UInt8.ofNat sent] (top' + 1))).set (sendT s a (a + 1) [UInt8.ofNat sent] (top' + 1)) p) top = True := fun {o p} => (A2 o p).net.is
            have B2s : ∀ {o p : Option AObj}, netS (((hp'.set top' o).sets (sendU top lv s a (a + 1) [UInt8.ofNat sent] (top' + 1))).set (sendT s a (a + 1) [UInt8.ofNat sent] (top' + 1)) p) top = s := fun {o p} => (A2 o p).net.s.trans eS
            (repeat ((try refine Vc.mk' ?_); simp only [go_sem, reduceIte, reduceCtorEq, Nat.reduceAdd, Nat.reduceMul, Nat.reduceSub, Nat.reduceLT, Nat.reduceLeDiff, Nat.reduceEqDiff, Int.reduceEq, Int.reduceLT, Int.reduceLE, Int.reduceNe, G25_works, conWorks, G25_three, conThree, G25_send, conSend, G25_tick, conTick, G25_fly, conFly, G25_up, conUpX, G25_cut, conCut, G25_stop, conStop, G25_mend, conMend, G25_start, conStart, G25_cnt, conCnt, rP, rR, evList, evO, len_suint8 h, idx_suint8 h, ld_suint8 h, sh_suint8 h, sw_suint8 h, h.P, h.oc, h.cl, h.rd, h.ref, strip_P hs, strip_rd hs, strip_ld hs, strip_sl h hs k_suint8, Ns, Nv, Ni, wi, hw1, hm, hxe, c1, hE, eF, B2i, B2s, hu]))
            exact ⟨⟨i + 1, sent, sendS s a (a + 1) [UInt8.ofNat sent], want, got⟩, _, by show 250 - (i + 1) < 250 - i; omega, ⟨_, _, _, rfl, A2 _ _, (by rw [eS]; exact Bl), by show i + 1 ≤ 250; omega⟩, SubR.fr_ (by simp [fr1, frSub, lkG, ren_id, fnC])⟩
          | true =>
            rw [hu, if_neg (by simp)] at hE
            have hX : ¬ sendX s a (a + 1) [UInt8.ofNat sent] := fun c => by rw [(B.noX hp_).1 c] at hu; cases hu
            have eF : sendF s a (a + 1) [UInt8.ofNat sent] = (Fa.askF s.P a (a + 1)).2.1 := if_neg hX
            have eC : (Fa.askF s.P a (a + 1)).2.1.Copies = copies s a (a + 1) := rfl
            have W2 : ∀ {o p : Option AObj}, (((hp'.set top' o).sets (sendU top lv s a (a + 1) [UInt8.ofNat sent] (top' + 1))).set (sendT s a (a + 1) [UInt8.ofNat sent] (top' + 1)) p) (top + 8) = mkOb e_int want := fun {o p} => (A2 o p).w
            have S2 : ∀ {o p : Option AObj}, SlT e_int (((hp'.set top' o).sets (sendU top lv s a (a + 1) [UInt8.ofNat sent] (top' + 1))).set (sendT s a (a + 1) [UInt8.ofNat sent] (top' + 1)) p) (mkSl (top + 8) want) want := fun {o p} => .own W2 (by omega)
            have hsw : sent < want.length := by omega
            have ixW : sindexAddr tt.get 40 (mkSl (top + 8) want) (.int .i64 (sent : Int)) = (ptrS (mkSl (top + 8) want) (sent * 1), True) := by
              have := idx_sint (S2 (o := none) (p := none)) (k := .i64) (n := (sent : Int)) (by omega) (by omega)
              rwa [Int.toNat_natCast] at this
            have stW := fun (o p : Option AObj) (x : Int) => os_sint (W2 (o := o) (p := p)) hsw (x := x)
            have wS : wrapA .i64 ((sent : Int) + 1) = ((sent + 1 : Nat) : Int) := wrap_succ (n := 300) (by omega) (by omega)
            have hmk : mkSl (top + 8) want = mkSl (top + 8) (want.set sent (copies s a (a + 1))) := mkSl_len (by rw [List.length_set])
            (repeat ((try refine Vc.mk' ?_); simp only [go_sem, reduceIte, reduceCtorEq, Nat.reduceAdd, Nat.reduceMul, Nat.reduceSub, Nat.reduceLT, Nat.reduceLeDiff, Nat.reduceEqDiff, Int.reduceEq, Int.reduceLT, Int.reduceLE, Int.reduceNe, G25_works, conWorks, G25_three, conThree, G25_send, conSend, G25_tick, conTick, G25_fly, conFly, G25_up, conUpX, G25_cut, conCut, G25_stop, conStop, G25_mend, conMend, G25_start, conStart, G25_cnt, conCnt, rP, rR, evList, evO, len_suint8 h, idx_suint8 h, ld_suint8 h, sh_suint8 h, sw_suint8 h, h.P, h.oc, h.cl, h.rd, h.ref, strip_P hs, strip_rd hs, strip_ld hs, strip_sl h hs k_suint8, Ns, Nv, Ni, wi, hw1, hm, hxe, c1, hE, eF, eC, ixW, stW, wS]))
            exact ⟨⟨i + 1, sent + 1, sendS s a (a + 1) [UInt8.ofNat sent], want.set sent (copies s a (a + 1)), got⟩, _, by show 250 - (i + 1) < 250 - i; omega, ⟨_, _, _, rfl, (A2 _ _).setW _, Bl.send hp_ (by omega) hu (by omega), by show i + 1 ≤ 250; omega⟩, SubR.fr_ (by simp [fr1, frSub, lkG, ren_id, fnC, ← hmk])⟩
    · have H1 := H.cut a (a + 1)
      have O1 := H.cutO a (a + 1)
      have P1 := O1.P
      have R1 := O1.rd
      have C1 := H1.cntP hgl
      have C2 := H1.cntQ hgl
      have C3 := H1.cntG hgl
      have C4 := B.cutN a (a + 1)
      (repeat ((try refine Vc.mk' ?_); simp only [go_sem, reduceIte, reduceCtorEq, Nat.reduceAdd, Nat.reduceMul, Nat.reduceSub, Nat.reduceLT, Nat.reduceLeDiff, Nat.reduceEqDiff, Int.reduceEq, Int.reduceLT, Int.reduceLE, Int.reduceNe, G25_works, conWorks, G25_three, conThree, G25_send, conSend, G25_tick, conTick, G25_fly, conFly, G25_up, conUpX, G25_cut, conCut, G25_stop, conStop, G25_mend, conMend, G25_start, conStart, G25_cnt, conCnt, rP, rR, evList, evO, len_suint8 h, idx_suint8 h, ld_suint8 h, sh_suint8 h, sw_suint8 h, h.P, h.oc, h.cl, h.rd, h.ref, strip_P hs, strip_rd hs, strip_ld hs, strip_sl h hs k_suint8, Ns, Nv, Ni, wi, hw1, hm, hxe, c1, cutRes_u, fnC, P1, R1, C1, C2, C3, C4]))
      exact ⟨⟨i + 1, sent, cutS s a (a + 1), want, bump got (cutL s a (a + 1))⟩, _, by show 250 - (i + 1) < 250 - i; omega, ⟨_, _, _, rfl, H1.setG (bump_len ..), Bl.cut a (a + 1), by show i + 1 ≤ 250; omega⟩, SubR.fr_ (by simp [fr1, frSub, lkG, ren_id, fnC])⟩
    · have H1 := H.mend a (a + 1)
      (repeat ((try refine Vc.mk' ?_); simp only [go_sem, reduceIte, reduceCtorEq, Nat.reduceAdd, Nat.reduceMul, Nat.reduceSub, Nat.reduceLT, Nat.reduceLeDiff, Nat.reduceEqDiff, Int.reduceEq, Int.reduceLT, Int.reduceLE, Int.reduceNe, G25_works, conWorks, G25_three, conThree, G25_send, conSend, G25_tick, conTick, G25_fly, conFly, G25_up, conUpX, G25_cut, conCut, G25_stop, conStop, G25_mend, conMend, G25_start, conStart, G25_cnt, conCnt, rP, rR, evList, evO, len_suint8 h, idx_suint8 h, ld_suint8 h, sh_suint8 h, sw_suint8 h, h.P, h.oc, h.cl, h.rd, h.ref, strip_P hs, strip_rd hs, strip_ld hs, strip_sl h hs k_suint8, Ns, Nv, Ni, wi, hw1, hm, hxe, c1]))
      exact ⟨⟨i + 1, sent, mendS s a (a + 1), want, got⟩, _, by show 250 - (i + 1) < 250 - i; omega, ⟨_, _, _, rfl, H1, Bl.mend a (a + 1), by show i + 1 ≤ 250; omega⟩, SubR.fr_ (by simp [fr1, frSub, lkG, ren_id, fnC])⟩
    · (repeat ((try refine Vc.mk' ?_); simp only [go_sem, reduceIte, reduceCtorEq, Nat.reduceAdd, Nat.reduceMul, Nat.reduceSub, Nat.reduceLT, Nat.reduceLeDiff, Nat.reduceEqDiff, Int.reduceEq, Int.reduceLT, Int.reduceLE, Int.reduceNe, G25_works, conWorks, G25_three, conThree, G25_send, conSend, G25_tick, conTick, G25_fly, conFly, G25_up, conUpX, G25_cut, conCut, G25_stop, conStop, G25_mend, conMend, G25_start, conStart, G25_cnt, conCnt, rP, rR, evList, evO, len_suint8 h, idx_suint8 h, ld_suint8 h, sh_suint8 h, sw_suint8 h, h.P, h.oc, h.cl, h.rd, h.ref, strip_P hs, strip_rd hs, strip_ld hs, strip_sl h hs k_suint8, Ns, Nv, Ni, wi, hw1, hm, hxe, c1]))
      by_cases c16 : (IntKind.u8.wrap (x.tdiv 16)).tmod 2 = 1
      · have H1 := H.stop a
        have O1 := H.stopO a
        have P1 := O1.P
        have R1 := O1.rd
        have C1 := H1.cntP hgl
        have C2 := H1.cntQ hgl
        have C3 := H1.cntG hgl
        have C4 := B.stopN a
        (repeat ((try refine Vc.mk' ?_); simp only [go_sem, reduceIte, reduceCtorEq, Nat.reduceAdd, Nat.reduceMul, Nat.reduceSub, Nat.reduceLT, Nat.reduceLeDiff, Nat.reduceEqDiff, Int.reduceEq, Int.reduceLT, Int.reduceLE, Int.reduceNe, G25_works, conWorks, G25_three, conThree, G25_send, conSend, G25_tick, conTick, G25_fly, conFly, G25_up, conUpX, G25_cut, conCut, G25_stop, conStop, G25_mend, conMend, G25_start, conStart, G25_cnt, conCnt, rP, rR, evList, evO, len_suint8 h, idx_suint8 h, ld_suint8 h, sh_suint8 h, sw_suint8 h, h.P, h.oc, h.cl, h.rd, h.ref, strip_P hs, strip_rd hs, strip_ld hs, strip_sl h hs k_suint8, Ns, Nv, Ni, wi, hw1, hm, hxe, c1, c16, stopRes_u, fnC, P1, R1, C1, C2, C3, C4]))
        exact ⟨⟨i + 1, sent, stopS s a, want, bump got (stopL s a)⟩, _, by show 250 - (i + 1) < 250 - i; omega, ⟨_, _, _, rfl, H1.setG (bump_len ..), Bl.stop a, by show i + 1 ≤ 250; omega⟩, SubR.fr_ (by simp [fr1, frSub, lkG, ren_id, fnC])⟩
      · have H1 := H.start a
        (repeat ((try refine Vc.mk' ?_); simp only [go_sem, reduceIte, reduceCtorEq, Nat.reduceAdd, Nat.reduceMul, Nat.reduceSub, Nat.reduceLT, Nat.reduceLeDiff, Nat.reduceEqDiff, Int.reduceEq, Int.reduceLT, Int.reduceLE, Int.reduceNe, G25_works, conWorks, G25_three, conThree, G25_send, conSend, G25_tick, conTick, G25_fly, conFly, G25_up, conUpX, G25_cut, conCut, G25_stop, conStop, G25_mend, conMend, G25_start, conStart, G25_cnt, conCnt, rP, rR, evList, evO, len_suint8 h, idx_suint8 h, ld_suint8 h, sh_suint8 h, sw_suint8 h, h.P, h.oc, h.cl, h.rd, h.ref, strip_P hs, strip_rd hs, strip_ld hs, strip_sl h hs k_suint8, Ns, Nv, Ni, wi, hw1, hm, hxe, c1, c16]))
        exact ⟨⟨i + 1, sent, startS s a, want, got⟩, _, by show 250 - (i + 1) < 250 - i; omega, ⟨_, _, _, rfl, H1, Bl.start a, by show i + 1 ≤ 250; omega⟩, SubR.fr_ (by simp [fr1, frSub, lkG, ren_id, fnC])⟩
    · have H1 := H.tick
      have O1 := H.tickO
      have P1 := O1.P
      have R1 := O1.rd
      have C1 := H1.cntP hgl
      have C2 := H1.cntQ hgl
      have C3 := H1.cntG hgl
      have C4 := B.tickN
      (repeat ((try refine Vc.mk' ?_); simp only [go_sem, reduceIte, reduceCtorEq, Nat.reduceAdd, Nat.reduceMul, Nat.reduceSub, Nat.reduceLT, Nat.reduceLeDiff, Nat.reduceEqDiff, Int.reduceEq, Int.reduceLT, Int.reduceLE, Int.reduceNe, G25_works, conWorks, G25_three, conThree, G25_send, conSend, G25_tick, conTick, G25_fly, conFly, G25_up, conUpX, G25_cut, conCut, G25_stop, conStop, G25_mend, conMend, G25_start, conStart, G25_cnt, conCnt, rP, rR, evList, evO, len_suint8 h, idx_suint8 h, ld_suint8 h, sh_suint8 h, sw_suint8 h, h.P, h.oc, h.cl, h.rd, h.ref, strip_P hs, strip_rd hs, strip_ld hs, strip_sl h hs k_suint8, Ns, Nv, Ni, wi, hw1, hm, hxe, c1, tickRes_u, fnC, P1, R1, C1, C2, C3, C4]))
      exact ⟨⟨i + 1, sent, tickS s, want, bump got (tickL s)⟩, _, by show 250 - (i + 1) < 250 - i; omega, ⟨_, _, _, rfl, H1.setG (bump_len ..), (B.tick (by omega)).1, by show i + 1 ≤ 250; omega⟩, SubR.fr_ (by simp [fr1, frSub, lkG, ren_id, fnC])⟩
end Go.Proofs.Ytmppehipfpkepaa.Dm
