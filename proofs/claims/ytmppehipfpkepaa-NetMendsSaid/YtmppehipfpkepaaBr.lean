/- Which is ahead, and where it goes: things of api.Arrive. -/
import Derived.Test.YtmppehipfpkepaaC1
set_option linter.unusedSimpArgs false
set_option linter.unusedVariables false
namespace Go.Proofs.Ytmppehipfpkepaa.Dm
open Go.Dm
set_option maxHeartbeats 8000000
set_option maxRecDepth 20000
def cmp_r (a b : T_t124) : Int := cmpK a.at_ a.ticket b.at_ b.ticket
def lt_r (a b : T_t124) : Bool := ltK a.at_ a.ticket b.at_ b.ticket
def conPut1_r : Con := .pure (fun args _ => match args with | [.agg ⟨p⟩, .agg ⟨q⟩] => e_t124.enc (e_t124.dec p) = p ∧ e_t124.enc (e_t124.dec q) = q | _ => False) (fun args _ => match args with
  | [.agg ⟨p⟩, .agg ⟨q⟩] => .int .i64 (cmp_r (e_t124.dec p) (e_t124.dec q)) | _ => undef)
theorem put1_r_ok : ConOk Try.prog 58 conPut1_r := by
  refine .mkRd fn58_ok ?_ ?_
  · intro args hp h
    match args, h with
    | [.agg ⟨p⟩, .agg ⟨q⟩], _ => rfl
  intro args hp hpre top hcl hsc
  match args, hpre with
  | [.agg ⟨p⟩, .agg ⟨q⟩], ⟨hx, hy⟩ =>
  generalize e_t124.dec p = x at hx
  generalize e_t124.dec q = y at hy
  subst hx
  subst hy
  simp only [e_t124.h]
  refine CalledOk.of_fun tt_ok fn58_ok rfl 17 rfl [.tmp 4] rfl (show 2 ≤ 17 by decide) ?_
  refine CW.vc env2 [0, 1, 2, 3, 4] (by kernel_rfl) ?_
  have e1 : ∀ {h' : Hp} {b : Nat}, h' b = some (.cells true 1 [.int .i64 (cmpI x.at_ y.at_), .int .i64 (cmpI x.ticket y.ticket)]) → SlP e_int h' (.slice (some ⟨b, 0, none⟩) 2 2) = True := two_P
  have e2 : ∀ {h' : Hp} {b : Nat}, h' b = some (.cells true 1 [.int .i64 (cmpI x.at_ y.at_), .int .i64 (cmpI x.ticket y.ticket)]) → e_int.rd h' (.slice (some ⟨b, 0, none⟩) 2 2) = [cmpI x.at_ y.at_, cmpI x.ticket y.ticket] := two_rd
  have e3 : orF [cmpI x.at_ y.at_, cmpI x.ticket y.ticket] = cmp_r x y := rfl
  (repeat ((try refine Vc.mk' ?_); simp only [go_sem, reduceIte, reduceCtorEq, Nat.reduceAdd, Nat.reduceMul, Nat.reduceSub, Nat.reduceLT, Nat.reduceLeDiff, Nat.reduceEqDiff, Int.reduceEq, Int.reduceLT, Int.reduceLE, Int.reduceNe, G2_cu, G2_ci, conCmp, G2_or, conOr, en_t124, e1, e2, e3]))
def G3_r : FuncId → Con := addG G2 58 conPut1_r
theorem env3_r : EnvV Try.prog tt.get G3_r := env2.add put1_r_ok
theorem G3_r_p1 : G3_r 58 = conPut1_r := rfl
/-! ### where it goes -/
def up_r (l : List T_t124) : Prop := l.Pairwise fun a b => lt_r a b = true
def lb_r (l : List T_t124) (t : T_t124) : Nat := l.countP fun a => lt_r a t
theorem lb_r_le (l : List T_t124) (t : T_t124) : lb_r l t ≤ l.length := List.countP_le_length
theorem lb_r_at {l : List T_t124} {t : T_t124} {i : Nat} (hi : i ≤ l.length) (h1 : ∀ k, k < i → lt_r (at' l k) t = true) (h2 : ∀ k, i ≤ k → k < l.length → lt_r (at' l k) t = false) : lb_r l t = i := by
  unfold lb_r
  conv => lhs; rw [← List.take_append_drop i l]
  rw [List.countP_append]
  have e1 : (l.take i).countP (fun a => lt_r a t) = i := by
    have : (l.take i).countP (fun a => lt_r a t) = (l.take i).length := by
      rw [List.countP_eq_length]
      intro a ha
      obtain ⟨k, hk, rfl⟩ := List.getElem_of_mem ha
      rw [List.length_take] at hk
      have := h1 k (by omega)
      rw [at'_get _ _ (by omega)] at this
      rwa [List.getElem_take]
    rw [this, List.length_take]; omega
  have e2 : (l.drop i).countP (fun a => lt_r a t) = 0 := by
    rw [List.countP_eq_zero]
    intro a ha
    obtain ⟨k, hk, rfl⟩ := List.getElem_of_mem ha
    rw [List.length_drop] at hk
    have := h2 (i + k) (by omega) (by omega)
    rw [at'_get _ _ (by omega)] at this
    rw [List.getElem_drop]; simp [this]
  rw [e1, e2]; rfl
theorem up_r_lt {l : List T_t124} (h : up_r l) {t : T_t124} {j k : Nat} (hjk : j ≤ k) (hk : k < l.length) (hl : lt_r (at' l k) t = true) : lt_r (at' l j) t = true := by
  rcases Nat.lt_or_ge j k with h1 | h1
  · have := List.pairwise_iff_getElem.1 h j k (by omega) hk h1
    rw [at'_get _ _ hk] at hl
    rw [at'_get _ _ (by omega)]
    exact ltK_trans this hl
  · rwa [show j = k by omega]
def BsPre_r (hp : Hp) (v : Value) : Prop := ∃ l, SlT e_t124 hp v l ∧ up_r l ∧ l.length ≤ 281474976710656
def conBs_r : Con := .pure (fun args hp => match args with | [v, .agg ⟨p⟩, .func (.func 58) ⟨[]⟩ ⟨[]⟩] => BsPre_r hp v ∧ e_t124.enc (e_t124.dec p) = p | _ => False) (fun args hp => match args with
  | [v, .agg ⟨p⟩, _] => .tuple ⟨[.int .i64 (lb_r (e_t124.rd hp v) (e_t124.dec p) : Int), .bool (decide (lb_r (e_t124.rd hp v) (e_t124.dec p) < (e_t124.rd hp v).length) && decide (cmp_r (at' (e_t124.rd hp v) (lb_r (e_t124.rd hp v) (e_t124.dec p))) (e_t124.dec p) = 0))]⟩ | _ => undef)
def stBs_r (hp : Hp) (top : Nat) (v : Value) (t : T_t124) (n : Nat) (p : Nat × Nat) : SS :=
  ⟨[(0, v, true), (2, .func (.func 58) ⟨[]⟩ ⟨[]⟩, true), (4, .pointer (some ⟨top, 0, none⟩), true), (8, .int .i64 (n : Int), true), (9, .int .i64 (p.1 : Int), true), (10, .int .i64 (p.2 : Int), true)],
    hp.sets [(top, some (.cells true 0 (e_t124.enc t)))], top + 1⟩
theorem bs_r_ok : ConOk Try.prog 57 conBs_r := by
  refine .mkRd fn57_ok ?_ ?_
  · intro args hp h
    match args, h with
    | [v, .agg ⟨p⟩, .func (.func 58) ⟨[]⟩ ⟨[]⟩], _ => rfl
  intro args hp hpre top hcl hsc
  match args, hpre with
  | [v, .agg ⟨p⟩, .func (.func 58) ⟨[]⟩ ⟨[]⟩], ⟨⟨l, h, hup, hl48⟩, hx⟩ =>
  generalize e_t124.dec p = t at hx
  subst hx
  have hs := h.low hcl
  simp only [h.rd]
  have hl63 := h.le
  refine CalledOk.of_fun tt_ok fn57_ok rfl 49 rfl [.tmp 6, .tmp 7] rfl (show 3 ≤ 49 by decide) ?_
  refine CW.vc env3_r [0, 1, 2, 4, 6, 7, 8, 9, 10, 11, 17, 31] (by kernel_rfl) ?_
  (repeat ((try refine Vc.mk' ?_); simp only [go_sem, reduceIte, reduceCtorEq, Nat.reduceAdd, Nat.reduceMul, Nat.reduceSub, Nat.reduceLT, Nat.reduceLeDiff, Nat.reduceEqDiff, Int.reduceEq, Int.reduceLT, Int.reduceLE, Int.reduceNe, len_st124 h, idx_st124 h, ld_st124 h, sh_st124 h, sw_st124 h, sf_st124_0 h, sc_st124_0 h, sf_st124_1 h, sc_st124_1 h, sf_st124_2 h, h.P, h.oc, h.cl, h.rd, h.ref, strip_P hs, strip_rd hs, strip_ld hs, strip_sl h hs k_st124, G3_r_p1, conPut1_r, en_t124]))
  refine CW.loopR (stBs_r hp top v t l.length) (fun p => p.1 ≤ p.2 ∧ p.2 ≤ l.length ∧ (∀ k, k < p.1 → lt_r (at' l k) t = true) ∧ (∀ k, p.2 ≤ k → k < l.length → lt_r (at' l k) t = false)) (fun p => p.2 - p.1) (0, l.length) ⟨Nat.zero_le _, Nat.le_refl _, fun k hk => absurd hk (Nat.not_lt_zero _), fun k h1 h2 => absurd h2 (by omega)⟩ ?_ ?_
  · exact (by refine SubR.mk' [top] hcl (by simp) (by simp) rfl (frSub_ok ?_) ?_ ?_ <;> simp [frSub, lkG, ren, renL, renL_set, renL_ints, UpdOk.nil, UpdOk.cons, renOO_some, renO_cells, renO_map, renOO_mkOb, rn_base, rn_add, ren_mkSl, Enc.flat_ren, set_same, set_ne, sets_cons, sets_nil, Keep.set, Keep.setK, Keep.refl, rm_m_int_bool, rm_m_message_Rule, rm_m_pair_bool, rm_m_pair_int, Sc.ren (fun j hj => rn_low hj) hs, en_t124])
  · rintro ⟨i, j⟩ ⟨hij, hjn, hlo, hhi⟩
    by_cases hlt : i < j
    · obtain ⟨m, hm⟩ : ∃ m, m = (i + j) / 2 := ⟨_, rfl⟩
      have hmid : wrapA .i64 ((wrapA .u64 (wrapA .i64 ((i : Int) + (j : Int)))).fdiv (Int.ofNat (Nat.pow 2 ((Int.toNat 1).min 64)))) = (m : Int) := by
        have hlt2 : i < j := hlt
        have hjn2 : j ≤ l.length := hjn
        have e0 : wrapA .i64 ((i : Int) + (j : Int)) = (i : Int) + (j : Int) := wrap64 (by omega) (by omega)
        have e1 : wrapA .u64 ((i : Int) + (j : Int)) = (i : Int) + (j : Int) := wrapU (by omega) (by omega)
        have e2 : ((i : Int) + (j : Int)).fdiv 2 = (m : Int) := by rw [Int.fdiv_eq_ediv_of_nonneg _ (by decide)]; omega
        have e3 : wrapA .i64 (m : Int) = (m : Int) := wrap64 (by omega) (by omega)
        rw [e0, e1, show (Int.ofNat (Nat.pow 2 ((Int.toNat 1).min 64))) = 2 from rfl, e2, e3]
      have hlt2 : i < j := hlt
      have hjn2 : j ≤ l.length := hjn
      have hml : m < l.length := by omega
      have hc := cmpK_neg (at' l m).at_ (at' l m).ticket t.at_ t.ticket
      change decide (cmp_r (at' l m) t < 0) = lt_r (at' l m) t at hc
      cases c1 : lt_r (at' l m) t with
      | true =>
        rw [c1] at hc
        have hc2 : cmp_r (at' l m) t < 0 := of_decide_eq_true hc
        refine CW.vc env3_r [0, 1, 2, 4, 6, 7, 8, 9, 10, 11, 17, 31] (by kernel_rfl) ?_
        (repeat ((try refine Vc.mk' ?_); simp only [go_sem, reduceIte, reduceCtorEq, Nat.reduceAdd, Nat.reduceMul, Nat.reduceSub, Nat.reduceLT, Nat.reduceLeDiff, Nat.reduceEqDiff, Int.reduceEq, Int.reduceLT, Int.reduceLE, Int.reduceNe, len_st124 h, idx_st124 h, ld_st124 h, sh_st124 h, sw_st124 h, sf_st124_0 h, sc_st124_0 h, sf_st124_1 h, sc_st124_1 h, sf_st124_2 h, h.P, h.oc, h.cl, h.rd, h.ref, strip_P hs, strip_rd hs, strip_ld hs, strip_sl h hs k_st124, G3_r_p1, conPut1_r, en_t124, stBs_r, hlt, hmid, hml, hc2]))
        refine .mk (m + 1, j) ⟨by omega, hjn, fun k hk => up_r_lt hup (show k ≤ m by omega) hml c1, hhi⟩ (show j - (m + 1) < j - i by omega) ((by refine SubR.mk' [top] hcl (by simp) (by simp) rfl (frSub_ok ?_) ?_ ?_ <;> simp [frSub, lkG, ren, renL, renL_set, renL_ints, UpdOk.nil, UpdOk.cons, renOO_some, renO_cells, renO_map, renOO_mkOb, rn_base, rn_add, ren_mkSl, Enc.flat_ren, set_same, set_ne, sets_cons, sets_nil, Keep.set, Keep.setK, Keep.refl, rm_m_int_bool, rm_m_message_Rule, rm_m_pair_bool, rm_m_pair_int, Sc.ren (fun j hj => rn_low hj) hs, en_t124, wrap_succ hml hl63]))
      | false =>
        rw [c1] at hc
        have hc2 : ¬ cmp_r (at' l m) t < 0 := of_decide_eq_false hc
        refine CW.vc env3_r [0, 1, 2, 4, 6, 7, 8, 9, 10, 11, 17, 31] (by kernel_rfl) ?_
        (repeat ((try refine Vc.mk' ?_); simp only [go_sem, reduceIte, reduceCtorEq, Nat.reduceAdd, Nat.reduceMul, Nat.reduceSub, Nat.reduceLT, Nat.reduceLeDiff, Nat.reduceEqDiff, Int.reduceEq, Int.reduceLT, Int.reduceLE, Int.reduceNe, len_st124 h, idx_st124 h, ld_st124 h, sh_st124 h, sw_st124 h, sf_st124_0 h, sc_st124_0 h, sf_st124_1 h, sc_st124_1 h, sf_st124_2 h, h.P, h.oc, h.cl, h.rd, h.ref, strip_P hs, strip_rd hs, strip_ld hs, strip_sl h hs k_st124, G3_r_p1, conPut1_r, en_t124, stBs_r, hlt, hmid, hml, hc2]))
        refine .mk (i, m) ⟨by omega, by omega, hlo, fun k hk hkl => ?_⟩ (show m - i < j - i by omega) ((by refine SubR.mk' [top] hcl (by simp) (by simp) rfl (frSub_ok ?_) ?_ ?_ <;> simp [frSub, lkG, ren, renL, renL_set, renL_ints, UpdOk.nil, UpdOk.cons, renOO_some, renO_cells, renO_map, renOO_mkOb, rn_base, rn_add, ren_mkSl, Enc.flat_ren, set_same, set_ne, sets_cons, sets_nil, Keep.set, Keep.setK, Keep.refl, rm_m_int_bool, rm_m_message_Rule, rm_m_pair_bool, rm_m_pair_int, Sc.ren (fun j hj => rn_low hj) hs, en_t124]))
        cases c3 : lt_r (at' l k) t with
        | false => rfl
        | true => rw [up_r_lt hup hk hkl c3] at c1; cases c1
    · have hij2 : i ≤ j := hij
      have e : i = j := by omega
      subst e
      have hb := lb_r_at hjn hlo hhi
      by_cases hil : i < l.length
      · refine CW.vc env3_r [0, 1, 2, 4, 6, 7, 8, 9, 10, 11, 17, 31] (by kernel_rfl) ?_
        (repeat ((try refine Vc.mk' ?_); simp only [go_sem, reduceIte, reduceCtorEq, Nat.reduceAdd, Nat.reduceMul, Nat.reduceSub, Nat.reduceLT, Nat.reduceLeDiff, Nat.reduceEqDiff, Int.reduceEq, Int.reduceLT, Int.reduceLE, Int.reduceNe, len_st124 h, idx_st124 h, ld_st124 h, sh_st124 h, sw_st124 h, sf_st124_0 h, sc_st124_0 h, sf_st124_1 h, sc_st124_1 h, sf_st124_2 h, h.P, h.oc, h.cl, h.rd, h.ref, strip_P hs, strip_rd hs, strip_ld hs, strip_sl h hs k_st124, G3_r_p1, conPut1_r, en_t124, stBs_r, Nat.lt_irrefl, decide_false, hil, hb]))
      · refine CW.vc env3_r [0, 1, 2, 4, 6, 7, 8, 9, 10, 11, 17, 31] (by kernel_rfl) ?_
        (repeat ((try refine Vc.mk' ?_); simp only [go_sem, reduceIte, reduceCtorEq, Nat.reduceAdd, Nat.reduceMul, Nat.reduceSub, Nat.reduceLT, Nat.reduceLeDiff, Nat.reduceEqDiff, Int.reduceEq, Int.reduceLT, Int.reduceLE, Int.reduceNe, len_st124 h, idx_st124 h, ld_st124 h, sh_st124 h, sw_st124 h, sf_st124_0 h, sc_st124_0 h, sf_st124_1 h, sc_st124_1 h, sf_st124_2 h, h.P, h.oc, h.cl, h.rd, h.ref, strip_P hs, strip_rd hs, strip_ld hs, strip_sl h hs k_st124, G3_r_p1, conPut1_r, en_t124, stBs_r, Nat.lt_irrefl, decide_false, hil, hb]))
        rfl
end Go.Proofs.Ytmppehipfpkepaa.Dm
