/- The net: what Sift asks of each thing, when it sifts for lost. -/
import Derived.Test.YtmppehipfpkepaaN11
set_option linter.unusedSimpArgs false
set_option linter.unusedVariables false
namespace Go.Proofs.Ytmppehipfpkepaa.Dm
open Go.Dm
set_option maxHeartbeats 16000000
set_option maxRecDepth 20000
noncomputable def G19_r : FuncId → Con := addG G18_r 65 conLost1
theorem env19_r : EnvV Try.prog tt.get G19_r := env18_r.add lost1_ok
theorem G19_l1 : G19_r 65 = conLost1 := rfl
def s1Res (hp : Hp) (kv : Value) (x : T_Arrive) (top : Nat) : Value × Upds × Nat := match kv with
  | .func _ _ ⟨[.pointer (some ⟨nb, _, _⟩), .pointer (some ⟨ob, _, _⟩)]⟩ => if upH hp (netOfC hp nb) x.From x.To then (.bool false, [], top) else (.bool true, askRes hp ob x top, top + 1)
  | _ => (undef, [], top)
def s1R (hp : Hp) (b : Nat) (x : T_Arrive) (top : Nat) : Value × Upds × Nat := s1Res hp ((cellsOf (hp b)).headD undef) x top
structure LostAt (hp : Hp) (b nb ob n : Nat) (s : NetS) : Prop where
  b : hp b = some (.cells true 0 [lostV nb ob])
  nb : hp nb = some (.cells true 0 [.pointer (some ⟨n, 0, none⟩)])
  up : UpAt hp n s
def S1Pre (hp : Hp) (b : Nat) : Prop := ∃ nb ob n s, LostAt hp b nb ob n s ∧ AskOk hp ob
def conS1 : Con := .det (fun args hp _ => match args with | [.agg ⟨p⟩, .pointer (some ⟨b, 0, none⟩)] => e_t124.enc (e_t124.dec p) = p ∧ S1Pre hp b | _ => False)
  (fun args hp top => match args with | [.agg ⟨p⟩, .pointer (some ⟨b, _, _⟩)] => s1R hp b (val_r (e_t124.dec p)) top | _ => (undef, [], top))
theorem UpAt.keep {hp hp' : Hp} {n top : Nat} {s : NetS} (h : UpAt hp n s) (hcl : Cl hp top) (hk : ∀ i, i < top → hp' i = hp i) : UpAt hp' n s := by
  have n3 : n + 3 < top := hcl.lt _ _ h.S
  obtain ⟨rv, pv, lav, nwv, wv, hh⟩ := h.h
  exact ⟨⟨rv, pv, lav, nwv, wv, (hk _ (by omega)).trans hh⟩, (hk _ (by omega)).trans h.L, (hk _ (by omega)).trans h.C, (hk _ (by omega)).trans h.S⟩
theorem s1_ok : ConOk Try.prog 85 conS1 := by
  refine .mkDet fn85_ok ?_
  intro args hp top hpre hcl hsc
  match args, hpre with
  | [.agg ⟨p⟩, .pointer (some ⟨b, 0, none⟩)], ⟨hx, nb, ob, n, s, hK, q, m, h1, h2, h3⟩ =>
  generalize e_t124.dec p = x at hx
  subst hx
  have hk := hK.b
  have hnb := hK.nb
  have hU := hK.up
  simp only [lostV] at hk
  have hbt : b < top := hcl.lt _ _ hk
  have hbn : ¬ b = top := by omega
  have hat : ob < top := hcl.lt _ _ h1
  have hnt : nb < top := hcl.lt _ _ hnb
  have hqk : m ≠ [] → q < top := fun hm => by
    have := h2 hm
    cases m with
    | nil => exact absurd rfl hm
    | cons a m => exact hcl.lt _ _ this
  have hpreN : ∀ {o}, (∃ n, (hp.set top o) nb = some (.cells true 0 [.pointer (some ⟨n, 0, none⟩)]) ∧ ∃ s, UpAt (hp.set top o) n s) = True := fun {o} => eq_true ⟨n, (set_ne _ _ _ _ (by omega)).trans hnb, s, hU.keep hcl fun i hi => set_ne _ _ _ _ (by omega)⟩
  have hpreN2 : ∀ {o}, (∃ n, hp nb = some (.cells true 0 [.pointer (some ⟨n, 0, none⟩)]) ∧ ∃ s, UpAt (hp.set top o) n s) = True := fun {o} => eq_true ⟨n, hnb, s, hU.keep hcl fun i hi => set_ne _ _ _ _ (by omega)⟩
  have hpreA : ∀ {o}, AskOk (hp.set top o) ob = True := fun {o} => eq_true ⟨q, m, (set_ne _ _ _ _ (by omega)).trans h1, fun hm => (set_ne _ _ _ _ (by have := hqk hm; omega)).trans (h2 hm), h3⟩
  have hres : ∀ {o} {y : T_Arrive} {t : Nat}, askRes (hp.set top o) ob y t = askRes hp ob y t := fun {o} {y} {t} => by
    rw [askRes_eq ((set_ne _ _ _ _ (by omega)).trans h1) (fun hm => (set_ne _ _ _ _ (by have := hqk hm; omega)).trans (h2 hm)) h3, askRes_eq h1 h2 h3]
  have hnet : ∀ {o}, netOfC (hp.set top o) nb = n := fun {o} => by unfold netOfC; rw [set_ne _ _ _ _ (by omega), hnb]; rfl
  have hnet0 : netOfC hp nb = n := by unfold netOfC; rw [hnb]; rfl
  have hup : ∀ {o a b}, upH (hp.set top o) n a b = upF s a b := fun {o a b} => (hU.keep hcl fun i hi => set_ne _ _ _ _ (by omega)).eq
  have hx1 : ∀ {a c : Int} {t : List UInt8}, e_Arrive.enc (e_Arrive.dec [.int .i64 a, .int .i64 c, .string ⟨⟨t⟩⟩]) = [.int .i64 a, .int .i64 c, .string ⟨⟨t⟩⟩] := fun {a c t} => rfl
  have hR : s1R hp b (val_r (e_t124.dec (e_t124.enc x))) top = if upF s x.v_From x.v_To then (.bool false, [], top) else (.bool true, askRes hp ob (val_r x) top, top + 1) := by
    unfold s1R
    rw [hK.b]
    show (if upH hp (netOfC hp nb) x.v_From x.v_To then _ else _) = _
    rw [hnet0, hU.eq]
    rfl
  simp only [hR]
  refine CalledOk.of_fun tt_ok fn85_ok rfl 9 rfl [.tmp 3] rfl (show 2 ≤ 9 by decide) ?_
  cases c : upF s x.v_From x.v_To with
  | true =>
    refine CW.vc env19_r [0, 1, 2, 3] (by kernel_rfl) ?_
    (repeat ((try refine Vc.mk' ?_); simp only [go_sem, reduceIte, reduceCtorEq, Nat.reduceAdd, Nat.reduceMul, Nat.reduceSub, Nat.reduceLT, Nat.reduceLeDiff, Nat.reduceEqDiff, Int.reduceEq, Int.reduceLT, Int.reduceLE, Int.reduceNe, en_t124, hbn, G19_l1, conLost1, hpreN, hpreN2, hpreA, hres, hnet, hup, set_lt hat, set_lt hnt, set_lt hbt, hx1, hk, c]))
    (refine ⟨[], by simp, by simp, by simp, ?_, ?_, ?_⟩ <;> simp [frSub, lkG, ren, renL, renL_set, renL_ints, UpdOk.nil, UpdOk.cons, renOO_some, renO_cells, renO_map, renOO_mkOb, rn_base, rn_add, ren_mkSl, Enc.flat_ren, set_same, set_ne, sets_cons, sets_nil, Keep.set, Keep.setK, Keep.refl, rm_m_int_bool, rm_m_message_Rule, rm_m_pair_bool, rm_m_pair_int])
  | false =>
    have hot1 : ¬ top + 1 = ob := by omega
    have hot0 : ¬ top = ob := by omega
    have hot2 : ¬ top + 2 = ob := by omega
    by_cases hm : m = []
    · subst hm
      have e : ∀ {y : T_Arrive} {t : Nat}, askRes hp ob y t = [(ob, some (.cells true 0 [mkSl t [y]])), (t, mkOb e_Arrive [y])] := fun {y} {t} => askRes_eq h1 h2 h3
      rw [mkSl_nil] at h1
      refine CW.vc env19_r [0, 1, 2, 3] (by kernel_rfl) ?_
      (repeat ((try refine Vc.mk' ?_); simp only [go_sem, reduceIte, reduceCtorEq, Nat.reduceAdd, Nat.reduceMul, Nat.reduceSub, Nat.reduceLT, Nat.reduceLeDiff, Nat.reduceEqDiff, Int.reduceEq, Int.reduceLT, Int.reduceLE, Int.reduceNe, en_t124, hbn, G19_l1, conLost1, hpreN, hpreN2, hpreA, hres, hnet, hup, set_lt hat, set_lt hnt, set_lt hbt, hx1, hk, c, e, h1, hot0, hot1, hot2]))
      (refine ⟨[top + 1], by simp, by simp, by simp, ?_, ?_, ?_⟩ <;> simp [frSub, lkG, ren, renL, renL_set, renL_ints, UpdOk.nil, UpdOk.cons, renOO_some, renO_cells, renO_map, renOO_mkOb, rn_base, rn_add, ren_mkSl, Enc.flat_ren, set_same, set_ne, sets_cons, sets_nil, Keep.set, Keep.setK, Keep.refl, rm_m_int_bool, rm_m_message_Rule, rm_m_pair_bool, rm_m_pair_int, rn_low hat, hot1, hot0, hot2, val_r, set_lt hat])
    · have h2' := h2 hm
      have hqt := hqk hm
      have e : ∀ {y : T_Arrive} {t : Nat}, askRes hp ob y t = [(ob, some (.cells true 0 [mkSl t (m ++ [y])])), (q, none), (t, mkOb e_Arrive (m ++ [y]))] := fun {y} {t} => by rw [askRes_eq h1 h2 h3, appU_ne hm]
      have hqa : ¬ q = ob := fun e => by
        rw [e, h1] at h2'
        cases m with
        | nil => exact hm rfl
        | cons a m => simp only [mkOb, Option.some.injEq, AObj.cells.injEq] at h2'; exact absurd h2'.2.1 (by decide)
      have haq : ¬ ob = q := fun e => hqa e.symm
      refine CW.vc env19_r [0, 1, 2, 3] (by kernel_rfl) ?_
      (repeat ((try refine Vc.mk' ?_); simp only [go_sem, reduceIte, reduceCtorEq, Nat.reduceAdd, Nat.reduceMul, Nat.reduceSub, Nat.reduceLT, Nat.reduceLeDiff, Nat.reduceEqDiff, Int.reduceEq, Int.reduceLT, Int.reduceLE, Int.reduceNe, en_t124, hbn, G19_l1, conLost1, hpreN, hpreN2, hpreA, hres, hnet, hup, set_lt hat, set_lt hnt, set_lt hbt, hx1, hk, c, e, h1, h2', hot0, hot1, hot2, hqa, haq, set_lt hqt]))
      (refine ⟨[top + 1], by simp, by simp, by simp, ?_, ?_, ?_⟩ <;> simp [frSub, lkG, ren, renL, renL_set, renL_ints, UpdOk.nil, UpdOk.cons, renOO_some, renO_cells, renO_map, renOO_mkOb, rn_base, rn_add, ren_mkSl, Enc.flat_ren, set_same, set_ne, sets_cons, sets_nil, Keep.set, Keep.setK, Keep.refl, rm_m_int_bool, rm_m_message_Rule, rm_m_pair_bool, rm_m_pair_int, rn_low hat, rn_low hqt, hot1, hot0, hot2, hqa, haq, val_r, set_lt hat, set_lt hqt])
end Go.Proofs.Ytmppehipfpkepaa.Dm
/- The net: the first thing that is to go (slices.IndexFunc, for lost). -/
set_option linter.unusedSimpArgs false
set_option linter.unusedVariables false
namespace Go.Proofs.Ytmppehipfpkepaa.Dm
open Go.Dm
set_option maxHeartbeats 16000000
set_option maxRecDepth 20000
noncomputable def G20_r : FuncId → Con := addG G19_r 85 conS1
theorem env20_r : EnvV Try.prog tt.get G20_r := env19_r.add s1_ok
theorem G20_s1 : G20_r 85 = conS1 := rfl
def siV (b : Nat) : Value := .func (.func 85) ⟨[]⟩ ⟨[.pointer (some ⟨b, 0, none⟩)]⟩
def downH (hp : Hp) (b : Nat) (a : T_t124) : Bool := match ((cellsOf (hp b)).headD undef) with
  | .func _ _ ⟨[.pointer (some ⟨nb, _, _⟩), .pointer _]⟩ => !upH hp (netOfC hp nb) a.v_From a.v_To
  | _ => false
def outOfC (hp : Hp) (b : Nat) : Nat := match ((cellsOf (hp b)).headD undef) with
  | .func _ _ ⟨[.pointer _, .pointer (some ⟨ob, _, _⟩)]⟩ => ob
  | _ => 0
def isDown (s : NetS) (a : T_t124) : Bool := !upF s a.v_From a.v_To
section
variable {hp : Hp} {b nb ob n : Nat} {s : NetS}
theorem LostAt.down (h : LostAt hp b nb ob n s) : downH hp b = isDown s := by
  funext a
  unfold downH isDown
  rw [h.b]
  show (!upH hp (netOfC hp nb) a.v_From a.v_To) = _
  have : netOfC hp nb = n := by unfold netOfC; rw [h.nb]; rfl
  rw [this, h.up.eq]
theorem LostAt.out (h : LostAt hp b nb ob n s) : outOfC hp b = ob := by unfold outOfC; rw [h.b]; rfl
theorem LostAt.s1 (h : LostAt hp b nb ob n s) {x : T_Arrive} {top : Nat} : s1R hp b x top = if upF s x.From x.To then (.bool false, [], top) else (.bool true, askRes hp ob x top, top + 1) := by
  unfold s1R
  rw [h.b]
  show (if upH hp (netOfC hp nb) x.From x.To then _ else _) = _
  have : netOfC hp nb = n := by unfold netOfC; rw [h.nb]; rfl
  rw [this, h.up.eq]
end
def ixRes (hp : Hp) (b : Nat) (l : List T_t124) (top : Nat) : Value × Upds × Nat := if h : l.findIdx (downH hp b) < l.length then (.int .i64 (l.findIdx (downH hp b) : Int), askRes hp (outOfC hp b) (val_r l[l.findIdx (downH hp b)]) top, top + 1) else (.int .i64 (-1), [], top)
def IxPre (hp : Hp) (f : Value) : Prop := ∃ b nb ob n s, f = siV b ∧ LostAt hp b nb ob n s ∧ AskOk hp ob
def conIx : Con := .det (fun args hp _ => match args with | [v, f] => SlP e_t124 hp v ∧ IxPre hp f ∧ (e_t124.rd hp v).length ≤ 1000000 | _ => False) (fun args hp top => match args with
  | [v, .func _ _ ⟨[.pointer (some ⟨b, _, _⟩)]⟩] => ixRes hp b (e_t124.rd hp v) top | _ => (undef, [], top))
def stIxF (hp : Hp) (top : Nat) (v f : Value) (n i : Nat) : SS := ⟨[(0, v, true), (1, f, true), (7, .int .i64 (n : Int), true), (8, .int .i64 (i : Int), true)], hp.sets [], top + 0⟩
theorem ixf_ok : ConOk Try.prog 89 conIx := by
  refine .mkDet fn89_ok ?_
  intro args hp top hpre hcl hsc
  match args, hpre with
  | [v, _], ⟨⟨l, h⟩, ⟨b, nb, ob, n, s, rfl, hK, hA⟩, hl⟩ =>
  have hs := h.low hcl
  have hl63 := h.le
  simp only [h.rd, siV] at hl ⊢
  have hbt : b < top := hcl.lt _ _ hK.b
  have hpS : S1Pre hp b = True := eq_true ⟨nb, ob, n, s, hK, hA⟩
  have hsR : ∀ {x : T_Arrive} {t : Nat}, s1R hp b x t = if upF s x.From x.To then (.bool false, [], t) else (.bool true, askRes hp ob x t, t + 1) := fun {x t} => hK.s1
  unfold ixRes
  rw [hK.down, hK.out]
  refine CalledOk.of_fun tt_ok fn89_ok rfl 19 rfl [.tmp 4] rfl (show 2 ≤ 19 by decide) ?_
  refine CW.vc env20_r [0, 1, 4, 5, 7, 8, 9, 16] (by kernel_rfl) ?_
  (repeat ((try refine Vc.mk' ?_); simp only [go_sem, reduceIte, reduceCtorEq, Nat.reduceAdd, Nat.reduceMul, Nat.reduceSub, Nat.reduceLT, Nat.reduceLeDiff, Nat.reduceEqDiff, Int.reduceEq, Int.reduceLT, Int.reduceLE, Int.reduceNe, len_st124 h, idx_st124 h, ld_st124 h, sh_st124 h, sw_st124 h, sf_st124_0 h, sc_st124_0 h, sf_st124_1 h, sc_st124_1 h, sf_st124_2 h, h.P, h.oc, h.cl, h.rd, h.ref, strip_P hs, strip_rd hs, strip_ld hs, strip_sl h hs k_st124, G20_s1, conS1, hpS, hsR]))
  refine CW.loopR (stIxF hp top v (siV b) l.length) (fun i => i ≤ l.length ∧ ∀ j, j < i → isDown s (at' l j) = false) (fun i => l.length - i) 0 ⟨Nat.zero_le _, fun j hj => absurd hj (Nat.not_lt_zero _)⟩ ?_ ?_
  · exact (by refine SubR.mk' [] hcl (by simp) (by simp) rfl (frSub_ok ?_) ?_ ?_ <;> simp [frSub, lkG, ren, renL, renL_set, renL_ints, UpdOk.nil, UpdOk.cons, renOO_some, renO_cells, renO_map, renOO_mkOb, rn_base, rn_add, ren_mkSl, Enc.flat_ren, set_same, set_ne, sets_cons, sets_nil, Keep.set, Keep.setK, Keep.refl, rm_m_int_bool, rm_m_message_Rule, rm_m_pair_bool, rm_m_pair_int, Sc.ren (fun j hj => rn_low hj) hs, siV, rn_low hbt, Int.natCast_zero])
  · rintro i ⟨hi, hlo⟩
    by_cases hlt : i < l.length
    · cases c : isDown s (at' l i) with
      | false =>
        have c' : upF s (val_r (at' l i)).From (val_r (at' l i)).To = true := by simpa [isDown, val_r] using c
        refine CW.vc env20_r [0, 1, 4, 5, 7, 8, 9, 16] (by kernel_rfl) ?_
        (repeat ((try refine Vc.mk' ?_); simp only [go_sem, reduceIte, reduceCtorEq, Nat.reduceAdd, Nat.reduceMul, Nat.reduceSub, Nat.reduceLT, Nat.reduceLeDiff, Nat.reduceEqDiff, Int.reduceEq, Int.reduceLT, Int.reduceLE, Int.reduceNe, len_st124 h, idx_st124 h, ld_st124 h, sh_st124 h, sw_st124 h, sf_st124_0 h, sc_st124_0 h, sf_st124_1 h, sc_st124_1 h, sf_st124_2 h, h.P, h.oc, h.cl, h.rd, h.ref, strip_P hs, strip_rd hs, strip_ld hs, strip_sl h hs k_st124, G20_s1, conS1, hpS, hsR, stIxF, siV, hlt, en_t124, c']))
        refine .mk (i + 1) ⟨hlt, fun j hj => ?_⟩ (by omega) ((by refine SubR.mk' [] hcl (by simp) (by simp) rfl (frSub_ok ?_) ?_ ?_ <;> simp [frSub, lkG, ren, renL, renL_set, renL_ints, UpdOk.nil, UpdOk.cons, renOO_some, renO_cells, renO_map, renOO_mkOb, rn_base, rn_add, ren_mkSl, Enc.flat_ren, set_same, set_ne, sets_cons, sets_nil, Keep.set, Keep.setK, Keep.refl, rm_m_int_bool, rm_m_message_Rule, rm_m_pair_bool, rm_m_pair_int, Sc.ren (fun j hj => rn_low hj) hs, siV, rn_low hbt, wrap_succ hlt hl63]))
        by_cases e : j < i
        · exact hlo j e
        · have e2 : j = i := by omega
          subst e2
          exact c
      | true =>
        have c' : upF s (val_r (at' l i)).From (val_r (at' l i)).To = false := by simpa [isDown, val_r] using c
        have hix : l.findIdx (isDown s) = i := by
          rw [List.findIdx_eq hlt]
          refine ⟨by rw [← at'_get _ _ hlt]; exact c, fun j hj => ?_⟩
          have := hlo j hj
          rwa [at'_get _ _ (by omega)] at this
        have hlt' : l.findIdx (isDown s) < l.length := by rw [hix]; exact hlt
        rw [dif_pos hlt']
        have hxi : l[l.findIdx (isDown s)] = at' l i := by rw [at'_get _ _ hlt]; simp only [hix]
        rw [hxi, hix]
        obtain ⟨q, m, h1, h2, h3⟩ := hA
        have hat : ob < top := hcl.lt _ _ h1
        have hot0 : ¬ top = ob := by omega
        have hot1 : ¬ top + 1 = ob := by omega
        by_cases hm : m = []
        · subst hm
          have e : ∀ {y : T_Arrive} {t : Nat}, askRes hp ob y t = [(ob, some (.cells true 0 [mkSl t [y]])), (t, mkOb e_Arrive [y])] := fun {y} {t} => askRes_eq h1 h2 h3
          rw [mkSl_nil] at h1
          refine CW.vc env20_r [0, 1, 4, 5, 7, 8, 9, 16] (by kernel_rfl) ?_
          (repeat ((try refine Vc.mk' ?_); simp only [go_sem, reduceIte, reduceCtorEq, Nat.reduceAdd, Nat.reduceMul, Nat.reduceSub, Nat.reduceLT, Nat.reduceLeDiff, Nat.reduceEqDiff, Int.reduceEq, Int.reduceLT, Int.reduceLE, Int.reduceNe, len_st124 h, idx_st124 h, ld_st124 h, sh_st124 h, sw_st124 h, sf_st124_0 h, sc_st124_0 h, sf_st124_1 h, sc_st124_1 h, sf_st124_2 h, h.P, h.oc, h.cl, h.rd, h.ref, strip_P hs, strip_rd hs, strip_ld hs, strip_sl h hs k_st124, G20_s1, conS1, hpS, hsR, stIxF, siV, hlt, en_t124, c', e, h1, hot0, hot1]))
          (refine ⟨[top], by simp, by simp, by simp, ?_, ?_, ?_⟩ <;> simp [frSub, lkG, ren, renL, renL_set, renL_ints, UpdOk.nil, UpdOk.cons, renOO_some, renO_cells, renO_map, renOO_mkOb, rn_base, rn_add, ren_mkSl, Enc.flat_ren, set_same, set_ne, sets_cons, sets_nil, Keep.set, Keep.setK, Keep.refl, rm_m_int_bool, rm_m_message_Rule, rm_m_pair_bool, rm_m_pair_int, rn_low hat, hot0, hot1, set_lt hat])
        · have h2' := h2 hm
          have hqt : q < top := by
            cases m with
            | nil => exact absurd rfl hm
            | cons a m => exact hcl.lt _ _ h2'
          have e : ∀ {y : T_Arrive} {t : Nat}, askRes hp ob y t = [(ob, some (.cells true 0 [mkSl t (m ++ [y])])), (q, none), (t, mkOb e_Arrive (m ++ [y]))] := fun {y} {t} => by rw [askRes_eq h1 h2 h3, appU_ne hm]
          have hqa : ¬ q = ob := fun e => by
            rw [e, h1] at h2'
            cases m with
            | nil => exact hm rfl
            | cons a m => simp only [mkOb, Option.some.injEq, AObj.cells.injEq] at h2'; exact absurd h2'.2.1 (by decide)
          have haq : ¬ ob = q := fun e => hqa e.symm
          refine CW.vc env20_r [0, 1, 4, 5, 7, 8, 9, 16] (by kernel_rfl) ?_
          (repeat ((try refine Vc.mk' ?_); simp only [go_sem, reduceIte, reduceCtorEq, Nat.reduceAdd, Nat.reduceMul, Nat.reduceSub, Nat.reduceLT, Nat.reduceLeDiff, Nat.reduceEqDiff, Int.reduceEq, Int.reduceLT, Int.reduceLE, Int.reduceNe, len_st124 h, idx_st124 h, ld_st124 h, sh_st124 h, sw_st124 h, sf_st124_0 h, sc_st124_0 h, sf_st124_1 h, sc_st124_1 h, sf_st124_2 h, h.P, h.oc, h.cl, h.rd, h.ref, strip_P hs, strip_rd hs, strip_ld hs, strip_sl h hs k_st124, G20_s1, conS1, hpS, hsR, stIxF, siV, hlt, en_t124, c', e, h1, h2', hot0, hot1, hqa, haq, set_lt hqt]))
          (refine ⟨[top], by simp, by simp, by simp, ?_, ?_, ?_⟩ <;> simp [frSub, lkG, ren, renL, renL_set, renL_ints, UpdOk.nil, UpdOk.cons, renOO_some, renO_cells, renO_map, renOO_mkOb, rn_base, rn_add, ren_mkSl, Enc.flat_ren, set_same, set_ne, sets_cons, sets_nil, Keep.set, Keep.setK, Keep.refl, rm_m_int_bool, rm_m_message_Rule, rm_m_pair_bool, rm_m_pair_int, rn_low hat, rn_low hqt, hot0, hot1, hqa, haq, set_lt hat, set_lt hqt])
    · have hi2 : i = l.length := by omega
      subst hi2
      have hnl : ¬ l.findIdx (isDown s) < l.length := fun c => by
        have a := List.findIdx_getElem (p := isDown s) (xs := l) (w := c)
        have b := hlo _ c
        rw [at'_get _ _ c] at b
        rw [a] at b; cases b
      rw [dif_neg hnl]
      refine CW.vc env20_r [0, 1, 4, 5, 7, 8, 9, 16] (by kernel_rfl) ?_
      (repeat ((try refine Vc.mk' ?_); simp only [go_sem, reduceIte, reduceCtorEq, Nat.reduceAdd, Nat.reduceMul, Nat.reduceSub, Nat.reduceLT, Nat.reduceLeDiff, Nat.reduceEqDiff, Int.reduceEq, Int.reduceLT, Int.reduceLE, Int.reduceNe, len_st124 h, idx_st124 h, ld_st124 h, sh_st124 h, sw_st124 h, sf_st124_0 h, sc_st124_0 h, sf_st124_1 h, sc_st124_1 h, sf_st124_2 h, h.P, h.oc, h.cl, h.rd, h.ref, strip_P hs, strip_rd hs, strip_ld hs, strip_sl h hs k_st124, G20_s1, conS1, hpS, hsR, stIxF, siV, Nat.lt_irrefl, decide_false]))
      (refine ⟨[], by simp, by simp, by simp, ?_, ?_, ?_⟩ <;> simp [frSub, lkG, ren, renL, renL_set, renL_ints, UpdOk.nil, UpdOk.cons, renOO_some, renO_cells, renO_map, renOO_mkOb, rn_base, rn_add, ren_mkSl, Enc.flat_ren, set_same, set_ne, sets_cons, sets_nil, Keep.set, Keep.setK, Keep.refl, rm_m_int_bool, rm_m_message_Rule, rm_m_pair_bool, rm_m_pair_int])
end Go.Proofs.Ytmppehipfpkepaa.Dm
