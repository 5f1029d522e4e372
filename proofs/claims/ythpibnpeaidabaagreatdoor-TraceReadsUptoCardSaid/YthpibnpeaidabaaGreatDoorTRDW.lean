/- TraceReads: the walk. -/
import Derived.Test.YthpibnpeaidabaaGreatDoorTRP
import Derived.Test.YthpibnpeaidabaaGreatDoorTFA
import Derived.Test.YthpibnpeaidabaaGreatDoorTSM
set_option linter.unusedVariables false
namespace Go.Proofs.YthpibnpeaidabaaGreatDoor.Dm
open Go.Dm
set_option maxHeartbeats 16000000
set_option maxRecDepth 20000
def zr (l : List T_Event) (k : Nat) : List T_Event := List.replicate k zeroEv ++ l.drop k
theorem zr_zero {l : List T_Event} : zr l 0 = l := rfl
theorem zr_len {l : List T_Event} {k : Nat} (h : k ≤ l.length) : (zr l k).length = l.length := by rw [zr, List.length_append, List.length_replicate, List.length_drop]; omega
theorem zr_set {l : List T_Event} {k : Nat} (h : k < l.length) : (zr l k).set k zeroEv = zr l (k + 1) := by
  unfold zr
  rw [List.set_append_right (h := by simp), List.length_replicate, Nat.sub_self, List.drop_eq_getElem_cons h, List.set_cons_zero, List.replicate_succ', List.append_assoc]; rfl
theorem mkSl_lens {α : Type} {b : Nat} {l m : List α} (h : l.length = m.length) : mkSl b l = mkSl b m := by
  cases l with
  | nil => rw [List.eq_nil_of_length_eq_zero h.symm]
  | cons a l =>
    cases m with
    | nil => cases h
    | cons c m => simp only [mkSl]; simp only [List.length_cons, Nat.add_right_cancel_iff] at h; rw [h]
def GD1 : FuncId → Con := addG (addG (addG (addG (addG (addG GT7 15 conREv) 16 conFault) 13 conPar) 17 conRPar) 18 (conEq e_Event)) 9 conWorks
theorem envD1 : EnvV Tryz.prog tt.get GD1 := (((((envT7.add rev_ok).add fault_ok).add par_ok).add rpar_ok).add sameEv_ok).add works_ok
theorem GD1_e : GD1 12 = conEvent := rfl
theorem GD1_r : GD1 15 = conREv := rfl
theorem GD1_f : GD1 16 = conFault := rfl
theorem GD1_p : GD1 13 = conPar := rfl
theorem GD1_q : GD1 17 = conRPar := rfl
theorem GD1_s : GD1 18 = conEq e_Event := rfl
theorem GD1_w : GD1 9 = conWorks := rfl
def conReads2 : Con := .pure (fun args hp => match args with | [.string ⟨⟨s⟩⟩] => s.length ≤ 1048576 ∧ VarsOk hp ∧ hp 0 = some tzO ∧ hp 7 = hdlE | _ => False) (fun _ _ => .bool true)
def stD (hp : Hp) (top : Nat) (s : List UInt8) (l : List T_Event) (k : Nat) : SS := ⟨[(0, .string ⟨⟨s⟩⟩, true), (8, mkSl top l, true), (9, mkSl (top + 1) l, true), (10, .pointer (some ⟨top + 2, 0, none⟩), true), (11, .int .i64 (k : Int), true)], hp.sets [(top, mkOb e_Event (zr l k)), (top + 1, mkOb e_Event l), (top + 2, some (.cells true 0 [.int .i64 0, .int .i64 0]))], top + 3⟩
def stD0 (hp : Hp) (top : Nat) (s : List UInt8) (c n : Int) (_ : Unit) : SS := ⟨[(0, .string ⟨⟨s⟩⟩, true), (8, .slice none 0 0, true), (9, .slice none 0 0, true), (10, .pointer (some ⟨top, 0, none⟩), true), (11, .int .i64 0, true)], hp.sets [(top, some (.cells true 0 [.int .i64 c, .int .i64 n]))], top + 1⟩
theorem reads2_ok : ConOk Tryz.prog 5 conReads2 := by
  refine .mkRd fn5_ok ?_ ?_
  · intro args hp h
    match args, h with
    | [.string ⟨⟨s⟩⟩], _ => rfl
  intro args hp hpre top hcl hsc
  match args, hpre with
  | [.string ⟨⟨s⟩⟩], ⟨hs, hv, ht, h7⟩ =>
  have ht0 := hcl.lt _ _ ht
  have hp1 := hv.1
  have ht1 := hcl.lt _ _ hp1
  have ht5 := vars_top hcl hv
  have h70 := hcl.lt _ _ h7
  have hv6 : ∀ {h' : Hp} {k : Nat} {o : Option AObj}, VarsOk (h'.set (top + k) o) = VarsOk h' := fun {h'} {k} {o} => vars_set (by omega)
  have m1 : (s.length < 4294967281) = True := eq_true (by omega)
  have m2 : (s.length ≤ 16000000) = True := eq_true (by omega)
  have hSn : ∀ {h' : Hp}, SlP e_Event h' (.slice none 0 0) = True := eq_true ⟨[], .nils⟩
  have hRn : ∀ {h' : Hp}, e_Event.rd h' (.slice none 0 0) = [] := SlT.nils.rd
  have hW0 : ∀ {h' : Hp}, WantOk h' .nilIface 0 0 = True := eq_true (.inl ⟨rfl, rfl⟩)
  have hW12 : ∀ {h' : Hp} {t : Nat}, h' t = some (.cells true 0 [.int .i64 12, .int .i64 0]) → WantOk h' (.iface 84 (.pointer (some ⟨t, 0, none⟩))) 12 0 = True := fun e => eq_true (.inr ⟨by decide, _, rfl, e⟩)
  have hpr : (∃ c n : Int, c ≠ 0 ∧ (∀ t, prV s t = (.tuple ⟨[.slice none 0 0, fltV t]⟩, [(t, fltO c n)], t + 1)) ∧ ∀ t, rpV s t = (.tuple ⟨[.slice none 0 0, .agg ⟨[.int .i64 c, .int .i64 n]⟩]⟩, [], t)) ∨
      (∃ l, l.length ≤ 16000000 ∧ (∀ t, prV s t = (.tuple ⟨[mkSl t l, .nilIface]⟩, [(t, mkOb e_Event l)], t + 1)) ∧ ∀ t, rpV s t = (.tuple ⟨[mkSl t l, .agg ⟨[.int .i64 0, .int .i64 0]⟩]⟩, [(t, mkOb e_Event l)], t + 1)) := by
    by_cases c1 : 65536 < s.length
    · exact .inl ⟨3, 0, by omega, fun t => by unfold prV; rw [if_pos c1], fun t => by unfold rpV; rw [if_pos c1]⟩
    · cases hk : prA s with
      | inr n => exact .inl ⟨12, n, by omega, fun t => by unfold prV; rw [if_neg c1, hk], fun t => by unfold rpV; rw [if_neg c1, hk]⟩
      | inl l =>
        have hb := prA_back hk
        have hg := evTxt_ge l
        rw [hb.2] at hg
        exact .inr ⟨l, by omega, fun t => by unfold prV; rw [if_neg c1, hk], fun t => by unfold rpV; rw [if_neg c1, hk]⟩
  rcases hpr with ⟨c, n, hc, hpv, hrv⟩ | ⟨l, hln, hpv, hrv⟩
  · have hWf : ∀ {h' : Hp} {t : Nat}, h' t = some (.cells true 0 [.int .i64 c, .int .i64 n]) → WantOk h' (.iface 84 (.pointer (some ⟨t, 0, none⟩))) c n = True := fun e => eq_true (.inr ⟨hc, _, rfl, e⟩)
    refine CalledOk.of_fun tt_ok fn5_ok rfl 82 rfl [.tmp 2] rfl (show 1 ≤ 82 by decide) ?_
    cases he : evP s with
    | none =>
      refine CW.vc envD1 [0, 2, 3, 4, 5, 6, 7, 8, 9, 10, 11, 12, 25, 35, 55, 59] (by kernel_rfl) ?_
      (repeat ((try refine Vc.mk' ?_); simp (config := { maxSteps := 6000000 }) only [go_sem, reduceCtorEq, Nat.reduceAdd, Nat.reduceLeDiff, Nat.reduceEqDiff, GD1_e, GD1_r, GD1_f, GD1_p, GD1_q, GD1_s, conEvent, conREv, conFault, conPar, conRPar, conEq, hv, ht, h7, set_lt ht0, set_lt h70, vars_set ht5, hv6, m1, m2, evV, he, hpv, hrv, fltV, fltO, hSn, hRn, hW12, hWf, ev_neqC, decide_true, Bool.not_true, Option.getD_none, Option.isSome_none]))
      refine CW.loopR (stD0 hp top s c n) (fun _ => True) (fun _ => 0) () trivial ((by refine SubR.mk' [top + 5] hcl (by simp) (by simp) rfl (frSub_ok ?_) ?_ ?_ <;> simp [frSub, lkG, ren, renL, UpdOk.nil, UpdOk.cons, renOO_some, renO_cells, rn_base, set_same, Keep.set, Keep.refl])) ?_
      · rintro ⟨⟩ _
        refine CW.vc envD1 [0, 2, 3, 4, 5, 6, 7, 8, 9, 10, 11, 12, 25, 35, 55, 59] (by kernel_rfl) ?_
        (repeat ((try refine Vc.mk' ?_); simp (config := { maxSteps := 6000000 }) only [go_sem, reduceCtorEq, Nat.reduceAdd, GD1_f, GD1_p, GD1_s, GD1_w, conFault, conPar, conEq, conWorks, hv, ht, h7, set_lt ht0, set_lt h70, vars_set ht5, hv6, slen_nilE, m1, hpv, fltV, fltO, hSn, hRn, stD0, hWf, Int.lt_irrefl, decide_false, decide_true]))
    | some x =>
      refine CW.vc envD1 [0, 2, 3, 4, 5, 6, 7, 8, 9, 10, 11, 12, 25, 35, 55, 59] (by kernel_rfl) ?_
      (repeat ((try refine Vc.mk' ?_); simp (config := { maxSteps := 6000000 }) only [go_sem, reduceCtorEq, Nat.reduceAdd, Nat.reduceEqDiff, GD1_e, GD1_r, GD1_f, GD1_p, GD1_q, GD1_s, conEvent, conREv, conFault, conPar, conRPar, conEq, hv, ht, h7, set_lt ht0, set_lt h70, vars_set ht5, hv6, m1, m2, evV, he, hpv, hrv, fltV, fltO, hSn, hRn, hW0, hWf, ev_neqC, decide_true, Bool.not_true, Option.getD_some, Option.isSome_some]))
      refine CW.loopR (stD0 hp top s c n) (fun _ => True) (fun _ => 0) () trivial ((by refine SubR.mk' [top + 4] hcl (by simp) (by simp) rfl (frSub_ok ?_) ?_ ?_ <;> simp [frSub, lkG, ren, renL, UpdOk.nil, UpdOk.cons, renOO_some, renO_cells, rn_base, set_same, Keep.set, Keep.refl])) ?_
      · rintro ⟨⟩ _
        refine CW.vc envD1 [0, 2, 3, 4, 5, 6, 7, 8, 9, 10, 11, 12, 25, 35, 55, 59] (by kernel_rfl) ?_
        (repeat ((try refine Vc.mk' ?_); simp (config := { maxSteps := 6000000 }) only [go_sem, reduceCtorEq, Nat.reduceAdd, GD1_f, GD1_p, GD1_s, GD1_w, conFault, conPar, conEq, conWorks, hv, ht, h7, set_lt ht0, set_lt h70, vars_set ht5, hv6, slen_nilE, m1, hpv, fltV, fltO, hSn, hRn, stD0, hWf, Int.lt_irrefl, decide_false, decide_true]))
  · have hSl : ∀ {h' : Hp} {t : Nat}, h' t = mkOb e_Event l → SlP e_Event h' (mkSl t l) = True := fun e => eq_true ⟨l, SlT.own e (by omega)⟩
    have hRd : ∀ {h' : Hp} {t : Nat}, h' t = mkOb e_Event l → e_Event.rd h' (mkSl t l) = l := fun e => (SlT.own e (by omega)).rd
    refine CalledOk.of_fun tt_ok fn5_ok rfl 82 rfl [.tmp 2] rfl (show 1 ≤ 82 by decide) ?_
    cases he : evP s with
    | none =>
      refine CW.vc envD1 [0, 2, 3, 4, 5, 6, 7, 8, 9, 10, 11, 12, 25, 35, 55, 59] (by kernel_rfl) ?_
      (repeat ((try refine Vc.mk' ?_); simp (config := { maxSteps := 6000000 }) only [go_sem, reduceCtorEq, Nat.reduceAdd, Nat.reduceLeDiff, Nat.reduceEqDiff, GD1_e, GD1_r, GD1_f, GD1_p, GD1_q, GD1_s, conEvent, conREv, conFault, conPar, conRPar, conEq, hv, ht, h7, set_lt ht0, set_lt h70, vars_set ht5, hv6, m1, m2, evV, he, hpv, hrv, hW0, hW12, hSl, hRd, ev_neqC, decide_true, Bool.not_true, Option.getD_none, Option.isSome_none]))
      refine CW.loopR (stD hp top s l) (fun k => k ≤ l.length) (fun k => l.length - k) 0 (Nat.zero_le _) ((by refine SubR.mk' [top + 4, top + 5, top + 6] hcl (by simp) (by simp) rfl (frSub_ok ?_) ?_ ?_ <;> simp [frSub, lkG, ren, renL, UpdOk.nil, UpdOk.cons, renOO_some, renO_cells, renOO_mkOb, rn_base, rn_add, ren_mkSl, set_same, set_ne, Keep.set, Keep.refl, zr_zero])) ?_
      · intro k hi
        have hm : ∀ {b j : Nat}, j ≤ l.length → mkSl b (zr l j) = mkSl b l := fun hj => mkSl_lens (zr_len hj)
        by_cases hlt : k < l.length
        · have kk : wrapA .i64 ((k : Int) + 1) = ((k + 1 : Nat) : Int) := wrap_succ hlt (by omega)
          have hix : ∀ {b : Nat}, sindexAddr tt.get 22 (mkSl b l) (.int .i64 (k : Int)) = (ptrS (mkSl b l) (k * 10), True) := fun {b} => by
            have := idx_sEvent (SlT.own (E := e_Event) (hp := fun _ => mkOb e_Event l) (b := b) (l := l) rfl (by omega)) (k := .i64) (n := (k : Int)) (by omega) (by omega)
            rwa [Int.toNat_natCast] at this
          have hos : ∀ {h' : Hp} {b : Nat}, h' b = mkOb e_Event (zr l k) → sstore tt.get h' 33 (ptrS (mkSl b l) (k * 10)) (.agg ⟨e_Event.enc zeroEv⟩) = ([(b, mkOb e_Event (zr l (k + 1)))], True) := fun {h'} {b} e => by
            have := os_sEvent (hp := h') (b := b) (l := zr l k) (i := k) e (by rw [zr_len hi]; exact hlt) (a0 := 0) (a1 := 0) (a2 := 0) (a3 := 0) (a4 := 0) (a5 := 0) (a6 := 0) (a7 := 0) (a8 := 0) (a9 := 0)
            rw [hm hi] at this
            rw [← zr_set hlt]
            exact this
          simp only [en_Event, zeroEv] at hos
          refine CW.vc envD1 [0, 2, 3, 4, 5, 6, 7, 8, 9, 10, 11, 12, 25, 35, 55, 59] (by kernel_rfl) ?_
          (repeat ((try refine Vc.mk' ?_); simp (config := { maxSteps := 6000000 }) only [go_sem, reduceCtorEq, stD, hlt, kk, hix, hos]))
          refine .mk (k + 1) hlt (by omega) ((by refine SubR.mk' [top, top + 1, top + 2] hcl (by simp) (by simp) rfl (frSub_ok ?_) ?_ ?_ <;> simp [frSub, lkG, ren, renL, UpdOk.nil, UpdOk.cons, renOO_some, renO_cells, renOO_mkOb, rn_base, rn_add, ren_mkSl, set_same, set_ne, Keep.set, Keep.refl]))
        · have hi2 : k = l.length := by omega
          subst hi2
          refine CW.vc envD1 [0, 2, 3, 4, 5, 6, 7, 8, 9, 10, 11, 12, 25, 35, 55, 59] (by kernel_rfl) ?_
          (repeat ((try refine Vc.mk' ?_); simp (config := { maxSteps := 6000000 }) only [go_sem, Nat.reduceAdd, Nat.reduceEqDiff, GD1_f, GD1_p, GD1_s, GD1_w, conFault, conPar, conEq, conWorks, hv, ht, h7, set_lt ht0, set_lt h70, vars_set ht5, hv6, m1, hpv, stD, hSl, hRd, hW0, Nat.lt_irrefl, decide_false, decide_true]))
    | some x =>
      refine CW.vc envD1 [0, 2, 3, 4, 5, 6, 7, 8, 9, 10, 11, 12, 25, 35, 55, 59] (by kernel_rfl) ?_
      (repeat ((try refine Vc.mk' ?_); simp (config := { maxSteps := 6000000 }) only [go_sem, reduceCtorEq, Nat.reduceAdd, Nat.reduceEqDiff, GD1_e, GD1_r, GD1_f, GD1_p, GD1_q, GD1_s, conEvent, conREv, conFault, conPar, conRPar, conEq, hv, ht, h7, set_lt ht0, set_lt h70, vars_set ht5, hv6, m1, m2, evV, he, hpv, hrv, hW0, hSl, hRd, ev_neqC, decide_true, Bool.not_true, Option.getD_some, Option.isSome_some]))
      refine CW.loopR (stD hp top s l) (fun k => k ≤ l.length) (fun k => l.length - k) 0 (Nat.zero_le _) ((by refine SubR.mk' [top + 3, top + 4, top + 5] hcl (by simp) (by simp) rfl (frSub_ok ?_) ?_ ?_ <;> simp [frSub, lkG, ren, renL, UpdOk.nil, UpdOk.cons, renOO_some, renO_cells, renOO_mkOb, rn_base, rn_add, ren_mkSl, set_same, set_ne, Keep.set, Keep.refl, zr_zero])) ?_
      · intro k hi
        have hm : ∀ {b j : Nat}, j ≤ l.length → mkSl b (zr l j) = mkSl b l := fun hj => mkSl_lens (zr_len hj)
        by_cases hlt : k < l.length
        · have kk : wrapA .i64 ((k : Int) + 1) = ((k + 1 : Nat) : Int) := wrap_succ hlt (by omega)
          have hix : ∀ {b : Nat}, sindexAddr tt.get 22 (mkSl b l) (.int .i64 (k : Int)) = (ptrS (mkSl b l) (k * 10), True) := fun {b} => by
            have := idx_sEvent (SlT.own (E := e_Event) (hp := fun _ => mkOb e_Event l) (b := b) (l := l) rfl (by omega)) (k := .i64) (n := (k : Int)) (by omega) (by omega)
            rwa [Int.toNat_natCast] at this
          have hos : ∀ {h' : Hp} {b : Nat}, h' b = mkOb e_Event (zr l k) → sstore tt.get h' 33 (ptrS (mkSl b l) (k * 10)) (.agg ⟨e_Event.enc zeroEv⟩) = ([(b, mkOb e_Event (zr l (k + 1)))], True) := fun {h'} {b} e => by
            have := os_sEvent (hp := h') (b := b) (l := zr l k) (i := k) e (by rw [zr_len hi]; exact hlt) (a0 := 0) (a1 := 0) (a2 := 0) (a3 := 0) (a4 := 0) (a5 := 0) (a6 := 0) (a7 := 0) (a8 := 0) (a9 := 0)
            rw [hm hi] at this
            rw [← zr_set hlt]
            exact this
          simp only [en_Event, zeroEv] at hos
          refine CW.vc envD1 [0, 2, 3, 4, 5, 6, 7, 8, 9, 10, 11, 12, 25, 35, 55, 59] (by kernel_rfl) ?_
          (repeat ((try refine Vc.mk' ?_); simp (config := { maxSteps := 6000000 }) only [go_sem, reduceCtorEq, stD, hlt, kk, hix, hos]))
          refine .mk (k + 1) hlt (by omega) ((by refine SubR.mk' [top, top + 1, top + 2] hcl (by simp) (by simp) rfl (frSub_ok ?_) ?_ ?_ <;> simp [frSub, lkG, ren, renL, UpdOk.nil, UpdOk.cons, renOO_some, renO_cells, renOO_mkOb, rn_base, rn_add, ren_mkSl, set_same, set_ne, Keep.set, Keep.refl]))
        · have hi2 : k = l.length := by omega
          subst hi2
          refine CW.vc envD1 [0, 2, 3, 4, 5, 6, 7, 8, 9, 10, 11, 12, 25, 35, 55, 59] (by kernel_rfl) ?_
          (repeat ((try refine Vc.mk' ?_); simp (config := { maxSteps := 6000000 }) only [go_sem, Nat.reduceAdd, Nat.reduceEqDiff, GD1_f, GD1_p, GD1_s, GD1_w, conFault, conPar, conEq, conWorks, hv, ht, h7, set_lt ht0, set_lt h70, vars_set ht5, hv6, m1, hpv, stD, hSl, hRd, hW0, Nat.lt_irrefl, decide_false, decide_true]))
end Go.Proofs.YthpibnpeaidabaaGreatDoor.Dm
