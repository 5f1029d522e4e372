/- Print. -/
import Derived.Test.YthpibnpeaidabaaGreatDoorTBL
import Derived.Test.YthpibnpeaidabaaGreatDoorTPL
import Derived.Test.YthpibnpeaidabaaGreatDoorTSM
set_option linter.unusedSimpArgs false
set_option linter.unusedVariables false
namespace Go.Proofs.YthpibnpeaidabaaGreatDoor.Dm
open Go.Dm
set_option maxHeartbeats 16000000
set_option maxRecDepth 20000
def okAll (l : List T_Event) : Bool := l.all okE
def prtS (l : List T_Event) : List UInt8 := if okAll l = true ∧ (evTxt l).length ≤ 65536 then evTxt l else []
def prtN (l : List T_Event) : Int := if okAll l = true then if (evTxt l).length ≤ 65536 then 0 else 3 else 2
def prtV (l : List T_Event) : Value := .tuple ⟨[.string ⟨⟨prtS l⟩⟩, .int .i64 (prtN l)]⟩
def conPrt : Con := .pure (fun args hp => match args with | [v] => SlP e_Event hp v ∧ (∀ x ∈ e_Event.rd hp v, RngE x) ∧ (e_Event.rd hp v).length ≤ 16000000 ∧ hp 0 = some tzO ∧ hp 1 = some powO | _ => False)
  (fun args hp => match args with | [v] => prtV (e_Event.rd hp v) | _ => undef)
theorem ren_bldO {ρ : Nat → Nat} {a b : Value} : renOO ρ (bldO a b) = bldO (ren ρ a) (ren ρ b) := rfl
theorem ren_byO {ρ : Nat → Nat} {l : List UInt8} : renOO ρ (byO l) = byO l := by
  cases l with
  | nil => rfl
  | cons a l =>
    show some (AObj.cells true mkB (renL ρ (byV (a :: l)))) = some (.cells true mkB (byV (a :: l)))
    have : ∀ l : List UInt8, renL ρ (byV l) = byV l := fun l => by
      rw [renL_map, byV, List.map_map]; rfl
    rw [this]
theorem evTxt_snoc {l : List T_Event} {x : T_Event} : evTxt (l ++ [x]) = evTxt l ++ (lineF x ++ [10]) := by simp [evTxt]
theorem evTxt_take {l : List T_Event} {k : Nat} (h : k < l.length) : evTxt (l.take (k + 1)) = evTxt (l.take k) ++ (lineF (at' l k) ++ [10]) := by rw [take_at h, evTxt_snoc]
theorem lineF_len {x : T_Event} (h : RngE x) : (lineF x).length ≤ 2000 := by
  unfold lineF
  split
  · rename_i c; exact line_len h (okF.1 c)
  · exact Nat.zero_le _
theorem evTxt_len : ∀ {l : List T_Event}, (∀ x ∈ l, RngE x) → (evTxt l).length ≤ 2001 * l.length
  | [], _ => Nat.le_refl _
  | x :: l, h => by
    have h1 := evTxt_len (l := l) fun y hy => h y (by simp [hy])
    have h2 := lineF_len (h x (by simp))
    rw [evTxt_cons]
    simp only [List.length_append, List.length_cons]
    omega
theorem at_mem {α : Type} [Inhabited α] {l : List α} {k : Nat} (h : k < l.length) : at' l k ∈ l := by rw [at'_get _ _ h]; exact List.getElem_mem h
def bAd (top k : Nat) : Value := if k = 0 then .pointer none else .pointer (some ⟨top, 0, none⟩)
theorem bAd_ok {top k : Nat} : bAd top k = .pointer none ∨ bAd top k = .pointer (some ⟨top, 0, none⟩) := by unfold bAd; split <;> simp
def stPrt (hp : Hp) (top : Nat) (v : Value) (l : List T_Event) (k : Nat) : SS := ⟨[(4, .pointer (some ⟨top, 0, none⟩), true), (9, v, true), (10, .int .i64 (l.length : Int), true), (11, .int .i64 (k : Int), true)], hp.sets [(top, bldO (bAd top k) (mkSl (top + 1) (evTxt (l.take k)))), (top + 1, byO (evTxt (l.take k)))], top + 2⟩
def GPR : FuncId → Con := addG (addG (addG GT7 30 conWs) 31 conBLen) 32 conBStr
theorem envPR : EnvV Tryz.prog tt.get GPR := ((envT7.add ws_ok).add blen_ok).add bstr_ok
theorem GPR_w : GPR 30 = conWs := rfl
theorem GPR_n : GPR 31 = conBLen := rfl
theorem GPR_s : GPR 32 = conBStr := rfl
theorem GPR_l : GPR 11 = conLine := rfl
theorem prt_ok : ConOk Tryz.prog 10 conPrt := by
  refine .mkRd fn10_ok ?_ ?_
  · intro args hp h
    match args, h with
    | [v], _ => rfl
  intro args hp hpre top hcl hsc
  match args, hpre with
  | [v], ⟨⟨l, h⟩, hr, hb, ht, hp1⟩ =>
  have hs := h.low hcl
  have ht0 := hcl.lt _ _ ht
  have ht1 := hcl.lt _ _ hp1
  simp only [h.rd] at hb hr ⊢
  refine CalledOk.of_fun tt_ok fn10_ok rfl 30 rfl [.tmp 2, .tmp 3] rfl (show 1 ≤ 30 by decide) ?_
  refine CW.vc envPR [0, 2, 3, 4, 6, 7, 8, 9, 10, 11, 12, 21, 28] (by kernel_rfl) ?_
  (repeat ((try refine Vc.mk' ?_); simp (config := { maxSteps := 6000000 }) only [go_sem, reduceIte, reduceCtorEq, Nat.reduceAdd, Nat.reduceMul, Nat.reduceSub, Nat.reduceLT, Nat.reduceLeDiff, Nat.reduceEqDiff, Int.reduceEq, Int.reduceLT, Int.reduceLE, Int.reduceNe, len_sEvent h, idx_sEvent h, ld_sEvent h, sh_sEvent h, sw_sEvent h, sf_sEvent_0 h, sc_sEvent_0 h, sf_sEvent_1 h, sc_sEvent_1 h, sf_sEvent_2 h, sc_sEvent_2 h, sf_sEvent_3 h, sc_sEvent_3 h, sf_sEvent_4 h, sc_sEvent_4 h, sf_sEvent_5 h, sc_sEvent_5 h, sf_sEvent_6 h, h.P, h.oc, h.cl, h.rd, h.ref, strip_P hs, strip_rd hs, strip_ld hs, strip_sl h hs k_sEvent]))
  refine CW.loopR (stPrt hp top v l) (fun k => k ≤ l.length ∧ okAll (l.take k) = true) (fun k => l.length - k) 0 ⟨Nat.zero_le _, rfl⟩ ?_ ?_
  · exact (by refine SubR.mk' [top, top + 1] hcl (by simp) (by simp) rfl (frSub_ok ?_) ?_ ?_ <;> simp [frSub, lkG, ren, renL, renL_set, renL_ints, UpdOk.nil, UpdOk.cons, renOO_some, renO_cells, renO_map, renOO_mkOb, rn_base, rn_add, ren_mkSl, Enc.flat_ren, set_same, set_ne, sets_cons, sets_nil, Keep.set, Keep.setK, Keep.refl, Sc.ren (fun j hj => rn_low hj) hs, mkSl_nil, show bAd top 0 = .pointer none from rfl, show evTxt (l.take 0) = [] from rfl, show evTxt ([] : List T_Event) = [] from rfl, show byO [] = none from rfl, bldO])
  · rintro k ⟨hi, hok⟩
    by_cases hlt : k < l.length
    · have hR := hr _ (at_mem hlt)
      have kk : wrapA .i64 ((k : Int) + 1) = ((k + 1 : Nat) : Int) := wrap_succ hlt (by omega)
      have hI := isEv hR
      have hE := evOf_enc (x := at' l k)
      simp only [en_Event] at hI hE
      have hL : lineV (at' l k) = .tuple ⟨[.string ⟨⟨lineF (at' l k)⟩⟩, .int .i64 (if okE (at' l k) then 0 else 2)]⟩ := rfl
      by_cases c : okE (at' l k) = true
      · have hts := evTxt_take hlt
        have hll := lineF_len hR
        have hTl := evTxt_len (l := l.take k) fun x hx => hr x (List.mem_of_mem_take hx)
        have hTk : (l.take k).length ≤ 16000000 := by rw [List.length_take]; omega
        have n1 : ((lineF (at' l k)).length ≤ 4611686018427387903) = True := eq_true (by omega)
        generalize hT : evTxt (l.take k) = T at hts hTl
        have hP : ∀ {h' : Hp}, h' top = bldO (bAd top k) (mkSl (top + 1) T) → h' (top + 1) = byO T → BldAt h' top (bAd top k) (top + 1) T := fun a b => ⟨a, bAd_ok, b, by omega⟩
        have hpre : ∀ {h' : Hp}, h' top = bldO (bAd top k) (mkSl (top + 1) T) → h' (top + 1) = byO T → (∃ a j l_1, BldAt h' top a j l_1 ∧ l_1.length + (lineF (at' l k) ++ [10]).length ≤ 140737488355328) = True := fun a b => eq_true ⟨_, _, _, hP a b, by simp only [List.length_append, List.length_cons, List.length_nil]; omega⟩
        have hbL : ∀ {h' : Hp}, h' top = bldO (bAd top k) (mkSl (top + 1) T) → h' (top + 1) = byO T → bldL h' top = T := fun a b => (hP a b).l_eq
        have hb1 : bAd top (k + 1) = .pointer (some ⟨top, 0, none⟩) := rfl
        have hnx : okAll (l.take (k + 1)) = true := by rw [take_at hlt, okAll, List.all_append]; simp [c]; simpa [okAll] using hok
        by_cases k0 : T = []
        · have hbJ : ∀ {h' : Hp} {t : Nat}, h' top = bldO (bAd top k) (mkSl (top + 1) T) → h' (top + 1) = byO T → bldJ h' top t = t := fun a b => by
            have := hP a b
            rw [k0] at this
            exact this.j_nil
          refine CW.vc envPR [0, 2, 3, 4, 6, 7, 8, 9, 10, 11, 12, 21, 28] (by kernel_rfl) ?_
          (repeat ((try refine Vc.mk' ?_); simp (config := { maxSteps := 6000000 }) only [go_sem, reduceIte, reduceCtorEq, Nat.reduceAdd, Nat.reduceMul, Nat.reduceSub, Nat.reduceLT, Nat.reduceLeDiff, Nat.reduceEqDiff, Int.reduceEq, Int.reduceLT, Int.reduceLE, Int.reduceNe, len_sEvent h, idx_sEvent h, ld_sEvent h, sh_sEvent h, sw_sEvent h, sf_sEvent_0 h, sc_sEvent_0 h, sf_sEvent_1 h, sc_sEvent_1 h, sf_sEvent_2 h, sc_sEvent_2 h, sf_sEvent_3 h, sc_sEvent_3 h, sf_sEvent_4 h, sc_sEvent_4 h, sf_sEvent_5 h, sc_sEvent_5 h, sf_sEvent_6 h, h.P, h.oc, h.cl, h.rd, h.ref, strip_P hs, strip_rd hs, strip_ld hs, strip_sl h hs k_sEvent, stPrt, hT, hlt, kk, GPR_l, conLine, hI, hE, hL, c, if_true, ht, hp1, set_lt ht0, set_lt ht1, n1, GPR_w, conWs, hpre, wsU, hbL, hbJ]))
          refine .mk (k + 1) ⟨hlt, hnx⟩ (by omega) ((by refine SubR.mk' [top, top + 3] hcl (by simp) (by simp) rfl (frSub_ok ?_) ?_ ?_ <;> simp [frSub, lkG, ren, renL, renL_set, renL_ints, UpdOk.nil, UpdOk.cons, renOO_some, renO_cells, renO_map, renOO_mkOb, rn_base, rn_add, ren_mkSl, Enc.flat_ren, set_same, set_ne, sets_cons, sets_nil, Keep.set, Keep.setK, Keep.refl, Sc.ren (fun j hj => rn_low hj) hs, hts, ren_bldO, ren_byO, ren_mkSl, hb1]))
        · have hbJ : ∀ {h' : Hp} {t : Nat}, h' top = bldO (bAd top k) (mkSl (top + 1) T) → h' (top + 1) = byO T → bldJ h' top t = top + 1 := fun a b => (hP a b).j_eq k0
          refine CW.vc envPR [0, 2, 3, 4, 6, 7, 8, 9, 10, 11, 12, 21, 28] (by kernel_rfl) ?_
          (repeat ((try refine Vc.mk' ?_); simp (config := { maxSteps := 6000000 }) only [go_sem, reduceIte, reduceCtorEq, Nat.reduceAdd, Nat.reduceMul, Nat.reduceSub, Nat.reduceLT, Nat.reduceLeDiff, Nat.reduceEqDiff, Int.reduceEq, Int.reduceLT, Int.reduceLE, Int.reduceNe, len_sEvent h, idx_sEvent h, ld_sEvent h, sh_sEvent h, sw_sEvent h, sf_sEvent_0 h, sc_sEvent_0 h, sf_sEvent_1 h, sc_sEvent_1 h, sf_sEvent_2 h, sc_sEvent_2 h, sf_sEvent_3 h, sc_sEvent_3 h, sf_sEvent_4 h, sc_sEvent_4 h, sf_sEvent_5 h, sc_sEvent_5 h, sf_sEvent_6 h, h.P, h.oc, h.cl, h.rd, h.ref, strip_P hs, strip_rd hs, strip_ld hs, strip_sl h hs k_sEvent, stPrt, hT, hlt, kk, GPR_l, conLine, hI, hE, hL, c, if_true, ht, hp1, set_lt ht0, set_lt ht1, n1, GPR_w, conWs, hpre, wsU, hbL, hbJ]))
          refine .mk (k + 1) ⟨hlt, hnx⟩ (by omega) ((by refine SubR.mk' [top, top + 3] hcl (by simp) (by simp) rfl (frSub_ok ?_) ?_ ?_ <;> simp [frSub, lkG, ren, renL, renL_set, renL_ints, UpdOk.nil, UpdOk.cons, renOO_some, renO_cells, renO_map, renOO_mkOb, rn_base, rn_add, ren_mkSl, Enc.flat_ren, set_same, set_ne, sets_cons, sets_nil, Keep.set, Keep.setK, Keep.refl, Sc.ren (fun j hj => rn_low hj) hs, hts, ren_bldO, ren_byO, ren_mkSl, hb1]))
      · have c' : okE (at' l k) = false := by simpa using c
        have hno : okAll l = false := by
          rw [okAll, List.all_eq_false]
          exact ⟨_, at_mem hlt, by simpa using c⟩
        have e : prtV l = .tuple ⟨[.string ⟨⟨[]⟩⟩, .int .i64 2]⟩ := by simp [prtV, prtS, prtN, hno]
        rw [e]
        have hl0 : lineF (at' l k) = [] := by unfold lineF; rw [if_neg c]
        refine CW.vc envPR [0, 2, 3, 4, 6, 7, 8, 9, 10, 11, 12, 21, 28] (by kernel_rfl) ?_
        (repeat ((try refine Vc.mk' ?_); simp (config := { maxSteps := 6000000 }) only [go_sem, reduceIte, reduceCtorEq, Nat.reduceAdd, Nat.reduceMul, Nat.reduceSub, Nat.reduceLT, Nat.reduceLeDiff, Nat.reduceEqDiff, Int.reduceEq, Int.reduceLT, Int.reduceLE, Int.reduceNe, len_sEvent h, idx_sEvent h, ld_sEvent h, sh_sEvent h, sw_sEvent h, sf_sEvent_0 h, sc_sEvent_0 h, sf_sEvent_1 h, sc_sEvent_1 h, sf_sEvent_2 h, sc_sEvent_2 h, sf_sEvent_3 h, sc_sEvent_3 h, sf_sEvent_4 h, sc_sEvent_4 h, sf_sEvent_5 h, sc_sEvent_5 h, sf_sEvent_6 h, h.P, h.oc, h.cl, h.rd, h.ref, strip_P hs, strip_rd hs, strip_ld hs, strip_sl h hs k_sEvent, stPrt, hlt, kk, GPR_l, conLine, hI, hE, hL, c', hl0, if_false, ht, hp1, set_lt ht0, set_lt ht1]))
    · have hi2 : k = l.length := by omega
      subst hi2
      rw [List.take_length] at hok
      have hTl := evTxt_len (l := l) hr
      have hP : ∀ {h' : Hp}, h' top = bldO (bAd top l.length) (mkSl (top + 1) (evTxt l)) → h' (top + 1) = byO (evTxt l) → BldAt h' top (bAd top l.length) (top + 1) (evTxt l) := fun a b => ⟨a, bAd_ok, b, by omega⟩
      have hp2 : ∀ {h' : Hp}, h' top = bldO (bAd top l.length) (mkSl (top + 1) (evTxt l)) → h' (top + 1) = byO (evTxt l) → (∃ a j l_1, BldAt h' top a j l_1) = True := fun a b => eq_true ⟨_, _, _, hP a b⟩
      have hp3 : ∀ {h' : Hp}, h' top = bldO (bAd top l.length) (mkSl (top + 1) (evTxt l)) → h' (top + 1) = byO (evTxt l) → (∃ a j l_1, BldAt h' top a j l_1 ∧ l_1.length ≤ 140737488355328) = True := fun a b => eq_true ⟨_, _, _, hP a b, by omega⟩
      have hbL : ∀ {h' : Hp}, h' top = bldO (bAd top l.length) (mkSl (top + 1) (evTxt l)) → h' (top + 1) = byO (evTxt l) → bldL h' top = evTxt l := fun a b => (hP a b).l_eq
      by_cases c : (evTxt l).length ≤ 65536
      · have e : prtV l = .tuple ⟨[.string ⟨⟨evTxt l⟩⟩, .int .i64 0]⟩ := by simp [prtV, prtS, prtN, hok, c]
        rw [e]
        have c' : ¬ (65536 : Int) < ((evTxt l).length : Int) := by omega
        have hbJ : (∀ {h' : Hp} {t : Nat}, h' top = bldO (bAd top l.length) (mkSl (top + 1) (evTxt l)) → h' (top + 1) = byO (evTxt l) → bldJ h' top t = t) ∨ (∀ {h' : Hp} {t : Nat}, h' top = bldO (bAd top l.length) (mkSl (top + 1) (evTxt l)) → h' (top + 1) = byO (evTxt l) → bldJ h' top t = top + 1) := by
          by_cases k0 : evTxt l = []
          · refine .inl fun {h'} {t} a b => ?_
            have := hP a b
            rw [k0] at this
            exact this.j_nil
          · exact .inr fun a b => (hP a b).j_eq k0
        rcases hbJ with hbJ | hbJ
        · refine CW.vc envPR [0, 2, 3, 4, 6, 7, 8, 9, 10, 11, 12, 21, 28] (by kernel_rfl) ?_
          (repeat ((try refine Vc.mk' ?_); simp (config := { maxSteps := 6000000 }) only [go_sem, reduceIte, reduceCtorEq, Nat.reduceAdd, Nat.reduceMul, Nat.reduceSub, Nat.reduceLT, Nat.reduceLeDiff, Nat.reduceEqDiff, Int.reduceEq, Int.reduceLT, Int.reduceLE, Int.reduceNe, len_sEvent h, idx_sEvent h, ld_sEvent h, sh_sEvent h, sw_sEvent h, sf_sEvent_0 h, sc_sEvent_0 h, sf_sEvent_1 h, sc_sEvent_1 h, sf_sEvent_2 h, sc_sEvent_2 h, sf_sEvent_3 h, sc_sEvent_3 h, sf_sEvent_4 h, sc_sEvent_4 h, sf_sEvent_5 h, sc_sEvent_5 h, sf_sEvent_6 h, h.P, h.oc, h.cl, h.rd, h.ref, strip_P hs, strip_rd hs, strip_ld hs, strip_sl h hs k_sEvent, stPrt, Nat.lt_irrefl, decide_false, List.take_length, GPR_n, conBLen, hp2, hbL, hbJ, c', GPR_s, conBStr, hp3]))
        · refine CW.vc envPR [0, 2, 3, 4, 6, 7, 8, 9, 10, 11, 12, 21, 28] (by kernel_rfl) ?_
          (repeat ((try refine Vc.mk' ?_); simp (config := { maxSteps := 6000000 }) only [go_sem, reduceIte, reduceCtorEq, Nat.reduceAdd, Nat.reduceMul, Nat.reduceSub, Nat.reduceLT, Nat.reduceLeDiff, Nat.reduceEqDiff, Int.reduceEq, Int.reduceLT, Int.reduceLE, Int.reduceNe, len_sEvent h, idx_sEvent h, ld_sEvent h, sh_sEvent h, sw_sEvent h, sf_sEvent_0 h, sc_sEvent_0 h, sf_sEvent_1 h, sc_sEvent_1 h, sf_sEvent_2 h, sc_sEvent_2 h, sf_sEvent_3 h, sc_sEvent_3 h, sf_sEvent_4 h, sc_sEvent_4 h, sf_sEvent_5 h, sc_sEvent_5 h, sf_sEvent_6 h, h.P, h.oc, h.cl, h.rd, h.ref, strip_P hs, strip_rd hs, strip_ld hs, strip_sl h hs k_sEvent, stPrt, Nat.lt_irrefl, decide_false, List.take_length, GPR_n, conBLen, hp2, hbL, hbJ, c', GPR_s, conBStr, hp3]))
      · have e : prtV l = .tuple ⟨[.string ⟨⟨[]⟩⟩, .int .i64 3]⟩ := by simp [prtV, prtS, prtN, hok, c]
        rw [e]
        have c' : (65536 : Int) < ((evTxt l).length : Int) := by omega
        refine CW.vc envPR [0, 2, 3, 4, 6, 7, 8, 9, 10, 11, 12, 21, 28] (by kernel_rfl) ?_
        (repeat ((try refine Vc.mk' ?_); simp (config := { maxSteps := 6000000 }) only [go_sem, reduceIte, reduceCtorEq, Nat.reduceAdd, Nat.reduceMul, Nat.reduceSub, Nat.reduceLT, Nat.reduceLeDiff, Nat.reduceEqDiff, Int.reduceEq, Int.reduceLT, Int.reduceLE, Int.reduceNe, len_sEvent h, idx_sEvent h, ld_sEvent h, sh_sEvent h, sw_sEvent h, sf_sEvent_0 h, sc_sEvent_0 h, sf_sEvent_1 h, sc_sEvent_1 h, sf_sEvent_2 h, sc_sEvent_2 h, sf_sEvent_3 h, sc_sEvent_3 h, sf_sEvent_4 h, sc_sEvent_4 h, sf_sEvent_5 h, sc_sEvent_5 h, sf_sEvent_6 h, h.P, h.oc, h.cl, h.rd, h.ref, strip_P hs, strip_rd hs, strip_ld hs, strip_sl h hs k_sEvent, stPrt, Nat.lt_irrefl, decide_false, List.take_length, GPR_n, conBLen, hp2, hbL, c']))
end Go.Proofs.YthpibnpeaidabaaGreatDoor.Dm
