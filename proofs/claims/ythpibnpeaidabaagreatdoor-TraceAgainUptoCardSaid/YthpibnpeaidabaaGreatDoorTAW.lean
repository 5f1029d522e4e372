/- TraceAgain: the walk. -/
import Derived.Test.YthpibnpeaidabaaGreatDoorTPR
import Derived.Test.YthpibnpeaidabaaGreatDoorTPC
set_option linter.unusedSimpArgs false
set_option linter.unusedVariables false
namespace Go.Proofs.YthpibnpeaidabaaGreatDoor.Dm
open Go.Dm
set_option maxHeartbeats 16000000
set_option maxRecDepth 20000
theorem evTxt_ge : ∀ l : List T_Event, l.length ≤ (evTxt l).length
  | [] => Nat.le_refl _
  | x :: l => by
    have := evTxt_ge l
    rw [evTxt_cons]
    simp only [List.length_append, List.length_cons]
    omega
theorem prt_back {s : List UInt8} {l : List T_Event} (h : prA s = .inl l) (hn : s.length ≤ 65536) : prtV l = .tuple ⟨[.string ⟨⟨s⟩⟩, .int .i64 0]⟩ := by
  obtain ⟨h1, h2⟩ := prA_back h
  have ho : okAll l = true := by rw [okAll, List.all_eq_true]; exact fun x hx => (h1 x hx).2
  simp [prtV, prtS, prtN, ho, h2, hn]
theorem slen_nilE {h' : Hp} : slen tt.get h' 22 (.slice none 0 0) = (.int .i64 0, True) := by
  unfold slen
  simp only [k_sEvent]
  simp [lenA, t_sEvent, ti22]
def GA1 : FuncId → Con := addG (addG (addG (addG GT7 10 conPrt) 13 conPar) 9 conWorks) 14 conPlace
theorem envA1 : EnvV Tryz.prog tt.get GA1 := (((envT7.add prt_ok).add par_ok).add works_ok).add place_ok
theorem GA1_e : GA1 12 = conEvent := rfl
theorem GA1_l : GA1 11 = conLine := rfl
theorem GA1_p : GA1 10 = conPrt := rfl
theorem GA1_q : GA1 13 = conPar := rfl
theorem GA1_w : GA1 9 = conWorks := rfl
theorem GA1_c : GA1 14 = conPlace := rfl
def conAgain : Con := .pure (fun args hp => match args with | [.string ⟨⟨s⟩⟩] => s.length ≤ 1048576 ∧ VarsOk hp ∧ hp 0 = some tzO ∧ hp 7 = hdlE | _ => False) (fun _ _ => .bool true)
theorem again_ok : ConOk Tryz.prog 4 conAgain := by
  refine .mkRd fn4_ok ?_ ?_
  · intro args hp h
    match args, h with
    | [.string ⟨⟨s⟩⟩], _ => rfl
  intro args hp hpre top hcl hsc
  match args, hpre with
  | [.string ⟨⟨s⟩⟩], ⟨hs, hv, ht, h7⟩ =>
  have ht0 := hcl.lt _ _ ht
  have hp1 := hv.1
  have ht1 := hcl.lt _ _ hp1
  have ht5 := vars_top hcl hv
  have h70 := hcl.lt _ _ h7
  have hv6 : ∀ {h' : Hp} {k : Nat} {o : Option AObj}, VarsOk (h'.set (top + k) o) = VarsOk h' := fun {h'} {k} {o} => vars_set (by omega)
  have m1 : (s.length < 4294967281) = True := eq_true (by omega)
  have hL : ∀ x : T_Event, lineV x = .tuple ⟨[.string ⟨⟨lineF x⟩⟩, .int .i64 (if okE x then 0 else 2)]⟩ := fun _ => rfl
  have hpr : (∃ c n : Int, 0 ≤ n ∧ ∀ t, prV s t = (.tuple ⟨[.slice none 0 0, fltV t]⟩, [(t, fltO c n)], t + 1)) ∨
      (∃ l, (∀ x ∈ l, RngE x) ∧ l.length ≤ 16000000 ∧ prtV l = .tuple ⟨[.string ⟨⟨s⟩⟩, .int .i64 0]⟩ ∧ ∀ t, prV s t = (.tuple ⟨[mkSl t l, .nilIface]⟩, [(t, mkOb e_Event l)], t + 1)) := by
    by_cases c1 : 65536 < s.length
    · exact .inl ⟨3, 0, by omega, fun t => by unfold prV; rw [if_pos c1]⟩
    · cases hk : prA s with
      | inr n => exact .inl ⟨12, n, by omega, fun t => by unfold prV; rw [if_neg c1, hk]⟩
      | inl l =>
        have hb := prA_back hk
        have hg := evTxt_ge l
        rw [hb.2] at hg
        exact .inr ⟨l, fun x hx => (hb.1 x hx).1, by omega, prt_back hk (by omega), fun t => by unfold prV; rw [if_neg c1, hk]⟩
  rcases hpr with ⟨cc, n, hn, hpv⟩ | ⟨l, hall, hln, hprt, hpv⟩
  · have hEr : ∀ {h' : Hp} {t : Nat}, h' t = some (.cells true 0 [.int .i64 cc, .int .i64 n]) → ErrOk h' (.iface 84 (.pointer (some ⟨t, 0, none⟩))) = True := fun e => eq_true (.inr ⟨_, cc, n, rfl, e⟩)
    have hFn : ∀ {h' : Hp} {t : Nat}, h' t = some (.cells true 0 [.int .i64 cc, .int .i64 n]) → fltN h' t = n := fun e => fltN_eq (c := cc) e
    refine CalledOk.of_fun tt_ok fn4_ok rfl 58 rfl [.tmp 2] rfl (show 1 ≤ 58 by decide) ?_
    cases he : evP s with
    | none =>
      refine CW.vc envA1 [0, 2, 3, 4, 5, 6, 7, 8, 9, 11, 18, 30, 37] (by kernel_rfl) ?_
      (repeat ((try refine Vc.mk' ?_); simp (config := { maxSteps := 6000000 }) only [go_sem, reduceIte, reduceCtorEq, Nat.reduceAdd, Nat.reduceMul, Nat.reduceSub, Nat.reduceLT, Nat.reduceLeDiff, Nat.reduceEqDiff, Int.reduceEq, Int.reduceLT, Int.reduceLE, Int.reduceNe, GA1_e, GA1_l, GA1_p, GA1_q, GA1_w, GA1_c, conEvent, conLine, conPrt, conPar, conWorks, conPlace, hv, ht, hp1, h7, set_lt ht0, set_lt ht1, set_lt h70, vars_set ht5, hv6, slen_nilE, m1, evV, he, hpv, eql_n, eql_i, fltV, fltO, hEr, hFn, show (n < 0) = False from eq_false (by omega), decide_false, Bool.not_false]))
    | some x =>
      obtain ⟨c, hR, _⟩ := ev_some he
      have hlf := ev_lineF he
      have hI := isEv hR
      have hE := evOf_enc (x := x)
      simp only [en_Event] at hI hE
      refine CW.vc envA1 [0, 2, 3, 4, 5, 6, 7, 8, 9, 11, 18, 30, 37] (by kernel_rfl) ?_
      (repeat ((try refine Vc.mk' ?_); simp (config := { maxSteps := 6000000 }) only [go_sem, reduceIte, reduceCtorEq, Nat.reduceAdd, Nat.reduceMul, Nat.reduceSub, Nat.reduceLT, Nat.reduceLeDiff, Nat.reduceEqDiff, Int.reduceEq, Int.reduceLT, Int.reduceLE, Int.reduceNe, GA1_e, GA1_l, GA1_p, GA1_q, GA1_w, GA1_c, conEvent, conLine, conPrt, conPar, conWorks, conPlace, hv, ht, hp1, h7, set_lt ht0, set_lt ht1, set_lt h70, vars_set ht5, hv6, slen_nilE, m1, evV, he, hpv, eql_n, eql_i, fltV, fltO, hL, hI, hE, c, hlf, if_true, eqB_self, hEr, hFn, show (n < 0) = False from eq_false (by omega), decide_false, Bool.not_false]))
  · have hSl : ∀ {h' : Hp} {t : Nat}, h' t = mkOb e_Event l → SlP e_Event h' (mkSl t l) = True := fun e => eq_true ⟨l, SlT.own e (by omega)⟩
    have hRd : ∀ {h' : Hp} {t : Nat}, h' t = mkOb e_Event l → e_Event.rd h' (mkSl t l) = l := fun e => (SlT.own e (by omega)).rd
    have hal : (∀ x ∈ l, RngE x) = True := eq_true hall
    have hl2 : (l.length ≤ 16000000) = True := eq_true hln
    refine CalledOk.of_fun tt_ok fn4_ok rfl 58 rfl [.tmp 2] rfl (show 1 ≤ 58 by decide) ?_
    cases he : evP s with
    | none =>
      refine CW.vc envA1 [0, 2, 3, 4, 5, 6, 7, 8, 9, 11, 18, 30, 37] (by kernel_rfl) ?_
      (repeat ((try refine Vc.mk' ?_); simp (config := { maxSteps := 6000000 }) only [go_sem, reduceIte, reduceCtorEq, Nat.reduceAdd, Nat.reduceMul, Nat.reduceSub, Nat.reduceLT, Nat.reduceLeDiff, Nat.reduceEqDiff, Int.reduceEq, Int.reduceLT, Int.reduceLE, Int.reduceNe, GA1_e, GA1_l, GA1_p, GA1_q, GA1_w, GA1_c, conEvent, conLine, conPrt, conPar, conWorks, conPlace, hv, ht, hp1, h7, set_lt ht0, set_lt ht1, set_lt h70, vars_set ht5, hv6, slen_nilE, m1, evV, he, hpv, eql_n, eql_i, fltV, fltO, hSl, hRd, hal, hl2, hprt, eqB_self]))
    | some x =>
      obtain ⟨c, hR, _⟩ := ev_some he
      have hlf := ev_lineF he
      have hI := isEv hR
      have hE := evOf_enc (x := x)
      simp only [en_Event] at hI hE
      refine CW.vc envA1 [0, 2, 3, 4, 5, 6, 7, 8, 9, 11, 18, 30, 37] (by kernel_rfl) ?_
      (repeat ((try refine Vc.mk' ?_); simp (config := { maxSteps := 6000000 }) only [go_sem, reduceIte, reduceCtorEq, Nat.reduceAdd, Nat.reduceMul, Nat.reduceSub, Nat.reduceLT, Nat.reduceLeDiff, Nat.reduceEqDiff, Int.reduceEq, Int.reduceLT, Int.reduceLE, Int.reduceNe, GA1_e, GA1_l, GA1_p, GA1_q, GA1_w, GA1_c, conEvent, conLine, conPrt, conPar, conWorks, conPlace, hv, ht, hp1, h7, set_lt ht0, set_lt ht1, set_lt h70, vars_set ht5, hv6, slen_nilE, m1, evV, he, hpv, eql_n, eql_i, fltV, fltO, hL, hI, hE, c, hlf, if_true, eqB_self, hSl, hRd, hal, hl2, hprt]))
end Go.Proofs.YthpibnpeaidabaaGreatDoor.Dm
