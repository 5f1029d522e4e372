/- TraceBack: the walk. -/
import Derived.Test.YthpibnpeaidabaaGreatDoorTBP
import Derived.Test.YthpibnpeaidabaaGreatDoorTRW
set_option linter.unusedSimpArgs false
set_option linter.unusedVariables false
namespace Go.Proofs.YthpibnpeaidabaaGreatDoor.Dm
open Go.Dm
set_option maxHeartbeats 16000000
set_option maxRecDepth 20000
theorem slice_strHi {h' : Hp} {s : List UInt8} {i : Nat} (h2 : i ≤ s.length) : sslice tt.get h' 9 (.string ⟨⟨s⟩⟩) none (some (.int .i64 (i : Int))) = (.string ⟨⟨s.take i⟩⟩, True) := by
  have := slice_strW (h' := h') (s := s) (f := 0) (i := i) (Nat.zero_le _) h2
  unfold sslice at this ⊢
  simp only [k_string] at this ⊢
  simpa [sbound, isBound] using this
def conBack : Con := .pure (fun args hp => match args with | [v, .int .i64 a] => SlP e_Event hp v ∧ (∀ x ∈ e_Event.rd hp v, RngE x) ∧ (e_Event.rd hp v).length ≤ 1048576 ∧ VarsOk hp ∧ hp 0 = some tzO ∧ hp 7 = hdlE | _ => False) (fun _ _ => .bool true)
def stB1 (hp : Hp) (top : Nat) (v : Value) (a : Int) (l : List T_Event) (k : Nat) : SS := ⟨[(0, v, true), (1, .int .i64 a, true), (4, .bool false, true), (5, .string ⟨⟨prtS l⟩⟩, true), (6, .int .i64 (prtN l), true), (7, .int .i64 (k : Int), true)], hp.sets [], top + 0⟩
def stB2 (hp : Hp) (top : Nat) (v : Value) (a : Int) (l : List T_Event) (k : Nat) : SS := ⟨[(0, v, true), (1, .int .i64 a, true), (4, .bool false, true), (5, .string ⟨⟨evTxt l⟩⟩, true), (12, mkSl top l, true), (14, .int .i64 (k : Int), true)], hp.sets [(top, mkOb e_Event l)], top + 1⟩
theorem back_ok : ConOk Tryz.prog 3 conBack := by
  refine .mkRd fn3_ok ?_ ?_
  · intro args hp h
    match args, h with
    | [v, .int .i64 a], _ => rfl
  intro args hp hpre top hcl hsc
  match args, hpre with
  | [v, .int .i64 a], ⟨⟨l, h⟩, hr, hb, hv, ht, h7⟩ =>
  have hs := h.low hcl
  have ht0 := hcl.lt _ _ ht
  have hp1 := hv.1
  have ht1 := hcl.lt _ _ hp1
  have ht5 := vars_top hcl hv
  have h70 := hcl.lt _ _ h7
  have hv6 : ∀ {h' : Hp} {k : Nat} {o : Option AObj}, VarsOk (h'.set (top + k) o) = VarsOk h' := fun {h'} {k} {o} => vars_set (by omega)
  simp only [h.rd] at hb hr
  have hbl : (l.length ≤ 16000000) = True := eq_true (by omega)
  have hal : (∀ x ∈ l, RngE x) = True := eq_true hr
  have hL : ∀ x : T_Event, lineV x = .tuple ⟨[.string ⟨⟨lineF x⟩⟩, .int .i64 (if okE x then 0 else 2)]⟩ := fun _ => rfl
  have hPV : prtV l = .tuple ⟨[.string ⟨⟨prtS l⟩⟩, .int .i64 (prtN l)]⟩ := rfl
  refine CalledOk.of_fun tt_ok fn3_ok rfl 162 rfl [.tmp 4] rfl (show 2 ≤ 162 by decide) ?_
  refine CW.vc envA1 [0, 1, 4, 5, 6, 7, 8, 9, 10, 11, 12, 13, 14, 15, 16, 17, 18, 19, 21, 30, 71, 73, 89, 93, 104, 107, 144, 146] (by kernel_rfl) ?_
  (repeat ((try refine Vc.mk' ?_); simp (config := { maxSteps := 6000000 }) only [go_sem, reduceIte, reduceCtorEq, Nat.reduceAdd, Nat.reduceMul, Nat.reduceSub, Nat.reduceLT, Nat.reduceLeDiff, Nat.reduceEqDiff, Int.reduceEq, Int.reduceLT, Int.reduceLE, Int.reduceNe, len_sEvent h, idx_sEvent h, ld_sEvent h, sh_sEvent h, sw_sEvent h, sf_sEvent_0 h, sc_sEvent_0 h, sf_sEvent_1 h, sc_sEvent_1 h, sf_sEvent_2 h, sc_sEvent_2 h, sf_sEvent_3 h, sc_sEvent_3 h, sf_sEvent_4 h, sc_sEvent_4 h, sf_sEvent_5 h, sc_sEvent_5 h, sf_sEvent_6 h, h.P, h.oc, h.cl, h.rd, h.ref, strip_P hs, strip_rd hs, strip_ld hs, strip_sl h hs k_sEvent, GA1_e, GA1_l, GA1_p, GA1_q, GA1_w, GA1_c, conEvent, conLine, conPrt, conPar, conWorks, conPlace, hv, ht, hp1, h7, set_lt ht0, set_lt ht1, set_lt h70, vars_set ht5, hv6, slen_nilE, evV, eql_n, eql_i, neq_n, neq_i, fltV, fltO, hal, hbl, hPV]))
  refine CW.loopR (stB1 hp top v a l) (fun k => k ≤ l.length) (fun k => l.length - k) 0 (Nat.zero_le _) ?_ ?_
  · exact (by refine SubR.mk' [] hcl (by simp) (by simp) rfl (frSub_ok ?_) ?_ ?_ <;> simp [frSub, lkG, ren, renL, renL_set, renL_ints, UpdOk.nil, UpdOk.cons, renOO_some, renO_cells, renO_map, renOO_mkOb, rn_base, rn_add, ren_mkSl, Enc.flat_ren, set_same, set_ne, sets_cons, sets_nil, Keep.set, Keep.setK, Keep.refl, Sc.ren (fun j hj => rn_low hj) hs])
  · intro k hi
    by_cases hlt : k < l.length
    · have kk : wrapA .i64 ((k : Int) + 1) = ((k + 1 : Nat) : Int) := wrap_succ hlt (by omega)
      have hR := hr _ (at_mem hlt)
      have hI := isEv hR
      have hE := evOf_enc (x := at' l k)
      simp only [en_Event] at hI hE
      have hll := lineF_len hR
      have m1 : ((lineF (at' l k)).length < 4294967281) = True := eq_true (by omega)
      by_cases c : okE (at' l k) = true
      · have he : evP (lineF (at' l k)) = some (at' l k) := evP_iff.2 ⟨hR, c, rfl⟩
        refine CW.vc envA1 [0, 1, 4, 5, 6, 7, 8, 9, 10, 11, 12, 13, 14, 15, 16, 17, 18, 19, 21, 30, 71, 73, 89, 93, 104, 107, 144, 146] (by kernel_rfl) ?_
        (repeat ((try refine Vc.mk' ?_); simp (config := { maxSteps := 6000000 }) only [go_sem, reduceIte, reduceCtorEq, Nat.reduceAdd, Nat.reduceMul, Nat.reduceSub, Nat.reduceLT, Nat.reduceLeDiff, Nat.reduceEqDiff, Int.reduceEq, Int.reduceLT, Int.reduceLE, Int.reduceNe, len_sEvent h, idx_sEvent h, ld_sEvent h, sh_sEvent h, sw_sEvent h, sf_sEvent_0 h, sc_sEvent_0 h, sf_sEvent_1 h, sc_sEvent_1 h, sf_sEvent_2 h, sc_sEvent_2 h, sf_sEvent_3 h, sc_sEvent_3 h, sf_sEvent_4 h, sc_sEvent_4 h, sf_sEvent_5 h, sc_sEvent_5 h, sf_sEvent_6 h, h.P, h.oc, h.cl, h.rd, h.ref, strip_P hs, strip_rd hs, strip_ld hs, strip_sl h hs k_sEvent, GA1_e, GA1_l, GA1_p, GA1_q, GA1_w, GA1_c, conEvent, conLine, conPrt, conPar, conWorks, conPlace, hv, ht, hp1, h7, set_lt ht0, set_lt ht1, set_lt h70, vars_set ht5, hv6, slen_nilE, evV, eql_n, eql_i, neq_n, neq_i, fltV, fltO, stB1, hlt, kk, hL, hI, hE, c, if_true, m1, he, ev_neqC, decide_true, Bool.not_true]))
        refine .mk (k + 1) hlt (by omega) ((by refine SubR.mk' [] hcl (by simp) (by simp) rfl (frSub_ok ?_) ?_ ?_ <;> simp [frSub, lkG, ren, renL, renL_set, renL_ints, UpdOk.nil, UpdOk.cons, renOO_some, renO_cells, renO_map, renOO_mkOb, rn_base, rn_add, ren_mkSl, Enc.flat_ren, set_same, set_ne, sets_cons, sets_nil, Keep.set, Keep.setK, Keep.refl, Sc.ren (fun j hj => rn_low hj) hs]))
      · have c' : okE (at' l k) = false := by simpa using c
        have hl0 : lineF (at' l k) = [] := by unfold lineF; rw [if_neg c]
        have hno : okAll l = false := by
          rw [okAll, List.all_eq_false]
          exact ⟨_, at_mem hlt, by simpa using c⟩
        have hN : prtN l = 2 := by simp [prtN, hno]
        refine CW.vc envA1 [0, 1, 4, 5, 6, 7, 8, 9, 10, 11, 12, 13, 14, 15, 16, 17, 18, 19, 21, 30, 71, 73, 89, 93, 104, 107, 144, 146] (by kernel_rfl) ?_
        (repeat ((try refine Vc.mk' ?_); simp (config := { maxSteps := 6000000 }) only [go_sem, reduceIte, reduceCtorEq, Nat.reduceAdd, Nat.reduceMul, Nat.reduceSub, Nat.reduceLT, Nat.reduceLeDiff, Nat.reduceEqDiff, Int.reduceEq, Int.reduceLT, Int.reduceLE, Int.reduceNe, len_sEvent h, idx_sEvent h, ld_sEvent h, sh_sEvent h, sw_sEvent h, sf_sEvent_0 h, sc_sEvent_0 h, sf_sEvent_1 h, sc_sEvent_1 h, sf_sEvent_2 h, sc_sEvent_2 h, sf_sEvent_3 h, sc_sEvent_3 h, sf_sEvent_4 h, sc_sEvent_4 h, sf_sEvent_5 h, sc_sEvent_5 h, sf_sEvent_6 h, h.P, h.oc, h.cl, h.rd, h.ref, strip_P hs, strip_rd hs, strip_ld hs, strip_sl h hs k_sEvent, GA1_e, GA1_l, GA1_p, GA1_q, GA1_w, GA1_c, conEvent, conLine, conPrt, conPar, conWorks, conPlace, hv, ht, hp1, h7, set_lt ht0, set_lt ht1, set_lt h70, vars_set ht5, hv6, slen_nilE, evV, eql_n, eql_i, neq_n, neq_i, fltV, fltO, stB1, hlt, kk, hL, hI, hE, c', hl0, if_false, evP_nil, hN, eqB_self]))
        refine .mk (k + 1) hlt (by omega) ((by refine SubR.mk' [] hcl (by simp) (by simp) rfl (frSub_ok ?_) ?_ ?_ <;> simp [frSub, lkG, ren, renL, renL_set, renL_ints, UpdOk.nil, UpdOk.cons, renOO_some, renO_cells, renO_map, renOO_mkOb, rn_base, rn_add, ren_mkSl, Enc.flat_ren, set_same, set_ne, sets_cons, sets_nil, Keep.set, Keep.setK, Keep.refl, Sc.ren (fun j hj => rn_low hj) hs, hN]))
    · have hi2 : k = l.length := by omega
      subst hi2
      by_cases hz : okAll l = true ∧ (evTxt l).length ≤ 65536
      · obtain ⟨hok, hln⟩ := hz
        have hS : prtS l = evTxt l := by simp [prtS, hok, hln]
        have hN : prtN l = 0 := by simp [prtN, hok, hln]
        have hall : ∀ x ∈ l, RngE x ∧ okE x = true := fun x hx => ⟨hr x hx, okAll_iff.1 hok x hx⟩
        have c1 : ¬ 65536 < (evTxt l).length := by omega
        have hpv : ∀ t, prV (evTxt l) t = (.tuple ⟨[mkSl t l, .nilIface]⟩, [(t, mkOb e_Event l)], t + 1) := fun t => by unfold prV; rw [if_neg c1, prA_txt hall]
        have m2 : ((evTxt l).length < 4294967281) = True := eq_true (by omega)
        have hln2 : ∀ {h' : Hp} {t : Nat}, h' t = mkOb e_Event l → slen tt.get h' 22 (mkSl t l) = (.int .i64 (l.length : Int), True) := fun e => len_sEvent (SlT.own e (by omega))
        refine CW.vc envA1 [0, 1, 4, 5, 6, 7, 8, 9, 10, 11, 12, 13, 14, 15, 16, 17, 18, 19, 21, 30, 71, 73, 89, 93, 104, 107, 144, 146] (by kernel_rfl) ?_
        (repeat ((try refine Vc.mk' ?_); simp (config := { maxSteps := 6000000 }) only [go_sem, reduceIte, reduceCtorEq, Nat.reduceAdd, Nat.reduceMul, Nat.reduceSub, Nat.reduceLT, Nat.reduceLeDiff, Nat.reduceEqDiff, Int.reduceEq, Int.reduceLT, Int.reduceLE, Int.reduceNe, len_sEvent h, idx_sEvent h, ld_sEvent h, sh_sEvent h, sw_sEvent h, sf_sEvent_0 h, sc_sEvent_0 h, sf_sEvent_1 h, sc_sEvent_1 h, sf_sEvent_2 h, sc_sEvent_2 h, sf_sEvent_3 h, sc_sEvent_3 h, sf_sEvent_4 h, sc_sEvent_4 h, sf_sEvent_5 h, sc_sEvent_5 h, sf_sEvent_6 h, h.P, h.oc, h.cl, h.rd, h.ref, strip_P hs, strip_rd hs, strip_ld hs, strip_sl h hs k_sEvent, GA1_e, GA1_l, GA1_p, GA1_q, GA1_w, GA1_c, conEvent, conLine, conPrt, conPar, conWorks, conPlace, hv, ht, hp1, h7, set_lt ht0, set_lt ht1, set_lt h70, vars_set ht5, hv6, slen_nilE, evV, eql_n, eql_i, neq_n, neq_i, fltV, fltO, stB1, Nat.lt_irrefl, decide_false, hS, hN, m2, hpv, hln2, decide_true]))
        refine CW.loopR (stB2 hp top v a l) (fun k => k ≤ l.length) (fun k => l.length - k) 0 (Nat.zero_le _) ?_ ?_
        · exact (by refine SubR.mk' [top] hcl (by simp) (by simp) rfl (frSub_ok ?_) ?_ ?_ <;> simp [frSub, lkG, ren, renL, renL_set, renL_ints, UpdOk.nil, UpdOk.cons, renOO_some, renO_cells, renO_map, renOO_mkOb, rn_base, rn_add, ren_mkSl, Enc.flat_ren, set_same, set_ne, sets_cons, sets_nil, Keep.set, Keep.setK, Keep.refl, Sc.ren (fun j hj => rn_low hj) hs])
        · intro k hi
          by_cases hlt2 : k < l.length
          · have kk : wrapA .i64 ((k : Int) + 1) = ((k + 1 : Nat) : Int) := wrap_succ hlt2 (by omega)
            have hB0 : SlT e_Event (hp.set top (mkOb e_Event l)) (mkSl top l) l := SlT.own (by simp [Hp.set]) (by omega)
            refine CW.vc envA1 [0, 1, 4, 5, 6, 7, 8, 9, 10, 11, 12, 13, 14, 15, 16, 17, 18, 19, 21, 30, 71, 73, 89, 93, 104, 107, 144, 146] (by kernel_rfl) ?_
            (repeat ((try refine Vc.mk' ?_); simp (config := { maxSteps := 6000000 }) only [go_sem, reduceIte, reduceCtorEq, Nat.reduceAdd, Nat.reduceMul, Nat.reduceSub, Nat.reduceLT, Nat.reduceLeDiff, Nat.reduceEqDiff, Int.reduceEq, Int.reduceLT, Int.reduceLE, Int.reduceNe, len_sEvent h, idx_sEvent h, ld_sEvent h, sh_sEvent h, sw_sEvent h, sf_sEvent_0 h, sc_sEvent_0 h, sf_sEvent_1 h, sc_sEvent_1 h, sf_sEvent_2 h, sc_sEvent_2 h, sf_sEvent_3 h, sc_sEvent_3 h, sf_sEvent_4 h, sc_sEvent_4 h, sf_sEvent_5 h, sc_sEvent_5 h, sf_sEvent_6 h, h.P, h.oc, h.cl, h.rd, h.ref, strip_P hs, strip_rd hs, strip_ld hs, strip_sl h hs k_sEvent, len_sEvent hB0, idx_sEvent hB0, ld_sEvent hB0, sh_sEvent hB0, sw_sEvent hB0, sf_sEvent_0 hB0, sc_sEvent_0 hB0, sf_sEvent_1 hB0, sc_sEvent_1 hB0, sf_sEvent_2 hB0, sc_sEvent_2 hB0, sf_sEvent_3 hB0, sc_sEvent_3 hB0, sf_sEvent_4 hB0, sc_sEvent_4 hB0, sf_sEvent_5 hB0, sc_sEvent_5 hB0, sf_sEvent_6 hB0, hB0.P, hB0.oc, hB0.cl, hB0.rd, hB0.ref, GA1_e, GA1_l, GA1_p, GA1_q, GA1_w, GA1_c, conEvent, conLine, conPrt, conPar, conWorks, conPlace, hv, ht, hp1, h7, set_lt ht0, set_lt ht1, set_lt h70, vars_set ht5, hv6, slen_nilE, evV, eql_n, eql_i, neq_n, neq_i, fltV, fltO, stB2, hlt2, kk, ev_neqC, decide_true, Bool.not_true]))
            refine .mk (k + 1) hlt2 (by omega) ((by refine SubR.mk' [top] hcl (by simp) (by simp) rfl (frSub_ok ?_) ?_ ?_ <;> simp [frSub, lkG, ren, renL, renL_set, renL_ints, UpdOk.nil, UpdOk.cons, renOO_some, renO_cells, renO_map, renOO_mkOb, rn_base, rn_add, ren_mkSl, Enc.flat_ren, set_same, set_ne, sets_cons, sets_nil, Keep.set, Keep.setK, Keep.refl, Sc.ren (fun j hj => rn_low hj) hs]))
          · have hi3 : k = l.length := by omega
            subst hi3
            have hcutV : ∀ n, prtV (l.take n) = .tuple ⟨[.string ⟨⟨evTxt (l.take n)⟩⟩, .int .i64 0]⟩ ∧ prtV (l.drop n) = .tuple ⟨[.string ⟨⟨evTxt (l.drop n)⟩⟩, .int .i64 0]⟩ := fun n => by
              have e := evTxt_cut (l := l) (n := n)
              have e2 := congrArg List.length e
              rw [List.length_append] at e2
              exact ⟨prtV_ok (okAll_iff.2 fun x hx => okAll_iff.1 hok x (List.mem_of_mem_take hx)) (by omega), prtV_ok (okAll_iff.2 fun x hx => okAll_iff.1 hok x (List.mem_of_mem_drop hx)) (by omega)⟩
            have hal1 : ∀ n, (∀ x ∈ l.take n, RngE x) = True := fun n => eq_true fun x hx => hr x (List.mem_of_mem_take hx)
            have hal2 : ∀ n, (∀ x ∈ l.drop n, RngE x) = True := fun n => eq_true fun x hx => hr x (List.mem_of_mem_drop hx)
            have hbl1 : ∀ n, ((l.take n).length ≤ 16000000) = True := fun n => eq_true (by rw [List.length_take]; omega)
            have hbl2 : ∀ n, ((l.drop n).length ≤ 16000000) = True := fun n => eq_true (by rw [List.length_drop]; omega)
            by_cases hl0 : l = []
            · subst hl0
              have h1 : SlT e_Event hp (subS 10 v 0 0) (([] : List T_Event).take 0) := h.take (Nat.zero_le _)
              have h2 : SlT e_Event hp (subL 10 v 0) (([] : List T_Event).drop 0) := h.drop (Nat.zero_le _)
              have hP0 : prtV ([] : List T_Event) = .tuple ⟨[.string ⟨⟨[]⟩⟩, .int .i64 0]⟩ := rfl
              have hs1 := h1.low hcl
              have hs2 := h2.low hcl
              refine CW.vc envA1 [0, 1, 4, 5, 6, 7, 8, 9, 10, 11, 12, 13, 14, 15, 16, 17, 18, 19, 21, 30, 71, 73, 89, 93, 104, 107, 144, 146] (by kernel_rfl) ?_
              (repeat ((try refine Vc.mk' ?_); simp (config := { maxSteps := 6000000 }) only [go_sem, reduceIte, reduceCtorEq, Nat.reduceAdd, Nat.reduceMul, Nat.reduceSub, Nat.reduceLT, Nat.reduceLeDiff, Nat.reduceEqDiff, Int.reduceEq, Int.reduceLT, Int.reduceLE, Int.reduceNe, len_sEvent h, idx_sEvent h, ld_sEvent h, sh_sEvent h, sw_sEvent h, sf_sEvent_0 h, sc_sEvent_0 h, sf_sEvent_1 h, sc_sEvent_1 h, sf_sEvent_2 h, sc_sEvent_2 h, sf_sEvent_3 h, sc_sEvent_3 h, sf_sEvent_4 h, sc_sEvent_4 h, sf_sEvent_5 h, sc_sEvent_5 h, sf_sEvent_6 h, h.P, h.oc, h.cl, h.rd, h.ref, strip_P hs, strip_rd hs, strip_ld hs, strip_sl h hs k_sEvent, len_sEvent h1, idx_sEvent h1, ld_sEvent h1, sh_sEvent h1, sw_sEvent h1, sf_sEvent_0 h1, sc_sEvent_0 h1, sf_sEvent_1 h1, sc_sEvent_1 h1, sf_sEvent_2 h1, sc_sEvent_2 h1, sf_sEvent_3 h1, sc_sEvent_3 h1, sf_sEvent_4 h1, sc_sEvent_4 h1, sf_sEvent_5 h1, sc_sEvent_5 h1, sf_sEvent_6 h1, h1.P, h1.oc, h1.cl, h1.rd, h1.ref, strip_P hs1, strip_rd hs1, strip_ld hs1, strip_sl h1 hs1 k_sEvent, len_sEvent h2, idx_sEvent h2, ld_sEvent h2, sh_sEvent h2, sw_sEvent h2, sf_sEvent_0 h2, sc_sEvent_0 h2, sf_sEvent_1 h2, sc_sEvent_1 h2, sf_sEvent_2 h2, sc_sEvent_2 h2, sf_sEvent_3 h2, sc_sEvent_3 h2, sf_sEvent_4 h2, sc_sEvent_4 h2, sf_sEvent_5 h2, sc_sEvent_5 h2, sf_sEvent_6 h2, h2.P, h2.oc, h2.cl, h2.rd, h2.ref, strip_P hs2, strip_rd hs2, strip_ld hs2, strip_sl h2 hs2 k_sEvent, GA1_e, GA1_l, GA1_p, GA1_q, GA1_w, GA1_c, conEvent, conLine, conPrt, conPar, conWorks, conPlace, hv, ht, hp1, h7, set_lt ht0, set_lt ht1, set_lt h70, vars_set ht5, hv6, slen_nilE, evV, eql_n, eql_i, neq_n, neq_i, fltV, fltO, stB2, Nat.lt_irrefl, decide_false, hal1, hal2, hbl1, hbl2, hcutV, hal, hbl, hP0, show evTxt ([] : List T_Event) = [] from rfl, eqB_self, show ((0 : Nat) : Int) = 0 from rfl, Int.lt_irrefl, Int.toNat_zero, List.take_nil, List.drop_nil]))
            · have hpos : (0 : Int) < (l.length : Int) := by have : l.length ≠ 0 := by simpa using hl0
                                                             omega
              have hz0 : ¬ (l.length : Int) = 0 := by omega
              obtain ⟨n, hn, hx⟩ : ∃ n : Nat, n ≤ l.length ∧ (wrapA .i64 (a.tmod (l.length : Int) + (l.length : Int))).tmod (l.length : Int) = (n : Int) := by
                have t1 := Int.tmod_lt_of_pos a hpos
                have t2 : -(l.length : Int) < a.tmod (l.length : Int) := by
                  have e := Int.natAbs_tmod a (l.length : Int)
                  have e2 := Nat.mod_lt a.natAbs (show 0 < (l.length : Int).natAbs by omega)
                  omega
                rw [wrap64 (by omega) (by omega)]
                have t3 := Int.tmod_lt_of_pos (a.tmod (l.length : Int) + (l.length : Int)) hpos
                have t4 := Int.tmod_nonneg (l.length : Int) (a := a.tmod (l.length : Int) + (l.length : Int)) (by omega)
                exact ⟨((a.tmod (l.length : Int) + (l.length : Int)).tmod (l.length : Int)).toNat, by omega, by omega⟩
              have h1 : SlT e_Event hp (subS 10 v 0 n) (l.take n) := h.take hn
              have h2 : SlT e_Event hp (subL 10 v n) (l.drop n) := h.drop hn
              have hs1 := h1.low hcl
              have hs2 := h2.low hcl
              have hn1 : (0 : Int) ≤ (n : Int) := by omega
              have hn2 : (n : Int) ≤ (l.length : Int) := by omega
              refine CW.vc envA1 [0, 1, 4, 5, 6, 7, 8, 9, 10, 11, 12, 13, 14, 15, 16, 17, 18, 19, 21, 30, 71, 73, 89, 93, 104, 107, 144, 146] (by kernel_rfl) ?_
              (repeat ((try refine Vc.mk' ?_); simp (config := { maxSteps := 6000000 }) only [go_sem, reduceIte, reduceCtorEq, Nat.reduceAdd, Nat.reduceMul, Nat.reduceSub, Nat.reduceLT, Nat.reduceLeDiff, Nat.reduceEqDiff, Int.reduceEq, Int.reduceLT, Int.reduceLE, Int.reduceNe, len_sEvent h, idx_sEvent h, ld_sEvent h, sh_sEvent h, sw_sEvent h, sf_sEvent_0 h, sc_sEvent_0 h, sf_sEvent_1 h, sc_sEvent_1 h, sf_sEvent_2 h, sc_sEvent_2 h, sf_sEvent_3 h, sc_sEvent_3 h, sf_sEvent_4 h, sc_sEvent_4 h, sf_sEvent_5 h, sc_sEvent_5 h, sf_sEvent_6 h, h.P, h.oc, h.cl, h.rd, h.ref, strip_P hs, strip_rd hs, strip_ld hs, strip_sl h hs k_sEvent, len_sEvent h1, idx_sEvent h1, ld_sEvent h1, sh_sEvent h1, sw_sEvent h1, sf_sEvent_0 h1, sc_sEvent_0 h1, sf_sEvent_1 h1, sc_sEvent_1 h1, sf_sEvent_2 h1, sc_sEvent_2 h1, sf_sEvent_3 h1, sc_sEvent_3 h1, sf_sEvent_4 h1, sc_sEvent_4 h1, sf_sEvent_5 h1, sc_sEvent_5 h1, sf_sEvent_6 h1, h1.P, h1.oc, h1.cl, h1.rd, h1.ref, strip_P hs1, strip_rd hs1, strip_ld hs1, strip_sl h1 hs1 k_sEvent, len_sEvent h2, idx_sEvent h2, ld_sEvent h2, sh_sEvent h2, sw_sEvent h2, sf_sEvent_0 h2, sc_sEvent_0 h2, sf_sEvent_1 h2, sc_sEvent_1 h2, sf_sEvent_2 h2, sc_sEvent_2 h2, sf_sEvent_3 h2, sc_sEvent_3 h2, sf_sEvent_4 h2, sc_sEvent_4 h2, sf_sEvent_5 h2, sc_sEvent_5 h2, sf_sEvent_6 h2, h2.P, h2.oc, h2.cl, h2.rd, h2.ref, strip_P hs2, strip_rd hs2, strip_ld hs2, strip_sl h2 hs2 k_sEvent, GA1_e, GA1_l, GA1_p, GA1_q, GA1_w, GA1_c, conEvent, conLine, conPrt, conPar, conWorks, conPlace, hv, ht, hp1, h7, set_lt ht0, set_lt ht1, set_lt h70, vars_set ht5, hv6, slen_nilE, evV, eql_n, eql_i, neq_n, neq_i, fltV, fltO, stB2, Nat.lt_irrefl, decide_false, decide_true, hpos, hz0, hx, hn1, hn2, Int.toNat_natCast, hal1, hal2, hbl1, hbl2, hcutV, evTxt_cut, eqB_self]))
              have hne : evTxt l ≠ [] := by
                have := evTxt_ge l
                intro e
                rw [e] at this
                exact hl0 (List.eq_nil_of_length_eq_zero (by simpa using this))
              have hne2 : eqB (evTxt l) [] = false := by rw [eqB_eq]; simpa using hne
              have hlp : (evTxt l).length ≠ 0 := by simpa using hne
              have hsub : wrapA .i64 (((evTxt l).length : Int) - 1) = (((evTxt l).length - 1 : Nat) : Int) := by rw [wrap64 (by omega) (by omega)]; omega
              have hsub2 : wrapA .i64 ((l.length : Int) - 1) = ((l.length - 1 : Nat) : Int) := by rw [wrap64 (by omega) (by omega)]; omega
              have hsl : ∀ {h' : Hp}, sslice tt.get h' 9 (.string ⟨⟨evTxt l⟩⟩) none (some (.int .i64 (((evTxt l).length - 1 : Nat) : Int))) = (.string ⟨⟨(evTxt l).take ((evTxt l).length - 1)⟩⟩, True) := slice_strHi (by omega)
              have htl : ((evTxt l).take ((evTxt l).length - 1)).length ≤ 65536 := by rw [List.length_take]; omega
              have m3 : (((evTxt l).take ((evTxt l).length - 1)).length < 4294967281) = True := eq_true (by omega)
              have hpv2 : ∀ t, prV ((evTxt l).take ((evTxt l).length - 1)) t = (.tuple ⟨[.slice none 0 0, fltV t]⟩, [(t, fltO 12 ((l.length - 1 : Nat) : Int))], t + 1) := fun t => by
                unfold prV; rw [if_neg (by omega), prA_last hl0 hall]
              have hEr : ∀ {h' : Hp} {t : Nat}, h' t = some (.cells true 0 [.int .i64 12, .int .i64 ((l.length - 1 : Nat) : Int)]) → ErrOk h' (.iface 84 (.pointer (some ⟨t, 0, none⟩))) = True := fun e => eq_true (.inr ⟨_, 12, _, rfl, e⟩)
              have hFn : ∀ {h' : Hp} {t : Nat}, h' t = some (.cells true 0 [.int .i64 12, .int .i64 ((l.length - 1 : Nat) : Int)]) → fltN h' t = ((l.length - 1 : Nat) : Int) := fun e => fltN_eq (c := 12) e
              have hcl4 : ((evTxt (l.take n)).length + (evTxt (l.drop n)).length ≤ 4611686018427387904) = True := eq_true (by
                have := congrArg List.length (evTxt_cut (l := l) (n := n))
                rw [List.length_append] at this
                omega)
              (repeat ((try refine Vc.mk' ?_); simp (config := { maxSteps := 6000000 }) only [go_sem, reduceIte, reduceCtorEq, Nat.reduceAdd, Nat.reduceMul, Nat.reduceSub, Nat.reduceLT, Nat.reduceLeDiff, Nat.reduceEqDiff, Int.reduceEq, Int.reduceLT, Int.reduceLE, Int.reduceNe, len_sEvent h, idx_sEvent h, ld_sEvent h, sh_sEvent h, sw_sEvent h, sf_sEvent_0 h, sc_sEvent_0 h, sf_sEvent_1 h, sc_sEvent_1 h, sf_sEvent_2 h, sc_sEvent_2 h, sf_sEvent_3 h, sc_sEvent_3 h, sf_sEvent_4 h, sc_sEvent_4 h, sf_sEvent_5 h, sc_sEvent_5 h, sf_sEvent_6 h, h.P, h.oc, h.cl, h.rd, h.ref, strip_P hs, strip_rd hs, strip_ld hs, strip_sl h hs k_sEvent, GA1_e, GA1_l, GA1_p, GA1_q, GA1_w, GA1_c, conEvent, conLine, conPrt, conPar, conWorks, conPlace, hv, ht, hp1, h7, set_lt ht0, set_lt ht1, set_lt h70, vars_set ht5, hv6, slen_nilE, evV, eql_n, eql_i, neq_n, neq_i, fltV, fltO, hcl4, hne2, slen_strG, hsub, hsub2, hsl, m3, hpv2, hEr, hFn, decide_true]))
      · have hS : prtS l = [] := by unfold prtS; rw [if_neg hz]
        have hN : (prtN l = 0) = False := by
          refine eq_false fun e => ?_
          unfold prtN at e
          split at e
          · rename_i h1
            split at e
            · rename_i h2; exact hz ⟨h1, h2⟩
            · omega
          · omega
        refine CW.vc envA1 [0, 1, 4, 5, 6, 7, 8, 9, 10, 11, 12, 13, 14, 15, 16, 17, 18, 19, 21, 30, 71, 73, 89, 93, 104, 107, 144, 146] (by kernel_rfl) ?_
        (repeat ((try refine Vc.mk' ?_); simp (config := { maxSteps := 6000000 }) only [go_sem, reduceIte, reduceCtorEq, Nat.reduceAdd, Nat.reduceMul, Nat.reduceSub, Nat.reduceLT, Nat.reduceLeDiff, Nat.reduceEqDiff, Int.reduceEq, Int.reduceLT, Int.reduceLE, Int.reduceNe, len_sEvent h, idx_sEvent h, ld_sEvent h, sh_sEvent h, sw_sEvent h, sf_sEvent_0 h, sc_sEvent_0 h, sf_sEvent_1 h, sc_sEvent_1 h, sf_sEvent_2 h, sc_sEvent_2 h, sf_sEvent_3 h, sc_sEvent_3 h, sf_sEvent_4 h, sc_sEvent_4 h, sf_sEvent_5 h, sc_sEvent_5 h, sf_sEvent_6 h, h.P, h.oc, h.cl, h.rd, h.ref, strip_P hs, strip_rd hs, strip_ld hs, strip_sl h hs k_sEvent, GA1_e, GA1_l, GA1_p, GA1_q, GA1_w, GA1_c, conEvent, conLine, conPrt, conPar, conWorks, conPlace, hv, ht, hp1, h7, set_lt ht0, set_lt ht1, set_lt h70, vars_set ht5, hv6, slen_nilE, evV, eql_n, eql_i, neq_n, neq_i, fltV, fltO, stB1, Nat.lt_irrefl, decide_false, hS, hN, eqB_self]))
end Go.Proofs.YthpibnpeaidabaaGreatDoor.Dm
