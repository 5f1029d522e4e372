/- Parse: what it computes; BitsReads. -/
import Derived.Test.YtkofmbhopmgmhaaDoorBPA
set_option linter.unusedSimpArgs false
set_option linter.unusedVariables false
namespace Go.Proofs.YtkofmbhopmgmhaaDoor.Dm
open Go.Dm
set_option maxHeartbeats 16000000
theorem spl_len : ∀ s, (spl s).length ≤ s.length + 1
  | [] => by simp [spl]
  | c :: r => by
    have ih := spl_len r
    unfold spl
    split
    · simp; exact ih
    · split
      · simp
      · rename_i h t e; rw [e] at ih; simp at ih ⊢; omega
theorem spl_mem : ∀ s, ∀ w ∈ spl s, w.length ≤ s.length
  | [], w, h => by simp [spl] at h; simp [h]
  | c :: r, w, h => by
    have ih := spl_mem r
    unfold spl at h
    split at h
    · rcases List.mem_cons.1 h with rfl | h
      · simp
      · have := ih w h; simp; omega
    · split at h
      · simp at h; simp [h]
      · rename_i h' t e
        rcases List.mem_cons.1 h with rfl | h
        · have := ih h' (by rw [e]; simp); simp; omega
        · have := ih w (by rw [e]; simp [h]); simp; omega
theorem neq_i {xo yo : Operand} {t : TypeId} {v : Value} : binA tt.get .neq 62 xo yo (.iface t v) .nilIface = some (.bool true) := by simp [binA, eqA, t_error, ti62]
theorem neq_n {xo : Operand} : binA tt.get .neq 62 xo (.const .nilIface) .nilIface .nilIface = some (.bool false) := by simp [binA, eqA, t_error, ti62, isC]
/-- the variables that Split and Atoi read -/
def VarsOk (hp : Hp) : Prop := hp 1 = some powO ∧ (∃ m, hp 2 = some (varO 4 (.int .i64 m))) ∧ (∃ t a, hp 4 = some (varO 1 (.iface t a))) ∧ (∃ t a, hp 6 = some (varO 2 (.iface t a)))
def conParse : Con := .pure (fun args hp => match args with | [.string ⟨⟨s⟩⟩] => s.length < 4294967281 ∧ VarsOk hp | _ => False) (fun args _ => match args with | [s] => parV (strOf s) | _ => undef)
def G17 := addG (addG G16 56 conSplit) 57 conAtoi
theorem env17 : EnvV Tryd.prog tt.get G17 := (env16.add split_ok).add atoi_ok
theorem G17_split : G17 56 = conSplit := rfl
theorem G17_atoi : G17 57 = conAtoi := rfl
theorem G17_right : G17 45 = con1 rightB := rfl
theorem G17_itoa : G17 52 = conItoa := rfl
theorem G17_with : G17 38 = conSet putB := rfl
def stPa (hp : Hp) (top : Nat) (l : List (List UInt8)) (x : Nat × T_Bits × Int) : SS := ⟨[(2, .pointer (some ⟨top, 0, none⟩), true), (4, .pointer (some ⟨top + 1, 0, none⟩), true), (5, .int .i64 x.2.2, true), (14, mkSl (top + 2) l, true), (15, .int .i64 (l.length : Int), true), (16, .int .i64 (x.1 : Int), true)], hp.sets [(top, some (.cells true 0 (bl zb))), (top + 1, some (.cells true 0 (bl x.2.1))), (top + 2, mkOb e_string l)], top + 3⟩
theorem parV_plain (s : List UInt8) : plain 3 (parV s) = true := rfl

theorem parse_ok : ConOk Tryd.prog 43 conParse := by
  refine .mkRd fn43_ok ?_ ?_
  · rintro args hp h
    match args, h with
    | [.string ⟨⟨s⟩⟩], _ => exact parV_plain s
  intro args hp hpre top hcl hsc
  match args, hpre with
  | [.string ⟨⟨s⟩⟩], ⟨hs, hp1, hv2, hv3, hv4⟩ =>
  have ht1 : 1 < top := hcl.lt _ _ hp1
  have ht2 : 2 < top := by obtain ⟨m, h⟩ := hv2; exact hcl.lt _ _ h
  have ht3 : 4 < top := by obtain ⟨t, a, h⟩ := hv3; exact hcl.lt _ _ h
  have ht4 : 6 < top := by obtain ⟨t, a, h⟩ := hv4; exact hcl.lt _ _ h
  simp only [strOf_string]
  refine CalledOk.of_fun tt_ok fn43_ok rfl 53 rfl [.cell 2 25, .tmp 3] rfl (show 1 ≤ 53 by decide) ?_
  by_cases hd : s = [45]
  · subst hd
    have e : parV [45] = .tuple ⟨[.agg ⟨bl zb⟩, .int .i64 0]⟩ := by rw [parV, par_dash.1, par_dash.2]
    rw [e]
    refine CW.vc env17 [0, 2, 3, 4, 5, 7, 8, 9, 11, 14, 15, 16, 17, 42] (by kernel_rfl) ?_
    (simp (config := { maxSteps := 6000000 }) only [go_sem, reduceIte, reduceCtorEq, Nat.reduceAdd, Nat.reduceMul, Nat.reduceSub, Nat.reduceLT, Nat.reduceLeDiff, Nat.reduceEqDiff, Int.reduceEq, Int.reduceLT, Int.reduceLE, Int.reduceNe, rem64, mask64, c_iu, wrapu_mod, bl_len, bl_take, bl_ren, bl_app, bl_one, bOf_bl, Nat.mul_one, eqB_self]; repeat (refine Vc.mk' ?_; simp (config := { maxSteps := 6000000 }) only [go_sem, reduceIte, reduceCtorEq, Nat.reduceAdd, Nat.reduceMul, Nat.reduceSub, Nat.reduceLT, Nat.reduceLeDiff, Nat.reduceEqDiff, Int.reduceEq, Int.reduceLT, Int.reduceLE, Int.reduceNe, rem64, mask64, c_iu, wrapu_mod, bl_len, bl_take, bl_ren, bl_app, bl_one, bOf_bl, Nat.mul_one, eqB_self]))
    rfl
  have ed : eqB s [45] = false := by
    rw [eqB_eq]; simpa using hd
  have e2 : splL s = spl s := splL_eq s
  obtain ⟨l, hl⟩ : ∃ l, spl s = l := ⟨_, rfl⟩
  have hlen := spl_len s
  have hmem := spl_mem s
  rw [hl] at hlen hmem e2
  have hLb : l.length ≤ 9223372036854775807 := by omega
  refine CW.vc env17 [0, 2, 3, 4, 5, 7, 8, 9, 11, 14, 15, 16, 17, 42] (by kernel_rfl) ?_
  (simp (config := { maxSteps := 6000000 }) only [go_sem, reduceIte, reduceCtorEq, Nat.reduceAdd, Nat.reduceMul, Nat.reduceSub, Nat.reduceLT, Nat.reduceLeDiff, Nat.reduceEqDiff, Int.reduceEq, Int.reduceLT, Int.reduceLE, Int.reduceNe, rem64, mask64, c_iu, wrapu_mod, bl_len, bl_take, bl_ren, bl_app, bl_one, bOf_bl, Nat.mul_one, G17_split, G17_atoi, G17_right, G17_itoa, G17_with, conSplit, conAtoi, con1, conItoa, conSet, ed, e2, hs, hv2, set_lt ht2]; repeat (refine Vc.mk' ?_; simp (config := { maxSteps := 6000000 }) only [go_sem, reduceIte, reduceCtorEq, Nat.reduceAdd, Nat.reduceMul, Nat.reduceSub, Nat.reduceLT, Nat.reduceLeDiff, Nat.reduceEqDiff, Int.reduceEq, Int.reduceLT, Int.reduceLE, Int.reduceNe, rem64, mask64, c_iu, wrapu_mod, bl_len, bl_take, bl_ren, bl_app, bl_one, bOf_bl, Nat.mul_one, G17_split, G17_atoi, G17_right, G17_itoa, G17_with, conSplit, conAtoi, con1, conItoa, conSet, ed, e2, hs, hv2, set_lt ht2]))
  refine CW.loopR (stPa hp top l) (fun x => x.1 ≤ l.length ∧ OkB x.2.1 ∧ 0 ≤ x.2.2 ∧ pLoop zb 0 l = pLoop x.2.1 x.2.2 (l.drop x.1)) (fun x => l.length - x.1) (0, zb, 0) ⟨Nat.zero_le _, zb_ok, Int.le_refl _, rfl⟩ ?_ ?_
  · exact SubR.mk' [top, top + 1, top + 2] hcl (by simp) (by simp) rfl (frSub_ok (by simp [frSub, lkG, ren, renL, renL_set, renL_ints, UpdOk.nil, UpdOk.cons, renOO_some, renO_cells, renO_map, renOO_mkOb, rn_base, rn_add, ren_mkSl, Enc.flat_ren, set_same, set_ne, sets_cons, sets_nil, Keep.set, Keep.setK, Keep.refl, bl_ren, bl_zb])) (by simp [frSub, lkG, ren, renL, renL_set, renL_ints, UpdOk.nil, UpdOk.cons, renOO_some, renO_cells, renO_map, renOO_mkOb, rn_base, rn_add, ren_mkSl, Enc.flat_ren, set_same, set_ne, sets_cons, sets_nil, Keep.set, Keep.setK, Keep.refl, bl_ren, bl_zb]) (by simp [frSub, lkG, ren, renL, renL_set, renL_ints, UpdOk.nil, UpdOk.cons, renOO_some, renO_cells, renO_map, renOO_mkOb, rn_base, rn_add, ren_mkSl, Enc.flat_ren, set_same, set_ne, sets_cons, sets_nil, Keep.set, Keep.setK, Keep.refl, bl_ren, bl_zb])
  · rintro ⟨k, b, last⟩ ⟨hk, hb, h0, hm⟩
    have hk : k ≤ l.length := hk
    have hb : OkB b := hb
    have h0 : 0 ≤ last := h0
    have hm : pLoop zb 0 l = pLoop b last (l.drop k) := hm
    have hI := isBits_bl hb
    have hob : ((hp.set top (some (AObj.cells true 0 (bl zb)))).set (top + 1) (some (AObj.cells true 0 (bl b)))).set (top + 2) (mkOb e_string l) (top + 2) = mkOb e_string l := set_same ..
    have hA := SlT.ownB hob hLb
    by_cases hlt : k < l.length
    · have hlt1 : (k : Int) < (l.length : Int) := by omega
      have ld1 := ld_sstring hA hlt
      rw [Nat.mul_one] at ld1
      rw [at_get? hlt, pLoop] at hm
      have hw : (at' l k).length ≤ s.length := hmem _ (by rw [at'_get _ _ hlt]; exact List.getElem_mem hlt)
      have hw2 : (at' l k).length ≤ 281474976710656 := by omega
      obtain ⟨w, hwk⟩ : ∃ w, at' l k = w := ⟨_, rfl⟩
      rw [hwk] at ld1 hm hw2
      have fail : pLoop zb 0 l = none → parV s = .tuple ⟨[.agg ⟨bl zb⟩, .int .i64 4]⟩ := fun h => by
        rw [← hl] at h
        rw [parV, (par_none hd h).1, (par_none hd h).2]
      cases ha : Lib.atoiAll w with
      | «syntax» =>
        rw [ha] at hm
        have ea : ∀ n, atoiV w n = (.tuple ⟨[.int .i64 0, .iface 80 (.pointer (some ⟨n, 0, none⟩))]⟩, [], n + 1) := fun n => by simp only [atoiV, ha]
        rw [fail hm]
        refine CW.vc env17 [0, 2, 3, 4, 5, 7, 8, 9, 11, 14, 15, 16, 17, 42] (by kernel_rfl) ?_
        (simp (config := { maxSteps := 6000000 }) only [go_sem, reduceIte, reduceCtorEq, Nat.reduceAdd, Nat.reduceMul, Nat.reduceSub, Nat.reduceLT, Nat.reduceLeDiff, Nat.reduceEqDiff, Int.reduceEq, Int.reduceLT, Int.reduceLE, Int.reduceNe, rem64, mask64, c_iu, wrapu_mod, bl_len, bl_take, bl_ren, bl_app, bl_one, bOf_bl, Nat.mul_one, G17_split, G17_atoi, G17_right, G17_itoa, G17_with, conSplit, conAtoi, con1, conItoa, conSet, len_sstring hA, idx_sstring hA, ld_sstring hA, sh_sstring hA, sw_sstring hA, hA.P, hA.oc, hA.cl, hA.rd, hA.ref, stPa, hlt, hlt1, ld1, hw2, ea, hv3, hv4, neq_i, set_lt ht3, set_lt ht4]; repeat (refine Vc.mk' ?_; simp (config := { maxSteps := 6000000 }) only [go_sem, reduceIte, reduceCtorEq, Nat.reduceAdd, Nat.reduceMul, Nat.reduceSub, Nat.reduceLT, Nat.reduceLeDiff, Nat.reduceEqDiff, Int.reduceEq, Int.reduceLT, Int.reduceLE, Int.reduceNe, rem64, mask64, c_iu, wrapu_mod, bl_len, bl_take, bl_ren, bl_app, bl_one, bOf_bl, Nat.mul_one, G17_split, G17_atoi, G17_right, G17_itoa, G17_with, conSplit, conAtoi, con1, conItoa, conSet, len_sstring hA, idx_sstring hA, ld_sstring hA, sh_sstring hA, sw_sstring hA, hA.P, hA.oc, hA.cl, hA.rd, hA.ref, stPa, hlt, hlt1, ld1, hw2, ea, hv3, hv4, neq_i, set_lt ht3, set_lt ht4]))
        rfl
      | range =>
        rw [ha] at hm
        have ea : ∀ n, atoiV w n = (.tuple ⟨[.int .i64 (Lib.atoiSat w), .iface 80 (.pointer (some ⟨n, 0, none⟩))]⟩, [], n + 1) := fun n => by simp only [atoiV, ha]
        rw [fail hm]
        refine CW.vc env17 [0, 2, 3, 4, 5, 7, 8, 9, 11, 14, 15, 16, 17, 42] (by kernel_rfl) ?_
        (simp (config := { maxSteps := 6000000 }) only [go_sem, reduceIte, reduceCtorEq, Nat.reduceAdd, Nat.reduceMul, Nat.reduceSub, Nat.reduceLT, Nat.reduceLeDiff, Nat.reduceEqDiff, Int.reduceEq, Int.reduceLT, Int.reduceLE, Int.reduceNe, rem64, mask64, c_iu, wrapu_mod, bl_len, bl_take, bl_ren, bl_app, bl_one, bOf_bl, Nat.mul_one, G17_split, G17_atoi, G17_right, G17_itoa, G17_with, conSplit, conAtoi, con1, conItoa, conSet, len_sstring hA, idx_sstring hA, ld_sstring hA, sh_sstring hA, sw_sstring hA, hA.P, hA.oc, hA.cl, hA.rd, hA.ref, stPa, hlt, hlt1, ld1, hw2, ea, hv3, hv4, neq_i, set_lt ht3, set_lt ht4]; repeat (refine Vc.mk' ?_; simp (config := { maxSteps := 6000000 }) only [go_sem, reduceIte, reduceCtorEq, Nat.reduceAdd, Nat.reduceMul, Nat.reduceSub, Nat.reduceLT, Nat.reduceLeDiff, Nat.reduceEqDiff, Int.reduceEq, Int.reduceLT, Int.reduceLE, Int.reduceNe, rem64, mask64, c_iu, wrapu_mod, bl_len, bl_take, bl_ren, bl_app, bl_one, bOf_bl, Nat.mul_one, G17_split, G17_atoi, G17_right, G17_itoa, G17_with, conSplit, conAtoi, con1, conItoa, conSet, len_sstring hA, idx_sstring hA, ld_sstring hA, sh_sstring hA, sw_sstring hA, hA.P, hA.oc, hA.cl, hA.rd, hA.ref, stPa, hlt, hlt1, ld1, hw2, ea, hv3, hv4, neq_i, set_lt ht3, set_lt ht4]))
        rfl
      | ok n =>
        rw [ha] at hm
        have hm : pLoop zb 0 l = if last < n ∧ rightB n = true ∧ Lib.itoa n = w then pLoop (putB b (n - 1).toNat) n (l.drop (k + 1)) else none := hm
        have ea : ∀ m, atoiV w m = (.tuple ⟨[.int .i64 n, .nilIface]⟩, [], m) := fun m => by simp only [atoiV, ha]
        by_cases c1 : last < n
        case neg =>
          rw [if_neg (fun h => c1 h.1)] at hm
          rw [fail hm]
          refine CW.vc env17 [0, 2, 3, 4, 5, 7, 8, 9, 11, 14, 15, 16, 17, 42] (by kernel_rfl) ?_
          (simp (config := { maxSteps := 6000000 }) only [go_sem, reduceIte, reduceCtorEq, Nat.reduceAdd, Nat.reduceMul, Nat.reduceSub, Nat.reduceLT, Nat.reduceLeDiff, Nat.reduceEqDiff, Int.reduceEq, Int.reduceLT, Int.reduceLE, Int.reduceNe, rem64, mask64, c_iu, wrapu_mod, bl_len, bl_take, bl_ren, bl_app, bl_one, bOf_bl, Nat.mul_one, G17_split, G17_atoi, G17_right, G17_itoa, G17_with, conSplit, conAtoi, con1, conItoa, conSet, len_sstring hA, idx_sstring hA, ld_sstring hA, sh_sstring hA, sw_sstring hA, hA.P, hA.oc, hA.cl, hA.rd, hA.ref, stPa, hlt, hlt1, ld1, hw2, ea, hv3, hv4, neq_n, c1, set_lt ht3, set_lt ht4]; repeat (refine Vc.mk' ?_; simp (config := { maxSteps := 6000000 }) only [go_sem, reduceIte, reduceCtorEq, Nat.reduceAdd, Nat.reduceMul, Nat.reduceSub, Nat.reduceLT, Nat.reduceLeDiff, Nat.reduceEqDiff, Int.reduceEq, Int.reduceLT, Int.reduceLE, Int.reduceNe, rem64, mask64, c_iu, wrapu_mod, bl_len, bl_take, bl_ren, bl_app, bl_one, bOf_bl, Nat.mul_one, G17_split, G17_atoi, G17_right, G17_itoa, G17_with, conSplit, conAtoi, con1, conItoa, conSet, len_sstring hA, idx_sstring hA, ld_sstring hA, sh_sstring hA, sw_sstring hA, hA.P, hA.oc, hA.cl, hA.rd, hA.ref, stPa, hlt, hlt1, ld1, hw2, ea, hv3, hv4, neq_n, c1, set_lt ht3, set_lt ht4]))
          rfl
        cases c2 : rightB n with
        | false =>
          rw [if_neg (fun h => by rw [c2] at h; exact absurd h.2.1 (by simp))] at hm
          rw [fail hm]
          refine CW.vc env17 [0, 2, 3, 4, 5, 7, 8, 9, 11, 14, 15, 16, 17, 42] (by kernel_rfl) ?_
          (simp (config := { maxSteps := 6000000 }) only [go_sem, reduceIte, reduceCtorEq, Nat.reduceAdd, Nat.reduceMul, Nat.reduceSub, Nat.reduceLT, Nat.reduceLeDiff, Nat.reduceEqDiff, Int.reduceEq, Int.reduceLT, Int.reduceLE, Int.reduceNe, rem64, mask64, c_iu, wrapu_mod, bl_len, bl_take, bl_ren, bl_app, bl_one, bOf_bl, Nat.mul_one, G17_split, G17_atoi, G17_right, G17_itoa, G17_with, conSplit, conAtoi, con1, conItoa, conSet, len_sstring hA, idx_sstring hA, ld_sstring hA, sh_sstring hA, sw_sstring hA, hA.P, hA.oc, hA.cl, hA.rd, hA.ref, stPa, hlt, hlt1, ld1, hw2, ea, hv3, hv4, neq_n, c1, c2, set_lt ht3, set_lt ht4]; repeat (refine Vc.mk' ?_; simp (config := { maxSteps := 6000000 }) only [go_sem, reduceIte, reduceCtorEq, Nat.reduceAdd, Nat.reduceMul, Nat.reduceSub, Nat.reduceLT, Nat.reduceLeDiff, Nat.reduceEqDiff, Int.reduceEq, Int.reduceLT, Int.reduceLE, Int.reduceNe, rem64, mask64, c_iu, wrapu_mod, bl_len, bl_take, bl_ren, bl_app, bl_one, bOf_bl, Nat.mul_one, G17_split, G17_atoi, G17_right, G17_itoa, G17_with, conSplit, conAtoi, con1, conItoa, conSet, len_sstring hA, idx_sstring hA, ld_sstring hA, sh_sstring hA, sw_sstring hA, hA.P, hA.oc, hA.cl, hA.rd, hA.ref, stPa, hlt, hlt1, ld1, hw2, ea, hv3, hv4, neq_n, c1, c2, set_lt ht3, set_lt ht4]))
          rfl
        | true =>
          have n0 : 0 ≤ n := by omega
          have n1 : n ≤ 9223372036854775807 := by simp only [rightB, Bool.and_eq_true, decide_eq_true_eq] at c2; omega
          by_cases c3 : Lib.itoa n = w
          · have q3 : eqB (Lib.itoa n) w = true := by rw [c3, eqB_self]
            rw [if_pos ⟨c1, c2, c3⟩] at hm
            refine CW.vc env17 [0, 2, 3, 4, 5, 7, 8, 9, 11, 14, 15, 16, 17, 42] (by kernel_rfl) ?_
            (simp (config := { maxSteps := 6000000 }) only [go_sem, reduceIte, reduceCtorEq, Nat.reduceAdd, Nat.reduceMul, Nat.reduceSub, Nat.reduceLT, Nat.reduceLeDiff, Nat.reduceEqDiff, Int.reduceEq, Int.reduceLT, Int.reduceLE, Int.reduceNe, rem64, mask64, c_iu, wrapu_mod, bl_len, bl_take, bl_ren, bl_app, bl_one, bOf_bl, Nat.mul_one, G17_split, G17_atoi, G17_right, G17_itoa, G17_with, conSplit, conAtoi, con1, conItoa, conSet, len_sstring hA, idx_sstring hA, ld_sstring hA, sh_sstring hA, sw_sstring hA, hA.P, hA.oc, hA.cl, hA.rd, hA.ref, stPa, hlt, hlt1, ld1, hw2, ea, hv3, hv4, neq_n, c1, c2, n0, n1, q3, hI, hp1, pairB_t, set_lt ht1, set_lt ht3, set_lt ht4]; repeat (refine Vc.mk' ?_; simp (config := { maxSteps := 6000000 }) only [go_sem, reduceIte, reduceCtorEq, Nat.reduceAdd, Nat.reduceMul, Nat.reduceSub, Nat.reduceLT, Nat.reduceLeDiff, Nat.reduceEqDiff, Int.reduceEq, Int.reduceLT, Int.reduceLE, Int.reduceNe, rem64, mask64, c_iu, wrapu_mod, bl_len, bl_take, bl_ren, bl_app, bl_one, bOf_bl, Nat.mul_one, G17_split, G17_atoi, G17_right, G17_itoa, G17_with, conSplit, conAtoi, con1, conItoa, conSet, len_sstring hA, idx_sstring hA, ld_sstring hA, sh_sstring hA, sw_sstring hA, hA.P, hA.oc, hA.cl, hA.rd, hA.ref, stPa, hlt, hlt1, ld1, hw2, ea, hv3, hv4, neq_n, c1, c2, n0, n1, q3, hI, hp1, pairB_t, set_lt ht1, set_lt ht3, set_lt ht4]))
            refine .mk (k + 1, putB b (n - 1).toNat, n) ⟨hlt, putB_ok hb, n0, hm⟩ (by show l.length - (k + 1) < l.length - k; omega) (SubR.mk' [top, top + 1, top + 2] hcl (by simp) (by simp) rfl (frSub_ok (by simp [frSub, lkG, ren, renL, renL_set, renL_ints, UpdOk.nil, UpdOk.cons, renOO_some, renO_cells, renO_map, renOO_mkOb, rn_base, rn_add, ren_mkSl, Enc.flat_ren, set_same, set_ne, sets_cons, sets_nil, Keep.set, Keep.setK, Keep.refl, bl_ren, wrap_succ hlt hLb])) (by simp [frSub, lkG, ren, renL, renL_set, renL_ints, UpdOk.nil, UpdOk.cons, renOO_some, renO_cells, renO_map, renOO_mkOb, rn_base, rn_add, ren_mkSl, Enc.flat_ren, set_same, set_ne, sets_cons, sets_nil, Keep.set, Keep.setK, Keep.refl, bl_ren, wrap_succ hlt hLb]) (by simp [frSub, lkG, ren, renL, renL_set, renL_ints, UpdOk.nil, UpdOk.cons, renOO_some, renO_cells, renO_map, renOO_mkOb, rn_base, rn_add, ren_mkSl, Enc.flat_ren, set_same, set_ne, sets_cons, sets_nil, Keep.set, Keep.setK, Keep.refl, bl_ren, wrap_succ hlt hLb]))
          · have q3 : eqB (Lib.itoa n) w = false := by rw [eqB_eq]; simpa using c3
            rw [if_neg (fun h => c3 h.2.2)] at hm
            rw [fail hm]
            refine CW.vc env17 [0, 2, 3, 4, 5, 7, 8, 9, 11, 14, 15, 16, 17, 42] (by kernel_rfl) ?_
            (simp (config := { maxSteps := 6000000 }) only [go_sem, reduceIte, reduceCtorEq, Nat.reduceAdd, Nat.reduceMul, Nat.reduceSub, Nat.reduceLT, Nat.reduceLeDiff, Nat.reduceEqDiff, Int.reduceEq, Int.reduceLT, Int.reduceLE, Int.reduceNe, rem64, mask64, c_iu, wrapu_mod, bl_len, bl_take, bl_ren, bl_app, bl_one, bOf_bl, Nat.mul_one, G17_split, G17_atoi, G17_right, G17_itoa, G17_with, conSplit, conAtoi, con1, conItoa, conSet, len_sstring hA, idx_sstring hA, ld_sstring hA, sh_sstring hA, sw_sstring hA, hA.P, hA.oc, hA.cl, hA.rd, hA.ref, stPa, hlt, hlt1, ld1, hw2, ea, hv3, hv4, neq_n, c1, c2, n0, n1, q3, hI, hp1, set_lt ht1, set_lt ht3, set_lt ht4]; repeat (refine Vc.mk' ?_; simp (config := { maxSteps := 6000000 }) only [go_sem, reduceIte, reduceCtorEq, Nat.reduceAdd, Nat.reduceMul, Nat.reduceSub, Nat.reduceLT, Nat.reduceLeDiff, Nat.reduceEqDiff, Int.reduceEq, Int.reduceLT, Int.reduceLE, Int.reduceNe, rem64, mask64, c_iu, wrapu_mod, bl_len, bl_take, bl_ren, bl_app, bl_one, bOf_bl, Nat.mul_one, G17_split, G17_atoi, G17_right, G17_itoa, G17_with, conSplit, conAtoi, con1, conItoa, conSet, len_sstring hA, idx_sstring hA, ld_sstring hA, sh_sstring hA, sw_sstring hA, hA.P, hA.oc, hA.cl, hA.rd, hA.ref, stPa, hlt, hlt1, ld1, hw2, ea, hv3, hv4, neq_n, c1, c2, n0, n1, q3, hI, hp1, set_lt ht1, set_lt ht3, set_lt ht4]))
            rfl
    · have hk2 : k = l.length := by omega
      subst hk2
      rw [List.drop_length, pLoop, ← hl] at hm
      obtain ⟨_, p1, p2⟩ := par_some hm
      have e : parV s = .tuple ⟨[.agg ⟨bl b⟩, .int .i64 0]⟩ := by rw [parV, p1, p2]
      rw [e]
      refine CW.vc env17 [0, 2, 3, 4, 5, 7, 8, 9, 11, 14, 15, 16, 17, 42] (by kernel_rfl) ?_
      (simp (config := { maxSteps := 6000000 }) only [go_sem, reduceIte, reduceCtorEq, Nat.reduceAdd, Nat.reduceMul, Nat.reduceSub, Nat.reduceLT, Nat.reduceLeDiff, Nat.reduceEqDiff, Int.reduceEq, Int.reduceLT, Int.reduceLE, Int.reduceNe, rem64, mask64, c_iu, wrapu_mod, bl_len, bl_take, bl_ren, bl_app, bl_one, bOf_bl, Nat.mul_one, G17_split, G17_atoi, G17_right, G17_itoa, G17_with, conSplit, conAtoi, con1, conItoa, conSet, stPa, Nat.lt_irrefl, Int.lt_irrefl, decide_false]; repeat (refine Vc.mk' ?_; simp (config := { maxSteps := 6000000 }) only [go_sem, reduceIte, reduceCtorEq, Nat.reduceAdd, Nat.reduceMul, Nat.reduceSub, Nat.reduceLT, Nat.reduceLeDiff, Nat.reduceEqDiff, Int.reduceEq, Int.reduceLT, Int.reduceLE, Int.reduceNe, rem64, mask64, c_iu, wrapu_mod, bl_len, bl_take, bl_ren, bl_app, bl_one, bOf_bl, Nat.mul_one, G17_split, G17_atoi, G17_right, G17_itoa, G17_with, conSplit, conAtoi, con1, conItoa, conSet, stPa, Nat.lt_irrefl, Int.lt_irrefl, decide_false]))
/-! ### the document's Parse -/
theorem G17_rright : G17 47 = con1 rightB := rfl
theorem G17_put : G17 48 = conPut := rfl
theorem G17_rtext : G17 37 = conRText := rfl
theorem c_bi {hp : Hp} {x : Value} : sconvH tt.get hp 5 3 x = (.int .i64 (wrapA .i64 (intOf x)), IsN x) := sconvH_int k_uint8 k_int
def conRParse : Con := .pure (fun args _ => match args with | [.string ⟨⟨s⟩⟩] => s.length ≤ 9223372036854775807 | _ => False) (fun args _ => match args with | [s] => parV (strOf s) | _ => undef)
def stRP (hp : Hp) (top : Nat) (s : List UInt8) (x : Nat × T_Bits × Int) : SS := ⟨[(0, .string ⟨⟨s⟩⟩, true), (2, .pointer (some ⟨top, 0, none⟩), true), (4, .pointer (some ⟨top + 1, 0, none⟩), true), (5, .int .i64 x.2.2, true), (6, .int .i64 (x.1 : Int), true)], hp.sets [(top, some (.cells true 0 (bl zb))), (top + 1, some (.cells true 0 (bl x.2.1)))], top + 2⟩
theorem fold_succ {s : List UInt8} {k : Nat} (h : k < s.length) : (s.take (k + 1)).foldl rStep (zb, 0) = rStep ((s.take k).foldl rStep (zb, 0)) ((s[k]?).getD 0) := by
  rw [List.take_succ_eq_append_getElem h, List.foldl_append]
  simp [h]

theorem rparse_ok : ConOk Tryd.prog 44 conRParse := by
  refine .mkRd fn44_ok ?_ ?_
  · rintro args hp h
    match args, h with
    | [.string ⟨⟨s⟩⟩], _ => exact parV_plain s
  intro args hp hpre top hcl hsc
  match args, hpre with
  | [.string ⟨⟨s⟩⟩], hs =>
  simp only [strOf_string]
  refine CalledOk.of_fun tt_ok fn44_ok rfl 56 rfl [.cell 2 25, .tmp 3] rfl (show 1 ≤ 56 by decide) ?_
  by_cases hl : 1024 < s.length
  · have e : parV s = .tuple ⟨[.agg ⟨bl zb⟩, .int .i64 4]⟩ := by rw [parV, (par_long hl).1, (par_long hl).2]
    have hl1 : (1024 : Int) < (s.length : Int) := by omega
    rw [e]
    refine CW.vc env17 [0, 2, 3, 4, 5, 6, 9, 14, 36, 46, 53] (by kernel_rfl) ?_
    (simp (config := { maxSteps := 6000000 }) only [go_sem, reduceIte, reduceCtorEq, Nat.reduceAdd, Nat.reduceMul, Nat.reduceSub, Nat.reduceLT, Nat.reduceLeDiff, Nat.reduceEqDiff, Int.reduceEq, Int.reduceLT, Int.reduceLE, Int.reduceNe, rem64, mask64, c_iu, wrapu_mod, bl_len, bl_take, bl_ren, bl_app, bl_one, bOf_bl, Nat.mul_one, slenS, hl1]; repeat (refine Vc.mk' ?_; simp (config := { maxSteps := 6000000 }) only [go_sem, reduceIte, reduceCtorEq, Nat.reduceAdd, Nat.reduceMul, Nat.reduceSub, Nat.reduceLT, Nat.reduceLeDiff, Nat.reduceEqDiff, Int.reduceEq, Int.reduceLT, Int.reduceLE, Int.reduceNe, rem64, mask64, c_iu, wrapu_mod, bl_len, bl_take, bl_ren, bl_app, bl_one, bOf_bl, Nat.mul_one, slenS, hl1]))
    rfl
  have hl1 : ¬ (1024 : Int) < (s.length : Int) := by omega
  refine CW.vc env17 [0, 2, 3, 4, 5, 6, 9, 14, 36, 46, 53] (by kernel_rfl) ?_
  (simp (config := { maxSteps := 6000000 }) only [go_sem, reduceIte, reduceCtorEq, Nat.reduceAdd, Nat.reduceMul, Nat.reduceSub, Nat.reduceLT, Nat.reduceLeDiff, Nat.reduceEqDiff, Int.reduceEq, Int.reduceLT, Int.reduceLE, Int.reduceNe, rem64, mask64, c_iu, wrapu_mod, bl_len, bl_take, bl_ren, bl_app, bl_one, bOf_bl, Nat.mul_one, slenS, hl1]; repeat (refine Vc.mk' ?_; simp (config := { maxSteps := 6000000 }) only [go_sem, reduceIte, reduceCtorEq, Nat.reduceAdd, Nat.reduceMul, Nat.reduceSub, Nat.reduceLT, Nat.reduceLeDiff, Nat.reduceEqDiff, Int.reduceEq, Int.reduceLT, Int.reduceLE, Int.reduceNe, rem64, mask64, c_iu, wrapu_mod, bl_len, bl_take, bl_ren, bl_app, bl_one, bOf_bl, Nat.mul_one, slenS, hl1]))
  refine CW.loopR (stRP hp top s) (fun x => x.1 ≤ s.length + 1 ∧ OkB x.2.1 ∧ 0 ≤ x.2.2 ∧ x.2.2 ≤ 2569 ∧ (x.1 ≤ s.length → x.2 = (s.take x.1).foldl rStep (zb, 0)) ∧ (x.1 = s.length + 1 → x.2.1 = rB s)) (fun x => s.length + 1 - x.1) (0, zb, 0) ⟨Nat.zero_le _, zb_ok, Int.le_refl _, (by decide), fun _ => rfl, fun h => (by cases h)⟩ ?_ ?_
  · exact SubR.mk' [top, top + 1] hcl (by simp) (by simp) rfl (frSub_ok (by simp [frSub, lkG, ren, renL, renL_set, renL_ints, UpdOk.nil, UpdOk.cons, renOO_some, renO_cells, renO_map, renOO_mkOb, rn_base, rn_add, ren_mkSl, Enc.flat_ren, set_same, set_ne, sets_cons, sets_nil, Keep.set, Keep.setK, Keep.refl, bl_ren, bl_zb])) (by simp [frSub, lkG, ren, renL, renL_set, renL_ints, UpdOk.nil, UpdOk.cons, renOO_some, renO_cells, renO_map, renOO_mkOb, rn_base, rn_add, ren_mkSl, Enc.flat_ren, set_same, set_ne, sets_cons, sets_nil, Keep.set, Keep.setK, Keep.refl, bl_ren, bl_zb]) (by simp [frSub, lkG, ren, renL, renL_set, renL_ints, UpdOk.nil, UpdOk.cons, renOO_some, renO_cells, renO_map, renOO_mkOb, rn_base, rn_add, ren_mkSl, Enc.flat_ren, set_same, set_ne, sets_cons, sets_nil, Keep.set, Keep.setK, Keep.refl, bl_ren, bl_zb])
  · rintro ⟨k, b, n⟩ ⟨hk, hb, h0, h1, hm, hm2⟩
    have hk : k ≤ s.length + 1 := hk
    have hb : OkB b := hb
    have h0 : 0 ≤ n := h0
    have h1 : n ≤ 2569 := h1
    have hm : k ≤ s.length → (b, n) = (s.take k).foldl rStep (zb, 0) := hm
    have hm2 : k = s.length + 1 → b = rB s := hm2
    have hI := isBits_bl hb
    have kw : wrapA .i64 ((k : Int) + 1) = ((k + 1 : Nat) : Int) := by rw [wrap64 (by omega) (by omega)]; omega
    by_cases hlt : k < s.length
    · have hlt1 : (k : Int) < (s.length : Int) := by omega
      have hle1 : ¬ (s.length : Int) < (k : Int) := by omega
      have hs1 := fold_succ hlt
      rw [← hm (by omega)] at hs1
      obtain ⟨c, hc⟩ : ∃ c, (s[k]?).getD 0 = c := ⟨_, rfl⟩
      rw [hc] at hs1
      have hcl8 := u8_lt c
      have hi : Int.ofNat ((s[k]?).getD 0).toNat = ((c.toNat : Nat) : Int) := by rw [hc]; rfl
      have nxt : ∀ b' n', rStep (b, n) c = (b', n') → OkB b' → 0 ≤ n' → n' ≤ 2569 → (fun x : Nat × T_Bits × Int => x.1 ≤ s.length + 1 ∧ OkB x.2.1 ∧ 0 ≤ x.2.2 ∧ x.2.2 ≤ 2569 ∧ (x.1 ≤ s.length → x.2 = (s.take x.1).foldl rStep (zb, 0)) ∧ (x.1 = s.length + 1 → x.2.1 = rB s)) (k + 1, b', n') := by
        intro b' n' he h2 h3 h4
        exact ⟨by show k + 1 ≤ _; omega, h2, h3, h4, fun _ => by show (b', n') = _; rw [hs1, he], fun h => by have : k + 1 = s.length + 1 := h; omega⟩
      by_cases g1 : c.toNat < 48
      case neg =>
        by_cases g2 : 57 < c.toNat
        case neg =>
          by_cases g3 : 256 < n
          case neg =>
            have f1 : ¬ ((c.toNat : Nat) : Int) < 48 := by omega
            have f2 : ¬ (57 : Int) < ((c.toNat : Nat) : Int) := by omega
            have w1 : wrapA .i64 (10 * n) = 10 * n := by rw [wrap64 (by omega) (by omega)]
            have w2 : wrapA .u8 (((c.toNat : Nat) : Int) - 48) = ((c.toNat : Nat) : Int) - 48 := wrap_id (by simp [IntKind.signed]; omega) (by simp [IntKind.signed, IntKind.bits]; omega)
            have w3 : wrapA .i64 (((c.toNat : Nat) : Int) - 48) = ((c.toNat : Nat) : Int) - 48 := by rw [wrap64 (by omega) (by omega)]
            have w4 : wrapA .i64 (10 * n + (((c.toNat : Nat) : Int) - 48)) = 10 * n + (((c.toNat : Nat) : Int) - 48) := by rw [wrap64 (by omega) (by omega)]
            refine CW.vc env17 [0, 2, 3, 4, 5, 6, 9, 14, 36, 46, 53] (by kernel_rfl) ?_
            (simp (config := { maxSteps := 6000000 }) only [go_sem, reduceIte, reduceCtorEq, Nat.reduceAdd, Nat.reduceMul, Nat.reduceSub, Nat.reduceLT, Nat.reduceLeDiff, Nat.reduceEqDiff, Int.reduceEq, Int.reduceLT, Int.reduceLE, Int.reduceNe, rem64, mask64, c_iu, wrapu_mod, bl_len, bl_take, bl_ren, bl_app, bl_one, bOf_bl, Nat.mul_one, G17_rright, G17_put, G17_rtext, con1, conPut, conRText, slenS, stRP, sindex, hlt, hlt1, hle1, hi, f1, f2, g3, w1, w2, w3, w4, c_bi, Int.toNat_natCast]; repeat (refine Vc.mk' ?_; simp (config := { maxSteps := 6000000 }) only [go_sem, reduceIte, reduceCtorEq, Nat.reduceAdd, Nat.reduceMul, Nat.reduceSub, Nat.reduceLT, Nat.reduceLeDiff, Nat.reduceEqDiff, Int.reduceEq, Int.reduceLT, Int.reduceLE, Int.reduceNe, rem64, mask64, c_iu, wrapu_mod, bl_len, bl_take, bl_ren, bl_app, bl_one, bOf_bl, Nat.mul_one, G17_rright, G17_put, G17_rtext, con1, conPut, conRText, slenS, stRP, sindex, hlt, hlt1, hle1, hi, f1, f2, g3, w1, w2, w3, w4, c_bi, Int.toNat_natCast]))
            have he : rStep (b, n) c = (b, 10 * n + ((c.toNat : Int) - 48)) := if_pos ⟨⟨by omega, by omega⟩, by show n ≤ 256; omega⟩
            refine .mk (k + 1, b, 10 * n + ((c.toNat : Int) - 48)) (nxt _ _ he hb (by omega) (by omega)) (by show s.length + 1 - (k + 1) < s.length + 1 - k; omega) (SubR.mk' [top, top + 1] hcl (by simp) (by simp) rfl (frSub_ok (by simp [frSub, lkG, ren, renL, renL_set, renL_ints, UpdOk.nil, UpdOk.cons, renOO_some, renO_cells, renO_map, renOO_mkOb, rn_base, rn_add, ren_mkSl, Enc.flat_ren, set_same, set_ne, sets_cons, sets_nil, Keep.set, Keep.setK, Keep.refl, bl_ren, kw])) (by simp [frSub, lkG, ren, renL, renL_set, renL_ints, UpdOk.nil, UpdOk.cons, renOO_some, renO_cells, renO_map, renOO_mkOb, rn_base, rn_add, ren_mkSl, Enc.flat_ren, set_same, set_ne, sets_cons, sets_nil, Keep.set, Keep.setK, Keep.refl, bl_ren, kw]) (by simp [frSub, lkG, ren, renL, renL_set, renL_ints, UpdOk.nil, UpdOk.cons, renOO_some, renO_cells, renO_map, renOO_mkOb, rn_base, rn_add, ren_mkSl, Enc.flat_ren, set_same, set_ne, sets_cons, sets_nil, Keep.set, Keep.setK, Keep.refl, bl_ren, kw]))
          case pos =>
            have f1 : ¬ ((c.toNat : Nat) : Int) < 48 := by omega
            have f2 : ¬ (57 : Int) < ((c.toNat : Nat) : Int) := by omega
            cases hr : rightB n with
            | true =>
              have hr1 := hr
              simp only [rightB, Bool.and_eq_true, decide_eq_true_eq] at hr1
              obtain ⟨r1, r2⟩ := hr1
              have he : rStep (b, n) c = (putB b (n - 1).toNat, 0) := by unfold rStep; rw [if_neg (fun h => absurd h.2 (by show ¬ n ≤ 256; omega))]; show ((if rightB n = true then putB b (n - 1).toNat else b), (0 : Int)) = _; rw [if_pos hr]
              refine CW.vc env17 [0, 2, 3, 4, 5, 6, 9, 14, 36, 46, 53] (by kernel_rfl) ?_
              (simp (config := { maxSteps := 6000000 }) only [go_sem, reduceIte, reduceCtorEq, Nat.reduceAdd, Nat.reduceMul, Nat.reduceSub, Nat.reduceLT, Nat.reduceLeDiff, Nat.reduceEqDiff, Int.reduceEq, Int.reduceLT, Int.reduceLE, Int.reduceNe, rem64, mask64, c_iu, wrapu_mod, bl_len, bl_take, bl_ren, bl_app, bl_one, bOf_bl, Nat.mul_one, G17_rright, G17_put, G17_rtext, con1, conPut, conRText, slenS, stRP, sindex, hlt, hlt1, hle1, hi, f1, f2, g3, hr, r1, r2, hI, c_bi, Int.toNat_natCast]; repeat (refine Vc.mk' ?_; simp (config := { maxSteps := 6000000 }) only [go_sem, reduceIte, reduceCtorEq, Nat.reduceAdd, Nat.reduceMul, Nat.reduceSub, Nat.reduceLT, Nat.reduceLeDiff, Nat.reduceEqDiff, Int.reduceEq, Int.reduceLT, Int.reduceLE, Int.reduceNe, rem64, mask64, c_iu, wrapu_mod, bl_len, bl_take, bl_ren, bl_app, bl_one, bOf_bl, Nat.mul_one, G17_rright, G17_put, G17_rtext, con1, conPut, conRText, slenS, stRP, sindex, hlt, hlt1, hle1, hi, f1, f2, g3, hr, r1, r2, hI, c_bi, Int.toNat_natCast]))
              refine .mk (k + 1, putB b (n - 1).toNat, 0) (nxt _ _ he (putB_ok hb) (by omega) (by omega)) (by show s.length + 1 - (k + 1) < s.length + 1 - k; omega) (SubR.mk' [top, top + 1] hcl (by simp) (by simp) rfl (frSub_ok (by simp [frSub, lkG, ren, renL, renL_set, renL_ints, UpdOk.nil, UpdOk.cons, renOO_some, renO_cells, renO_map, renOO_mkOb, rn_base, rn_add, ren_mkSl, Enc.flat_ren, set_same, set_ne, sets_cons, sets_nil, Keep.set, Keep.setK, Keep.refl, bl_ren, kw])) (by simp [frSub, lkG, ren, renL, renL_set, renL_ints, UpdOk.nil, UpdOk.cons, renOO_some, renO_cells, renO_map, renOO_mkOb, rn_base, rn_add, ren_mkSl, Enc.flat_ren, set_same, set_ne, sets_cons, sets_nil, Keep.set, Keep.setK, Keep.refl, bl_ren, kw]) (by simp [frSub, lkG, ren, renL, renL_set, renL_ints, UpdOk.nil, UpdOk.cons, renOO_some, renO_cells, renO_map, renOO_mkOb, rn_base, rn_add, ren_mkSl, Enc.flat_ren, set_same, set_ne, sets_cons, sets_nil, Keep.set, Keep.setK, Keep.refl, bl_ren, kw]))
            | false =>
              have he : rStep (b, n) c = (b, 0) := by unfold rStep; rw [if_neg (fun h => absurd h.2 (by show ¬ n ≤ 256; omega))]; show ((if rightB n = true then putB b (n - 1).toNat else b), (0 : Int)) = _; rw [if_neg (by rw [hr]; simp)]
              refine CW.vc env17 [0, 2, 3, 4, 5, 6, 9, 14, 36, 46, 53] (by kernel_rfl) ?_
              (simp (config := { maxSteps := 6000000 }) only [go_sem, reduceIte, reduceCtorEq, Nat.reduceAdd, Nat.reduceMul, Nat.reduceSub, Nat.reduceLT, Nat.reduceLeDiff, Nat.reduceEqDiff, Int.reduceEq, Int.reduceLT, Int.reduceLE, Int.reduceNe, rem64, mask64, c_iu, wrapu_mod, bl_len, bl_take, bl_ren, bl_app, bl_one, bOf_bl, Nat.mul_one, G17_rright, G17_put, G17_rtext, con1, conPut, conRText, slenS, stRP, sindex, hlt, hlt1, hle1, hi, f1, f2, g3, hr, hI, c_bi, Int.toNat_natCast]; repeat (refine Vc.mk' ?_; simp (config := { maxSteps := 6000000 }) only [go_sem, reduceIte, reduceCtorEq, Nat.reduceAdd, Nat.reduceMul, Nat.reduceSub, Nat.reduceLT, Nat.reduceLeDiff, Nat.reduceEqDiff, Int.reduceEq, Int.reduceLT, Int.reduceLE, Int.reduceNe, rem64, mask64, c_iu, wrapu_mod, bl_len, bl_take, bl_ren, bl_app, bl_one, bOf_bl, Nat.mul_one, G17_rright, G17_put, G17_rtext, con1, conPut, conRText, slenS, stRP, sindex, hlt, hlt1, hle1, hi, f1, f2, g3, hr, hI, c_bi, Int.toNat_natCast]))
              refine .mk (k + 1, b, 0) (nxt _ _ he hb (by omega) (by omega)) (by show s.length + 1 - (k + 1) < s.length + 1 - k; omega) (SubR.mk' [top, top + 1] hcl (by simp) (by simp) rfl (frSub_ok (by simp [frSub, lkG, ren, renL, renL_set, renL_ints, UpdOk.nil, UpdOk.cons, renOO_some, renO_cells, renO_map, renOO_mkOb, rn_base, rn_add, ren_mkSl, Enc.flat_ren, set_same, set_ne, sets_cons, sets_nil, Keep.set, Keep.setK, Keep.refl, bl_ren, kw])) (by simp [frSub, lkG, ren, renL, renL_set, renL_ints, UpdOk.nil, UpdOk.cons, renOO_some, renO_cells, renO_map, renOO_mkOb, rn_base, rn_add, ren_mkSl, Enc.flat_ren, set_same, set_ne, sets_cons, sets_nil, Keep.set, Keep.setK, Keep.refl, bl_ren, kw]) (by simp [frSub, lkG, ren, renL, renL_set, renL_ints, UpdOk.nil, UpdOk.cons, renOO_some, renO_cells, renO_map, renOO_mkOb, rn_base, rn_add, ren_mkSl, Enc.flat_ren, set_same, set_ne, sets_cons, sets_nil, Keep.set, Keep.setK, Keep.refl, bl_ren, kw]))
        case pos =>
          have f1 : ¬ ((c.toNat : Nat) : Int) < 48 := by omega
          have f2 : (57 : Int) < ((c.toNat : Nat) : Int) := by omega
          cases hr : rightB n with
          | true =>
            have hr1 := hr
            simp only [rightB, Bool.and_eq_true, decide_eq_true_eq] at hr1
            obtain ⟨r1, r2⟩ := hr1
            have he : rStep (b, n) c = (putB b (n - 1).toNat, 0) := by unfold rStep; rw [if_neg (fun h => absurd h.1.2 (by omega))]; show ((if rightB n = true then putB b (n - 1).toNat else b), (0 : Int)) = _; rw [if_pos hr]
            refine CW.vc env17 [0, 2, 3, 4, 5, 6, 9, 14, 36, 46, 53] (by kernel_rfl) ?_
            (simp (config := { maxSteps := 6000000 }) only [go_sem, reduceIte, reduceCtorEq, Nat.reduceAdd, Nat.reduceMul, Nat.reduceSub, Nat.reduceLT, Nat.reduceLeDiff, Nat.reduceEqDiff, Int.reduceEq, Int.reduceLT, Int.reduceLE, Int.reduceNe, rem64, mask64, c_iu, wrapu_mod, bl_len, bl_take, bl_ren, bl_app, bl_one, bOf_bl, Nat.mul_one, G17_rright, G17_put, G17_rtext, con1, conPut, conRText, slenS, stRP, sindex, hlt, hlt1, hle1, hi, f1, f2, hr, r1, r2, hI, c_bi, Int.toNat_natCast]; repeat (refine Vc.mk' ?_; simp (config := { maxSteps := 6000000 }) only [go_sem, reduceIte, reduceCtorEq, Nat.reduceAdd, Nat.reduceMul, Nat.reduceSub, Nat.reduceLT, Nat.reduceLeDiff, Nat.reduceEqDiff, Int.reduceEq, Int.reduceLT, Int.reduceLE, Int.reduceNe, rem64, mask64, c_iu, wrapu_mod, bl_len, bl_take, bl_ren, bl_app, bl_one, bOf_bl, Nat.mul_one, G17_rright, G17_put, G17_rtext, con1, conPut, conRText, slenS, stRP, sindex, hlt, hlt1, hle1, hi, f1, f2, hr, r1, r2, hI, c_bi, Int.toNat_natCast]))
            refine .mk (k + 1, putB b (n - 1).toNat, 0) (nxt _ _ he (putB_ok hb) (by omega) (by omega)) (by show s.length + 1 - (k + 1) < s.length + 1 - k; omega) (SubR.mk' [top, top + 1] hcl (by simp) (by simp) rfl (frSub_ok (by simp [frSub, lkG, ren, renL, renL_set, renL_ints, UpdOk.nil, UpdOk.cons, renOO_some, renO_cells, renO_map, renOO_mkOb, rn_base, rn_add, ren_mkSl, Enc.flat_ren, set_same, set_ne, sets_cons, sets_nil, Keep.set, Keep.setK, Keep.refl, bl_ren, kw])) (by simp [frSub, lkG, ren, renL, renL_set, renL_ints, UpdOk.nil, UpdOk.cons, renOO_some, renO_cells, renO_map, renOO_mkOb, rn_base, rn_add, ren_mkSl, Enc.flat_ren, set_same, set_ne, sets_cons, sets_nil, Keep.set, Keep.setK, Keep.refl, bl_ren, kw]) (by simp [frSub, lkG, ren, renL, renL_set, renL_ints, UpdOk.nil, UpdOk.cons, renOO_some, renO_cells, renO_map, renOO_mkOb, rn_base, rn_add, ren_mkSl, Enc.flat_ren, set_same, set_ne, sets_cons, sets_nil, Keep.set, Keep.setK, Keep.refl, bl_ren, kw]))
          | false =>
            have he : rStep (b, n) c = (b, 0) := by unfold rStep; rw [if_neg (fun h => absurd h.1.2 (by omega))]; show ((if rightB n = true then putB b (n - 1).toNat else b), (0 : Int)) = _; rw [if_neg (by rw [hr]; simp)]
            refine CW.vc env17 [0, 2, 3, 4, 5, 6, 9, 14, 36, 46, 53] (by kernel_rfl) ?_
            (simp (config := { maxSteps := 6000000 }) only [go_sem, reduceIte, reduceCtorEq, Nat.reduceAdd, Nat.reduceMul, Nat.reduceSub, Nat.reduceLT, Nat.reduceLeDiff, Nat.reduceEqDiff, Int.reduceEq, Int.reduceLT, Int.reduceLE, Int.reduceNe, rem64, mask64, c_iu, wrapu_mod, bl_len, bl_take, bl_ren, bl_app, bl_one, bOf_bl, Nat.mul_one, G17_rright, G17_put, G17_rtext, con1, conPut, conRText, slenS, stRP, sindex, hlt, hlt1, hle1, hi, f1, f2, hr, hI, c_bi, Int.toNat_natCast]; repeat (refine Vc.mk' ?_; simp (config := { maxSteps := 6000000 }) only [go_sem, reduceIte, reduceCtorEq, Nat.reduceAdd, Nat.reduceMul, Nat.reduceSub, Nat.reduceLT, Nat.reduceLeDiff, Nat.reduceEqDiff, Int.reduceEq, Int.reduceLT, Int.reduceLE, Int.reduceNe, rem64, mask64, c_iu, wrapu_mod, bl_len, bl_take, bl_ren, bl_app, bl_one, bOf_bl, Nat.mul_one, G17_rright, G17_put, G17_rtext, con1, conPut, conRText, slenS, stRP, sindex, hlt, hlt1, hle1, hi, f1, f2, hr, hI, c_bi, Int.toNat_natCast]))
            refine .mk (k + 1, b, 0) (nxt _ _ he hb (by omega) (by omega)) (by show s.length + 1 - (k + 1) < s.length + 1 - k; omega) (SubR.mk' [top, top + 1] hcl (by simp) (by simp) rfl (frSub_ok (by simp [frSub, lkG, ren, renL, renL_set, renL_ints, UpdOk.nil, UpdOk.cons, renOO_some, renO_cells, renO_map, renOO_mkOb, rn_base, rn_add, ren_mkSl, Enc.flat_ren, set_same, set_ne, sets_cons, sets_nil, Keep.set, Keep.setK, Keep.refl, bl_ren, kw])) (by simp [frSub, lkG, ren, renL, renL_set, renL_ints, UpdOk.nil, UpdOk.cons, renOO_some, renO_cells, renO_map, renOO_mkOb, rn_base, rn_add, ren_mkSl, Enc.flat_ren, set_same, set_ne, sets_cons, sets_nil, Keep.set, Keep.setK, Keep.refl, bl_ren, kw]) (by simp [frSub, lkG, ren, renL, renL_set, renL_ints, UpdOk.nil, UpdOk.cons, renOO_some, renO_cells, renO_map, renOO_mkOb, rn_base, rn_add, ren_mkSl, Enc.flat_ren, set_same, set_ne, sets_cons, sets_nil, Keep.set, Keep.setK, Keep.refl, bl_ren, kw]))
      case pos =>
        have f1 : ((c.toNat : Nat) : Int) < 48 := by omega
        cases hr : rightB n with
        | true =>
          have hr1 := hr
          simp only [rightB, Bool.and_eq_true, decide_eq_true_eq] at hr1
          obtain ⟨r1, r2⟩ := hr1
          have he : rStep (b, n) c = (putB b (n - 1).toNat, 0) := by unfold rStep; rw [if_neg (fun h => absurd h.1.1 (by omega))]; show ((if rightB n = true then putB b (n - 1).toNat else b), (0 : Int)) = _; rw [if_pos hr]
          refine CW.vc env17 [0, 2, 3, 4, 5, 6, 9, 14, 36, 46, 53] (by kernel_rfl) ?_
          (simp (config := { maxSteps := 6000000 }) only [go_sem, reduceIte, reduceCtorEq, Nat.reduceAdd, Nat.reduceMul, Nat.reduceSub, Nat.reduceLT, Nat.reduceLeDiff, Nat.reduceEqDiff, Int.reduceEq, Int.reduceLT, Int.reduceLE, Int.reduceNe, rem64, mask64, c_iu, wrapu_mod, bl_len, bl_take, bl_ren, bl_app, bl_one, bOf_bl, Nat.mul_one, G17_rright, G17_put, G17_rtext, con1, conPut, conRText, slenS, stRP, sindex, hlt, hlt1, hle1, hi, f1, hr, r1, r2, hI, c_bi, Int.toNat_natCast]; repeat (refine Vc.mk' ?_; simp (config := { maxSteps := 6000000 }) only [go_sem, reduceIte, reduceCtorEq, Nat.reduceAdd, Nat.reduceMul, Nat.reduceSub, Nat.reduceLT, Nat.reduceLeDiff, Nat.reduceEqDiff, Int.reduceEq, Int.reduceLT, Int.reduceLE, Int.reduceNe, rem64, mask64, c_iu, wrapu_mod, bl_len, bl_take, bl_ren, bl_app, bl_one, bOf_bl, Nat.mul_one, G17_rright, G17_put, G17_rtext, con1, conPut, conRText, slenS, stRP, sindex, hlt, hlt1, hle1, hi, f1, hr, r1, r2, hI, c_bi, Int.toNat_natCast]))
          refine .mk (k + 1, putB b (n - 1).toNat, 0) (nxt _ _ he (putB_ok hb) (by omega) (by omega)) (by show s.length + 1 - (k + 1) < s.length + 1 - k; omega) (SubR.mk' [top, top + 1] hcl (by simp) (by simp) rfl (frSub_ok (by simp [frSub, lkG, ren, renL, renL_set, renL_ints, UpdOk.nil, UpdOk.cons, renOO_some, renO_cells, renO_map, renOO_mkOb, rn_base, rn_add, ren_mkSl, Enc.flat_ren, set_same, set_ne, sets_cons, sets_nil, Keep.set, Keep.setK, Keep.refl, bl_ren, kw])) (by simp [frSub, lkG, ren, renL, renL_set, renL_ints, UpdOk.nil, UpdOk.cons, renOO_some, renO_cells, renO_map, renOO_mkOb, rn_base, rn_add, ren_mkSl, Enc.flat_ren, set_same, set_ne, sets_cons, sets_nil, Keep.set, Keep.setK, Keep.refl, bl_ren, kw]) (by simp [frSub, lkG, ren, renL, renL_set, renL_ints, UpdOk.nil, UpdOk.cons, renOO_some, renO_cells, renO_map, renOO_mkOb, rn_base, rn_add, ren_mkSl, Enc.flat_ren, set_same, set_ne, sets_cons, sets_nil, Keep.set, Keep.setK, Keep.refl, bl_ren, kw]))
        | false =>
          have he : rStep (b, n) c = (b, 0) := by unfold rStep; rw [if_neg (fun h => absurd h.1.1 (by omega))]; show ((if rightB n = true then putB b (n - 1).toNat else b), (0 : Int)) = _; rw [if_neg (by rw [hr]; simp)]
          refine CW.vc env17 [0, 2, 3, 4, 5, 6, 9, 14, 36, 46, 53] (by kernel_rfl) ?_
          (simp (config := { maxSteps := 6000000 }) only [go_sem, reduceIte, reduceCtorEq, Nat.reduceAdd, Nat.reduceMul, Nat.reduceSub, Nat.reduceLT, Nat.reduceLeDiff, Nat.reduceEqDiff, Int.reduceEq, Int.reduceLT, Int.reduceLE, Int.reduceNe, rem64, mask64, c_iu, wrapu_mod, bl_len, bl_take, bl_ren, bl_app, bl_one, bOf_bl, Nat.mul_one, G17_rright, G17_put, G17_rtext, con1, conPut, conRText, slenS, stRP, sindex, hlt, hlt1, hle1, hi, f1, hr, hI, c_bi, Int.toNat_natCast]; repeat (refine Vc.mk' ?_; simp (config := { maxSteps := 6000000 }) only [go_sem, reduceIte, reduceCtorEq, Nat.reduceAdd, Nat.reduceMul, Nat.reduceSub, Nat.reduceLT, Nat.reduceLeDiff, Nat.reduceEqDiff, Int.reduceEq, Int.reduceLT, Int.reduceLE, Int.reduceNe, rem64, mask64, c_iu, wrapu_mod, bl_len, bl_take, bl_ren, bl_app, bl_one, bOf_bl, Nat.mul_one, G17_rright, G17_put, G17_rtext, con1, conPut, conRText, slenS, stRP, sindex, hlt, hlt1, hle1, hi, f1, hr, hI, c_bi, Int.toNat_natCast]))
          refine .mk (k + 1, b, 0) (nxt _ _ he hb (by omega) (by omega)) (by show s.length + 1 - (k + 1) < s.length + 1 - k; omega) (SubR.mk' [top, top + 1] hcl (by simp) (by simp) rfl (frSub_ok (by simp [frSub, lkG, ren, renL, renL_set, renL_ints, UpdOk.nil, UpdOk.cons, renOO_some, renO_cells, renO_map, renOO_mkOb, rn_base, rn_add, ren_mkSl, Enc.flat_ren, set_same, set_ne, sets_cons, sets_nil, Keep.set, Keep.setK, Keep.refl, bl_ren, kw])) (by simp [frSub, lkG, ren, renL, renL_set, renL_ints, UpdOk.nil, UpdOk.cons, renOO_some, renO_cells, renO_map, renOO_mkOb, rn_base, rn_add, ren_mkSl, Enc.flat_ren, set_same, set_ne, sets_cons, sets_nil, Keep.set, Keep.setK, Keep.refl, bl_ren, kw]) (by simp [frSub, lkG, ren, renL, renL_set, renL_ints, UpdOk.nil, UpdOk.cons, renOO_some, renO_cells, renO_map, renOO_mkOb, rn_base, rn_add, ren_mkSl, Enc.flat_ren, set_same, set_ne, sets_cons, sets_nil, Keep.set, Keep.setK, Keep.refl, bl_ren, kw]))
    · by_cases hke : k = s.length
      · subst hke
        have hlt1 : ¬ (s.length : Int) < (s.length : Int) := by omega
        have hbn := hm (Nat.le_refl _)
        rw [List.take_length] at hbn
        have hB : rB s = rEnd (b, n) := by rw [hbn]; rfl
        have nxt : ∀ b', rEnd (b, n) = b' → OkB b' → (fun x : Nat × T_Bits × Int => x.1 ≤ s.length + 1 ∧ OkB x.2.1 ∧ 0 ≤ x.2.2 ∧ x.2.2 ≤ 2569 ∧ (x.1 ≤ s.length → x.2 = (s.take x.1).foldl rStep (zb, 0)) ∧ (x.1 = s.length + 1 → x.2.1 = rB s)) (s.length + 1, b', 0) := by
          intro b' he h2
          exact ⟨by show s.length + 1 ≤ _; omega, h2, Int.le_refl _, (by show (0 : Int) ≤ 2569; decide), fun h => by have : s.length + 1 ≤ s.length := h; omega, fun _ => by show b' = _; rw [hB, he]⟩
        cases hr : rightB n with
        | true =>
          have hr1 := hr
          simp only [rightB, Bool.and_eq_true, decide_eq_true_eq] at hr1
          obtain ⟨r1, r2⟩ := hr1
          refine CW.vc env17 [0, 2, 3, 4, 5, 6, 9, 14, 36, 46, 53] (by kernel_rfl) ?_
          (simp (config := { maxSteps := 6000000 }) only [go_sem, reduceIte, reduceCtorEq, Nat.reduceAdd, Nat.reduceMul, Nat.reduceSub, Nat.reduceLT, Nat.reduceLeDiff, Nat.reduceEqDiff, Int.reduceEq, Int.reduceLT, Int.reduceLE, Int.reduceNe, rem64, mask64, c_iu, wrapu_mod, bl_len, bl_take, bl_ren, bl_app, bl_one, bOf_bl, Nat.mul_one, G17_rright, G17_put, G17_rtext, con1, conPut, conRText, slenS, stRP, sindex, hlt, hlt1, Int.lt_irrefl, Nat.lt_irrefl, hr, r1, r2, hI, c_bi, Int.toNat_natCast]; repeat (refine Vc.mk' ?_; simp (config := { maxSteps := 6000000 }) only [go_sem, reduceIte, reduceCtorEq, Nat.reduceAdd, Nat.reduceMul, Nat.reduceSub, Nat.reduceLT, Nat.reduceLeDiff, Nat.reduceEqDiff, Int.reduceEq, Int.reduceLT, Int.reduceLE, Int.reduceNe, rem64, mask64, c_iu, wrapu_mod, bl_len, bl_take, bl_ren, bl_app, bl_one, bOf_bl, Nat.mul_one, G17_rright, G17_put, G17_rtext, con1, conPut, conRText, slenS, stRP, sindex, hlt, hlt1, Int.lt_irrefl, Nat.lt_irrefl, hr, r1, r2, hI, c_bi, Int.toNat_natCast]))
          refine .mk (s.length + 1, putB b (n - 1).toNat, 0) (nxt _ (if_pos hr) (putB_ok hb)) (by show s.length + 1 - (s.length + 1) < s.length + 1 - s.length; omega) (SubR.mk' [top, top + 1] hcl (by simp) (by simp) rfl (frSub_ok (by simp [frSub, lkG, ren, renL, renL_set, renL_ints, UpdOk.nil, UpdOk.cons, renOO_some, renO_cells, renO_map, renOO_mkOb, rn_base, rn_add, ren_mkSl, Enc.flat_ren, set_same, set_ne, sets_cons, sets_nil, Keep.set, Keep.setK, Keep.refl, bl_ren, kw])) (by simp [frSub, lkG, ren, renL, renL_set, renL_ints, UpdOk.nil, UpdOk.cons, renOO_some, renO_cells, renO_map, renOO_mkOb, rn_base, rn_add, ren_mkSl, Enc.flat_ren, set_same, set_ne, sets_cons, sets_nil, Keep.set, Keep.setK, Keep.refl, bl_ren, kw]) (by simp [frSub, lkG, ren, renL, renL_set, renL_ints, UpdOk.nil, UpdOk.cons, renOO_some, renO_cells, renO_map, renOO_mkOb, rn_base, rn_add, ren_mkSl, Enc.flat_ren, set_same, set_ne, sets_cons, sets_nil, Keep.set, Keep.setK, Keep.refl, bl_ren, kw]))
        | false =>
          refine CW.vc env17 [0, 2, 3, 4, 5, 6, 9, 14, 36, 46, 53] (by kernel_rfl) ?_
          (simp (config := { maxSteps := 6000000 }) only [go_sem, reduceIte, reduceCtorEq, Nat.reduceAdd, Nat.reduceMul, Nat.reduceSub, Nat.reduceLT, Nat.reduceLeDiff, Nat.reduceEqDiff, Int.reduceEq, Int.reduceLT, Int.reduceLE, Int.reduceNe, rem64, mask64, c_iu, wrapu_mod, bl_len, bl_take, bl_ren, bl_app, bl_one, bOf_bl, Nat.mul_one, G17_rright, G17_put, G17_rtext, con1, conPut, conRText, slenS, stRP, sindex, hlt, hlt1, Int.lt_irrefl, Nat.lt_irrefl, hr, hI, c_bi, Int.toNat_natCast]; repeat (refine Vc.mk' ?_; simp (config := { maxSteps := 6000000 }) only [go_sem, reduceIte, reduceCtorEq, Nat.reduceAdd, Nat.reduceMul, Nat.reduceSub, Nat.reduceLT, Nat.reduceLeDiff, Nat.reduceEqDiff, Int.reduceEq, Int.reduceLT, Int.reduceLE, Int.reduceNe, rem64, mask64, c_iu, wrapu_mod, bl_len, bl_take, bl_ren, bl_app, bl_one, bOf_bl, Nat.mul_one, G17_rright, G17_put, G17_rtext, con1, conPut, conRText, slenS, stRP, sindex, hlt, hlt1, Int.lt_irrefl, Nat.lt_irrefl, hr, hI, c_bi, Int.toNat_natCast]))
          refine .mk (s.length + 1, b, 0) (nxt _ (if_neg (by show ¬ rightB n = true; rw [hr]; simp)) hb) (by show s.length + 1 - (s.length + 1) < s.length + 1 - s.length; omega) (SubR.mk' [top, top + 1] hcl (by simp) (by simp) rfl (frSub_ok (by simp [frSub, lkG, ren, renL, renL_set, renL_ints, UpdOk.nil, UpdOk.cons, renOO_some, renO_cells, renO_map, renOO_mkOb, rn_base, rn_add, ren_mkSl, Enc.flat_ren, set_same, set_ne, sets_cons, sets_nil, Keep.set, Keep.setK, Keep.refl, bl_ren, kw])) (by simp [frSub, lkG, ren, renL, renL_set, renL_ints, UpdOk.nil, UpdOk.cons, renOO_some, renO_cells, renO_map, renOO_mkOb, rn_base, rn_add, ren_mkSl, Enc.flat_ren, set_same, set_ne, sets_cons, sets_nil, Keep.set, Keep.setK, Keep.refl, bl_ren, kw]) (by simp [frSub, lkG, ren, renL, renL_set, renL_ints, UpdOk.nil, UpdOk.cons, renOO_some, renO_cells, renO_map, renOO_mkOb, rn_base, rn_add, ren_mkSl, Enc.flat_ren, set_same, set_ne, sets_cons, sets_nil, Keep.set, Keep.setK, Keep.refl, bl_ren, kw]))
      · have hke2 : k = s.length + 1 := by omega
        subst hke2
        have hB := hm2 rfl
        have hgt : (s.length : Int) < ((s.length + 1 : Nat) : Int) := by omega
        by_cases ht : textN (lsB b) = s
        · have e : parV s = .tuple ⟨[.agg ⟨bl b⟩, .int .i64 0]⟩ := by
            rw [parV, parB, parE, ← hB, if_pos ht, if_pos ht]
          have q : eqB (textN (lsB b)) s = true := by rw [ht, eqB_self]
          rw [e]
          refine CW.vc env17 [0, 2, 3, 4, 5, 6, 9, 14, 36, 46, 53] (by kernel_rfl) ?_
          (simp (config := { maxSteps := 6000000 }) only [go_sem, reduceIte, reduceCtorEq, Nat.reduceAdd, Nat.reduceMul, Nat.reduceSub, Nat.reduceLT, Nat.reduceLeDiff, Nat.reduceEqDiff, Int.reduceEq, Int.reduceLT, Int.reduceLE, Int.reduceNe, rem64, mask64, c_iu, wrapu_mod, bl_len, bl_take, bl_ren, bl_app, bl_one, bOf_bl, Nat.mul_one, G17_rright, G17_put, G17_rtext, con1, conPut, conRText, slenS, stRP, hgt, hI, q]; repeat (refine Vc.mk' ?_; simp (config := { maxSteps := 6000000 }) only [go_sem, reduceIte, reduceCtorEq, Nat.reduceAdd, Nat.reduceMul, Nat.reduceSub, Nat.reduceLT, Nat.reduceLeDiff, Nat.reduceEqDiff, Int.reduceEq, Int.reduceLT, Int.reduceLE, Int.reduceNe, rem64, mask64, c_iu, wrapu_mod, bl_len, bl_take, bl_ren, bl_app, bl_one, bOf_bl, Nat.mul_one, G17_rright, G17_put, G17_rtext, con1, conPut, conRText, slenS, stRP, hgt, hI, q]))
        · have e : parV s = .tuple ⟨[.agg ⟨bl zb⟩, .int .i64 4]⟩ := by
            rw [parV, parB, parE, ← hB, if_neg ht, if_neg ht]
          have q : eqB (textN (lsB b)) s = false := by rw [eqB_eq]; simpa using ht
          rw [e]
          refine CW.vc env17 [0, 2, 3, 4, 5, 6, 9, 14, 36, 46, 53] (by kernel_rfl) ?_
          (simp (config := { maxSteps := 6000000 }) only [go_sem, reduceIte, reduceCtorEq, Nat.reduceAdd, Nat.reduceMul, Nat.reduceSub, Nat.reduceLT, Nat.reduceLeDiff, Nat.reduceEqDiff, Int.reduceEq, Int.reduceLT, Int.reduceLE, Int.reduceNe, rem64, mask64, c_iu, wrapu_mod, bl_len, bl_take, bl_ren, bl_app, bl_one, bOf_bl, Nat.mul_one, G17_rright, G17_put, G17_rtext, con1, conPut, conRText, slenS, stRP, hgt, hI, q]; repeat (refine Vc.mk' ?_; simp (config := { maxSteps := 6000000 }) only [go_sem, reduceIte, reduceCtorEq, Nat.reduceAdd, Nat.reduceMul, Nat.reduceSub, Nat.reduceLT, Nat.reduceLeDiff, Nat.reduceEqDiff, Int.reduceEq, Int.reduceLT, Int.reduceLE, Int.reduceNe, rem64, mask64, c_iu, wrapu_mod, bl_len, bl_take, bl_ren, bl_app, bl_one, bOf_bl, Nat.mul_one, G17_rright, G17_put, G17_rtext, con1, conPut, conRText, slenS, stRP, hgt, hI, q]))
          rfl
/-! ### BitsReads -/
def G18 := addG (addG G17 43 conParse) 44 conRParse
theorem env18 : EnvV Tryd.prog tt.get G18 := (env17.add parse_ok).add rparse_ok
theorem G18_parse : G18 43 = conParse := rfl
theorem G18_rparse : G18 44 = conRParse := rfl
theorem G18_works : G18 15 = conWorks := rfl
theorem vars_sets {hp h : Hp} (hv : VarsOk hp) (e : ∀ i, i < 7 → h i = hp i) : VarsOk h := by
  unfold VarsOk
  rw [e 1 (by decide), e 2 (by decide), e 4 (by decide), e 6 (by decide)]; exact hv
theorem vars_set {hp : Hp} {i : Nat} {o : Option AObj} (hi : 7 ≤ i) : VarsOk (hp.set i o) = VarsOk hp := by
  unfold VarsOk
  rw [set_ne _ _ _ _ (by omega), set_ne _ _ _ _ (by omega), set_ne _ _ _ _ (by omega), set_ne _ _ _ _ (by omega)]
theorem vars_top {hp : Hp} {top : Nat} (hcl : Cl hp top) (hv : VarsOk hp) : 7 ≤ top := by
  obtain ⟨_, _, _, t, a, h⟩ := hv
  have := hcl.lt _ _ h
  omega
def conReads : Con := .pure (fun args hp => match args with | [.string ⟨⟨s⟩⟩] => s.length < 4294967281 ∧ hp 0 = some tzO ∧ VarsOk hp | _ => False) (fun _ _ => .bool true)

theorem reads_ok : ConOk Tryd.prog 9 conReads := by
  refine .mkRd fn9_ok (fun _ _ _ => rfl) ?_
  intro args hp hpre top hcl hsc
  match args, hpre with
  | [.string ⟨⟨s⟩⟩], ⟨hs, ht, hv⟩ =>
  have ht5 := vars_top hcl hv
  have ht0 : 0 < top := by omega
  have ht1 : 1 < top := by omega
  have hp1 := hv.1
  have hv1 : ∀ {i : Nat} {o : Option AObj}, top ≤ i → VarsOk (hp.set i o) := fun hi => by rw [vars_set (by omega)]; exact hv
  have v1 : ∀ (i : Nat) (h : Hp) (o : Option AObj), VarsOk (h.set (top + i) o) = VarsOk h := fun i h o => vars_set (by omega)
  have v0 : ∀ (h : Hp) (o : Option AObj), VarsOk (h.set top o) = VarsOk h := fun h o => vars_set ht5
  have hs2 : s.length ≤ 9223372036854775807 := by omega
  refine CalledOk.of_fun tt_ok fn9_ok rfl 28 rfl [.tmp 2] rfl (show 1 ≤ 28 by decide) ?_
  refine CW.vc env18 [0, 2, 3, 4, 5, 6] (by kernel_rfl) ?_
  (simp (config := { maxSteps := 6000000 }) only [go_sem, reduceIte, reduceCtorEq, Nat.reduceAdd, Nat.reduceMul, Nat.reduceSub, Nat.reduceLT, Nat.reduceLeDiff, Nat.reduceEqDiff, Int.reduceEq, Int.reduceLT, Int.reduceLE, Int.reduceNe, rem64, mask64, c_iu, wrapu_mod, bl_len, bl_take, bl_ren, bl_app, bl_one, bOf_bl, Nat.mul_one, G18_parse, G18_rparse, G18_works, conParse, conRParse, conWorks, parV, bits_eql, v0, v1, hs, hs2, hv, set_lt ht0, set_lt ht1, ht, hp1, decide_true, Bool.not_true]; repeat (refine Vc.mk' ?_; simp (config := { maxSteps := 6000000 }) only [go_sem, reduceIte, reduceCtorEq, Nat.reduceAdd, Nat.reduceMul, Nat.reduceSub, Nat.reduceLT, Nat.reduceLeDiff, Nat.reduceEqDiff, Int.reduceEq, Int.reduceLT, Int.reduceLE, Int.reduceNe, rem64, mask64, c_iu, wrapu_mod, bl_len, bl_take, bl_ren, bl_app, bl_one, bOf_bl, Nat.mul_one, G18_parse, G18_rparse, G18_works, conParse, conRParse, conWorks, parV, bits_eql, v0, v1, hs, hs2, hv, set_lt ht0, set_lt ht1, ht, hp1, decide_true, Bool.not_true]))
end Go.Proofs.YtkofmbhopmgmhaaDoor.Dm
