/- Bit strings, as the bits chapter has them (turned to this seat by port.py): part TB4. -/
import Derived.Test.YthpibnpeaidabaaGreatDoorTB3
import Derived.Lib.ItoaLen
import Derived.Lib.ItoaMem
import Derived.Shelf.Spec.TrailingZeros
set_option linter.unusedVariables false
namespace Go.Proofs.YthpibnpeaidabaaGreatDoor.Dm
open Go.Dm
set_option maxHeartbeats 16000000
theorem spl_len : ∀ s, (spl s).length ≤ s.length + 1
  | [] => by simp [spl]
  | c :: r => by
    have ih := spl_len r
    unfold spl
    split
    · simp; exact ih
    · split
      · simp
      · rename_i h t e; rw [e] at ih; simp at ih ⊢; omega
theorem spl_mem : ∀ s, ∀ w ∈ spl s, w.length ≤ s.length
  | [], w, h => by simp [spl] at h; simp [h]
  | c :: r, w, h => by
    have ih := spl_mem r
    unfold spl at h
    split at h
    · rcases List.mem_cons.1 h with rfl | h
      · simp
      · have := ih w h; simp; omega
    · split at h
      · simp at h; simp [h]
      · rename_i h' t e
        rcases List.mem_cons.1 h with rfl | h
        · have := ih h' (by rw [e]; simp); simp; omega
        · have := ih w (by rw [e]; simp [h]); simp; omega
theorem neq_i {xo yo : Operand} {t : TypeId} {v : Value} : binA tt.get .neq 35 xo yo (.iface t v) .nilIface = some (.bool true) := by simp [binA, eqA, t_error, ti35]
theorem neq_n {xo : Operand} : binA tt.get .neq 35 xo (.const .nilIface) .nilIface .nilIface = some (.bool false) := by simp [binA, eqA, t_error, ti35, isC]
/-- the variables that Split and Atoi read -/
def VarsOk (hp : Hp) : Prop := hp 1 = some powO ∧ (∃ m, hp 2 = some (varO 3 (.int .i64 m))) ∧ (∃ t a, hp 4 = some (varO 4 (.iface t a))) ∧ (∃ t a, hp 6 = some (varO 5 (.iface t a)))
def conParse : Con := .pure (fun args hp => match args with | [.string ⟨⟨s⟩⟩] => s.length < 4294967281 ∧ VarsOk hp | _ => False) (fun args _ => match args with | [s] => parV (strOf s) | _ => undef)
def G17 := addG (addG G16 66 conSplit) 48 conAtoi
theorem env17 : EnvV Tryz.prog tt.get G17 := (env16.add split_ok).add atoi_ok
theorem G17_split : G17 66 = conSplit := rfl
theorem G17_atoi : G17 48 = conAtoi := rfl
theorem G17_right : G17 67 = con1 rightB := rfl
theorem G17_itoa : G17 35 = conItoa := rfl
theorem G17_with : G17 68 = conSet putB := rfl
def stPa (hp : Hp) (top : Nat) (l : List (List UInt8)) (x : Nat × T_Bits × Int) : SS := ⟨[(2, .pointer (some ⟨top, 0, none⟩), true), (4, .pointer (some ⟨top + 1, 0, none⟩), true), (5, .int .i64 x.2.2, true), (14, mkSl (top + 2) l, true), (15, .int .i64 (l.length : Int), true), (16, .int .i64 (x.1 : Int), true)], hp.sets [(top, some (.cells true 0 (bl zb))), (top + 1, some (.cells true 0 (bl x.2.1))), (top + 2, mkOb e_string l)], top + 3⟩
theorem parV_plain (s : List UInt8) : plain 3 (parV s) = true := rfl
theorem parse_ok : ConOk Tryz.prog 42 conParse := by
  refine .mkRd fn42_ok ?_ ?_
  · rintro args hp h
    match args, h with
    | [.string ⟨⟨s⟩⟩], _ => exact parV_plain s
  intro args hp hpre top hcl hsc
  match args, hpre with
  | [.string ⟨⟨s⟩⟩], ⟨hs, hp1, hv2, hv3, hv4⟩ =>
  have ht1 : 1 < top := hcl.lt _ _ hp1
  have ht2 : 2 < top := by obtain ⟨m, h⟩ := hv2; exact hcl.lt _ _ h
  have ht3 : 4 < top := by obtain ⟨t, a, h⟩ := hv3; exact hcl.lt _ _ h
  have ht4 : 6 < top := by obtain ⟨t, a, h⟩ := hv4; exact hcl.lt _ _ h
  simp only [strOf_string]
  refine CalledOk.of_fun tt_ok fn42_ok rfl 53 rfl [.cell 2 31, .tmp 3] rfl (show 1 ≤ 53 by decide) ?_
  by_cases hd : s = [45]
  · subst hd
    have e : parV [45] = .tuple ⟨[.agg ⟨bl zb⟩, .int .i64 0]⟩ := by rw [parV, par_dash.1, par_dash.2]
    rw [e]
    refine CW.vc env17 [0, 2, 3, 4, 5, 7, 8, 9, 11, 14, 15, 16, 17, 42] (by kernel_rfl) ?_
    (repeat ((try refine Vc.mk' ?_); simp (config := { maxSteps := 6000000 }) only [go_sem, reduceCtorEq, Nat.reduceAdd, eqB_self]))
    rfl
  have ed : eqB s [45] = false := by
    rw [eqB_eq]; simpa using hd
  have e2 : splL s = spl s := splL_eq s
  obtain ⟨l, hl⟩ : ∃ l, spl s = l := ⟨_, rfl⟩
  have hlen := spl_len s
  have hmem := spl_mem s
  rw [hl] at hlen hmem e2
  have hLb : l.length ≤ 9223372036854775807 := by omega
  refine CW.vc env17 [0, 2, 3, 4, 5, 7, 8, 9, 11, 14, 15, 16, 17, 42] (by kernel_rfl) ?_
  (repeat ((try refine Vc.mk' ?_); simp (config := { maxSteps := 6000000 }) only [go_sem, Nat.reduceAdd, G17_split, conSplit, ed, e2, hs, hv2, set_lt ht2]))
  refine CW.loopR (stPa hp top l) (fun x => x.1 ≤ l.length ∧ OkB x.2.1 ∧ 0 ≤ x.2.2 ∧ pLoop zb 0 l = pLoop x.2.1 x.2.2 (l.drop x.1)) (fun x => l.length - x.1) (0, zb, 0) ⟨Nat.zero_le _, zb_ok, Int.le_refl _, rfl⟩ ?_ ?_
  · exact (by refine SubR.mk' [top, top + 1, top + 2] hcl (by simp) (by simp) rfl (frSub_ok ?_) ?_ ?_ <;> simp [frSub, lkG, ren, renL, UpdOk.nil, UpdOk.cons, renOO_some, renO_cells, renOO_mkOb, rn_base, rn_add, ren_mkSl, set_same, set_ne, Keep.set, Keep.refl, bl_zb])
  · rintro ⟨k, b, last⟩ ⟨hk, hb, h0, hm⟩
    have hk : k ≤ l.length := hk
    have hb : OkB b := hb
    have h0 : 0 ≤ last := h0
    have hm : pLoop zb 0 l = pLoop b last (l.drop k) := hm
    have hI := isBits_bl hb
    have hob : ((hp.set top (some (AObj.cells true 0 (bl zb)))).set (top + 1) (some (AObj.cells true 0 (bl b)))).set (top + 2) (mkOb e_string l) (top + 2) = mkOb e_string l := set_same ..
    have hA := SlT.ownB hob hLb
    by_cases hlt : k < l.length
    · have hlt1 : (k : Int) < (l.length : Int) := by omega
      have ld1 := ld_sstring hA hlt
      rw [Nat.mul_one] at ld1
      rw [at_get? hlt, pLoop] at hm
      have hw : (at' l k).length ≤ s.length := hmem _ (by rw [at'_get _ _ hlt]; exact List.getElem_mem hlt)
      have hw2 : (at' l k).length ≤ 281474976710656 := by omega
      obtain ⟨w, hwk⟩ : ∃ w, at' l k = w := ⟨_, rfl⟩
      rw [hwk] at ld1 hm hw2
      have fail : pLoop zb 0 l = none → parV s = .tuple ⟨[.agg ⟨bl zb⟩, .int .i64 4]⟩ := fun h => by
        rw [← hl] at h
        rw [parV, (par_none hd h).1, (par_none hd h).2]
      cases ha : Lib.atoiAll w with
      | «syntax» =>
        rw [ha] at hm
        have ea : ∀ n, atoiV w n = (.tuple ⟨[.int .i64 0, .iface 155 (.pointer (some ⟨n, 0, none⟩))]⟩, [], n + 1) := fun n => by simp only [atoiV, ha]
        rw [fail hm]
        refine CW.vc env17 [0, 2, 3, 4, 5, 7, 8, 9, 11, 14, 15, 16, 17, 42] (by kernel_rfl) ?_
        (repeat ((try refine Vc.mk' ?_); simp (config := { maxSteps := 6000000 }) only [go_sem, reduceCtorEq, Nat.reduceAdd, Nat.reduceLeDiff, Nat.reduceEqDiff, Int.reduceLE, bl_len, Nat.mul_one, G17_atoi, G17_right, G17_itoa, conAtoi, con1, conItoa, idx_sstring hA, stPa, hlt1, ld1, hw2, ea, hv3, hv4, neq_i, set_lt ht3, set_lt ht4]))
        rfl
      | range =>
        rw [ha] at hm
        have ea : ∀ n, atoiV w n = (.tuple ⟨[.int .i64 (Lib.atoiSat w), .iface 155 (.pointer (some ⟨n, 0, none⟩))]⟩, [], n + 1) := fun n => by simp only [atoiV, ha]
        rw [fail hm]
        refine CW.vc env17 [0, 2, 3, 4, 5, 7, 8, 9, 11, 14, 15, 16, 17, 42] (by kernel_rfl) ?_
        (repeat ((try refine Vc.mk' ?_); simp (config := { maxSteps := 6000000 }) only [go_sem, reduceCtorEq, Nat.reduceAdd, Nat.reduceLeDiff, Nat.reduceEqDiff, bl_len, Nat.mul_one, G17_atoi, G17_right, G17_itoa, conAtoi, con1, conItoa, idx_sstring hA, stPa, hlt1, ld1, hw2, ea, hv3, hv4, neq_i, set_lt ht3, set_lt ht4]))
        rfl
      | ok n =>
        rw [ha] at hm
        have hm : pLoop zb 0 l = if last < n ∧ rightB n = true ∧ Lib.itoa n = w then pLoop (putB b (n - 1).toNat) n (l.drop (k + 1)) else none := hm
        have ea : ∀ m, atoiV w m = (.tuple ⟨[.int .i64 n, .nilIface]⟩, [], m) := fun m => by simp only [atoiV, ha]
        by_cases c1 : last < n
        case neg =>
          rw [if_neg (fun h => c1 h.1)] at hm
          rw [fail hm]
          refine CW.vc env17 [0, 2, 3, 4, 5, 7, 8, 9, 11, 14, 15, 16, 17, 42] (by kernel_rfl) ?_
          (repeat ((try refine Vc.mk' ?_); simp (config := { maxSteps := 6000000 }) only [go_sem, reduceCtorEq, Nat.reduceAdd, Nat.reduceLeDiff, Nat.reduceEqDiff, bl_len, Nat.mul_one, G17_atoi, G17_right, G17_itoa, conAtoi, con1, conItoa, idx_sstring hA, stPa, hlt1, ld1, hw2, ea, hv3, hv4, neq_n, c1, set_lt ht3, set_lt ht4]))
          rfl
        cases c2 : rightB n with
        | false =>
          rw [if_neg (fun h => by rw [c2] at h; exact absurd h.2.1 (by simp))] at hm
          rw [fail hm]
          refine CW.vc env17 [0, 2, 3, 4, 5, 7, 8, 9, 11, 14, 15, 16, 17, 42] (by kernel_rfl) ?_
          (repeat ((try refine Vc.mk' ?_); simp (config := { maxSteps := 6000000 }) only [go_sem, reduceCtorEq, Nat.reduceAdd, Nat.reduceLeDiff, Nat.reduceEqDiff, bl_len, Nat.mul_one, G17_atoi, G17_right, G17_itoa, conAtoi, con1, conItoa, idx_sstring hA, stPa, hlt1, ld1, hw2, ea, hv3, hv4, neq_n, c1, c2, set_lt ht3, set_lt ht4]))
          rfl
        | true =>
          have n0 : 0 ≤ n := by omega
          have n1 : n ≤ 9223372036854775807 := by simp only [rightB, Bool.and_eq_true, decide_eq_true_eq] at c2; omega
          by_cases c3 : Lib.itoa n = w
          · have q3 : eqB (Lib.itoa n) w = true := by rw [c3, eqB_self]
            rw [if_pos ⟨c1, c2, c3⟩] at hm
            refine CW.vc env17 [0, 2, 3, 4, 5, 7, 8, 9, 11, 14, 15, 16, 17, 42] (by kernel_rfl) ?_
            (repeat ((try refine Vc.mk' ?_); simp (config := { maxSteps := 6000000 }) only [go_sem, Nat.reduceEqDiff, bl_len, bl_take, bl_app, bl_one, bOf_bl, Nat.mul_one, G17_atoi, G17_right, G17_itoa, G17_with, conAtoi, con1, conItoa, conSet, idx_sstring hA, stPa, hlt1, ld1, hw2, ea, hv3, hv4, neq_n, c1, c2, n0, n1, q3, hI, hp1, pairB_t, set_lt ht1, set_lt ht3, set_lt ht4]))
            refine .mk (k + 1, putB b (n - 1).toNat, n) ⟨hlt, putB_ok hb, n0, hm⟩ (by show l.length - (k + 1) < l.length - k; omega) ((by refine SubR.mk' [top, top + 1, top + 2] hcl (by simp) (by simp) rfl (frSub_ok ?_) ?_ ?_ <;> simp [frSub, lkG, ren, UpdOk.nil, UpdOk.cons, renOO_some, renO_cells, renOO_mkOb, rn_base, rn_add, ren_mkSl, set_same, set_ne, Keep.set, Keep.refl, bl_ren, wrap_succ hlt hLb]))
          · have q3 : eqB (Lib.itoa n) w = false := by rw [eqB_eq]; simpa using c3
            rw [if_neg (fun h => c3 h.2.2)] at hm
            rw [fail hm]
            refine CW.vc env17 [0, 2, 3, 4, 5, 7, 8, 9, 11, 14, 15, 16, 17, 42] (by kernel_rfl) ?_
            (repeat ((try refine Vc.mk' ?_); simp (config := { maxSteps := 6000000 }) only [go_sem, reduceCtorEq, Nat.reduceAdd, Nat.reduceLeDiff, bl_len, Nat.mul_one, G17_atoi, G17_right, G17_itoa, conAtoi, con1, conItoa, idx_sstring hA, stPa, hlt1, ld1, hw2, ea, hv3, hv4, neq_n, c1, c2, n0, n1, q3, hp1, set_lt ht1, set_lt ht3, set_lt ht4]))
            rfl
    · have hk2 : k = l.length := by omega
      subst hk2
      rw [List.drop_length, pLoop, ← hl] at hm
      obtain ⟨_, p1, p2⟩ := par_some hm
      have e : parV s = .tuple ⟨[.agg ⟨bl b⟩, .int .i64 0]⟩ := by rw [parV, p1, p2]
      rw [e]
      refine CW.vc env17 [0, 2, 3, 4, 5, 7, 8, 9, 11, 14, 15, 16, 17, 42] (by kernel_rfl) ?_
      (repeat ((try refine Vc.mk' ?_); simp (config := { maxSteps := 6000000 }) only [go_sem, reduceCtorEq, Nat.reduceEqDiff, bl_len, bl_take, bl_app, bl_one, stPa, Int.lt_irrefl, decide_false]))
theorem vars_sets {hp h : Hp} (hv : VarsOk hp) (e : ∀ i, i < 7 → h i = hp i) : VarsOk h := by
  unfold VarsOk
  rw [e 1 (by decide), e 2 (by decide), e 4 (by decide), e 6 (by decide)]; exact hv
theorem vars_set {hp : Hp} {i : Nat} {o : Option AObj} (hi : 7 ≤ i) : VarsOk (hp.set i o) = VarsOk hp := by
  unfold VarsOk
  rw [set_ne _ _ _ _ (by omega), set_ne _ _ _ _ (by omega), set_ne _ _ _ _ (by omega), set_ne _ _ _ _ (by omega)]
theorem vars_top {hp : Hp} {top : Nat} (hcl : Cl hp top) (hv : VarsOk hp) : 7 ≤ top := by
  obtain ⟨_, _, _, t, a, h⟩ := hv
  have := hcl.lt _ _ h
  omega
end Go.Proofs.YthpibnpeaidabaaGreatDoor.Dm
