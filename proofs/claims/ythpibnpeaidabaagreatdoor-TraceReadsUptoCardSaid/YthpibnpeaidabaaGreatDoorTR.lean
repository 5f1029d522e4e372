/- The document's trace: Has, list, word, Check, Line. -/
import Derived.Test.YthpibnpeaidabaaGreatDoorTC
set_option linter.unusedVariables false
namespace Go.Proofs.YthpibnpeaidabaaGreatDoor.Dm
open Go.Dm
set_option maxHeartbeats 16000000
set_option maxRecDepth 20000
theorem rrouter_ok : ConOk Tryz.prog 105 (conB1 rtB) := by
  refine .mkPure fn105_ok ?_
  intro args hp hpre top
  match args, hpre with
  | [x], hx =>
  rw [hx]
  refine CalledOk.of_fun tt_ok fn105_ok rfl 9 rfl [.tmp 2] rfl (show 1 ≤ 9 by decide) ?_
  refine CW.vc envT3 [0, 2] (by kernel_rfl) ?_
  (repeat ((try refine Vc.mk' ?_); simp (config := { maxSteps := 6000000 }) only [go_sem]))
  refine bool_eq ?_
  simp [rtB]; try omega
def conHas4 : Con := .pure (fun args _ => match args with | [v, .int .i64 n] => IsBits v ∧ 1 ≤ n ∧ n ≤ 256 | _ => False) (fun args _ => match args with | [v, n] => .bool (hasB (bOf v) (intOf n - 1).toNat) | _ => undef)
theorem has4_ok : ConOk Tryz.prog 106 conHas4 := by
  refine .mkRd fn106_ok ?_ ?_
  · rintro args hp h
    match args, h with
    | [_, .int .i64 n], ⟨⟨b, rfl, hb⟩, _⟩ => rfl
  intro args hp hpre top hcl hsc
  match args, hpre with
  | [_, .int .i64 n], ⟨⟨b, rfl, hb⟩, h1, h2⟩ =>
  obtain ⟨k, rfl⟩ : ∃ k : Nat, n = (k : Int) + 1 := ⟨(n - 1).toNat, by omega⟩
  have hk : k < 256 := by omega
  have e1 : wrapA .i64 ((k : Int) + 1 - 1) = (k : Int) := by rw [wrap64 (by omega) (by omega)]; omega
  have h4 : k / 64 < 4 := by omega
  have h5 : k / 64 ≤ 3 := by omega
  have e2 : ((k : Int) + 1 - 1).toNat = k := by omega
  have e3 : (0 : Int) ≤ ((k % 64 : Nat) : Int) := by omega
  simp only [intOf_int, e2, bOf_bl]
  refine CalledOk.of_fun tt_ok fn106_ok rfl 17 rfl [.tmp 4] rfl (show 2 ≤ 17 by decide) ?_
  refine CW.vc envT3 [0, 1, 2, 4] (by kernel_rfl) ?_
  (repeat ((try refine Vc.mk' ?_); simp (config := { maxSteps := 6000000 }) only [go_sem, Int.reduceEq, e1, quo64 hk, rem64, c_iu, wrapu_mod, bl_len, Nat.mul_one, bl_get hb h4, h4, e3, shr_bit (wn_lt hb (k / 64))]))
  unfold hasB
  cases (wn b (k / 64)).testBit (k % 64) <;> rfl
def GR1 : FuncId → Con := addG (addG GT3 105 (conB1 rtB)) 106 conHas4
theorem envR1 : EnvV Tryz.prog tt.get GR1 := (envT3.add rrouter_ok).add has4_ok
theorem GR1_h : GR1 106 = conHas4 := rfl
def conRList : Con := .det (fun args _ _ => match args with | [v] => IsBits v | _ => False) (fun args _ top => match args with | [v] => (mkSl top (lsB (bOf v)), [(top, mkOb e_int (lsB (bOf v)))], top + 1) | _ => (undef, [], top))
def stRL (hp : Hp) (top : Nat) (b : T_Bits) (k : Nat) : SS := ⟨[(1, .pointer (some ⟨top, 0, none⟩), true), (3, mkSl (top + 1) (lsN b k), true), (4, .int .i64 ((k : Int) + 1), true)], hp.sets [(top, some (.cells true 0 (bl b))), (top + 1, mkOb e_int (lsN b k))], top + 2⟩
theorem rlist_ok : ConOk Tryz.prog 78 conRList := by
  refine .mkDet fn78_ok ?_
  intro args hp top hpre hcl hsc
  match args, hpre with
  | [_], ⟨b, rfl, hb⟩ =>
  simp only [bOf_bl]
  have hI := isBits_bl hb
  refine CalledOk.of_fun tt_ok fn78_ok rfl 17 rfl [.tmp 2] rfl (show 1 ≤ 17 by decide) ?_
  refine CW.vc envR1 [0, 1, 2, 3, 4, 6, 11] (by kernel_rfl) ?_
  (repeat ((try refine Vc.mk' ?_); simp (config := { maxSteps := 6000000 }) only [go_sem]))
  refine CW.loopR (stRL hp top b) (fun k => k ≤ 256) (fun k => 256 - k) 0 (by omega) ?_ ?_
  · exact (by refine SubR.mk' [top, top + 1] hcl (by simp) (by simp) rfl (frSub_ok ?_) ?_ ?_ <;> simp [frSub, lkG, ren, UpdOk.nil, UpdOk.cons, renOO_some, renO_cells, rn_base, rn_add, set_same, set_ne, Keep.set, Keep.refl, bl_ren, show lsN b 0 = [] from rfl, mkSl_nil, mkOb_nil])
  · intro k hi
    by_cases hlt : k < 256
    · have h4 : (k : Int) + 1 ≤ 256 := by omega
      have h6 : ¬ (256 : Int) < (k : Int) + 1 := by omega
      have h7 : (1 : Int) ≤ (k : Int) + 1 := by omega
      have hl := lsN_len (b := b) k
      have hll : (lsN b k).length < 16777216 := by omega
      have hs := lsN_succ (b := b) (n := k)
      cases hA : hasB b k with
      | true =>
        rw [hA, if_pos rfl] at hs
        refine CW.vc envR1 [0, 1, 2, 3, 4, 6, 11] (by kernel_rfl) ?_
        (repeat ((try refine Vc.mk' ?_); simp (config := { maxSteps := 6000000 }) only [go_sem, reduceCtorEq, Nat.reduceAdd, Nat.reduceLeDiff, Nat.reduceEqDiff, bl_len, bl_take, bOf_bl, Nat.mul_one, GR1_h, conHas4, stRL, h4, h6, h7, hI, kp1, hA, wrap_kp2 hlt, hll]))
        refine .mk (k + 1) hlt (by omega) ((by refine SubR.mk' [top, top + 3] hcl (by simp) (by simp) rfl (frSub_ok ?_) ?_ ?_ <;> simp [frSub, lkG, ren, UpdOk.nil, UpdOk.cons, renOO_some, renO_cells, renOO_mkOb, rn_base, rn_add, ren_mkSl, set_same, set_ne, Keep.set, Keep.refl, bl_ren, hs]))
      | false =>
        rw [hA, if_neg (by simp)] at hs
        refine CW.vc envR1 [0, 1, 2, 3, 4, 6, 11] (by kernel_rfl) ?_
        (repeat ((try refine Vc.mk' ?_); simp (config := { maxSteps := 6000000 }) only [go_sem, reduceCtorEq, bl_len, bl_take, bOf_bl, GR1_h, conHas4, stRL, h4, h6, h7, hI, kp1, hA, wrap_kp2 hlt]))
        refine .mk (k + 1) hlt (by omega) ((by refine SubR.mk' [top, top + 1] hcl (by simp) (by simp) rfl (frSub_ok ?_) ?_ ?_ <;> simp [frSub, lkG, ren, UpdOk.nil, UpdOk.cons, renOO_some, renO_cells, renOO_mkOb, rn_base, rn_add, ren_mkSl, set_same, set_ne, Keep.set, Keep.refl, bl_ren, hs]))
    · have hi4 : k = 256 := by omega
      subst hi4
      have h4 : (256 : Int) < ((256 : Nat) : Int) + 1 := by omega
      refine CW.vc envR1 [0, 1, 2, 3, 4, 6, 11] (by kernel_rfl) ?_
      (repeat ((try refine Vc.mk' ?_); simp (config := { maxSteps := 6000000 }) only [go_sem, stRL, h4]))
      (refine ⟨[top + 1], by simp, by simp, by simp, ?_, ?_, ?_⟩ <;> simp [UpdOk.nil, UpdOk.cons, renOO_mkOb, rn_base, ren_mkSl, set_same, Keep.set, Keep.refl, show lsN b 256 = lsB b from rfl])
/-! ### word -/
def wordF (y : Int) : List UInt8 := if 0 ≤ y then kindW y else []
theorem wordF_neg {y : Int} (h : y < 0) : wordF y = [] := by unfold wordF; rw [if_neg (by omega)]
theorem wordF_pos {y : Int} (h : 0 ≤ y) : wordF y = kindW y := by unfold wordF; rw [if_pos h]
def conWord : Con := .pure (fun args _ => match args with | [x] => IsI .i64 x | _ => False) (fun args _ => match args with | [x] => .string ⟨⟨wordF (intOf x)⟩⟩ | _ => undef)
theorem words_own {h' : Hp} {b : Nat} (e : h' b = some (.cells true 1 wordsV)) : SlT e_string h' (.slice (some ⟨b, 0, none⟩) 9 9) wordsL := .own (l := wordsL) e (by decide)
theorem word_ok : ConOk Tryz.prog 47 conWord := by
  refine .mkRd fn47_ok ?_ ?_
  · rintro args hp h
    match args, h with
    | [_], _ => rfl
  intro args hp hpre top hcl hsc
  match args, hpre with
  | [x], hx =>
  rw [hx]
  generalize intOf x = y
  simp only [intOf_int]
  have hw : ∀ {h' : Hp} {b : Nat}, h' b = some (.cells true 1 [.string ⟨⟨[]⟩⟩, .string ⟨⟨[115, 101, 110, 100]⟩⟩, .string ⟨⟨[99, 111, 112, 121]⟩⟩, .string ⟨⟨[103, 111, 116]⟩⟩, .string ⟨⟨[108, 111, 99, 97, 108]⟩⟩, .string ⟨⟨[108, 111, 115, 116]⟩⟩, .string ⟨⟨[101, 120, 112, 105, 114, 101, 100]⟩⟩, .string ⟨⟨[100, 111, 117, 98, 108, 101]⟩⟩, .string ⟨⟨[103, 111, 110, 101]⟩⟩]) → 0 ≤ y → y < 9 → sload tt.get h' 9 (.pointer (some ⟨b, y.toNat, none⟩)) = (.string ⟨⟨kindW y⟩⟩, True) := fun {h'} {b} e h0 h1 => by
    have := ld_sstring (words_own e) (i := y.toNat) (by show y.toNat < 9; omega)
    rw [Nat.mul_one] at this
    rw [show at' wordsL y.toNat = kindW y from rfl] at this
    have e2 : ptrS (.slice (some ⟨b, 0, none⟩) 9 9) y.toNat = .pointer (some ⟨b, y.toNat, none⟩) := by simp [ptrS]
    rwa [e2] at this
  have hlV : ∀ {h' : Hp} {b : Nat}, slen tt.get h' 58 (.slice (some ⟨b, 0, none⟩) 9 9) = (.int .i64 9, True) := fun {h'} {b} => by
    unfold slen
    simp only [k_sstring, lenA, t_sstring, ti58]; rfl
  have hix : ∀ {b : Nat}, 0 ≤ y → y < 9 → sindexAddr tt.get 58 (.slice (some ⟨b, 0, none⟩) 9 9) (.int .i64 y) = (.pointer (some ⟨b, y.toNat, none⟩), True) := fun {b} h0 h1 => by
    unfold sindexAddr
    simp only [k_sstring, t_string]
    have c5 : y < ((9 : Nat) : Int) := by omega
    simp [h0, h1, IsN, intOf, ti9]
  refine CalledOk.of_fun tt_ok fn47_ok rfl 17 rfl [.tmp 2] rfl (show 1 ≤ 17 by decide) ?_
  by_cases c1 : y < 0
  · rw [wordF_neg c1]
    refine CW.vc envR1 [0, 2, 3, 12] (by kernel_rfl) ?_
    (repeat ((try refine Vc.mk' ?_); simp (config := { maxSteps := 6000000 }) only [go_sem, Nat.reduceAdd, Nat.reduceMul, Nat.reduceLeDiff, c1, List.replicate_succ, List.replicate_zero]))
  have c2 : 0 ≤ y := by omega
  rw [wordF_pos c2]
  by_cases c3 : y < 9
  · have c4 : ¬ 9 ≤ y := by omega
    have c5 : y < ((9 : Nat) : Int) := by omega
    refine CW.vc envR1 [0, 2, 3, 12] (by kernel_rfl) ?_
    (repeat ((try refine Vc.mk' ?_); simp (config := { maxSteps := 6000000 }) only [go_sem, Nat.reduceAdd, Nat.reduceLeDiff, c1, c2, c3, List.replicate_succ, List.replicate_zero, Nat.mul_one, hlV, hix c2 c3, hw]))
  · have c4 : 9 ≤ y := by omega
    refine CW.vc envR1 [0, 2, 3, 12] (by kernel_rfl) ?_
    (repeat ((try refine Vc.mk' ?_); simp (config := { maxSteps := 6000000 }) only [go_sem, Nat.reduceAdd, Nat.reduceMul, Nat.reduceLeDiff, c1, c3, List.replicate_succ, List.replicate_zero, hlV]))
    have : kindW y = [] := by
      unfold kindW
      rw [List.getElem?_eq_none (by show 9 ≤ _; omega)]; rfl
    rw [this]
end Go.Proofs.YthpibnpeaidabaaGreatDoor.Dm
