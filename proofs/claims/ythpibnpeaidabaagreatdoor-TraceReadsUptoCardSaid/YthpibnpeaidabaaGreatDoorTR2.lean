/- The document's trace: Check, Line. -/
import Derived.Test.YthpibnpeaidabaaGreatDoorTR
set_option linter.unusedVariables false
namespace Go.Proofs.YthpibnpeaidabaaGreatDoor.Dm
open Go.Dm
set_option maxHeartbeats 16000000
set_option maxRecDepth 20000
theorem wordF_ne {y : Int} : (wordF y = []) ↔ ¬ (1 ≤ y ∧ y ≤ 8) := by
  unfold wordF
  by_cases c : 0 ≤ y
  · rw [if_pos c]
    obtain ⟨i, rfl⟩ := Int.eq_ofNat_of_zero_le c
    unfold kindW
    rw [Int.toNat_natCast]
    by_cases h : i < 9
    · have : ∀ j : Fin 9, ((wordsL[j.val]?).getD [] = []) ↔ j.val = 0 := by decide
      rw [this ⟨i, h⟩]
      show i = 0 ↔ _
      omega
    · rw [List.getElem?_eq_none (by show 9 ≤ i; omega)]
      simp; omega
  · rw [if_neg c]; simp; omega
theorem nB_len {x : T_Event} (h : OkB (evB x)) : nB x = ((lsB (evB x)).length : Int) := by
  show cnt (evB x) 4 = _
  rw [cnt_len h, ← ls_eq h, valB, List.length_map]
def GR2 : FuncId → Con := addG (addG GR1 78 conRList) 47 conWord
theorem envR2 : EnvV Tryz.prog tt.get GR2 := (envR1.add rlist_ok).add word_ok
theorem GR2_l : GR2 78 = conRList := rfl
theorem GR2_w : GR2 47 = conWord := rfl
theorem GR2_r : GR2 105 = conB1 rtB := rfl
theorem rchk_ok : ConOk Tryz.prog 77 conChk := by
  refine .mkRd fn77_ok ?_ ?_
  · rintro args hp h
    match args, h with
    | [_], ⟨x, rfl, _⟩ => rfl
  intro args hp hpre top hcl hsc
  match args, hpre with
  | [_], ⟨x, rfl, h⟩ =>
  simp only [evOf_enc]
  have hb := bits_is h
  have ho := bits_of (x := x)
  have hn := (nB_len h.b).symm
  have hn0 : 0 ≤ nB x := by omega
  have hw : eqB (wordF x.Kind) [] = !(decide (1 ≤ x.Kind) && decide (x.Kind ≤ 8)) := by
    rw [eqB_eq]
    by_cases h1 : 1 ≤ x.Kind <;> by_cases h2 : x.Kind ≤ 8 <;> simp [wordF_ne, h1, h2] <;> omega
  have hll : (lsB (evB x)).length ≤ 256 := lsN_len 256
  refine CalledOk.of_fun tt_ok fn77_ok rfl 80 rfl [.tmp 2] rfl (show 1 ≤ 80 by decide) ?_
  refine CW.vc envR2 [0, 1, 2, 3, 4, 46, 67, 79] (by kernel_rfl) ?_
  repeat' first | refine condP.mk (fun _ => ?_) (fun _ => ?_) | refine Vc.mk' ?_ | simp (config := { maxSteps := 6000000 }) only [go_sem, reduceCtorEq, Nat.reduceAdd, Nat.reduceLT, GR2_l, GR2_w, GR2_r, conB1, conWord, conRList, hb, ho, ow_sint, hw, hn]
  all_goals try (refine ⟨fun a => ⟨a, fun b => ⟨a, b⟩⟩, ?_⟩)
  all_goals try repeat' first | refine condP.mk (fun _ => ?_) (fun _ => ?_) | refine Vc.mk' ?_ | simp (config := { maxSteps := 6000000 }) only [go_sem, reduceCtorEq, Nat.reduceAdd, Nat.reduceLT, GR2_r, conB1]
  all_goals (clear hn hll; unfold okE; generalize nB x = n at *; cases hbt : btB x.Kind <;> (have hbu := hbt; unfold btB at hbu; simp_all))
  all_goals (try intros)
  all_goals (try omega)
  all_goals (try simp_all)
  all_goals (try omega)
end Go.Proofs.YthpibnpeaidabaaGreatDoor.Dm
