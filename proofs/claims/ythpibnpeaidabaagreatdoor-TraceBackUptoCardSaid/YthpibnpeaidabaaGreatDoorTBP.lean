/- A text of events cut: plain laws. -/
import Derived.Test.YthpibnpeaidabaaGreatDoorTAW
set_option linter.unusedSimpArgs false
set_option linter.unusedVariables false
namespace Go.Proofs.YthpibnpeaidabaaGreatDoor.Dm
open Go.Dm
set_option maxHeartbeats 4000000
set_option maxRecDepth 20000
theorem evTxt_app {l m : List T_Event} : evTxt (l ++ m) = evTxt l ++ evTxt m := by simp [evTxt]
theorem prK_app : ∀ (l : List T_Event) (k : Nat) (out : List T_Event) (r : List UInt8), (evTxt l ++ r).length < k → (∀ x ∈ l, RngE x ∧ okE x = true) → prK k (evTxt l ++ r) out = prK (k - l.length) r (out ++ l)
  | [], k, out, r, _, _ => by
    show prK k r out = _
    rw [List.append_nil]; rfl
  | x :: l, k + 1, out, r, hk, h => by
    obtain ⟨h1, h2⟩ := h x (by simp)
    have e1 : evTxt (x :: l) ++ r = lineF x ++ 10 :: (evTxt l ++ r) := by rw [evTxt_cons]; simp
    have hc := cut_nl (x := lineF x) (z := evTxt l ++ r) (line_nl h1 h2)
    rw [e1] at hk ⊢
    rw [prK, if_neg (by simp), hc, evP_iff.2 ⟨h1, h2, rfl⟩]
    dsimp only
    rw [if_pos rfl, prK_app l k (out ++ [x]) r (by rw [List.length_append, List.length_cons] at hk; omega) (fun y hy => h y (List.mem_cons_of_mem _ hy))]
    rw [List.length_cons, Nat.add_sub_add_right]; simp
theorem cut_none {s : List UInt8} (h : (10 : UInt8) ∉ s) : cutF s = (s, [], false) := by
  unfold cutF Lib.cut
  by_cases hi : 0 ≤ Lib.index s [10]
  · exfalso
    have := index_nlB s hi
    rw [this] at h
    exact h (by simp)
  · rw [if_neg hi]
theorem lineF_ne {x : T_Event} (c : okE x = true) : lineF x ≠ [] := by
  unfold lineF
  rw [if_pos c, lineL, join2 (by simp)]
  simp
theorem prA_last {l : List T_Event} (h0 : l ≠ []) (h : ∀ x ∈ l, RngE x ∧ okE x = true) : prA ((evTxt l).take ((evTxt l).length - 1)) = .inr (l.length - 1) := by
  obtain ⟨m, x, rfl⟩ : ∃ m x, l = m ++ [x] := ⟨l.dropLast, l.getLast h0, (List.dropLast_concat_getLast h0).symm⟩
  obtain ⟨h1, h2⟩ := h x (by simp)
  have e1 : evTxt (m ++ [x]) = (evTxt m ++ lineF x) ++ [10] := by rw [evTxt_snoc]; simp
  have e2 : (evTxt (m ++ [x])).take ((evTxt (m ++ [x])).length - 1) = evTxt m ++ lineF x := by
    rw [e1, List.length_append, List.length_singleton, Nat.add_sub_cancel, List.take_left']
    rfl
  have hg := evTxt_ge m
  rw [e2, prA, prK_app m _ [] (lineF x) (by omega) (fun y hy => h y (by simp [hy])), List.nil_append]
  rw [show (evTxt m ++ lineF x).length + 1 - m.length = ((evTxt m ++ lineF x).length - m.length) + 1 from by rw [List.length_append]; omega, prK, if_neg (lineF_ne h2), cut_none (line_nl h1 h2), evP_iff.2 ⟨h1, h2, rfl⟩]
  dsimp only
  rw [if_neg (by simp), List.length_append, List.length_singleton, Nat.add_sub_cancel]
theorem okAll_iff {l : List T_Event} : okAll l = true ↔ ∀ x ∈ l, okE x = true := by rw [okAll, List.all_eq_true]
theorem evTxt_cut {l : List T_Event} {n : Nat} : evTxt (l.take n) ++ evTxt (l.drop n) = evTxt l := by rw [← evTxt_app, List.take_append_drop]
theorem prtV_ok {l : List T_Event} (h : okAll l = true) (hn : (evTxt l).length ≤ 65536) : prtV l = .tuple ⟨[.string ⟨⟨evTxt l⟩⟩, .int .i64 0]⟩ := by simp [prtV, prtS, prtN, h, hn]
theorem evP_nil : evP [] = none := by
  cases h : evP [] with
  | none => rfl
  | some x =>
    obtain ⟨_, h2, h3⟩ := evP_iff.1 h
    exact absurd h3 (lineF_ne h2)
end Go.Proofs.YthpibnpeaidabaaGreatDoor.Dm
