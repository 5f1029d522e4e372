/- The event of a line is the event that has the line: plain laws, the other way. -/
import Derived.Test.YthpibnpeaidabaaGreatDoorTL
set_option linter.unusedVariables false
namespace Go.Proofs.YthpibnpeaidabaaGreatDoor.Dm
open Go.Dm
set_option maxHeartbeats 16000000
set_option maxRecDepth 20000
theorem index_hit : ∀ (s : List UInt8), ¬ Lib.index s [32] = -1 → ∃ i : Nat, Lib.index s [32] = (i : Int) ∧ s = s.take i ++ 32 :: s.drop (i + 1)
  | [], h => absurd (by simp [Lib.index]) h
  | c :: r, h => by
    by_cases hc : c = 32
    · subst hc
      exact ⟨0, by simp [Lib.index, List.isPrefixOf], by simp⟩
    · have hp : ([32] : List UInt8).isPrefixOf (c :: r) = false := by
        have : ((32 : UInt8) == c) = false := by simpa using fun e => hc e.symm
        simp [List.isPrefixOf, this]
      by_cases hr : Lib.index r [32] = -1
      · exact absurd (by simp [Lib.index, hp, hr]) h
      · obtain ⟨i, h1, h2⟩ := index_hit r hr
        refine ⟨i + 1, by simp [Lib.index, hp, h1], ?_⟩
        rw [List.take_succ_cons, List.drop_succ_cons, List.cons_append, ← h2]
theorem join2 {x : List UInt8} {l : List (List UInt8)} (h : l ≠ []) : Lib.join (x :: l) [32] = x ++ 32 :: Lib.join l [32] := by
  obtain ⟨y, r, rfl⟩ := List.exists_cons_of_ne_nil h
  rw [Lib.join_cons, Lib.join_cons]
  simp [Lib.joinTail]
theorem splitK_ne (k : Nat) (s : List UInt8) : Lib.splitK [32] 0 k s ≠ [] := by
  have := (splitK_len [32] 0 k s).1
  intro e; rw [e] at this; simp at this
theorem join_splitK : ∀ (k : Nat) (s : List UInt8), Lib.join (Lib.splitK [32] 0 k s) [32] = s
  | 0, s => by rw [Lib.splitK, Lib.join_one]
  | k + 1, s => by
    rw [Lib.splitK]
    by_cases h : Lib.index s [32] = -1
    · rw [if_pos (by simp [h]), Lib.join_one]
    · rw [if_neg (by simpa using h)]
      obtain ⟨i, h1, h2⟩ := index_hit s h
      rw [h1, Int.toNat_natCast, Nat.add_zero, join2 (splitK_ne _ _), join_splitK k]
      exact h2.symm
theorem join_sp7 (s : List UInt8) : Lib.join (sp7 s) [32] = s := join_splitK _ _
theorem okT_eq {s : List UInt8} {B : Nat} (h : okT s B = true) : Lib.itoa (puN s B : Int) = s := by
  unfold okT at h
  rw [Bool.and_eq_true] at h
  simpa using h.2
theorem par_back {s : List UInt8} (h : parE s = 0) : textB (parB s) = s := by
  rw [textN_eq (parB_ok s)]
  unfold parE at h
  split at h
  · rename_i e
    unfold parB; rw [if_pos e]; exact e
  · exact absurd h (by decide)
theorem evX_rng (s : List UInt8) : RngE (evX s) := by
  have h1 := puN_le (wN s 0) 64
  have h2 := puN_le (wN s 4) 32
  have z64 : (2 : Nat) ^ 64 = 18446744073709551616 := by decide
  have z32 : (2 : Nat) ^ 32 = 4294967296 := by decide
  rw [z64] at h1
  rw [z32] at h2
  refine ⟨?_, ?_, ?_, ?_, ?_⟩
  · show (0 : Int) ≤ (puN (wN s 0) 64 : Int); omega
  · show (puN (wN s 0) 64 : Int) < _; omega
  · show (0 : Int) ≤ (puN (wN s 4) 32 : Int); omega
  · show (puN (wN s 4) 32 : Int) < _; omega
  · exact parB_ok (wN s 6)
theorem list7 {α : Type} [Inhabited α] {l : List α} (h : l.length = 7) : l = [at' l 0, at' l 1, at' l 2, at' l 3, at' l 4, at' l 5, at' l 6] := by
  match l, h with
  | [a, b, c, d, e, f, g], _ => rfl
theorem ev_some {s : List UInt8} {x : T_Event} (h : evP s = some x) : okE x = true ∧ RngE x ∧ Lib.join (lineL x) [32] = s := by
  unfold evP at h
  split at h
  · cases h
  · rename_i hl
    split at h
    · rename_i hc
      obtain ⟨hp, hg, ho⟩ := hc
      cases h
      refine ⟨ho, evX_rng s, ?_⟩
      have F := okF.1 ho
      unfold evG at hg
      simp only [Bool.and_eq_true] at hg
      obtain ⟨⟨⟨⟨g0, g2⟩, g3⟩, g4⟩, g5⟩ := hg
      have hlen : (sp7 s).length = 7 := by have := sp7_len s; omega
      have e : lineL (evX s) = sp7 s := by
        have k1 : kindW (evX s).Kind = wN s 1 := idx_word F.k0
        have k6 : textB (evB (evX s)) = wN s 6 := par_back hp
        rw [list7 hlen]
        unfold lineL
        rw [k1, k6]
        show [Lib.itoa (puN (wN s 0) 64 : Int), wN s 1, Lib.itoa (puN (wN s 2) 31 : Int), Lib.itoa (puN (wN s 3) 31 : Int), Lib.itoa (puN (wN s 4) 32 : Int), Lib.itoa (puN (wN s 5) 31 : Int), wN s 6] = _
        rw [okT_eq g0, okT_eq g2, okT_eq g3, okT_eq g4, okT_eq g5]
        rfl
      rw [e, join_sp7]
    · cases h
theorem ev_lineF {s : List UInt8} {x : T_Event} (h : evP s = some x) : lineF x = s := by
  obtain ⟨h1, _, h2⟩ := ev_some h
  unfold lineF; rw [if_pos h1, h2]
theorem evP_iff {s : List UInt8} {x : T_Event} : evP s = some x ↔ RngE x ∧ okE x = true ∧ lineF x = s :=
  ⟨fun h => ⟨(ev_some h).2.1, (ev_some h).1, ev_lineF h⟩, fun ⟨h1, h2, h3⟩ => by
    unfold lineF at h3; rw [if_pos h2] at h3
    rw [← h3]; exact ev_line h1 h2⟩
end Go.Proofs.YthpibnpeaidabaaGreatDoor.Dm
