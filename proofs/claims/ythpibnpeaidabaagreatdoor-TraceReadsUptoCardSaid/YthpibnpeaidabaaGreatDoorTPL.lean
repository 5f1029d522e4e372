/- Texts and lists of events: plain laws. -/
import Derived.Test.YthpibnpeaidabaaGreatDoorTPA
set_option linter.unusedVariables false
namespace Go.Proofs.YthpibnpeaidabaaGreatDoor.Dm
open Go.Dm
set_option maxHeartbeats 16000000
set_option maxRecDepth 20000
def evTxt (l : List T_Event) : List UInt8 := (l.map fun x => lineF x ++ [10]).flatten
theorem evTxt_cons {x : T_Event} {l : List T_Event} : evTxt (x :: l) = lineF x ++ 10 :: evTxt l := by simp [evTxt]
theorem index_nl : ∀ {x z : List UInt8}, (10 : UInt8) ∉ x → Lib.index (x ++ 10 :: z) [10] = (x.length : Int)
  | [], z, _ => by simp [Lib.index, List.isPrefixOf]
  | c :: r, z, h => by
    have hc : ¬ (10 : UInt8) = c := fun e => h (by simp [e])
    have ih := index_nl (x := r) (z := z) (fun hm => h (List.mem_cons_of_mem _ hm))
    have hp : ([10] : List UInt8).isPrefixOf (c :: (r ++ 10 :: z)) = false := by
      have : ((10 : UInt8) == c) = false := by simpa using hc
      simp [List.isPrefixOf, this]
    have h1 : ¬ ((r.length : Int) = -1) := by omega
    simp [Lib.index, hp, ih, h1]
theorem cut_nl {x z : List UInt8} (h : (10 : UInt8) ∉ x) : cutF (x ++ 10 :: z) = (x, z, true) := by
  unfold cutF Lib.cut
  rw [index_nl h, if_pos (by omega)]
  simp
theorem index_nlB : ∀ (s : List UInt8), 0 ≤ Lib.index s [10] → s = s.take (Lib.index s [10]).toNat ++ 10 :: s.drop ((Lib.index s [10]).toNat + 1)
  | [], h => absurd h (by simp [Lib.index])
  | c :: r, h => by
    by_cases hc : c = 10
    · subst hc
      have : Lib.index ((10 : UInt8) :: r) [10] = 0 := by simp [Lib.index, List.isPrefixOf]
      rw [this]; simp
    · have hp : ([10] : List UInt8).isPrefixOf (c :: r) = false := by
        have : ((10 : UInt8) == c) = false := by simpa using fun e => hc e.symm
        simp [List.isPrefixOf, this]
      by_cases hr : Lib.index r [10] = -1
      · exact absurd h (by simp [Lib.index, hp, hr])
      · rcases Lib.indexB_cases ⟨⟨r⟩⟩ ⟨⟨[10]⟩⟩ with hm | ⟨i, hi, _⟩
        · exact absurd hm hr
        · have hi : Lib.index r [10] = (i : Int) := hi
          have ih := index_nlB r (by omega)
          have e : Lib.index (c :: r) [10] = ((i + 1 : Nat) : Int) := by simp [Lib.index, hp, hi]
          rw [e, Int.toNat_natCast, List.take_succ_cons, List.drop_succ_cons, List.cons_append]
          rw [hi, Int.toNat_natCast] at ih
          rw [← ih]
theorem cut_is {s : List UInt8} (h : (cutF s).2.2 = true) : s = (cutF s).1 ++ 10 :: (cutF s).2.1 := by
  unfold cutF Lib.cut at h ⊢
  by_cases c : 0 ≤ Lib.index s [10]
  · rw [if_pos c] at h ⊢
    exact index_nlB s c
  · rw [if_neg c] at h; cases h
/-- what is read is told by the same text -/
theorem prK_back : ∀ (k : Nat) (s : List UInt8) (out o : List T_Event), prK k s out = .inl o → ∃ l, o = out ++ l ∧ (∀ x ∈ l, RngE x ∧ okE x = true) ∧ evTxt l = s
  | 0, s, out, o, h => by cases h
  | k + 1, s, out, o, h => by
    rw [prK] at h
    by_cases hs : s = []
    · rw [if_pos hs] at h; cases h
      exact ⟨[], by simp, by simp, by rw [hs]; rfl⟩
    · rw [if_neg hs] at h
      cases he : evP (cutF s).1 with
      | none => rw [he] at h; cases h
      | some x =>
        rw [he] at h
        dsimp only at h
        by_cases hi : (cutF s).2.2 = true
        · rw [if_pos hi] at h
          obtain ⟨l, h1, h2, h3⟩ := prK_back k _ _ _ h
          obtain ⟨e1, e2, e3⟩ := evP_iff.1 he
          refine ⟨x :: l, by rw [h1]; simp, ?_, ?_⟩
          · intro y hy
            rcases List.mem_cons.1 hy with rfl | hy
            · exact ⟨e1, e2⟩
            · exact h2 y hy
          · rw [evTxt_cons, e3, h3]; exact (cut_is hi).symm
        · rw [if_neg hi] at h; cases h
theorem prA_back {s : List UInt8} {l : List T_Event} (h : prA s = .inl l) : (∀ x ∈ l, RngE x ∧ okE x = true) ∧ evTxt l = s := by
  obtain ⟨m, h1, h2, h3⟩ := prK_back _ _ _ _ h
  rw [List.nil_append] at h1
  subst h1; exact ⟨h2, h3⟩
end Go.Proofs.YthpibnpeaidabaaGreatDoor.Dm
