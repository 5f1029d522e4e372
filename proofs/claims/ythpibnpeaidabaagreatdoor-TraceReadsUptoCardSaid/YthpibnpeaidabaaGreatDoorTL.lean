/- The line and the event: plain laws. -/
import Derived.Test.YthpibnpeaidabaaGreatDoorTV
set_option linter.unusedVariables false
namespace Go.Proofs.YthpibnpeaidabaaGreatDoor.Dm
open Go.Dm
set_option maxHeartbeats 16000000
set_option maxRecDepth 20000
theorem dig_nat {d : Nat} (h : d < 10) : (UInt8.ofNat (48 + d)).toNat = 48 + d := by
  rw [UInt8.toNat_ofNat']; omega
theorem parseM_dec {M : Nat} (hM : M ≤ 18446744073709551615) : ∀ (u : Nat) (r : List UInt8), u ≤ M → Lib.parseUintM M 0 (Lib.decDigits u ++ r) = Lib.parseUintM M u r := by
  intro u
  induction u using Nat.strongRecOn with
  | _ u ih =>
    intro r hu
    by_cases h : u < 10
    · rw [dec_small h, List.cons_append, List.nil_append, Lib.parseUintM]
      have e := dig_nat h
      rw [if_pos (by omega), if_neg (by omega), if_neg (by rw [e]; omega), e]
      congr 1; omega
    · have hm : u % 10 < 10 := Nat.mod_lt _ (by omega)
      rw [dec_big h, List.append_assoc, ih (u / 10) (by omega) _ (by omega), List.cons_append, List.nil_append, Lib.parseUintM]
      have e := dig_nat hm
      rw [if_pos (by omega), if_neg (by omega), if_neg (by rw [e]; omega), e]
      congr 1; omega
theorem dec_ne (u : Nat) : Lib.decDigits u ≠ [] := by
  by_cases h : u < 10
  · rw [dec_small h]; simp
  · rw [dec_big h]; simp
theorem parseB_itoa {B u : Nat} (hB : B ≤ 64) (hu : u < 2 ^ B) : Lib.parseUintB B (Lib.itoa (u : Int)) = .ok u := by
  unfold Lib.parseUintB
  rw [Lib.itoa_nonneg, if_neg (dec_ne u)]
  have h2 : 2 ^ B ≤ 2 ^ 64 := Nat.pow_le_pow_right (by omega) hB
  have := parseM_dec (M := 2 ^ B - 1) (by have : (2 : Nat) ^ 64 = 18446744073709551616 := by decide
                                          omega) u [] (by omega)
  rw [List.append_nil] at this
  rw [this]; rfl
theorem puN_itoa {B u : Nat} (hB : B ≤ 64) (hu : u < 2 ^ B) : puN (Lib.itoa (u : Int)) B = u ∧ puE (Lib.itoa (u : Int)) B = true := by
  unfold puN puE
  rw [parseB_itoa hB hu]; exact ⟨rfl, rfl⟩
theorem okT_itoa {B u : Nat} (hB : B ≤ 64) (hu : u < 2 ^ B) : okT (Lib.itoa (u : Int)) B = true := by
  unfold okT
  rw [(puN_itoa hB hu).1, (puN_itoa hB hu).2]; simp
theorem dec_chars : ∀ (u : Nat), ∀ c ∈ Lib.decDigits u, 48 ≤ c.toNat ∧ c.toNat ≤ 57 := by
  intro u
  induction u using Nat.strongRecOn with
  | _ u ih =>
    intro c hc
    by_cases h : u < 10
    · rw [dec_small h, List.mem_singleton] at hc
      rw [hc, dig_nat h]; omega
    · have hm : u % 10 < 10 := Nat.mod_lt _ (by omega)
      rw [dec_big h, List.mem_append, List.mem_singleton] at hc
      rcases hc with hc | hc
      · exact ih (u / 10) (by omega) c hc
      · rw [hc, dig_nat hm]; omega
theorem itoa_blank {n : Int} (h : 0 ≤ n) : (32 : UInt8) ∉ Lib.itoa n := by
  obtain ⟨u, rfl⟩ := Int.eq_ofNat_of_zero_le h
  rw [Lib.itoa_nonneg]
  intro hc
  have := (dec_chars u _ hc).1
  exact absurd this (by decide)
theorem kind_blank (k : Int) : (32 : UInt8) ∉ kindW k ∧ (10 : UInt8) ∉ kindW k := by
  unfold kindW
  by_cases h : k.toNat < 9
  · have : ∀ j : Fin 9, (32 : UInt8) ∉ ((wordsL[j.val]?).getD []) ∧ (10 : UInt8) ∉ ((wordsL[j.val]?).getD []) := by decide
    exact this ⟨_, h⟩
  · rw [List.getElem?_eq_none (by show 9 ≤ _; omega)]; simp
theorem kind_idx {k : Int} (h0 : 1 ≤ k) (h1 : k ≤ 8) : idxS wordsL (kindW k) 0 = k := by
  obtain ⟨j, rfl⟩ := Int.eq_ofNat_of_zero_le (show 0 ≤ k by omega)
  have : ∀ j : Fin 9, 1 ≤ j.val → idxS wordsL (kindW (j.val : Int)) 0 = (j.val : Int) := by decide
  exact this ⟨j, by omega⟩ (by show 1 ≤ j; omega)
theorem idxS_hit : ∀ (l : List (List UInt8)) (s : List UInt8) (k : Nat), idxS l s k = -1 ∨ ∃ i, i < l.length ∧ idxS l s k = ((k + i : Nat) : Int) ∧ at' l i = s
  | [], s, k => .inl rfl
  | a :: l, s, k => by
    unfold idxS
    by_cases h : s = a
    · rw [if_pos h]; exact .inr ⟨0, by simp, by simp, h.symm⟩
    · rw [if_neg h]
      rcases idxS_hit l s (k + 1) with h1 | ⟨i, h1, h2, h3⟩
      · exact .inl h1
      · exact .inr ⟨i + 1, by simpa using h1, by rw [h2]; congr 1; omega, h3⟩
theorem idx_word {s : List UInt8} (h : 1 ≤ idxS wordsL s 0) : kindW (idxS wordsL s 0) = s := by
  rcases idxS_hit wordsL s 0 with h1 | ⟨i, h1, h2, h3⟩
  · omega
  · rw [h2]; unfold kindW; rw [Int.toNat_natCast, Nat.zero_add, ← h3]; rfl
/-! ### the first blanks -/
theorem index_app : ∀ {x z : List UInt8}, (32 : UInt8) ∉ x → Lib.index (x ++ 32 :: z) [32] = (x.length : Int)
  | [], z, _ => by simp [Lib.index, List.isPrefixOf]
  | c :: r, z, h => by
    have hc : ¬ (32 : UInt8) = c := fun e => h (by simp [e])
    have ih := index_app (x := r) (z := z) (fun hm => h (List.mem_cons_of_mem _ hm))
    have hp : ([32] : List UInt8).isPrefixOf (c :: (r ++ 32 :: z)) = false := by
      have : ((32 : UInt8) == c) = false := by simpa using hc
      simp [List.isPrefixOf, this]
    have h1 : ¬ ((r.length : Int) = -1) := by omega
    simp [Lib.index, hp, ih, h1]
theorem splitK_app {k : Nat} {x z : List UInt8} (h : (32 : UInt8) ∉ x) : Lib.splitK [32] 0 (k + 1) (x ++ 32 :: z) = x :: Lib.splitK [32] 0 k z := by
  rw [Lib.splitK, index_app h]
  rw [if_neg (by simp)]
  simp only [Int.toNat_natCast, Nat.add_zero, List.length_cons, List.length_nil, Nat.zero_add, List.take_left']
  congr 1
  rw [List.drop_append, List.drop_eq_nil_of_le (by omega)]
  simp
theorem sp7_line {x : T_Event} (h : RngE x) (F : OkF x) : sp7 (Lib.join (lineL x) [32]) = lineL x := by
  have r1 := rtB_iff.1 F.r
  have p1 := F.peer
  have e : Lib.join (lineL x) [32] = Lib.itoa x.At ++ 32 :: (kindW x.Kind ++ 32 :: (Lib.itoa x.Router ++ 32 :: (Lib.itoa x.Peer ++ 32 :: (Lib.itoa x.Id ++ 32 :: (Lib.itoa x.Set ++ 32 :: textB (evB x)))))) := by
    unfold lineL; simp [Lib.join_cons, Lib.joinTail]
  have hc : spC (Lib.join (lineL x) [32]) - 1 = 6 := by
    unfold spC; rw [e]; simp only [List.length_append, List.length_cons]; omega
  unfold sp7
  rw [hc, e, splitK_app (itoa_blank h.at0), splitK_app (kind_blank _).1, splitK_app (itoa_blank (by omega)), splitK_app (itoa_blank p1.1), splitK_app (itoa_blank h.id0), splitK_app (itoa_blank F.s0)]
  rfl
theorem ev_line {x : T_Event} (h : RngE x) (c : okE x = true) : evP (Lib.join (lineL x) [32]) = some x := by
  have F := okF.1 c
  have r1 := rtB_iff.1 F.r
  have p1 := F.peer
  have es := sp7_line h F
  have w0 : wN (Lib.join (lineL x) [32]) 0 = Lib.itoa x.At := by unfold wN; rw [es]; rfl
  have w1 : wN (Lib.join (lineL x) [32]) 1 = kindW x.Kind := by unfold wN; rw [es]; rfl
  have w2 : wN (Lib.join (lineL x) [32]) 2 = Lib.itoa x.Router := by unfold wN; rw [es]; rfl
  have w3 : wN (Lib.join (lineL x) [32]) 3 = Lib.itoa x.Peer := by unfold wN; rw [es]; rfl
  have w4 : wN (Lib.join (lineL x) [32]) 4 = Lib.itoa x.Id := by unfold wN; rw [es]; rfl
  have w5 : wN (Lib.join (lineL x) [32]) 5 = Lib.itoa x.Set := by unfold wN; rw [es]; rfl
  have w6 : wN (Lib.join (lineL x) [32]) 6 = textB (evB x) := by unfold wN; rw [es]; rfl
  obtain ⟨At, Kind, Router, Peer, Id, Set, b0, b1, b2, b3⟩ := x
  have a0 := h.at0; have a1 := h.at1; have i0 := h.id0; have i1 := h.id1; have s0 := F.s0; have s1 := F.s1; have k0 := F.k0; have k1 := F.k1
  simp only at a0 a1 i0 i1 s0 s1 k0 k1 r1 p1 w0 w1 w2 w3 w4 w5 w6
  obtain ⟨uA, rfl⟩ := Int.eq_ofNat_of_zero_le a0
  obtain ⟨uR, rfl⟩ := Int.eq_ofNat_of_zero_le (show 0 ≤ Router by omega)
  obtain ⟨uP, rfl⟩ := Int.eq_ofNat_of_zero_le p1.1
  obtain ⟨uI, rfl⟩ := Int.eq_ofNat_of_zero_le i0
  obtain ⟨uS, rfl⟩ := Int.eq_ofNat_of_zero_le s0
  have z64 : (2 : Nat) ^ 64 = 18446744073709551616 := by decide
  have z31 : (2 : Nat) ^ 31 = 2147483648 := by decide
  have z32 : (2 : Nat) ^ 32 = 4294967296 := by decide
  have qA := puN_itoa (B := 64) (u := uA) (by omega) (by omega)
  have qR := puN_itoa (B := 31) (u := uR) (by omega) (by omega)
  have qP := puN_itoa (B := 31) (u := uP) (by omega) (by omega)
  have qI := puN_itoa (B := 32) (u := uI) (by omega) (by omega)
  have qS := puN_itoa (B := 31) (u := uS) (by omega) (by omega)
  have tA := okT_itoa (B := 64) (u := uA) (by omega) (by omega)
  have tR := okT_itoa (B := 31) (u := uR) (by omega) (by omega)
  have tP := okT_itoa (B := 31) (u := uP) (by omega) (by omega)
  have tI := okT_itoa (B := 32) (u := uI) (by omega) (by omega)
  have tS := okT_itoa (B := 31) (u := uS) (by omega) (by omega)
  have hp := par_text h.b
  rw [← textN_eq h.b] at hp
  have hX : evX (Lib.join (lineL ⟨(uA : Int), Kind, (uR : Int), (uP : Int), (uI : Int), (uS : Int), b0, b1, b2, b3⟩) [32]) = ⟨(uA : Int), Kind, (uR : Int), (uP : Int), (uI : Int), (uS : Int), b0, b1, b2, b3⟩ := by
    unfold evX
    rw [w0, w1, w2, w3, w4, w5, w6, qA.1, qR.1, qP.1, qI.1, qS.1, kind_idx k0 k1, hp.1]; rfl
  have hG : evG (Lib.join (lineL ⟨(uA : Int), Kind, (uR : Int), (uP : Int), (uI : Int), (uS : Int), b0, b1, b2, b3⟩) [32]) = true := by
    unfold evG; rw [w0, w2, w3, w4, w5, tA, tR, tP, tI, tS]; rfl
  unfold evP
  rw [if_neg (by rw [es]; show ¬ 7 < 7; omega), if_pos ⟨by rw [w6]; exact hp.2, hG, by rw [hX]; exact c⟩, hX]
end Go.Proofs.YthpibnpeaidabaaGreatDoor.Dm
