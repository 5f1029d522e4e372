/- NetInOrder's law, without the program. -/
import Derived.Test.YtmppehipfpkepaaN8
set_option linter.unusedSimpArgs false
set_option linter.unusedVariables false
namespace Go.Proofs.Ytmppehipfpkepaa.Dm
open Go.Dm
set_option maxHeartbeats 4000000
set_option maxRecDepth 20000
def thI (W : List Int) : List T_t124 := W.zipIdx.map fun x => ⟨x.1, (x.2 : Int) + 1, 2, 3, [UInt8.ofNat x.2]⟩
theorem thI_len (W : List Int) : (thI W).length = W.length := by simp [thI]
theorem thI_app (W : List Int) (w : Int) : thI (W ++ [w]) = thI W ++ [⟨w, (W.length : Int) + 1, 2, 3, [UInt8.ofNat W.length]⟩] := by simp [thI, List.zipIdx_append]
theorem thI_at {W : List Int} {j : Nat} (h : j < W.length) : (thI W)[j]'(by rw [thI_len]; exact h) = ⟨W[j], (j : Int) + 1, 2, 3, [UInt8.ofNat j]⟩ := by simp [thI]
def netI (late : Int) (ks : List Int) (now : Int) (W : List Int) (D : Nat) : NetS := { net3 [] 0 late with P := ⟨[], 0, ks⟩, now := now, last := (W.length : Int), l := (thI W).drop D }
theorem netI_up {late : Int} {ks : List Int} {now : Int} {W : List Int} {D : Nat} (hn : W.length ≤ 200) : ¬ sendX (netI late ks now W D) 2 3 [UInt8.ofNat W.length] := by
  rintro (h | h | h | h)
  · exact absurd (show costF w0 2 3 = 0 from h) (by decide +kernel)
  · simp at h
  · exact absurd (show upF w0 2 3 = false from h) (by decide +kernel)
  · have : ((thI W).drop D).length ≤ W.length := by rw [List.length_drop, thI_len]; omega
    have : 16382 < ((thI W).drop D).length := h
    omega
def ksI (ks : List Int) : List Int := ks.set 53 (Fa.bumpP ks 2 3)
theorem netI_ask {late : Int} {ks : List Int} {now : Int} {W : List Int} {D : Nat} : Fa.askF (netI late ks now W D).P 2 3 = (⟨[], 0, ksI ks⟩, ⟨1, 0, 0⟩, 0) := rfl
theorem put_last {l : List T_t124} {t : T_t124} (h : ∀ a ∈ l, lt_r a t = true) : put_r l t = l ++ [t] := by
  unfold put_r lb_r
  rw [List.countP_eq_length.2 h]
  unfold insAt
  simp
theorem netI_send {late : Int} {ks : List Int} {now : Int} {W : List Int} {D : Nat} (hn : W.length ≤ 200) (hd : D ≤ W.length) (hw : ∀ w ∈ W, w ≤ now + late) (h0 : 0 ≤ now + late) (h1 : now + late < 1000) :
    sendS (netI late ks now W D) 2 3 [UInt8.ofNat W.length] = netI late (ksI ks) now (W ++ [now + late]) D := by
  have hat : atF (netI late ks now W D) 0 = now + late := by
    show wrapA .u64 (now + late + wrapA .u64 0) = now + late
    rw [show wrapA .u64 0 = 0 from by decide, Int.add_zero]
    exact wrapU h0 (by omega)
  have hp : putsL (netI late ks now W D) 2 3 [UInt8.ofNat W.length] 1 = (thI W).drop D ++ [⟨now + late, (W.length : Int) + 1, 2, 3, [UInt8.ofNat W.length]⟩] := by
    show put_r ((thI W).drop D) ⟨atF (netI late ks now W D) 0, (W.length : Int) + 1, 2, 3, [UInt8.ofNat W.length]⟩ = _
    rw [hat]
    refine put_last fun a ha => ?_
    have ha := List.mem_of_mem_drop ha
    obtain ⟨j, hj, rfl⟩ := List.getElem_of_mem ha
    rw [thI_len] at hj
    rw [thI_at hj]
    have := hw _ (List.getElem_mem hj)
    simp only [lt_r, ltK, Bool.or_eq_true, Bool.and_eq_true, decide_eq_true_eq]
    omega
  unfold sendS
  rw [if_neg (netI_up hn), netI_ask]
  have hc : (copies (netI late ks now W D) 2 3).toNat = 1 := by unfold copies; rw [netI_ask]; rfl
  rw [hc, hp]
  unfold netI
  rw [thI_app, List.drop_append_of_le_length (by rw [thI_len]; exact hd)]
  simp
/-- what holds between two ticks -/
structure InvI (late : Int) (i n : Nat) (W : List Int) (D : Nat) : Prop where
  srt : W.Pairwise (· ≤ ·)
  d : D ≤ W.length
  nl : W.length ≤ 200
  hi : ∀ w ∈ W, w < (min i n : Nat) + late
  lo : ∀ j (h : j < W.length), D ≤ j → (i : Int) < W[j]
theorem InvI.zero {late : Int} {n : Nat} : InvI late 0 n [] 0 := ⟨.nil, Nat.le_refl _, by simp, by simp, fun j h => absurd h (by simp)⟩
/-- what holds while messages are sent -/
structure InvS (late : Int) (i : Nat) (W : List Int) (D : Nat) : Prop where
  srt : W.Pairwise (· ≤ ·)
  d : D ≤ W.length
  nl : W.length ≤ 200
  hi : ∀ w ∈ W, w ≤ (i : Int) + late
  lo : ∀ j (h : j < W.length), D ≤ j → (i : Int) < W[j]
theorem InvI.s {late : Int} {i n : Nat} {W : List Int} {D : Nat} (h : InvI late i n W D) : InvS late i W D := ⟨h.srt, h.d, h.nl, fun w hw => by have := h.hi w hw; omega, h.lo⟩
theorem InvS.add {late : Int} {i : Nat} {W : List Int} {D : Nat} (h : InvS late i W D) (hl : 1 ≤ late) (hn : W.length < 200) : InvS late i (W ++ [(i : Int) + late]) D := by
  refine ⟨?_, by have := h.d; simp; omega, by simp; omega, ?_, ?_⟩
  · rw [List.pairwise_append]
    exact ⟨h.srt, by simp, fun a ha b hb => by simp at hb; subst hb; exact h.hi a ha⟩
  · intro w hw
    simp only [List.mem_append, List.mem_singleton] at hw
    rcases hw with hw | rfl
    · exact h.hi w hw
    · omega
  · intro j hj hd
    by_cases c : j < W.length
    · rw [List.getElem_append_left c]; exact h.lo j c hd
    · rw [List.getElem_append_right (by omega)]; simp; omega
theorem drop_while {α : Type} {p : α → Bool} : ∀ (l : List α), l.drop (l.takeWhile p).length = l.dropWhile p
  | [] => rfl
  | a :: l => by
    cases h : p a with
    | true => simp [List.takeWhile, List.dropWhile, h, drop_while l]
    | false => simp [List.takeWhile, List.dropWhile, h]
def kI (i : Nat) (W : List Int) (D : Nat) : Nat := kF_r ((thI W).drop D) ((i : Int) + 1)
theorem kI_lt {i : Nat} {W : List Int} {D j : Nat} (hj : j < W.length) (h1 : D ≤ j) (h2 : j < D + kI i W D) : W[j] ≤ (i : Int) + 1 := by
  have hl : j - D < ((thI W).drop D).length := by rw [List.length_drop, thI_len]; omega
  have hp : ∀ (l : List T_t124) (m : Int) (k : Nat) (hk : k < l.length), k < kF_r l m → l[k].at_ ≤ m := by
    intro l m k hk hlt
    unfold kF_r at hlt
    have e : l[k] = (l.takeWhile fun a => decide (a.at_ ≤ m))[k] := (List.takeWhile_prefix _).getElem hlt |>.symm
    have := List.all_takeWhile (p := fun a : T_t124 => decide (a.at_ ≤ m)) (l := l)
    rw [List.all_eq_true] at this
    have := this _ (List.getElem_mem hlt)
    rw [← e] at this
    exact of_decide_eq_true this
  have := hp _ ((i : Int) + 1) (j - D) hl (by unfold kI at h2; omega)
  rw [List.getElem_drop] at this
  simp only [show D + (j - D) = j from by omega] at this
  rw [thI_at hj] at this
  exact this
theorem kI_le {i : Nat} {W : List Int} {D : Nat} (hd : D ≤ W.length) : D + kI i W D ≤ W.length := by
  have := kF_r_le ((thI W).drop D) ((i : Int) + 1)
  rw [List.length_drop, thI_len] at this
  unfold kI; omega
theorem kI_gt {i : Nat} {W : List Int} {D j : Nat} (hs : W.Pairwise (· ≤ ·)) (hj : j < W.length) (h2 : D + kI i W D ≤ j) : (i : Int) + 1 < W[j] := by
  have hd : D + kI i W D < W.length := by omega
  have h1 : (i : Int) + 1 < W[D + kI i W D] := by
    have e := drop_while (p := fun a : T_t124 => decide (a.at_ ≤ (i : Int) + 1)) ((thI W).drop D)
    have hk : (((thI W).drop D).takeWhile fun a => decide (a.at_ ≤ (i : Int) + 1)).length = kI i W D := rfl
    rw [hk, List.drop_drop] at e
    have hne : (thI W).drop (D + kI i W D) ≠ [] := by
      intro c; have := congrArg List.length c; rw [List.length_drop, thI_len] at this; simp at this; omega
    have hh := List.head_dropWhile_not (p := fun a : T_t124 => decide (a.at_ ≤ (i : Int) + 1)) (l := (thI W).drop D) (by rw [← e]; exact hne)
    have e2 : ((thI W).drop D).dropWhile (fun a => decide (a.at_ ≤ (i : Int) + 1)) = (thI W).drop (D + kI i W D) := e.symm
    simp only [e2] at hh
    rw [List.head_drop] at hh
    rw [thI_at hd] at hh
    simpa using hh
  by_cases c : D + kI i W D = j
  · subst c; exact h1
  · have := List.pairwise_iff_getElem.1 hs (D + kI i W D) j hd hj (by omega)
    omega
theorem InvS.tick {late : Int} {i : Nat} {W : List Int} {D : Nat} (h : InvS late i W D) {n : Nat} (hi : ∀ w ∈ W, w < (min (i + 1) n : Nat) + late) : InvI late (i + 1) n W (D + kI i W D) :=
  ⟨h.srt, kI_le h.d, h.nl, hi, fun j hj hd => by have := kI_gt h.srt hj hd; omega⟩
theorem InvS.is {late : Int} {i : Nat} {W : List Int} {D : Nat} (h : InvS late i W D) {j : Nat} (hj : j < W.length) (h1 : D ≤ j) (h2 : j < D + kI i W D) : W[j] = (i : Int) + 1 := by
  have a := kI_lt hj h1 h2
  have b := h.lo j hj h1
  omega
theorem netI_tick {late : Int} {ks : List Int} {i : Nat} {W : List Int} {D : Nat} (h : i < 1000) : tickS (netI late ks i W D) = netI late ks ((i : Int) + 1) W (D + kI i W D) := by
  unfold tickS
  have hc : (netI late ks i W D).now < 1099511627776 := by show (i : Int) < 1099511627776; omega
  rw [if_pos hc]
  show { netI late ks i W D with now := (i : Int) + 1, l := ((thI W).drop D).drop (kI i W D) } = _
  rw [List.drop_drop]; rfl
theorem netI_out {late : Int} {ks : List Int} {i : Nat} {W : List Int} {D : Nat} (h : i < 1000) : tickL (netI late ks i W D) = (((thI W).drop D).take (kI i W D)).map val_r := by
  unfold tickL
  have hc : (netI late ks i W D).now < 1099511627776 := by show (i : Int) < 1099511627776; omega
  rw [if_pos hc]; rfl
theorem out_len {i : Nat} {W : List Int} {D : Nat} (hd : D ≤ W.length) : ((((thI W).drop D).take (kI i W D)).map val_r).length = kI i W D := by
  have := kI_le (i := i) hd
  simp [thI_len]; omega
theorem out_at {i : Nat} {W : List Int} {D k : Nat} (hd : D ≤ W.length) (hk : k < kI i W D) : at' ((((thI W).drop D).take (kI i W D)).map val_r) k = ⟨2, 3, [UInt8.ofNat (D + k)]⟩ := by
  have := kI_le (i := i) hd
  rw [at'_get _ _ (by rw [out_len hd]; exact hk)]
  simp only [List.getElem_map, List.getElem_take, List.getElem_drop]
  rw [thI_at (by omega)]
  rfl
theorem InvI.all {late : Int} {n : Nat} {W : List Int} {D i : Nat} (h : InvI late i n W D) (hi : (n : Int) + late ≤ (i : Int)) : D = W.length := by
  by_cases c : D = W.length
  · exact c
  · have hd := h.d
    have hlt : D < W.length := by omega
    have a := h.lo D hlt (Nat.le_refl _)
    have b := h.hi _ (List.getElem_mem hlt)
    omega
end Go.Proofs.Ytmppehipfpkepaa.Dm
