/- CalendDrops: the plain law. -/
import Derived.Test.YtogndgadipdikaaCPL
import Derived.Test.YtogndgadipdikaaUi
set_option linter.unusedSimpArgs false
set_option linter.unusedVariables false
namespace Go.Proofs.Ytogndgadipdikaa.Dm
open Go.Dm
set_option maxHeartbeats 4000000

theorem calF_perm (ats : List Int) : ∀ n, (calF ats n).Perm ((List.range n).map (tI ats))
  | 0 => by simp [calF]
  | n + 1 => by
    have ih := calF_perm ats n
    rw [calF, put_i_eq (calF_spec ats n).1, List.range_succ, List.map_append]
    refine List.perm_middle.trans ?_
    refine List.Perm.trans ?_ (List.perm_append_comm (l₁ := [tI ats n]))
    exact List.Perm.cons _ ((List.filter_append_perm _ _).trans ih)
/-- those that are still there -/
def liveF (ats : List Int) (n : Nat) (H : List Bool) : List T_t74 := (calF ats n).filter fun a => at' H a.v.toNat
theorem at_all {α : Type} [Inhabited α] (l : List α) : (List.range l.length).map (at' l) = l := by
  refine List.ext_getElem (by simp) fun i h1 h2 => ?_
  rw [List.getElem_map, List.getElem_range, at'_get _ _ h2]
theorem live_len {ats : List Int} {n : Nat} {H : List Bool} (h : H.length = n) : (liveF ats n H).length = H.count true := by
  unfold liveF
  rw [((calF_perm ats n).filter _).length_eq, List.filter_map, List.length_map, ← List.countP_eq_length_filter]
  have e : H.count true = ((List.range n).map (at' H)).count true := by rw [← h, at_all]
  rw [e, List.count, List.countP_map]
  refine List.countP_congr fun i _ => ?_
  simp [tI]
theorem tickets_nodup (ats : List Int) (n : Nat) : ((calF ats n).map fun a => a.ticket).Nodup := by
  rw [((calF_perm ats n).map _).nodup_iff, List.map_map]
  rw [List.nodup_iff_pairwise_ne, List.pairwise_map]
  refine (List.nodup_iff_pairwise_ne.1 List.nodup_range).imp fun {a b} h => ?_
  simp only [tI, Function.comp]; omega
theorem cut_one {k : Int} : ∀ {l : List T_t74}, (l.map fun a => a.ticket).Nodup → ixT_i l k < l.length → cutOut l (ixT_i l k) (ixT_i l k + 1) = l.filter fun a => !decide (a.ticket = k)
  | [], _, h => by simp [ixT_i, ixF] at h
  | a :: l, hn, h => by
    rw [List.map_cons, List.nodup_cons] at hn
    by_cases c : a.ticket = k
    · have e : ixT_i (a :: l) k = 0 := by unfold ixT_i ixF; rw [List.takeWhile_cons, if_neg (by simp [c])]; rfl
      rw [e]
      have : l.filter (fun a => !decide (a.ticket = k)) = l := List.filter_eq_self.2 fun b hb => by
        have : b.ticket ≠ k := fun e => hn.1 (by rw [c, ← e]; exact List.mem_map_of_mem hb)
        simp [this]
      rw [List.filter_cons, if_neg (by simp [c]), this]
      rfl
    · have e : ixT_i (a :: l) k = ixT_i l k + 1 := by unfold ixT_i ixF; rw [List.takeWhile_cons, if_pos (by simp [c]), List.length_cons]
      rw [e] at h ⊢
      have ih := cut_one (k := k) hn.2 (by simp only [List.length_cons] at h; omega)
      rw [List.filter_cons, if_pos (by simp [c]), ← ih]
      rfl
theorem ix_iff {l : List T_t74} {k : Int} : ixT_i l k < l.length ↔ ∃ a ∈ l, a.ticket = k := by
  constructor
  · intro h
    have := (ixF_spec (p := fun a : T_t74 => decide (a.ticket = k)) h).2
    exact ⟨_, at_mem h, of_decide_eq_true this⟩
  · rintro ⟨a, ha, e⟩
    rcases Nat.lt_or_ge (ixT_i l k) l.length with h | h
    · exact h
    · have h2 : ixT_i l k = l.length := by have := ixF_le (fun a : T_t74 => decide (a.ticket = k)) l; unfold ixT_i at h ⊢; omega
      have := filter_none (p := fun a : T_t74 => decide (a.ticket = k)) h2
      rw [List.filter_eq_self] at this
      have := this a ha
      simp [e] at this
theorem live_mem {ats : List Int} {n : Nat} {H : List Bool} {a : T_t74} : a ∈ liveF ats n H ↔ ∃ i, i < n ∧ a = tI ats i ∧ at' H i = true := by
  unfold liveF
  rw [List.mem_filter]
  constructor
  · rintro ⟨h1, h2⟩
    obtain ⟨i, hi, rfl⟩ := (calF_spec ats n).2.2 a h1
    exact ⟨i, hi, rfl, by simpa [tI] using h2⟩
  · rintro ⟨i, hi, rfl, h⟩
    exact ⟨calF_all ats n i hi, by simpa [tI] using h⟩
theorem live_up {ats : List Int} {n : Nat} {H : List Bool} : up_i (liveF ats n H) := (calF_spec ats n).1.filter _
/-- was it there? -/
def wasF (n : Nat) (H : List Bool) (k : Int) : Bool := decide (0 ≤ k) && decide (k < n) && at' H k.toNat
theorem drop_was {ats : List Int} {n : Nat} {H : List Bool} {k : Int} (h : wasF n H (k - 1) = true) : ixT_i (liveF ats n H) k < (liveF ats n H).length := by
  unfold wasF at h
  simp only [Bool.and_eq_true, decide_eq_true_eq] at h
  rw [ix_iff]
  exact ⟨tI ats (k - 1).toNat, live_mem.2 ⟨_, by omega, rfl, h.2⟩, by simp only [tI]; omega⟩
theorem drop_not {ats : List Int} {n : Nat} {H : List Bool} {k : Int} (h : wasF n H (k - 1) = false) : ¬ ixT_i (liveF ats n H) k < (liveF ats n H).length := by
  rw [ix_iff]
  rintro ⟨a, ha, e⟩
  obtain ⟨i, hi, rfl, hH⟩ := live_mem.1 ha
  simp only [tI] at e
  have : wasF n H (k - 1) = true := by
    unfold wasF
    have e2 : k - 1 = (i : Int) := by omega
    rw [e2]
    simp [hH, hi]
  rw [h] at this; cases this
theorem at_set {α : Type} [Inhabited α] {l : List α} {i j : Nat} {x : α} (hi : i < l.length) : at' (l.set i x) j = if i = j then x else at' l j := by
  by_cases e : i = j
  · subst e; rw [if_pos rfl, at'_get _ _ (by simpa using hi), List.getElem_set_self]
  · rw [if_neg e]
    by_cases hj : j < l.length
    · rw [at'_get _ _ (by simpa using hj), at'_get _ _ hj, List.getElem_set_ne e]
    · have h1 : (l.set i x)[j]? = none := List.getElem?_eq_none (by rw [List.length_set]; omega)
      have h2 : l[j]? = none := List.getElem?_eq_none (by omega)
      unfold at'
      rw [h1, h2]
theorem drop_cut {ats : List Int} {n : Nat} {H : List Bool} {k : Int} (hl : H.length = n) (h : wasF n H (k - 1) = true) :
    cutOut (liveF ats n H) (ixT_i (liveF ats n H) k) (ixT_i (liveF ats n H) k + 1) = liveF ats n (H.set (k - 1).toNat false) := by
  have hn : ((liveF ats n H).map fun a => a.ticket).Nodup := (tickets_nodup ats n).sublist ((List.filter_sublist ..).map _)
  rw [cut_one hn (drop_was h)]
  unfold wasF at h
  simp only [Bool.and_eq_true, decide_eq_true_eq] at h
  unfold liveF
  rw [List.filter_filter]
  refine List.filter_congr fun a ha => ?_
  obtain ⟨i, hi, rfl⟩ := (calF_spec ats n).2.2 a ha
  have hs := at_set (l := H) (i := (k - 1).toNat) (j := i) (x := false) (by omega)
  simp only [tI, Int.toNat_natCast]
  rw [hs]
  by_cases c : (k - 1).toNat = i
  · have : (i : Int) + 1 = k := by omega
    rw [if_pos c]
    simp [this]
  · have : ¬ (i : Int) + 1 = k := by omega
    rw [if_neg c]
    simp [this]
/-! ### what is sifted out -/
theorem odd_nat (i : Nat) : isOdd (i : Int) = decide (i % 2 = 1) := by
  unfold isOdd
  have : ((i : Int).tmod 2 = 0) ↔ i % 2 = 0 := by
    have e : ((i : Int).tmod 2) = ((i % 2 : Nat) : Int) := rfl
    rw [e]; omega
  by_cases c : i % 2 = 0
  · have h1 : (i : Int).tmod 2 = 0 := this.2 c
    simp [h1, c]
  · have h1 : ¬ (i : Int).tmod 2 = 0 := fun h => c (this.1 h)
    have h2 : i % 2 = 1 := by omega
    simp [h1, h2]
/-- the odd ones below a bound are gone -/
def OddI (n : Nat) (H H' : List Bool) (i : Nat) : Prop := H'.length = n ∧ ∀ k, k < n → at' H' k = (at' H k && !(decide (k % 2 = 1) && decide (k < i)))
theorem kept_live {ats : List Int} {n : Nat} {H H' : List Bool} {i : Nat} (h : OddI n H H' i) (hi : n ≤ i) : kept (liveF ats n H) = liveF ats n H' := by
  unfold kept liveF
  rw [List.filter_filter]
  refine List.filter_congr fun a ha => ?_
  obtain ⟨k, hk, rfl⟩ := (calF_spec ats n).2.2 a ha
  simp only [tI, Int.toNat_natCast]
  rw [h.2 k hk, odd_nat, Bool.and_comm]
  have : decide (k < i) = true := decide_eq_true (by omega)
  rw [this, Bool.and_true]
theorem count_set {H : List Bool} {i : Nat} (hi : i < H.length) (h : at' H i = true) : (H.set i false).count true + 1 = H.count true := by
  rw [at'_get _ _ hi] at h
  have h1 : H.set i false = H.take i ++ false :: H.drop (i + 1) := List.set_eq_take_append_cons_drop .. |>.trans (if_pos hi)
  have h2 : H = H.take i ++ true :: H.drop (i + 1) := by
    conv => lhs; rw [← List.take_append_drop i H, List.drop_eq_getElem_cons hi, h]
  rw [h1]
  conv => rhs; rw [h2]
  simp [List.count_append]
  omega
theorem OddI.start {n : Nat} {H : List Bool} (h : H.length = n) : OddI n H H 1 := ⟨h, fun k hk => by
  have : (decide (k % 2 = 1) && decide (k < 1)) = false := by
    by_cases c : k % 2 = 1
    · have : ¬ k < 1 := by omega
      simp [this]
    · simp [c]
  rw [this]; simp⟩
theorem OddI.step {n : Nat} {H H' : List Bool} {q : Nat} (h : OddI n H H' (2 * q + 1)) (hq : 2 * q + 1 < n) : OddI n H (H'.set (2 * q + 1) false) (2 * q + 3) := by
  refine ⟨by rw [List.length_set, h.1], fun k hk => ?_⟩
  rw [at_set (by rw [h.1]; exact hq), h.2 k hk]
  by_cases c : 2 * q + 1 = k
  · rw [if_pos c]
    have h1 : decide (k % 2 = 1) = true := decide_eq_true (by omega)
    have h2 : decide (k < 2 * q + 3) = true := decide_eq_true (by omega)
    rw [h1, h2]; simp
  · rw [if_neg c]
    congr 2
    by_cases d : k % 2 = 1
    · have : (k < 2 * q + 1) ↔ (k < 2 * q + 3) := by omega
      simp [this]
    · simp [d]
theorem OddI.off {n : Nat} {H H' : List Bool} {q : Nat} (h : OddI n H H' (2 * q + 1)) (hq : 2 * q + 1 < n) (hf : at' H' (2 * q + 1) = false) : OddI n H H' (2 * q + 3) := by
  have e : H'.set (2 * q + 1) false = H' := by
    rw [at'_get _ _ (by rw [h.1]; exact hq)] at hf
    rw [← hf]; exact List.set_getElem_self ..
  have := h.step hq
  rwa [e] at this
/-! ### taking -/
/-- those of the first ones are struck off -/
def TakI (n : Nat) (H H' : List Bool) (L : List T_t74) (i : Nat) : Prop := H'.length = n ∧ ∀ k, k < n → at' H' k = (at' H k && !((L.take i).any fun a => decide (a.v.toNat = k)))
theorem TakI.start {n : Nat} {H : List Bool} {L : List T_t74} (h : H.length = n) : TakI n H H L 0 := ⟨h, fun k hk => by simp⟩
theorem TakI.there {ats : List Int} {n : Nat} {H H' : List Bool} {i : Nat} (h : TakI n H H' (liveF ats n H) i) (hi : i < (liveF ats n H).length) :
    ∃ k, k < n ∧ (at' (liveF ats n H) i).v = (k : Int) ∧ at' H' k = true := by
  obtain ⟨k, hk, e, hH⟩ := live_mem.1 (at_mem hi)
  refine ⟨k, hk, by rw [e]; rfl, ?_⟩
  rw [h.2 k hk, hH]
  have : ((liveF ats n H).take i).any (fun a => decide (a.v.toNat = k)) = false := by
    rw [List.any_eq_false]
    intro a ha hc
    have hc2 : a.v.toNat = k := of_decide_eq_true hc
    obtain ⟨j, hj, rfl⟩ := List.getElem_of_mem ha
    rw [List.length_take] at hj
    have hn : ((liveF ats n H).map fun a => a.ticket).Nodup := (tickets_nodup ats n).sublist ((List.filter_sublist ..).map _)
    rw [List.getElem_take] at hc2
    obtain ⟨k2, hk2, e2, _⟩ := live_mem.1 (List.getElem_mem (show j < (liveF ats n H).length by omega))
    rw [e2] at hc2
    simp only [tI, Int.toNat_natCast] at hc2
    subst hc2
    rw [at'_get _ _ hi] at e
    have hp := List.pairwise_iff_getElem.1 (List.nodup_iff_pairwise_ne.1 hn) j i (by simpa using (by omega : j < (liveF ats n H).length)) (by simpa using hi) (by omega)
    rw [List.getElem_map, List.getElem_map, e2, e] at hp
    exact hp rfl
  rw [this]; rfl
theorem TakI.step {n : Nat} {H H' : List Bool} {L : List T_t74} {i k : Nat} (h : TakI n H H' L i) (hi : i < L.length) (hk : k < n) (hv : (at' L i).v = (k : Int)) : TakI n H (H'.set k false) L (i + 1) := by
  refine ⟨by rw [List.length_set, h.1], fun j hj => ?_⟩
  rw [at_set (by rw [h.1]; exact hk), h.2 j hj, take_at hi, List.any_append]
  by_cases c : k = j
  · rw [if_pos c]
    have : ((at' L i).v.toNat = j) := by rw [hv]; simpa using c
    simp [this]
  · rw [if_neg c]
    have : ¬ ((at' L i).v.toNat = j) := by rw [hv]; simpa using c
    simp [this]
theorem was_wrap {n : Nat} {H : List Bool} {t : Int} (h : -9223372036854775808 ≤ t ∧ t < 9223372036854775808) (hn : n ≤ 100) : wasF n H (wrapA .i64 (t - 1)) = wasF n H (t - 1) := by
  by_cases c : -9223372036854775808 ≤ t - 1
  · rw [wrap64 c (by omega)]
  · have e : t = -9223372036854775808 := by omega
    subst e
    have e2 : wrapA .i64 (-9223372036854775808 - 1) = 9223372036854775807 := by decide
    rw [e2]
    unfold wasF
    have h1 : ¬ ((9223372036854775807 : Int) < (n : Int)) := by omega
    have h2 : ¬ ((0 : Int) ≤ -9223372036854775808 - 1) := by omega
    simp [h1, h2]
/-! ### marks -/
theorem gV_pos {α : Type} {b : Nat} {l : List α} (h : 0 < l.length) : gV true b l = mkSl b l := by
  cases l with
  | nil => simp at h
  | cons a l => rfl
theorem gO_pos {α : Type} {E : Enc α} {l : List α} (h : 0 < l.length) : gO true E l = mkOb E l := by
  cases l with
  | nil => simp at h
  | cons a l => rfl
theorem mark {hp : Hp} {b i : Nat} {H : List Bool} {x : Bool} (h : hp b = gO true e_bool H) (hi : i < H.length) :
    sstore tt.get hp 4 (ptrS (gV true b H) (i * 1)) (.bool x) = ([(b, gO true e_bool (H.set i x))], True) := by
  rw [gV_pos (by omega), gO_pos (by rw [List.length_set]; omega)]
  rw [gO_pos (by omega)] at h
  exact os_sbool h hi
theorem gV_set {b i : Nat} {H : List Bool} {x : Bool} : gV true b (H.set i x) = gV true b H := by unfold gV; rw [List.length_set]
theorem zer_bool (n : Nat) : zerosA ti4 n = List.replicate n (.bool false) := by
  unfold zerosA
  induction n with
  | zero => rfl
  | succ n ih => rw [List.replicate_succ, List.flatten_cons, ih]; rfl
theorem flat_bool (l : List Bool) : e_bool.flat l = l.map .bool := by
  induction l with
  | nil => rfl
  | cons a l ih => rw [Enc.flat_cons, ih]; rfl
theorem make_bool {top n : Nat} (hn : n ≤ 1000) : makeSliceA tt.get top 41 (.int .i64 (n : Int)) (.int .i64 (n : Int)) = some (gV true top (List.replicate n false), [(top, gO true e_bool (List.replicate n false))], top + 1) := by
  have h1 : Nat.ble n n = true := Nat.ble_eq_true_of_le (Nat.le_refl _)
  have h2 : Nat.ble (1 * n) 1099511627776 = true := Nat.ble_eq_true_of_le (by omega)
  have h3 : Nat.ble n 1099511627776 = true := Nat.ble_eq_true_of_le (by omega)
  show (match Nat.ble n n && Nat.ble (1 * n) 1099511627776 && Nat.ble n 1099511627776 with
    | true => some (Value.slice (some ⟨top, 0, none⟩) n n, [(top, some (AObj.cells true 1 (zerosA ti4 n)))], top + 1)
    | false => none) = _
  rw [h1, h2, h3, zer_bool]
  simp only [gV, gO, ownS, ownO, if_true, List.length_replicate, Bool.and_self]
  rw [flat_bool, List.map_replicate]
  rfl
end Go.Proofs.Ytogndgadipdikaa.Dm
