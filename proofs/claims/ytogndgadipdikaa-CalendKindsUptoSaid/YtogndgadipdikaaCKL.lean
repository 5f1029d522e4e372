/- CalendKinds: the plain law. -/
import Derived.Test.YtogndgadipdikaaCPL
import Derived.Test.YtogndgadipdikaaMa
set_option linter.unusedSimpArgs false
set_option linter.unusedVariables false
namespace Go.Proofs.Ytogndgadipdikaa.Dm
open Go.Dm
set_option maxHeartbeats 4000000

/-- the same thing, of two texts -/
def mA (a : T_t74) : T_t83 := ⟨a.at_, a.ticket, [97], [98]⟩
def ab : T_a2string := ⟨[97], [98]⟩
theorem lb_mA (l : List T_t74) (t : T_t74) : lb_a (l.map mA) (mA t) = lb_i l t := by
  unfold lb_a lb_i
  rw [List.countP_map]
  rfl
theorem put_mA (l : List T_t74) (t : T_t74) : put_a (l.map mA) (mA t) = (put_i l t).map mA := by
  unfold put_a put_i insAt
  rw [lb_mA, List.map_append, List.map_cons, List.map_take, List.map_drop]
theorem up_mA {l : List T_t74} (h : up_i l) : up_a (l.map mA) := List.pairwise_map.2 h
theorem kF_mA (l : List T_t74) (now : Int) : kF_a (l.map mA) now = kF_i l now := by
  unfold kF_a kF_i
  rw [List.takeWhile_map, List.length_map]
  rfl
theorem outs_mA {l : List T_t74} {k : Nat} (h : k ≤ l.length) : outs_a (l.map mA) k = List.replicate k ab := by
  unfold outs_a
  rw [← List.map_take, List.map_map]
  apply List.eq_replicate_iff.2
  refine ⟨by simp; omega, fun b hb => ?_⟩
  obtain ⟨a, -, rfl⟩ := List.mem_map.1 hb
  rfl
theorem at_rep {α : Type} [Inhabited α] {k j : Nat} {a : α} (h : j < k) : at' (List.replicate k a) j = a := by
  rw [at'_get _ _ (by simpa using h), List.getElem_replicate]
/-- what Take at the first thing's tick gives -/
theorem first_le {l : List T_t74} (hu : up_i l) {a : T_t74} (ha : a ∈ l) : (at' l 0).at_ ≤ a.at_ := by
  obtain ⟨i, hi, rfl⟩ := List.mem_iff_getElem.1 ha
  by_cases e : i = 0
  · subst e; rw [at'_get _ _ hi]; exact Int.le_refl _
  · have := List.pairwise_iff_getElem.1 hu 0 i (by omega) hi (by omega)
    rw [at'_get _ _ (by omega)]
    simp only [lt_i, ltK, Bool.or_eq_true, Bool.and_eq_true, decide_eq_true_eq] at this
    omega
theorem kF_pos {l : List T_t74} (h : 0 < l.length) : 0 < kF_i l (at' l 0).at_ := by
  cases l with
  | nil => simp at h
  | cons a m =>
    have : at' (a :: m) 0 = a := rfl
    rw [this]
    unfold kF_i
    rw [List.takeWhile_cons, if_pos (by simp)]
    simp
theorem tw_mem {α : Type} {p : α → Bool} : ∀ {l : List α} {a : α}, a ∈ l.takeWhile p → p a = true
  | [], _, h => by simp at h
  | b :: l, a, h => by
    rw [List.takeWhile_cons] at h
    split at h
    · rcases List.mem_cons.1 h with rfl | h
      · assumption
      · exact tw_mem h
    · simp at h
theorem kF_at {l : List T_t74} (hu : up_i l) {j : Nat} (h : j < kF_i l (at' l 0).at_) : (at' l j).at_ = (at' l 0).at_ := by
  have hk := kF_i_le l (at' l 0).at_
  have hj : j < l.length := by omega
  have h1 := first_le hu (at_mem hj)
  have h2 : at' l j ∈ l.takeWhile fun a => decide (a.at_ ≤ (at' l 0).at_) := by
    have hp := List.takeWhile_prefix (l := l) (fun a : T_t74 => decide (a.at_ ≤ (at' l 0).at_))
    have : (l.takeWhile fun a => decide (a.at_ ≤ (at' l 0).at_))[j]'h = l[j] := hp.getElem h
    rw [at'_get _ _ hj, ← this]
    exact List.getElem_mem h
  have h3 := tw_mem h2
  simp only [decide_eq_true_eq] at h3
  omega
theorem kF_tk {l : List T_t74} (hu : up_i l) {j : Nat} (h0 : 0 < j) (h : j < kF_i l (at' l 0).at_) : (at' l (j - 1)).ticket < (at' l j).ticket := by
  have hk := kF_i_le l (at' l 0).at_
  have h1 := kF_at hu h
  have h2 := kF_at hu (show j - 1 < kF_i l (at' l 0).at_ by omega)
  have := List.pairwise_iff_getElem.1 hu (j - 1) j (by omega) (by omega) (by omega)
  rw [← at'_get _ _ (by omega), ← at'_get _ _ (by omega)] at this
  simp only [lt_i, ltK, Bool.or_eq_true, Bool.and_eq_true, decide_eq_true_eq] at this
  omega
end Go.Proofs.Ytogndgadipdikaa.Dm
