/- CalendPlays: the plain law; sift. -/
import Derived.Test.YtogndgadipdikaaYs
set_option linter.unusedSimpArgs false
set_option linter.unusedVariables false
namespace Go.Proofs.Ytogndgadipdikaa.Dm
open Go.Dm
set_option maxHeartbeats 8000000
set_option maxRecDepth 20000

/-- the document's thing -/
def mR (a : T_t96) : T_Thing := ⟨a.at_, a.ticket, a.v⟩
section
variable {l : List T_t96}
theorem kFR_mR {now : Int} : kFR (l.map mR) now = kF_s l now := by
  unfold kFR kF_s
  rw [List.takeWhile_map, List.length_map]
  rfl
theorem outsR_mR {k : Nat} : outsR (l.map mR) k = outs_s l k := by
  unfold outsR outs_s
  rw [← List.map_take, List.map_map]
  rfl
theorem up_at {i j : Nat} (h : up_s l) (hij : i ≤ j) (hj : j < l.length) : (at' l i).at_ ≤ (at' l j).at_ := by
  by_cases e : i = j
  · subst e; exact Int.le_refl _
  · have := List.pairwise_iff_getElem.1 h i j (by omega) hj (by omega)
    rw [at'_get _ _ (by omega), at'_get _ _ hj]
    simp only [lt_s, ltK, Bool.or_eq_true, Bool.and_eq_true, decide_eq_true_eq] at this
    omega
theorem upR_mR (h : up_s l) : upR (l.map mR) := by
  unfold upR
  rw [List.pairwise_map]
  refine h.imp fun {a b} hab => ?_
  simp only [lt_s, ltK, Bool.or_eq_true, Bool.and_eq_true, decide_eq_true_eq] at hab
  simp only [mR]
  omega
theorem tw_lt {α : Type} [Inhabited α] {p : α → Bool} : ∀ {l : List α} {k : Nat}, k < (l.takeWhile p).length → p (at' l k) = true
  | [], k, h => by simp at h
  | a :: l, k, h => by
    rw [List.takeWhile_cons] at h
    split at h
    · rename_i hp
      cases k with
      | zero => exact hp
      | succ k => exact tw_lt (l := l) (by simpa using h)
    · simp at h
theorem tw_ge {α : Type} [Inhabited α] {p : α → Bool} : ∀ {l : List α}, (l.takeWhile p).length < l.length → p (at' l (l.takeWhile p).length) = false
  | [], h => by simp at h
  | a :: l, h => by
    cases hp : p a with
    | true =>
      have e : (List.takeWhile p (a :: l)).length = (List.takeWhile p l).length + 1 := by rw [List.takeWhile_cons, if_pos hp, List.length_cons]
      rw [e] at h ⊢
      exact tw_ge (l := l) (by simpa using h)
    | false =>
      have e : (List.takeWhile p (a :: l)).length = 0 := by rw [List.takeWhile_cons, if_neg (by simp [hp])]; rfl
      rw [e]
      exact hp
theorem lb_kF (h : up_s l) {t : T_t96} (ht : ∀ a ∈ l, a.ticket < t.ticket) : lb_s l t = kF_s l t.at_ := by
  have hk := kF_s_le l t.at_
  refine lb_s_at hk (fun k hlt => ?_) fun k hge hlen => ?_
  · have := tw_lt (p := fun a : T_t96 => decide (a.at_ ≤ t.at_)) hlt
    have h2 := ht _ (at_mem (show k < l.length by omega))
    simp only [decide_eq_true_eq] at this
    simp only [lt_s, ltK, Bool.or_eq_true, Bool.and_eq_true, decide_eq_true_eq]
    omega
  · have h1 := tw_ge (p := fun a : T_t96 => decide (a.at_ ≤ t.at_)) (l := l) (by unfold kF_s at hge; omega)
    have h2 := up_at h hge hlen
    unfold kF_s at h2
    simp only [decide_eq_false_iff_not] at h1
    simp only [lt_s, ltK, Bool.or_eq_false_iff, Bool.and_eq_false_iff, decide_eq_false_iff_not]
    omega
theorem putR_mR (h : up_s l) {t : T_t96} (ht : ∀ a ∈ l, a.ticket < t.ticket) : putR (l.map mR) (mR t) = (put_s l t).map mR := by
  unfold putR put_s insAt
  have e : (mR t).At = t.at_ := rfl
  rw [e, kFR_mR, lb_kF h ht, List.map_append, List.map_cons, List.map_take, List.map_drop, List.append_assoc]
  rfl
theorem ixR_mR {k : Int} : ixR (l.map mR) k = ixT_s l k := by
  unfold ixR ixT_s ixF
  rw [List.takeWhile_map, List.length_map]
  rfl
theorem cutR_mR {i : Nat} : cutR (l.map mR) i = (cutOut l i (i + 1)).map mR := by
  unfold cutR cutOut
  rw [List.map_append, List.map_take, List.map_drop]
theorem goneR_mR {g : List UInt8} : goneR g (l.map mR) = (keptP (fun a : T_t96 => decide (a.v = g)) l).map mR := by
  unfold goneR keptP
  rw [List.filter_map]
  rfl
end
/-! ### the document's list in memory: a slice whose beginning may be cut off -/
def refV (e : Bool) (d : Nat) (pre l : List T_Thing) : Value := match l with
  | [] => if e then .slice (some ⟨0, 0, some 0⟩) 0 0 else .slice none 0 0
  | _ :: _ => .slice (some ⟨d, pre.length * 3, none⟩) l.length l.length
def refO (pre l : List T_Thing) : Option AObj := match l with
  | [] => none
  | _ :: _ => some (.cells true 3 (e_Thing.flat (pre ++ l)))
theorem refV_slT {hp : Hp} {e : Bool} {d : Nat} {pre l : List T_Thing} (h : hp d = refO pre l) (hn : pre.length + l.length ≤ 1000000) : SlT e_Thing hp (refV e d pre l) l := by
  cases l with
  | nil => cases e; exact .nils; exact .emp
  | cons a l =>
    have hf : (e_Thing.flat (pre ++ a :: l)).drop (pre.length * 3) = e_Thing.flat (a :: l) := by
      have := Enc.flat_drop (E := e_Thing) (pre ++ a :: l) pre.length
      rw [List.drop_left] at this
      exact this
    refine .rows d (pre.length * 3) (a :: l).length true _ (a :: l) h ?_ ?_ (Nat.le_refl _) (by omega)
    · rw [hf, List.take_of_length_le (by rw [Enc.flat_len]; exact Nat.le_refl _)]
    · rw [Enc.flat_len, List.length_append]
      show _ ≤ (_ + _) * 3
      have : e_Thing.size = 3 := rfl
      rw [this]
      omega
theorem sufN_nil {e : Bool} {d : Nat} {pre : List T_Thing} : ∀ k, sufN (refV e d pre []) k = refV e d pre []
  | 0 => rfl
  | k + 1 => by
    show subL 3 (sufN (refV e d pre []) k) 1 = _
    rw [sufN_nil k]
    cases e <;> rfl
theorem sufN_comm (v : Value) : ∀ k, sufN (subL 3 v 1) k = sufN v (k + 1)
  | 0 => rfl
  | k + 1 => by
    show subL 3 (sufN (subL 3 v 1) k) 1 = subL 3 (sufN v (k + 1)) 1
    rw [sufN_comm v k]
theorem subL_ref {e : Bool} {d : Nat} {pre l : List T_Thing} {a : T_Thing} : subL 3 (refV e d pre (a :: l)) 1 = refV (e || decide (l = [])) d (pre ++ [a]) l := by
  cases l with
  | nil => cases e <;> rfl
  | cons b l =>
    simp only [refV, subL, List.length_cons, List.length_append, List.length_nil]
    rw [if_pos (by omega)]
    simp only [Nat.add_sub_cancel, Nat.zero_add, Nat.add_mul, Nat.one_mul]
theorem sufN_ref {d : Nat} : ∀ (k : Nat) (e : Bool) (pre l : List T_Thing), k ≤ l.length → sufN (refV e d pre l) k = refV (e || decide (0 < k ∧ k = l.length)) d (pre ++ l.take k) (l.drop k)
  | 0, e, pre, l, _ => by simp [sufN]
  | k + 1, e, pre, [], h => by simp at h
  | k + 1, e, pre, a :: l, h => by
    rw [← sufN_comm, subL_ref, sufN_ref k _ _ l (by simpa using h), List.take_succ_cons, List.drop_succ_cons, List.append_assoc, List.singleton_append]
    congr 1
    cases l with
    | nil =>
      have : k = 0 := by simpa using h
      subst this
      simp
    | cons b l =>
      simp only [List.length_cons, Nat.zero_lt_succ, true_and, Nat.add_right_cancel_iff, reduceCtorEq, decide_false, Bool.or_false]
      congr 1
      by_cases h2 : k = l.length + 1 <;> simp [h2]
theorem refO_suf {pre l : List T_Thing} {k : Nat} : (l.drop k = [] ∧ refO (pre ++ l.take k) (l.drop k) = none) ∨ refO (pre ++ l.take k) (l.drop k) = refO pre l := by
  cases hd : l.drop k with
  | nil => exact Or.inl ⟨rfl, rfl⟩
  | cons a m =>
    right
    cases l with
    | nil => simp at hd
    | cons b l =>
      simp only [refO]
      rw [List.append_assoc, ← hd, List.take_append_drop]
end Go.Proofs.Ytogndgadipdikaa.Dm
