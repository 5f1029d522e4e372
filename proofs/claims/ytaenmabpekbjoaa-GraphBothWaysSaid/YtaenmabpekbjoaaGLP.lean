/- GraphLess: what the functions come to, without the program. -/
import Derived.Test.YtaenmabpekbjoaaG7
set_option linter.unusedSimpArgs false
set_option linter.unusedVariables false
namespace Go.Proofs.Ytaenmabpekbjoaa.Dm
open Go.Dm

theorem adjs_mono {o : Int} : ∀ (l : List T_Adj) (a b : Int), b ≤ a → adjsOk o a l = true → adjsOk o b l = true
  | [], _, _, _, _ => rfl
  | x :: l, a, b, h, g => by
    simp only [adjsOk, Bool.and_eq_true, decide_eq_true_eq] at g ⊢
    exact ⟨⟨g.1.1, by omega⟩, g.2⟩
theorem adjs_drop {o : Int} : ∀ (l : List T_Adj) (last : Int) (k : Nat), adjsOk o last l = true → adjsOk o last (l.take k ++ l.drop (k + 1)) = true
  | [], _, _, _ => by simp [adjsOk]
  | x :: l, last, 0, h => by
    simp only [adjsOk, Bool.and_eq_true, decide_eq_true_eq] at h
    simp only [List.take_zero, List.nil_append, Nat.zero_add, List.drop_succ_cons, List.drop_zero]
    exact adjs_mono l x.To last (by omega) h.2
  | x :: l, last, k + 1, h => by
    have ih := adjs_drop (o := o) l x.To k
    simp only [adjsOk, Bool.and_eq_true, decide_eq_true_eq] at h
    simp only [List.take_succ_cons, List.cons_append, List.drop_succ_cons, adjsOk, Bool.and_eq_true, decide_eq_true_eq]
    exact ⟨h.1, ih h.2⟩
theorem adjs_above {o : Int} : ∀ (l : List T_Adj) (last : Int), adjsOk o last l = true → ∀ x ∈ l, last < x.To
  | [], _, _, _, h => by cases h
  | y :: l, last, h, x, hx => by
    simp only [adjsOk, Bool.and_eq_true, decide_eq_true_eq] at h
    rcases List.mem_cons.1 hx with rfl | hx
    · exact h.1.2
    · have := adjs_above l y.To h.2 x hx; have := h.1.2; omega
def dropA (r : RecD) (k : Nat) : RecD := { r with Adjs := r.Adjs.take k ++ r.Adjs.drop (k + 1) }
theorem mayR_drop {r : RecD} {k : Nat} (h : mayR r = true) : mayR (dropA r k) = true := by
  have hl : (r.Adjs.take k ++ r.Adjs.drop (k + 1)).length ≤ r.Adjs.length := by
    simp only [List.length_append, List.length_take, List.length_drop]
    omega
  simp only [mayR, headOk, Bool.and_eq_true, decide_eq_true_eq] at h ⊢
  exact ⟨⟨h.1.1, Nat.le_trans hl h.1.2⟩, adjs_drop _ _ _ h.2⟩
theorem goU_mk : ∀ (l done : List RecD), (∀ r ∈ l, mayR r = true ∧ done.any (isO r.Origin) = false) → l.Pairwise (fun a b => a.Origin ≠ b.Origin) → goU done l = true
  | [], _, _, _ => rfl
  | r :: l, done, h, g => by
    obtain ⟨g1, g2⟩ := List.pairwise_cons.1 g
    obtain ⟨h1, h2⟩ := h r (List.mem_cons_self ..)
    simp only [goU, Bool.and_eq_true, Bool.not_eq_true']
    refine ⟨⟨h1, h2⟩, goU_mk l _ ?_ g2⟩
    intro x hx
    obtain ⟨a, b⟩ := h x (List.mem_cons_of_mem _ hx)
    refine ⟨a, ?_⟩
    rw [List.any_append, b]
    simp [isO, g1 x hx]
theorem uniq_mk {L : List RecD} (U : Uniq L) : uniqF L = true := goU_mk L [] (fun r hr => ⟨U.may r hr, rfl⟩) U.ne
theorem uniq_map {L M : List RecD} (h : L.Pairwise fun a b => a.Origin ≠ b.Origin) (e : M.map (·.Origin) = L.map (·.Origin)) : M.Pairwise fun a b => a.Origin ≠ b.Origin := by
  have h1 : (L.map (·.Origin)).Pairwise (· ≠ ·) := List.pairwise_map.2 h
  rw [← e] at h1
  exact List.pairwise_map.1 h1
theorem set_map {L : List RecD} {i k : Nat} (hi : i < L.length) : (L.set i (dropA (at' L i) k)).map (·.Origin) = L.map (·.Origin) := by
  rw [List.map_set]
  apply List.ext_getElem?
  intro j
  rw [List.getElem?_set]
  split
  · rename_i e; subst e
    simp [hi, dropA, at'_get _ _ hi]
  · rfl
theorem Uniq.drop {L : List RecD} (U : Uniq L) {i k : Nat} (hi : i < L.length) : Uniq (L.set i (dropA (at' L i) k)) := by
  refine ⟨?_, uniq_map U.ne (set_map hi)⟩
  intro r hr
  rcases List.mem_or_eq_of_mem_set hr with h | rfl
  · exact U.may r h
  · exact mayR_drop (U.may _ (at_mem hi))
theorem any_isO (L : List RecD) (n : Int) : L.any (isO n) = (L.map (·.Origin)).any fun o => decide (o = n) := by
  rw [List.any_map]; rfl
theorem nodes_set {L : List RecD} {i k : Nat} (hi : i < L.length) : nodesF (L.set i (dropA (at' L i) k)) = nodesF L := by
  unfold nodesF
  congr 1
  refine filter_congr' fun n _ => ?_
  rw [any_isO, any_isO, set_map hi]
theorem costA_none : ∀ {l : List T_Adj} {b : Int}, hasA l b = false → costA l b = 0
  | [], _, _ => rfl
  | x :: l, b, h => by
    simp only [hasA, List.any_cons, Bool.or_eq_false_iff, decide_eq_false_iff_not] at h
    rw [costA, if_neg h.1]
    exact costA_none h.2
theorem costF_mem : ∀ {L : List RecD}, L.Pairwise (fun a b => a.Origin ≠ b.Origin) → ∀ {r : RecD}, r ∈ L → ∀ b, costF L r.Origin b = costA r.Adjs b
  | [], _, _, h, _ => by cases h
  | x :: L, h, r, hr, b => by
    obtain ⟨h1, h2⟩ := List.pairwise_cons.1 h
    unfold costF
    rcases List.mem_cons.1 hr with rfl | hr
    · by_cases hh : hasA r.Adjs b = true
      · rw [if_pos ⟨rfl, hh⟩]
      · rw [if_neg (fun e => hh e.2), costA_none (by simpa using hh)]
        by_cases hz : 0 < costF L r.Origin b
        · have := costF_origin L r.Origin b hz
          rw [List.any_eq_true] at this
          obtain ⟨y, hy, e⟩ := this
          simp only [isO, decide_eq_true_eq] at e
          exact absurd e.symm (h1 y hy)
        · have key : ∀ (L : List RecD), (∀ y ∈ L, r.Origin ≠ y.Origin) → costF L r.Origin b = 0 := by
            intro L
            induction L with
            | nil => intro _; rfl
            | cons y L ih =>
              intro h
              unfold costF
              rw [if_neg (fun e => h y (List.mem_cons_self ..) e.1.symm)]
              exact ih fun z hz => h z (List.mem_cons_of_mem _ hz)
          exact key L h1
    · rw [if_neg (fun e => h1 r hr e.1)]
      exact costF_mem h2 hr b
theorem costF_no : ∀ {L : List RecD} {a b : Int}, L.any (isO a) = false → costF L a b = 0
  | [], _, _, _ => rfl
  | x :: L, a, b, h => by
    simp only [List.any_cons, Bool.or_eq_false_iff, isO, decide_eq_false_iff_not] at h
    unfold costF
    rw [if_neg (fun e => h.1 e.1)]
    exact costF_no h.2
theorem costA_drop {o : Int} {l : List T_Adj} {last : Int} (h : adjsOk o last l = true) {k : Nat} (hk : k < l.length) (b : Int) :
    costA (l.take k ++ l.drop (k + 1)) b = if b = (at' l k).To then 0 else costA l b := by
  have e : l = l.take k ++ at' l k :: l.drop (k + 1) := by rw [← drop_at hk, List.take_append_drop]
  by_cases hb : b = (at' l k).To
  · rw [if_pos hb]
    apply costA_none
    rw [hb]
    unfold hasA
    rw [List.any_append, Bool.or_eq_false_iff]
    refine ⟨(adjs_rise l last h k hk).1, ?_⟩
    have key : ∀ (l : List T_Adj) (last : Int) (k : Nat), adjsOk o last l = true → k < l.length → ∀ x ∈ l.drop (k + 1), (at' l k).To < x.To := by
      intro l
      induction l with
      | nil => intro _ k _ hk; simp at hk
      | cons y l ih =>
        intro last k h hk x hx
        simp only [adjsOk, Bool.and_eq_true, decide_eq_true_eq] at h
        cases k with
        | zero => exact adjs_above l y.To h.2 x (by simpa using hx)
        | succ k =>
          have : at' (y :: l) (k + 1) = at' l k := by simp [at']
          rw [this]
          exact ih y.To k h.2 (by simpa using hk) x (by simpa using hx)
    rw [List.any_eq_false]
    intro x hx
    have := key l last k h hk x hx
    simp only [decide_eq_true_eq]; omega
  · rw [if_neg hb]
    have key : ∀ (p q : List T_Adj) (x : T_Adj), x.To ≠ b → costA (p ++ x :: q) b = costA (p ++ q) b := by
      intro p q x hx
      induction p with
      | nil => simp [costA, hx]
      | cons y p ih => simp only [List.cons_append, costA, ih]
    rw [← key _ _ (at' l k) (fun e => hb e.symm), ← e]
theorem cost_set {L : List RecD} (U : Uniq L) {i k : Nat} (hi : i < L.length) (hk : k < (at' L i).Adjs.length) (a b : Int) :
    costF (L.set i (dropA (at' L i) k)) a b = if a = (at' L i).Origin ∧ b = (at' (at' L i).Adjs k).To then 0 else costF L a b := by
  have V := U.drop (k := k) hi
  have hm := U.may _ (at_mem hi)
  simp only [mayR, Bool.and_eq_true] at hm
  have hmi : dropA (at' L i) k ∈ L.set i (dropA (at' L i) k) := List.mem_iff_getElem.2 ⟨i, by simpa using hi, by simp⟩
  by_cases ha : a = (at' L i).Origin
  · subst ha
    have h1 := costF_mem V.ne hmi b
    have h2 := costF_mem U.ne (at_mem hi) b
    have h3 : (dropA (at' L i) k).Origin = (at' L i).Origin := rfl
    rw [h3] at h1
    rw [h1, h2]
    show costA ((at' L i).Adjs.take k ++ (at' L i).Adjs.drop (k + 1)) b = _
    rw [costA_drop hm.2 hk b]
    simp
  · rw [if_neg (fun e => ha e.1)]
    cases hh : L.any (isO a) with
    | false =>
      rw [costF_no hh, costF_no]
      rw [any_isO, set_map hi, ← any_isO, hh]
    | true =>
      obtain ⟨r, hr, e⟩ := List.any_eq_true.1 hh
      simp only [isO, decide_eq_true_eq] at e
      subst e
      obtain ⟨j, hj, rfl⟩ := List.mem_iff_getElem.1 hr
      have hne : i ≠ j := fun e => by subst e; rw [at'_get _ _ hi] at ha; exact ha rfl
      have hmj : L[j] ∈ L.set i (dropA (at' L i) k) := List.mem_iff_getElem.2 ⟨j, by simpa using hj, by rw [List.getElem_set_ne hne]⟩
      rw [costF_mem V.ne hmj, costF_mem U.ne hr]
def pairB (o g : Int) (x : T_Edge) : Bool := (decide (x.From = o) && decide (x.To = g)) || (decide (x.To = o) && decide (x.From = g))
theorem filter_flat {α β : Type} {p : β → Bool} {f : α → List β} : ∀ l : List α, (l.flatMap f).filter p = l.flatMap fun a => (f a).filter p
  | [] => rfl
  | a :: l => by simp only [List.flatMap_cons, List.filter_append, filter_flat l]
theorem edges_set {L : List RecD} (U : Uniq L) {i k : Nat} (hi : i < L.length) (hk : k < (at' L i).Adjs.length) :
    edgesF (L.set i (dropA (at' L i) k)) = (edgesF L).filter fun x => !pairB (at' L i).Origin (at' (at' L i).Adjs k).To x := by
  unfold edgesF
  rw [nodes_set hi, filter_flat]
  refine flatMap_congr' fun a _ => ?_
  rw [filter_flat]
  refine flatMap_congr' fun b _ => ?_
  have c1 := cost_set U hi hk a b
  have c2 := cost_set U hi hk b a
  unfold edgeF
  rw [c1, c2]
  by_cases h1 : a = (at' L i).Origin ∧ b = (at' (at' L i).Adjs k).To
  · rw [if_pos h1, if_neg (fun e => absurd e.1 (by omega))]
    split
    · simp [pairB, h1.1, h1.2]
    · rfl
  · rw [if_neg h1]
    by_cases h2 : b = (at' L i).Origin ∧ a = (at' (at' L i).Adjs k).To
    · rw [if_pos h2, if_neg (fun e => absurd e.2 (by omega))]
      split
      · simp [pairB, h2.1, h2.2]
      · rfl
    · rw [if_neg h2]
      split
      · have : pairB (at' L i).Origin (at' (at' L i).Adjs k).To ⟨a, b, costF L a b⟩ = false := by
          simp only [pairB, Bool.or_eq_false_iff, Bool.and_eq_false_iff, decide_eq_false_iff_not]
          exact ⟨by omega, by omega⟩
        simp [this]
      · rfl
def hasE (E : List T_Edge) (a b : Int) : Bool := E.any fun x => decide (x.From = a) && decide (x.To = b)
theorem has_filter {E : List T_Edge} {o g : Int} {x : T_Edge} (hx : x ∈ E) : hasE (E.filter fun x => !pairB o g x) x.From x.To = !pairB o g x := by
  cases hp : pairB o g x with
  | false =>
    unfold hasE
    rw [Bool.not_false, List.any_eq_true]
    exact ⟨x, List.mem_filter.2 ⟨hx, by simp [hp]⟩, by simp⟩
  | true =>
    unfold hasE
    rw [Bool.not_true, List.any_eq_false]
    intro e he
    obtain ⟨h1, h2⟩ := List.mem_filter.1 he
    simp only [Bool.and_eq_true, decide_eq_true_eq]
    rintro ⟨e1, e2⟩
    have : pairB o g e = pairB o g x := by unfold pairB; rw [e1, e2]
    rw [this, hp] at h2; cases h2
theorem nodup_len : ∀ (m : Nat) (l : List Int), l.Nodup → (∀ a ∈ l, 1 ≤ a ∧ a ≤ (m : Int)) → l.length ≤ m
  | 0, l, _, h => by
    cases l with
    | nil => simp
    | cons a l => have := h a (List.mem_cons_self ..); omega
  | m + 1, l, hn, h => by
    have h1 := nodup_len m (l.filter fun a => !decide (a = ((m + 1 : Nat) : Int))) (hn.sublist List.filter_sublist) (fun a ha => by
      obtain ⟨h1, h2⟩ := List.mem_filter.1 ha
      have := h a h1
      simp only [Bool.not_eq_true', decide_eq_false_iff_not] at h2
      omega)
    have key : ∀ (l : List Int) (x : Int), l.Nodup → l.length ≤ (l.filter fun a => !decide (a = x)).length + 1 := by
      intro l x
      induction l with
      | nil => intro _; simp
      | cons a l ih =>
        intro hn
        obtain ⟨h1, h2⟩ := List.nodup_cons.1 hn
        by_cases e : a = x
        · subst e
          have : l.filter (fun b => !decide (b = a)) = l := List.filter_eq_self.2 fun b hb => by
            simp only [Bool.not_eq_true', decide_eq_false_iff_not]; intro e; subst e; exact h1 hb
          rw [List.filter_cons, this]
          simp
        · have := ih h2
          rw [List.filter_cons]
          simp only [e, decide_false, Bool.not_false, if_true, List.length_cons]
          omega
    have := key l ((m + 1 : Nat) : Int) hn
    exact Nat.le_trans this (Nat.succ_le_succ h1)
theorem Uniq.len {L : List RecD} (U : Uniq L) : L.length ≤ 24 := by
  have := nodup_len 24 (L.map (·.Origin)) (List.pairwise_map.2 U.ne) (fun a ha => by
    obtain ⟨r, hr, rfl⟩ := List.mem_map.1 ha
    exact mayR_router (U.may r hr))
  simpa using this
theorem mod_idx (x : Int) {n : Nat} (h : 0 < n) (hb : n ≤ 1000) : ∃ w : Nat, w < n ∧ Int.tmod (wrapA .i64 (Int.tmod x (n : Int) + (n : Int))) (n : Int) = (w : Int) := by
  have h1 := Int.tmod_lt_of_pos x (show (0 : Int) < (n : Int) by omega)
  have h2 : -(n : Int) < Int.tmod x (n : Int) := by
    have := Int.lt_tmod_of_pos x (show (0 : Int) < (n : Int) by omega); exact this
  generalize Int.tmod x (n : Int) = y at h1 h2
  rw [wrap64 (n := y + (n : Int)) (by omega) (by omega)]
  have h3 : 0 ≤ y + (n : Int) := by omega
  have e := Int.tmod_eq_emod_of_nonneg (b := (n : Int)) h3
  have h4 := Int.emod_nonneg (y + (n : Int)) (show (n : Int) ≠ 0 by omega)
  have h5 := Int.emod_lt_of_pos (y + (n : Int)) (show (0 : Int) < (n : Int) by omega)
  rw [e]
  exact ⟨((y + (n : Int)) % (n : Int)).toNat, by omega, by omega⟩
end Go.Proofs.Ytaenmabpekbjoaa.Dm
