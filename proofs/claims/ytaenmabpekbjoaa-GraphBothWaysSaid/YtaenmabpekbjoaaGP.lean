/- Records and their graph, without the program. -/
import Derived.Test.YtaenmabpekbjoaaG2
set_option linter.unusedSimpArgs false
set_option linter.unusedVariables false
namespace Go.Proofs.Ytaenmabpekbjoaa.Dm
open Go.Dm

def isO (n : Int) (r : RecD) : Bool := decide (r.Origin = n)
def goU : List RecD → List RecD → Bool
  | _, [] => true
  | done, r :: l => mayR r && !done.any (isO r.Origin) && goU (done ++ [r]) l
def uniqF (l : List RecD) : Bool := goU [] l
def costA : List T_Adj → Int → Int
  | [], _ => 0
  | x :: xs, b => if x.To = b then x.Cost else costA xs b
def hasA (l : List T_Adj) (b : Int) : Bool := l.any fun x => decide (x.To = b)
def costF : List RecD → Int → Int → Int
  | [], _, _ => 0
  | r :: l, a, b => if r.Origin = a ∧ hasA r.Adjs b = true then costA r.Adjs b else costF l a b
def sOf (l : List RecD) : List Int := (List.range 625).map fun i => costF l ((i / 25 : Nat) : Int) ((i % 25 : Nat) : Int)
def isOf (l : List RecD) : List Bool := (List.range 25).map fun (i : Nat) => l.any (isO (i : Int))
def takeA (r : RecD) (k : Nat) : RecD := { r with Adjs := r.Adjs.take k }

theorem sOf_len (l : List RecD) : (sOf l).length = 625 := by simp [sOf]
theorem isOf_len (l : List RecD) : (isOf l).length = 25 := by simp [isOf]
theorem sOf_get (l : List RecD) {a b : Nat} (ha : a < 25) (hb : b < 25) : ((sOf l)[a * 25 + b]?).getD 0 = costF l (a : Int) (b : Int) := by
  have h : a * 25 + b < 625 := by omega
  have e1 : (a * 25 + b) / 25 = a := by omega
  have e2 : (a * 25 + b) % 25 = b := by omega
  unfold sOf
  rw [List.getElem?_map, List.getElem?_range h]
  simp only [Option.map_some, Option.getD_some, e1, e2]
theorem isOf_get (l : List RecD) {a : Nat} (ha : a < 25) : ((isOf l)[a]?).getD false = l.any (isO (a : Int)) := by simp [isOf, ha]
theorem costF_app : ∀ (l m : List RecD) (a b : Int), l.any (isO a) = false → costF (l ++ m) a b = costF m a b
  | [], _, _, _, _ => rfl
  | r :: l, m, a, b, h => by
    simp only [List.any_cons, Bool.or_eq_false_iff, isO, decide_eq_false_iff_not] at h
    simp only [List.cons_append, costF]
    rw [if_neg (fun e => h.1 e.1)]
    exact costF_app l m a b h.2
theorem costF_app' : ∀ (l : List RecD) (r : RecD) (a b : Int), r.Origin ≠ a → costF (l ++ [r]) a b = costF l a b
  | [], r, a, b, h => by simp [costF, h]
  | x :: l, r, a, b, h => by
    simp only [List.cons_append, costF]
    split
    · rfl
    · exact costF_app' l r a b h
theorem costF_one (r : RecD) (b : Int) : costF [r] r.Origin b = costA r.Adjs b := by
  unfold costF
  by_cases h : hasA r.Adjs b = true
  · rw [if_pos ⟨rfl, h⟩]
  · rw [if_neg (fun e => h e.2)]
    have key : ∀ l : List T_Adj, ¬ hasA l b = true → costA l b = 0 := by
      intro l
      induction l with
      | nil => intro _; rfl
      | cons x l ih =>
        intro h
        simp only [hasA, List.any_cons, Bool.or_eq_true, decide_eq_true_eq, not_or] at h
        rw [costA, if_neg h.1]
        exact ih h.2
    rw [key _ h]; rfl
theorem costF_last {l : List RecD} {r : RecD} (h : l.any (isO r.Origin) = false) (a b : Int) : costF (l ++ [r]) a b = if r.Origin = a then costA r.Adjs b else costF l a b := by
  by_cases e : r.Origin = a
  · subst e
    rw [if_pos rfl, costF_app l [r] _ b h, costF_one]
  · rw [if_neg e, costF_app' l r a b e]
theorem costA_app (l : List T_Adj) (x : T_Adj) (b : Int) (h : hasA l x.To = false) : costA (l ++ [x]) b = if x.To = b then x.Cost else costA l b := by
  induction l with
  | nil => simp [costA]
  | cons y l ih =>
    simp only [hasA, List.any_cons, Bool.or_eq_false_iff, decide_eq_false_iff_not] at h
    simp only [List.cons_append, costA]
    by_cases e : y.To = b
    · rw [if_pos e, if_pos e, if_neg (fun e2 => h.1 (e.trans e2.symm))]
    · rw [if_neg e, if_neg e]
      exact ih h.2
theorem map_range_set {α : Type} {f g : Nat → α} {n i : Nat} {v : α} (hi : g i = v) (h : ∀ j, j < n → j ≠ i → g j = f j) : ((List.range n).map f).set i v = (List.range n).map g := by
  apply List.ext_getElem?
  intro j
  rw [List.getElem?_set]
  by_cases e : i = j
  · subst e
    rw [if_pos rfl]
    by_cases hl : i < n
    · simp [hl, hi]
    · simp [hl]
  · rw [if_neg e]
    by_cases hl : j < n
    · simp [hl, h j hl (fun e' => e e'.symm)]
    · simp [hl]
/-- one neighbour more is told -/
theorem sOf_step {done : List RecD} {r : RecD} {k : Nat} (hd : done.any (isO r.Origin) = false) (hk : k < r.Adjs.length) (hr : routerB r.Origin = true) (ht : routerB (at' r.Adjs k).To = true)
    (hn : hasA (r.Adjs.take k) (at' r.Adjs k).To = false) :
    (sOf (done ++ [takeA r k])).set (r.Origin.toNat * 25 + (at' r.Adjs k).To.toNat) (at' r.Adjs k).Cost = sOf (done ++ [takeA r (k + 1)]) := by
  simp only [routerB, Bool.and_eq_true, decide_eq_true_eq] at hr ht
  have c1 : ∀ a b, costF (done ++ [takeA r k]) a b = if r.Origin = a then costA (r.Adjs.take k) b else costF done a b := fun a b => costF_last (r := takeA r k) hd a b
  have c2 : ∀ a b, costF (done ++ [takeA r (k + 1)]) a b = if r.Origin = a then (if (at' r.Adjs k).To = b then (at' r.Adjs k).Cost else costA (r.Adjs.take k) b) else costF done a b := by
    intro a b
    rw [costF_last (r := takeA r (k + 1)) hd a b]
    show (if r.Origin = a then costA (r.Adjs.take (k + 1)) b else _) = _
    rw [take_at hk, costA_app _ _ _ hn]
  unfold sOf
  apply map_range_set
  · rw [c2, if_pos (by omega), if_pos (by omega)]
  · intro j hj hne
    rw [c1, c2]
    by_cases e : r.Origin = ((j / 25 : Nat) : Int)
    · rw [if_pos e, if_pos e, if_neg]
      intro e2
      apply hne
      omega
    · rw [if_neg e, if_neg e]
theorem sOf_zero {done : List RecD} {r : RecD} : sOf (done ++ [takeA r 0]) = sOf done := by
  unfold sOf
  apply List.map_congr_left
  intro i _
  have : ∀ (l : List RecD) (a b : Int), costF (l ++ [takeA r 0]) a b = costF l a b := by
    intro l a b
    induction l with
    | nil => simp [costF, takeA, hasA]
    | cons x l ih => simp only [List.cons_append, costF, ih]
  exact this _ _ _
theorem takeA_all (r : RecD) : takeA r r.Adjs.length = r := by
  cases r; simp [takeA]
theorem isOf_step {done : List RecD} {r : RecD} (hr : routerB r.Origin = true) : (isOf done).set r.Origin.toNat true = isOf (done ++ [r]) := by
  simp only [routerB, Bool.and_eq_true, decide_eq_true_eq] at hr
  unfold isOf
  apply map_range_set
  · rw [List.any_append]
    have : isO ((r.Origin.toNat : Nat) : Int) r = true := by simp only [isO, decide_eq_true_eq]; omega
    simp only [List.any_cons, this, Bool.true_or, Bool.or_true]
  · intro j _ hne
    rw [List.any_append]
    have : isO (j : Int) r = false := by simp only [isO, decide_eq_false_iff_not]; omega
    simp [this]
/-- neighbours rise -/
theorem adjs_rise {o : Int} : ∀ (l : List T_Adj) (last : Int), adjsOk o last l = true → ∀ k, k < l.length → hasA (l.take k) (at' l k).To = false ∧ routerB (at' l k).To = true ∧ last < (at' l k).To
  | [], _, _, k, hk => by simp at hk
  | x :: l, last, h, k, hk => by
    simp only [adjsOk, Bool.and_eq_true, decide_eq_true_eq, Bool.not_eq_true'] at h
    obtain ⟨⟨⟨⟨h1, _⟩, _⟩, h4⟩, h5⟩ := h
    cases k with
    | zero => exact ⟨rfl, h1, h4⟩
    | succ k =>
      have hk' : k < l.length := by simpa using hk
      obtain ⟨a, b, c⟩ := adjs_rise l x.To h5 k hk'
      have e : at' (x :: l) (k + 1) = at' l k := by simp [at']
      rw [e]
      refine ⟨?_, b, by omega⟩
      simp only [List.take_succ_cons, hasA, List.any_cons, Bool.or_eq_false_iff, decide_eq_false_iff_not]
      exact ⟨by omega, a⟩
theorem adjs_cost {o : Int} : ∀ (l : List T_Adj) (last : Int), adjsOk o last l = true → ∀ x ∈ l, 1 ≤ x.Cost ∧ routerB x.To = true ∧ x.To ≠ o
  | [], _, _, _, h => by cases h
  | y :: l, last, h, x, hx => by
    simp only [adjsOk, costB, Bool.and_eq_true, decide_eq_true_eq, Bool.not_eq_true', decide_eq_false_iff_not] at h
    obtain ⟨⟨⟨⟨h1, h2⟩, h3, _⟩, h4⟩, h5⟩ := h
    rcases List.mem_cons.1 hx with rfl | hx
    · exact ⟨h3, h1, h2⟩
    · exact adjs_cost l y.To h5 x hx

/-! ### the graph of records -/
def nodesF (l : List RecD) : List Int := ((List.range 25).filter fun (i : Nat) => l.any (isO (i : Int))).map fun (i : Nat) => (i : Int)
def edgeF (c : Int → Int → Int) (a b : Int) : List T_Edge := if 0 < c a b ∧ 0 < c b a then [⟨a, b, c a b⟩] else []
def edgesF (l : List RecD) : List T_Edge := (nodesF l).flatMap fun a => (nodesF l).flatMap fun b => edgeF (costF l) a b
theorem costF_origin : ∀ (l : List RecD) (a b : Int), 0 < costF l a b → l.any (isO a) = true
  | [], _, _, h => by simp [costF] at h
  | r :: l, a, b, h => by
    unfold costF at h
    split at h
    · rename_i e; simp [isO, e.1]
    · rw [List.any_cons, costF_origin l a b h, Bool.or_true]
theorem flatMap_filter {α β : Type} {p : α → Bool} {f : α → List β} : ∀ {l : List α}, (∀ a ∈ l, p a = false → f a = []) → (l.filter p).flatMap f = l.flatMap f
  | [], _ => rfl
  | a :: l, h => by
    have ih := flatMap_filter (l := l) fun b hb => h b (List.mem_cons_of_mem _ hb)
    cases hp : p a with
    | true => simp [hp, ih]
    | false => simp [hp, ih, h a (List.mem_cons_self ..) hp]
/-- over all numbers -/
theorem edges_all (l : List RecD) : edgesF l = (List.range 25).flatMap fun (a : Nat) => if l.any (isO (a : Int)) then (List.range 25).flatMap fun (b : Nat) => edgeF (costF l) (a : Int) (b : Int) else [] := by
  have key : ∀ a : Int, (nodesF l).flatMap (fun b => edgeF (costF l) a b) = (List.range 25).flatMap fun (b : Nat) => edgeF (costF l) a (b : Int) := by
    intro a
    unfold nodesF
    rw [List.flatMap_map]
    refine flatMap_filter fun b _ hb => ?_
    unfold edgeF
    rw [if_neg]
    rintro ⟨_, h⟩
    rw [costF_origin l _ _ h] at hb; cases hb
  unfold edgesF
  simp only [key]
  unfold nodesF
  rw [List.flatMap_map]
  have h1 : ((List.range 25).filter fun (i : Nat) => l.any (isO (i : Int))).flatMap (fun (a : Nat) => if l.any (isO (a : Int)) then (List.range 25).flatMap fun (b : Nat) => edgeF (costF l) (a : Int) (b : Int) else []) = _ := flatMap_filter (fun a _ h => by rw [if_neg (by rw [h]; exact Bool.false_ne_true)])
  rw [← h1]
  have cong : ∀ (m : List Nat) (f g : Nat → List T_Edge), (∀ a ∈ m, f a = g a) → m.flatMap f = m.flatMap g := by
    intro m f g h
    induction m with
    | nil => rfl
    | cons a m ih => rw [List.flatMap_cons, List.flatMap_cons, h a (List.mem_cons_self ..), ih fun b hb => h b (List.mem_cons_of_mem _ hb)]
  apply cong
  intro a ha
  have := (List.mem_filter.1 ha).2
  rw [if_pos this]
end Go.Proofs.Ytaenmabpekbjoaa.Dm
