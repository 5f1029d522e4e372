/- Routers and links, and their graph, without the program. -/
import Derived.Test.YtmppehipfpkepaaNGA
set_option linter.unusedSimpArgs false
set_option linter.unusedVariables false
namespace Go.Proofs.Ytmppehipfpkepaa.Gr
open Go.Dm Go.Proofs.Ytmppehipfpkepaa.Dm
def isI (n : Int) (a : Int) : Bool := decide (a = n)
def goR : List Int → List Int → Bool
  | _, [] => true
  | done, n :: l => routerB n && !done.any (isI n) && goR (done ++ [n]) l
def pr (a b : Int) (x : T_Link) : Bool := (decide (x.A = a) && decide (x.B = b)) || (decide (x.A = b) && decide (x.B = a))
def linkOk (R : List Int) (x : T_Link) : Bool := !decide (x.A = x.B) && R.any (isI x.A) && R.any (isI x.B) && costB x.Cost
def goL (R : List Int) : List T_Link → List T_Link → Int
  | _, [] => 0
  | done, x :: l => if linkOk R x = false then 2 else if done.any (pr x.A x.B) then 7 else goL R (done ++ [x]) l
def errL (R : List Int) (l : List T_Link) : Int := if goR [] R = false then 2 else if 48 < l.length then 3 else goL R [] l
def linkC : List T_Link → Int → Int → Int
  | [], _, _ => 0
  | x :: l, a, b => if pr a b x = true then x.Cost else linkC l a b
def isR (R : List Int) : List Bool := (List.range 25).map fun (i : Nat) => R.any (isI (i : Int))
def sL (l : List T_Link) : List Int := (List.range 625).map fun i => linkC l ((i / 25 : Nat) : Int) ((i % 25 : Nat) : Int)
theorem isR_len (R : List Int) : (isR R).length = 25 := by simp [isR]
theorem sL_len (l : List T_Link) : (sL l).length = 625 := by simp [sL]
theorem isR_get (R : List Int) {a : Nat} (ha : a < 25) : ((isR R)[a]?).getD false = R.any (isI (a : Int)) := by simp [isR, ha]
theorem sL_get (l : List T_Link) {a b : Nat} (ha : a < 25) (hb : b < 25) : ((sL l)[a * 25 + b]?).getD 0 = linkC l (a : Int) (b : Int) := by
  have h : a * 25 + b < 625 := by omega
  have e1 : (a * 25 + b) / 25 = a := by omega
  have e2 : (a * 25 + b) % 25 = b := by omega
  unfold sL
  rw [List.getElem?_map, List.getElem?_range h]
  simp only [Option.map_some, Option.getD_some, e1, e2]
theorem isR_step {done : List Int} {n : Int} (h : routerB n = true) : (isR done).set n.toNat true = isR (done ++ [n]) := by
  simp only [routerB, Bool.and_eq_true, decide_eq_true_eq] at h
  unfold isR
  apply map_range_set
  · rw [List.any_append]
    have : isI ((n.toNat : Nat) : Int) n = true := by simp only [isI, decide_eq_true_eq]; omega
    simp only [List.any_cons, this, Bool.true_or, Bool.or_true]
  · intro j _ hne
    rw [List.any_append]
    have : isI (j : Int) n = false := by simp only [isI, decide_eq_false_iff_not]; omega
    simp [this]
theorem pr_comm (a b : Int) (x : T_Link) : pr a b x = pr b a x := by unfold pr; rw [Bool.or_comm]
theorem linkC_comm : ∀ (l : List T_Link) (a b : Int), linkC l a b = linkC l b a
  | [], _, _ => rfl
  | x :: l, a, b => by rw [linkC, linkC, pr_comm a b, linkC_comm l a b]
theorem linkC_app : ∀ (l : List T_Link) (x : T_Link) (a b : Int), l.any (pr a b) = false → linkC (l ++ [x]) a b = if pr a b x = true then x.Cost else 0
  | [], _, _, _, _ => rfl
  | y :: l, x, a, b, h => by
    simp only [List.any_cons, Bool.or_eq_false_iff] at h
    rw [List.cons_append, linkC, if_neg (by simp [h.1])]
    exact linkC_app l x a b h.2
theorem linkC_app' : ∀ (l : List T_Link) (x : T_Link) (a b : Int), pr a b x = false → linkC (l ++ [x]) a b = linkC l a b
  | [], x, a, b, h => by simp [linkC, h]
  | y :: l, x, a, b, h => by rw [List.cons_append, linkC, linkC, linkC_app' l x a b h]
theorem pr_same {a b : Int} {x : T_Link} (h : pr a b x = true) (y : T_Link) : pr x.A x.B y = pr a b y := by
  simp only [pr, Bool.or_eq_true, Bool.and_eq_true, decide_eq_true_eq] at h
  rcases h with ⟨rfl, rfl⟩ | ⟨rfl, rfl⟩
  · rfl
  · exact pr_comm _ _ _
theorem linkC_last {l : List T_Link} {x : T_Link} (h : l.any (pr x.A x.B) = false) (a b : Int) : linkC (l ++ [x]) a b = if pr a b x = true then x.Cost else linkC l a b := by
  cases hp : pr a b x with
  | false => rw [linkC_app' l x a b hp]; rfl
  | true =>
    have : l.any (pr a b) = false := by
      rw [← h]; congr 1; funext y; exact (pr_same hp y).symm
    rw [linkC_app l x a b this, hp]
    simp
theorem sL_step {done : List T_Link} {x : T_Link} (ha : routerB x.A = true) (hb : routerB x.B = true) (h : done.any (pr x.A x.B) = false) :
    ((sL done).set (x.A.toNat * 25 + x.B.toNat) x.Cost).set (x.B.toNat * 25 + x.A.toNat) x.Cost = sL (done ++ [x]) := by
  simp only [routerB, Bool.and_eq_true, decide_eq_true_eq] at ha hb
  have key : ∀ j, j < 625 → linkC (done ++ [x]) ((j / 25 : Nat) : Int) ((j % 25 : Nat) : Int) = if j = x.A.toNat * 25 + x.B.toNat ∨ j = x.B.toNat * 25 + x.A.toNat then x.Cost else linkC done ((j / 25 : Nat) : Int) ((j % 25 : Nat) : Int) := by
    intro j hj
    rw [linkC_last h]
    have : pr ((j / 25 : Nat) : Int) ((j % 25 : Nat) : Int) x = true ↔ (j = x.A.toNat * 25 + x.B.toNat ∨ j = x.B.toNat * 25 + x.A.toNat) := by
      simp only [pr, Bool.or_eq_true, Bool.and_eq_true, decide_eq_true_eq]
      omega
    by_cases hc : j = x.A.toNat * 25 + x.B.toNat ∨ j = x.B.toNat * 25 + x.A.toNat
    · rw [if_pos hc, if_pos (this.2 hc)]
    · rw [if_neg hc, if_neg (fun e => hc (this.1 e))]
  unfold sL
  apply List.ext_getElem?
  intro j
  rw [List.getElem?_set, List.getElem?_set]
  by_cases hj : j < 625
  · have hk := key j hj
    simp only [List.length_set, List.length_map, List.length_range, List.getElem?_map, List.getElem?_range hj, Option.map_some, hk]
    by_cases h1 : x.B.toNat * 25 + x.A.toNat = j
    · rw [if_pos h1, if_pos (by omega), if_pos (.inr h1.symm)]
    · rw [if_neg h1]
      by_cases h2 : x.A.toNat * 25 + x.B.toNat = j
      · rw [if_pos h2, if_pos (by omega), if_pos (.inl h2.symm)]
      · rw [if_neg h2, if_neg (by omega)]
  · rw [if_neg (by omega), if_neg (by omega)]
    simp [hj]
/-! ### what is well -/
theorem goR_ok : ∀ (l done : List Int), goR done l = true → ∀ n ∈ l, routerB n = true
  | [], _, _, _, h => by cases h
  | m :: l, done, h, n, hn => by
    simp only [goR, Bool.and_eq_true] at h
    rcases List.mem_cons.1 hn with rfl | hn
    · exact h.1.1
    · exact goR_ok l _ h.2 n hn
theorem any_router {R : List Int} (h : ∀ n ∈ R, routerB n = true) {n : Int} (hn : R.any (isI n) = true) : routerB n = true := by
  obtain ⟨m, hm, e⟩ := List.any_eq_true.1 hn
  simp only [isI, decide_eq_true_eq] at e
  subst e; exact h m hm
structure LinksOk (R : List Int) (l : List T_Link) : Prop where
  ok : ∀ x ∈ l, linkOk R x = true
  ne : l.Pairwise fun x y => pr y.A y.B x = false
theorem goL_ok {R : List Int} : ∀ (l done : List T_Link), goL R done l = 0 → (∀ x ∈ l, linkOk R x = true ∧ done.any (pr x.A x.B) = false) ∧ l.Pairwise fun x y => pr y.A y.B x = false
  | [], _, _ => ⟨by simp, .nil⟩
  | x :: l, done, h => by
    unfold goL at h
    split at h
    · cases h
    · rename_i h1
      split at h
      · cases h
      · rename_i h2
        obtain ⟨a, b⟩ := goL_ok l _ h
        refine ⟨?_, List.pairwise_cons.2 ⟨?_, b⟩⟩
        · intro y hy
          rcases List.mem_cons.1 hy with rfl | hy
          · exact ⟨by simpa using h1, by simpa using h2⟩
          · obtain ⟨c, d⟩ := a y hy
            rw [List.any_append, Bool.or_eq_false_iff] at d
            exact ⟨c, d.1⟩
        · intro y hy
          obtain ⟨_, d⟩ := a y hy
          rw [List.any_append, Bool.or_eq_false_iff] at d
          simpa using d.2
def rowI (l : List T_Link) (a b : Int) : List T_Edge := (l.filter (pr a b)).map fun x => ⟨a, b, x.Cost⟩
theorem filter_one {a b : Int} : ∀ {l : List T_Link}, l.Pairwise (fun x y => pr y.A y.B x = false) → rowI l a b = if l.any (pr a b) = true then [⟨a, b, linkC l a b⟩] else []
  | [], _ => rfl
  | x :: l, h => by
    obtain ⟨h1, h2⟩ := List.pairwise_cons.1 h
    have ih := filter_one (a := a) (b := b) h2
    unfold rowI at ih ⊢
    cases hp : pr a b x with
    | false =>
      have e1 : (x :: l).filter (pr a b) = l.filter (pr a b) := by rw [List.filter_cons, hp]; rfl
      have e2 : linkC (x :: l) a b = linkC l a b := by rw [linkC, hp]; rfl
      have e3 : (x :: l).any (pr a b) = l.any (pr a b) := by rw [List.any_cons, hp, Bool.false_or]
      rw [e1, e2, e3, ih]
    | true =>
      have hn : l.any (pr a b) = false := by
        rw [List.any_eq_false]
        intro y hy
        have := h1 y hy
        intro hpy
        rw [← pr_same hpy x] at hp
        rw [hp] at this; cases this
      have e1 : (x :: l).filter (pr a b) = x :: l.filter (pr a b) := by rw [List.filter_cons, hp]; rfl
      have e2 : linkC (x :: l) a b = x.Cost := by rw [linkC, hp]; rfl
      have e3 : (x :: l).any (pr a b) = true := by rw [List.any_cons, hp, Bool.true_or]
      rw [e1, e2, e3, List.map_cons, ih, hn]
      rfl
theorem linkC_pos {R : List Int} {l : List T_Link} (h : ∀ x ∈ l, linkOk R x = true) (a b : Int) : 0 < linkC l a b ↔ l.any (pr a b) = true := by
  induction l with
  | nil => simp [linkC]
  | cons x l ih =>
    have hx := h x (List.mem_cons_self ..)
    have ih := ih fun y hy => h y (List.mem_cons_of_mem _ hy)
    rw [linkC, List.any_cons]
    cases hp : pr a b x with
    | false => simpa [hp] using ih
    | true =>
      simp only [linkOk, costB, Bool.and_eq_true, decide_eq_true_eq] at hx
      simp; omega
def rowM (l : List T_Link) (a m : Nat) : List T_Edge := (List.range m).flatMap fun (b : Nat) => rowI l (a : Int) (b : Int)
def edgesO (R : List Int) (l : List T_Link) (n : Nat) : List T_Edge := (List.range n).flatMap fun (a : Nat) => if R.any (isI (a : Int)) then rowM l a 25 else []
def nodesO (R : List Int) (n : Nat) : List Int := ((List.range n).filter fun (i : Nat) => R.any (isI (i : Int))).map fun (i : Nat) => (i : Int)
theorem nodesA_R (R : List Int) : nodesA (isR R) 25 = nodesO R 25 := by
  unfold nodesA nodesO
  rw [filter_congr' fun i hi => show iS (isR R) i = R.any (isI (i : Int)) from isR_get R (List.mem_range.1 hi)]
theorem edgesA_L {R : List Int} {l : List T_Link} (h : LinksOk R l) : edgesA (sL l) (isR R) 25 = edgesO R l 25 := by
  unfold edgesA edgesO
  refine flatMap_congr' fun a ha => ?_
  have ha' := List.mem_range.1 ha
  have e1 : iS (isR R) a = R.any (isI (a : Int)) := isR_get R ha'
  rw [e1]
  have : rowA (sL l) a 25 = rowM l a 25 := by
    unfold rowA rowM
    refine flatMap_congr' fun b hb => ?_
    have hb' := List.mem_range.1 hb
    have c1 : cS (sL l) a b = linkC l (a : Int) (b : Int) := sL_get l ha' hb'
    have c2 : cS (sL l) b a = linkC l (b : Int) (a : Int) := sL_get l hb' ha'
    unfold edgeN
    rw [c1, c2, linkC_comm l (b : Int) (a : Int), filter_one h.ne]
    by_cases hc : l.any (pr (a : Int) (b : Int)) = true
    · have := (linkC_pos h.ok (a : Int) (b : Int)).2 hc
      rw [if_pos hc, if_pos ⟨this, this⟩]
    · rw [if_neg hc, if_neg (fun e => hc ((linkC_pos h.ok _ _).1 e.1))]
  rw [this]
def nO (R : List Int) (l : List T_Link) : List Int := if errL R l = 0 then nodesO R 25 else []
def eO (R : List Int) (l : List T_Link) : List T_Edge := if errL R l = 0 then edgesO R l 25 else []
theorem errL_len {R : List Int} {l : List T_Link} (h : errL R l = 0) : goR [] R = true ∧ l.length ≤ 48 ∧ goL R [] l = 0 := by
  unfold errL at h
  split at h
  · cases h
  · rename_i h1
    split at h
    · cases h
    · exact ⟨by simpa using h1, by omega, h⟩
theorem goL_links {R : List Int} {l : List T_Link} (h : goL R [] l = 0) : LinksOk R l := ⟨fun x hx => ((goL_ok l [] h).1 x hx).1, (goL_ok l [] h).2⟩
end Go.Proofs.Ytmppehipfpkepaa.Gr
