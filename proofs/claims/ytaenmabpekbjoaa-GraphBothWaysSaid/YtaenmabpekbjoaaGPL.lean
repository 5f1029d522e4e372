/- Who can be come to, without the program: by going on from each one that is new, and by rounds. -/
import Derived.Test.YtaenmabpekbjoaaGCP
set_option linter.unusedSimpArgs false
set_option linter.unusedVariables false
namespace Go.Proofs.Ytaenmabpekbjoaa.Dm
open Go.Dm

/-- who can be come to -/
inductive Rch (E : List T_Edge) (n : Nat) : Nat → Prop
  | refl : Rch E n n
  | step (x : T_Edge) (hx : x ∈ E) (h : Rch E n x.From.toNat) : Rch E n x.To.toNat
theorem Rch.trans {E : List T_Edge} {a b c : Nat} (h : Rch E a b) (g : Rch E b c) : Rch E a c := by
  induction g with
  | refl => exact h
  | step x hx _ ih => exact .step x hx ih
/-- all ends are below 25 -/
def InR (E : List T_Edge) : Prop := ∀ x ∈ E, (0 ≤ x.From ∧ x.From < 25) ∧ 0 ≤ x.To ∧ x.To < 25
def LeM (M R : List Bool) : Prop := ∀ k, iS M k = true → iS R k = true
theorem LeM.refl (M : List Bool) : LeM M M := fun _ h => h
theorem LeM.trans {A B C : List Bool} (h : LeM A B) (g : LeM B C) : LeM A C := fun k e => g k (h k e)
theorem iS_set (M : List Bool) (n k : Nat) : iS (M.set n true) k = (iS M k || (decide (k = n) && decide (n < M.length))) := by
  unfold iS
  rw [List.getElem?_set]
  by_cases e : n = k
  · subst e
    by_cases h : n < M.length <;> simp [h]
  · rw [if_neg e]
    simp [Ne.symm e]
theorem LeM.set (M : List Bool) (n : Nat) : LeM M (M.set n true) := fun k h => by rw [iS_set, h]; rfl
def cF (M : List Bool) : Nat := M.countP fun b => !b
theorem cF_le {A B : List Bool} (hl : A.length = B.length) (h : LeM A B) : cF B ≤ cF A := by
  induction A generalizing B with
  | nil =>
    cases B with
    | nil => exact Nat.le_refl _
    | cons b B => simp at hl
  | cons a A ih =>
    cases B with
    | nil => simp at hl
    | cons b B =>
      have h0 : a = true → b = true := fun e => by have := h 0 (by simp [iS, e]); simpa [iS] using this
      have ht : LeM A B := fun k e => by have := h (k + 1) (by simpa [iS] using e); simpa [iS] using this
      have := ih (by simpa using hl) ht
      unfold cF at this ⊢
      rw [List.countP_cons, List.countP_cons]
      cases a <;> cases b <;> simp at h0 ⊢ <;> omega
theorem cF_lt {A B : List Bool} (hl : A.length = B.length) (h : LeM A B) {k : Nat} (ha : iS A k = false) (hb : iS B k = true) : cF B < cF A := by
  induction A generalizing B k with
  | nil =>
    cases B with
    | nil => simp [iS] at hb
    | cons b B => simp at hl
  | cons a A ih =>
    cases B with
    | nil => simp at hl
    | cons b B =>
      have hl' : A.length = B.length := by simpa using hl
      have h0 : a = true → b = true := fun e => by have := h 0 (by simp [iS, e]); simpa [iS] using this
      have ht : LeM A B := fun k e => by have := h (k + 1) (by simpa [iS] using e); simpa [iS] using this
      cases k with
      | zero =>
        have := cF_le hl' ht
        have a0 : a = false := by simpa [iS] using ha
        have b0 : b = true := by simpa [iS] using hb
        subst a0; subst b0
        unfold cF at this ⊢
        rw [List.countP_cons, List.countP_cons]
        simp; omega
      | succ k =>
        have := ih hl' ht (k := k) (by simpa [iS] using ha) (by simpa [iS] using hb)
        unfold cF at this ⊢
        rw [List.countP_cons, List.countP_cons]
        cases a <;> cases b <;> simp at h0 ⊢ <;> omega
theorem iS_ext {A B : List Bool} (hl : A.length = B.length) (h : ∀ k, k < A.length → (iS A k = true ↔ iS B k = true)) : A = B := by
  apply List.ext_getElem hl
  intro k h1 h2
  have := h k h1
  simp only [iS, List.getElem?_eq_getElem h1, List.getElem?_eq_getElem h2, Option.getD_some] at this
  exact Bool.eq_iff_iff.2 this
theorem iS_lt {M : List Bool} {k : Nat} (h : iS M k = true) : k < M.length := by
  rcases Nat.lt_or_ge k M.length with h1 | h1
  · exact h1
  · simp [iS, List.getElem?_eq_none h1] at h

/-! ### going on from each one that is new -/
def stepD (go : List Bool → Nat → List Bool) (n : Nat) (M : List Bool) (x : T_Edge) : List Bool := if x.From = (n : Int) ∧ iS M x.To.toNat = false then go M x.To.toNat else M
def dfs (E : List T_Edge) : Nat → List Bool → Nat → List Bool
  | 0, M, _ => M
  | f + 1, M, n => E.foldl (stepD (dfs E f) n) (M.set n true)
theorem dfs_len (E : List T_Edge) : ∀ (f : Nat) (M : List Bool) (n : Nat), (dfs E f M n).length = M.length
  | 0, _, _ => rfl
  | f + 1, M, n => by
    have key : ∀ (l : List T_Edge) (M : List Bool), (l.foldl (stepD (dfs E f) n) M).length = M.length := by
      intro l
      induction l with
      | nil => intro _; rfl
      | cons x l ih =>
        intro M
        rw [List.foldl_cons, ih]
        unfold stepD
        split
        · exact dfs_len E f M _
        · rfl
    rw [dfs, key, List.length_set]
theorem dfs_le (E : List T_Edge) : ∀ (f : Nat) (M : List Bool) (n : Nat), LeM M (dfs E f M n)
  | 0, M, _ => .refl M
  | f + 1, M, n => by
    have key : ∀ (l : List T_Edge) (M : List Bool), LeM M (l.foldl (stepD (dfs E f) n) M) := by
      intro l
      induction l with
      | nil => intro M; exact .refl M
      | cons x l ih =>
        intro M
        rw [List.foldl_cons]
        refine LeM.trans ?_ (ih _)
        unfold stepD
        split
        · exact dfs_le E f M _
        · exact .refl M
    rw [dfs]
    exact (LeM.set M n).trans (key E _)
theorem foldD_len (E l : List T_Edge) (f n : Nat) : ∀ M : List Bool, (l.foldl (stepD (dfs E f) n) M).length = M.length := by
  induction l with
  | nil => intro _; rfl
  | cons x l ih =>
    intro M
    rw [List.foldl_cons, ih]
    unfold stepD
    split
    · exact dfs_len E f M _
    · rfl
theorem foldD_le (E l : List T_Edge) (f n : Nat) : ∀ M : List Bool, LeM M (l.foldl (stepD (dfs E f) n) M) := by
  induction l with
  | nil => intro M; exact .refl M
  | cons x l ih =>
    intro M
    rw [List.foldl_cons]
    refine LeM.trans ?_ (ih _)
    unfold stepD
    split
    · exact dfs_le E f M _
    · exact .refl M
structure DSpec (E : List T_Edge) (M R : List Bool) (n : Nat) : Prop where
  me : iS R n = true
  only : ∀ k, iS R k = true → iS M k = true ∨ Rch E n k
  on : ∀ x ∈ E, iS R x.From.toNat = true → iS M x.From.toNat = false → iS R x.To.toNat = true
theorem cF_set {M : List Bool} {n f : Nat} (hn : n < M.length) (h : iS M n = false) (hc : cF M ≤ f + 1) : cF (M.set n true) ≤ f := by
  have := cF_lt (A := M) (B := M.set n true) (by simp) (LeM.set M n) (k := n) h (by rw [iS_set]; simp [hn])
  omega
theorem dfs_spec {E : List T_Edge} (hE : InR E) : ∀ (f : Nat) (M : List Bool) (n : Nat), M.length = 25 → n < 25 → iS M n = false → cF M ≤ f → DSpec E M (dfs E f M n) n := by
  intro f
  induction f with
  | zero =>
    intro M n hl hn hm hc
    have := cF_lt (A := M) (B := M.set n true) (by simp) (LeM.set M n) (k := n) hm (by rw [iS_set]; simp [hl, hn])
    omega
  | succ f ih =>
    intro M n hl hn hm hc
    have c1 : cF (M.set n true) ≤ f := cF_set (by omega) hm hc
    have key : ∀ (l done : List T_Edge) (M' : List Bool), E = done ++ l → M'.length = 25 → cF M' ≤ f → LeM (M.set n true) M' →
        (∀ k, iS M' k = true → iS M k = true ∨ Rch E n k) →
        (∀ x ∈ E, iS M' x.From.toNat = true → iS M x.From.toNat = false → x.From ≠ (n : Int) → iS M' x.To.toNat = true) →
        (∀ x ∈ done, x.From = (n : Int) → iS M' x.To.toNat = true) → DSpec E M (l.foldl (stepD (dfs E f) n) M') n := by
      intro l
      induction l with
      | nil =>
        intro done M' he hl' hc' hle hb hcl hd
        rw [List.append_nil] at he
        subst he
        refine ⟨hle n (by rw [iS_set]; simp [hl, hn]), hb, fun x hx h1 h2 => ?_⟩
        by_cases e : x.From = (n : Int)
        · exact hd x hx e
        · exact hcl x hx h1 h2 e
      | cons x l ihl =>
        intro done M' he hl' hc' hle hb hcl hd
        have hx : x ∈ E := by rw [he]; simp
        have hxr := hE x hx
        rw [List.foldl_cons]
        have he' : E = (done ++ [x]) ++ l := by rw [he]; simp
        unfold stepD
        split
        · rename_i hh
          obtain ⟨h1, h2⟩ := hh
          have S := ih M' x.To.toNat hl' (by omega) h2 hc'
          have hle' := dfs_le E f M' x.To.toNat
          have hlen := dfs_len E f M' x.To.toNat
          have hr : Rch E n x.To.toNat := .step x hx (by rw [h1]; exact .refl)
          refine ihl (done ++ [x]) _ he' (by omega) (Nat.le_trans (cF_le hlen.symm hle') hc') (hle.trans hle') ?_ ?_ ?_
          · intro k hk
            rcases S.only k hk with h3 | h3
            · exact hb k h3
            · exact .inr (hr.trans h3)
          · intro y hy h3 h4 h5
            cases h6 : iS M' y.From.toNat with
            | true => exact hle' _ (hcl y hy h6 h4 h5)
            | false => exact S.on y hy h3 h6
          · intro y hy h3
            rcases List.mem_append.1 hy with hy | hy
            · exact hle' _ (hd y hy h3)
            · rw [List.mem_singleton.1 hy]; exact S.me
        · rename_i hh
          refine ihl (done ++ [x]) M' he' hl' hc' hle hb hcl ?_
          intro y hy h3
          rcases List.mem_append.1 hy with hy | hy
          · exact hd y hy h3
          · rw [List.mem_singleton.1 hy] at h3 ⊢
            cases h4 : iS M' x.To.toNat with
            | true => rfl
            | false => exact absurd ⟨h3, h4⟩ hh
    rw [dfs]
    refine key E [] _ rfl (by simp [hl]) c1 (.refl _) ?_ ?_ (by simp)
    · intro k hk
      rw [iS_set] at hk
      simp only [Bool.or_eq_true, Bool.and_eq_true, decide_eq_true_eq] at hk
      rcases hk with h | ⟨h, _⟩
      · exact .inl h
      · rw [h]; exact .inr .refl
    · intro x hx h1 h2 h3
      rw [iS_set, h2] at h1
      simp only [Bool.false_or, Bool.and_eq_true, decide_eq_true_eq] at h1
      have := hE x hx
      omega
def met0 : List Bool := List.replicate 25 false
theorem iS_met0 (k : Nat) : iS met0 k = false := by
  unfold iS met0
  rw [List.getElem?_replicate]
  split <;> rfl
theorem met0_len : met0.length = 25 := by simp [met0]
def metG (E : List T_Edge) (n : Nat) : List Bool := dfs E 25 met0 n
theorem metG_len (E : List T_Edge) (n : Nat) : (metG E n).length = 25 := by rw [metG, dfs_len, met0_len]
theorem cF_met0 : cF met0 ≤ 25 := by
  have : cF met0 ≤ met0.length := List.countP_le_length
  rwa [met0_len] at this
theorem metG_iff {E : List T_Edge} (hE : InR E) {n : Nat} (hn : n < 25) (k : Nat) : iS (metG E n) k = true ↔ Rch E n k := by
  have S := dfs_spec hE 25 met0 n met0_len hn (iS_met0 n) cF_met0
  constructor
  · intro h
    rcases S.only k h with h1 | h1
    · rw [iS_met0] at h1; cases h1
    · exact h1
  · intro h
    induction h with
    | refl => exact S.me
    | step x hx _ ih => exact S.on x hx ih (iS_met0 _)

/-! ### by rounds -/
def stepR (M : List Bool) (x : T_Edge) : List Bool := if iS M x.From.toNat = true then M.set x.To.toNat true else M
def oneR (E : List T_Edge) (M : List Bool) : List Bool := E.foldl stepR M
def rndR (E : List T_Edge) : Nat → List Bool → List Bool
  | 0, M => M
  | r + 1, M => oneR E (rndR E r M)
theorem foldR_len (l : List T_Edge) : ∀ M : List Bool, (l.foldl stepR M).length = M.length := by
  induction l with
  | nil => intro _; rfl
  | cons x l ih => intro M; rw [List.foldl_cons, ih]; unfold stepR; split <;> simp
theorem foldR_le (l : List T_Edge) : ∀ M : List Bool, LeM M (l.foldl stepR M) := by
  induction l with
  | nil => intro M; exact .refl M
  | cons x l ih =>
    intro M
    rw [List.foldl_cons]
    refine LeM.trans ?_ (ih _)
    unfold stepR
    split
    · exact .set M _
    · exact .refl M
theorem rndR_len (E : List T_Edge) (M : List Bool) : ∀ r, (rndR E r M).length = M.length
  | 0 => rfl
  | r + 1 => by rw [rndR, oneR, foldR_len, rndR_len E M r]
theorem rndR_le (E : List T_Edge) (M : List Bool) : ∀ r, LeM M (rndR E r M)
  | 0 => .refl M
  | r + 1 => (rndR_le E M r).trans (foldR_le E _)
/-- a round finds one more, or nothing is left to find -/
theorem oneR_more {E : List T_Edge} (hE : InR E) {M : List Bool} (hl : M.length = 25) : cF (oneR E M) < cF M ∨ (∀ x ∈ E, iS M x.From.toNat = true → iS M x.To.toNat = true) := by
  by_cases h : ∀ x ∈ E, iS M x.From.toNat = true → iS M x.To.toNat = true
  · exact .inr h
  · left
    simp only [Classical.not_forall] at h
    obtain ⟨x, hx, h1, h2⟩ := h
    have hxr := hE x hx
    obtain ⟨s, t, he⟩ := List.append_of_mem hx
    refine cF_lt (by rw [oneR, foldR_len]) (foldR_le E M) (k := x.To.toNat) (by simpa using h2) ?_
    unfold oneR
    rw [he, List.foldl_append, List.foldl_cons]
    refine foldR_le t _ _ ?_
    rw [show stepR (List.foldl stepR M s) x = (List.foldl stepR M s).set x.To.toNat true from if_pos (foldR_le s M _ h1), iS_set, foldR_len, hl]
    simp; omega
theorem closedR {E : List T_Edge} {M : List Bool} (h : ∀ x ∈ E, iS M x.From.toNat = true → iS M x.To.toNat = true) : LeM (oneR E M) M := by
  have key : ∀ (l : List T_Edge) (M' : List Bool), (∀ x ∈ l, x ∈ E) → LeM M' M → LeM (l.foldl stepR M') M := by
    intro l
    induction l with
    | nil => intro M' _ hm; exact hm
    | cons x l ih =>
      intro M' hl hm
      rw [List.foldl_cons]
      refine ih _ (fun y hy => hl y (List.mem_cons_of_mem _ hy)) ?_
      unfold stepR
      split
      · rename_i h1
        intro k hk
        rw [iS_set] at hk
        simp only [Bool.or_eq_true, Bool.and_eq_true, decide_eq_true_eq] at hk
        rcases hk with h2 | ⟨h2, _⟩
        · exact hm k h2
        · rw [h2]; exact h x (hl x (List.mem_cons_self ..)) (hm _ h1)
      · exact hm
  exact key E M (fun _ h => h) (.refl M)
theorem foldR_only {E : List T_Edge} {n : Nat} : ∀ (l : List T_Edge) (M : List Bool), (∀ x ∈ l, x ∈ E) → (∀ k, iS M k = true → Rch E n k) → ∀ k, iS (l.foldl stepR M) k = true → Rch E n k := by
  intro l
  induction l with
  | nil => intro M _ h; exact h
  | cons x l ih =>
    intro M hl h
    rw [List.foldl_cons]
    refine ih _ (fun y hy => hl y (List.mem_cons_of_mem _ hy)) ?_
    unfold stepR
    split
    · rename_i h1
      intro k hk
      rw [iS_set] at hk
      simp only [Bool.or_eq_true, Bool.and_eq_true, decide_eq_true_eq] at hk
      rcases hk with h2 | ⟨h2, _⟩
      · exact h k h2
      · rw [h2]; exact .step x (hl x (List.mem_cons_self ..)) (h _ h1)
    · exact h
def metR (E : List T_Edge) (r n : Nat) : List Bool := rndR E r (met0.set n true)
theorem metR_only {E : List T_Edge} {n : Nat} : ∀ r k, iS (metR E r n) k = true → Rch E n k
  | 0, k, h => by
    rw [metR, rndR, iS_set, iS_met0] at h
    simp only [Bool.false_or, Bool.and_eq_true, decide_eq_true_eq] at h
    rw [h.1]; exact .refl
  | r + 1, k, h => foldR_only E _ (fun _ h => h) (metR_only r) k h
theorem nodup_sub {α : Type} [DecidableEq α] : ∀ {l m : List α}, l.Pairwise (· ≠ ·) → (∀ x ∈ l, x ∈ m) → l.length ≤ m.length
  | [], _, _, _ => Nat.zero_le _
  | a :: l, m, h, hs => by
    obtain ⟨h1, h2⟩ := List.pairwise_cons.1 h
    have ha := hs a (List.mem_cons_self ..)
    have := nodup_sub (m := m.erase a) h2 fun x hx => (List.mem_erase_of_ne (Ne.symm (h1 x hx))).2 (hs x (List.mem_cons_of_mem _ hx))
    rw [List.length_erase_of_mem ha] at this
    have := List.length_pos_of_mem ha
    simp only [List.length_cons]; omega
/-- what is found lies among the nodes -/
theorem cT_le {M : List Bool} {N : List Int} (hM : ∀ k, iS M k = true → (k : Int) ∈ N) : M.length - cF M ≤ N.length := by
  have h1 : M.length - cF M = ((List.range M.length).filter (iS M)).length := by
    have key : ∀ M : List Bool, M.length = cF M + ((List.range M.length).filter (iS M)).length := by
      intro M
      have : ((List.range M.length).filter (iS M)).length = M.countP (fun b => b) := by
        rw [← List.countP_eq_length_filter]
        have e : M = (List.range M.length).map (iS M) := by
          apply List.ext_getElem?
          intro i
          rw [List.getElem?_map]
          by_cases hi : i < M.length
          · rw [List.getElem?_range hi, List.getElem?_eq_getElem hi]; simp [iS, hi]
          · rw [List.getElem?_eq_none (by omega), List.getElem?_eq_none (by simpa using hi)]; rfl
        conv => rhs; rw [e, List.countP_map]
        rfl
      rw [this]
      unfold cF
      have := List.length_eq_countP_add_countP (fun b : Bool => b) (l := M)
      have e2 : M.countP (fun a => decide ¬ a = true) = M.countP fun b => !b := by congr 1; funext b; cases b <;> rfl
      omega
    have := key M
    omega
  rw [h1]
  have h2 : (((List.range M.length).filter (iS M)).map fun k : Nat => (k : Int)).length ≤ N.length := by
    refine nodup_sub ?_ ?_
    · have h3 : ((List.range M.length).filter (iS M)).Pairwise (· < ·) := List.pairwise_lt_range.filter _
      exact h3.map _ fun a b hab => by omega
    · intro x hx
      obtain ⟨k, hk, rfl⟩ := List.mem_map.1 hx
      exact hM k (List.mem_filter.1 hk).2
  rwa [List.length_map] at h2
theorem edOk_in {N : List Int} {x : T_Edge} (hN : ∀ n ∈ N, routerB n = true) (h : edOk N x = true) : ((0 ≤ x.From ∧ x.From < 25) ∧ 0 ≤ x.To ∧ x.To < 25) ∧ x.From ∈ N ∧ x.To ∈ N := by
  simp only [edOk, Bool.and_eq_true] at h
  have ha := any_router hN h.1.1.2
  have hb := any_router hN h.1.2
  simp only [routerB, Bool.and_eq_true, decide_eq_true_eq] at ha hb
  obtain ⟨a, ha1, ha2⟩ := List.any_eq_true.1 h.1.1.2
  obtain ⟨b, hb1, hb2⟩ := List.any_eq_true.1 h.1.2
  simp only [isI, decide_eq_true_eq] at ha2 hb2
  subst ha2; subst hb2
  exact ⟨⟨⟨by omega, by omega⟩, by omega, by omega⟩, ha1, hb1⟩
structure GOk (N : List Int) (E : List T_Edge) : Prop where
  rt : ∀ n ∈ N, routerB n = true
  up : N.Pairwise (· < ·)
  ed : ∀ x ∈ E, edOk N x = true
theorem chk_ok {N : List Int} {E : List T_Edge} (h : chkF N E = true) : GOk N E := by
  simp only [chkF, Bool.and_eq_true, decide_eq_true_eq] at h
  have := goN_ok N 0 h.1.1
  exact ⟨fun n hn => (this.1 n hn).1, this.2, goE_ok E _ h.2⟩
theorem GOk.inR {N : List Int} {E : List T_Edge} (h : GOk N E) : InR E := fun x hx => (edOk_in h.rt (h.ed x hx)).1
theorem GOk.rch {N : List Int} {E : List T_Edge} (h : GOk N E) {n : Nat} (hn : (n : Int) ∈ N) {k : Nat} (hk : Rch E n k) : (k : Int) ∈ N := by
  induction hk with
  | refl => exact hn
  | step x hx _ _ =>
    have := edOk_in h.rt (h.ed x hx)
    have e : ((x.To.toNat : Nat) : Int) = x.To := by omega
    rw [e]; exact this.2.2
theorem GOk.lt {N : List Int} {E : List T_Edge} (h : GOk N E) {n : Int} (hn : n ∈ N) : 1 ≤ n ∧ n ≤ 24 := by
  have := h.rt n hn
  simpa only [routerB, Bool.and_eq_true, decide_eq_true_eq] using this
/-- as many rounds as there are nodes find all -/
theorem metR_iff {N : List Int} {E : List T_Edge} (h : GOk N E) {n : Nat} (hn : (n : Int) ∈ N) (k : Nat) : iS (metR E N.length n) k = true ↔ Rch E n k := by
  have hn25 := h.lt hn
  constructor
  · exact metR_only _ k
  · have hl : ∀ r, (metR E r n).length = 25 := fun r => by rw [metR, rndR_len, List.length_set, met0_len]
    have key : ∀ r, cF (metR E r n) + r ≤ 24 ∨ (∀ x ∈ E, iS (metR E r n) x.From.toNat = true → iS (metR E r n) x.To.toNat = true) := by
      intro r
      induction r with
      | zero =>
        left
        have := cF_set (M := met0) (n := n) (f := 24) (by rw [met0_len]; omega) (iS_met0 n) (by have := cF_met0; omega)
        show cF (met0.set n true) + 0 ≤ 24
        omega
      | succ r ih =>
        rcases ih with h1 | h1
        · rcases oneR_more h.inR (hl r) with h2 | h2
          · left
            show cF (oneR E (metR E r n)) + (r + 1) ≤ 24
            omega
          · right
            have := closedR h2
            intro x hx h3
            exact foldR_le E _ _ (h2 x hx (this _ h3))
        · right
          have := closedR h1
          intro x hx h3
          exact foldR_le E _ _ (h1 x hx (this _ h3))
    have hcl : ∀ x ∈ E, iS (metR E N.length n) x.From.toNat = true → iS (metR E N.length n) x.To.toNat = true := by
      rcases key N.length with h1 | h1
      · have := cT_le (M := metR E N.length n) (N := N) fun k hk => h.rch hn (metR_only _ k hk)
        rw [hl] at this
        omega
      · exact h1
    intro hk
    induction hk with
    | refl =>
      refine rndR_le E _ N.length n ?_
      rw [iS_set, met0_len]; simp; omega
    | step x hx _ ih => exact hcl x hx ih
theorem metR_metG {N : List Int} {E : List T_Edge} (h : GOk N E) {n : Nat} (hn : (n : Int) ∈ N) : metR E N.length n = metG E n := by
  have := h.lt hn
  refine iS_ext (by rw [metG_len, metR, rndR_len, List.length_set, met0_len]) fun k _ => ?_
  rw [metR_iff h hn, metG_iff h.inR (by omega)]
def partG (N : List Int) (E : List T_Edge) (n : Int) : List Int := if gOk N E n = true then nodesA (metG E n.toNat) 25 else []
theorem partG_len (N : List Int) (E : List T_Edge) (n : Int) : (partG N E n).length ≤ 25 := by
  unfold partG
  split
  · exact nodesA_len _ 25
  · simp
theorem gOk_get {N : List Int} {E : List T_Edge} {n : Int} (h : gOk N E n = true) : chkF N E = true ∧ n ∈ N := by
  simp only [gOk, Bool.and_eq_true] at h
  obtain ⟨a, h1, h2⟩ := List.any_eq_true.1 h.2
  simp only [isI, decide_eq_true_eq] at h2
  subst h2
  exact ⟨h.1, h1⟩
end Go.Proofs.Ytaenmabpekbjoaa.Dm
