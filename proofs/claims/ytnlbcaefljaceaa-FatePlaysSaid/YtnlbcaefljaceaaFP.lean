/- FateOnce: what the functions come to, without the program. -/
import Derived.Test.YtnlbcaefljaceaaF8
set_option linter.unusedSimpArgs false
set_option linter.unusedVariables false
namespace Go.Proofs.Ytnlbcaefljaceaa.Dm
open Go.Dm

/-! ### maps by their keys -/
section
variable {κ β : Type} [DecidableEq κ]
theorem mget_del : ∀ (m : List (κ × β × Nat)) (k k' : κ), (m.map (·.1)).Nodup → mget (mdel m k) k' = if k' = k then none else mget m k'
  | [], k, k', _ => by simp [mdel, mget]
  | x :: m, k, k', h => by
    simp only [List.map_cons, List.nodup_cons] at h
    have nin : ∀ (m : List (κ × β × Nat)) (k : κ), k ∉ m.map (·.1) → mget m k = none := by
      intro m k hk
      induction m with
      | nil => rfl
      | cons y m ih =>
        simp only [List.map_cons, List.mem_cons, not_or] at hk
        simp only [mget, if_neg hk.1, ih hk.2]
    unfold mdel
    by_cases hx : k = x.1
    · rw [if_pos hx]
      by_cases hk : k' = k
      · rw [if_pos hk, hk, hx]; exact nin _ _ h.1
      · rw [if_neg hk]
        simp only [mget, if_neg (fun e : k' = x.1 => hk (e.trans hx.symm))]
    · rw [if_neg hx]
      simp only [mget]
      by_cases hx' : k' = x.1
      · rw [if_pos hx', if_neg (fun e : k' = k => hx (e.symm.trans hx')), if_pos hx']
      · rw [if_neg hx', if_neg hx', mget_del m k k' h.2]
theorem mdel_keys : ∀ (m : List (κ × β × Nat)) (k : κ), ((mdel m k).map (·.1)).Sublist (m.map (·.1))
  | [], _ => .slnil
  | x :: m, k => by
    unfold mdel
    split
    · exact .cons _ (List.Sublist.refl _)
    · exact .cons_cons _ (mdel_keys m k)
theorem mdel_len : ∀ (m : List (κ × β × Nat)) (k : κ) (v : β), mget m k = some v → (mdel m k).length + 1 = m.length
  | [], _, _, h => by cases h
  | x :: m, k, v, h => by
    unfold mget at h
    unfold mdel
    split at h
    · rename_i hk; rw [if_pos hk]; rfl
    · rename_i hk; rw [if_neg hk]; simp only [List.length_cons]; rw [mdel_len m k v h]
theorem mput_new : ∀ (m : List (κ × β × Nat)) (k : κ) (v : β) (c : Nat), mget m k = none → mput m k v c = m ++ [(k, v, c)]
  | [], _, _, _, _ => rfl
  | x :: m, k, v, c, h => by
    unfold mget at h
    split at h
    · cases h
    · rename_i hk; simp only [mput, if_neg hk, mput_new m k v c h, List.cons_append]
theorem mget_app : ∀ (m n : List (κ × β × Nat)) (k : κ), mget (m ++ n) k = (mget m k).or (mget n k)
  | [], _, _ => rfl
  | x :: m, n, k => by
    simp only [List.cons_append, mget]
    split
    · rfl
    · exact mget_app m n k
end

/-! ### rules that may be -/
structure Good (l : List T_Rule) : Prop where
  may : ∀ r ∈ l, mayB r = true
  key : l.Pairwise fun a b => keyR a ≠ keyR b
  len : l.length ≤ 64
def ents : List T_Rule → Nat → MapR
  | [], _ => []
  | r :: l, k => (keyR r, r, k) :: ents l (k + 1)
theorem ents_len : ∀ (l : List T_Rule) (k : Nat), (ents l k).length = l.length
  | [], _ => rfl
  | r :: l, k => by simp [ents, ents_len l]
theorem ents_keys : ∀ (l : List T_Rule) (k : Nat), (ents l k).map (·.1) = l.map keyR
  | [], _ => rfl
  | r :: l, k => by simp [ents, ents_keys l]
theorem ents_get : ∀ (l : List T_Rule) (k : Nat) (x : T_message) (r : T_Rule), l.Pairwise (fun a b => keyR a ≠ keyR b) → (mget (ents l k) x = some r ↔ r ∈ l ∧ keyR r = x)
  | [], k, x, r, _ => by simp [ents, mget]
  | a :: l, k, x, r, h => by
    obtain ⟨h1, h2⟩ := List.pairwise_cons.1 h
    simp only [ents, mget]
    by_cases hx : x = keyR a
    · rw [if_pos hx]
      constructor
      · intro e; cases e; exact ⟨List.mem_cons_self .., hx.symm⟩
      · rintro ⟨hm, hk⟩
        rcases List.mem_cons.1 hm with rfl | hm
        · rfl
        · exact absurd (hx.symm.trans hk.symm) (h1 r hm)
    · rw [if_neg hx, ents_get l (k + 1) x r h2]
      constructor
      · rintro ⟨hm, hk⟩; exact ⟨List.mem_cons_of_mem _ hm, hk⟩
      · rintro ⟨hm, hk⟩
        rcases List.mem_cons.1 hm with rfl | hm
        · exact absurd hk.symm hx
        · exact ⟨hm, hk⟩
theorem goP_good : ∀ (l : List T_Rule) (k : Nat) (m : MapR), (∀ r ∈ l, mayB r = true) → l.Pairwise (fun a b => keyR a ≠ keyR b) → (∀ r ∈ l, mget m (keyR r) = none) → goP l k m = .ok (m ++ ents l k)
  | [], _, m, _, _, _ => by simp [goP, ents]
  | r :: l, k, m, h1, h2, h3 => by
    obtain ⟨h4, h5⟩ := List.pairwise_cons.1 h2
    have e1 := h1 r (List.mem_cons_self ..)
    have e2 := h3 r (List.mem_cons_self ..)
    rw [goP, if_neg (by simp [e1]), if_neg (by simp [e2]), mput_new _ _ _ _ e2, goP_good l (k + 1) _ (fun r hr => h1 r (List.mem_cons_of_mem _ hr)) h5 ?_]
    · simp [ents]
    · intro a ha
      rw [mget_app, h3 a (List.mem_cons_of_mem _ ha)]
      simp only [mget, if_neg (fun e : keyR a = keyR r => h4 a ha e.symm), Option.or_none]
theorem planF_good {l : List T_Rule} (h : Good l) : planF l = .ok (ents l 0) := by
  unfold planF
  rw [if_neg (by have := h.len; omega), goP_good l 0 [] h.may h.key (fun _ _ => rfl)]
  simp
theorem Good.rev {l : List T_Rule} (h : Good l) : Good l.reverse :=
  ⟨fun r hr => h.may r (List.mem_reverse.1 hr), List.pairwise_reverse.2 (h.key.imp fun e e' => e e'.symm), by simpa using h.len⟩

/-! ### the statement's rules are such -/
structure TurnOk (t : T_Turn) : Prop where
  f0 : 0 ≤ t.From
  t0 : 0 ≤ t.To
  n0 : 0 ≤ t.Nth
  k0 : 0 ≤ t.Kind
  b0 : 0 ≤ t.By
theorem mkN_rng {m x : Int} (hx : 0 ≤ x) (hm : 0 < m) (h1 : m ≤ 64) : 1 ≤ mkN m x ∧ mkN m x ≤ m := by
  have e := Int.tmod_eq_emod_of_nonneg (b := m) hx
  have h2 := Int.emod_nonneg x (show m ≠ 0 by omega)
  have h3 := Int.emod_lt_of_pos x hm
  unfold mkN
  rw [e, wrap64 (n := x % m) (by omega) (by omega), wrap64 (by omega) (by omega)]
  omega
theorem rulesGo_good : ∀ (l : List T_Turn) (out : List T_Rule), (∀ t ∈ l, TurnOk t) → (∀ r ∈ out, mayB r = true ∧ r.From ≠ r.To ∧ 1 ≤ r.From ∧ r.From ≤ 4 ∧ 1 ≤ r.To ∧ r.To ≤ 4) → out.Pairwise (fun a b => keyR a ≠ keyR b) →
    (∀ r ∈ rulesGo l out, mayB r = true ∧ r.From ≠ r.To ∧ 1 ≤ r.From ∧ r.From ≤ 4 ∧ 1 ≤ r.To ∧ r.To ≤ 4) ∧ (rulesGo l out).Pairwise (fun a b => keyR a ≠ keyR b) ∧ (rulesGo l out).length ≤ out.length + l.length
  | [], out, _, h1, h2 => ⟨h1, h2, by simp [rulesGo]⟩
  | t :: l, out, h0, h1, h2 => by
    have ht := h0 t (List.mem_cons_self ..)
    have hl := fun t' h => h0 t' (List.mem_cons_of_mem _ h)
    rw [rulesGo]
    split
    · obtain ⟨a, b, c⟩ := rulesGo_good l out hl h1 h2
      exact ⟨a, b, by simp only [List.length_cons]; omega⟩
    · rename_i hag
      have hag' : againB out (mkRule t) = false := by simpa using hag
      simp only [againB, Bool.or_eq_false_iff, decide_eq_false_iff_not] at hag'
      obtain ⟨hne, hany⟩ := hag'
      obtain ⟨f1, f2⟩ := mkN_rng (m := 4) ht.f0 (by decide) (by decide)
      obtain ⟨t1, t2⟩ := mkN_rng (m := 4) ht.t0 (by decide) (by decide)
      obtain ⟨n1, n2⟩ := mkN_rng (m := 6) ht.n0 (by decide) (by decide)
      obtain ⟨k1, k2⟩ := mkN_rng (m := 3) ht.k0 (by decide) (by decide)
      obtain ⟨b1, b2⟩ := mkN_rng (m := 64) ht.b0 (by decide) (by decide)
      have hmay : mayB (mkRule t) = true := by
        have hne' : mkN 4 t.From ≠ mkN 4 t.To := hne
        clear hne hany hag
        simp only [mayB, mkRule, rightB]
        by_cases h1 : mkN 3 t.Kind = 1
        · simp [h1]; exact ⟨decide_eq_true ⟨f1, by omega, t1, by omega, hne'⟩, decide_eq_true ⟨n1, by omega⟩⟩
        · have : mkN 3 t.Kind = 2 ∨ mkN 3 t.Kind = 3 := by omega
          simp [h1, this]; exact ⟨⟨decide_eq_true ⟨f1, by omega, t1, by omega, hne'⟩, decide_eq_true ⟨n1, by omega⟩⟩, b1, b2⟩
      have hrec := rulesGo_good l (out ++ [mkRule t]) hl ?_ ?_
      · obtain ⟨a, b, c⟩ := hrec
        refine ⟨a, b, ?_⟩
        simp only [List.length_append, List.length_cons, List.length_nil] at c ⊢
        omega
      · intro r hr
        rcases List.mem_append.1 hr with hr | hr
        · exact h1 r hr
        · rw [List.mem_singleton.1 hr]; exact ⟨hmay, hne, f1, f2, t1, t2⟩
      · refine List.pairwise_append.2 ⟨h2, List.pairwise_singleton .., ?_⟩
        intro a ha b hb
        rw [List.mem_singleton.1 hb]
        intro e
        have := List.any_eq_false.1 hany a ha
        apply this
        simp only [keyR, T_message.mk.injEq] at e
        simp [sameK, e]
theorem rulesF_good {l : List T_Turn} (h : ∀ t ∈ l, TurnOk t) : Good (rulesF l) ∧ ∀ r ∈ rulesF l, r.From ≠ r.To ∧ 1 ≤ r.From ∧ r.From ≤ 4 ∧ 1 ≤ r.To ∧ r.To ≤ 4 := by
  obtain ⟨a, b, c⟩ := rulesGo_good (l.take 30) [] (fun t ht => h t (List.mem_of_mem_take ht)) (fun r hr => by cases hr) List.Pairwise.nil
  refine ⟨⟨fun r hr => (a r hr).1, b, ?_⟩, fun r hr => (a r hr).2⟩
  have : (l.take 30).length ≤ 30 := by rw [List.length_take]; omega
  simp only [List.length_nil] at c
  have hh : (rulesF l).length ≤ 0 + (l.take 30).length := c
  omega
theorem rulesF_len {l : List T_Turn} (h : ∀ t ∈ l, TurnOk t) : (rulesF l).length ≤ 30 := by
  obtain ⟨a, b, c⟩ := rulesGo_good (l.take 30) [] (fun t ht => h t (List.mem_of_mem_take ht)) (fun r hr => by cases hr) List.Pairwise.nil
  have : (l.take 30).length ≤ 30 := by rw [List.length_take]; omega
  have hh : (rulesF l).length ≤ 0 + (l.take 30).length := c
  omega

/-! ### asking -/
def cntAt (c : List Int) (x y : Int) : Int := (c[(5 * x + y).toNat]?).getD 0
structure InvM (l : List T_Rule) (c : List Int) (m : MapR) : Prop where
  kd : (m.map (·.1)).Nodup
  get : ∀ k r, mget m k = some r ↔ r ∈ l ∧ keyR r = k ∧ cntAt c k.from_ k.to < k.nth
structure InvP (l : List T_Rule) (c : List Int) (p : PlanS) : Prop where
  len : p.ks.length = 625
  eqk : ∀ x y : Int, 1 ≤ x → x ≤ 4 → 1 ≤ y → y ≤ 4 → (p.ks[x.toNat * 25 + y.toNat]?).getD 0 = cntAt c x y
  m : InvM l c p.m
def Four (l : List T_Rule) : Prop := ∀ r ∈ l, r.From ≠ r.To ∧ 1 ≤ r.From ∧ r.From ≤ 4 ∧ 1 ≤ r.To ∧ r.To ≤ 4
def zero25 : List Int := List.replicate 25 0
theorem cnt0 (x y : Int) : cntAt zero25 x y = 0 := by
  unfold cntAt zero25
  rw [List.getElem?_replicate]
  split <;> rfl
theorem InvP.init {l l' : List T_Rule} (h : Good l') (hm : ∀ r, r ∈ l' ↔ r ∈ l) : InvP l zero25 ⟨ents l' 0, l'.length, zeroP⟩ := by
  refine ⟨List.length_replicate .., ?_, ?_, ?_⟩
  · intro x y _ _ _ _
    rw [cnt0]
    unfold zeroP
    rw [List.getElem?_replicate]
    split <;> rfl
  · simp only [ents_keys]
    exact List.pairwise_map.2 h.key
  · intro k r
    simp only [ents_get l' 0 k r h.key, hm, cnt0]
    constructor
    · rintro ⟨h1, h2⟩
      refine ⟨h1, h2, ?_⟩
      have := h.may r ((hm r).2 h1)
      simp only [mayB, Bool.and_eq_true, decide_eq_true_eq] at this
      rw [← h2]; show 0 < r.Nth; omega
    · rintro ⟨h1, h2, _⟩; exact ⟨h1, h2⟩
theorem cntAt_set {c : List Int} (hc : c.length = 25) {x y x' y' n : Int} (h1 : 1 ≤ x) (h2 : x ≤ 4) (h3 : 1 ≤ y) (h4 : y ≤ 4) (g1 : 1 ≤ x') (g2 : x' ≤ 4) (g3 : 1 ≤ y') (g4 : y' ≤ 4) :
    cntAt (c.set (5 * x + y).toNat n) x' y' = if x' = x ∧ y' = y then n else cntAt c x' y' := by
  unfold cntAt
  rw [List.getElem?_set]
  by_cases e : x' = x ∧ y' = y
  · obtain ⟨rfl, rfl⟩ := e
    rw [if_pos rfl, if_pos (by omega), if_pos ⟨rfl, rfl⟩]; rfl
  · rw [if_neg (by omega), if_neg e]
/-- what a message meets -/
def met (l : List T_Rule) (x y n : Int) (o : Option T_Rule) : Prop := ∀ r, o = some r ↔ r ∈ l ∧ keyR r = ⟨x, y, n⟩
def fateO : Option T_Rule → T_Fate
  | none => ⟨1, 0, 0⟩
  | some r => fateOf r
theorem ask_inv {l : List T_Rule} (hf : Four l) {c : List Int} (hc : c.length = 25) {p : PlanS} (h : InvP l c p) {x y : Int} (h1 : 1 ≤ x) (h2 : x ≤ 4) (h3 : 1 ≤ y) (h4 : y ≤ 4) (hne : x ≠ y) (b0 : 0 ≤ cntAt c x y) (b1 : cntAt c x y ≤ 1000) :
    ∃ o, met l x y (cntAt c x y + 1) o ∧ (askF p x y).2 = (fateO o, 0) ∧ InvP l (c.set (5 * x + y).toNat (cntAt c x y + 1)) (askF p x y).1 ∧ ((askF p x y).1.m.length : Int) = p.m.length - (if o.isSome then 1 else 0) := by
  have hb : bumpP p.ks x y = cntAt c x y + 1 := by
    unfold bumpP
    rw [h.eqk x y h1 h2 h3 h4, wrap64 (by omega) (by omega)]
  have hrt : rightB x y = true := by simp [rightB]; omega
  have hmet : met l x y (cntAt c x y + 1) (mget p.m ⟨x, y, cntAt c x y + 1⟩) := by
    intro r
    rw [h.m.get]
    constructor
    · rintro ⟨a, b, _⟩; exact ⟨a, b⟩
    · rintro ⟨a, b⟩; exact ⟨a, b, by show cntAt c x y < cntAt c x y + 1; omega⟩
  have hks : (p.ks.set (x.toNat * 25 + y.toNat) (cntAt c x y + 1)).length = 625 := by rw [List.length_set]; exact h.len
  have hek : ∀ x' y' : Int, 1 ≤ x' → x' ≤ 4 → 1 ≤ y' → y' ≤ 4 → ((p.ks.set (x.toNat * 25 + y.toNat) (cntAt c x y + 1))[x'.toNat * 25 + y'.toNat]?).getD 0 = cntAt (c.set (5 * x + y).toNat (cntAt c x y + 1)) x' y' := by
    intro x' y' g1 g2 g3 g4
    rw [cntAt_set hc h1 h2 h3 h4 g1 g2 g3 g4, List.getElem?_set]
    by_cases e : x' = x ∧ y' = y
    · obtain ⟨rfl, rfl⟩ := e
      rw [if_pos rfl, if_pos (by rw [h.len]; omega), if_pos ⟨rfl, rfl⟩]; rfl
    · rw [if_neg (by omega), if_neg e]; exact h.eqk x' y' g1 g2 g3 g4
  have hgt : ∀ (k : T_message) (r : T_Rule), r ∈ l → keyR r = k → (cntAt (c.set (5 * x + y).toNat (cntAt c x y + 1)) k.from_ k.to < k.nth ↔ cntAt c k.from_ k.to < k.nth ∧ k ≠ ⟨x, y, cntAt c x y + 1⟩) := by
    intro k r hr hk
    obtain ⟨_, f1, f2, f3, f4⟩ := hf r hr
    have e1 : k.from_ = r.From := by rw [← hk]; rfl
    have e2 : k.to = r.To := by rw [← hk]; rfl
    rw [cntAt_set hc h1 h2 h3 h4 (by omega) (by omega) (by omega) (by omega)]
    obtain ⟨a, b, n⟩ := k
    simp only [ne_eq, T_message.mk.injEq] at *
    by_cases e : a = x ∧ b = y
    · obtain ⟨rfl, rfl⟩ := e
      simp
      omega
    · rw [if_neg e]
      constructor
      · intro hh; exact ⟨hh, fun h' => e ⟨h'.1, h'.2.1⟩⟩
      · exact fun hh => hh.1
  cases hg : mget p.m ⟨x, y, cntAt c x y + 1⟩ with
  | none =>
    have ha : askF p x y = ({ p with ks := p.ks.set (x.toNat * 25 + y.toNat) (cntAt c x y + 1) }, ⟨1, 0, 0⟩, 0) := by
      simp [askF, hrt, hb, hg]
    rw [ha]
    refine ⟨none, by rw [← hg]; exact hmet, rfl, ⟨hks, hek, h.m.kd, ?_⟩, by simp⟩
    intro k r
    simp only
    rw [h.m.get]
    constructor
    · rintro ⟨a, b, d⟩
      refine ⟨a, b, (hgt k r a b).2 ⟨d, ?_⟩⟩
      intro e
      have := (hmet r).2 ⟨a, b.trans e⟩
      rw [hg] at this; cases this
    · rintro ⟨a, b, d⟩; exact ⟨a, b, ((hgt k r a b).1 d).1⟩
  | some r0 =>
    have ha : askF p x y = (⟨mdel p.m ⟨x, y, cntAt c x y + 1⟩, p.clk, p.ks.set (x.toNat * 25 + y.toNat) (cntAt c x y + 1)⟩, fateOf r0, 0) := by
      simp [askF, hrt, hb, hg]
    rw [ha]
    refine ⟨some r0, by rw [← hg]; exact hmet, rfl, ⟨hks, hek, h.m.kd.sublist (mdel_keys _ _), ?_⟩, ?_⟩
    · intro k r
      simp only
      rw [mget_del _ _ _ h.m.kd]
      by_cases e : k = ⟨x, y, cntAt c x y + 1⟩
      · rw [if_pos e]
        constructor
        · intro h; cases h
        · rintro ⟨a, b, d⟩; exact absurd e ((hgt k r a b).1 d).2
      · rw [if_neg e, h.m.get]
        constructor
        · rintro ⟨a, b, d⟩; exact ⟨a, b, (hgt k r a b).2 ⟨d, e⟩⟩
        · rintro ⟨a, b, d⟩; exact ⟨a, b, ((hgt k r a b).1 d).1⟩
    · have := mdel_len _ _ _ hg
      simp only [Option.isSome_some, if_true]
      omega
theorem met_eq {l : List T_Rule} {x y n : Int} {o o' : Option T_Rule} (h : met l x y n o) (h' : met l x y n o') : o = o' := by
  cases ho : o with
  | none =>
    cases ho' : o' with
    | none => rfl
    | some r => have := (h r).2 ((h' r).1 ho'); rw [ho] at this; cases this
  | some r => exact ((h' r).2 ((h r).1 ho)).symm
def wantOf (r : T_Rule) : T_Fate := if r.Kind = 2 then ⟨2, 0, r.By⟩ else if r.Kind = 1 then ⟨0, 0, 0⟩ else ⟨1, r.By, 0⟩
def wantS (x y n : Int) (w : T_Fate × Int) (r : T_Rule) : T_Fate × Int := if isRule x y n r then (wantOf r, wrapA .i64 (w.2 - 1)) else w
def wantF (l : List T_Rule) (x y n : Int) (w : T_Fate × Int) : T_Fate × Int := l.foldl (wantS x y n) w
theorem isRule_key {x y n : Int} {r : T_Rule} : isRule x y n r = true ↔ keyR r = ⟨x, y, n⟩ := by
  simp [isRule, keyR, and_assoc]
theorem wantOf_eq {r : T_Rule} (h : mayB r = true) : wantOf r = fateOf r := by
  have : r.Kind = 1 ∨ r.Kind = 2 ∨ r.Kind = 3 := by
    simp only [mayB, Bool.and_eq_true] at h
    have h2 := h.2
    split at h2
    · exact .inl ‹_›
    · split at h2
      · exact .inr ‹_›
      · cases h2
  rcases this with h | h | h <;> simp [wantOf, fateOf, h]
theorem wantF_none : ∀ {l : List T_Rule} {x y n : Int} {w : T_Fate × Int}, (∀ r ∈ l, keyR r ≠ ⟨x, y, n⟩) → wantF l x y n w = w
  | [], _, _, _, _, _ => rfl
  | r :: l, x, y, n, w, h => by
    have h1 : isRule x y n r = false := by
      cases hh : isRule x y n r with
      | false => rfl
      | true => exact absurd (isRule_key.1 hh) (h r (List.mem_cons_self ..))
    unfold wantF
    rw [List.foldl_cons]
    have : wantS x y n w r = w := by simp [wantS, h1]
    rw [this]
    exact wantF_none fun r' hr' => h r' (List.mem_cons_of_mem _ hr')
theorem wantF_met : ∀ {l : List T_Rule} {x y n : Int} {o : Option T_Rule} {i : Int}, Good l → met l x y n o → (o.isSome = true → 1 ≤ i) → i ≤ 1000 → wantF l x y n (⟨1, 0, 0⟩, i) = (fateO o, i - (if o.isSome then 1 else 0)) := by
  intro l x y n o i hg hm hi1 hi2
  cases o with
  | none =>
    rw [wantF_none (fun r hr hk => by have := (hm r).2 ⟨hr, hk⟩; cases this)]
    simp [fateO]
  | some r =>
    obtain ⟨hr, hk⟩ := (hm r).1 rfl
    have key : ∀ (l : List T_Rule) (w : T_Fate × Int), l.Pairwise (fun a b => keyR a ≠ keyR b) → r ∈ l → wantF l x y n w = (wantOf r, wrapA .i64 (w.2 - 1)) := by
      intro l
      induction l with
      | nil => intro w _ h; cases h
      | cons a l ih =>
        intro w hp hr
        obtain ⟨h1, h2⟩ := List.pairwise_cons.1 hp
        show wantF l x y n (wantS x y n w a) = _
        rcases List.mem_cons.1 hr with rfl | hr'
        · have e : wantS x y n w r = (wantOf r, wrapA .i64 (w.2 - 1)) := by simp [wantS, isRule_key.2 hk]
          rw [e, wantF_none]
          intro b hb e'
          exact h1 b hb (hk.trans e'.symm)
        · have e : wantS x y n w a = w := by
            have : isRule x y n a = false := by
              cases hh : isRule x y n a with
              | false => rfl
              | true => exact absurd ((isRule_key.1 hh).trans hk.symm) (h1 r hr')
            simp [wantS, this]
          rw [e]; exact ih w h2 hr'
    rw [key l _ hg.key hr, wantOf_eq (hg.may r hr), wrap64 (by have := hi1 rfl; simp only; omega) (by simp only; omega)]
    simp [fateO]
theorem cnt_bound {c : List Int} {i : Nat} (h : ∀ a b : Int, 0 ≤ cntAt c a b ∧ cntAt c a b ≤ (i : Int)) (j : Nat) (x y : Int) : ∀ a b : Int, 0 ≤ cntAt (c.set j (cntAt c x y + 1)) a b ∧ cntAt (c.set j (cntAt c x y + 1)) a b ≤ ((i + 1 : Nat) : Int) := by
  intro a b
  have h1 := h a b
  have h2 := h x y
  unfold cntAt at h1 h2 ⊢
  rw [List.getElem?_set]
  split
  · split
    · simp only [Option.getD_some]; omega
    · simp only [Option.getD_none]; omega
  · omega
end Go.Proofs.Ytnlbcaefljaceaa.Dm
