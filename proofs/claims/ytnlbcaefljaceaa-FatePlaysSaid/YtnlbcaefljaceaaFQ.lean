/- FatePlays: what the functions come to, without the program. -/
import Derived.Test.YtnlbcaefljaceaaFP
set_option linter.unusedSimpArgs false
set_option linter.unusedVariables false
namespace Go.Proofs.Ytnlbcaefljaceaa.Dm
open Go.Dm

theorem sameK_key {a b : T_Rule} : sameK a b = true ↔ keyR a = keyR b := by simp [sameK, keyR]
theorem goP_goC : ∀ (l done : List T_Rule) (k : Nat) (m : MapR), (∀ r, (mget m (keyR r)).isSome = done.any (sameK · r)) →
    (match goP l k m with | .error (i, e) => (i, e) | .ok _ => ((0 : Nat), (0 : Int))) = goC done l k
  | [], _, _, _, _ => rfl
  | r :: l, done, k, m, h => by
    unfold goP goC
    by_cases h1 : mayB r = false
    · rw [if_pos h1, if_pos h1]
    · rw [if_neg h1, if_neg h1, h r]
      by_cases h2 : done.any (sameK · r) = true
      · rw [if_pos h2, if_pos h2]
      · rw [if_neg h2, if_neg h2]
        refine goP_goC l (done ++ [r]) (k + 1) _ ?_
        have hn : mget m (keyR r) = none := by
          cases hg : mget m (keyR r) with
          | none => rfl
          | some x => have := h r; rw [hg] at this; exact absurd this.symm h2
        intro a
        rw [mput_new _ _ _ _ hn, mget_app, List.any_append, ← h a]
        have : (mget [(keyR r, r, k)] (keyR a)).isSome = sameK r a := by
          simp only [mget]
          by_cases e : keyR a = keyR r
          · rw [if_pos e]; simp [sameK_key.2 e.symm]
          · rw [if_neg e]
            cases hs : sameK r a with
            | false => rfl
            | true => exact absurd (sameK_key.1 hs).symm e
        simp only [List.any_cons, List.any_nil, Bool.or_false, ← this]
        cases mget m (keyR a) <;> simp
theorem plan_check (l : List T_Rule) : (match planF l with | .error (i, e) => (i, e) | .ok _ => ((0 : Nat), (0 : Int))) = checkF l := by
  unfold planF checkF
  by_cases h : 64 < l.length
  · rw [if_pos h, if_pos h]
  · rw [if_neg h, if_neg h]
    exact goP_goC l [] 0 [] (fun r => rfl)
theorem goP_ok : ∀ (l : List T_Rule) (k : Nat) (m m' : MapR), goP l k m = .ok m' → (∀ r ∈ l, mayB r = true) ∧ l.Pairwise (fun a b => keyR a ≠ keyR b) ∧ ∀ r ∈ l, mget m (keyR r) = none
  | [], _, _, _, _ => ⟨by simp, .nil, by simp⟩
  | r :: l, k, m, m', h => by
    unfold goP at h
    split at h
    · cases h
    · rename_i h1
      split at h
      · cases h
      · rename_i h2
        have hn : mget m (keyR r) = none := by simpa using h2
        obtain ⟨a, b, c⟩ := goP_ok l (k + 1) _ m' h
        have key : ∀ x ∈ l, mget m (keyR x) = none ∧ keyR x ≠ keyR r := by
          intro x hx
          have := c x hx
          rw [mput_new _ _ _ _ hn, mget_app, Option.or_eq_none_iff] at this
          refine ⟨this.1, fun e => ?_⟩
          have h3 := this.2
          simp only [mget, if_pos e] at h3
          cases h3
        refine ⟨?_, List.pairwise_cons.2 ⟨fun x hx e => (key x hx).2 e.symm, b⟩, ?_⟩
        · intro x hx
          rcases List.mem_cons.1 hx with rfl | hx
          · simpa using h1
          · exact a x hx
        · intro x hx
          rcases List.mem_cons.1 hx with rfl | hx
          · exact hn
          · exact (key x hx).1
theorem planF_ok {l : List T_Rule} {m : MapR} (h : planF l = .ok m) : Good l ∧ m = ents l 0 := by
  have hl : ¬ 64 < l.length := by
    intro hh; unfold planF at h; rw [if_pos hh] at h; cases h
  have h2 := h
  unfold planF at h2
  rw [if_neg hl] at h2
  obtain ⟨a, b, _⟩ := goP_ok l 0 [] m h2
  have hg : Good l := ⟨a, b, by omega⟩
  refine ⟨hg, ?_⟩
  rw [planF_good hg] at h
  cases h; rfl

/-! ### the messages that were asked for -/
structure InvQ (L : List T_Rule) (q : List T_Pair) (p : PlanS) : Prop where
  len : p.ks.length = 625
  eqk : ∀ x y : Int, rightB x y = true → (p.ks[x.toNat * 25 + y.toNat]?).getD 0 = (countF q x y : Int)
  m : p.m = (ents L 0).filter (fun e => late q e.2.1)
theorem right_rng {x y : Int} (h : rightB x y = true) : 1 ≤ x ∧ x ≤ 24 ∧ 1 ≤ y ∧ y ≤ 24 ∧ x ≠ y := of_decide_eq_true h
theorem filt_all : ∀ (L : List T_Rule) (k : Nat) (f : T_Rule → Bool), (∀ r ∈ L, f r = true) → (ents L k).filter (fun e => f e.2.1) = ents L k
  | [], _, _, _ => rfl
  | r :: L, k, f, h => by
    have h1 := h r (List.mem_cons_self ..)
    simp only [ents, List.filter_cons, h1, if_true]
    rw [filt_all L (k + 1) f fun r hr => h r (List.mem_cons_of_mem _ hr)]
theorem filt_congr : ∀ (L : List T_Rule) (k : Nat) (f g : T_Rule → Bool), (∀ r ∈ L, f r = g r) → (ents L k).filter (fun e => f e.2.1) = (ents L k).filter (fun e => g e.2.1)
  | [], _, _, _, _ => rfl
  | r :: L, k, f, g, h => by
    have h1 := h r (List.mem_cons_self ..)
    simp only [ents, List.filter_cons, h1]
    rw [filt_congr L (k + 1) f g fun r hr => h r (List.mem_cons_of_mem _ hr)]
theorem filt_len : ∀ (L : List T_Rule) (k : Nat) (f : T_Rule → Bool), ((ents L k).filter (fun e => f e.2.1)).length = L.countP f
  | [], _, _ => rfl
  | r :: L, k, f => by
    have ih := filt_len L (k + 1) f
    cases h : f r with
    | true => simp only [ents, List.filter_cons, h, if_true, List.length_cons, ih, List.countP_cons]
    | false => simp only [ents, List.filter_cons, h, List.countP_cons]; simpa using ih
theorem InvQ.init {L : List T_Rule} (h : Good L) {c : Nat} : InvQ L [] ⟨ents L 0, c, zeroP⟩ := by
  refine ⟨List.length_replicate .., ?_, ?_⟩
  · intro x y _
    unfold zeroP
    rw [List.getElem?_replicate]
    split <;> rfl
  · refine (filt_all L 0 (late []) fun r hr => ?_).symm
    have := h.may r hr
    simp only [mayB, Bool.and_eq_true, decide_eq_true_eq] at this
    have h2 := this.1.2
    refine decide_eq_true ?_
    show ((0 : Nat) : Int) < r.Nth
    omega
theorem count_asked (q : List T_Pair) (x y a b : Int) : countF (askedR q x y) a b = countF q a b + (if x = a ∧ y = b then 1 else 0) := by
  simp only [countF, askedR, List.countP_append, List.countP_singleton, isPair]
  congr 1
  simp
theorem mget_filt {q : List T_Pair} {x y n : Int} (hn : (countF q x y : Int) < n) : ∀ (L : List T_Rule) (k : Nat), mget ((ents L k).filter (fun e => late q e.2.1)) ⟨x, y, n⟩ = L.find? (isRule x y n)
  | [], _ => rfl
  | r :: L, k => by
    have ih := mget_filt hn L (k + 1)
    rw [List.find?_cons]
    cases hr : isRule x y n r with
    | true =>
      have hk := isRule_key.1 hr
      have hl : late q r = true := by
        simp only [keyR, T_message.mk.injEq] at hk
        obtain ⟨rfl, rfl, rfl⟩ := hk
        exact decide_eq_true hn
      simp only [ents, List.filter_cons, hl, if_true, mget, hk]
    | false =>
      have hk : (⟨x, y, n⟩ : T_message) ≠ keyR r := fun e => by rw [isRule_key.2 e.symm] at hr; cases hr
      cases hl : late q r with
      | true => simp only [ents, List.filter_cons, hl, if_true, mget, if_neg hk]; exact ih
      | false => simp only [ents, List.filter_cons, hl]; exact ih
theorem late_asked {q : List T_Pair} {x y : Int} (r : T_Rule) : late (askedR q x y) r = (late q r && !decide (keyR r = ⟨x, y, (countF q x y : Int) + 1⟩)) := by
  simp only [late, count_asked, keyR, T_message.mk.injEq]
  by_cases h : x = r.From ∧ y = r.To
  · obtain ⟨rfl, rfl⟩ := h
    simp only [and_self, if_true, true_and]
    rw [Bool.eq_iff_iff]
    simp
    omega
  · rw [if_neg h]
    have h2 : ¬ (r.From = x ∧ r.To = y ∧ r.Nth = (countF q x y : Int) + 1) := fun e => h ⟨e.1.symm, e.2.1.symm⟩
    simp [h2]
theorem mdel_filt {f : T_Rule → Bool} {K : T_message} : ∀ (L : List T_Rule) (k : Nat), L.Pairwise (fun a b => keyR a ≠ keyR b) →
    mdel ((ents L k).filter (fun e => f e.2.1)) K = (ents L k).filter (fun e => f e.2.1 && !decide (keyR e.2.1 = K))
  | [], _, _ => rfl
  | r :: L, k, h => by
    obtain ⟨h1, h2⟩ := List.pairwise_cons.1 h
    have ih := mdel_filt (f := f) (K := K) L (k + 1) h2
    by_cases hk : keyR r = K
    · have e : (ents L (k + 1)).filter (fun e => f e.2.1) = (ents L (k + 1)).filter (fun e => f e.2.1 && !decide (keyR e.2.1 = K)) := by
        refine filt_congr L (k + 1) f (fun r => f r && !decide (keyR r = K)) fun a ha => ?_
        have : keyR a ≠ K := fun e => h1 a ha (hk.trans e.symm)
        simp [this]
      cases hf : f r with
      | true => simp only [ents, List.filter_cons, hf, if_true, mdel, hk, decide_true, Bool.not_true, Bool.and_false]; simpa using e
      | false =>
        simp only [ents, List.filter_cons, hf, Bool.false_and]
        simpa using ih
    · cases hf : f r with
      | true =>
        simp only [ents, List.filter_cons, hf, if_true, mdel, if_neg (fun e : K = keyR r => hk e.symm), hk, decide_false, Bool.not_false, Bool.and_true]
        rw [ih]
      | false =>
        simp only [ents, List.filter_cons, hf, Bool.false_and]
        simpa using ih
theorem fate_eq {r : T_Rule} (h : mayB r = true) : fateOf r = rfate r := by
  have : r.Kind = 1 ∨ r.Kind = 2 ∨ r.Kind = 3 := by
    simp only [mayB, Bool.and_eq_true] at h
    have h2 := h.2
    split at h2
    · exact .inl ‹_›
    · split at h2
      · exact .inr ‹_›
      · cases h2
  rcases this with h | h | h <;> simp [rfate, fateOf, h]
theorem askQ {L : List T_Rule} (hL : Good L) {q : List T_Pair} {p : PlanS} (h : InvQ L q p) {x y : Int} (hr : rightB x y = true) (hq : q.length ≤ 1000) :
    (askF p x y).2 = (rfateO (findR L q x y), 0) ∧ InvQ L (askedR q x y) (askF p x y).1 := by
  obtain ⟨x1, x2, y1, y2, hne⟩ := right_rng hr
  have hc := count_le q x y
  have hb : bumpP p.ks x y = (countF q x y : Int) + 1 := by
    unfold bumpP
    rw [h.eqk x y hr, wrap64 (by omega) (by omega)]
  have hca : ((countF (askedR q x y) x y : Nat) : Int) = (countF q x y : Int) + 1 := by rw [count_asked, if_pos ⟨rfl, rfl⟩]; omega
  have hg : mget p.m ⟨x, y, (countF q x y : Int) + 1⟩ = findR L q x y := by
    rw [h.m, mget_filt (by omega) L 0, findR, hca]
  have hks : (p.ks.set (x.toNat * 25 + y.toNat) ((countF q x y : Int) + 1)).length = 625 := by rw [List.length_set]; exact h.len
  have hek : ∀ a b : Int, rightB a b = true → ((p.ks.set (x.toNat * 25 + y.toNat) ((countF q x y : Int) + 1))[a.toNat * 25 + b.toNat]?).getD 0 = (countF (askedR q x y) a b : Int) := by
    intro a b hab
    obtain ⟨a1, a2, b1, b2, _⟩ := right_rng hab
    rw [count_asked, List.getElem?_set]
    by_cases e : x = a ∧ y = b
    · obtain ⟨rfl, rfl⟩ := e
      rw [if_pos rfl, if_pos (by rw [h.len]; omega), if_pos ⟨rfl, rfl⟩]; simp
    · rw [if_neg (by omega), if_neg e]; simpa using h.eqk a b hab
  have hdel : mdel p.m ⟨x, y, (countF q x y : Int) + 1⟩ = (ents L 0).filter (fun e => late (askedR q x y) e.2.1) := by
    rw [h.m, mdel_filt L 0 hL.key]
    exact filt_congr L 0 (fun r => late q r && !decide (keyR r = ⟨x, y, (countF q x y : Int) + 1⟩)) _ fun r _ => (late_asked r).symm
  cases ho : findR L q x y with
  | none =>
    have ha : askF p x y = ({ p with ks := p.ks.set (x.toNat * 25 + y.toNat) ((countF q x y : Int) + 1) }, ⟨1, 0, 0⟩, 0) := by
      simp [askF, hr, hb, hg, ho]
    rw [ha]
    refine ⟨rfl, hks, hek, ?_⟩
    show p.m = _
    rw [← hdel]
    have nod : ∀ (m : MapR) (K : T_message), mget m K = none → mdel m K = m := by
      intro m K
      induction m with
      | nil => intro _; rfl
      | cons e m ih =>
        intro hm
        unfold mget at hm
        split at hm
        · cases hm
        · rename_i hk; simp only [mdel, if_neg hk, ih hm]
    rw [nod _ _ (hg.trans ho)]
  | some r0 =>
    have ha : askF p x y = (⟨mdel p.m ⟨x, y, (countF q x y : Int) + 1⟩, p.clk, p.ks.set (x.toNat * 25 + y.toNat) ((countF q x y : Int) + 1)⟩, fateOf r0, 0) := by
      simp [askF, hr, hb, hg, ho]
    rw [ha]
    have hm0 : r0 ∈ L := List.mem_of_find?_eq_some ho
    exact ⟨by simp only [rfateO, fate_eq (hL.may r0 hm0)], hks, hek, hdel⟩
theorem InvQ.left {L : List T_Rule} {q : List T_Pair} {p : PlanS} (h : InvQ L q p) : p.m.length = leftF L q := by
  rw [h.m]; exact filt_len L 0 (late q)
theorem askF_bad {p : PlanS} {x y : Int} (h : rightB x y = false) : askF p x y = (p, ⟨0, 0, 0⟩, 2) := by simp [askF, h]
end Go.Proofs.Ytnlbcaefljaceaa.Dm
