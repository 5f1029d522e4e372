/- The net: DeleteFunc for lost, general parts. -/
import Derived.Test.YtmppehipfpkepaaN13
set_option linter.unusedSimpArgs false
set_option linter.unusedVariables false
namespace Go.Proofs.Ytmppehipfpkepaa.Dm
open Go.Dm
set_option maxHeartbeats 8000000
set_option maxRecDepth 20000
theorem sets_same {b j : Nat} {o o' : Option AObj} (hj : j ≠ b) : ∀ {us : Upds} {h h' : Hp}, (∀ k, k ≠ b → h k = h' k) → (h.sets us) j = (h'.sets us) j
  | [], _, _, hh => hh j hj
  | (k, x) :: us, h, h', hh => by
    rw [sets_cons, sets_cons]
    refine sets_same (o := o) (o' := o') hj fun i hi => ?_
    unfold Hp.set
    split
    · rfl
    · exact hh i hi
/-- what stands behind is forgotten -/
theorem shrink2 {P : Program} {f : FuncId} {args : List Value} {hp : Hp} {top b i z top2 : Nat} {rows : List Value} {us : Upds} (hus : ∀ p ∈ us, p.1 ≠ b)
    (h : CalledOk P f args hp top fun v h1 t1 => ∃ c vs2, v = .slice (some ⟨b, 0, none⟩) i c ∧ h1 = hp.sets ((b, some (.cells true z vs2)) :: us) ∧ t1 = top2 ∧ rows = vs2.take (i * z)) :
    CalledOk P f args hp top fun v h1 t1 => v = ownS b i ∧ h1 = hp.sets ((b, some (.cells true z rows)) :: us) ∧ t1 = top2 := by
  intro φ own w args' ha H htop
  refine (h φ own w args' ha H htop).mono ?_
  rintro e w' ⟨v1, h1, top1, v', φ1, rfl, ⟨c, vs2, rfl, rfl, rfl, rfl⟩, W⟩
  refine ⟨_, _, _, v', φ1, rfl, ⟨rfl, rfl, rfl⟩, ⟨W.le, ?_, ?_, W.k, W.top⟩⟩
  · have hv := W.v
    cases hv with
    | slice _ _ _ _ c' L hL hn hc hl => exact .slice b 0 i i c' L hL (Nat.le_refl _) (Nat.le_trans hn hc) hl
  · have hr := W.hr
    have key : ∀ j o, (hp.sets ((b, some (.cells true z (vs2.take (i * z)))) :: us)) j = some o → ∃ o2, (hp.sets ((b, some (.cells true z vs2)) :: us)) j = some o2 ∧ o2.rw = o.rw ∧ ∀ L x, OkObj φ1 L o2 x → OkObj φ1 L o x := by
      intro j o ho
      by_cases e : j = b
      · subst e
        rw [sets_cons, sets_off hus, set_same, Option.some.injEq] at ho
        subst ho
        refine ⟨.cells true z vs2, by rw [sets_cons, sets_off hus, set_same], rfl, ?_⟩
        rintro L x ⟨he, cc, ty, fz, hg, hsz, hlim, hvs, hfz⟩
        have hle : (vs2.take (i * z)).length ≤ vs2.length := by rw [List.length_take]; exact Nat.min_le_right ..
        refine ⟨he, cc, ty, fz, hg, hsz, by omega, ?_, hfz⟩
        have := hvs.take (i * z)
        rw [List.take_take] at this
        rw [List.length_take]
        exact this
      · have e2 : (hp.sets ((b, some (.cells true z (vs2.take (i * z)))) :: us)) j = (hp.sets ((b, some (.cells true z vs2)) :: us)) j := by
          rw [sets_cons, sets_cons]
          exact sets_same (o := none) (o' := none) e fun k hk => by rw [set_ne _ _ _ _ hk, set_ne _ _ _ _ hk]
        rw [e2] at ho
        exact ⟨o, ho, rfl, fun _ _ h => h⟩
    refine ⟨?_, ?_, ?_, hr.val, hr.fresh⟩
    · intro j o ho
      obtain ⟨o2, h2, _, h4⟩ := key j o ho
      obtain ⟨L, hL, hO⟩ := hr.obj j o2 h2
      exact ⟨L, hL, h4 _ _ hO⟩
    · intro j k oj ok Lj Lk hj hk hne hrw hLj hLk
      obtain ⟨o2, h2, h3, _⟩ := key j oj hj
      obtain ⟨o3, h5, _, _⟩ := key k ok hk
      exact hr.sep j k o2 o3 Lj Lk h2 h5 hne (by rw [h3]; exact hrw) hLj hLk
    · intro j o L ho hrw hL
      obtain ⟨o2, h2, h3, _⟩ := key j o ho
      exact hr.mine j o2 L h2 (by rw [h3]; exact hrw) hL
/-! ### the rows so far, and where the next one goes -/
def keptP {α : Type} (p : α → Bool) (l : List α) : List α := l.filter fun a => !p a
structure DfP {α : Type} (p : α → Bool) (l m : List α) (i j : Nat) : Prop where
  len : m.length = l.length
  lt : i < j
  le : j ≤ l.length
  tk : m.take i = keptP p (l.take j)
  dr : m.drop j = l.drop j
section
variable {α : Type} [Inhabited α] {p : α → Bool} {l m : List α} {i j : Nat}
omit [Inhabited α] in
theorem keptP_append (a b : List α) : keptP p (a ++ b) = keptP p a ++ keptP p b := List.filter_append ..
omit [Inhabited α] in
theorem keptP_le : (keptP p l).length ≤ l.length := List.length_filter_le ..
theorem DfP.skip (h : DfP p l m i j) (hj : j < l.length) (hg : p (at' l j) = true) : DfP p l m i (j + 1) :=
  ⟨h.len, by have := h.lt; omega, hj, by rw [take_at hj, keptP_append, h.tk]; simp [keptP, hg], by rw [← List.drop_drop, h.dr, List.drop_drop]⟩
theorem DfP.at (h : DfP p l m i j) (hj : j < l.length) : at' m j = at' l j := by
  have := h.dr
  rw [drop_at hj, drop_at (by rw [h.len]; exact hj)] at this
  exact (List.cons.inj this).1
theorem DfP.keep (h : DfP p l m i j) (hj : j < l.length) (hg : p (at' l j) = false) : DfP p l (m.set i (at' l j)) (i + 1) (j + 1) := by
  have hlt := h.lt
  have hle := h.le
  have hln := h.len
  refine ⟨by rw [List.length_set, h.len], by omega, hj, ?_, ?_⟩
  · rw [take_at hj, keptP_append, ← h.tk, List.take_succ_eq_append_getElem (by rw [List.length_set]; omega), List.getElem_set_self, List.take_set_of_le (Nat.le_refl _)]
    simp [keptP, hg]
  · rw [List.drop_set_of_lt (by omega), ← List.drop_drop, h.dr, List.drop_drop]
theorem DfP.start (h : l.findIdx p < l.length) : DfP p l l (l.findIdx p) (l.findIdx p + 1) := by
  refine ⟨rfl, by omega, h, ?_, rfl⟩
  rw [take_at h, keptP_append]
  have h2 : p (at' l (l.findIdx p)) = true := by rw [at'_get _ _ h]; exact List.findIdx_getElem
  have h1 : ∀ (l : List α), keptP p (l.take (l.findIdx p)) = l.take (l.findIdx p) := fun l => by
    unfold keptP
    rw [List.filter_eq_self]
    intro a ha
    obtain ⟨k, hk, rfl⟩ := List.getElem_of_mem ha
    rw [List.getElem_take]
    have hk2 : k < l.findIdx p := by simp at hk; omega
    have := List.not_of_lt_findIdx hk2
    simpa using this
  rw [h1]
  simp [keptP, h2]
end
theorem zer_one (n : Nat) : oneCells (zerosA ti124 n) = true := by
  unfold zerosA
  induction n with
  | zero => rfl
  | succ n ih => rw [List.replicate_succ, List.flatten_cons]; exact ih
theorem zer_ren (n : Nat) (ρ : Nat → Nat) : renL ρ (zerosA ti124 n) = zerosA ti124 n := by
  unfold zerosA
  induction n with
  | zero => rfl
  | succ n ih => rw [List.replicate_succ, List.flatten_cons, renL_append, ih]; rfl
theorem clearA_some {tt : TTab} {hp : Hp} {t e b o n c z : Nat} {i j : TI} {vs : List Value} (h1 : tt t = some i) (hu : i.ud = .slice e) (h2 : tt e = some j) (hs : j.size = z) (hb : hp b = some (.cells true z vs)) (hn : o + n * z ≤ vs.length) (h0 : 0 < n) (hz : oneCells (zerosA j n) = true) :
    clearA tt hp [t] (.slice (some ⟨b, o, none⟩) n c) = some [(b, some (.cells true z (splice vs o (zerosA j n))))] := by
  have e1 : Nat.beq n 0 = false := by cases n with
    | zero => omega
    | succ n => rfl
  have e2 : Nat.ble (o + n * j.size) vs.length = true := Nat.ble_eq_true_of_le (by rw [hs]; exact hn)
  simp only [clearA, h1, e1, hu, h2, hb, e2, hz, Bool.and_self]
def dfV {α : Type} (v : Value) (l : List α) : Value := match v with
  | .slice (some ⟨b, _, _⟩) _ _ => ownS b l.length
  | v => v
def dfU {α : Type} (E : Enc α) (v : Value) (l : List α) : Upds := match v with
  | .slice (some ⟨b, _, _⟩) _ _ => [(b, ownO E l)]
  | _ => []
theorem hi_raw {tt : TTab} {t e : TypeId} {j : TI} {h' : Hp} {b n c i z : Nat} {vs : List Value} (hk : kindOf tt t = some (.slice e)) (hj : tt e = some j) (hb : h' b = some (.cells true z vs)) (hi : i ≤ c) :
    sslice tt h' t (.slice (some ⟨b, 0, none⟩) n c) none (some (.int .i64 (i : Int))) = (.slice (some ⟨b, 0, none⟩) i c, True) := by
  simp only [sslice, hk, hj, hb, isBound, sbound, IsN_int, intOf_int, true_and, Prod.mk.injEq, eq_iff_iff, iff_true, Int.toNat_natCast]
  omega
end Go.Proofs.Ytmppehipfpkepaa.Dm
