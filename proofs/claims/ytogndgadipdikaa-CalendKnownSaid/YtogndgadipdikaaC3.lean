/- A result that is one of many; a list cut to its beginning. -/
import Derived.Test.YtogndgadipdikaaC2
set_option linter.unusedSimpArgs false
set_option linter.unusedVariables false
namespace Go.Proofs.Ytogndgadipdikaa.Dm
open Go.Dm
set_option maxHeartbeats 4000000

theorem mkDetE {P : Program} {f : FuncId} {args : List Value} {hp : Hp} {top : Nat} {ι : Type} {Φ : ι → Prop} {r : ι → Value × Upds × Nat}
    (h : Cl hp top → ScL top args → CalledOk P f args hp top fun v1 h1 top1 => ∃ m, Φ m ∧ top ≤ top1 ∧ ∃ bs, RetR hp top bs (r m) v1 h1 top1) :
    CalledOk P f args hp top fun v hp' top' => ∃ m, Φ m ∧ v = (r m).1 ∧ hp' = hp.sets (r m).2.1 ∧ top' = (r m).2.2 := by
  intro φ own w args' ha H htop
  have hcl := H.cl htop
  refine (h hcl (Vs.sc htop ha) φ own w args' ha H htop).mono ?_
  rintro e w' ⟨v1, h1, top1, v', φ1, rfl, ⟨m, hm, ht, bs, R⟩, W⟩
  have hlow : ∀ j, j < top → rn top bs top1 j = j := fun j hj => rn_low hj
  have hhigh : ∀ j, (r m).2.2 ≤ j → top1 ≤ rn top bs top1 j := fun j hj => by rw [rn_high (by rw [← R.tp]; exact hj)]; exact Nat.le_refl _
  refine ⟨(r m).1, hp.sets (r m).2.1, (r m).2.2, v', φ1.via (rn top bs top1), rfl, ⟨m, hm, rfl, rfl, rfl⟩, ⟨?_, ?_, ?_, W.k, ?_⟩⟩
  · intro i L e
    have hi : i < top := by
      rcases Nat.lt_or_ge i top with h | h
      · exact h
      · rw [htop i h] at e; cases e
    unfold Ren.via
    rw [hlow i hi]; exact W.le _ _ e
  · refine V.unren ?_
    rw [← R.v]; exact W.v
  · refine W.hr.unren W.top hhigh (by rw [R.tp]; exact rn_inj R.nodup R.ge) ?_
    exact subHp hcl hlow (r m).2.1 (fun i hi hk => R.keep i hi (fun hm => by obtain ⟨p, h1, h2⟩ := List.mem_map.1 hm; exact hk p h1 h2)) R.upd.get
  · intro j hj
    exact W.top _ (hhigh j hj)
/-- what stands behind is forgotten -/
theorem shrink {P : Program} {f : FuncId} {args : List Value} {hp : Hp} {top b i z : Nat} {rows : List Value}
    (h : CalledOk P f args hp top fun v h1 t1 => ∃ c vs2, v = .slice (some ⟨b, 0, none⟩) i c ∧ h1 = hp.sets [(b, some (.cells true z vs2))] ∧ t1 = top ∧ rows = vs2.take (i * z)) :
    CalledOk P f args hp top fun v h1 t1 => v = ownS b i ∧ h1 = hp.sets [(b, some (.cells true z rows))] ∧ t1 = top := by
  intro φ own w args' ha H htop
  refine (h φ own w args' ha H htop).mono ?_
  rintro e w' ⟨v1, h1, top1, v', φ1, rfl, ⟨c, vs2, rfl, rfl, rfl, rfl⟩, W⟩
  refine ⟨_, _, _, v', φ1, rfl, ⟨rfl, rfl, rfl⟩, ⟨W.le, ?_, ?_, W.k, W.top⟩⟩
  · have hv := W.v
    cases hv with
    | slice _ _ _ _ c' L hL hn hc hl => exact .slice b 0 i i c' L hL (Nat.le_refl _) (Nat.le_trans hn hc) hl
  · have hr := W.hr
    have key : ∀ j o, (hp.sets [(b, some (.cells true z (vs2.take (i * z))))]) j = some o → ∃ o2, (hp.sets [(b, some (.cells true z vs2))]) j = some o2 ∧ o2.rw = o.rw ∧ ∀ L x, OkObj φ1 L o2 x → OkObj φ1 L o x := by
      intro j o ho
      by_cases e : j = b
      · subst e
        simp only [Hp.sets, Hp.set, if_true, Option.some.injEq] at ho ⊢
        subst ho
        refine ⟨_, rfl, rfl, ?_⟩
        rintro L x ⟨he, cc, ty, fz, hg, hsz, hlim, hvs, hfz⟩
        have hle : (vs2.take (i * z)).length ≤ vs2.length := by rw [List.length_take]; exact Nat.min_le_right ..
        refine ⟨he, cc, ty, fz, hg, hsz, by omega, ?_, hfz⟩
        have := hvs.take (i * z)
        rw [List.take_take] at this
        rw [List.length_take]
        exact this
      · simp only [Hp.sets, Hp.set, e, if_false] at ho ⊢
        exact ⟨o, ho, rfl, fun _ _ h => h⟩
    refine ⟨?_, ?_, ?_, hr.val, hr.fresh⟩
    · intro j o ho
      obtain ⟨o2, h2, _, h4⟩ := key j o ho
      obtain ⟨L, hL, hO⟩ := hr.obj j o2 h2
      exact ⟨L, hL, h4 _ _ hO⟩
    · intro j k oj ok Lj Lk hj hk hne hrw hLj hLk
      obtain ⟨o2, h2, h3, _⟩ := key j oj hj
      obtain ⟨o3, h5, _, _⟩ := key k ok hk
      exact hr.sep j k o2 o3 Lj Lk h2 h5 hne (by rw [h3]; exact hrw) hLj hLk
    · intro j o L ho hrw hL
      obtain ⟨o2, h2, h3, _⟩ := key j o ho
      exact hr.mine j o2 L h2 (by rw [h3]; exact hrw) hL
/-- the first one -/
def ixF {α : Type} (p : α → Bool) (l : List α) : Nat := (l.takeWhile fun a => !p a).length
theorem ixF_le {α : Type} (p : α → Bool) (l : List α) : ixF p l ≤ l.length := (List.takeWhile_sublist _).length_le
theorem ixF_at {α : Type} [Inhabited α] {p : α → Bool} {l : List α} {i : Nat} (hi : i ≤ l.length) (h1 : ∀ k, k < i → p (at' l k) = false) (h2 : i < l.length → p (at' l i) = true) : ixF p l = i :=
  tw_len hi (fun k hk => by rw [h1 k hk]; rfl) fun h => by rw [h2 h]; rfl
theorem tw_all {α : Type} {p : α → Bool} : ∀ {l : List α} {a : α}, a ∈ l.takeWhile p → p a = true
  | [], a, h => by cases h
  | b :: l, a, h => by
    rw [List.takeWhile_cons] at h
    split at h
    · rename_i hb
      rcases List.mem_cons.1 h with rfl | h
      · exact hb
      · exact tw_all h
    · cases h
theorem filter_none {α : Type} {p : α → Bool} {l : List α} (h : ixF p l = l.length) : (l.filter fun a => !p a) = l := by
  rw [List.filter_eq_self]
  have h1 : (l.takeWhile fun a => !p a) = l := (List.takeWhile_sublist _).eq_of_length h
  intro a ha
  rw [← h1] at ha
  exact tw_all (p := fun a => !p a) ha
theorem clearA_some {tt : TTab} {hp : Hp} {t e b o n c z : Nat} {i j : TI} {vs : List Value} (h1 : tt t = some i) (hu : i.ud = .slice e) (h2 : tt e = some j) (hs : j.size = z) (hb : hp b = some (.cells true z vs)) (hn : o + n * z ≤ vs.length) (h0 : 0 < n) (hz : oneCells (zerosA j n) = true) :
    clearA tt hp [t] (.slice (some ⟨b, o, none⟩) n c) = some [(b, some (.cells true z (splice vs o (zerosA j n))))] := by
  have e1 : Nat.beq n 0 = false := by cases n with
    | zero => omega
    | succ n => rfl
  have e2 : Nat.ble (o + n * j.size) vs.length = true := Nat.ble_eq_true_of_le (by rw [hs]; exact hn)
  simp only [clearA, h1, e1, hu, h2, hb, e2, hz, Bool.and_self]
def dfV {α : Type} (v : Value) (l : List α) : Value := match v with
  | .slice (some ⟨b, _, _⟩) _ _ => ownS b l.length
  | v => v
def dfU {α : Type} (E : Enc α) (v : Value) (l : List α) : Upds := match v with
  | .slice (some ⟨b, _, _⟩) _ _ => [(b, ownO E l)]
  | _ => []
theorem hi_raw {tt : TTab} {t e : TypeId} {j : TI} {h' : Hp} {b n c i z : Nat} {vs : List Value} (hk : kindOf tt t = some (.slice e)) (hj : tt e = some j) (hb : h' b = some (.cells true z vs)) (hi : i ≤ c) :
    sslice tt h' t (.slice (some ⟨b, 0, none⟩) n c) none (some (.int .i64 (i : Int))) = (.slice (some ⟨b, 0, none⟩) i c, True) := by
  simp only [sslice, hk, hj, hb, isBound, sbound, IsN_int, intOf_int, true_and, Prod.mk.injEq, eq_iff_iff, iff_true, Int.toNat_natCast]
  omega
theorem ixF_spec {α : Type} [Inhabited α] {p : α → Bool} : ∀ {l : List α}, ixF p l < l.length → (l.take (ixF p l)).filter (fun a => !p a) = l.take (ixF p l) ∧ p (at' l (ixF p l)) = true
  | [], h => by simp [ixF] at h
  | a :: l, h => by
    cases c : p a with
    | true =>
      have e : ixF p (a :: l) = 0 := by unfold ixF; rw [List.takeWhile_cons, if_neg (by simp [c])]; rfl
      rw [e]
      exact ⟨rfl, c⟩
    | false =>
      have e : ixF p (a :: l) = ixF p l + 1 := by unfold ixF; rw [List.takeWhile_cons, if_pos (by simp [c]), List.length_cons]
      rw [e] at h ⊢
      obtain ⟨h1, h2⟩ := ixF_spec (p := p) (l := l) (by simp only [List.length_cons] at h; omega)
      refine ⟨?_, ?_⟩
      · rw [List.take_succ_cons, List.filter_cons, if_pos (by simp [c]), h1]
      · exact h2
def rawDf (b top : Nat) (x : List Value × Nat × Nat) : Value × Upds × Nat := (.slice (some ⟨b, 0, none⟩) x.2.1 x.2.2, [(b, some (.cells true 3 x.1))], top)
end Go.Proofs.Ytogndgadipdikaa.Dm
