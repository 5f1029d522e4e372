/- The document's words. -/
import Derived.Test.YthpibnpeaidabaaGreatDoorTW
set_option linter.unusedVariables false
namespace Go.Proofs.YthpibnpeaidabaaGreatDoor.Dm
open Go.Dm
set_option maxHeartbeats 16000000
set_option maxRecDepth 20000
theorem spl_snoc {c : UInt8} : ∀ {x : List UInt8} {o : List (List UInt8)} {p : List UInt8}, spl x = o ++ [p] → spl (x ++ [c]) = if c = 32 then o ++ [p, []] else o ++ [p ++ [c]]
  | [], o, p, h => by
    have h : [[]] = o ++ [p] := h
    cases o with
    | nil =>
      simp at h; subst h
      by_cases hc : c = 32 <;> simp [spl, hc]
    | cons a o => simp at h
  | a :: r, o, p, h => by
    rw [List.cons_append]
    by_cases ha : a = 32
    · rw [spl, if_pos ha] at h ⊢
      cases o with
      | nil => simp at h; exact absurd h.2 (spl_ne r)
      | cons b o =>
        rw [List.cons_append, List.cons.injEq] at h
        rw [spl_snoc h.2, ← h.1]
        by_cases hc : c = 32
        · rw [if_pos hc, if_pos hc]; rfl
        · rw [if_neg hc, if_neg hc]; rfl
    · obtain ⟨hd, t, e⟩ := List.exists_cons_of_ne_nil (spl_ne r)
      have h1 : spl (a :: r) = (a :: hd) :: t := by rw [spl, if_neg ha, e]
      rw [h1] at h
      rw [spl, if_neg ha]
      cases o with
      | nil =>
        simp at h
        obtain ⟨rfl, rfl⟩ := h
        rw [spl_snoc (x := r) (o := []) (p := hd) e]
        by_cases hc : c = 32 <;> simp [hc]
      | cons b o =>
        rw [List.cons_append, List.cons.injEq] at h
        obtain ⟨rfl, rfl⟩ := h
        rw [spl_snoc (x := r) (o := hd :: o) (p := p) e]
        by_cases hc : c = 32 <;> simp [hc]
/-- the pieces and the start of the next one, behind i rounds -/
def wdS (s : List UInt8) : Nat → List (List UInt8) × Nat
  | 0 => ([], 0)
  | i + 1 => if i = s.length ∨ at' s i = 32 then ((wdS s i).1 ++ [(s.drop (wdS s i).2).take (i - (wdS s i).2)], i + 1) else wdS s i
theorem wdS_inv {s : List UInt8} : ∀ i, i ≤ s.length → (wdS s i).2 ≤ i ∧ (wdS s i).1.length ≤ i ∧ spl (s.take i) = (wdS s i).1 ++ [(s.drop (wdS s i).2).take (i - (wdS s i).2)]
  | 0, _ => by simp [wdS, spl]
  | i + 1, h => by
    obtain ⟨h1, h2, h3⟩ := wdS_inv (s := s) i (by omega)
    have ht : s.take (i + 1) = s.take i ++ [at' s i] := by rw [List.take_succ_eq_append_getElem (by omega), at'_get _ _ (by omega)]
    have hs := spl_snoc (c := at' s i) h3
    rw [ht, hs]
    by_cases c : at' s i = 32
    · have e : wdS s (i + 1) = ((wdS s i).1 ++ [(s.drop (wdS s i).2).take (i - (wdS s i).2)], i + 1) := by rw [wdS, if_pos (.inr c)]
      rw [if_pos c, e]
      refine ⟨Nat.le_refl _, by show ((wdS s i).1 ++ [(s.drop (wdS s i).2).take (i - (wdS s i).2)]).length ≤ i + 1; rw [List.length_append]; simp only [List.length_cons, List.length_nil]; omega, by simp⟩
    · have e : wdS s (i + 1) = wdS s i := by rw [wdS, if_neg (by intro h'; rcases h' with h' | h'; omega; exact c h')]
      rw [if_neg c, e]
      refine ⟨by omega, by omega, ?_⟩
      have hx : i - (wdS s i).2 < (s.drop (wdS s i).2).length := by rw [List.length_drop]; omega
      rw [show i + 1 - (wdS s i).2 = (i - (wdS s i).2) + 1 from by omega, List.take_succ_eq_append_getElem hx, List.getElem_drop]
      have : s[(wdS s i).2 + (i - (wdS s i).2)]'(by omega) = at' s i := by rw [at'_get _ _ (by omega)]; congr 1; omega
      rw [this]
theorem wdS_all (s : List UInt8) : (wdS s (s.length + 1)).1 = spl s := by
  obtain ⟨_, _, h3⟩ := wdS_inv (s := s) s.length (Nat.le_refl _)
  rw [List.take_length] at h3
  rw [wdS, if_pos (.inl rfl)]
  exact h3.symm
theorem slen_strW {h' : Hp} {x : List UInt8} : slen tt.get h' 9 (.string ⟨⟨x⟩⟩) = (.int .i64 (x.length : Int), True) := by
  unfold slen
  simp only [k_string]
  simp [strOf, IsS]
theorem slice_strW {h' : Hp} {s : List UInt8} {f i : Nat} (h1 : f ≤ i) (h2 : i ≤ s.length) : sslice tt.get h' 9 (.string ⟨⟨s⟩⟩) (some (.int .i64 (f : Int))) (some (.int .i64 (i : Int))) = (.string ⟨⟨(s.drop f).take (i - f)⟩⟩, True) := by
  unfold sslice
  simp only [k_string]
  simp [sbound, isBound, strOf, IsS, IsN, intOf]
  omega
def conRWords : Con := .det (fun args _ _ => match args with | [.string ⟨⟨s⟩⟩] => s.length ≤ 16000000 | _ => False) (fun args _ top => match args with | [s] => (mkSl top (spl (strOf s)), [(top, mkOb e_string (spl (strOf s)))], top + 1) | _ => (undef, [], top))
def stRW (hp : Hp) (top : Nat) (s : List UInt8) (i : Nat) : SS := ⟨[(0, .string ⟨⟨s⟩⟩, true), (3, mkSl top (wdS s i).1, true), (4, .int .i64 ((wdS s i).2 : Int), true), (5, .int .i64 (i : Int), true)], hp.sets [(top, mkOb e_string (wdS s i).1)], top + 1⟩
theorem rwords_ok : ConOk Tryz.prog 45 conRWords := by
  refine .mkDet fn45_ok ?_
  intro args hp top hpre hcl hsc
  match args, hpre with
  | [.string ⟨⟨s⟩⟩], hs =>
  simp only [strOf_string]
  refine CalledOk.of_fun tt_ok fn45_ok rfl 32 rfl [.tmp 2] rfl (show 1 ≤ 32 by decide) ?_
  refine CW.vc envT6 [0, 2, 3, 4, 5, 9, 21] (by kernel_rfl) ?_
  (repeat ((try refine Vc.mk' ?_); simp (config := { maxSteps := 6000000 }) only [go_sem]))
  refine CW.loopR (stRW hp top s) (fun i => i ≤ s.length + 1) (fun i => s.length + 1 - i) 0 (Nat.zero_le _) ?_ ?_
  · exact (by refine SubR.mk' [top] hcl (by simp) (by simp) rfl (frSub_ok ?_) ?_ ?_ <;> simp [frSub, lkG, ren, UpdOk.nil, UpdOk.cons, rn_base, Keep.refl, wdS, mkSl_nil, mkOb_nil])
  · intro i hi
    by_cases c1 : i ≤ s.length
    · have c1' : (i : Int) ≤ (s.length : Int) := by omega
      have c0 : ¬ s.length < i := by omega
      obtain ⟨v1, v2, _⟩ := wdS_inv (s := s) i c1
      have kk : wrapA .i64 ((i : Int) + 1) = ((i + 1 : Nat) : Int) := by rw [wrap64 (by omega) (by omega)]; omega
      by_cases c2 : i = s.length
      · have c2' : ((i : Int) = (s.length : Int)) = True := eq_true (by omega)
        have e : wdS s (i + 1) = ((wdS s i).1 ++ [(s.drop (wdS s i).2).take (i - (wdS s i).2)], i + 1) := by rw [wdS, if_pos (.inl c2)]
        have n1 : ((wdS s i).2 : Int) ≤ (i : Int) := by omega
        have sl := fun (h' : Hp) => slice_strW (h' := h') (s := s) v1 c1
        have hap : ∀ {h' : Hp} {j q t : Nat}, h' j = mkOb e_string (wdS s i).1 → h' q = some (.cells true 1 [.string ⟨⟨(s.drop (wdS s i).2).take (i - (wdS s i).2)⟩⟩]) → appendA tt.get h' t [58, 58] (mkSl j (wdS s i).1) (.slice (some ⟨q, 0, none⟩) 1 1) = some (mkSl t ((wdS s i).1 ++ [(s.drop (wdS s i).2).take (i - (wdS s i).2)]), appU j (wdS s i).1 t (mkOb e_string ((wdS s i).1 ++ [(s.drop (wdS s i).2).take (i - (wdS s i).2)])), t + 1) := fun {h'} {j} {q} {t} a1 a2 => by
          have e3 : cellsOf (h' q) = e_string.enc ((s.drop (wdS s i).2).take (i - (wdS s i).2)) := by rw [a2]; rfl
          have := ap1r_sstring (hp := h') (b := j) (top := t) (k := q) a1 (by rw [e3]; exact a2) (by rw [e3, e_string.h]) (roomB_of (by omega) (by decide))
          rwa [e3, e_string.h] at this
        refine CW.vc envT6 [0, 2, 3, 4, 5, 9, 21] (by kernel_rfl) ?_
        (repeat ((try refine Vc.mk' ?_); simp (config := { maxSteps := 6000000 }) only [go_sem, reduceCtorEq, Nat.reduceAdd, Nat.reduceMul, Nat.reduceLeDiff, sl, hap, stRW, slen_strW, c0, decide_false, Bool.not_false, c2', kk]))
        refine .mk (i + 1) (by omega) (by omega) ((by refine SubR.mk' [top + 2] hcl (by simp) (by simp) rfl (frSub_ok ?_) ?_ ?_ <;> simp [frSub, lkG, ren, UpdOk.nil, UpdOk.cons, renOO_mkOb, rn_base, ren_mkSl, set_same, Keep.set, Keep.refl, e]))
      · have c2' : ¬ ((i : Int) = (s.length : Int)) := by omega
        have hlt : i < s.length := by omega
        have hat : (s[i]?.getD 0) = at' s i := rfl
        have sl := fun (h' : Hp) => slice_strW (h' := h') (s := s) v1 c1
        have hap : ∀ {h' : Hp} {j q t : Nat}, h' j = mkOb e_string (wdS s i).1 → h' q = some (.cells true 1 [.string ⟨⟨(s.drop (wdS s i).2).take (i - (wdS s i).2)⟩⟩]) → appendA tt.get h' t [58, 58] (mkSl j (wdS s i).1) (.slice (some ⟨q, 0, none⟩) 1 1) = some (mkSl t ((wdS s i).1 ++ [(s.drop (wdS s i).2).take (i - (wdS s i).2)]), appU j (wdS s i).1 t (mkOb e_string ((wdS s i).1 ++ [(s.drop (wdS s i).2).take (i - (wdS s i).2)])), t + 1) := fun {h'} {j} {q} {t} a1 a2 => by
          have e3 : cellsOf (h' q) = e_string.enc ((s.drop (wdS s i).2).take (i - (wdS s i).2)) := by rw [a2]; rfl
          have := ap1r_sstring (hp := h') (b := j) (top := t) (k := q) a1 (by rw [e3]; exact a2) (by rw [e3, e_string.h]) (roomB_of (by omega) (by decide))
          rwa [e3, e_string.h] at this
        by_cases c3 : at' s i = 32
        · have hc : (Int.ofNat (s[i]?.getD 0).toNat = 32) = True := eq_true (by rw [hat, c3]; rfl)
          have e : wdS s (i + 1) = ((wdS s i).1 ++ [(s.drop (wdS s i).2).take (i - (wdS s i).2)], i + 1) := by rw [wdS, if_pos (.inr c3)]
          have n1 : ((wdS s i).2 : Int) ≤ (i : Int) := by omega
          refine CW.vc envT6 [0, 2, 3, 4, 5, 9, 21] (by kernel_rfl) ?_
          (repeat ((try refine Vc.mk' ?_); simp (config := { maxSteps := 6000000 }) only [go_sem, reduceCtorEq, Nat.reduceAdd, Nat.reduceMul, Nat.reduceLeDiff, sl, hap, stRW, slen_strW, c0, decide_false, Bool.not_false, c2', kk, sindex, hlt, hc, decide_true]))
          refine .mk (i + 1) (by omega) (by omega) ((by refine SubR.mk' [top + 2] hcl (by simp) (by simp) rfl (frSub_ok ?_) ?_ ?_ <;> simp [frSub, lkG, ren, UpdOk.nil, UpdOk.cons, renOO_mkOb, rn_base, ren_mkSl, set_same, Keep.set, Keep.refl, e]))
        · have hc : (Int.ofNat (s[i]?.getD 0).toNat = 32) = False := eq_false (by
            rw [hat]; intro h
            apply c3
            apply UInt8.toNat.inj
            have : (at' s i).toNat = 32 := Int.ofNat.inj h
            rw [this]; rfl)
          have e : wdS s (i + 1) = wdS s i := by rw [wdS, if_neg (by rintro (h' | h'); exact c2 h'; exact c3 h')]
          refine CW.vc envT6 [0, 2, 3, 4, 5, 9, 21] (by kernel_rfl) ?_
          (repeat ((try refine Vc.mk' ?_); simp (config := { maxSteps := 6000000 }) only [go_sem, stRW, slen_strW, c0, decide_false, Bool.not_false, c2', kk, sindex, hlt, hc, decide_false]))
          refine .mk (i + 1) (by omega) (by omega) ((by refine SubR.mk' [top] hcl (by simp) (by simp) rfl (frSub_ok ?_) ?_ ?_ <;> simp [frSub, lkG, ren, UpdOk.nil, UpdOk.cons, renOO_mkOb, rn_base, ren_mkSl, set_same, Keep.set, Keep.refl, e]))
    · have hi2 : i = s.length + 1 := by omega
      subst hi2
      have c1' : ¬ ((s.length + 1 : Nat) : Int) ≤ (s.length : Int) := by omega
      refine CW.vc envT6 [0, 2, 3, 4, 5, 9, 21] (by kernel_rfl) ?_
      (repeat ((try refine Vc.mk' ?_); simp (config := { maxSteps := 6000000 }) only [go_sem, stRW, slen_strW]))
      (refine ⟨[top], by simp, by simp, by simp, ?_, ?_, ?_⟩ <;> simp [UpdOk.nil, UpdOk.cons, renOO_mkOb, rn_base, ren_mkSl, set_same, Keep.set, Keep.refl, wdS_all])
end Go.Proofs.YthpibnpeaidabaaGreatDoor.Dm
