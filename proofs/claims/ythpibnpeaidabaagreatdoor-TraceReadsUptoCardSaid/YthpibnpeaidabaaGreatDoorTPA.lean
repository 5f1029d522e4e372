/- Parse. -/
import Derived.Test.YthpibnpeaidabaaGreatDoorTW
import Derived.Test.YthpibnpeaidabaaGreatDoorTL2
set_option linter.unusedVariables false
namespace Go.Proofs.YthpibnpeaidabaaGreatDoor.Dm
open Go.Dm
set_option maxHeartbeats 16000000
set_option maxRecDepth 20000
/-- what is read of a text: the events, or the line that is wrong -/
def prK : Nat → List UInt8 → List T_Event → List T_Event ⊕ Nat
  | 0, _, out => .inr out.length
  | k + 1, s, out => if s = [] then .inl out else match evP (cutF s).1 with
    | none => .inr out.length
    | some x => if (cutF s).2.2 = true then prK k (cutF s).2.1 (out ++ [x]) else .inr out.length
def prA (s : List UInt8) : List T_Event ⊕ Nat := prK (s.length + 1) s []
def fltO (c n : Int) : Option AObj := some (.cells true 0 [.int .i64 c, .int .i64 n])
def fltV (top : Nat) : Value := .iface 84 (.pointer (some ⟨top, 0, none⟩))
def prV (s : List UInt8) (top : Nat) : Value × Upds × Nat :=
  if 65536 < s.length then (.tuple ⟨[.slice none 0 0, fltV top]⟩, [(top, fltO 3 0)], top + 1) else match prA s with
  | .inl out => (.tuple ⟨[mkSl top out, .nilIface]⟩, [(top, mkOb e_Event out)], top + 1)
  | .inr n => (.tuple ⟨[.slice none 0 0, fltV top]⟩, [(top, fltO 12 n)], top + 1)
def conPar : Con := .det (fun args hp _ => match args with | [.string ⟨⟨s⟩⟩] => s.length < 4294967281 ∧ VarsOk hp ∧ hp 0 = some tzO | _ => False) (fun args _ top => match args with | [s] => prV (strOf s) top | _ => (undef, [], top))
/-- the rest and the events behind k rounds -/
def prS (s : List UInt8) : Nat → List UInt8 × List T_Event
  | 0 => (s, [])
  | k + 1 => ((cutF (prS s k).1).2.1, (prS s k).2 ++ [(evP (cutF (prS s k).1).1).getD zeroEv])
theorem cut_len (s : List UInt8) : (cutF s).1.length ≤ s.length ∧ (cutF s).2.1.length ≤ s.length ∧ ((cutF s).2.2 = true → (cutF s).2.1.length < s.length) := by
  unfold cutF Lib.cut
  by_cases h : 0 ≤ Lib.index s [10]
  · rw [if_pos h]
    have hs : 0 < s.length := by
      cases s with
      | nil => exact absurd h (by simp [Lib.index])
      | cons a r => simp
    simp only [List.length_take, List.length_drop, List.length_cons, List.length_nil]
    omega
  · rw [if_neg h]; simp
def prOk (s : List UInt8) (k : Nat) : Prop := prA s = prK (s.length + 1 - k) (prS s k).1 (prS s k).2 ∧ k + (prS s k).1.length ≤ s.length ∧ (prS s k).2.length = k
theorem prOk_succ {s : List UInt8} {k : Nat} {x : T_Event} (h : prOk s k) (hn : ¬ (prS s k).1 = []) (he : evP (cutF (prS s k).1).1 = some x) (hi : (cutF (prS s k).1).2.2 = true) : prOk s (k + 1) ∧ (prS s (k + 1)).1.length < (prS s k).1.length ∧ (prS s (k + 1)).2 = (prS s k).2 ++ [x] := by
  obtain ⟨h1, h2, h3⟩ := h
  have hc := (cut_len (prS s k).1).2.2 hi
  have e1 : (prS s (k + 1)).1 = (cutF (prS s k).1).2.1 := rfl
  have e2 : (prS s (k + 1)).2 = (prS s k).2 ++ [x] := by
    show (prS s k).2 ++ [(evP (cutF (prS s k).1).1).getD zeroEv] = _
    rw [he]; rfl
  refine ⟨⟨?_, ?_, ?_⟩, ?_, e2⟩
  · rw [h1, show s.length + 1 - k = (s.length + 1 - (k + 1)) + 1 from by omega, prK, if_neg hn, he]
    dsimp only
    rw [if_pos hi, e1, e2]
  · rw [e1]; omega
  · rw [e2, List.length_append, h3]; rfl
  · rw [e1]; exact hc
def GT7 : FuncId → Con := addG GT6 43 conCut
theorem envT7 : EnvV Tryz.prog tt.get GT7 := envT6.add cut_ok
theorem GT7_c : GT7 43 = conCut := rfl
theorem GT7_e : GT7 12 = conEvent := rfl
theorem GT7_w : GT7 39 = conWrong := rfl
def stPar (hp : Hp) (top : Nat) (s : List UInt8) (k : Nat) : SS := ⟨[(0, .string ⟨⟨(prS s k).1⟩⟩, true), (4, mkSl top (prS s k).2, true)], hp.sets [(top, mkOb e_Event (prS s k).2)], top + 1⟩
theorem slen_strG {h' : Hp} {x : List UInt8} : slen tt.get h' 9 (.string ⟨⟨x⟩⟩) = (.int .i64 (x.length : Int), True) := by
  unfold slen
  simp only [k_string]
  simp [strOf, IsS]
theorem par_ok : ConOk Tryz.prog 13 conPar := by
  refine .mkDet fn13_ok ?_
  intro args hp top hpre hcl hsc
  match args, hpre with
  | [.string ⟨⟨s⟩⟩], ⟨hs, hv, ht⟩ =>
  have hv0 := hv
  obtain ⟨hp1, ⟨ml, hml⟩, hv3, hv4⟩ := hv0
  have ht0 := hcl.lt _ _ ht
  have ht5 := vars_top hcl hv
  have t2 : 2 < top := by omega
  simp only [strOf_string]
  refine CalledOk.of_fun tt_ok fn13_ok rfl 44 rfl [.tmp 2, .tmp 3] rfl (show 1 ≤ 44 by decide) ?_
  by_cases c1 : 65536 < s.length
  · have c1' : (65536 : Int) < (s.length : Int) := by omega
    have e : prV s top = (.tuple ⟨[.slice none 0 0, fltV top]⟩, [(top, fltO 3 0)], top + 1) := by unfold prV; rw [if_pos c1]
    rw [e]
    refine CW.vc envT7 [0, 2, 3, 4, 5, 6, 7, 8, 9, 12, 17, 34] (by kernel_rfl) ?_
    (repeat ((try refine Vc.mk' ?_); simp (config := { maxSteps := 6000000 }) only [go_sem, Nat.reduceAdd, Nat.reduceLeDiff, c1', if_fault, fltV, fltO, slen_strG]))
    (refine ⟨[top], by simp, by simp, by simp, ?_, ?_, ?_⟩ <;> simp [ren, renL, UpdOk.nil, UpdOk.cons, renOO_some, renO_cells, rn_base, set_same, Keep.set, Keep.refl])
  have c1' : ¬ (65536 : Int) < (s.length : Int) := by omega
  refine CW.vc envT7 [0, 2, 3, 4, 5, 6, 7, 8, 9, 12, 17, 34] (by kernel_rfl) ?_
  (repeat ((try refine Vc.mk' ?_); simp (config := { maxSteps := 6000000 }) only [go_sem, c1', slen_strG]))
  refine CW.loopR (stPar hp top s) (prOk s) (fun k => (prS s k).1.length) 0 ⟨rfl, by show 0 + s.length ≤ _; omega, rfl⟩ ?_ ?_
  · exact (by refine SubR.mk' [top] hcl (by simp) (by simp) rfl (frSub_ok ?_) ?_ ?_ <;> simp [frSub, lkG, ren, UpdOk.nil, UpdOk.cons, rn_base, Keep.refl, show (prS s 0).1 = s from rfl, show (prS s 0).2 = [] from rfl, mkSl_nil, mkOb_nil])
  · intro k hk
    have hk0 := hk
    obtain ⟨h1, h2, h3⟩ := hk0
    have hcl2 := cut_len (prS s k).1
    by_cases c2 : (prS s k).1 = []
    · have e : prV s top = (.tuple ⟨[mkSl top (prS s k).2, .nilIface]⟩, [(top, mkOb e_Event (prS s k).2)], top + 1) := by
        unfold prV
        rw [if_neg c1, h1, show s.length + 1 - k = (s.length - k) + 1 from by omega, prK, if_pos c2]
      rw [e]
      refine CW.vc envT7 [0, 2, 3, 4, 5, 6, 7, 8, 9, 12, 17, 34] (by kernel_rfl) ?_
      (repeat ((try refine Vc.mk' ?_); simp (config := { maxSteps := 6000000 }) only [go_sem, stPar, c2, eqB_self]))
      (refine ⟨[top], by simp, by simp, by simp, ?_, ?_, ?_⟩ <;> simp [ren, renL, UpdOk.nil, UpdOk.cons, renOO_mkOb, rn_base, ren_mkSl, set_same, Keep.set, Keep.refl])
    · have hne : eqB (prS s k).1 [] = false := by rw [eqB_eq]; simpa using c2
      have hmx : (∃ m, hp 2 = some (varO 3 (.int .i64 m))) = True := eq_true ⟨ml, hml⟩
      have m1 : ((prS s k).1.length < 4294967281) = True := eq_true (by omega)
      have m2 : ((cutF (prS s k).1).1.length < 4294967281) = True := eq_true (by omega)
      have e0 : prV s top = match prA s with
          | .inl out => (.tuple ⟨[mkSl top out, .nilIface]⟩, [(top, mkOb e_Event out)], top + 1)
          | .inr n => (.tuple ⟨[.slice none 0 0, fltV top]⟩, [(top, fltO 12 n)], top + 1) := by unfold prV; rw [if_neg c1]
      have eK : prA s = (match evP (cutF (prS s k).1).1 with
          | none => .inr (prS s k).2.length
          | some x => if (cutF (prS s k).1).2.2 = true then prK (s.length - k) (cutF (prS s k).1).2.1 ((prS s k).2 ++ [x]) else .inr (prS s k).2.length) := by
        rw [h1, show s.length + 1 - k = (s.length - k) + 1 from by omega, prK, if_neg c2]
      cases he : evP (cutF (prS s k).1).1 with
      | none =>
        have e : prV s top = (.tuple ⟨[.slice none 0 0, fltV top]⟩, [(top, fltO 12 k)], top + 1) := by rw [e0, eK, he]; dsimp only; rw [h3]
        rw [e]
        refine CW.vc envT7 [0, 2, 3, 4, 5, 6, 7, 8, 9, 12, 17, 34] (by kernel_rfl) ?_
        (repeat ((try refine Vc.mk' ?_); simp (config := { maxSteps := 6000000 }) only [go_sem, Nat.reduceAdd, stPar, hne, GT7_c, GT7_e, GT7_w, conCut, conEvent, conWrong, cutV, m1, m2, hv, ht, hmx, vars_set ht5, set_lt ht0, set_lt t2, evV, he, h3, neq_i, fltV, fltO, Bool.or_true]))
        (refine ⟨[top + 3], by simp, by simp, by simp, ?_, ?_, ?_⟩ <;> simp [ren, renL, UpdOk.nil, UpdOk.cons, renOO_some, renO_cells, rn_base, set_same, Keep.set, Keep.refl])
      | some x =>
        cases hi : (cutF (prS s k).1).2.2 with
        | false =>
          have e : prV s top = (.tuple ⟨[.slice none 0 0, fltV top]⟩, [(top, fltO 12 k)], top + 1) := by rw [e0, eK, he]; dsimp only; rw [hi, if_neg (by simp)]; dsimp only; rw [h3]
          rw [e]
          refine CW.vc envT7 [0, 2, 3, 4, 5, 6, 7, 8, 9, 12, 17, 34] (by kernel_rfl) ?_
          (repeat ((try refine Vc.mk' ?_); simp (config := { maxSteps := 6000000 }) only [go_sem, Nat.reduceAdd, stPar, hne, GT7_c, GT7_e, GT7_w, conCut, conEvent, conWrong, cutV, m1, m2, hv, ht, hmx, vars_set ht5, set_lt ht0, set_lt t2, evV, he, hi, h3, neq_n, fltV, fltO]))
          (refine ⟨[top + 2], by simp, by simp, by simp, ?_, ?_, ?_⟩ <;> simp [ren, renL, UpdOk.nil, UpdOk.cons, renOO_some, renO_cells, rn_base, set_same, Keep.set, Keep.refl])
        | true =>
          obtain ⟨n1, n2, n3⟩ := prOk_succ hk c2 he hi
          have n4 : (prS s (k + 1)).1 = (cutF (prS s k).1).2.1 := rfl
          have hap : ∀ {h' : Hp} {j q t : Nat}, h' j = mkOb e_Event (prS s k).2 → h' q = some (.cells true 10 (e_Event.enc x)) → appendA tt.get h' t [22, 22] (mkSl j (prS s k).2) (.slice (some ⟨q, 0, none⟩) 1 1) = some (mkSl t ((prS s k).2 ++ [x]), appU j (prS s k).2 t (mkOb e_Event ((prS s k).2 ++ [x])), t + 1) := fun {h'} {j} {q} {t} a1 a2 => by
            have e3 : cellsOf (h' q) = e_Event.enc x := by rw [a2]; rfl
            have := ap1r_sEvent (hp := h') (b := j) (top := t) (k := q) a1 (by rw [e3]; exact a2) (by rw [e3, e_Event.h]) (roomB_of (by omega) (by decide))
            rwa [e3, e_Event.h] at this
          simp only [en_Event] at hap
          refine CW.vc envT7 [0, 2, 3, 4, 5, 6, 7, 8, 9, 12, 17, 34] (by kernel_rfl) ?_
          (repeat ((try refine Vc.mk' ?_); simp (config := { maxSteps := 6000000 }) only [go_sem, reduceCtorEq, Nat.reduceAdd, Nat.reduceMul, Nat.reduceLeDiff, stPar, hne, GT7_c, GT7_e, conCut, conEvent, cutV, m1, m2, hv, ht, hmx, vars_set ht5, set_lt ht0, set_lt t2, evV, he, hi, neq_n, hap]))
          refine .mk (k + 1) n1 n2 ((by refine SubR.mk' [top + 3] hcl (by simp) (by simp) rfl (frSub_ok ?_) ?_ ?_ <;> simp [frSub, lkG, ren, UpdOk.nil, UpdOk.cons, renOO_mkOb, rn_base, ren_mkSl, set_same, Keep.set, Keep.refl, n3, n4]))
end Go.Proofs.YthpibnpeaidabaaGreatDoor.Dm
