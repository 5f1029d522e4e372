/- A calendar of numbers: Drop, Sift. -/
import Derived.Test.YtogndgadipdikaaMi
import Derived.Test.YtogndgadipdikaaC3
set_option linter.unusedSimpArgs false
set_option linter.unusedVariables false
namespace Go.Proofs.Ytogndgadipdikaa.Dm
open Go.Dm
set_option maxHeartbeats 8000000
set_option maxRecDepth 20000

def conD1_i : Con := .pure (fun args hp => match args with | [.agg ⟨p⟩, .pointer (some ⟨b, 0, none⟩)] => e_t74.enc (e_t74.dec p) = p ∧ (∃ k, hp b = some (.cells true 0 [.int .i64 k])) | _ => False)
  (fun args hp => match args with | [.agg ⟨p⟩, .pointer (some ⟨b, _, _⟩)] => .bool (decide ((e_t74.dec p).ticket = intOf ((cellsOf (hp b)).headD undef))) | _ => undef)

theorem d1_i_ok : ConOk Try.prog 48 conD1_i := by
  refine .mkRd fn48_ok ?_ ?_
  · intro args hp h
    match args, h with
    | [.agg ⟨p⟩, .pointer (some ⟨b, 0, none⟩)], _ => rfl
  intro args hp hpre top hcl hsc
  match args, hpre with
  | [.agg ⟨p⟩, .pointer (some ⟨b, 0, none⟩)], ⟨hx, k, hk⟩ =>
  generalize e_t74.dec p = x at hx
  subst hx
  have hbt : b < top := hcl.lt _ _ hk
  have hbn : ¬ b = top := by omega
  refine CalledOk.of_fun tt_ok fn48_ok rfl 8 rfl [.tmp 3] rfl (show 2 ≤ 8 by decide) ?_
  refine CW.vc env8 [0, 1, 2, 3] (by kernel_rfl) ?_
  (simp only [go_sem, reduceIte, reduceCtorEq, Nat.reduceAdd, Nat.reduceMul, Nat.reduceSub, Nat.reduceLT, Nat.reduceLeDiff, Nat.reduceEqDiff, Int.reduceEq, Int.reduceLT, Int.reduceLE, Int.reduceNe, en_t74, hk, hbn, List.headD_cons, intOf_int]; repeat (refine Vc.mk' ?_; simp only [go_sem, reduceIte, reduceCtorEq, Nat.reduceAdd, Nat.reduceMul, Nat.reduceSub, Nat.reduceLT, Nat.reduceLeDiff, Nat.reduceEqDiff, Int.reduceEq, Int.reduceLT, Int.reduceLE, Int.reduceNe, en_t74, hk, hbn, List.headD_cons, intOf_int]))
def conOdd : Con := .pure (fun args _ => match args with | [v] => IsI .i64 v | _ => False) (fun args _ => match args with | [v] => .bool (decide ((intOf v).tmod 2 = 0)) | _ => undef)

theorem odd_ok : ConOk Try.prog 20 conOdd := by
  refine .mkPure fn20_ok ?_
  intro args hp hpre top
  match args, hpre with
  | [v], hv =>
  rw [hv]
  generalize intOf v = v
  refine CalledOk.of_fun tt_ok fn20_ok rfl 6 rfl [.tmp 2] rfl (show 1 ≤ 6 by decide) ?_
  refine CW.vc env8 [0, 2] (by kernel_rfl) ?_
  (simp only [go_sem, reduceIte, reduceCtorEq, Nat.reduceAdd, Nat.reduceMul, Nat.reduceSub, Nat.reduceLT, Nat.reduceLeDiff, Nat.reduceEqDiff, Int.reduceEq, Int.reduceLT, Int.reduceLE, Int.reduceNe]; repeat (refine Vc.mk' ?_; simp only [go_sem, reduceIte, reduceCtorEq, Nat.reduceAdd, Nat.reduceMul, Nat.reduceSub, Nat.reduceLT, Nat.reduceLeDiff, Nat.reduceEqDiff, Int.reduceEq, Int.reduceLT, Int.reduceLE, Int.reduceNe]))
  rfl
def G9 : FuncId → Con := addG (addG G8 48 conD1_i) 20 conOdd
theorem env9 : EnvV Try.prog tt.get G9 := (env8.add d1_i_ok).add odd_ok
theorem G9_odd : G9 20 = conOdd := rfl
def odV : Value := .func (.func 20) ⟨[]⟩ ⟨[]⟩
def isOdd (v : Int) : Bool := !decide (v.tmod 2 = 0)
def conS1_i : Con := .pure (fun args hp => match args with | [.agg ⟨p⟩, .pointer (some ⟨b, 0, none⟩)] => e_t74.enc (e_t74.dec p) = p ∧ hp b = some (.cells true 0 [odV]) | _ => False)
  (fun args _ => match args with | [.agg ⟨p⟩, _] => .bool (isOdd (e_t74.dec p).v) | _ => undef)

theorem s1_i_ok : ConOk Try.prog 50 conS1_i := by
  refine .mkRd fn50_ok ?_ ?_
  · intro args hp h
    match args, h with
    | [.agg ⟨p⟩, .pointer (some ⟨b, 0, none⟩)], _ => rfl
  intro args hp hpre top hcl hsc
  match args, hpre with
  | [.agg ⟨p⟩, .pointer (some ⟨b, 0, none⟩)], ⟨hx, hk⟩ =>
  generalize e_t74.dec p = x at hx
  subst hx
  have hbt : b < top := hcl.lt _ _ hk
  have hbn : ¬ b = top := by omega
  simp only [odV] at hk
  refine CalledOk.of_fun tt_ok fn50_ok rfl 9 rfl [.tmp 3] rfl (show 2 ≤ 9 by decide) ?_
  refine CW.vc env9 [0, 1, 2, 3] (by kernel_rfl) ?_
  (simp only [go_sem, reduceIte, reduceCtorEq, Nat.reduceAdd, Nat.reduceMul, Nat.reduceSub, Nat.reduceLT, Nat.reduceLeDiff, Nat.reduceEqDiff, Int.reduceEq, Int.reduceLT, Int.reduceLE, Int.reduceNe, en_t74, hk, hbn, G9_odd, conOdd, intOf_int, isOdd]; repeat (refine Vc.mk' ?_; simp only [go_sem, reduceIte, reduceCtorEq, Nat.reduceAdd, Nat.reduceMul, Nat.reduceSub, Nat.reduceLT, Nat.reduceLeDiff, Nat.reduceEqDiff, Int.reduceEq, Int.reduceLT, Int.reduceLE, Int.reduceNe, en_t74, hk, hbn, G9_odd, conOdd, intOf_int, isOdd]))
  rfl
/-! ### the first one -/
def drV (b : Nat) : Value := .func (.func 48) ⟨[]⟩ ⟨[.pointer (some ⟨b, 0, none⟩)]⟩
def siV (b : Nat) : Value := .func (.func 50) ⟨[]⟩ ⟨[.pointer (some ⟨b, 0, none⟩)]⟩
def FnOk_i (hp : Hp) (f : Value) : Prop := (∃ b k, f = drV b ∧ hp b = some (.cells true 0 [.int .i64 k])) ∨ (∃ b, f = siV b ∧ hp b = some (.cells true 0 [odV]))
def fnF_i (hp : Hp) : Value → T_t74 → Bool
  | .func (.func g) _ ⟨[.pointer (some ⟨b, _, _⟩)]⟩ => if g = 48 then fun a => decide (a.ticket = intOf ((cellsOf (hp b)).headD undef)) else fun a => isOdd a.v
  | _ => fun _ => false
theorem fnF_dr {hp : Hp} {b : Nat} {k : Int} (h : hp b = some (.cells true 0 [.int .i64 k])) : fnF_i hp (drV b) = fun a => decide (a.ticket = k) := by
  show (fun a : T_t74 => decide (a.ticket = intOf ((cellsOf (hp b)).headD undef))) = _
  rw [h]; rfl
theorem fnF_si {hp : Hp} {b : Nat} : fnF_i hp (siV b) = fun a => isOdd a.v := rfl
def ixRes (i n : Nat) : Int := if i < n then (i : Int) else -1
def conIx_i : Con := .pure (fun args hp => match args with | [v, f] => SlP e_t74 hp v ∧ FnOk_i hp f | _ => False) (fun args hp => match args with
  | [v, f] => .int .i64 (ixRes (ixF (fnF_i hp f) (e_t74.rd hp v)) (e_t74.rd hp v).length) | _ => undef)
def stIx (hp : Hp) (top : Nat) (v f : Value) (n i : Nat) : SS := ⟨[(0, v, true), (1, f, true), (7, .int .i64 (n : Int), true), (8, .int .i64 (i : Int), true)], hp.sets [], top + 0⟩
def G10 : FuncId → Con := addG G9 50 conS1_i
theorem env10 : EnvV Try.prog tt.get G10 := env9.add s1_i_ok
theorem G10_d1 : G10 48 = conD1_i := rfl
theorem G10_s1 : G10 50 = conS1_i := rfl

theorem ix_i_ok : ConOk Try.prog 47 conIx_i := by
  refine .mkRd fn47_ok ?_ ?_
  · intro args hp h
    match args, h with
    | [v, f], _ => rfl
  intro args hp hpre top hcl hsc
  match args, hpre with
  | [v, f], ⟨⟨l, h⟩, hf⟩ =>
  have hs := h.low hcl
  have hl63 := h.le
  simp only [h.rd]
  rcases hf with ⟨b, k, rfl, hk⟩ | ⟨b, rfl, hk⟩
  · rw [fnF_dr hk]
    have hbt : b < top := hcl.lt _ _ hk
    have hkd : (∃ k', some (AObj.cells true 0 [.int .i64 k]) = some (AObj.cells true 0 [.int .i64 k'])) = True := eq_true ⟨k, rfl⟩
    have hkv : ∀ {h' : Hp}, Keep top [] h' hp → h' b = some (.cells true 0 [.int .i64 k]) := fun hk' => by rw [hk' b hbt (by simp)]; exact hk
    refine CalledOk.of_fun tt_ok fn47_ok rfl 19 rfl [.tmp 4] rfl (show 2 ≤ 19 by decide) ?_
    refine CW.vc env10 [0, 1, 4, 5, 7, 8, 9, 16] (by kernel_rfl) ?_
    (simp only [go_sem, reduceIte, reduceCtorEq, Nat.reduceAdd, Nat.reduceMul, Nat.reduceSub, Nat.reduceLT, Nat.reduceLeDiff, Nat.reduceEqDiff, Int.reduceEq, Int.reduceLT, Int.reduceLE, Int.reduceNe, len_st74 h, idx_st74 h, ld_st74 h, sh_st74 h, sw_st74 h, sf_st74_0 h, sc_st74_0 h, sf_st74_1 h, sc_st74_1 h, sf_st74_2 h, sc_st74_2 h, h.P, h.oc, h.cl, h.rd, h.ref, strip_P hs, strip_rd hs, strip_ld hs, strip_sl h hs k_st74, G10_d1, conD1_i, G10_s1, conS1_i]; repeat (refine Vc.mk' ?_; simp only [go_sem, reduceIte, reduceCtorEq, Nat.reduceAdd, Nat.reduceMul, Nat.reduceSub, Nat.reduceLT, Nat.reduceLeDiff, Nat.reduceEqDiff, Int.reduceEq, Int.reduceLT, Int.reduceLE, Int.reduceNe, len_st74 h, idx_st74 h, ld_st74 h, sh_st74 h, sw_st74 h, sf_st74_0 h, sc_st74_0 h, sf_st74_1 h, sc_st74_1 h, sf_st74_2 h, sc_st74_2 h, h.P, h.oc, h.cl, h.rd, h.ref, strip_P hs, strip_rd hs, strip_ld hs, strip_sl h hs k_st74, G10_d1, conD1_i, G10_s1, conS1_i]))
    refine CW.loopR (stIx hp top v (drV b) l.length) (fun i => i ≤ l.length ∧ ∀ k', k' < i → decide ((at' l k').ticket = k) = false) (fun i => l.length - i) 0 ⟨Nat.zero_le _, fun k' h' => absurd h' (Nat.not_lt_zero _)⟩ ?_ ?_
    · exact SubR.mk' [] hcl (by simp) (by simp) rfl (frSub_ok (by simp [frSub, lkG, ren, renL, renL_set, renL_ints, UpdOk.nil, UpdOk.cons, renOO_some, renO_cells, renO_map, renOO_mkOb, rn_base, rn_add, ren_mkSl, Enc.flat_ren, set_same, set_ne, sets_cons, sets_nil, Keep.set, Keep.setK, Keep.refl, Sc.ren (fun j hj => rn_low hj) hs, drV, rn_low hbt, Int.natCast_zero])) (by simp [frSub, lkG, ren, renL, renL_set, renL_ints, UpdOk.nil, UpdOk.cons, renOO_some, renO_cells, renO_map, renOO_mkOb, rn_base, rn_add, ren_mkSl, Enc.flat_ren, set_same, set_ne, sets_cons, sets_nil, Keep.set, Keep.setK, Keep.refl, Sc.ren (fun j hj => rn_low hj) hs, drV, rn_low hbt, Int.natCast_zero]) (by simp [frSub, lkG, ren, renL, renL_set, renL_ints, UpdOk.nil, UpdOk.cons, renOO_some, renO_cells, renO_map, renOO_mkOb, rn_base, rn_add, ren_mkSl, Enc.flat_ren, set_same, set_ne, sets_cons, sets_nil, Keep.set, Keep.setK, Keep.refl, Sc.ren (fun j hj => rn_low hj) hs, drV, rn_low hbt, Int.natCast_zero])
    · rintro i ⟨hi, hlo⟩
      by_cases hlt : i < l.length
      · by_cases c1 : (at' l i).ticket = k
        · have hix := ixF_at (p := fun a => decide (a.ticket = k)) hi hlo fun _ => decide_eq_true c1
          refine CW.vc env10 [0, 1, 4, 5, 7, 8, 9, 16] (by kernel_rfl) ?_
          (simp only [go_sem, reduceIte, reduceCtorEq, Nat.reduceAdd, Nat.reduceMul, Nat.reduceSub, Nat.reduceLT, Nat.reduceLeDiff, Nat.reduceEqDiff, Int.reduceEq, Int.reduceLT, Int.reduceLE, Int.reduceNe, len_st74 h, idx_st74 h, ld_st74 h, sh_st74 h, sw_st74 h, sf_st74_0 h, sc_st74_0 h, sf_st74_1 h, sc_st74_1 h, sf_st74_2 h, sc_st74_2 h, h.P, h.oc, h.cl, h.rd, h.ref, strip_P hs, strip_rd hs, strip_ld hs, strip_sl h hs k_st74, G10_d1, conD1_i, G10_s1, conS1_i, stIx, drV, hlt, hkd, hkv, en_t74, c1, List.headD_cons, intOf_int, hix, ixRes]; repeat (refine Vc.mk' ?_; simp only [go_sem, reduceIte, reduceCtorEq, Nat.reduceAdd, Nat.reduceMul, Nat.reduceSub, Nat.reduceLT, Nat.reduceLeDiff, Nat.reduceEqDiff, Int.reduceEq, Int.reduceLT, Int.reduceLE, Int.reduceNe, len_st74 h, idx_st74 h, ld_st74 h, sh_st74 h, sw_st74 h, sf_st74_0 h, sc_st74_0 h, sf_st74_1 h, sc_st74_1 h, sf_st74_2 h, sc_st74_2 h, h.P, h.oc, h.cl, h.rd, h.ref, strip_P hs, strip_rd hs, strip_ld hs, strip_sl h hs k_st74, G10_d1, conD1_i, G10_s1, conS1_i, stIx, drV, hlt, hkd, hkv, en_t74, c1, List.headD_cons, intOf_int, hix, ixRes]))
        · refine CW.vc env10 [0, 1, 4, 5, 7, 8, 9, 16] (by kernel_rfl) ?_
          (simp only [go_sem, reduceIte, reduceCtorEq, Nat.reduceAdd, Nat.reduceMul, Nat.reduceSub, Nat.reduceLT, Nat.reduceLeDiff, Nat.reduceEqDiff, Int.reduceEq, Int.reduceLT, Int.reduceLE, Int.reduceNe, len_st74 h, idx_st74 h, ld_st74 h, sh_st74 h, sw_st74 h, sf_st74_0 h, sc_st74_0 h, sf_st74_1 h, sc_st74_1 h, sf_st74_2 h, sc_st74_2 h, h.P, h.oc, h.cl, h.rd, h.ref, strip_P hs, strip_rd hs, strip_ld hs, strip_sl h hs k_st74, G10_d1, conD1_i, G10_s1, conS1_i, stIx, drV, hlt, hkd, hkv, en_t74, c1, List.headD_cons, intOf_int]; repeat (refine Vc.mk' ?_; simp only [go_sem, reduceIte, reduceCtorEq, Nat.reduceAdd, Nat.reduceMul, Nat.reduceSub, Nat.reduceLT, Nat.reduceLeDiff, Nat.reduceEqDiff, Int.reduceEq, Int.reduceLT, Int.reduceLE, Int.reduceNe, len_st74 h, idx_st74 h, ld_st74 h, sh_st74 h, sw_st74 h, sf_st74_0 h, sc_st74_0 h, sf_st74_1 h, sc_st74_1 h, sf_st74_2 h, sc_st74_2 h, h.P, h.oc, h.cl, h.rd, h.ref, strip_P hs, strip_rd hs, strip_ld hs, strip_sl h hs k_st74, G10_d1, conD1_i, G10_s1, conS1_i, stIx, drV, hlt, hkd, hkv, en_t74, c1, List.headD_cons, intOf_int]))
          refine .mk (i + 1) ⟨hlt, fun k' h' => ?_⟩ (by omega) (SubR.mk' [] hcl (by simp) (by simp) rfl (frSub_ok (by simp [frSub, lkG, ren, renL, renL_set, renL_ints, UpdOk.nil, UpdOk.cons, renOO_some, renO_cells, renO_map, renOO_mkOb, rn_base, rn_add, ren_mkSl, Enc.flat_ren, set_same, set_ne, sets_cons, sets_nil, Keep.set, Keep.setK, Keep.refl, Sc.ren (fun j hj => rn_low hj) hs, drV, rn_low hbt, wrap_succ hlt hl63])) (by simp [frSub, lkG, ren, renL, renL_set, renL_ints, UpdOk.nil, UpdOk.cons, renOO_some, renO_cells, renO_map, renOO_mkOb, rn_base, rn_add, ren_mkSl, Enc.flat_ren, set_same, set_ne, sets_cons, sets_nil, Keep.set, Keep.setK, Keep.refl, Sc.ren (fun j hj => rn_low hj) hs, drV, rn_low hbt, wrap_succ hlt hl63]) (by simp [frSub, lkG, ren, renL, renL_set, renL_ints, UpdOk.nil, UpdOk.cons, renOO_some, renO_cells, renO_map, renOO_mkOb, rn_base, rn_add, ren_mkSl, Enc.flat_ren, set_same, set_ne, sets_cons, sets_nil, Keep.set, Keep.setK, Keep.refl, Sc.ren (fun j hj => rn_low hj) hs, drV, rn_low hbt, wrap_succ hlt hl63]))
          by_cases e : k' < i
          · exact of_decide_eq_false (hlo k' e)
          · have e2 : k' = i := by omega
            subst e2
            exact c1
      · have hi2 : i = l.length := by omega
        subst hi2
        have hix := ixF_at (p := fun a => decide (a.ticket = k)) hi hlo fun h => absurd h (Nat.lt_irrefl _)
        refine CW.vc env10 [0, 1, 4, 5, 7, 8, 9, 16] (by kernel_rfl) ?_
        (simp only [go_sem, reduceIte, reduceCtorEq, Nat.reduceAdd, Nat.reduceMul, Nat.reduceSub, Nat.reduceLT, Nat.reduceLeDiff, Nat.reduceEqDiff, Int.reduceEq, Int.reduceLT, Int.reduceLE, Int.reduceNe, len_st74 h, idx_st74 h, ld_st74 h, sh_st74 h, sw_st74 h, sf_st74_0 h, sc_st74_0 h, sf_st74_1 h, sc_st74_1 h, sf_st74_2 h, sc_st74_2 h, h.P, h.oc, h.cl, h.rd, h.ref, strip_P hs, strip_rd hs, strip_ld hs, strip_sl h hs k_st74, G10_d1, conD1_i, G10_s1, conS1_i, stIx, drV, Nat.lt_irrefl, decide_false, hix, ixRes]; repeat (refine Vc.mk' ?_; simp only [go_sem, reduceIte, reduceCtorEq, Nat.reduceAdd, Nat.reduceMul, Nat.reduceSub, Nat.reduceLT, Nat.reduceLeDiff, Nat.reduceEqDiff, Int.reduceEq, Int.reduceLT, Int.reduceLE, Int.reduceNe, len_st74 h, idx_st74 h, ld_st74 h, sh_st74 h, sw_st74 h, sf_st74_0 h, sc_st74_0 h, sf_st74_1 h, sc_st74_1 h, sf_st74_2 h, sc_st74_2 h, h.P, h.oc, h.cl, h.rd, h.ref, strip_P hs, strip_rd hs, strip_ld hs, strip_sl h hs k_st74, G10_d1, conD1_i, G10_s1, conS1_i, stIx, drV, Nat.lt_irrefl, decide_false, hix, ixRes]))
  · rw [fnF_si]
    have hbt : b < top := hcl.lt _ _ hk
    have hkv : ∀ {h' : Hp}, Keep top [] h' hp → h' b = some (.cells true 0 [odV]) := fun hk' => by rw [hk' b hbt (by simp)]; exact hk
    refine CalledOk.of_fun tt_ok fn47_ok rfl 19 rfl [.tmp 4] rfl (show 2 ≤ 19 by decide) ?_
    refine CW.vc env10 [0, 1, 4, 5, 7, 8, 9, 16] (by kernel_rfl) ?_
    (simp only [go_sem, reduceIte, reduceCtorEq, Nat.reduceAdd, Nat.reduceMul, Nat.reduceSub, Nat.reduceLT, Nat.reduceLeDiff, Nat.reduceEqDiff, Int.reduceEq, Int.reduceLT, Int.reduceLE, Int.reduceNe, len_st74 h, idx_st74 h, ld_st74 h, sh_st74 h, sw_st74 h, sf_st74_0 h, sc_st74_0 h, sf_st74_1 h, sc_st74_1 h, sf_st74_2 h, sc_st74_2 h, h.P, h.oc, h.cl, h.rd, h.ref, strip_P hs, strip_rd hs, strip_ld hs, strip_sl h hs k_st74, G10_d1, conD1_i, G10_s1, conS1_i]; repeat (refine Vc.mk' ?_; simp only [go_sem, reduceIte, reduceCtorEq, Nat.reduceAdd, Nat.reduceMul, Nat.reduceSub, Nat.reduceLT, Nat.reduceLeDiff, Nat.reduceEqDiff, Int.reduceEq, Int.reduceLT, Int.reduceLE, Int.reduceNe, len_st74 h, idx_st74 h, ld_st74 h, sh_st74 h, sw_st74 h, sf_st74_0 h, sc_st74_0 h, sf_st74_1 h, sc_st74_1 h, sf_st74_2 h, sc_st74_2 h, h.P, h.oc, h.cl, h.rd, h.ref, strip_P hs, strip_rd hs, strip_ld hs, strip_sl h hs k_st74, G10_d1, conD1_i, G10_s1, conS1_i]))
    refine CW.loopR (stIx hp top v (siV b) l.length) (fun i => i ≤ l.length ∧ ∀ k', k' < i → isOdd (at' l k').v = false) (fun i => l.length - i) 0 ⟨Nat.zero_le _, fun k' h' => absurd h' (Nat.not_lt_zero _)⟩ ?_ ?_
    · exact SubR.mk' [] hcl (by simp) (by simp) rfl (frSub_ok (by simp [frSub, lkG, ren, renL, renL_set, renL_ints, UpdOk.nil, UpdOk.cons, renOO_some, renO_cells, renO_map, renOO_mkOb, rn_base, rn_add, ren_mkSl, Enc.flat_ren, set_same, set_ne, sets_cons, sets_nil, Keep.set, Keep.setK, Keep.refl, Sc.ren (fun j hj => rn_low hj) hs, siV, rn_low hbt, Int.natCast_zero])) (by simp [frSub, lkG, ren, renL, renL_set, renL_ints, UpdOk.nil, UpdOk.cons, renOO_some, renO_cells, renO_map, renOO_mkOb, rn_base, rn_add, ren_mkSl, Enc.flat_ren, set_same, set_ne, sets_cons, sets_nil, Keep.set, Keep.setK, Keep.refl, Sc.ren (fun j hj => rn_low hj) hs, siV, rn_low hbt, Int.natCast_zero]) (by simp [frSub, lkG, ren, renL, renL_set, renL_ints, UpdOk.nil, UpdOk.cons, renOO_some, renO_cells, renO_map, renOO_mkOb, rn_base, rn_add, ren_mkSl, Enc.flat_ren, set_same, set_ne, sets_cons, sets_nil, Keep.set, Keep.setK, Keep.refl, Sc.ren (fun j hj => rn_low hj) hs, siV, rn_low hbt, Int.natCast_zero])
    · rintro i ⟨hi, hlo⟩
      by_cases hlt : i < l.length
      · cases c1 : isOdd (at' l i).v with
        | true =>
          have hix := ixF_at (p := fun a => isOdd a.v) hi hlo fun _ => c1
          refine CW.vc env10 [0, 1, 4, 5, 7, 8, 9, 16] (by kernel_rfl) ?_
          (simp only [go_sem, reduceIte, reduceCtorEq, Nat.reduceAdd, Nat.reduceMul, Nat.reduceSub, Nat.reduceLT, Nat.reduceLeDiff, Nat.reduceEqDiff, Int.reduceEq, Int.reduceLT, Int.reduceLE, Int.reduceNe, len_st74 h, idx_st74 h, ld_st74 h, sh_st74 h, sw_st74 h, sf_st74_0 h, sc_st74_0 h, sf_st74_1 h, sc_st74_1 h, sf_st74_2 h, sc_st74_2 h, h.P, h.oc, h.cl, h.rd, h.ref, strip_P hs, strip_rd hs, strip_ld hs, strip_sl h hs k_st74, G10_d1, conD1_i, G10_s1, conS1_i, stIx, siV, hlt, hkv, en_t74, c1, hix, ixRes]; repeat (refine Vc.mk' ?_; simp only [go_sem, reduceIte, reduceCtorEq, Nat.reduceAdd, Nat.reduceMul, Nat.reduceSub, Nat.reduceLT, Nat.reduceLeDiff, Nat.reduceEqDiff, Int.reduceEq, Int.reduceLT, Int.reduceLE, Int.reduceNe, len_st74 h, idx_st74 h, ld_st74 h, sh_st74 h, sw_st74 h, sf_st74_0 h, sc_st74_0 h, sf_st74_1 h, sc_st74_1 h, sf_st74_2 h, sc_st74_2 h, h.P, h.oc, h.cl, h.rd, h.ref, strip_P hs, strip_rd hs, strip_ld hs, strip_sl h hs k_st74, G10_d1, conD1_i, G10_s1, conS1_i, stIx, siV, hlt, hkv, en_t74, c1, hix, ixRes]))
        | false =>
          refine CW.vc env10 [0, 1, 4, 5, 7, 8, 9, 16] (by kernel_rfl) ?_
          (simp only [go_sem, reduceIte, reduceCtorEq, Nat.reduceAdd, Nat.reduceMul, Nat.reduceSub, Nat.reduceLT, Nat.reduceLeDiff, Nat.reduceEqDiff, Int.reduceEq, Int.reduceLT, Int.reduceLE, Int.reduceNe, len_st74 h, idx_st74 h, ld_st74 h, sh_st74 h, sw_st74 h, sf_st74_0 h, sc_st74_0 h, sf_st74_1 h, sc_st74_1 h, sf_st74_2 h, sc_st74_2 h, h.P, h.oc, h.cl, h.rd, h.ref, strip_P hs, strip_rd hs, strip_ld hs, strip_sl h hs k_st74, G10_d1, conD1_i, G10_s1, conS1_i, stIx, siV, hlt, hkv, en_t74, c1]; repeat (refine Vc.mk' ?_; simp only [go_sem, reduceIte, reduceCtorEq, Nat.reduceAdd, Nat.reduceMul, Nat.reduceSub, Nat.reduceLT, Nat.reduceLeDiff, Nat.reduceEqDiff, Int.reduceEq, Int.reduceLT, Int.reduceLE, Int.reduceNe, len_st74 h, idx_st74 h, ld_st74 h, sh_st74 h, sw_st74 h, sf_st74_0 h, sc_st74_0 h, sf_st74_1 h, sc_st74_1 h, sf_st74_2 h, sc_st74_2 h, h.P, h.oc, h.cl, h.rd, h.ref, strip_P hs, strip_rd hs, strip_ld hs, strip_sl h hs k_st74, G10_d1, conD1_i, G10_s1, conS1_i, stIx, siV, hlt, hkv, en_t74, c1]))
          refine .mk (i + 1) ⟨hlt, fun k' h' => ?_⟩ (by omega) (SubR.mk' [] hcl (by simp) (by simp) rfl (frSub_ok (by simp [frSub, lkG, ren, renL, renL_set, renL_ints, UpdOk.nil, UpdOk.cons, renOO_some, renO_cells, renO_map, renOO_mkOb, rn_base, rn_add, ren_mkSl, Enc.flat_ren, set_same, set_ne, sets_cons, sets_nil, Keep.set, Keep.setK, Keep.refl, Sc.ren (fun j hj => rn_low hj) hs, siV, rn_low hbt, wrap_succ hlt hl63])) (by simp [frSub, lkG, ren, renL, renL_set, renL_ints, UpdOk.nil, UpdOk.cons, renOO_some, renO_cells, renO_map, renOO_mkOb, rn_base, rn_add, ren_mkSl, Enc.flat_ren, set_same, set_ne, sets_cons, sets_nil, Keep.set, Keep.setK, Keep.refl, Sc.ren (fun j hj => rn_low hj) hs, siV, rn_low hbt, wrap_succ hlt hl63]) (by simp [frSub, lkG, ren, renL, renL_set, renL_ints, UpdOk.nil, UpdOk.cons, renOO_some, renO_cells, renO_map, renOO_mkOb, rn_base, rn_add, ren_mkSl, Enc.flat_ren, set_same, set_ne, sets_cons, sets_nil, Keep.set, Keep.setK, Keep.refl, Sc.ren (fun j hj => rn_low hj) hs, siV, rn_low hbt, wrap_succ hlt hl63]))
          by_cases e : k' < i
          · exact hlo k' e
          · have e2 : k' = i := by omega
            subst e2
            exact c1
      · have hi2 : i = l.length := by omega
        subst hi2
        have hix := ixF_at (p := fun a : T_t74 => isOdd a.v) hi hlo fun h => absurd h (Nat.lt_irrefl _)
        refine CW.vc env10 [0, 1, 4, 5, 7, 8, 9, 16] (by kernel_rfl) ?_
        (simp only [go_sem, reduceIte, reduceCtorEq, Nat.reduceAdd, Nat.reduceMul, Nat.reduceSub, Nat.reduceLT, Nat.reduceLeDiff, Nat.reduceEqDiff, Int.reduceEq, Int.reduceLT, Int.reduceLE, Int.reduceNe, len_st74 h, idx_st74 h, ld_st74 h, sh_st74 h, sw_st74 h, sf_st74_0 h, sc_st74_0 h, sf_st74_1 h, sc_st74_1 h, sf_st74_2 h, sc_st74_2 h, h.P, h.oc, h.cl, h.rd, h.ref, strip_P hs, strip_rd hs, strip_ld hs, strip_sl h hs k_st74, G10_d1, conD1_i, G10_s1, conS1_i, stIx, siV, Nat.lt_irrefl, decide_false, hix, ixRes]; repeat (refine Vc.mk' ?_; simp only [go_sem, reduceIte, reduceCtorEq, Nat.reduceAdd, Nat.reduceMul, Nat.reduceSub, Nat.reduceLT, Nat.reduceLeDiff, Nat.reduceEqDiff, Int.reduceEq, Int.reduceLT, Int.reduceLE, Int.reduceNe, len_st74 h, idx_st74 h, ld_st74 h, sh_st74 h, sw_st74 h, sf_st74_0 h, sc_st74_0 h, sf_st74_1 h, sc_st74_1 h, sf_st74_2 h, sc_st74_2 h, h.P, h.oc, h.cl, h.rd, h.ref, strip_P hs, strip_rd hs, strip_ld hs, strip_sl h hs k_st74, G10_d1, conD1_i, G10_s1, conS1_i, stIx, siV, Nat.lt_irrefl, decide_false, hix, ixRes]))
end Go.Proofs.Ytogndgadipdikaa.Dm
