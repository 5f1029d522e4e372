/- BitsOf: what it computes. -/
import Derived.Test.YtkofmbhopmgmhaaDoorBP
set_option linter.unusedSimpArgs false
set_option linter.unusedVariables false
namespace Go.Proofs.YtkofmbhopmgmhaaDoor.Dm
open Go.Dm
set_option maxHeartbeats 8000000

theorem G10_rright : G10 47 = con1 rightB := rfl
theorem G10_put : G10 48 = conPut := rfl
theorem G10_of : G10 12 = conOf := rfl
def stROf (hp : Hp) (top : Nat) (v : Value) (x : Nat × T_Bits) : SS := ⟨[(0, v, true), (2, .pointer (some ⟨top, 0, none⟩), true), (4, .pointer (some ⟨top + 1, 0, none⟩), true), (5, .int .i64 (x.1 : Int), true)], hp.sets [(top, some (.cells true 0 (bl zb))), (top + 1, some (.cells true 0 (bl x.2)))], top + 2⟩

theorem rof_ok : ConOk Tryd.prog 13 conOf := by
  refine .mkRd fn13_ok ?_ ?_
  · rintro args hp h
    match args, h with
    | [_], ⟨l, h⟩ => rfl
  intro args hp hpre top hcl hsc
  match args, hpre with
  | [v], ⟨l, hA⟩ =>
  have hAs := hA.low hcl
  have hle := hA.le
  simp only [hA.rd]
  refine CalledOk.of_fun tt_ok fn13_ok rfl 26 rfl [.cell 2 25, .tmp 3] rfl (show 1 ≤ 26 by decide) ?_
  refine CW.vc env10 [0, 2, 3, 4, 5, 9, 17] (by kernel_rfl) ?_
  (simp (config := { maxSteps := 4000000 }) only [go_sem, reduceIte, reduceCtorEq, Nat.reduceAdd, Nat.reduceMul, Nat.reduceSub, Nat.reduceLT, Nat.reduceLeDiff, Nat.reduceEqDiff, Int.reduceEq, Int.reduceLT, Int.reduceLE, Int.reduceNe, rem64, mask64, c_iu, wrapu_mod, bl_len, bl_take, bl_ren, bl_app, bl_one, bOf_bl, Nat.mul_one, len_sint hA, idx_sint hA, ld_sint hA, sh_sint hA, sw_sint hA, hA.P, hA.oc, hA.cl, hA.rd, hA.ref, strip_P hAs, strip_rd hAs, strip_ld hAs, strip_sl hA hAs k_sint]; repeat (refine Vc.mk' ?_; simp (config := { maxSteps := 4000000 }) only [go_sem, reduceIte, reduceCtorEq, Nat.reduceAdd, Nat.reduceMul, Nat.reduceSub, Nat.reduceLT, Nat.reduceLeDiff, Nat.reduceEqDiff, Int.reduceEq, Int.reduceLT, Int.reduceLE, Int.reduceNe, rem64, mask64, c_iu, wrapu_mod, bl_len, bl_take, bl_ren, bl_app, bl_one, bOf_bl, Nat.mul_one, len_sint hA, idx_sint hA, ld_sint hA, sh_sint hA, sw_sint hA, hA.P, hA.oc, hA.cl, hA.rd, hA.ref, strip_P hAs, strip_rd hAs, strip_ld hAs, strip_sl hA hAs k_sint]))
  refine CW.loopR (stROf hp top v) (fun x => x.1 ≤ l.length ∧ OkB x.2 ∧ ofL zb l = ofL x.2 (l.drop x.1)) (fun x => l.length - x.1) (0, zb) ⟨by omega, zb_ok, rfl⟩ ?_ ?_
  · exact SubR.mk' [top, top + 1] hcl (by simp) (by simp) rfl (frSub_ok (by simp [frSub, lkG, ren, renL, renL_set, renL_ints, UpdOk.nil, UpdOk.cons, renOO_some, renO_cells, renO_map, renOO_mkOb, rn_base, rn_add, ren_mkSl, Enc.flat_ren, set_same, set_ne, sets_cons, sets_nil, Keep.set, Keep.setK, Keep.refl, bl_ren, bl_zb, (Sc.ren (fun j hj => rn_low hj) hAs)])) (by simp [frSub, lkG, ren, renL, renL_set, renL_ints, UpdOk.nil, UpdOk.cons, renOO_some, renO_cells, renO_map, renOO_mkOb, rn_base, rn_add, ren_mkSl, Enc.flat_ren, set_same, set_ne, sets_cons, sets_nil, Keep.set, Keep.setK, Keep.refl, bl_ren, bl_zb, (Sc.ren (fun j hj => rn_low hj) hAs)]) (by simp [frSub, lkG, ren, renL, renL_set, renL_ints, UpdOk.nil, UpdOk.cons, renOO_some, renO_cells, renO_map, renOO_mkOb, rn_base, rn_add, ren_mkSl, Enc.flat_ren, set_same, set_ne, sets_cons, sets_nil, Keep.set, Keep.setK, Keep.refl, bl_ren, bl_zb, (Sc.ren (fun j hj => rn_low hj) hAs)])
  · rintro ⟨k, b⟩ ⟨hk, hb, hm⟩
    by_cases hlt : k < l.length
    · have hm1 : ofL zb l = ofL b (l.drop k) := hm
      have hb1 : OkB b := hb
      have hI := isBits_bl hb1
      have hlt1 : (k : Int) < (l.length : Int) := by omega
      rw [at_get? hlt, ofL] at hm1
      obtain ⟨n, hn⟩ : ∃ n, at' l k = n := ⟨_, rfl⟩
      have ld1 : sload tt.get hp 3 (ptrS v k) = (.int .i64 n, True) := by have := ld_sint hA hlt; rwa [Nat.mul_one, hn] at this
      rw [hn] at hm1
      cases hr : rightB n with
      | false =>
        rw [hr] at hm1
        refine CW.vc env10 [0, 2, 3, 4, 5, 9, 17] (by kernel_rfl) ?_
        (simp (config := { maxSteps := 4000000 }) only [go_sem, reduceIte, reduceCtorEq, Nat.reduceAdd, Nat.reduceMul, Nat.reduceSub, Nat.reduceLT, Nat.reduceLeDiff, Nat.reduceEqDiff, Int.reduceEq, Int.reduceLT, Int.reduceLE, Int.reduceNe, rem64, mask64, c_iu, wrapu_mod, bl_len, bl_take, bl_ren, bl_app, bl_one, bOf_bl, Nat.mul_one, len_sint hA, idx_sint hA, ld_sint hA, sh_sint hA, sw_sint hA, hA.P, hA.oc, hA.cl, hA.rd, hA.ref, strip_P hAs, strip_rd hAs, strip_ld hAs, strip_sl hA hAs k_sint, G10_rright, G10_put, con1, conPut, stROf, hlt, ld1, hr]; repeat (refine Vc.mk' ?_; simp (config := { maxSteps := 4000000 }) only [go_sem, reduceIte, reduceCtorEq, Nat.reduceAdd, Nat.reduceMul, Nat.reduceSub, Nat.reduceLT, Nat.reduceLeDiff, Nat.reduceEqDiff, Int.reduceEq, Int.reduceLT, Int.reduceLE, Int.reduceNe, rem64, mask64, c_iu, wrapu_mod, bl_len, bl_take, bl_ren, bl_app, bl_one, bOf_bl, Nat.mul_one, len_sint hA, idx_sint hA, ld_sint hA, sh_sint hA, sw_sint hA, hA.P, hA.oc, hA.cl, hA.rd, hA.ref, strip_P hAs, strip_rd hAs, strip_ld hAs, strip_sl hA hAs k_sint, G10_rright, G10_put, con1, conPut, stROf, hlt, ld1, hr]))
        rw [hm1]; rfl
      | true =>
        rw [hr] at hm1
        have hr1 := hr
        simp only [rightB, Bool.and_eq_true, decide_eq_true_eq] at hr1
        obtain ⟨h1, h2⟩ := hr1
        obtain ⟨j, rfl⟩ : ∃ j : Nat, n = (j : Int) + 1 := ⟨(n - 1).toNat, by omega⟩
        have hj : j < 256 := by omega
        refine CW.vc env10 [0, 2, 3, 4, 5, 9, 17] (by kernel_rfl) ?_
        (simp (config := { maxSteps := 4000000 }) only [go_sem, reduceIte, reduceCtorEq, Nat.reduceAdd, Nat.reduceMul, Nat.reduceSub, Nat.reduceLT, Nat.reduceLeDiff, Nat.reduceEqDiff, Int.reduceEq, Int.reduceLT, Int.reduceLE, Int.reduceNe, rem64, mask64, c_iu, wrapu_mod, bl_len, bl_take, bl_ren, bl_app, bl_one, bOf_bl, Nat.mul_one, len_sint hA, idx_sint hA, ld_sint hA, sh_sint hA, sw_sint hA, hA.P, hA.oc, hA.cl, hA.rd, hA.ref, strip_P hAs, strip_rd hAs, strip_ld hAs, strip_sl hA hAs k_sint, G10_rright, G10_put, con1, conPut, stROf, hlt, ld1, hr, h1, h2, kp1, hI]; repeat (refine Vc.mk' ?_; simp (config := { maxSteps := 4000000 }) only [go_sem, reduceIte, reduceCtorEq, Nat.reduceAdd, Nat.reduceMul, Nat.reduceSub, Nat.reduceLT, Nat.reduceLeDiff, Nat.reduceEqDiff, Int.reduceEq, Int.reduceLT, Int.reduceLE, Int.reduceNe, rem64, mask64, c_iu, wrapu_mod, bl_len, bl_take, bl_ren, bl_app, bl_one, bOf_bl, Nat.mul_one, len_sint hA, idx_sint hA, ld_sint hA, sh_sint hA, sw_sint hA, hA.P, hA.oc, hA.cl, hA.rd, hA.ref, strip_P hAs, strip_rd hAs, strip_ld hAs, strip_sl hA hAs k_sint, G10_rright, G10_put, con1, conPut, stROf, hlt, ld1, hr, h1, h2, kp1, hI]))
        rw [if_pos rfl, kp1] at hm1
        refine .mk (k + 1, putB b j) ⟨hlt, putB_ok hb1, hm1⟩ (by show l.length - (k + 1) < l.length - k; omega) (SubR.mk' [top, top + 1] hcl (by simp) (by simp) rfl (frSub_ok (by simp [frSub, lkG, ren, renL, renL_set, renL_ints, UpdOk.nil, UpdOk.cons, renOO_some, renO_cells, renO_map, renOO_mkOb, rn_base, rn_add, ren_mkSl, Enc.flat_ren, set_same, set_ne, sets_cons, sets_nil, Keep.set, Keep.setK, Keep.refl, bl_ren, (Sc.ren (fun j hj => rn_low hj) hAs), wrap_succ hlt hle])) (by simp [frSub, lkG, ren, renL, renL_set, renL_ints, UpdOk.nil, UpdOk.cons, renOO_some, renO_cells, renO_map, renOO_mkOb, rn_base, rn_add, ren_mkSl, Enc.flat_ren, set_same, set_ne, sets_cons, sets_nil, Keep.set, Keep.setK, Keep.refl, bl_ren, (Sc.ren (fun j hj => rn_low hj) hAs), wrap_succ hlt hle]) (by simp [frSub, lkG, ren, renL, renL_set, renL_ints, UpdOk.nil, UpdOk.cons, renOO_some, renO_cells, renO_map, renOO_mkOb, rn_base, rn_add, ren_mkSl, Enc.flat_ren, set_same, set_ne, sets_cons, sets_nil, Keep.set, Keep.setK, Keep.refl, bl_ren, (Sc.ren (fun j hj => rn_low hj) hAs), wrap_succ hlt hle]))
    · have hk2 : k = l.length := by omega
      subst hk2
      refine CW.vc env10 [0, 2, 3, 4, 5, 9, 17] (by kernel_rfl) ?_
      (simp (config := { maxSteps := 4000000 }) only [go_sem, reduceIte, reduceCtorEq, Nat.reduceAdd, Nat.reduceMul, Nat.reduceSub, Nat.reduceLT, Nat.reduceLeDiff, Nat.reduceEqDiff, Int.reduceEq, Int.reduceLT, Int.reduceLE, Int.reduceNe, rem64, mask64, c_iu, wrapu_mod, bl_len, bl_take, bl_ren, bl_app, bl_one, bOf_bl, Nat.mul_one, len_sint hA, idx_sint hA, ld_sint hA, sh_sint hA, sw_sint hA, hA.P, hA.oc, hA.cl, hA.rd, hA.ref, strip_P hAs, strip_rd hAs, strip_ld hAs, strip_sl hA hAs k_sint, stROf, Nat.lt_irrefl, decide_false]; repeat (refine Vc.mk' ?_; simp (config := { maxSteps := 4000000 }) only [go_sem, reduceIte, reduceCtorEq, Nat.reduceAdd, Nat.reduceMul, Nat.reduceSub, Nat.reduceLT, Nat.reduceLeDiff, Nat.reduceEqDiff, Int.reduceEq, Int.reduceLT, Int.reduceLE, Int.reduceNe, rem64, mask64, c_iu, wrapu_mod, bl_len, bl_take, bl_ren, bl_app, bl_one, bOf_bl, Nat.mul_one, len_sint hA, idx_sint hA, ld_sint hA, sh_sint hA, sw_sint hA, hA.P, hA.oc, hA.cl, hA.rd, hA.ref, strip_P hAs, strip_rd hAs, strip_ld hAs, strip_sl hA hAs k_sint, stROf, Nat.lt_irrefl, decide_false]))
      have hm2 : ofL zb l = (b, 0) := by rw [hm]; simp [ofL]
      rw [hm2]
/-! ### same -/
def conSame : Con := .pure (fun args hp => match args with | [v, u] => SlP e_int hp v ∧ SlP e_int hp u | _ => False) (fun args hp => match args with | [v, u] => .bool (decide (e_int.rd hp v = e_int.rd hp u)) | _ => undef)
def stSame (hp : Hp) (top : Nat) (v u : Value) (k : Nat) : SS := ⟨[(0, v, true), (1, u, true), (5, .int .i64 (k : Int), true)], hp.sets [], top + 0⟩

theorem same_ok : ConOk Tryd.prog 14 conSame := by
  refine .mkRd fn14_ok ?_ ?_
  · rintro args hp h
    match args, h with
    | [_, _], ⟨⟨l, h⟩, ⟨m, g⟩⟩ => rfl
  intro args hp hpre top hcl hsc
  match args, hpre with
  | [v, u], ⟨⟨l, hA⟩, ⟨m, hB⟩⟩ =>
  have hAs := hA.low hcl
  have hBs := hB.low hcl
  have hle := hA.le
  simp only [hA.rd, hB.rd]
  refine CalledOk.of_fun tt_ok fn14_ok rfl 26 rfl [.tmp 4] rfl (show 2 ≤ 26 by decide) ?_
  refine CW.vc env10 [0, 1, 4, 5, 10, 14, 25] (by kernel_rfl) ?_
  (simp (config := { maxSteps := 4000000 }) only [go_sem, reduceIte, reduceCtorEq, Nat.reduceAdd, Nat.reduceMul, Nat.reduceSub, Nat.reduceLT, Nat.reduceLeDiff, Nat.reduceEqDiff, Int.reduceEq, Int.reduceLT, Int.reduceLE, Int.reduceNe, len_sint hA, idx_sint hA, ld_sint hA, sh_sint hA, sw_sint hA, hA.P, hA.oc, hA.cl, hA.rd, hA.ref, strip_P hAs, strip_rd hAs, strip_ld hAs, strip_sl hA hAs k_sint, len_sint hB, idx_sint hB, ld_sint hB, sh_sint hB, sw_sint hB, hB.P, hB.oc, hB.cl, hB.rd, hB.ref, strip_P hBs, strip_rd hBs, strip_ld hBs, strip_sl hB hBs k_sint]; repeat (refine Vc.mk' ?_; simp (config := { maxSteps := 4000000 }) only [go_sem, reduceIte, reduceCtorEq, Nat.reduceAdd, Nat.reduceMul, Nat.reduceSub, Nat.reduceLT, Nat.reduceLeDiff, Nat.reduceEqDiff, Int.reduceEq, Int.reduceLT, Int.reduceLE, Int.reduceNe, len_sint hA, idx_sint hA, ld_sint hA, sh_sint hA, sw_sint hA, hA.P, hA.oc, hA.cl, hA.rd, hA.ref, strip_P hAs, strip_rd hAs, strip_ld hAs, strip_sl hA hAs k_sint, len_sint hB, idx_sint hB, ld_sint hB, sh_sint hB, sw_sint hB, hB.P, hB.oc, hB.cl, hB.rd, hB.ref, strip_P hBs, strip_rd hBs, strip_ld hBs, strip_sl hB hBs k_sint]))
  refine condP.mk (fun c => ?_) (fun c => ?_)
  · (simp (config := { maxSteps := 4000000 }) only [go_sem, reduceIte, reduceCtorEq, Nat.reduceAdd, Nat.reduceMul, Nat.reduceSub, Nat.reduceLT, Nat.reduceLeDiff, Nat.reduceEqDiff, Int.reduceEq, Int.reduceLT, Int.reduceLE, Int.reduceNe, len_sint hA, idx_sint hA, ld_sint hA, sh_sint hA, sw_sint hA, hA.P, hA.oc, hA.cl, hA.rd, hA.ref, strip_P hAs, strip_rd hAs, strip_ld hAs, strip_sl hA hAs k_sint, len_sint hB, idx_sint hB, ld_sint hB, sh_sint hB, sw_sint hB, hB.P, hB.oc, hB.cl, hB.rd, hB.ref, strip_P hBs, strip_rd hBs, strip_ld hBs, strip_sl hB hBs k_sint]; repeat (refine Vc.mk' ?_; simp (config := { maxSteps := 4000000 }) only [go_sem, reduceIte, reduceCtorEq, Nat.reduceAdd, Nat.reduceMul, Nat.reduceSub, Nat.reduceLT, Nat.reduceLeDiff, Nat.reduceEqDiff, Int.reduceEq, Int.reduceLT, Int.reduceLE, Int.reduceNe, len_sint hA, idx_sint hA, ld_sint hA, sh_sint hA, sw_sint hA, hA.P, hA.oc, hA.cl, hA.rd, hA.ref, strip_P hAs, strip_rd hAs, strip_ld hAs, strip_sl hA hAs k_sint, len_sint hB, idx_sint hB, ld_sint hB, sh_sint hB, sw_sint hB, hB.P, hB.oc, hB.cl, hB.rd, hB.ref, strip_P hBs, strip_rd hBs, strip_ld hBs, strip_sl hB hBs k_sint]))
    have hne : ¬ l = m := by intro e; subst e; simp at c
    simp [hne]
  · (simp (config := { maxSteps := 4000000 }) only [go_sem, reduceIte, reduceCtorEq, Nat.reduceAdd, Nat.reduceMul, Nat.reduceSub, Nat.reduceLT, Nat.reduceLeDiff, Nat.reduceEqDiff, Int.reduceEq, Int.reduceLT, Int.reduceLE, Int.reduceNe, len_sint hA, idx_sint hA, ld_sint hA, sh_sint hA, sw_sint hA, hA.P, hA.oc, hA.cl, hA.rd, hA.ref, strip_P hAs, strip_rd hAs, strip_ld hAs, strip_sl hA hAs k_sint, len_sint hB, idx_sint hB, ld_sint hB, sh_sint hB, sw_sint hB, hB.P, hB.oc, hB.cl, hB.rd, hB.ref, strip_P hBs, strip_rd hBs, strip_ld hBs, strip_sl hB hBs k_sint]; repeat (refine Vc.mk' ?_; simp (config := { maxSteps := 4000000 }) only [go_sem, reduceIte, reduceCtorEq, Nat.reduceAdd, Nat.reduceMul, Nat.reduceSub, Nat.reduceLT, Nat.reduceLeDiff, Nat.reduceEqDiff, Int.reduceEq, Int.reduceLT, Int.reduceLE, Int.reduceNe, len_sint hA, idx_sint hA, ld_sint hA, sh_sint hA, sw_sint hA, hA.P, hA.oc, hA.cl, hA.rd, hA.ref, strip_P hAs, strip_rd hAs, strip_ld hAs, strip_sl hA hAs k_sint, len_sint hB, idx_sint hB, ld_sint hB, sh_sint hB, sw_sint hB, hB.P, hB.oc, hB.cl, hB.rd, hB.ref, strip_P hBs, strip_rd hBs, strip_ld hBs, strip_sl hB hBs k_sint]))
    have hlen : l.length = m.length := by
      have h : (l.length : Int) = (m.length : Int) := by simpa using c
      omega
    refine CW.loopR (stSame hp top v u) (fun k => k ≤ l.length ∧ decide (l = m) = decide (l.drop k = m.drop k)) (fun k => l.length - k) 0 ⟨by omega, rfl⟩ ?_ ?_
    · exact SubR.mk' [] hcl (by simp) (by simp) rfl (frSub_ok (by simp [frSub, lkG, ren, renL, renL_set, renL_ints, UpdOk.nil, UpdOk.cons, renOO_some, renO_cells, renO_map, renOO_mkOb, rn_base, rn_add, ren_mkSl, Enc.flat_ren, set_same, set_ne, sets_cons, sets_nil, Keep.set, Keep.setK, Keep.refl, (Sc.ren (fun j hj => rn_low hj) hAs), (Sc.ren (fun j hj => rn_low hj) hBs)])) (by simp [frSub, lkG, ren, renL, renL_set, renL_ints, UpdOk.nil, UpdOk.cons, renOO_some, renO_cells, renO_map, renOO_mkOb, rn_base, rn_add, ren_mkSl, Enc.flat_ren, set_same, set_ne, sets_cons, sets_nil, Keep.set, Keep.setK, Keep.refl, (Sc.ren (fun j hj => rn_low hj) hAs), (Sc.ren (fun j hj => rn_low hj) hBs)]) (by simp [frSub, lkG, ren, renL, renL_set, renL_ints, UpdOk.nil, UpdOk.cons, renOO_some, renO_cells, renO_map, renOO_mkOb, rn_base, rn_add, ren_mkSl, Enc.flat_ren, set_same, set_ne, sets_cons, sets_nil, Keep.set, Keep.setK, Keep.refl, (Sc.ren (fun j hj => rn_low hj) hAs), (Sc.ren (fun j hj => rn_low hj) hBs)])
    · rintro k ⟨hk, hm⟩
      by_cases hlt : k < l.length
      · have hlt2 : k < m.length := by omega
        rw [at_get? hlt, at_get? hlt2] at hm
        refine CW.vc env10 [0, 1, 4, 5, 10, 14, 25] (by kernel_rfl) ?_
        (simp (config := { maxSteps := 4000000 }) only [go_sem, reduceIte, reduceCtorEq, Nat.reduceAdd, Nat.reduceMul, Nat.reduceSub, Nat.reduceLT, Nat.reduceLeDiff, Nat.reduceEqDiff, Int.reduceEq, Int.reduceLT, Int.reduceLE, Int.reduceNe, len_sint hA, idx_sint hA, ld_sint hA, sh_sint hA, sw_sint hA, hA.P, hA.oc, hA.cl, hA.rd, hA.ref, strip_P hAs, strip_rd hAs, strip_ld hAs, strip_sl hA hAs k_sint, len_sint hB, idx_sint hB, ld_sint hB, sh_sint hB, sw_sint hB, hB.P, hB.oc, hB.cl, hB.rd, hB.ref, strip_P hBs, strip_rd hBs, strip_ld hBs, strip_sl hB hBs k_sint, stSame, hlt, hlt2]; repeat (refine Vc.mk' ?_; simp (config := { maxSteps := 4000000 }) only [go_sem, reduceIte, reduceCtorEq, Nat.reduceAdd, Nat.reduceMul, Nat.reduceSub, Nat.reduceLT, Nat.reduceLeDiff, Nat.reduceEqDiff, Int.reduceEq, Int.reduceLT, Int.reduceLE, Int.reduceNe, len_sint hA, idx_sint hA, ld_sint hA, sh_sint hA, sw_sint hA, hA.P, hA.oc, hA.cl, hA.rd, hA.ref, strip_P hAs, strip_rd hAs, strip_ld hAs, strip_sl hA hAs k_sint, len_sint hB, idx_sint hB, ld_sint hB, sh_sint hB, sw_sint hB, hB.P, hB.oc, hB.cl, hB.rd, hB.ref, strip_P hBs, strip_rd hBs, strip_ld hBs, strip_sl hB hBs k_sint, stSame, hlt, hlt2]))
        refine condP.mk (fun d => ?_) (fun d => ?_)
        · have d2 : ¬ at' l k = at' m k := by simpa using d
          have hne : ¬ l = m := by intro e; rw [e] at hm; simp [d2, e] at hm d2
          (simp (config := { maxSteps := 4000000 }) only [go_sem, reduceIte, reduceCtorEq, Nat.reduceAdd, Nat.reduceMul, Nat.reduceSub, Nat.reduceLT, Nat.reduceLeDiff, Nat.reduceEqDiff, Int.reduceEq, Int.reduceLT, Int.reduceLE, Int.reduceNe, len_sint hA, idx_sint hA, ld_sint hA, sh_sint hA, sw_sint hA, hA.P, hA.oc, hA.cl, hA.rd, hA.ref, strip_P hAs, strip_rd hAs, strip_ld hAs, strip_sl hA hAs k_sint, len_sint hB, idx_sint hB, ld_sint hB, sh_sint hB, sw_sint hB, hB.P, hB.oc, hB.cl, hB.rd, hB.ref, strip_P hBs, strip_rd hBs, strip_ld hBs, strip_sl hB hBs k_sint]; repeat (refine Vc.mk' ?_; simp (config := { maxSteps := 4000000 }) only [go_sem, reduceIte, reduceCtorEq, Nat.reduceAdd, Nat.reduceMul, Nat.reduceSub, Nat.reduceLT, Nat.reduceLeDiff, Nat.reduceEqDiff, Int.reduceEq, Int.reduceLT, Int.reduceLE, Int.reduceNe, len_sint hA, idx_sint hA, ld_sint hA, sh_sint hA, sw_sint hA, hA.P, hA.oc, hA.cl, hA.rd, hA.ref, strip_P hAs, strip_rd hAs, strip_ld hAs, strip_sl hA hAs k_sint, len_sint hB, idx_sint hB, ld_sint hB, sh_sint hB, sw_sint hB, hB.P, hB.oc, hB.cl, hB.rd, hB.ref, strip_P hBs, strip_rd hBs, strip_ld hBs, strip_sl hB hBs k_sint]))
          simp [hne]
        · have d2 : at' l k = at' m k := by simpa using d
          rw [d2] at hm
          (simp (config := { maxSteps := 4000000 }) only [go_sem, reduceIte, reduceCtorEq, Nat.reduceAdd, Nat.reduceMul, Nat.reduceSub, Nat.reduceLT, Nat.reduceLeDiff, Nat.reduceEqDiff, Int.reduceEq, Int.reduceLT, Int.reduceLE, Int.reduceNe, len_sint hA, idx_sint hA, ld_sint hA, sh_sint hA, sw_sint hA, hA.P, hA.oc, hA.cl, hA.rd, hA.ref, strip_P hAs, strip_rd hAs, strip_ld hAs, strip_sl hA hAs k_sint, len_sint hB, idx_sint hB, ld_sint hB, sh_sint hB, sw_sint hB, hB.P, hB.oc, hB.cl, hB.rd, hB.ref, strip_P hBs, strip_rd hBs, strip_ld hBs, strip_sl hB hBs k_sint]; repeat (refine Vc.mk' ?_; simp (config := { maxSteps := 4000000 }) only [go_sem, reduceIte, reduceCtorEq, Nat.reduceAdd, Nat.reduceMul, Nat.reduceSub, Nat.reduceLT, Nat.reduceLeDiff, Nat.reduceEqDiff, Int.reduceEq, Int.reduceLT, Int.reduceLE, Int.reduceNe, len_sint hA, idx_sint hA, ld_sint hA, sh_sint hA, sw_sint hA, hA.P, hA.oc, hA.cl, hA.rd, hA.ref, strip_P hAs, strip_rd hAs, strip_ld hAs, strip_sl hA hAs k_sint, len_sint hB, idx_sint hB, ld_sint hB, sh_sint hB, sw_sint hB, hB.P, hB.oc, hB.cl, hB.rd, hB.ref, strip_P hBs, strip_rd hBs, strip_ld hBs, strip_sl hB hBs k_sint]))
          refine .mk (k + 1) ⟨hlt, ?_⟩ (by omega) (SubR.mk' [] hcl (by simp) (by simp) rfl (frSub_ok (by simp [frSub, lkG, ren, renL, renL_set, renL_ints, UpdOk.nil, UpdOk.cons, renOO_some, renO_cells, renO_map, renOO_mkOb, rn_base, rn_add, ren_mkSl, Enc.flat_ren, set_same, set_ne, sets_cons, sets_nil, Keep.set, Keep.setK, Keep.refl, (Sc.ren (fun j hj => rn_low hj) hAs), (Sc.ren (fun j hj => rn_low hj) hBs), wrap_succ hlt hle])) (by simp [frSub, lkG, ren, renL, renL_set, renL_ints, UpdOk.nil, UpdOk.cons, renOO_some, renO_cells, renO_map, renOO_mkOb, rn_base, rn_add, ren_mkSl, Enc.flat_ren, set_same, set_ne, sets_cons, sets_nil, Keep.set, Keep.setK, Keep.refl, (Sc.ren (fun j hj => rn_low hj) hAs), (Sc.ren (fun j hj => rn_low hj) hBs), wrap_succ hlt hle]) (by simp [frSub, lkG, ren, renL, renL_set, renL_ints, UpdOk.nil, UpdOk.cons, renOO_some, renO_cells, renO_map, renOO_mkOb, rn_base, rn_add, ren_mkSl, Enc.flat_ren, set_same, set_ne, sets_cons, sets_nil, Keep.set, Keep.setK, Keep.refl, (Sc.ren (fun j hj => rn_low hj) hAs), (Sc.ren (fun j hj => rn_low hj) hBs), wrap_succ hlt hle]))
          rw [hm]; simp
      · have hk2 : k = l.length := by omega
        subst hk2
        refine CW.vc env10 [0, 1, 4, 5, 10, 14, 25] (by kernel_rfl) ?_
        (simp (config := { maxSteps := 4000000 }) only [go_sem, reduceIte, reduceCtorEq, Nat.reduceAdd, Nat.reduceMul, Nat.reduceSub, Nat.reduceLT, Nat.reduceLeDiff, Nat.reduceEqDiff, Int.reduceEq, Int.reduceLT, Int.reduceLE, Int.reduceNe, len_sint hA, idx_sint hA, ld_sint hA, sh_sint hA, sw_sint hA, hA.P, hA.oc, hA.cl, hA.rd, hA.ref, strip_P hAs, strip_rd hAs, strip_ld hAs, strip_sl hA hAs k_sint, len_sint hB, idx_sint hB, ld_sint hB, sh_sint hB, sw_sint hB, hB.P, hB.oc, hB.cl, hB.rd, hB.ref, strip_P hBs, strip_rd hBs, strip_ld hBs, strip_sl hB hBs k_sint, stSame, Nat.lt_irrefl, decide_false]; repeat (refine Vc.mk' ?_; simp (config := { maxSteps := 4000000 }) only [go_sem, reduceIte, reduceCtorEq, Nat.reduceAdd, Nat.reduceMul, Nat.reduceSub, Nat.reduceLT, Nat.reduceLeDiff, Nat.reduceEqDiff, Int.reduceEq, Int.reduceLT, Int.reduceLE, Int.reduceNe, len_sint hA, idx_sint hA, ld_sint hA, sh_sint hA, sw_sint hA, hA.P, hA.oc, hA.cl, hA.rd, hA.ref, strip_P hAs, strip_rd hAs, strip_ld hAs, strip_sl hA hAs k_sint, len_sint hB, idx_sint hB, ld_sint hB, sh_sint hB, sw_sint hB, hB.P, hB.oc, hB.cl, hB.rd, hB.ref, strip_P hBs, strip_rd hBs, strip_ld hBs, strip_sl hB hBs k_sint, stSame, Nat.lt_irrefl, decide_false]))
        have hm2 : decide (l = m) = true := by rw [hm, List.drop_length, hlen, List.drop_length]; simp
        rw [hm2]
def GB11 := addG (addG G10 13 conOf) 14 conSame
theorem envB11 : EnvV Tryd.prog tt.get GB11 := (env10.add rof_ok).add same_ok
theorem GB11_of : GB11 12 = conOf := rfl
theorem GB11_rof : GB11 13 = conOf := rfl
theorem GB11_same : GB11 14 = conSame := rfl
theorem GB11_works : GB11 15 = conWorks := rfl

def conBOf : Con := .pure (fun args hp => match args with | [v] => ∃ l, SlT e_int hp v l ∧ roomB l.length ti3.bytes = true ∧ hp 0 = some tzO ∧ hp 1 = some powO | _ => False) (fun _ _ => .bool true)
theorem bitsOf_ok : ConOk Tryd.prog 3 conBOf := by
  refine .mkRd fn3_ok (fun _ _ _ => rfl) ?_
  intro args hp hpre top hcl hsc
  match args, hpre with
  | [v], ⟨l, hA, hroom, ht, hp1⟩ =>
  have ht0 := hcl.lt _ _ ht
  have ht1 := hcl.lt _ _ hp1
  have hAs := hA.low hcl
  have hle := hA.le
  have hap := apr_sint (top := top) (hp := hp) (x := v) ⟨l, hA⟩ (by rw [hA.rd]; exact hroom)
  rw [hA.rd] at hap
  refine CalledOk.of_fun tt_ok fn3_ok rfl 37 rfl [.tmp 2] rfl (show 1 ≤ 37 by decide) ?_
  refine CW.vc envB11 [0, 2, 3, 4, 5, 6, 7] (by kernel_rfl) ?_
  (simp (config := { maxSteps := 4000000 }) only [go_sem, reduceIte, reduceCtorEq, Nat.reduceAdd, Nat.reduceMul, Nat.reduceSub, Nat.reduceLT, Nat.reduceLeDiff, Nat.reduceEqDiff, Int.reduceEq, Int.reduceLT, Int.reduceLE, Int.reduceNe, rem64, mask64, c_iu, wrapu_mod, bl_len, bl_take, bl_ren, bl_app, bl_one, bOf_bl, Nat.mul_one, len_sint hA, idx_sint hA, ld_sint hA, sh_sint hA, sw_sint hA, hA.P, hA.oc, hA.cl, hA.rd, hA.ref, strip_P hAs, strip_rd hAs, strip_ld hAs, strip_sl hA hAs k_sint, GB11_of, GB11_rof, GB11_same, GB11_works, conOf, conSame, conWorks, bits_eql, hap, own_Pb, own_rdb, hle, Bool.and_true, set_lt ht0, set_lt ht1, ht, hp1]; repeat (refine Vc.mk' ?_; simp (config := { maxSteps := 4000000 }) only [go_sem, reduceIte, reduceCtorEq, Nat.reduceAdd, Nat.reduceMul, Nat.reduceSub, Nat.reduceLT, Nat.reduceLeDiff, Nat.reduceEqDiff, Int.reduceEq, Int.reduceLT, Int.reduceLE, Int.reduceNe, rem64, mask64, c_iu, wrapu_mod, bl_len, bl_take, bl_ren, bl_app, bl_one, bOf_bl, Nat.mul_one, len_sint hA, idx_sint hA, ld_sint hA, sh_sint hA, sw_sint hA, hA.P, hA.oc, hA.cl, hA.rd, hA.ref, strip_P hAs, strip_rd hAs, strip_ld hAs, strip_sl hA hAs k_sint, GB11_of, GB11_rof, GB11_same, GB11_works, conOf, conSame, conWorks, bits_eql, hap, own_Pb, own_rdb, hle, Bool.and_true, set_lt ht0, set_lt ht1, ht, hp1]))
end Go.Proofs.YtkofmbhopmgmhaaDoor.Dm
