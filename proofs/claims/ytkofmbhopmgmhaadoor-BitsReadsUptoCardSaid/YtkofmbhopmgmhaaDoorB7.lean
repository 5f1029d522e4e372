/- Of, Below. -/
import Derived.Test.YtkofmbhopmgmhaaDoorB6
set_option linter.unusedSimpArgs false
set_option linter.unusedVariables false
namespace Go.Proofs.YtkofmbhopmgmhaaDoor.Dm
open Go.Dm
set_option maxHeartbeats 4000000

theorem blen_le {x : Nat} (h : x < 18446744073709551616) : Lib.bitLen x ≤ 64 := by
  by_cases h0 : x = 0
  · subst h0; decide
  · have := Lib.bitLenAux_bounds 64 x h h0
    have h2 : 2 ^ (Lib.bitLenAux 64 x - 1) < 2 ^ 64 := Nat.lt_of_le_of_lt this.2.1 h
    have h3 := (Nat.pow_lt_pow_iff_right (a := 2) (by decide)).1 h2
    show Lib.bitLenAux 64 x ≤ 64
    omega
theorem at_get? {α : Type} [Inhabited α] {l : List α} {k : Nat} (h : k < l.length) : l.drop k = at' l k :: l.drop (k + 1) := by rw [at'_get _ _ h]; exact List.drop_eq_getElem_cons h
def G6 := addG (addG G5 26 conCount) 36 conText
theorem env6 : EnvV Tryd.prog tt.get G6 := (env5.add count_ok).add text_ok
theorem G6_right : G6 45 = con1 rightB := rfl
theorem G6_one : G6 46 = conOne := rfl
theorem G6_len : G6 58 = conLen64 := rfl
theorem G6_text : G6 36 = conText := rfl
theorem G6_count : G6 26 = conCount := rfl
/-- the bit string of a list -/
def ofL : T_Bits → List Int → T_Bits × Int
  | b, [] => (b, 0)
  | b, n :: l => if rightB n then ofL (putB b (n - 1).toNat) l else (zb, 2)
def ofB : List Int → Int → T_Bits := fun l k => (ofL zb (l.take k.toNat)).1
def conOf : Con := .pure (fun args hp => match args with | [v] => SlP e_int hp v | _ => False) (fun args hp => match args with | [v] => .tuple ⟨[.agg ⟨bl (ofL zb (e_int.rd hp v)).1⟩, .int .i64 (ofL zb (e_int.rd hp v)).2]⟩ | _ => undef)
def stOf (hp : Hp) (top : Nat) (v : Value) (l : List Int) (x : Nat × T_Bits) : SS := ⟨[(2, .pointer (some ⟨top, 0, none⟩), true), (4, .pointer (some ⟨top + 1, 0, none⟩), true), (9, v, true), (10, .int .i64 (l.length : Int), true), (11, .int .i64 (x.1 : Int), true)], hp.sets [(top, some (.cells true 0 (bl zb))), (top + 1, some (.cells true 0 (bl x.2)))], top + 2⟩

theorem of_ok : ConOk Tryd.prog 12 conOf := by
  refine .mkRd fn12_ok ?_ ?_
  · rintro args hp h
    match args, h with
    | [_], ⟨l, h⟩ => rfl
  intro args hp hpre top hcl hsc
  match args, hpre with
  | [v], ⟨l, hA⟩ =>
  have hAs := hA.low hcl
  have hle := hA.le
  simp only [hA.rd]
  refine CalledOk.of_fun tt_ok fn12_ok rfl 32 rfl [.cell 2 25, .tmp 3] rfl (show 1 ≤ 32 by decide) ?_
  refine CW.vc env6 [0, 2, 3, 4, 6, 7, 8, 9, 10, 11, 12, 17] (by kernel_rfl) ?_
  (simp only [go_sem, reduceIte, reduceCtorEq, Nat.reduceAdd, Nat.reduceMul, Nat.reduceSub, Nat.reduceLT, Nat.reduceLeDiff, Nat.reduceEqDiff, Int.reduceEq, Int.reduceLT, Int.reduceLE, Int.reduceNe, rem64, mask64, c_iu, wrapu_mod, bl_len, bl_take, bl_ren, bl_app, bl_one, bOf_bl, Nat.mul_one, len_sint hA, idx_sint hA, ld_sint hA, sh_sint hA, sw_sint hA, hA.P, hA.oc, hA.cl, hA.rd, hA.ref, strip_P hAs, strip_rd hAs, strip_ld hAs, strip_sl hA hAs k_sint]; repeat (refine Vc.mk' ?_; simp only [go_sem, reduceIte, reduceCtorEq, Nat.reduceAdd, Nat.reduceMul, Nat.reduceSub, Nat.reduceLT, Nat.reduceLeDiff, Nat.reduceEqDiff, Int.reduceEq, Int.reduceLT, Int.reduceLE, Int.reduceNe, rem64, mask64, c_iu, wrapu_mod, bl_len, bl_take, bl_ren, bl_app, bl_one, bOf_bl, Nat.mul_one, len_sint hA, idx_sint hA, ld_sint hA, sh_sint hA, sw_sint hA, hA.P, hA.oc, hA.cl, hA.rd, hA.ref, strip_P hAs, strip_rd hAs, strip_ld hAs, strip_sl hA hAs k_sint]))
  refine CW.loopR (stOf hp top v l) (fun x => x.1 ≤ l.length ∧ OkB x.2 ∧ ofL zb l = ofL x.2 (l.drop x.1)) (fun x => l.length - x.1) (0, zb) ⟨by omega, zb_ok, rfl⟩ ?_ ?_
  · exact SubR.mk' [top, top + 1] hcl (by simp) (by simp) rfl (frSub_ok (by simp [frSub, lkG, ren, renL, renL_set, renL_ints, UpdOk.nil, UpdOk.cons, renOO_some, renO_cells, renO_map, renOO_mkOb, rn_base, rn_add, ren_mkSl, Enc.flat_ren, set_same, set_ne, sets_cons, sets_nil, Keep.set, Keep.setK, Keep.refl, bl_ren, bl_zb, (Sc.ren (fun j hj => rn_low hj) hAs)])) (by simp [frSub, lkG, ren, renL, renL_set, renL_ints, UpdOk.nil, UpdOk.cons, renOO_some, renO_cells, renO_map, renOO_mkOb, rn_base, rn_add, ren_mkSl, Enc.flat_ren, set_same, set_ne, sets_cons, sets_nil, Keep.set, Keep.setK, Keep.refl, bl_ren, bl_zb, (Sc.ren (fun j hj => rn_low hj) hAs)]) (by simp [frSub, lkG, ren, renL, renL_set, renL_ints, UpdOk.nil, UpdOk.cons, renOO_some, renO_cells, renO_map, renOO_mkOb, rn_base, rn_add, ren_mkSl, Enc.flat_ren, set_same, set_ne, sets_cons, sets_nil, Keep.set, Keep.setK, Keep.refl, bl_ren, bl_zb, (Sc.ren (fun j hj => rn_low hj) hAs)])
  · rintro ⟨k, b⟩ ⟨hk, hb, hm⟩
    by_cases hlt : k < l.length
    · have hm1 : ofL zb l = ofL b (l.drop k) := hm
      have hb1 : OkB b := hb
      have hlt1 : (k : Int) < (l.length : Int) := by omega
      rw [at_get? hlt, ofL] at hm1
      obtain ⟨n, hn⟩ : ∃ n, at' l k = n := ⟨_, rfl⟩
      have ld1 : sload tt.get hp 3 (ptrS v k) = (.int .i64 n, True) := by have := ld_sint hA hlt; rwa [Nat.mul_one, hn] at this
      rw [hn] at hm1
      cases hr : rightB n with
      | false =>
        rw [hr] at hm1
        refine CW.vc env6 [0, 2, 3, 4, 6, 7, 8, 9, 10, 11, 12, 17] (by kernel_rfl) ?_
        (simp only [go_sem, reduceIte, reduceCtorEq, Nat.reduceAdd, Nat.reduceMul, Nat.reduceSub, Nat.reduceLT, Nat.reduceLeDiff, Nat.reduceEqDiff, Int.reduceEq, Int.reduceLT, Int.reduceLE, Int.reduceNe, rem64, mask64, c_iu, wrapu_mod, bl_len, bl_take, bl_ren, bl_app, bl_one, bOf_bl, Nat.mul_one, len_sint hA, idx_sint hA, ld_sint hA, sh_sint hA, sw_sint hA, hA.P, hA.oc, hA.cl, hA.rd, hA.ref, strip_P hAs, strip_rd hAs, strip_ld hAs, strip_sl hA hAs k_sint, G6_right, G6_one, G6_len, G6_text, G6_count, con1, conOne, conLen64, conText, conCount, stOf, hlt, ld1, hr]; repeat (refine Vc.mk' ?_; simp only [go_sem, reduceIte, reduceCtorEq, Nat.reduceAdd, Nat.reduceMul, Nat.reduceSub, Nat.reduceLT, Nat.reduceLeDiff, Nat.reduceEqDiff, Int.reduceEq, Int.reduceLT, Int.reduceLE, Int.reduceNe, rem64, mask64, c_iu, wrapu_mod, bl_len, bl_take, bl_ren, bl_app, bl_one, bOf_bl, Nat.mul_one, len_sint hA, idx_sint hA, ld_sint hA, sh_sint hA, sw_sint hA, hA.P, hA.oc, hA.cl, hA.rd, hA.ref, strip_P hAs, strip_rd hAs, strip_ld hAs, strip_sl hA hAs k_sint, G6_right, G6_one, G6_len, G6_text, G6_count, con1, conOne, conLen64, conText, conCount, stOf, hlt, ld1, hr]))
        rw [hm1]; rfl
      | true =>
        rw [hr] at hm1
        have hr1 := hr
        simp only [rightB, Bool.and_eq_true, decide_eq_true_eq] at hr1
        obtain ⟨h1, h2⟩ := hr1
        obtain ⟨j, rfl⟩ : ∃ j : Nat, n = (j : Int) + 1 := ⟨(n - 1).toNat, by omega⟩
        have hj : j < 256 := by omega
        have h4 : j / 64 < 4 := by omega
        have h5 : j / 64 ≤ 3 := by omega
        have eo : bitsI .or .u64 ((wn b (j / 64) : Nat) : Int) (bitM j) = ((wn b (j / 64) ||| 2 ^ (j % 64) : Nat) : Int) := or_u64 (wn_lt hb1 _) (pow_lt (Nat.mod_lt _ (by decide)))
        refine CW.vc env6 [0, 2, 3, 4, 6, 7, 8, 9, 10, 11, 12, 17] (by kernel_rfl) ?_
        (simp only [go_sem, reduceIte, reduceCtorEq, Nat.reduceAdd, Nat.reduceMul, Nat.reduceSub, Nat.reduceLT, Nat.reduceLeDiff, Nat.reduceEqDiff, Int.reduceEq, Int.reduceLT, Int.reduceLE, Int.reduceNe, rem64, mask64, c_iu, wrapu_mod, bl_len, bl_take, bl_ren, bl_app, bl_one, bOf_bl, Nat.mul_one, len_sint hA, idx_sint hA, ld_sint hA, sh_sint hA, sw_sint hA, hA.P, hA.oc, hA.cl, hA.rd, hA.ref, strip_P hAs, strip_rd hAs, strip_ld hAs, strip_sl hA hAs k_sint, G6_right, G6_one, G6_len, G6_text, G6_count, con1, conOne, conLen64, conText, conCount, stOf, hlt, ld1, hr, h1, h2, kp1, h4, h5, bl_get hb1 h4, bl_splice h4, eo]; repeat (refine Vc.mk' ?_; simp only [go_sem, reduceIte, reduceCtorEq, Nat.reduceAdd, Nat.reduceMul, Nat.reduceSub, Nat.reduceLT, Nat.reduceLeDiff, Nat.reduceEqDiff, Int.reduceEq, Int.reduceLT, Int.reduceLE, Int.reduceNe, rem64, mask64, c_iu, wrapu_mod, bl_len, bl_take, bl_ren, bl_app, bl_one, bOf_bl, Nat.mul_one, len_sint hA, idx_sint hA, ld_sint hA, sh_sint hA, sw_sint hA, hA.P, hA.oc, hA.cl, hA.rd, hA.ref, strip_P hAs, strip_rd hAs, strip_ld hAs, strip_sl hA hAs k_sint, G6_right, G6_one, G6_len, G6_text, G6_count, con1, conOne, conLen64, conText, conCount, stOf, hlt, ld1, hr, h1, h2, kp1, h4, h5, bl_get hb1 h4, bl_splice h4, eo]))
        rw [if_pos rfl, kp1] at hm1
        refine .mk (k + 1, putB b j) ⟨hlt, putB_ok hb1, hm1⟩ (by show l.length - (k + 1) < l.length - k; omega) (SubR.mk' [top, top + 1] hcl (by simp) (by simp) rfl (frSub_ok (by simp [frSub, lkG, ren, renL, renL_set, renL_ints, UpdOk.nil, UpdOk.cons, renOO_some, renO_cells, renO_map, renOO_mkOb, rn_base, rn_add, ren_mkSl, Enc.flat_ren, set_same, set_ne, sets_cons, sets_nil, Keep.set, Keep.setK, Keep.refl, bl_ren, (Sc.ren (fun j hj => rn_low hj) hAs), wrap_succ hlt hle, putB])) (by simp [frSub, lkG, ren, renL, renL_set, renL_ints, UpdOk.nil, UpdOk.cons, renOO_some, renO_cells, renO_map, renOO_mkOb, rn_base, rn_add, ren_mkSl, Enc.flat_ren, set_same, set_ne, sets_cons, sets_nil, Keep.set, Keep.setK, Keep.refl, bl_ren, (Sc.ren (fun j hj => rn_low hj) hAs), wrap_succ hlt hle, putB]) (by simp [frSub, lkG, ren, renL, renL_set, renL_ints, UpdOk.nil, UpdOk.cons, renOO_some, renO_cells, renO_map, renOO_mkOb, rn_base, rn_add, ren_mkSl, Enc.flat_ren, set_same, set_ne, sets_cons, sets_nil, Keep.set, Keep.setK, Keep.refl, bl_ren, (Sc.ren (fun j hj => rn_low hj) hAs), wrap_succ hlt hle, putB]))
    · have hk2 : k = l.length := by omega
      subst hk2
      refine CW.vc env6 [0, 2, 3, 4, 6, 7, 8, 9, 10, 11, 12, 17] (by kernel_rfl) ?_
      (simp only [go_sem, reduceIte, reduceCtorEq, Nat.reduceAdd, Nat.reduceMul, Nat.reduceSub, Nat.reduceLT, Nat.reduceLeDiff, Nat.reduceEqDiff, Int.reduceEq, Int.reduceLT, Int.reduceLE, Int.reduceNe, rem64, mask64, c_iu, wrapu_mod, bl_len, bl_take, bl_ren, bl_app, bl_one, bOf_bl, Nat.mul_one, stOf, Nat.lt_irrefl, decide_false]; repeat (refine Vc.mk' ?_; simp only [go_sem, reduceIte, reduceCtorEq, Nat.reduceAdd, Nat.reduceMul, Nat.reduceSub, Nat.reduceLT, Nat.reduceLeDiff, Nat.reduceEqDiff, Int.reduceEq, Int.reduceLT, Int.reduceLE, Int.reduceNe, rem64, mask64, c_iu, wrapu_mod, bl_len, bl_take, bl_ren, bl_app, bl_one, bOf_bl, Nat.mul_one, stOf, Nat.lt_irrefl, decide_false]))
      have hm2 : ofL zb l = (b, 0) := by rw [hm]; simp [ofL]
      rw [hm2]
/-! ### the highest bit -/
def hiB (b : T_Bits) : Nat → Int
  | 0 => 0
  | i + 1 => if wn b i = 0 then hiB b i else ((i * 64 + Lib.bitLen (wn b i) : Nat) : Int)
theorem hiB_succ {b : T_Bits} {i : Nat} : hiB b (i + 1) = if wn b i = 0 then hiB b i else ((i * 64 + Lib.bitLen (wn b i) : Nat) : Int) := rfl
def conHi : Con := .pure (fun args _ => match args with | [v] => IsBits v | _ => False) (fun args _ => match args with | [v] => .int .i64 (hiB (bOf v) 4) | _ => undef)
def stHi (hp : Hp) (top : Nat) (b : T_Bits) (i : Nat) : SS := ⟨[(1, .pointer (some ⟨top, 0, none⟩), true), (3, .int .i64 ((i : Int) - 1), true)], hp.sets [(top, some (.cells true 0 (bl b)))], top + 1⟩

theorem hi_ok : ConOk Tryd.prog 51 conHi := by
  refine .mkRd fn51_ok ?_ ?_
  · rintro args hp h
    match args, h with
    | [_], ⟨b, rfl, hb⟩ => rfl
  intro args hp hpre top hcl hsc
  match args, hpre with
  | [_], ⟨b, rfl, hb⟩ =>
  refine CalledOk.of_fun tt_ok fn51_ok rfl 19 rfl [.tmp 2] rfl (show 1 ≤ 19 by decide) ?_
  refine CW.vc env6 [0, 1, 2, 3, 5, 11] (by kernel_rfl) ?_
  (simp only [go_sem, reduceIte, reduceCtorEq, Nat.reduceAdd, Nat.reduceMul, Nat.reduceSub, Nat.reduceLT, Nat.reduceLeDiff, Nat.reduceEqDiff, Int.reduceEq, Int.reduceLT, Int.reduceLE, Int.reduceNe, rem64, mask64, c_iu, wrapu_mod, bl_len, bl_take, bl_ren, bl_app, bl_one, bOf_bl, Nat.mul_one]; repeat (refine Vc.mk' ?_; simp only [go_sem, reduceIte, reduceCtorEq, Nat.reduceAdd, Nat.reduceMul, Nat.reduceSub, Nat.reduceLT, Nat.reduceLeDiff, Nat.reduceEqDiff, Int.reduceEq, Int.reduceLT, Int.reduceLE, Int.reduceNe, rem64, mask64, c_iu, wrapu_mod, bl_len, bl_take, bl_ren, bl_app, bl_one, bOf_bl, Nat.mul_one]))
  refine CW.loopR (stHi hp top b) (fun k => k ≤ 4 ∧ hiB b 4 = hiB b k) (fun k => k) 4 ⟨by omega, rfl⟩ ?_ ?_
  · exact SubR.mk' [top] hcl (by simp) (by simp) rfl (frSub_ok (by simp [frSub, lkG, ren, renL, renL_set, renL_ints, UpdOk.nil, UpdOk.cons, renOO_some, renO_cells, renO_map, renOO_mkOb, rn_base, rn_add, ren_mkSl, Enc.flat_ren, set_same, set_ne, sets_cons, sets_nil, Keep.set, Keep.setK, Keep.refl, bl_ren])) (by simp [frSub, lkG, ren, renL, renL_set, renL_ints, UpdOk.nil, UpdOk.cons, renOO_some, renO_cells, renO_map, renOO_mkOb, rn_base, rn_add, ren_mkSl, Enc.flat_ren, set_same, set_ne, sets_cons, sets_nil, Keep.set, Keep.setK, Keep.refl, bl_ren]) (by simp [frSub, lkG, ren, renL, renL_set, renL_ints, UpdOk.nil, UpdOk.cons, renOO_some, renO_cells, renO_map, renOO_mkOb, rn_base, rn_add, ren_mkSl, Enc.flat_ren, set_same, set_ne, sets_cons, sets_nil, Keep.set, Keep.setK, Keep.refl, bl_ren])
  · rintro i ⟨hi, hm⟩
    by_cases h0 : i = 0
    · subst h0
      have h4 : ((0 : Nat) : Int) - 1 < 0 := by omega
      refine CW.vc env6 [0, 1, 2, 3, 5, 11] (by kernel_rfl) ?_
      (simp only [go_sem, reduceIte, reduceCtorEq, Nat.reduceAdd, Nat.reduceMul, Nat.reduceSub, Nat.reduceLT, Nat.reduceLeDiff, Nat.reduceEqDiff, Int.reduceEq, Int.reduceLT, Int.reduceLE, Int.reduceNe, rem64, mask64, c_iu, wrapu_mod, bl_len, bl_take, bl_ren, bl_app, bl_one, bOf_bl, Nat.mul_one, stHi, h4]; repeat (refine Vc.mk' ?_; simp only [go_sem, reduceIte, reduceCtorEq, Nat.reduceAdd, Nat.reduceMul, Nat.reduceSub, Nat.reduceLT, Nat.reduceLeDiff, Nat.reduceEqDiff, Int.reduceEq, Int.reduceLT, Int.reduceLE, Int.reduceNe, rem64, mask64, c_iu, wrapu_mod, bl_len, bl_take, bl_ren, bl_app, bl_one, bOf_bl, Nat.mul_one, stHi, h4]))
      rw [hm]; rfl
    · obtain ⟨j, rfl⟩ : ∃ j, i = j + 1 := ⟨i - 1, by omega⟩
      have hj : ((j + 1 : Nat) : Int) - 1 = (j : Int) := by omega
      have h4 : ¬ (j : Int) < 0 := by omega
      have h5 : j < 4 := by omega
      have h6 : j ≤ 3 := by omega
      have hu : U64 (wn b j : Int) = True := eq_true ⟨by omega, by have := wn_lt hb j; omega⟩
      have hm := hm.trans (hiB_succ (b := b) (i := j))
      by_cases hz : wn b j = 0
      · have hz1 : ((wn b j : Nat) : Int) = 0 := by omega
        refine CW.vc env6 [0, 1, 2, 3, 5, 11] (by kernel_rfl) ?_
        (simp only [go_sem, reduceIte, reduceCtorEq, Nat.reduceAdd, Nat.reduceMul, Nat.reduceSub, Nat.reduceLT, Nat.reduceLeDiff, Nat.reduceEqDiff, Int.reduceEq, Int.reduceLT, Int.reduceLE, Int.reduceNe, rem64, mask64, c_iu, wrapu_mod, bl_len, bl_take, bl_ren, bl_app, bl_one, bOf_bl, Nat.mul_one, stHi, hj, h4, h5, h6, bl_get hb h5, hz1]; repeat (refine Vc.mk' ?_; simp only [go_sem, reduceIte, reduceCtorEq, Nat.reduceAdd, Nat.reduceMul, Nat.reduceSub, Nat.reduceLT, Nat.reduceLeDiff, Nat.reduceEqDiff, Int.reduceEq, Int.reduceLT, Int.reduceLE, Int.reduceNe, rem64, mask64, c_iu, wrapu_mod, bl_len, bl_take, bl_ren, bl_app, bl_one, bOf_bl, Nat.mul_one, stHi, hj, h4, h5, h6, bl_get hb h5, hz1]))
        rw [if_pos hz] at hm
        have hwj : wrapA .i64 ((j : Int) - 1) = (j : Int) - 1 := wrap64 (by omega) (by omega)
        refine .mk j ⟨by omega, hm⟩ (by omega) (SubR.mk' [top] hcl (by simp) (by simp) rfl (frSub_ok (by simp [frSub, lkG, ren, renL, renL_set, renL_ints, UpdOk.nil, UpdOk.cons, renOO_some, renO_cells, renO_map, renOO_mkOb, rn_base, rn_add, ren_mkSl, Enc.flat_ren, set_same, set_ne, sets_cons, sets_nil, Keep.set, Keep.setK, Keep.refl, bl_ren, hwj])) (by simp [frSub, lkG, ren, renL, renL_set, renL_ints, UpdOk.nil, UpdOk.cons, renOO_some, renO_cells, renO_map, renOO_mkOb, rn_base, rn_add, ren_mkSl, Enc.flat_ren, set_same, set_ne, sets_cons, sets_nil, Keep.set, Keep.setK, Keep.refl, bl_ren, hwj]) (by simp [frSub, lkG, ren, renL, renL_set, renL_ints, UpdOk.nil, UpdOk.cons, renOO_some, renO_cells, renO_map, renOO_mkOb, rn_base, rn_add, ren_mkSl, Enc.flat_ren, set_same, set_ne, sets_cons, sets_nil, Keep.set, Keep.setK, Keep.refl, bl_ren, hwj]))
      · have hz1 : ¬ ((wn b j : Nat) : Int) = 0 := by omega
        refine CW.vc env6 [0, 1, 2, 3, 5, 11] (by kernel_rfl) ?_
        (simp only [go_sem, reduceIte, reduceCtorEq, Nat.reduceAdd, Nat.reduceMul, Nat.reduceSub, Nat.reduceLT, Nat.reduceLeDiff, Nat.reduceEqDiff, Int.reduceEq, Int.reduceLT, Int.reduceLE, Int.reduceNe, rem64, mask64, c_iu, wrapu_mod, bl_len, bl_take, bl_ren, bl_app, bl_one, bOf_bl, Nat.mul_one, stHi, hj, h4, h5, h6, bl_get hb h5, hz1, G6_len, conLen64, hu, Int.toNat_natCast]; repeat (refine Vc.mk' ?_; simp only [go_sem, reduceIte, reduceCtorEq, Nat.reduceAdd, Nat.reduceMul, Nat.reduceSub, Nat.reduceLT, Nat.reduceLeDiff, Nat.reduceEqDiff, Int.reduceEq, Int.reduceLT, Int.reduceLE, Int.reduceNe, rem64, mask64, c_iu, wrapu_mod, bl_len, bl_take, bl_ren, bl_app, bl_one, bOf_bl, Nat.mul_one, stHi, hj, h4, h5, h6, bl_get hb h5, hz1, G6_len, conLen64, hu, Int.toNat_natCast]))
        rw [if_neg hz] at hm
        have hbl : Lib.bitLen (wn b j) ≤ 64 := blen_le (wn_lt hb j)
        rw [hm, wrap64 (n := (j : Int) * 64) (by omega) (by omega), wrap64 (by omega) (by omega)]
        congr 1
def G7 := addG (addG G6 12 conOf) 51 conHi
theorem env7 : EnvV Tryd.prog tt.get G7 := (env6.add of_ok).add hi_ok
theorem G7_hi : G7 51 = conHi := rfl
def belowB (b : T_Bits) (w : Int) : Bool := if b = zb then decide (0 ≤ w) && decide (w ≤ 256) else decide (w ≤ 256) && decide (hiB b 4 ≤ w)
def conBelow : Con := .pure (fun args _ => match args with | [v, .int .i64 _] => IsBits v | _ => False) (fun args _ => match args with | [v, w] => .bool (belowB (bOf v) (intOf w)) | _ => undef)

theorem below_ok : ConOk Tryd.prog 34 conBelow := by
  refine .mkRd fn34_ok ?_ ?_
  · rintro args hp h
    match args, h with
    | [_, .int .i64 w], ⟨b, rfl, hb⟩ => rfl
  intro args hp hpre top hcl hsc
  match args, hpre with
  | [_, .int .i64 w], ⟨b, rfl, hb⟩ =>
  refine CalledOk.of_fun tt_ok fn34_ok rfl 22 rfl [.tmp 4] rfl (show 2 ≤ 22 by decide) ?_
  have hI := isBits_bl hb
  have hz : [Value.int .u64 0, Value.int .u64 0, Value.int .u64 0, Value.int .u64 0] = bl zb := rfl
  have hi : IsI .i64 (Value.int .i64 (hiB b 4)) = True := eq_true rfl
  refine CW.vc env7 [0, 1, 2, 4, 7] (by kernel_rfl) ?_
  (simp only [go_sem, reduceIte, reduceCtorEq, Nat.reduceAdd, Nat.reduceMul, Nat.reduceSub, Nat.reduceLT, Nat.reduceLeDiff, Nat.reduceEqDiff, Int.reduceEq, Int.reduceLT, Int.reduceLE, Int.reduceNe, rem64, mask64, c_iu, wrapu_mod, bl_len, bl_take, bl_ren, bl_app, bl_one, bOf_bl, Nat.mul_one, hz, bits_eql]; repeat (refine Vc.mk' ?_; simp only [go_sem, reduceIte, reduceCtorEq, Nat.reduceAdd, Nat.reduceMul, Nat.reduceSub, Nat.reduceLT, Nat.reduceLeDiff, Nat.reduceEqDiff, Int.reduceEq, Int.reduceLT, Int.reduceLE, Int.reduceNe, rem64, mask64, c_iu, wrapu_mod, bl_len, bl_take, bl_ren, bl_app, bl_one, bOf_bl, Nat.mul_one, hz, bits_eql]))
  refine condP.mk (fun c => ?_) (fun c => ?_)
  · (simp only [go_sem, reduceIte, reduceCtorEq, Nat.reduceAdd, Nat.reduceMul, Nat.reduceSub, Nat.reduceLT, Nat.reduceLeDiff, Nat.reduceEqDiff, Int.reduceEq, Int.reduceLT, Int.reduceLE, Int.reduceNe, rem64, mask64, c_iu, wrapu_mod, bl_len, bl_take, bl_ren, bl_app, bl_one, bOf_bl, Nat.mul_one]; repeat (refine Vc.mk' ?_; simp only [go_sem, reduceIte, reduceCtorEq, Nat.reduceAdd, Nat.reduceMul, Nat.reduceSub, Nat.reduceLT, Nat.reduceLeDiff, Nat.reduceEqDiff, Int.reduceEq, Int.reduceLT, Int.reduceLE, Int.reduceNe, rem64, mask64, c_iu, wrapu_mod, bl_len, bl_take, bl_ren, bl_app, bl_one, bOf_bl, Nat.mul_one]))
    have c2 : b = zb := by simpa using c
    refine bool_eq ?_
    simp [belowB, c2]
  · (simp only [go_sem, reduceIte, reduceCtorEq, Nat.reduceAdd, Nat.reduceMul, Nat.reduceSub, Nat.reduceLT, Nat.reduceLeDiff, Nat.reduceEqDiff, Int.reduceEq, Int.reduceLT, Int.reduceLE, Int.reduceNe, rem64, mask64, c_iu, wrapu_mod, bl_len, bl_take, bl_ren, bl_app, bl_one, bOf_bl, Nat.mul_one, G7_hi, conHi, hI]; repeat (refine Vc.mk' ?_; simp only [go_sem, reduceIte, reduceCtorEq, Nat.reduceAdd, Nat.reduceMul, Nat.reduceSub, Nat.reduceLT, Nat.reduceLeDiff, Nat.reduceEqDiff, Int.reduceEq, Int.reduceLT, Int.reduceLE, Int.reduceNe, rem64, mask64, c_iu, wrapu_mod, bl_len, bl_take, bl_ren, bl_app, bl_one, bOf_bl, Nat.mul_one, G7_hi, conHi, hI]))
    have c2 : ¬ b = zb := by simpa using c
    refine bool_eq ?_
    simp [belowB, c2]
/-! ### works -/
def G8 := addG G7 34 conBelow
theorem env8 : EnvV Tryd.prog tt.get G8 := env7.add below_ok
theorem G8_below : G8 34 = conBelow := rfl
def wbB : T_Bits := ⟨513, 0, 0, 0⟩
theorem wb_ok : OkB wbB := by refine ⟨?_, ?_, ?_, ?_⟩ <;> exact ⟨by decide, by decide⟩
theorem below_wb : belowB wbB 16 = true := by decide +kernel
theorem slen8 {hp : Hp} {a : Option Addr} {n c : Nat} : slen tt.get hp 51 (.slice a n c) = (.int .i64 (n : Int), True) := by
  unfold slen; simp only [k_suint8, lenA, t_suint8, ti51]; rfl
def oW : Nat → List Value
  | 0 => [.int .u8 0, .int .u8 0]
  | 1 => [.int .u8 1, .int .u8 0]
  | _ => [.int .u8 1, .int .u8 2]
def stBW (hp : Hp) (top : Nat) (k : Nat) : SS := ⟨[(2, .pointer (some ⟨top, 0, none⟩), true), (5, .int .i64 0, true), (6, .slice (some ⟨top + 1, 0, none⟩) 2 2, true), (29, .int .i64 ((2 : Nat) : Int), true), (30, .int .i64 (k : Int), true)], hp.sets [(top, some (.cells true 0 (bl wbB))), (top + 1, some (.cells true 1 (oW k)))], top + 2⟩
theorem c_ub {hp : Hp} {x : Value} : sconvH tt.get hp 23 5 x = (.int .u8 (wrapA .u8 (intOf x)), IsN x) := sconvH_int k_uint64 k_uint8
theorem cv_w {hp : Hp} {b : Nat} (h : hp b = some (.cells true 1 [.int .u8 1, .int .u8 2])) : sconvH tt.get hp 51 9 (.slice (some ⟨b, 0, none⟩) 2 2) = (.string ⟨⟨[1, 2]⟩⟩, True) := by
  have e : convB tt.get hp 51 9 (.slice (some ⟨b, 0, none⟩) 2 2) = some (.string ⟨⟨[1, 2]⟩⟩) := by
    simp only [convB, t_suint8, t_string, t_uint8, ti51, ti9, ti5, h]
    rfl
  unfold sconvH
  simp only [k_suint8, e]
def conBytesW : Con := .pure (fun args _ => args = [.agg ⟨bl wbB⟩, .int .i64 16]) (fun _ _ => .tuple ⟨[.string ⟨⟨[1, 2]⟩⟩, .int .i64 0]⟩)

theorem bytesW_ok : ConOk Tryd.prog 16 conBytesW := by
  refine .mkRd fn16_ok ?_ ?_
  · intro args hp h
    rfl
  intro args hp hpre top hcl hsc
  subst hpre
  refine CalledOk.of_fun tt_ok fn16_ok rfl 48 rfl [.tmp 4, .tmp 5] rfl (show 2 ≤ 48 by decide) ?_
  have hI := isBits_bl wb_ok
  refine CW.vc env8 [0, 1, 2, 4, 5, 6, 7, 8, 20, 29, 30, 31] (by kernel_rfl) ?_
  have t1 : Int.tmod 16 8 = 0 := rfl
  have t2 : IntKind.i64.wrap (Int.tdiv 16 8) = 2 := rfl
  (simp only [go_sem, reduceIte, reduceCtorEq, Nat.reduceAdd, Nat.reduceMul, Nat.reduceSub, Nat.reduceLT, Nat.reduceLeDiff, Nat.reduceEqDiff, Int.reduceEq, Int.reduceLT, Int.reduceLE, Int.reduceNe, rem64, mask64, c_iu, wrapu_mod, bl_len, bl_take, bl_ren, bl_app, bl_one, bOf_bl, Nat.mul_one, G8_below, conBelow, hI, below_wb, t1, t2, slen8]; repeat (refine Vc.mk' ?_; simp only [go_sem, reduceIte, reduceCtorEq, Nat.reduceAdd, Nat.reduceMul, Nat.reduceSub, Nat.reduceLT, Nat.reduceLeDiff, Nat.reduceEqDiff, Int.reduceEq, Int.reduceLT, Int.reduceLE, Int.reduceNe, rem64, mask64, c_iu, wrapu_mod, bl_len, bl_take, bl_ren, bl_app, bl_one, bOf_bl, Nat.mul_one, G8_below, conBelow, hI, below_wb, t1, t2, slen8]))
  refine CW.loopR (stBW hp top) (fun k => k ≤ 2) (fun k => 2 - k) 0 (by omega) ?_ ?_
  · exact SubR.mk' [top, top + 1] hcl (by simp) (by simp) rfl (frSub_ok (by simp [frSub, lkG, ren, renL, renL_set, renL_ints, UpdOk.nil, UpdOk.cons, renOO_some, renO_cells, renO_map, renOO_mkOb, rn_base, rn_add, ren_mkSl, Enc.flat_ren, set_same, set_ne, sets_cons, sets_nil, Keep.set, Keep.setK, Keep.refl, bl_ren, oW])) (by simp [frSub, lkG, ren, renL, renL_set, renL_ints, UpdOk.nil, UpdOk.cons, renOO_some, renO_cells, renO_map, renOO_mkOb, rn_base, rn_add, ren_mkSl, Enc.flat_ren, set_same, set_ne, sets_cons, sets_nil, Keep.set, Keep.setK, Keep.refl, bl_ren, oW]) (by simp [frSub, lkG, ren, renL, renL_set, renL_ints, UpdOk.nil, UpdOk.cons, renOO_some, renO_cells, renO_map, renOO_mkOb, rn_base, rn_add, ren_mkSl, Enc.flat_ren, set_same, set_ne, sets_cons, sets_nil, Keep.set, Keep.setK, Keep.refl, bl_ren, oW])
  · rintro k hk
    have g0 : ((bl wbB)[0]?).getD undef = .int .u64 513 := rfl
    have q0 : IntKind.i64.wrap (((0 : Nat) : Int).tdiv 8) = 0 := rfl
    have q1 : IntKind.i64.wrap (((1 : Nat) : Int).tdiv 8) = 0 := rfl
    have m0 : wrapA .i64 (8 * ((0 : Nat) : Int).tmod 8) = 0 := rfl
    have m1 : wrapA .i64 (8 * ((1 : Nat) : Int).tmod 8) = 8 := rfl
    have v0 : wrapA .u8 (Int.fdiv 513 (Int.ofNat (Nat.pow 2 (Nat.min 0 64)))) = 1 := by decide
    have v1 : wrapA .u8 (Int.fdiv 513 (Int.ofNat (Nat.pow 2 ((Int.toNat 8).min 64)))) = 2 := by decide
    have p4 : (0 : Int) < ((4 : Nat) : Int) := by decide
    have n4 : Int.toNat 0 < 4 := by decide
    have g0' : ((bl wbB)[Int.toNat 0]?).getD undef = .int .u64 513 := rfl
    have p8 : (0 : Int) ≤ 8 := by decide
    have p0 : (0 : Int) ≤ 0 := by decide
    rcases k with _ | _ | _ | k
    · refine CW.vc env8 [0, 1, 2, 4, 5, 6, 7, 8, 20, 29, 30, 31] (by kernel_rfl) ?_
      (simp only [go_sem, reduceIte, reduceCtorEq, Nat.reduceAdd, Nat.reduceMul, Nat.reduceSub, Nat.reduceLT, Nat.reduceLeDiff, Nat.reduceEqDiff, Int.reduceEq, Int.reduceLT, Int.reduceLE, Int.reduceNe, rem64, mask64, c_iu, wrapu_mod, bl_len, bl_take, bl_ren, bl_app, bl_one, bOf_bl, Nat.mul_one, stBW, oW, g0, g0', q0, q1, m0, m1, v0, v1, p4, n4, p8, p0, c_ub]; repeat (refine Vc.mk' ?_; simp only [go_sem, reduceIte, reduceCtorEq, Nat.reduceAdd, Nat.reduceMul, Nat.reduceSub, Nat.reduceLT, Nat.reduceLeDiff, Nat.reduceEqDiff, Int.reduceEq, Int.reduceLT, Int.reduceLE, Int.reduceNe, rem64, mask64, c_iu, wrapu_mod, bl_len, bl_take, bl_ren, bl_app, bl_one, bOf_bl, Nat.mul_one, stBW, oW, g0, g0', q0, q1, m0, m1, v0, v1, p4, n4, p8, p0, c_ub]))
      refine .mk 1 (by omega) (by omega) (SubR.mk' [top, top + 1] hcl (by simp) (by simp) rfl (frSub_ok (by simp [frSub, lkG, ren, renL, renL_set, renL_ints, UpdOk.nil, UpdOk.cons, renOO_some, renO_cells, renO_map, renOO_mkOb, rn_base, rn_add, ren_mkSl, Enc.flat_ren, set_same, set_ne, sets_cons, sets_nil, Keep.set, Keep.setK, Keep.refl, bl_ren, oW, show wrapA .i64 1 = 1 from rfl])) (by simp [frSub, lkG, ren, renL, renL_set, renL_ints, UpdOk.nil, UpdOk.cons, renOO_some, renO_cells, renO_map, renOO_mkOb, rn_base, rn_add, ren_mkSl, Enc.flat_ren, set_same, set_ne, sets_cons, sets_nil, Keep.set, Keep.setK, Keep.refl, bl_ren, oW, show wrapA .i64 1 = 1 from rfl]) (by simp [frSub, lkG, ren, renL, renL_set, renL_ints, UpdOk.nil, UpdOk.cons, renOO_some, renO_cells, renO_map, renOO_mkOb, rn_base, rn_add, ren_mkSl, Enc.flat_ren, set_same, set_ne, sets_cons, sets_nil, Keep.set, Keep.setK, Keep.refl, bl_ren, oW, show wrapA .i64 1 = 1 from rfl]))
    · refine CW.vc env8 [0, 1, 2, 4, 5, 6, 7, 8, 20, 29, 30, 31] (by kernel_rfl) ?_
      (simp only [go_sem, reduceIte, reduceCtorEq, Nat.reduceAdd, Nat.reduceMul, Nat.reduceSub, Nat.reduceLT, Nat.reduceLeDiff, Nat.reduceEqDiff, Int.reduceEq, Int.reduceLT, Int.reduceLE, Int.reduceNe, rem64, mask64, c_iu, wrapu_mod, bl_len, bl_take, bl_ren, bl_app, bl_one, bOf_bl, Nat.mul_one, stBW, oW, g0, g0', q0, q1, m0, m1, v0, v1, p4, n4, p8, p0, c_ub]; repeat (refine Vc.mk' ?_; simp only [go_sem, reduceIte, reduceCtorEq, Nat.reduceAdd, Nat.reduceMul, Nat.reduceSub, Nat.reduceLT, Nat.reduceLeDiff, Nat.reduceEqDiff, Int.reduceEq, Int.reduceLT, Int.reduceLE, Int.reduceNe, rem64, mask64, c_iu, wrapu_mod, bl_len, bl_take, bl_ren, bl_app, bl_one, bOf_bl, Nat.mul_one, stBW, oW, g0, g0', q0, q1, m0, m1, v0, v1, p4, n4, p8, p0, c_ub]))
      refine .mk 2 (by omega) (by omega) (SubR.mk' [top, top + 1] hcl (by simp) (by simp) rfl (frSub_ok (by simp [frSub, lkG, ren, renL, renL_set, renL_ints, UpdOk.nil, UpdOk.cons, renOO_some, renO_cells, renO_map, renOO_mkOb, rn_base, rn_add, ren_mkSl, Enc.flat_ren, set_same, set_ne, sets_cons, sets_nil, Keep.set, Keep.setK, Keep.refl, bl_ren, oW, show wrapA .i64 2 = 2 from rfl])) (by simp [frSub, lkG, ren, renL, renL_set, renL_ints, UpdOk.nil, UpdOk.cons, renOO_some, renO_cells, renO_map, renOO_mkOb, rn_base, rn_add, ren_mkSl, Enc.flat_ren, set_same, set_ne, sets_cons, sets_nil, Keep.set, Keep.setK, Keep.refl, bl_ren, oW, show wrapA .i64 2 = 2 from rfl]) (by simp [frSub, lkG, ren, renL, renL_set, renL_ints, UpdOk.nil, UpdOk.cons, renOO_some, renO_cells, renO_map, renOO_mkOb, rn_base, rn_add, ren_mkSl, Enc.flat_ren, set_same, set_ne, sets_cons, sets_nil, Keep.set, Keep.setK, Keep.refl, bl_ren, oW, show wrapA .i64 2 = 2 from rfl]))
    · refine CW.vc env8 [0, 1, 2, 4, 5, 6, 7, 8, 20, 29, 30, 31] (by kernel_rfl) ?_
      (simp only [go_sem, reduceIte, reduceCtorEq, Nat.reduceAdd, Nat.reduceMul, Nat.reduceSub, Nat.reduceLT, Nat.reduceLeDiff, Nat.reduceEqDiff, Int.reduceEq, Int.reduceLT, Int.reduceLE, Int.reduceNe, rem64, mask64, c_iu, wrapu_mod, bl_len, bl_take, bl_ren, bl_app, bl_one, bOf_bl, Nat.mul_one, stBW, oW, g0, g0', q0, q1, m0, m1, v0, v1, p4, n4, p8, p0, c_ub, cv_w (set_same ..)]; repeat (refine Vc.mk' ?_; simp only [go_sem, reduceIte, reduceCtorEq, Nat.reduceAdd, Nat.reduceMul, Nat.reduceSub, Nat.reduceLT, Nat.reduceLeDiff, Nat.reduceEqDiff, Int.reduceEq, Int.reduceLT, Int.reduceLE, Int.reduceNe, rem64, mask64, c_iu, wrapu_mod, bl_len, bl_take, bl_ren, bl_app, bl_one, bOf_bl, Nat.mul_one, stBW, oW, g0, g0', q0, q1, m0, m1, v0, v1, p4, n4, p8, p0, c_ub, cv_w (set_same ..)]))
    · omega
def G9 := addG G8 16 conBytesW
theorem env9 : EnvV Tryd.prog tt.get G9 := env8.add bytesW_ok
theorem G9_of : G9 12 = conOf := rfl
theorem G9_bytes : G9 16 = conBytesW := rfl
theorem G9_text : G9 36 = conText := rfl
theorem G9_count : G9 26 = conCount := rfl
theorem of_w : ofL zb [1, 10] = (wbB, 0) := by decide +kernel
theorem cnt_w : cnt wbB 4 = 2 := by decide +kernel
theorem text_w : textB wbB = [49, 32, 49, 48] := by
  have e : bitsL wbB = [toBn 1, toBn 10] := by
    rw [bitsL_split, show wn wbB 0 = 513 from rfl, show wn wbB 1 = 0 from rfl, show wn wbB 2 = 0 from rfl, show wn wbB 3 = 0 from rfl, wl_zero, wl_zero, wl_zero, wl_eq 513 (by decide)]
    decide +kernel
  unfold textB
  rw [e]
  decide +kernel
def conWorks : Con := .pure (fun args hp => args = [] ∧ hp 0 = some tzO ∧ hp 1 = some powO) (fun _ _ => .bool true)

theorem works_ok : ConOk Tryd.prog 15 conWorks := by
  refine .mkRd fn15_ok (fun _ _ _ => rfl) ?_
  rintro args hp ⟨rfl, ht, hp1⟩ top hcl hsc
  have ht0 := hcl.lt _ _ ht
  have ht1 := hcl.lt _ _ hp1
  have hI := isBits_bl wb_ok
  refine CalledOk.of_fun tt_ok fn15_ok rfl 35 rfl [.tmp 0] rfl (show 0 ≤ 35 by decide) ?_
  have hP : SlP e_int (hp.set top (some (.cells true 1 [.int .i64 1, .int .i64 10]))) (.slice (some ⟨top, 0, none⟩) 2 2) = True := own_P (l := [1, 10]) (set_same ..) (by decide)
  have hR : e_int.rd (hp.set top (some (.cells true 1 [.int .i64 1, .int .i64 10]))) (.slice (some ⟨top, 0, none⟩) 2 2) = [1, 10] := own_rd (l := [1, 10]) (set_same ..) (by decide)
  refine CW.vc env9 [0, 1, 2, 3, 4] (by kernel_rfl) ?_
  (simp only [go_sem, reduceIte, reduceCtorEq, Nat.reduceAdd, Nat.reduceMul, Nat.reduceSub, Nat.reduceLT, Nat.reduceLeDiff, Nat.reduceEqDiff, Int.reduceEq, Int.reduceLT, Int.reduceLE, Int.reduceNe, rem64, mask64, c_iu, wrapu_mod, bl_len, bl_take, bl_ren, bl_app, bl_one, bOf_bl, Nat.mul_one, hP, hR, G9_of, G9_bytes, G9_text, G9_count, conOf, conBytesW, conText, conCount, of_w, cnt_w, text_w, hI, set_lt ht0, set_lt ht1, ht, hp1]; repeat (refine Vc.mk' ?_; simp only [go_sem, reduceIte, reduceCtorEq, Nat.reduceAdd, Nat.reduceMul, Nat.reduceSub, Nat.reduceLT, Nat.reduceLeDiff, Nat.reduceEqDiff, Int.reduceEq, Int.reduceLT, Int.reduceLE, Int.reduceNe, rem64, mask64, c_iu, wrapu_mod, bl_len, bl_take, bl_ren, bl_app, bl_one, bOf_bl, Nat.mul_one, hP, hR, G9_of, G9_bytes, G9_text, G9_count, conOf, conBytesW, conText, conCount, of_w, cnt_w, text_w, hI, set_lt ht0, set_lt ht1, ht, hp1]))
  rfl
end Go.Proofs.YtkofmbhopmgmhaaDoor.Dm
