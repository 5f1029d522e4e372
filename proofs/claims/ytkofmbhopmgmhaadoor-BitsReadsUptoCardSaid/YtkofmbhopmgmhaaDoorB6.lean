/- Are two bit strings the same; how many bits; below. -/
import Derived.Test.YtkofmbhopmgmhaaDoorB5
set_option linter.unusedSimpArgs false
set_option linter.unusedVariables false
namespace Go.Proofs.YtkofmbhopmgmhaaDoor.Dm
open Go.Dm
set_option maxHeartbeats 4000000

theorem eqA_u64 {d : Nat} {x y : Int} : eqA tt.get (d + 1) 23 (.int .u64 x) (.int .u64 y) = some (decide (x = y)) := by
  simp [eqA, t_uint64, ti23, eqI_dec]
theorem eqItems_u64 {xs ys : List Value} {d i n : Nat} {x y : Int} (h1 : partA ti23 xs (i * 1) = some (.int .u64 x)) (h2 : partA ti23 ys (i * 1) = some (.int .u64 y)) :
    eqItems tt.get (d + 2) 23 ti23 xs ys i (n + 1) = if x = y then eqItems tt.get (d + 1) 23 ti23 xs ys (i + 1) n else some false := by
  have hs : ti23.size = 1 := rfl
  simp only [eqItems, hs, h1, h2, eqA_u64]
  by_cases h : x = y <;> simp [h]
theorem eqItems_none {xs ys : List Value} {d e i : Nat} {j : TI} : eqItems tt.get (d + 1) e j xs ys i 0 = some true := by rw [eqItems]
theorem bl_eqA {a b : T_Bits} : eqA tt.get 64 25 (.agg ⟨bl a⟩) (.agg ⟨bl b⟩) = some (decide (a = b)) := by
  cases a with | mk a0 a1 a2 a3 =>
  cases b with | mk b0 b1 b2 b3 =>
  have e : eqA tt.get 64 25 (.agg ⟨bl ⟨a0, a1, a2, a3⟩⟩) (.agg ⟨bl ⟨b0, b1, b2, b3⟩⟩) = eqItems tt.get 63 23 ti23 (bl ⟨a0, a1, a2, a3⟩) (bl ⟨b0, b1, b2, b3⟩) 0 4 := by
    rw [eqA]; simp only [t_Bits, ti25, t_uint64]
  rw [e, eqItems_u64 (x := a0) (y := b0) rfl rfl, eqItems_u64 (x := a1) (y := b1) rfl rfl, eqItems_u64 (x := a2) (y := b2) rfl rfl, eqItems_u64 (x := a3) (y := b3) rfl rfl]
  by_cases h0 : a0 = b0 <;> by_cases h1 : a1 = b1 <;> by_cases h2 : a2 = b2 <;> by_cases h3 : a3 = b3 <;> simp [h0, h1, h2, h3, eqItems_none]
theorem bits_eql {xo yo : Operand} {a b : T_Bits} : sbin2 tt.get .eql 25 xo yo (.agg ⟨bl a⟩) (.agg ⟨bl b⟩) = (.bool (decide (a = b)), True) := by
  have h : sbin2 tt.get .eql 25 xo yo (.agg ⟨bl a⟩) (.agg ⟨bl b⟩) = sbinX (binA tt.get .eql 25 xo yo (.agg ⟨bl a⟩) (.agg ⟨bl b⟩)) := by
    unfold sbin2; rw [t_Bits]; unfold sbin; rw [k_Bits]; rfl
  rw [h]
  have h2 : binA tt.get .eql 25 xo yo (.agg ⟨bl a⟩) (.agg ⟨bl b⟩) = some (.bool (decide (a = b))) := by
    simp only [binA, t_Bits, ti25, bl_eqA]
  rw [h2]; rfl
theorem bits_neq {xo yo : Operand} {a b : T_Bits} : sbin2 tt.get .neq 25 xo yo (.agg ⟨bl a⟩) (.agg ⟨bl b⟩) = (.bool (!decide (a = b)), True) := by
  have h : sbin2 tt.get .neq 25 xo yo (.agg ⟨bl a⟩) (.agg ⟨bl b⟩) = sbinX (binA tt.get .neq 25 xo yo (.agg ⟨bl a⟩) (.agg ⟨bl b⟩)) := by
    unfold sbin2; rw [t_Bits]; unfold sbin; rw [k_Bits]; rfl
  rw [h]
  have h2 : binA tt.get .neq 25 xo yo (.agg ⟨bl a⟩) (.agg ⟨bl b⟩) = some (.bool (!decide (a = b))) := by
    simp only [binA, t_Bits, ti25, bl_eqA]
  rw [h2]; rfl
/-! ### how many bits a word has -/
def shrI (x : Int) (k : Int) : Int := x.fdiv (Int.ofNat (Nat.pow 2 ((Int.toNat k).min 64)))
def oc1 (x : Int) : Int := wrapA .u64 (bitsI .and .u64 (shrI x 1) 6148914691236517205 + bitsI .and .u64 x 6148914691236517205)
def oc2 (x : Int) : Int := wrapA .u64 (bitsI .and .u64 (shrI x 2) 3689348814741910323 + bitsI .and .u64 x 3689348814741910323)
def oc3 (x : Int) : Int := bitsI .and .u64 (wrapA .u64 (shrI x 4 + x)) 1085102592571150095
def oc4 (k : Int) (x : Int) : Int := wrapA .u64 (x + shrI x k)
/-- as Go's text counts -/
def swar (x : Int) : Int := bitsI .and .i64 (wrapA .i64 (oc4 32 (oc4 16 (oc4 8 (oc3 (oc2 (oc1 x))))))) 127
def conOC : Con := .pure (fun args _ => match args with | [.int .u64 x] => U64 x | _ => False) (fun args _ => match args with | [x] => .int .i64 (swar (intOf x)) | _ => undef)
theorem c_ui {hp : Hp} {x : Value} : sconvH tt.get hp 23 3 x = (.int .i64 (wrapA .i64 (intOf x)), IsN x) := sconvH_int k_uint64 k_int

theorem oc_ok : ConOk Tryd.prog 49 conOC := by
  refine .mkPure fn49_ok ?_
  intro args hp hpre top
  match args, hpre with
  | [.int .u64 x], ⟨h0, h1⟩ =>
  refine CalledOk.of_fun tt_ok fn49_ok rfl 35 rfl [.tmp 2] rfl (show 1 ≤ 35 by decide) ?_
  refine CW.vc env0 [0, 2] (by kernel_rfl) ?_
  (simp only [go_sem, reduceIte, reduceCtorEq, Nat.reduceAdd, Nat.reduceMul, Nat.reduceSub, Nat.reduceLT, Nat.reduceLeDiff, Nat.reduceEqDiff, Int.reduceEq, Int.reduceLT, Int.reduceLE, Int.reduceNe, c_ui]; repeat (refine Vc.mk' ?_; simp only [go_sem, reduceIte, reduceCtorEq, Nat.reduceAdd, Nat.reduceMul, Nat.reduceSub, Nat.reduceLT, Nat.reduceLeDiff, Nat.reduceEqDiff, Int.reduceEq, Int.reduceLT, Int.reduceLE, Int.reduceNe, c_ui]))
  rfl
theorem swar_range (x : Int) : 0 ≤ swar x ∧ swar x ≤ 127 := by
  unfold swar
  generalize wrapA .i64 _ = y
  have h : (BitVec.ofInt 64 y &&& BitVec.ofInt 64 127).toNat ≤ 127 := by
    rw [BitVec.toNat_and]
    exact Nat.le_trans Nat.and_le_right (by decide)
  show 0 ≤ IntKind.i64.wrap ((BitVec.ofInt 64 y &&& BitVec.ofInt 64 127).toNat : Int) ∧ IntKind.i64.wrap ((BitVec.ofInt 64 y &&& BitVec.ofInt 64 127).toNat : Int) ≤ 127
  rw [← wrapA_eq, wrap64 (by omega) (by omega)]
  omega
def cnt (b : T_Bits) : Nat → Int
  | 0 => 0
  | i + 1 => cnt b i + swar (wn b i : Int)
theorem cnt_range {b : T_Bits} : ∀ i, 0 ≤ cnt b i ∧ cnt b i ≤ 127 * i
  | 0 => by simp [cnt]
  | i + 1 => by
    have h1 := cnt_range (b := b) i
    have h2 := swar_range (wn b i : Int)
    simp only [cnt]
    omega
def G5 := addG G4 49 conOC
theorem env5 : EnvV Tryd.prog tt.get G5 := env4.add oc_ok
theorem G5_oc : G5 49 = conOC := rfl
def conCount : Con := .pure (fun args _ => match args with | [v] => IsBits v | _ => False) (fun args _ => match args with | [v] => .int .i64 (cnt (bOf v) 4) | _ => undef)
def stCnt (hp : Hp) (top : Nat) (b : T_Bits) (i : Nat) : SS := ⟨[(3, .int .i64 (cnt b i), true), (6, .agg ⟨bl b⟩, true), (7, .int .i64 (i : Int), true)], hp.sets [(top, some (.cells true 0 (bl b)))], top + 1⟩

theorem count_ok : ConOk Tryd.prog 26 conCount := by
  refine .mkRd fn26_ok ?_ ?_
  · rintro args hp h
    match args, h with
    | [_], ⟨b, rfl, hb⟩ => rfl
  intro args hp hpre top hcl hsc
  match args, hpre with
  | [_], ⟨b, rfl, hb⟩ =>
  refine CalledOk.of_fun tt_ok fn26_ok rfl 16 rfl [.tmp 2] rfl (show 1 ≤ 16 by decide) ?_
  refine CW.vc env5 [0, 1, 2, 3, 5, 6, 7, 8] (by kernel_rfl) ?_
  (simp only [go_sem, reduceIte, reduceCtorEq, Nat.reduceAdd, Nat.reduceMul, Nat.reduceSub, Nat.reduceLT, Nat.reduceLeDiff, Nat.reduceEqDiff, Int.reduceEq, Int.reduceLT, Int.reduceLE, Int.reduceNe, rem64, mask64, c_iu, wrapu_mod, bl_len, bl_take, bl_ren, bl_app, bl_one, bOf_bl, Nat.mul_one]; repeat (refine Vc.mk' ?_; simp only [go_sem, reduceIte, reduceCtorEq, Nat.reduceAdd, Nat.reduceMul, Nat.reduceSub, Nat.reduceLT, Nat.reduceLeDiff, Nat.reduceEqDiff, Int.reduceEq, Int.reduceLT, Int.reduceLE, Int.reduceNe, rem64, mask64, c_iu, wrapu_mod, bl_len, bl_take, bl_ren, bl_app, bl_one, bOf_bl, Nat.mul_one]))
  refine CW.loopR (stCnt hp top b) (fun k => k ≤ 4) (fun k => 4 - k) 0 (by omega) ?_ ?_
  · exact SubR.mk' [top] hcl (by simp) (by simp) rfl (frSub_ok (by simp [frSub, lkG, ren, renL, renL_set, renL_ints, UpdOk.nil, UpdOk.cons, renOO_some, renO_cells, renO_map, renOO_mkOb, rn_base, rn_add, ren_mkSl, Enc.flat_ren, set_same, set_ne, sets_cons, sets_nil, Keep.set, Keep.setK, Keep.refl, bl_ren, cnt])) (by simp [frSub, lkG, ren, renL, renL_set, renL_ints, UpdOk.nil, UpdOk.cons, renOO_some, renO_cells, renO_map, renOO_mkOb, rn_base, rn_add, ren_mkSl, Enc.flat_ren, set_same, set_ne, sets_cons, sets_nil, Keep.set, Keep.setK, Keep.refl, bl_ren, cnt]) (by simp [frSub, lkG, ren, renL, renL_set, renL_ints, UpdOk.nil, UpdOk.cons, renOO_some, renO_cells, renO_map, renOO_mkOb, rn_base, rn_add, ren_mkSl, Enc.flat_ren, set_same, set_ne, sets_cons, sets_nil, Keep.set, Keep.setK, Keep.refl, bl_ren, cnt])
  · rintro i hi
    by_cases hlt : i < 4
    · have h4 : (i : Int) < 4 := by omega
      have h3 : i ≤ 3 := by omega
      have hu : U64 (wn b i : Int) = True := eq_true ⟨by omega, by have := wn_lt hb i; omega⟩
      refine CW.vc env5 [0, 1, 2, 3, 5, 6, 7, 8] (by kernel_rfl) ?_
      (simp only [go_sem, reduceIte, reduceCtorEq, Nat.reduceAdd, Nat.reduceMul, Nat.reduceSub, Nat.reduceLT, Nat.reduceLeDiff, Nat.reduceEqDiff, Int.reduceEq, Int.reduceLT, Int.reduceLE, Int.reduceNe, rem64, mask64, c_iu, wrapu_mod, bl_len, bl_take, bl_ren, bl_app, bl_one, bOf_bl, Nat.mul_one, stCnt, hlt, h3, h4, sindex, Int.toNat_natCast, bl_get hb hlt, G5_oc, conOC, hu]; repeat (refine Vc.mk' ?_; simp only [go_sem, reduceIte, reduceCtorEq, Nat.reduceAdd, Nat.reduceMul, Nat.reduceSub, Nat.reduceLT, Nat.reduceLeDiff, Nat.reduceEqDiff, Int.reduceEq, Int.reduceLT, Int.reduceLE, Int.reduceNe, rem64, mask64, c_iu, wrapu_mod, bl_len, bl_take, bl_ren, bl_app, bl_one, bOf_bl, Nat.mul_one, stCnt, hlt, h3, h4, sindex, Int.toNat_natCast, bl_get hb hlt, G5_oc, conOC, hu]))
      have hw : wrapA .i64 (cnt b i + swar (wn b i : Int)) = cnt b (i + 1) := by
        have h1 := cnt_range (b := b) i
        have h2 := swar_range (wn b i : Int)
        rw [wrap64 (by omega) (by omega)]; rfl
      refine .mk (i + 1) hlt (by omega) (SubR.mk' [top] hcl (by simp) (by simp) rfl (frSub_ok (by simp [frSub, lkG, ren, renL, renL_set, renL_ints, UpdOk.nil, UpdOk.cons, renOO_some, renO_cells, renO_map, renOO_mkOb, rn_base, rn_add, ren_mkSl, Enc.flat_ren, set_same, set_ne, sets_cons, sets_nil, Keep.set, Keep.setK, Keep.refl, bl_ren, wrap_succ hlt (by decide), hw])) (by simp [frSub, lkG, ren, renL, renL_set, renL_ints, UpdOk.nil, UpdOk.cons, renOO_some, renO_cells, renO_map, renOO_mkOb, rn_base, rn_add, ren_mkSl, Enc.flat_ren, set_same, set_ne, sets_cons, sets_nil, Keep.set, Keep.setK, Keep.refl, bl_ren, wrap_succ hlt (by decide), hw]) (by simp [frSub, lkG, ren, renL, renL_set, renL_ints, UpdOk.nil, UpdOk.cons, renOO_some, renO_cells, renO_map, renOO_mkOb, rn_base, rn_add, ren_mkSl, Enc.flat_ren, set_same, set_ne, sets_cons, sets_nil, Keep.set, Keep.setK, Keep.refl, bl_ren, wrap_succ hlt (by decide), hw]))
    · have hi4 : i = 4 := by omega
      have h4 : ¬ (i : Int) < 4 := by omega
      refine CW.vc env5 [0, 1, 2, 3, 5, 6, 7, 8] (by kernel_rfl) ?_
      (simp only [go_sem, reduceIte, reduceCtorEq, Nat.reduceAdd, Nat.reduceMul, Nat.reduceSub, Nat.reduceLT, Nat.reduceLeDiff, Nat.reduceEqDiff, Int.reduceEq, Int.reduceLT, Int.reduceLE, Int.reduceNe, rem64, mask64, c_iu, wrapu_mod, bl_len, bl_take, bl_ren, bl_app, bl_one, bOf_bl, Nat.mul_one, stCnt, h4]; repeat (refine Vc.mk' ?_; simp only [go_sem, reduceIte, reduceCtorEq, Nat.reduceAdd, Nat.reduceMul, Nat.reduceSub, Nat.reduceLT, Nat.reduceLeDiff, Nat.reduceEqDiff, Int.reduceEq, Int.reduceLT, Int.reduceLE, Int.reduceNe, rem64, mask64, c_iu, wrapu_mod, bl_len, bl_take, bl_ren, bl_app, bl_one, bOf_bl, Nat.mul_one, stCnt, h4]))
      rw [hi4]
end Go.Proofs.YtkofmbhopmgmhaaDoor.Dm
