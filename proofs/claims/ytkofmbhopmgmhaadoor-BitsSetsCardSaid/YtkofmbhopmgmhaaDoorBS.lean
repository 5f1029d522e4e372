/- BitsSets: what it computes. -/
import Derived.Test.YtkofmbhopmgmhaaDoorBSL
set_option linter.unusedSimpArgs false
set_option linter.unusedVariables false
namespace Go.Proofs.YtkofmbhopmgmhaaDoor.Dm
open Go.Dm
set_option maxHeartbeats 16000000
theorem G10_count : G10 26 = conCount := rfl

def conSets : Con := .pure (fun args hp => match args with | [v, u, x] => IsBits v ∧ IsBits u ∧ IsBits x ∧ hp 0 = some tzO ∧ hp 1 = some powO | _ => False) (fun _ _ => .bool true)
theorem sets_ok : ConOk Tryd.prog 6 conSets := by
  refine .mkRd fn6_ok (fun _ _ _ => rfl) ?_
  intro args hp hpre top hcl hsc
  match args, hpre with
  | [_, _, _], ⟨⟨a, rfl, ha⟩, ⟨b, rfl, hb⟩, ⟨c, rfl, hc⟩, ht, hp1⟩ =>
  have ht0 := hcl.lt _ _ ht
  have ht1 := hcl.lt _ _ hp1
  have hz : [Value.int .u64 0, Value.int .u64 0, Value.int .u64 0, Value.int .u64 0] = bl zb := rfl
  have i0 := isBits_bl ha
  have i1 := isBits_bl hb
  have i2 := isBits_bl hc
  have i3 := isBits_bl (aB_ok (b := b) ha)
  have i4 := isBits_bl (oB_ok ha hb)
  have i5 := isBits_bl (nB_ok (b := b) ha)
  have i6 := isBits_bl (aB_ok (b := c) hb)
  have i7 := isBits_bl (oB_ok hb hc)
  have i8 := isBits_bl (aB_ok (b := c) ha)
  have f1 := aB_comm ha hb
  have f2 := oB_comm ha hb
  have f3 := aB_nB ha hb
  have f4 := oB_nB ha hb
  have f5 := oB_rest ha hb
  have f6 := aB_assoc ha hb hc
  have f7 := oB_assoc ha hb hc
  have f8 := aB_oB ha hb hc
  have g1 := cnt_add ha hb
  have g2 := cnt_sub ha hb
  have r := fun x : T_Bits => cnt_range (b := x) 4
  have w1 : wrapA .i64 (cnt (aB a b) 4 + cnt (oB a b) 4) = cnt a 4 + cnt b 4 := by
    have h1 := r a
    have h2 := r b
    rw [g1, wrap64 (by omega) (by omega)]
  have w2 : wrapA .i64 (cnt a 4 + cnt b 4) = cnt a 4 + cnt b 4 := by
    have h1 := r a
    have h2 := r b
    rw [wrap64 (by omega) (by omega)]
  have w3 : wrapA .i64 (cnt (nB a b) 4 + cnt (aB a b) 4) = cnt a 4 := by
    have h1 := r a
    rw [g2, wrap64 (by omega) (by omega)]
  refine CalledOk.of_fun tt_ok fn6_ok rfl 109 rfl [.tmp 6] rfl (show 3 ≤ 109 by decide) ?_
  refine CW.vc env10 [0, 1, 2, 3, 4, 5, 6, 7, 8, 9, 51, 84, 1000001] (by kernel_rfl) ?_
  (simp (config := { maxSteps := 8000000 }) only [go_sem, reduceIte, reduceCtorEq, Nat.reduceAdd, Nat.reduceMul, Nat.reduceSub, Nat.reduceLT, Nat.reduceLeDiff, Nat.reduceEqDiff, Int.reduceEq, Int.reduceLT, Int.reduceLE, Int.reduceNe, rem64, mask64, c_iu, wrapu_mod, bl_len, bl_take, bl_ren, bl_app, bl_one, bOf_bl, Nat.mul_one, G10_works, G10_and, G10_or, G10_andnot, G10_count, conWorks, conBin, conCount, bits_eql, bits_neq, hz, i0, i1, i2, i3, i4, i5, i6, i7, i8, f1, f2, f3, f4, f5, f6, f7, f8, w1, w2, w3, set_lt ht0, set_lt ht1, ht, hp1, Bool.or_false, Bool.false_or, decide_true, Bool.not_true]; repeat ((first | refine Vc.mk' ?_ | refine CW.drawX env10 1 [0, 1, 2, 3, 4, 5, 6, 7, 8, 9, 51, 84, 1000001] [(0, 9), (0, 10), (0, 11), (1, 9), (1, 10), (1, 11), (2, 9), (2, 10), (2, 11), (3, 9), (3, 10), (3, 11), (4, 9), (4, 10), (4, 11), (5, 9), (5, 10), (5, 11), (6, 9), (6, 10), (6, 11), (7, 9), (7, 10), (7, 11), (8, 9), (8, 10), (8, 11)] (by kernel_rfl) (by kernel_rfl) ?_); simp (config := { maxSteps := 8000000 }) only [go_sem, reduceIte, reduceCtorEq, Nat.reduceAdd, Nat.reduceMul, Nat.reduceSub, Nat.reduceLT, Nat.reduceLeDiff, Nat.reduceEqDiff, Int.reduceEq, Int.reduceLT, Int.reduceLE, Int.reduceNe, rem64, mask64, c_iu, wrapu_mod, bl_len, bl_take, bl_ren, bl_app, bl_one, bOf_bl, Nat.mul_one, G10_works, G10_and, G10_or, G10_andnot, G10_count, conWorks, conBin, conCount, bits_eql, bits_neq, hz, i0, i1, i2, i3, i4, i5, i6, i7, i8, f1, f2, f3, f4, f5, f6, f7, f8, w1, w2, w3, set_lt ht0, set_lt ht1, ht, hp1, Bool.or_false, Bool.false_or, decide_true, Bool.not_true]))
end Go.Proofs.YtkofmbhopmgmhaaDoor.Dm
