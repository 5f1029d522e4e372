/- BitsPairs: what it computes. -/
import Derived.Test.YtkofmbhopmgmhaaDoorB7
set_option linter.unusedSimpArgs false
set_option linter.unusedVariables false
namespace Go.Proofs.YtkofmbhopmgmhaaDoor.Dm
open Go.Dm
set_option maxHeartbeats 8000000

def G10 := addG G9 15 conWorks
theorem env10 : EnvV Tryd.prog tt.get G10 := env9.add works_ok
theorem G10_works : G10 15 = conWorks := rfl
theorem G10_and : G10 20 = conBin (· &&& ·) := rfl
theorem G10_or : G10 22 = conBin (· ||| ·) := rfl
theorem G10_andnot : G10 24 = conBin andN := rfl
theorem G10_rand : G10 21 = conBin (· &&& ·) := rfl
theorem G10_ror : G10 23 = conBin (· ||| ·) := rfl
theorem G10_randnot : G10 25 = conBin andN := rfl

def conPairs : Con := .pure (fun args hp => match args with | [v, u] => IsBits v ∧ IsBits u ∧ hp 0 = some tzO ∧ hp 1 = some powO | _ => False) (fun _ _ => .bool true)
theorem pairs_ok : ConOk Tryd.prog 5 conPairs := by
  refine .mkRd fn5_ok (fun _ _ _ => rfl) ?_
  intro args hp hpre top hcl hsc
  match args, hpre with
  | [_, _], ⟨⟨a, rfl, ha⟩, ⟨b, rfl, hb⟩, ht, hp1⟩ =>
  have ht0 := hcl.lt _ _ ht
  have ht1 := hcl.lt _ _ hp1
  have hIa := isBits_bl ha
  have hIb := isBits_bl hb
  refine CalledOk.of_fun tt_ok fn5_ok rfl 33 rfl [.tmp 4] rfl (show 2 ≤ 33 by decide) ?_
  refine CW.vc env10 [0, 1, 2, 3, 4] (by kernel_rfl) ?_
  (simp (config := { maxSteps := 4000000 }) only [go_sem, reduceIte, reduceCtorEq, Nat.reduceAdd, Nat.reduceMul, Nat.reduceSub, Nat.reduceLT, Nat.reduceLeDiff, Nat.reduceEqDiff, Int.reduceEq, Int.reduceLT, Int.reduceLE, Int.reduceNe, rem64, mask64, c_iu, wrapu_mod, bl_len, bl_take, bl_ren, bl_app, bl_one, bOf_bl, Nat.mul_one, G10_works, G10_and, G10_or, G10_andnot, G10_rand, G10_ror, G10_randnot, conWorks, conBin, bits_eql, hIa, hIb, set_lt ht0, set_lt ht1, ht, hp1]; repeat (refine Vc.mk' ?_; simp (config := { maxSteps := 4000000 }) only [go_sem, reduceIte, reduceCtorEq, Nat.reduceAdd, Nat.reduceMul, Nat.reduceSub, Nat.reduceLT, Nat.reduceLeDiff, Nat.reduceEqDiff, Int.reduceEq, Int.reduceLT, Int.reduceLE, Int.reduceNe, rem64, mask64, c_iu, wrapu_mod, bl_len, bl_take, bl_ren, bl_app, bl_one, bOf_bl, Nat.mul_one, G10_works, G10_and, G10_or, G10_andnot, G10_rand, G10_ror, G10_randnot, conWorks, conBin, bits_eql, hIa, hIb, set_lt ht0, set_lt ht1, ht, hp1]))
end Go.Proofs.YtkofmbhopmgmhaaDoor.Dm
