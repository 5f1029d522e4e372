/- TraceLines: the walk. -/
import Derived.Test.YthpibnpeaidabaaDoorTW
import Derived.Test.YthpibnpeaidabaaDoorTR3
set_option linter.unusedSimpArgs false
set_option linter.unusedVariables false
namespace Go.Proofs.YthpibnpeaidabaaDoor.Dm
open Go.Dm
set_option maxHeartbeats 16000000
set_option maxRecDepth 20000
def GL1 : FuncId → Con := addG (addG (addG (addG (addG GR3 5 conLine) 4 conLine) 6 conChk) 7 conChk) 8 conWorks
theorem envL1 : EnvV Tryd.prog tt.get GL1 := ((((envR3.add rline_ok).add line_ok).add chk_ok).add rchk_ok).add works_ok
theorem GL1_a : GL1 5 = conLine := rfl
theorem GL1_b : GL1 4 = conLine := rfl
theorem GL1_c : GL1 6 = conChk := rfl
theorem GL1_d : GL1 7 = conChk := rfl
theorem GL1_w : GL1 8 = conWorks := rfl
def conLines : Con := .pure (fun args hp => match args with | [v] => IsEv v ∧ VarsOk hp ∧ hp 0 = some tzO | _ => False) (fun _ _ => .bool true)

theorem lines_ok : ConOk Tryd.prog 3 conLines := by
  refine .mkRd fn3_ok ?_ ?_
  · rintro args hp h
    match args, h with
    | [_], ⟨⟨x, rfl, _⟩, _⟩ => rfl
  intro args hp hpre top hcl hsc
  match args, hpre with
  | [_], ⟨⟨x, rfl, h⟩, hv, ht⟩ =>
  have ht0 := hcl.lt _ _ ht
  have hp1 := hv.1
  have ht1 := hcl.lt _ _ hp1
  have ht5 := vars_top hcl hv
  have hI := isEv h
  have hE := evOf_enc (x := x)
  simp only [en_Event] at hI hE
  have hL : lineV x = .tuple ⟨[.string ⟨⟨lineF x⟩⟩, .int .i64 (if okE x then 0 else 2)]⟩ := rfl
  refine CalledOk.of_fun tt_ok fn3_ok rfl 35 rfl [.tmp 2] rfl (show 1 ≤ 35 by decide) ?_
  refine CW.vc envL1 [0, 1, 2, 3, 4, 5, 6] (by kernel_rfl) ?_
  (repeat ((try refine Vc.mk' ?_); simp (config := { maxSteps := 6000000 }) only [go_sem, reduceIte, reduceCtorEq, Nat.reduceAdd, Nat.reduceMul, Nat.reduceSub, Nat.reduceLT, Nat.reduceLeDiff, Nat.reduceEqDiff, Int.reduceEq, Int.reduceLT, Int.reduceLE, Int.reduceNe, GL1_a, GL1_b, GL1_c, GL1_d, GL1_w, conLine, conChk, conWorks, hI, hE, hL, ht, hp1, hv, set_lt ht0, set_lt ht1, eqB_self, vars_set ht5, decide_true, Bool.and_self]))
end Go.Proofs.YthpibnpeaidabaaDoor.Dm
