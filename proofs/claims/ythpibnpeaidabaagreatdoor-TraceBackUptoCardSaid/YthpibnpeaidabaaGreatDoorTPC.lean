/- place. -/
import Derived.Test.YthpibnpeaidabaaGreatDoorTAS
import Derived.Test.YthpibnpeaidabaaGreatDoorTPA
set_option linter.unusedSimpArgs false
set_option linter.unusedVariables false
namespace Go.Proofs.YthpibnpeaidabaaGreatDoor.Dm
open Go.Dm
set_option maxHeartbeats 16000000
set_option maxRecDepth 20000
def fltN (hp : Hp) (e : Nat) : Int := match hp e with | some (.cells _ _ [_, .int _ n]) => n | _ => 0
theorem fltN_eq {hp : Hp} {e : Nat} {c n : Int} (h : hp e = fltO c n) : fltN hp e = n := by unfold fltN; rw [h]; rfl
/-- an error of the program: none, or a fault -/
def ErrOk (hp : Hp) (v : Value) : Prop := v = .nilIface ∨ ∃ e c n, v = .iface 84 (.pointer (some ⟨e, 0, none⟩)) ∧ hp e = fltO c n
def conPlace : Con := .pure (fun args hp => match args with | [v] => ErrOk hp v ∧ hp 7 = hdlE | _ => False)
  (fun args hp => match args with | [.iface _ (.pointer (some ⟨e, _, _⟩))] => .int .i64 (fltN hp e) | _ => .int .i64 (-1))
def GP1 : FuncId → Con := addG GT7 44 conAs
theorem envP1 : EnvV Tryz.prog tt.get GP1 := envT7.add as_ok
theorem GP1_a : GP1 44 = conAs := rfl
theorem if_ppf {a : Option Addr} : ifaceA tt.get 89 (.pointer a) = some (.iface 89 (.pointer a)) := by simp [ifaceA, t_ppapi_Fault, ti89]
theorem ex_one {z : Nat} {x : Value} : (∃ v, some (AObj.cells true z [x]) = some (AObj.cells true z [v])) = True := eq_true ⟨_, rfl⟩
theorem place_ok : ConOk Tryz.prog 14 conPlace := by
  refine .mkRd fn14_ok ?_ ?_
  · intro args hp h
    match args, h with
    | [v], ⟨hv, _⟩ => rcases hv with rfl | ⟨e, c, n, rfl, _⟩ <;> rfl
  intro args hp hpre top hcl hsc
  match args, hpre with
  | [v], ⟨hv, h7⟩ =>
  have h70 := hcl.lt _ _ h7
  rcases hv with rfl | ⟨e, c, n, rfl, he⟩
  · refine CalledOk.of_fun tt_ok fn14_ok rfl 20 rfl [.tmp 2] rfl (show 1 ≤ 20 by decide) ?_
    refine CW.vc envP1 [0, 2, 3, 15] (by kernel_rfl) ?_
    (repeat ((try refine Vc.mk' ?_); simp only [go_sem, reduceIte, reduceCtorEq, Nat.reduceAdd, Nat.reduceMul, Nat.reduceSub, Nat.reduceLT, Nat.reduceLeDiff, Nat.reduceEqDiff, Int.reduceEq, Int.reduceLT, Int.reduceLE, Int.reduceNe, GP1_a, conAs, eql_n]))
  · have he0 := hcl.lt _ _ he
    simp only [fltN_eq he]
    unfold fltO at he
    refine CalledOk.of_fun tt_ok fn14_ok rfl 20 rfl [.tmp 2] rfl (show 1 ≤ 20 by decide) ?_
    refine CW.vc envP1 [0, 2, 3, 15] (by kernel_rfl) ?_
    (repeat ((try refine Vc.mk' ?_); simp only [go_sem, reduceIte, reduceCtorEq, Nat.reduceAdd, Nat.reduceMul, Nat.reduceSub, Nat.reduceLT, Nat.reduceLeDiff, Nat.reduceEqDiff, Int.reduceEq, Int.reduceLT, Int.reduceLE, Int.reduceNe, GP1_a, conAs, eql_i, he, h7, set_lt he0, set_lt h70, if_ppf, ex_one]))
end Go.Proofs.YthpibnpeaidabaaGreatDoor.Dm
