/- The net: one, works. -/
import Derived.Test.YtmppehipfpkepaaN6
set_option linter.unusedSimpArgs false
set_option linter.unusedVariables false
namespace Go.Proofs.Ytmppehipfpkepaa.Dm
open Go.Dm
set_option maxHeartbeats 16000000
set_option maxRecDepth 20000
noncomputable def G13_r : FuncId → Con := addG G12_r 9 conThree
theorem env13_r : EnvV Try.prog tt.get G13_r := env12_r.add three_ok
theorem eqA_i (d : Nat) {x y : Int} : eqA tt.get (d + 1) 3 (.int .i64 x) (.int .i64 y) = some (decide (x = y)) := by
  simp [eqA, t_int, ti3, eqI_dec]
theorem eqA_s (d : Nat) {x y : List UInt8} : eqA tt.get (d + 1) 9 (.string ⟨⟨x⟩⟩) (.string ⟨⟨y⟩⟩) = some (decide (x = y)) := by
  simp only [eqA, t_string, ti9, eqB_eq]
  by_cases h : x = y <;> simp [h]
theorem prI {x : Value} {l : List Value} : partA ti3 (x :: l) 0 = some x := rfl
theorem prI1 {x y : Value} {l : List Value} : partA ti3 (x :: y :: l) 1 = some y := rfl
theorem prS2 {x y z : Value} {l : List Value} : partA ti9 (x :: y :: z :: l) 2 = some z := rfl
theorem arr_eqA {a b : T_Arrive} : eqA tt.get 64 37 (.agg ⟨e_Arrive.enc a⟩) (.agg ⟨e_Arrive.enc b⟩) = some (decide (a = b)) := by
  cases a with | mk a0 a1 a2 =>
  cases b with | mk b0 b1 b2 =>
  rw [eqA]; simp only [t_Arrive, ti37, en_Arrive]
  rw [show (63 : Nat) = 62 + 1 from rfl]
  simp only [eqFields, show ("From" == "_") = false from rfl, show ("To" == "_") = false from rfl, show ("Bytes" == "_") = false from rfl, t_int, t_string, prI, prI1, prS2, eqA_i 61, eqA_i 60, eqA_s 59]
  by_cases h0 : a0 = b0 <;> by_cases h1 : a1 = b1 <;> by_cases h2 : a2 = b2 <;> simp [h0, h1, h2]
theorem arr_eql {xo yo : Operand} {a b : T_Arrive} : sbin2 tt.get .eql 37 xo yo (.agg ⟨e_Arrive.enc a⟩) (.agg ⟨e_Arrive.enc b⟩) = (.bool (decide (a = b)), True) := by
  have h : sbin2 tt.get .eql 37 xo yo (.agg ⟨e_Arrive.enc a⟩) (.agg ⟨e_Arrive.enc b⟩) = sbinX (binA tt.get .eql 37 xo yo (.agg ⟨e_Arrive.enc a⟩) (.agg ⟨e_Arrive.enc b⟩)) := by
    unfold sbin2; rw [t_Arrive]; unfold sbin; rw [show kindOf tt.get 37 = _ from rfl]; rfl
  rw [h]
  have h2 : binA tt.get .eql 37 xo yo (.agg ⟨e_Arrive.enc a⟩) (.agg ⟨e_Arrive.enc b⟩) = some (.bool (decide (a = b))) := by
    simp only [binA, t_Arrive, ti37, arr_eqA]
  rw [h2]; rfl
theorem arr_eqlC {xo yo : Operand} {a b : Int} {m : List UInt8} {x : T_Arrive} : sbin2 tt.get .eql 37 xo yo (.agg ⟨[.int .i64 x.From, .int .i64 x.To, .string ⟨⟨x.Bytes⟩⟩]⟩) (.agg ⟨[.int .i64 a, .int .i64 b, .string ⟨⟨m⟩⟩]⟩) = (.bool (decide (x = ⟨a, b, m⟩)), True) := arr_eql (a := x) (b := ⟨a, b, m⟩)
def conOne : Con := .pure (fun args hp => match args with | [v, x, y, m] => SlP e_Arrive hp v ∧ IsI .i64 x ∧ IsI .i64 y ∧ IsS m | _ => False) (fun args hp => match args with | [v, x, y, m] => .bool (decide (e_Arrive.rd hp v = [⟨intOf x, intOf y, strOf m⟩])) | _ => undef)
theorem i1 : (((0 + 1 : Nat) : Int) = 1) = True := by simp
theorem i0 : ¬ (((0 : Nat) : Int) = 1) := by decide
theorem one_ok : ConOk Try.prog 28 conOne := by
  refine .mkRd fn28_ok ?_ ?_
  · intro args hp h
    match args, h with
    | [v, x, y, m], _ => rfl
  intro args hp hpre top hcl hsc
  match args, hpre with
  | [v, x, y, m], ⟨⟨l, h⟩, hx, hy, hm⟩ =>
  rw [hx, hy, hm]
  generalize intOf x = x, intOf y = y
  generalize strOf m = m
  have hs := h.low hcl
  simp only [h.rd, intOf_int, strOf_string]
  refine CalledOk.of_fun tt_ok fn28_ok rfl 22 rfl [.tmp 8] rfl (show 4 ≤ 22 by decide) ?_
  match l, h with
  | [], h =>
    refine CW.vc env13_r [0, 1, 2, 3, 8] (by kernel_rfl) ?_
    (repeat ((try refine Vc.mk' ?_); simp only [go_sem, reduceIte, reduceCtorEq, Nat.reduceAdd, Nat.reduceMul, Nat.reduceSub, Nat.reduceLT, Nat.reduceLeDiff, Nat.reduceEqDiff, Int.reduceEq, Int.reduceLT, Int.reduceLE, Int.reduceNe, len_sArrive h, idx_sArrive h, ld_sArrive h, sh_sArrive h, sw_sArrive h, sf_sArrive_0 h, sc_sArrive_0 h, sf_sArrive_1 h, sc_sArrive_1 h, sf_sArrive_2 h, sc_sArrive_2 h, h.P, h.oc, h.cl, h.rd, h.ref, strip_P hs, strip_rd hs, strip_ld hs, strip_sl h hs k_sArrive, List.length_nil, Int.natCast_zero, i0]))
  | [a], h =>
    have hlt : 0 < [a].length := by simp
    have ld := ld_sArrive h hlt
    have ix : sindexAddr tt.get 34 v (.int .i64 0) = _ := idx_sArrive h (k := .i64) (n := 0) (by decide) (by simp)
    rw [Nat.zero_mul] at ld
    rw [show (0 : Int).toNat * 3 = 0 from rfl] at ix
    have ea : at' [a] 0 = a := rfl
    rw [ea] at ld
    refine CW.vc env13_r [0, 1, 2, 3, 8] (by kernel_rfl) ?_
    (repeat ((try refine Vc.mk' ?_); simp only [go_sem, reduceIte, reduceCtorEq, Nat.reduceAdd, Nat.reduceMul, Nat.reduceSub, Nat.reduceLT, Nat.reduceLeDiff, Nat.reduceEqDiff, Int.reduceEq, Int.reduceLT, Int.reduceLE, Int.reduceNe, len_sArrive h, idx_sArrive h, ld_sArrive h, sh_sArrive h, sw_sArrive h, sf_sArrive_0 h, sc_sArrive_0 h, sf_sArrive_1 h, sc_sArrive_1 h, sf_sArrive_2 h, sc_sArrive_2 h, h.P, h.oc, h.cl, h.rd, h.ref, strip_P hs, strip_rd hs, strip_ld hs, strip_sl h hs k_sArrive, List.length_cons, List.length_nil, ix, ld, i1, arr_eqlC]))
    simp
  | a :: b :: l, h =>
    have hn : ¬ (((l.length + 1 + 1 : Nat) : Int) = 1) := by omega
    refine CW.vc env13_r [0, 1, 2, 3, 8] (by kernel_rfl) ?_
    (repeat ((try refine Vc.mk' ?_); simp only [go_sem, reduceIte, reduceCtorEq, Nat.reduceAdd, Nat.reduceMul, Nat.reduceSub, Nat.reduceLT, Nat.reduceLeDiff, Nat.reduceEqDiff, Int.reduceEq, Int.reduceLT, Int.reduceLE, Int.reduceNe, len_sArrive h, idx_sArrive h, ld_sArrive h, sh_sArrive h, sw_sArrive h, sf_sArrive_0 h, sc_sArrive_0 h, sf_sArrive_1 h, sc_sArrive_1 h, sf_sArrive_2 h, sc_sArrive_2 h, h.P, h.oc, h.cl, h.rd, h.ref, strip_P hs, strip_rd hs, strip_ld hs, strip_sl h hs k_sArrive, List.length_cons, hn]))
    simp
end Go.Proofs.Ytmppehipfpkepaa.Dm
