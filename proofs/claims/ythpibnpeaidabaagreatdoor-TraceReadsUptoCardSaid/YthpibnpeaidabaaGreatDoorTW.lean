/- Equality of events; the one event; works. -/
import Derived.Test.YthpibnpeaidabaaGreatDoorTL
set_option linter.unusedVariables false
namespace Go.Proofs.YthpibnpeaidabaaGreatDoor.Dm
open Go.Dm
set_option maxHeartbeats 16000000
set_option maxRecDepth 20000
theorem eqA_u32 {d : Nat} {x y : Int} : eqA tt.get (d + 1) 29 (.int .u32 x) (.int .u32 y) = some (decide (x = y)) := by
  simp [eqA, t_uint32, ti29, eqI_dec]
theorem eqA_int {d : Nat} {x y : Int} : eqA tt.get (d + 1) 3 (.int .i64 x) (.int .i64 y) = some (decide (x = y)) := by
  simp [eqA, t_int, ti3, eqI_dec]
theorem bl_eqD {d : Nat} {a0 a1 a2 a3 b0 b1 b2 b3 : Int} : eqA tt.get (d + 7) 31 (.agg ⟨[.int .u64 a0, .int .u64 a1, .int .u64 a2, .int .u64 a3]⟩) (.agg ⟨[.int .u64 b0, .int .u64 b1, .int .u64 b2, .int .u64 b3]⟩) = some (decide (a0 = b0 ∧ a1 = b1 ∧ a2 = b2 ∧ a3 = b3)) := by
  have e : eqA tt.get (d + 7) 31 (.agg ⟨[.int .u64 a0, .int .u64 a1, .int .u64 a2, .int .u64 a3]⟩) (.agg ⟨[.int .u64 b0, .int .u64 b1, .int .u64 b2, .int .u64 b3]⟩) = eqItems tt.get (d + 6) 28 ti28 [.int .u64 a0, .int .u64 a1, .int .u64 a2, .int .u64 a3] [.int .u64 b0, .int .u64 b1, .int .u64 b2, .int .u64 b3] 0 4 := by
    rw [eqA]; simp only [t_Bits, ti31, t_uint64]
  rw [e, eqItems_u64 (x := a0) (y := b0) rfl rfl, eqItems_u64 (x := a1) (y := b1) rfl rfl, eqItems_u64 (x := a2) (y := b2) rfl rfl, eqItems_u64 (x := a3) (y := b3) rfl rfl]
  by_cases h0 : a0 = b0 <;> by_cases h1 : a1 = b1 <;> by_cases h2 : a2 = b2 <;> by_cases h3 : a3 = b3 <;> simp [h0, h1, h2, h3, eqItems_none]
theorem ev_eqA {a b : T_Event} : eqA tt.get 64 33 (.agg ⟨e_Event.enc a⟩) (.agg ⟨e_Event.enc b⟩) = some (decide (a = b)) := by
  cases a with | mk a0 a1 a2 a3 a4 a5 a6 a7 a8 a9 =>
  cases b with | mk b0 b1 b2 b3 b4 b5 b6 b7 b8 b9 =>
  rw [eqA]; simp only [t_Event, ti33, en_Event]
  have p0 : ∀ {x : Value} {l : List Value}, partA ti28 (x :: l) 0 = some x := rfl
  have p1 : ∀ {x0 x : Value} {l : List Value}, partA ti3 (x0 :: x :: l) 1 = some x := rfl
  have p2 : ∀ {x0 x1 x : Value} {l : List Value}, partA ti3 (x0 :: x1 :: x :: l) 2 = some x := rfl
  have p3 : ∀ {x0 x1 x2 x : Value} {l : List Value}, partA ti3 (x0 :: x1 :: x2 :: x :: l) 3 = some x := rfl
  have p4 : ∀ {x0 x1 x2 x3 x : Value} {l : List Value}, partA ti29 (x0 :: x1 :: x2 :: x3 :: x :: l) 4 = some x := rfl
  have p5 : ∀ {x0 x1 x2 x3 x4 x : Value} {l : List Value}, partA ti3 (x0 :: x1 :: x2 :: x3 :: x4 :: x :: l) 5 = some x := rfl
  have p6 : ∀ {x0 x1 x2 x3 x4 x5 y0 y1 y2 y3 : Value}, partA ti31 [x0, x1, x2, x3, x4, x5, y0, y1, y2, y3] 6 = some (.agg ⟨[y0, y1, y2, y3]⟩) := rfl
  rw [show (63 : Nat) = 62 + 1 from rfl]
  simp only [eqFields, eqA_u64 (d := 61), eqA_int (d := 60), eqA_int (d := 59), eqA_int (d := 58), eqA_u32 (d := 57), eqA_int (d := 56), bl_eqD (d := 49), show ("At" == "_") = false from rfl, show ("Kind" == "_") = false from rfl, show ("Router" == "_") = false from rfl, show ("Peer" == "_") = false from rfl, show ("Id" == "_") = false from rfl, show ("Set" == "_") = false from rfl, show ("Bits" == "_") = false from rfl, t_int, t_uint64, t_uint32, t_Bits, p0, p1, p2, p3, p4, p5, p6]
  by_cases h0 : a0 = b0 <;> by_cases h1 : a1 = b1 <;> by_cases h2 : a2 = b2 <;> by_cases h3 : a3 = b3 <;> by_cases h4 : a4 = b4 <;> by_cases h5 : a5 = b5 <;> simp [h0, h1, h2, h3, h4, h5]
  generalize (decide (a6 = b6) && (decide (a7 = b7) && (decide (a8 = b8) && decide (a9 = b9)))) = c
  cases c <;> rfl
theorem ev_eql {xo yo : Operand} {a b : T_Event} : sbin2 tt.get .eql 33 xo yo (.agg ⟨e_Event.enc a⟩) (.agg ⟨e_Event.enc b⟩) = (.bool (decide (a = b)), True) := by
  have h : sbin2 tt.get .eql 33 xo yo (.agg ⟨e_Event.enc a⟩) (.agg ⟨e_Event.enc b⟩) = sbinX (binA tt.get .eql 33 xo yo (.agg ⟨e_Event.enc a⟩) (.agg ⟨e_Event.enc b⟩)) := by
    unfold sbin2; rw [t_Event]; unfold sbin; rw [show kindOf tt.get 33 = _ from rfl]; rfl
  rw [h]
  have h2 : binA tt.get .eql 33 xo yo (.agg ⟨e_Event.enc a⟩) (.agg ⟨e_Event.enc b⟩) = some (.bool (decide (a = b))) := by
    simp only [binA, t_Event, ti33, ev_eqA]
  rw [h2]; rfl
theorem ev_neq {xo yo : Operand} {a b : T_Event} : sbin2 tt.get .neq 33 xo yo (.agg ⟨e_Event.enc a⟩) (.agg ⟨e_Event.enc b⟩) = (.bool (!decide (a = b)), True) := by
  have h : sbin2 tt.get .neq 33 xo yo (.agg ⟨e_Event.enc a⟩) (.agg ⟨e_Event.enc b⟩) = sbinX (binA tt.get .neq 33 xo yo (.agg ⟨e_Event.enc a⟩) (.agg ⟨e_Event.enc b⟩)) := by
    unfold sbin2; rw [t_Event]; unfold sbin; rw [show kindOf tt.get 33 = _ from rfl]; rfl
  rw [h]
  have h2 : binA tt.get .neq 33 xo yo (.agg ⟨e_Event.enc a⟩) (.agg ⟨e_Event.enc b⟩) = some (.bool (!decide (a = b))) := by
    simp only [binA, t_Event, ti33, ev_eqA]
  rw [h2]; rfl
def oneEv : T_Event := ⟨3, 2, 1, 2, 7, 0, 258, 0, 0, 0⟩
def conOneEv : Con := .pure (fun args _ => args = []) (fun _ _ => .agg ⟨e_Event.enc oneEv⟩)
theorem onel_ok : ConOk Tryz.prog 29 conOneEv := by
  refine .mkRd fn29_ok (fun _ _ _ => rfl) ?_
  intro args hp hpre top hcl hsc
  subst hpre
  refine CalledOk.of_fun tt_ok fn29_ok rfl 3 rfl [.cell 0 33] rfl (show 0 ≤ 3 by decide) ?_
  refine CW.vc envT5 [0] (by kernel_rfl) ?_
  (repeat ((try refine Vc.mk' ?_); simp (config := { maxSteps := 6000000 }) only [go_sem, Nat.reduceAdd, Nat.reduceLeDiff, oneEv]))
theorem one_rng : RngE oneEv := ⟨by decide, by decide, by decide, by decide, by refine ⟨?_, ?_, ?_, ?_⟩ <;> exact ⟨by decide, by decide⟩⟩
theorem one_okE : okE oneEv = true := by
  rw [okF]
  have hn : nB oneEv = 2 := by decide +kernel
  exact ⟨by decide, by decide, by decide, by decide, by decide, by decide, by omega, fun e => absurd e (by decide), by decide⟩
def oneS : List UInt8 := [51, 32, 99, 111, 112, 121, 32, 49, 32, 50, 32, 55, 32, 48, 32, 50, 32, 57]
theorem one_line : Lib.join (lineL oneEv) [32] = oneS := by
  have hb : textB (evB oneEv) = [50, 32, 57] := by
    rw [textN_eq one_rng.b]
    have : lsB (evB oneEv) = [2, 9] := by decide +kernel
    rw [this]
    simp [textN, tk, Lib.join_cons, Lib.joinTail, Lib.itoa, dec_small]
  unfold lineL
  rw [hb]
  simp [oneEv, Lib.join_cons, Lib.joinTail, Lib.itoa, dec_small, kindW, wordsL, oneS]
theorem one_ev : evP oneS = some oneEv := by rw [← one_line]; exact ev_line one_rng one_okE
theorem one_lineF : lineF oneEv = oneS := by unfold lineF; rw [if_pos one_okE, one_line]
def GT6 : FuncId → Con := addG (addG GT5 12 conEvent) 29 conOneEv
theorem envT6 : EnvV Tryz.prog tt.get GT6 := (envT5.add event_ok).add onel_ok
theorem GT6_e : GT6 12 = conEvent := rfl
theorem GT6_o : GT6 29 = conOneEv := rfl
theorem GT6_l : GT6 11 = conLine := rfl
def conWorks : Con := .pure (fun args hp => args = [] ∧ VarsOk hp ∧ hp 0 = some tzO) (fun _ _ => .bool true)
theorem one_eq {xo yo : Operand} : sbin2 tt.get .eql 33 xo yo (.agg ⟨e_Event.enc oneEv⟩) (.agg ⟨e_Event.enc oneEv⟩) = (.bool true, True) := by rw [ev_eql]; simp
theorem works_ok : ConOk Tryz.prog 9 conWorks := by
  refine .mkRd fn9_ok ?_ ?_
  · intro args hp h
    obtain ⟨rfl, _⟩ := h; rfl
  intro args hp hpre top hcl hsc
  obtain ⟨rfl, hv, ht⟩ := hpre
  have ht0 := hcl.lt _ _ ht
  have hp1 := hv.1
  have ht1 := hcl.lt _ _ hp1
  have hI := isEv one_rng
  have hE := evOf_enc (x := oneEv)
  have hL : lineV oneEv = .tuple ⟨[.string ⟨⟨oneS⟩⟩, .int .i64 0]⟩ := by unfold lineV; rw [one_lineF, if_pos one_okE]
  have hV : ∀ {top : Nat}, evV oneS top = (.tuple ⟨[.agg ⟨e_Event.enc oneEv⟩, .nilIface]⟩, [], top) := fun {top} => by unfold evV; rw [one_ev]
  have hS : ([51, 32, 99, 111, 112, 121, 32, 49, 32, 50, 32, 55, 32, 48, 32, 50, 32, 57] : List UInt8) = oneS := rfl
  have hOl : oneS.length < 4294967281 := by decide
  have heq := fun xo yo => one_eq (xo := xo) (yo := yo)
  simp only [en_Event] at hI hE hV heq
  refine CalledOk.of_fun tt_ok fn9_ok rfl 29 rfl [.tmp 0] rfl (show 0 ≤ 29 by decide) ?_
  refine CW.vc envT6 [0, 1, 2, 3, 4] (by kernel_rfl) ?_
  (repeat ((try refine Vc.mk' ?_); simp (config := { maxSteps := 6000000 }) only [go_sem, Nat.reduceAdd, GT6_e, GT6_o, GT6_l, conEvent, conOneEv, conLine, hI, hE, hL, hV, hS, hOl, ht, hp1, hv, heq, eql_n, eqB_self]))
end Go.Proofs.YthpibnpeaidabaaGreatDoor.Dm
