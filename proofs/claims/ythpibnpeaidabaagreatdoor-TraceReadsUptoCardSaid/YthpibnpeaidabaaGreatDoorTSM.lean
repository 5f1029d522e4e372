/- Are two lists of events, of numbers the same. -/
import Derived.Test.YthpibnpeaidabaaGreatDoorTW
set_option linter.unusedVariables false
namespace Go.Proofs.YthpibnpeaidabaaGreatDoor.Dm
open Go.Dm
set_option maxHeartbeats 16000000
set_option maxRecDepth 20000
theorem take_at {α : Type} [Inhabited α] {l : List α} {k : Nat} (h : k < l.length) : l.take (k + 1) = l.take k ++ [at' l k] := by rw [at'_get _ _ h]; exact List.take_succ_eq_append_getElem h
theorem take_eq {α : Type} [Inhabited α] {l m : List α} {i : Nat} (hl : l.length = m.length) (hi : i < l.length) (h : l.take i = m.take i) : l.take (i + 1) = m.take (i + 1) ↔ at' l i = at' m i := by
  rw [take_at hi, take_at (by omega), h]
  constructor
  · intro e; simpa using e
  · intro e; rw [e]
theorem ne_of_at {α : Type} [Inhabited α] {l m : List α} {i : Nat} (h : ¬ at' l i = at' m i) : ¬ l = m := fun e => h (by rw [e])
theorem len_ne {α : Type} {l m : List α} (h : ¬ l.length = m.length) : ¬ l = m := fun e => h (by rw [e])
def conEq {α : Type} [DecidableEq α] (E : Enc α) : Con := .pure (fun args hp => match args with | [u, v] => SlP E hp u ∧ SlP E hp v | _ => False) (fun args hp => match args with | [u, v] => .bool (decide (E.rd hp u = E.rd hp v)) | _ => undef)
def stEq (hp : Hp) (top : Nat) (u v : Value) (i : Nat) : SS := ⟨[(0, u, true), (1, v, true), (5, .int .i64 (i : Int), true)], hp.sets [], top + 0⟩
theorem ev_neqC {xo yo : Operand} {a b : T_Event} : sbin2 tt.get .neq 33 xo yo (.agg ⟨[.int .u64 (a.At), .int .i64 (a.Kind), .int .i64 (a.Router), .int .i64 (a.Peer), .int .u32 (a.Id), .int .i64 (a.Set), .int .u64 (a.Bits_x0), .int .u64 (a.Bits_x1), .int .u64 (a.Bits_x2), .int .u64 (a.Bits_x3)]⟩) (.agg ⟨[.int .u64 (b.At), .int .i64 (b.Kind), .int .i64 (b.Router), .int .i64 (b.Peer), .int .u32 (b.Id), .int .i64 (b.Set), .int .u64 (b.Bits_x0), .int .u64 (b.Bits_x1), .int .u64 (b.Bits_x2), .int .u64 (b.Bits_x3)]⟩) = (.bool (!decide (a = b)), True) := ev_neq (a := a) (b := b)
theorem sameEv_ok : ConOk Tryz.prog 18 (conEq e_Event) := by
  refine .mkRd fn18_ok ?_ ?_
  · intro args hp h
    match args, h with
    | [u, v], _ => rfl
  intro args hp hpre top hcl hsc
  match args, hpre with
  | [u, v], ⟨⟨l, h⟩, ⟨m, g⟩⟩ =>
  have hs := h.low hcl
  have gs := g.low hcl
  simp only [h.rd, g.rd]
  refine CalledOk.of_fun tt_ok fn18_ok rfl 26 rfl [.tmp 4] rfl (show 2 ≤ 26 by decide) ?_
  by_cases hl : l.length = m.length
  · have hl2 : (l.length : Int) = (m.length : Int) := by omega
    refine CW.vc envT6 [0, 1, 4, 5, 10, 14, 25] (by kernel_rfl) ?_
    (repeat ((try refine Vc.mk' ?_); simp (config := { maxSteps := 6000000 }) only [go_sem, len_sEvent h, len_sEvent g, hl2]))
    refine CW.loopR (stEq hp top u v) (fun i => i ≤ l.length ∧ l.take i = m.take i) (fun i => l.length - i) 0 ⟨Nat.zero_le _, rfl⟩ ?_ ?_
    · exact (by refine SubR.mk' [] hcl (by simp) (by simp) rfl (frSub_ok ?_) ?_ ?_ <;> simp [frSub, lkG, ren, UpdOk.nil, Keep.refl, Sc.ren (fun j hj => rn_low hj) hs, Sc.ren (fun j hj => rn_low hj) gs])
    · rintro i ⟨hi, hm⟩
      by_cases hlt : i < l.length
      · have hlm : i < m.length := by omega
        have he := take_eq hl hlt hm
        refine CW.vc envT6 [0, 1, 4, 5, 10, 14, 25] (by kernel_rfl) ?_
        (repeat ((try refine Vc.mk' ?_); simp (config := { maxSteps := 6000000 }) only [go_sem, len_sEvent h, idx_sEvent h, ld_sEvent h, idx_sEvent g, ld_sEvent g, hlt, hlm, stEq, ev_neqC]))
        refine condP.mk (fun c => ?_) (fun c => ?_)
        · simp only [Bool.not_eq_true', decide_eq_false_iff_not] at c
          (repeat ((try refine Vc.mk' ?_); simp (config := { maxSteps := 6000000 }) only [go_sem]))
          simp [ne_of_at c]
        · simp only [Bool.not_eq_false', decide_eq_true_eq] at c
          (repeat ((try refine Vc.mk' ?_); simp (config := { maxSteps := 6000000 }) only [go_sem]))
          exact .mk (i + 1) ⟨hlt, he.2 c⟩ (by omega) ((by refine SubR.mk' [] hcl (by simp) (by simp) rfl (frSub_ok ?_) ?_ ?_ <;> simp [frSub, lkG, ren, UpdOk.nil, Keep.refl, Sc.ren (fun j hj => rn_low hj) hs, Sc.ren (fun j hj => rn_low hj) gs, wrap_succ hlt h.le]))
      · have hi2 : i = l.length := by omega
        subst hi2
        refine CW.vc envT6 [0, 1, 4, 5, 10, 14, 25] (by kernel_rfl) ?_
        (repeat ((try refine Vc.mk' ?_); simp (config := { maxSteps := 6000000 }) only [go_sem, len_sEvent h, stEq, Nat.lt_irrefl, decide_false]))
        rw [List.take_length, hl, List.take_length] at hm
        simp [hm]
  · have hl2 : ¬ (l.length : Int) = (m.length : Int) := by omega
    refine CW.vc envT6 [0, 1, 4, 5, 10, 14, 25] (by kernel_rfl) ?_
    (repeat ((try refine Vc.mk' ?_); simp (config := { maxSteps := 6000000 }) only [go_sem, len_sEvent h, len_sEvent g, hl2]))
    simp [len_ne hl]
end Go.Proofs.YthpibnpeaidabaaGreatDoor.Dm
