/- FateOnce, the row: the two arguments are opened, the walk is run over them, and they read as they did. No condition. -/
import Derived.Test.YtnlbcaefljaceaaRows
import Derived.Test.YtnlbcaefljaceaaF9
import Derived.Test.YtnlbcaefljaceaaDmG
import Derived.WalkKit
import Derived.ProofKit
import Derived.OpenShut
set_option linter.unusedSimpArgs false
set_option linter.unusedVariables false
namespace Go.Proofs.Ytnlbcaefljaceaa.fateOnce
open Go.ChangeShapes Go.WideShapes Go.ChangeAt Go.RowKit
open Go.Dm Go.Proofs.Ytnlbcaefljaceaa.Dm
set_option linter.unusedVariables false

theorem own : ownKnob Try.prog.godebug = none := by kernel_rfl

theorem lf_Turn : leafs Try.prog 9 57 = some [.int .u8, .int .u8, .int .u8, .int .u8, .int .u8] := by kernel_rfl
theorem lf_a2 : leafs Try.prog 9 33 = some [.int .u8, .int .u8] := by kernel_rfl
theorem lv_Turn : ∀ cs, CellsOk [.int .u8, .int .u8, .int .u8, .int .u8, .int .u8] cs → ∃ a, cs = e_Turn.enc a ∧ TurnOk a := by
  rintro cs ⟨_, _, rfl, ⟨x0, rfl, a0, _⟩, _, _, rfl, ⟨x1, rfl, a1, _⟩, _, _, rfl, ⟨x2, rfl, a2, _⟩, _, _, rfl, ⟨x3, rfl, a3, _⟩, _, _, rfl, ⟨x4, rfl, a4, _⟩, rfl⟩
  exact ⟨⟨x0, x1, x2, x3, x4⟩, rfl, ⟨a0, a1, a2, a3, a4⟩⟩
theorem lv_a2 : ∀ cs, CellsOk [.int .u8, .int .u8] cs → ∃ a : T_a2uint8, cs = e_a2uint8.enc a ∧ (0 ≤ a.x0 ∧ 0 ≤ a.x1) := by
  rintro cs ⟨_, _, rfl, ⟨x0, rfl, a0, _⟩, _, _, rfl, ⟨x1, rfl, a1, _⟩, rfl⟩
  exact ⟨⟨x0, x1⟩, rfl, a0, a1⟩

/-! ### the run -/
theorem walk {H : Type} {enc : TypeId × Value → H} {W : World} {base : Nat} {u v : Value} {d d' : DataW H} {p p' : List MemPlace}
    (h1 : DataW.Trod enc Try.prog W 0 (fun _ => true) true 22 u d p) (h2 : DataW.Trod enc Try.prog W 0 (fun _ => true) true 23 v d' p')
    (o1 : Value.okWide Try.prog W .any base 22 u) (o2 : Value.okWide Try.prog W .any base 23 v) :
    Calls Try.prog 3 #[u, v] W fun e w' => e = .returned (.bool true) ∧ Grown W w' ∧ Below W.heap.size W w' := by
  obtain ⟨φ1, hp1, u1, l, le1, O1, V1, S1, G1, K1⟩ := (Opened.nil W).slice (E := e_Turn) Try.underlying22 lf_Turn (by kernel_rfl) lv_Turn h1 o1
  obtain ⟨φ2, hp2, v1, qs, le2, O2, V2, S2, G2, K2⟩ := O1.slice (E := e_a2uint8) Try.underlying23 lf_a2 (by kernel_rfl) lv_a2 h2 o2
  have hw := once_walk hp2 2 u1 v1 l qs (S1.more K2) S2 G1 G2 (O2.hr.cl O2.top)
  refine Calls.mono (hw φ2 _ W [u, v] (.cons _ _ _ _ (V1.mono le2) (.cons _ _ _ _ V2 .nil)) O2.hr O2.top) fun e w' hh => ?_
  obtain ⟨r, hp', top', v', φ', rfl, ⟨rfl, _⟩, Wk⟩ := hh
  have := Wk.v.bool_inv
  subst this
  exact ⟨rfl, Wk.k.grown, ⟨Wk.k.os, Wk.k.tape, Wk.k.output, Wk.k.size, fun b hb => Wk.k.same b hb (by omega)⟩⟩

/-! ### the row -/
theorem laid : laidOutB Try.prog = true := by kernel_rfl
theorem rec22 : Try.prog.readableRec 22 = true := by kernel_rfl
theorem rec23 : Try.prog.readableRec 23 = true := by kernel_rfl
theorem row22 : 22 < Try.prog.types.size := of_decide_eq_true (by kernel_rfl)
theorem row23 : 23 < Try.prog.types.size := of_decide_eq_true (by kernel_rfl)

set_option maxRecDepth 100000 in
theorem lifted (os : Os) (started : os.Started) (H : Type) (enc : TypeId × Value → H) :
    ReturnsInHanded {} Try.checked os 3 .any (Rows.fateOnceSpec.pre6 enc Try.prog Try.f3 Rows.fateOnceRow.domain false) (Rows.fateOnceSpec.post enc Try.prog Try.f3 false true false false) := by
  refine returnsInHanded_of_change (C := Try.checked) own started (by kernel_rfl) Try.func3
    (ChangeSpec.witness6 (enc := enc) (C := Try.checked) false ⟨#[], #[.slice none 0 0, .slice none 0 0], []⟩ 8 (by kernel_rfl) (by kernel_rfl) (by kernel_rfl) (by kernel_rfl)) ?_
  intro W base args ds gs before hval0 hW hcnd _
  have hval : ∀ (j : Nat) t v, Try.f3.params[j]? = some t → args[j]? = some v → Value.okWide Try.prog W .any base t v := hval0
  have hW' := hW
  have hlt := hW.lt
  obtain ⟨p, q, hA0, hV, rfl, hfz, hnd⟩ := hW
  have hA : DataW.TrodAll enc Try.prog W 0 (fun _ => true) true Try.f3.params.toList args.toList ds p := hA0
  rw [Try.params3] at hA hval
  obtain ⟨u, v, d, d', pu, pv, rfl, rfl, rfl, h1, h2⟩ := trodAll_two hA
  obtain ⟨rfl, rfl⟩ := trodVars_none hV
  clear hA0 hval0
  simp only [List.append_nil] at hW' hlt
  refine (walk h1 h2 (hval 0 22 u rfl rfl) (hval 1 23 v rfl rfl)).mono fun e W' ⟨he, hg, hb⟩ => ?_
  subst he
  refine ⟨_, rfl, post_of_same (pa := pu ++ (pv ++ [])) (pv := []) hW' (fun _ _ _ => (trodAll_cons_mk (shut_bool Try.underlying4 _) trodAll_mk0)) (fun sp hsp => ?_) (fun _ _ => rfl) (by simp)
    (hg.frame _) hg.2.1 (ok_one (by kernel_rfl) rfl (okWide_bool_mk Try.underlying4 _))⟩
  exact trodAll_cons_mk (WideElems.Trod_stays laid rec22 row22 h1 (fun x hx => hb.same (hlt x (by simp [hx]))) (fun x hx => hsp x (by simp [hx])))
    (trodAll_cons_mk (WideElems.Trod_stays laid rec23 row23 h2 (fun x hx => hb.same (hlt x (by simp [hx]))) (fun x hx => hsp x (by simp [hx]))) trodAll_mk0)

theorem over : Rows.fateOnceRow.holds Try.pinned (OpenSpec.ofChange Rows.fateOnceSpec) :=
  OpenClaim.holds_of_wide 3 Try.f3 rfl rfl rfl rfl rfl rfl rfl ⟨rfl, rfl, rfl, rfl, rfl⟩ rfl rfl rfl rfl rfl (by kernel_rfl) Try.func3 (by kernel_rfl)
    (of_decide_eq_true (by kernel_rfl)) (by unfold Func.isWrapper; first | (rw [if_pos (by decide +kernel)]; kernel_rfl) | (rw [if_neg (by decide +kernel)]; exact ⟨rfl, rfl⟩))
    (fun os started H enc _ => lifted os started H enc)

/-- THE STATEMENT -/
theorem proved : Rows.FateOnceSaid :=
  over
#print axioms proved
end Go.Proofs.Ytnlbcaefljaceaa.fateOnce
