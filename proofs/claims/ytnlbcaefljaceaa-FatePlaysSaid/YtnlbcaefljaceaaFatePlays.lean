/- FatePlays, the row: the two arguments are opened, the walk is run over them, and they read as they did. No condition. -/
import Derived.Test.YtnlbcaefljaceaaRows
import Derived.Test.YtnlbcaefljaceaaFR
import Derived.Test.YtnlbcaefljaceaaDmG
import Derived.WalkKit
import Derived.ProofKit
import Derived.OpenShut
set_option linter.unusedSimpArgs false
set_option linter.unusedVariables false
namespace Go.Proofs.Ytnlbcaefljaceaa.fatePlays
open Go.ChangeShapes Go.WideShapes Go.ChangeAt Go.RowKit
open Go.Dm Go.Proofs.Ytnlbcaefljaceaa.Dm

theorem own : ownKnob Try.prog.godebug = none := by kernel_rfl

theorem lf_Rule : leafs Try.prog 9 27 = some [.int .i64, .int .i64, .int .i64, .int .i64, .int .i64] := by kernel_rfl
theorem lf_a2 : leafs Try.prog 9 48 = some [.int .i64, .int .i64] := by kernel_rfl
theorem lv_Rule : ∀ cs, CellsOk [.int .i64, .int .i64, .int .i64, .int .i64, .int .i64] cs → ∃ a, cs = e_Rule.enc a ∧ True := by
  rintro cs ⟨_, _, rfl, ⟨x0, rfl, _⟩, _, _, rfl, ⟨x1, rfl, _⟩, _, _, rfl, ⟨x2, rfl, _⟩, _, _, rfl, ⟨x3, rfl, _⟩, _, _, rfl, ⟨x4, rfl, _⟩, rfl⟩
  exact ⟨⟨x0, x1, x2, x3, x4⟩, rfl, trivial⟩
theorem lv_a2 : ∀ cs, CellsOk [.int .i64, .int .i64] cs → ∃ a : T_a2int, cs = e_a2int.enc a ∧ True := by
  rintro cs ⟨_, _, rfl, ⟨x0, rfl, _⟩, _, _, rfl, ⟨x1, rfl, _⟩, rfl⟩
  exact ⟨⟨x0, x1⟩, rfl, trivial⟩

/-! ### the run -/
theorem walk {H : Type} {enc : TypeId × Value → H} {W : World} {base : Nat} {u v : Value} {d d' : DataW H} {p p' : List MemPlace}
    (h1 : DataW.Trod enc Try.prog W 0 (fun _ => true) true 24 u d p) (h2 : DataW.Trod enc Try.prog W 0 (fun _ => true) true 42 v d' p')
    (o1 : Value.okWide Try.prog W .any base 24 u) (o2 : Value.okWide Try.prog W .any base 42 v) :
    Calls Try.prog 4 #[u, v] W fun e w' => e = .returned (.bool true) ∧ Grown W w' ∧ Below W.heap.size W w' := by
  obtain ⟨φ1, hp1, u1, l, le1, O1, V1, S1, _, K1⟩ := (Opened.nil W).slice (E := e_Rule) Try.underlying24 lf_Rule (by kernel_rfl) lv_Rule h1 o1
  obtain ⟨φ2, hp2, v1, qs, le2, O2, V2, S2, _, K2⟩ := O1.slice (E := e_a2int) Try.underlying42 lf_a2 (by kernel_rfl) lv_a2 h2 o2
  have hw := plays_walk hp2 2 u1 v1 l qs (S1.more K2) S2 (O2.hr.cl O2.top)
  refine Calls.mono (hw φ2 _ W [u, v] (.cons _ _ _ _ (V1.mono le2) (.cons _ _ _ _ V2 .nil)) O2.hr O2.top) fun e w' hh => ?_
  obtain ⟨r, hp', top', v', φ', rfl, ⟨rfl, _⟩, Wk⟩ := hh
  have := Wk.v.bool_inv
  subst this
  exact ⟨rfl, Wk.k.grown, ⟨Wk.k.os, Wk.k.tape, Wk.k.output, Wk.k.size, fun b hb => Wk.k.same b hb (by omega)⟩⟩

/-! ### the row -/
theorem laid : laidOutB Try.prog = true := by kernel_rfl
theorem rec24 : Try.prog.readableRec 24 = true := by kernel_rfl
theorem rec42 : Try.prog.readableRec 42 = true := by kernel_rfl
theorem row24 : 24 < Try.prog.types.size := of_decide_eq_true (by kernel_rfl)
theorem row42 : 42 < Try.prog.types.size := of_decide_eq_true (by kernel_rfl)

set_option maxRecDepth 100000 in
theorem lifted (os : Os) (started : os.Started) (H : Type) (enc : TypeId × Value → H) :
    ReturnsInHanded {} Try.checked os 4 .any (Rows.fatePlaysSpec.pre6 enc Try.prog Try.f4 Rows.fatePlaysRow.domain false) (Rows.fatePlaysSpec.post enc Try.prog Try.f4 false true false false) := by
  refine returnsInHanded_of_change (C := Try.checked) own started (by kernel_rfl) Try.func4
    (ChangeSpec.witness6 (enc := enc) (C := Try.checked) false ⟨#[], #[.slice none 0 0, .slice none 0 0], []⟩ 8 (by kernel_rfl) (by kernel_rfl) (by kernel_rfl) (by kernel_rfl)) ?_
  intro W base args ds gs before hval0 hW hcnd _
  have hval : ∀ (j : Nat) t v, Try.f4.params[j]? = some t → args[j]? = some v → Value.okWide Try.prog W .any base t v := hval0
  have hW' := hW
  have hlt := hW.lt
  obtain ⟨p, q, hA0, hV, rfl, hfz, hnd⟩ := hW
  have hA : DataW.TrodAll enc Try.prog W 0 (fun _ => true) true Try.f4.params.toList args.toList ds p := hA0
  rw [Try.params4] at hA hval
  obtain ⟨u, v, d, d', pu, pv, rfl, rfl, rfl, h1, h2⟩ := trodAll_two hA
  obtain ⟨rfl, rfl⟩ := trodVars_none hV
  clear hA0 hval0
  simp only [List.append_nil] at hW' hlt
  refine (walk h1 h2 (hval 0 24 u rfl rfl) (hval 1 42 v rfl rfl)).mono fun e W' ⟨he, hg, hb⟩ => ?_
  subst he
  refine ⟨_, rfl, post_of_same (pa := pu ++ (pv ++ [])) (pv := []) hW' (fun _ _ _ => (trodAll_cons_mk (shut_bool Try.underlying4 _) trodAll_mk0)) (fun sp hsp => ?_) (fun _ _ => rfl) (by simp)
    (hg.frame _) hg.2.1 (ok_one (by kernel_rfl) rfl (okWide_bool_mk Try.underlying4 _))⟩
  exact trodAll_cons_mk (WideElems.Trod_stays laid rec24 row24 h1 (fun x hx => hb.same (hlt x (by simp [hx]))) (fun x hx => hsp x (by simp [hx])))
    (trodAll_cons_mk (WideElems.Trod_stays laid rec42 row42 h2 (fun x hx => hb.same (hlt x (by simp [hx]))) (fun x hx => hsp x (by simp [hx]))) trodAll_mk0)

theorem over : Rows.fatePlaysRow.holds Try.pinned (OpenSpec.ofChange Rows.fatePlaysSpec) :=
  OpenClaim.holds_of_wide 4 Try.f4 rfl rfl rfl rfl rfl rfl rfl ⟨rfl, rfl, rfl, rfl, rfl⟩ rfl rfl rfl rfl rfl (by kernel_rfl) Try.func4 (by kernel_rfl)
    (of_decide_eq_true (by kernel_rfl)) (by unfold Func.isWrapper; first | (rw [if_pos (by decide +kernel)]; kernel_rfl) | (rw [if_neg (by decide +kernel)]; exact ⟨rfl, rfl⟩))
    (fun os started H enc _ => lifted os started H enc)

/-- THE STATEMENT -/
theorem proved : Rows.FatePlaysSaid :=
  over
#print axioms proved
end Go.Proofs.Ytnlbcaefljaceaa.fatePlays
