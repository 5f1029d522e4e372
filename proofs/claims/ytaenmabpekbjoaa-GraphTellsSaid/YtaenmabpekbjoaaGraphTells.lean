/- GraphTells, the row: the arguments are opened, the walk is run over them, and they read as they did. No condition. -/
import Derived.Test.YtaenmabpekbjoaaRows
import Derived.Test.YtaenmabpekbjoaaGP4
import Derived.WalkKit
import Derived.ProofKit
import Derived.OpenShut
import Derived.SizedLaws
set_option linter.unusedSimpArgs false
set_option linter.unusedVariables false
namespace Go.Proofs.Ytaenmabpekbjoaa.graphTells
open Go.ChangeShapes Go.WideShapes Go.ChangeAt Go.RowKit
open Go.Dm Go.Proofs.Ytaenmabpekbjoaa.Dm

theorem own : ownKnob Try.prog.godebug = none := by kernel_rfl

noncomputable def sh_int : List Sh := [.leaf (.int .i64)]
def good_int (_ : Hp) (_ : Int) : Prop := True
theorem lv_int {hp : Hp} : ∀ cs, OkVs hp sh_int cs → ∃ a : Int, cs = e_int.enc a ∧ good_int hp a := by
  rintro cs (_ | ⟨_, _, _, _, ⟨_, _, x0, rfl, _⟩, (_ | _)⟩)
  exact ⟨x0, rfl, trivial⟩
noncomputable def sh_Edge : List Sh := [.leaf (.int .i64), .leaf (.int .i64), .leaf (.int .i64)]
def good_Edge (_ : Hp) (_ : T_Edge) : Prop := True
theorem lv_Edge {hp : Hp} : ∀ cs, OkVs hp sh_Edge cs → ∃ a : T_Edge, cs = e_Edge.enc a ∧ good_Edge hp a := by
  rintro cs (_ | ⟨_, _, _, _, ⟨_, _, x0, rfl, _⟩, (_ | ⟨_, _, _, _, ⟨_, _, x1, rfl, _⟩, (_ | ⟨_, _, _, _, ⟨_, _, x2, rfl, _⟩, (_ | _)⟩)⟩)⟩)
  exact ⟨⟨x0, x1, x2⟩, rfl, trivial⟩
theorem shp_Graph : shapes Try.prog 9 26 = some [.sl sh_int 8, .sl sh_Edge 24] := by kernel_rfl

/-! ### the run -/
theorem walk {H : Type} {enc : TypeId × Value → H} {W : World} {base : Nat} {v0 v1 : Value} {d0 d1 : DataW H} {p0 p1 : List MemPlace}
    (h0 : DataW.Trod enc Try.prog W 0 (fun _ => true) true 26 v0 d0 p0) (w0 : ∀ n ∈ d0.weights Try.prog 26, n ≤ reachBytes) (o0 : Value.okWide Try.prog W .any base 26 v0)
    (h1 : DataW.Trod enc Try.prog W 0 (fun _ => true) true 3 v1 d1 p1) (w1 : ∀ n ∈ d1.weights Try.prog 3, n ≤ reachBytes) (o1 : Value.okWide Try.prog W .any base 3 v1) :
    Calls Try.prog 5 #[v0, v1] W fun e w' => e = .returned (.bool true) ∧ Grown W w' ∧ Below W.heap.size W w' := by
  obtain ⟨r0, rfl⟩ := okAggV Try.underlying26 o0
  obtain ⟨fuel0, f0⟩ := h0
  obtain ⟨φ0, hp0, top0, cs0, O0⟩ := trod_open (own := fun b => W.heap.size ≤ b) 9 26 _ shp_Graph fuel0 _ _ f0 w0 (fun _ => none) (fun _ => none) 0 (Opened.nil W)
  obtain ⟨u0_0, u0_1, rfl, K0_0, K0_1⟩ : ∃ c0 c1, cs0 = [c0, c1] ∧ OkV hp0 (.sl sh_int 8) c0 ∧ OkV hp0 (.sl sh_Edge 24) c1 := by
    rcases O0.ok with (_ | ⟨_, _, _, _, k0, (_ | ⟨_, _, _, _, k1, (_ | _)⟩)⟩)
    exact ⟨_, _, rfl, k0, k1⟩
  have V0 : V φ0 (.agg ⟨[u0_0, u0_1]⟩) (.agg ⟨r0⟩) := .agg _ _ O0.vs
  obtain ⟨x1, rfl, lo1, hi1⟩ := okIntV (k := .i64) Try.underlying3 o1
  obtain ⟨l0_0, S0_0, g0_0, z0_0⟩ := OkV.slT K0_0 (E := e_int) (good := good_int hp0) rfl lv_int
  obtain ⟨l0_1, S0_1, g0_1, z0_1⟩ := OkV.slT K0_1 (E := e_Edge) (good := good_Edge hp0) rfl lv_Edge
  have hrb : reachBytes ≤ 140737488351232 := by decide
  have CL := O0.op.hr.cl O0.op.top
  have hw := graphTells_walk hp0 top0 u0_0 u0_1 x1 l0_0 l0_1 S0_0 S0_1 CL (roomB_mk (by omega) (by omega)) (roomB_mk (by omega) (by omega))
  refine Calls.mono (hw φ0 _ W [.agg ⟨r0⟩, .int .i64 x1] (.cons _ _ _ _ V0 (.cons _ _ _ _ (.int _ _) .nil)) O0.op.hr O0.op.top) fun e w' hh => ?_
  obtain ⟨r, hp', top', v', φ', rfl, ⟨rfl, _⟩, Wk⟩ := hh
  have := Wk.v.bool_inv
  subst this
  exact ⟨rfl, Wk.k.grown, ⟨Wk.k.os, Wk.k.tape, Wk.k.output, Wk.k.size, fun b hb => Wk.k.same b hb (by omega)⟩⟩

/-! ### the row -/
theorem laid : laidOutB Try.prog = true := by kernel_rfl
theorem rec3 : Try.prog.readableRec 3 = true := by kernel_rfl
theorem row3 : 3 < Try.prog.types.size := of_decide_eq_true (by kernel_rfl)
theorem rec26 : Try.prog.readableRec 26 = true := by kernel_rfl
theorem row26 : 26 < Try.prog.types.size := of_decide_eq_true (by kernel_rfl)

set_option maxRecDepth 100000 in
theorem lifted (os : Os) (started : os.Started) (H : Type) (enc : TypeId × Value → H) :
    ReturnsInHanded {} Try.checked os 5 .any (Rows.graphTellsSpec.pre6 enc Try.prog Try.f5 Rows.graphTellsRow.domain false) (Rows.graphTellsSpec.post enc Try.prog Try.f5 false true false false) := by
  refine returnsInHanded_of_change_sized (C := Try.checked) own started (by kernel_rfl) Try.func5
    (ChangeSpec.witness6 (enc := enc) (C := Try.checked) false ⟨#[], #[.agg #[.slice none 0 0, .slice none 0 0], .int .i64 0], []⟩ 8 (by kernel_rfl) (by kernel_rfl) (by kernel_rfl) (by kernel_rfl)) ?_
  intro W base args ds gs before hval0 hW hcnd hz0 _
  have hval : ∀ (j : Nat) t v, Try.f5.params[j]? = some t → args[j]? = some v → Value.okWide Try.prog W .any base t v := hval0
  have hz : ∀ (j : Nat) t (d : DataW H), (Try.f5.params.toList ++ Rows.graphTellsSpec.plain.varTypes Try.prog)[j]? = some t → (ds ++ gs)[j]? = some d → ∀ n ∈ d.weights Try.prog t, n ≤ reachBytes :=
    fun j t d ht hd n hn => of_decide_eq_true (List.all_eq_true.1 hz0 n (DataW.weights_mem_each ht hd n hn))
  have hW' := hW
  have hlt := hW.lt
  obtain ⟨p, q, hA0, hV, rfl, hfz, hnd⟩ := hW
  have hA : DataW.TrodAll enc Try.prog W 0 (fun _ => true) true Try.f5.params.toList args.toList ds p := hA0
  rw [Try.params5] at hA hval hz
  obtain ⟨v0, v1, d0, d1, p0, p1, rfl, rfl, rfl, h0, h1⟩ := trodAll_two hA
  obtain ⟨rfl, rfl⟩ := trodVars_none hV
  clear hA0 hval0
  simp only [List.append_nil] at hW' hlt
  refine (walk h0 (hz 0 26 d0 rfl rfl) (hval 0 26 v0 rfl rfl) h1 (hz 1 3 d1 rfl rfl) (hval 1 3 v1 rfl rfl)).mono fun e W' ⟨he, hg, hb⟩ => ?_
  subst he
  refine ⟨_, rfl, post_of_same (pa := (p0 ++ (p1 ++ []))) (pv := []) hW' (fun _ _ _ => (trodAll_cons_mk (shut_bool Try.underlying4 _) trodAll_mk0)) (fun sp hsp => ?_) (fun _ _ => rfl) (by simp)
    (hg.frame _) hg.2.1 (ok_one (by kernel_rfl) rfl (okWide_bool_mk Try.underlying4 _))⟩
  exact (trodAll_cons_mk (WideElems.Trod_stays laid rec26 row26 h0 (fun x hx => hb.same (hlt x (by simp [hx]))) (fun x hx => hsp x (by simp [hx]))) (trodAll_cons_mk (WideElems.Trod_stays laid rec3 row3 h1 (fun x hx => hb.same (hlt x (by simp [hx]))) (fun x hx => hsp x (by simp [hx]))) trodAll_mk0))

theorem over : Rows.graphTellsRow.holds Try.pinned (OpenSpec.ofChange Rows.graphTellsSpec) :=
  OpenClaim.holds_of_wide 5 Try.f5 rfl rfl rfl rfl rfl rfl rfl ⟨rfl, rfl, rfl, rfl, rfl⟩ rfl rfl rfl rfl rfl (by kernel_rfl) Try.func5 (by kernel_rfl)
    (of_decide_eq_true (by kernel_rfl)) (by unfold Func.isWrapper; first | (rw [if_pos (by decide +kernel)]; kernel_rfl) | (rw [if_neg (by decide +kernel)]; exact ⟨rfl, rfl⟩))
    (fun os started H enc _ => lifted os started H enc)

/-- THE STATEMENT -/
theorem proved : Rows.GraphTellsSaid :=
  over
#print axioms proved
end Go.Proofs.Ytaenmabpekbjoaa.graphTells
