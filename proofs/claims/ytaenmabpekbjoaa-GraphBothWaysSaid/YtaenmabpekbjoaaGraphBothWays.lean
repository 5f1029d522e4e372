/- GraphBothWays, the row: the arguments are opened, the walk is run over them, and they read as they did. No condition. -/
import Derived.Test.YtaenmabpekbjoaaRows
import Derived.Test.YtaenmabpekbjoaaGBW
import Derived.WalkKit
import Derived.ProofKit
import Derived.OpenShut
import Derived.SizedLaws
set_option linter.unusedSimpArgs false
set_option linter.unusedVariables false
namespace Go.Proofs.Ytaenmabpekbjoaa.graphBothWays
open Go.ChangeShapes Go.WideShapes Go.ChangeAt Go.RowKit
open Go.Dm Go.Proofs.Ytaenmabpekbjoaa.Dm

theorem own : ownKnob Try.prog.godebug = none := by kernel_rfl

noncomputable def sh_Adj : List Sh := [.leaf (.int .i64), .leaf (.int .i64)]
def good_Adj (_ : Hp) (_ : T_Adj) : Prop := True
theorem lv_Adj {hp : Hp} : ∀ cs, OkVs hp sh_Adj cs → ∃ a : T_Adj, cs = e_Adj.enc a ∧ good_Adj hp a := by
  rintro cs (_ | ⟨_, _, _, _, ⟨_, _, x0, rfl, _⟩, (_ | ⟨_, _, _, _, ⟨_, _, x1, rfl, _⟩, (_ | _)⟩)⟩)
  exact ⟨⟨x0, x1⟩, rfl, trivial⟩
noncomputable def sh_Record : List Sh := [.leaf (.int .i64), .leaf (.int .u32), .leaf (.int .u32), .leaf (.int .i64), .leaf .bool, .sl sh_Adj 16]
def good_Record (hp : Hp) (r : T_Record) : Prop := SlP e_Adj hp r.Adjs.v
theorem lv_Record {hp : Hp} : ∀ cs, OkVs hp sh_Record cs → ∃ a : T_Record, cs = e_Record.enc a ∧ good_Record hp a := by
  rintro cs (_ | ⟨_, _, _, _, ⟨_, _, x0, rfl, _⟩, (_ | ⟨_, _, _, _, ⟨_, _, x1, rfl, _⟩, (_ | ⟨_, _, _, _, ⟨_, _, x2, rfl, _⟩, (_ | ⟨_, _, _, _, ⟨_, _, x3, rfl, _⟩, (_ | ⟨_, _, _, _, ⟨_, _, x4, rfl⟩, (_ | ⟨_, _, v5, _, h5, (_ | _)⟩)⟩)⟩)⟩)⟩)⟩)
  obtain ⟨l5, q5, _⟩ := OkV.slT h5 (E := e_Adj) (good := good_Adj hp) rfl lv_Adj
  exact ⟨⟨x0, x1, x2, x3, x4, refOf v5⟩, by rw [en_Record]; simp only [q5.ref], ⟨l5, by show SlT _ hp (refOf v5).v l5; rw [q5.ref]; exact q5⟩⟩
theorem shp_sRecord : shapes Try.prog 9 22 = some [.sl sh_Record 56] := by kernel_rfl

/-! ### the run -/
theorem walk {H : Type} {enc : TypeId × Value → H} {W : World} {base : Nat} {v0 : Value} {d0 : DataW H} {p0 : List MemPlace}
    (h0 : DataW.Trod enc Try.prog W 0 (fun _ => true) true 22 v0 d0 p0) (w0 : ∀ n ∈ d0.weights Try.prog 22, n ≤ reachBytes) (o0 : Value.okWide Try.prog W .any base 22 v0) :
    Calls Try.prog 7 #[v0] W fun e w' => e = .returned (.bool true) ∧ Grown W w' ∧ Below W.heap.size W w' := by
  obtain ⟨a0, n0, c0, rfl⟩ := okSlice Try.underlying22 o0
  obtain ⟨fuel0, f0⟩ := h0
  obtain ⟨φ0, hp0, top0, cs0, O0⟩ := trod_open (own := fun b => W.heap.size ≤ b) 9 22 _ shp_sRecord fuel0 _ _ f0 w0 (fun _ => none) (fun _ => none) 0 (Opened.nil W)
  obtain ⟨u0, rfl, V0, K0⟩ := O0.one
  obtain ⟨l0, S0, g0, z0⟩ := OkV.slT K0 (E := e_Record) (good := good_Record hp0) rfl lv_Record
  have hrb : reachBytes ≤ 140737488351232 := by decide
  have CL := O0.op.hr.cl O0.op.top
  have hw := bothWays_walk hp0 top0 u0 l0 S0 g0 CL (roomB_mk (by omega) (by omega))
  refine Calls.mono (hw φ0 _ W [.slice a0 n0 c0] (.cons _ _ _ _ V0 .nil) O0.op.hr O0.op.top) fun e w' hh => ?_
  obtain ⟨r, hp', top', v', φ', rfl, ⟨rfl, _⟩, Wk⟩ := hh
  have := Wk.v.bool_inv
  subst this
  exact ⟨rfl, Wk.k.grown, ⟨Wk.k.os, Wk.k.tape, Wk.k.output, Wk.k.size, fun b hb => Wk.k.same b hb (by omega)⟩⟩

/-! ### the row -/
theorem laid : laidOutB Try.prog = true := by kernel_rfl
theorem rec22 : Try.prog.readableRec 22 = true := by kernel_rfl
theorem row22 : 22 < Try.prog.types.size := of_decide_eq_true (by kernel_rfl)

set_option maxRecDepth 100000 in
theorem lifted (os : Os) (started : os.Started) (H : Type) (enc : TypeId × Value → H) :
    ReturnsInHanded {} Try.checked os 7 .any (Rows.graphBothWaysSpec.pre6 enc Try.prog Try.f7 Rows.graphBothWaysRow.domain false) (Rows.graphBothWaysSpec.post enc Try.prog Try.f7 false true false false) := by
  refine returnsInHanded_of_change_sized (C := Try.checked) own started (by kernel_rfl) Try.func7
    (ChangeSpec.witness6 (enc := enc) (C := Try.checked) false ⟨#[], #[.slice none 0 0], []⟩ 8 (by kernel_rfl) (by kernel_rfl) (by kernel_rfl) (by kernel_rfl)) ?_
  intro W base args ds gs before hval0 hW hcnd hz0 _
  have hval : ∀ (j : Nat) t v, Try.f7.params[j]? = some t → args[j]? = some v → Value.okWide Try.prog W .any base t v := hval0
  have hz : ∀ (j : Nat) t (d : DataW H), (Try.f7.params.toList ++ Rows.graphBothWaysSpec.plain.varTypes Try.prog)[j]? = some t → (ds ++ gs)[j]? = some d → ∀ n ∈ d.weights Try.prog t, n ≤ reachBytes :=
    fun j t d ht hd n hn => of_decide_eq_true (List.all_eq_true.1 hz0 n (DataW.weights_mem_each ht hd n hn))
  have hW' := hW
  have hlt := hW.lt
  obtain ⟨p, q, hA0, hV, rfl, hfz, hnd⟩ := hW
  have hA : DataW.TrodAll enc Try.prog W 0 (fun _ => true) true Try.f7.params.toList args.toList ds p := hA0
  rw [Try.params7] at hA hval hz
  obtain ⟨v0, d0, rfl, rfl, h0⟩ := trodAll_one hA
  obtain ⟨rfl, rfl⟩ := trodVars_none hV
  clear hA0 hval0
  simp only [List.append_nil] at hW' hlt
  refine (walk h0 (hz 0 22 d0 rfl rfl) (hval 0 22 v0 rfl rfl)).mono fun e W' ⟨he, hg, hb⟩ => ?_
  subst he
  refine ⟨_, rfl, post_of_same (pa := (p ++ [])) (pv := []) hW' (fun _ _ _ => (trodAll_cons_mk (shut_bool Try.underlying4 _) trodAll_mk0)) (fun sp hsp => ?_) (fun _ _ => rfl) (by simp)
    (hg.frame _) hg.2.1 (ok_one (by kernel_rfl) rfl (okWide_bool_mk Try.underlying4 _))⟩
  exact (trodAll_cons_mk (WideElems.Trod_stays laid rec22 row22 h0 (fun x hx => hb.same (hlt x (by simp [hx]))) (fun x hx => hsp x (by simp [hx]))) trodAll_mk0)

theorem over : Rows.graphBothWaysRow.holds Try.pinned (OpenSpec.ofChange Rows.graphBothWaysSpec) :=
  OpenClaim.holds_of_wide 7 Try.f7 rfl rfl rfl rfl rfl rfl rfl ⟨rfl, rfl, rfl, rfl, rfl⟩ rfl rfl rfl rfl rfl (by kernel_rfl) Try.func7 (by kernel_rfl)
    (of_decide_eq_true (by kernel_rfl)) (by unfold Func.isWrapper; first | (rw [if_pos (by decide +kernel)]; kernel_rfl) | (rw [if_neg (by decide +kernel)]; exact ⟨rfl, rfl⟩))
    (fun os started H enc _ => lifted os started H enc)

/-- THE STATEMENT -/
theorem proved : Rows.GraphBothWaysSaid :=
  over
#print axioms proved
end Go.Proofs.Ytaenmabpekbjoaa.graphBothWays
