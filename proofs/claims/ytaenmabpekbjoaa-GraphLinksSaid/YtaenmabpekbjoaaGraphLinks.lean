/- GraphLinks, the row: the arguments are opened, the walk is run over them, and they read as they did. No condition. -/
import Derived.Test.YtaenmabpekbjoaaRows
import Derived.Test.YtaenmabpekbjoaaGOW
import Derived.WalkKit
import Derived.ProofKit
import Derived.OpenShut
import Derived.SizedLaws
set_option linter.unusedSimpArgs false
set_option linter.unusedVariables false
namespace Go.Proofs.Ytaenmabpekbjoaa.graphLinks
open Go.ChangeShapes Go.WideShapes Go.ChangeAt Go.RowKit
open Go.Dm Go.Proofs.Ytaenmabpekbjoaa.Dm

theorem own : ownKnob Try.prog.godebug = none := by kernel_rfl

noncomputable def sh_int : List Sh := [.leaf (.int .i64)]
def good_int (_ : Hp) (_ : Int) : Prop := True
theorem lv_int {hp : Hp} : ∀ cs, OkVs hp sh_int cs → ∃ a : Int, cs = e_int.enc a ∧ good_int hp a := by
  rintro cs (_ | ⟨_, _, _, _, ⟨_, _, x0, rfl, _⟩, (_ | _)⟩)
  exact ⟨x0, rfl, trivial⟩
noncomputable def sh_Link : List Sh := [.leaf (.int .i64), .leaf (.int .i64), .leaf (.int .i64)]
def good_Link (_ : Hp) (_ : T_Link) : Prop := True
theorem lv_Link {hp : Hp} : ∀ cs, OkVs hp sh_Link cs → ∃ a : T_Link, cs = e_Link.enc a ∧ good_Link hp a := by
  rintro cs (_ | ⟨_, _, _, _, ⟨_, _, x0, rfl, _⟩, (_ | ⟨_, _, _, _, ⟨_, _, x1, rfl, _⟩, (_ | ⟨_, _, _, _, ⟨_, _, x2, rfl, _⟩, (_ | _)⟩)⟩)⟩)
  exact ⟨⟨x0, x1, x2⟩, rfl, trivial⟩
theorem shp_sint : shapes Try.prog 9 23 = some [.sl sh_int 8] := by kernel_rfl
theorem shp_sLink : shapes Try.prog 9 53 = some [.sl sh_Link 24] := by kernel_rfl

/-! ### the run -/
theorem walk {H : Type} {enc : TypeId × Value → H} {W : World} {base : Nat} {v0 v1 : Value} {d0 d1 : DataW H} {p0 p1 : List MemPlace}
    (h0 : DataW.Trod enc Try.prog W 0 (fun _ => true) true 23 v0 d0 p0) (w0 : ∀ n ∈ d0.weights Try.prog 23, n ≤ reachBytes) (o0 : Value.okWide Try.prog W .any base 23 v0)
    (h1 : DataW.Trod enc Try.prog W 0 (fun _ => true) true 53 v1 d1 p1) (w1 : ∀ n ∈ d1.weights Try.prog 53, n ≤ reachBytes) (o1 : Value.okWide Try.prog W .any base 53 v1) :
    Calls Try.prog 8 #[v0, v1] W fun e w' => e = .returned (.bool true) ∧ Grown W w' ∧ Below W.heap.size W w' := by
  obtain ⟨a0, n0, c0, rfl⟩ := okSlice Try.underlying23 o0
  obtain ⟨fuel0, f0⟩ := h0
  obtain ⟨φ0, hp0, top0, cs0, O0⟩ := trod_open (own := fun b => W.heap.size ≤ b) 9 23 _ shp_sint fuel0 _ _ f0 w0 (fun _ => none) (fun _ => none) 0 (Opened.nil W)
  obtain ⟨u0, rfl, V0, K0⟩ := O0.one
  obtain ⟨a1, n1, c1, rfl⟩ := okSlice Try.underlying53 o1
  obtain ⟨fuel1, f1⟩ := h1
  obtain ⟨φ1, hp1, top1, cs1, O1⟩ := trod_open (own := fun b => W.heap.size ≤ b) 9 53 _ shp_sLink fuel1 _ _ f1 w1 φ0 hp0 top0 O0.op
  obtain ⟨u1, rfl, V1, K1⟩ := O1.one
  have V0 := V0.mono O1.le
  obtain ⟨l0, S0, g0, z0⟩ := OkV.slT (K0.mono O1.ext) (E := e_int) (good := good_int hp1) rfl lv_int
  obtain ⟨l1, S1, g1, z1⟩ := OkV.slT K1 (E := e_Link) (good := good_Link hp1) rfl lv_Link
  have hrb : reachBytes ≤ 140737488351232 := by decide
  have CL := O1.op.hr.cl O1.op.top
  have hw := graphLinks_walk hp1 top1 u0 u1 l0 l1 S0 S1 CL (roomB_mk (by omega) (by omega)) (roomB_mk (by omega) (by omega))
  refine Calls.mono (hw φ1 _ W [.slice a0 n0 c0, .slice a1 n1 c1] (.cons _ _ _ _ V0 (.cons _ _ _ _ V1 .nil)) O1.op.hr O1.op.top) fun e w' hh => ?_
  obtain ⟨r, hp', top', v', φ', rfl, ⟨rfl, _⟩, Wk⟩ := hh
  have := Wk.v.bool_inv
  subst this
  exact ⟨rfl, Wk.k.grown, ⟨Wk.k.os, Wk.k.tape, Wk.k.output, Wk.k.size, fun b hb => Wk.k.same b hb (by omega)⟩⟩

/-! ### the row -/
theorem laid : laidOutB Try.prog = true := by kernel_rfl
theorem rec23 : Try.prog.readableRec 23 = true := by kernel_rfl
theorem row23 : 23 < Try.prog.types.size := of_decide_eq_true (by kernel_rfl)
theorem rec53 : Try.prog.readableRec 53 = true := by kernel_rfl
theorem row53 : 53 < Try.prog.types.size := of_decide_eq_true (by kernel_rfl)

set_option maxRecDepth 100000 in
theorem lifted (os : Os) (started : os.Started) (H : Type) (enc : TypeId × Value → H) :
    ReturnsInHanded {} Try.checked os 8 .any (Rows.graphLinksSpec.pre6 enc Try.prog Try.f8 Rows.graphLinksRow.domain false) (Rows.graphLinksSpec.post enc Try.prog Try.f8 false true false false) := by
  refine returnsInHanded_of_change_sized (C := Try.checked) own started (by kernel_rfl) Try.func8
    (ChangeSpec.witness6 (enc := enc) (C := Try.checked) false ⟨#[], #[.slice none 0 0, .slice none 0 0], []⟩ 8 (by kernel_rfl) (by kernel_rfl) (by kernel_rfl) (by kernel_rfl)) ?_
  intro W base args ds gs before hval0 hW hcnd hz0 _
  have hval : ∀ (j : Nat) t v, Try.f8.params[j]? = some t → args[j]? = some v → Value.okWide Try.prog W .any base t v := hval0
  have hz : ∀ (j : Nat) t (d : DataW H), (Try.f8.params.toList ++ Rows.graphLinksSpec.plain.varTypes Try.prog)[j]? = some t → (ds ++ gs)[j]? = some d → ∀ n ∈ d.weights Try.prog t, n ≤ reachBytes :=
    fun j t d ht hd n hn => of_decide_eq_true (List.all_eq_true.1 hz0 n (DataW.weights_mem_each ht hd n hn))
  have hW' := hW
  have hlt := hW.lt
  obtain ⟨p, q, hA0, hV, rfl, hfz, hnd⟩ := hW
  have hA : DataW.TrodAll enc Try.prog W 0 (fun _ => true) true Try.f8.params.toList args.toList ds p := hA0
  rw [Try.params8] at hA hval hz
  obtain ⟨v0, v1, d0, d1, p0, p1, rfl, rfl, rfl, h0, h1⟩ := trodAll_two hA
  obtain ⟨rfl, rfl⟩ := trodVars_none hV
  clear hA0 hval0
  simp only [List.append_nil] at hW' hlt
  refine (walk h0 (hz 0 23 d0 rfl rfl) (hval 0 23 v0 rfl rfl) h1 (hz 1 53 d1 rfl rfl) (hval 1 53 v1 rfl rfl)).mono fun e W' ⟨he, hg, hb⟩ => ?_
  subst he
  refine ⟨_, rfl, post_of_same (pa := (p0 ++ (p1 ++ []))) (pv := []) hW' (fun _ _ _ => (trodAll_cons_mk (shut_bool Try.underlying4 _) trodAll_mk0)) (fun sp hsp => ?_) (fun _ _ => rfl) (by simp)
    (hg.frame _) hg.2.1 (ok_one (by kernel_rfl) rfl (okWide_bool_mk Try.underlying4 _))⟩
  exact (trodAll_cons_mk (WideElems.Trod_stays laid rec23 row23 h0 (fun x hx => hb.same (hlt x (by simp [hx]))) (fun x hx => hsp x (by simp [hx]))) (trodAll_cons_mk (WideElems.Trod_stays laid rec53 row53 h1 (fun x hx => hb.same (hlt x (by simp [hx]))) (fun x hx => hsp x (by simp [hx]))) trodAll_mk0))

theorem over : Rows.graphLinksRow.holds Try.pinned (OpenSpec.ofChange Rows.graphLinksSpec) :=
  OpenClaim.holds_of_wide 8 Try.f8 rfl rfl rfl rfl rfl rfl rfl ⟨rfl, rfl, rfl, rfl, rfl⟩ rfl rfl rfl rfl rfl (by kernel_rfl) Try.func8 (by kernel_rfl)
    (of_decide_eq_true (by kernel_rfl)) (by unfold Func.isWrapper; first | (rw [if_pos (by decide +kernel)]; kernel_rfl) | (rw [if_neg (by decide +kernel)]; exact ⟨rfl, rfl⟩))
    (fun os started H enc _ => lifted os started H enc)

/-- THE STATEMENT -/
theorem proved : Rows.GraphLinksSaid :=
  over
#print axioms proved
end Go.Proofs.Ytaenmabpekbjoaa.graphLinks
