/- CalendPlays, the row: the arguments are opened, the walk is run over them, and they read as they did. No condition. -/
import Derived.Test.YtogndgadipdikaaRows
import Derived.Test.YtogndgadipdikaaZ4
import Derived.WalkKit
import Derived.ProofKit
import Derived.OpenShut
import Derived.SizedLaws
set_option linter.unusedSimpArgs false
set_option linter.unusedVariables false
namespace Go.Proofs.Ytogndgadipdikaa.calendPlays
open Go.ChangeShapes Go.WideShapes Go.ChangeAt Go.RowKit
open Go.Dm Go.Proofs.Ytogndgadipdikaa.Dm

theorem own : ownKnob Try.prog.godebug = none := by kernel_rfl

noncomputable def sh_Do : List Sh := [.leaf (.int .i64), .leaf (.int .u64), .leaf (.int .i64), .leaf .str]
def good_Do (_ : Hp) (_ : T_Do) : Prop := True
theorem lv_Do {hp : Hp} : ∀ cs, OkVs hp sh_Do cs → ∃ a : T_Do, cs = e_Do.enc a ∧ good_Do hp a := by
  rintro cs (_ | ⟨_, _, _, _, ⟨_, _, x0, rfl, y0⟩, (_ | ⟨_, _, _, _, ⟨_, _, x1, rfl, y1⟩, (_ | ⟨_, _, _, _, ⟨_, _, x2, rfl, y2⟩, (_ | ⟨_, _, _, _, ⟨_, _, ⟨⟨x3⟩⟩, rfl, _⟩, (_ | _)⟩)⟩)⟩)⟩)
  exact ⟨⟨x0, x1, x2, x3⟩, rfl, trivial⟩
theorem shp_sDo : shapes Try.prog 9 45 = some [.sl sh_Do 40] := by kernel_rfl

/-! ### the run -/
set_option maxRecDepth 20000 in
theorem walk {H : Type} {enc : TypeId × Value → H} {W : World} {base : Nat} {v0 : Value} {d0 : DataW H} {p0 : List MemPlace}
    (h0 : DataW.Trod enc Try.prog W 0 (fun _ => true) true 45 v0 d0 p0) (w0 : ∀ n ∈ d0.weights Try.prog 45, n ≤ reachBytes) (o0 : Value.okWide Try.prog W .any base 45 v0) :
    Calls Try.prog 6 #[v0] W fun e w' => e = .returned (.bool true) ∧ Grown W w' ∧ Below W.heap.size W w' := by
  obtain ⟨a0, n0, c0, rfl⟩ := okSlice Try.underlying45 o0
  obtain ⟨fuel0, f0⟩ := h0
  obtain ⟨φ0, hp0, top0, cs0, O0⟩ := trod_open (own := fun b => W.heap.size ≤ b) 9 45 _ shp_sDo fuel0 _ _ f0 w0 (fun _ => none) (fun _ => none) 0 (Opened.nil W)
  obtain ⟨u0, rfl, V0, K0⟩ := O0.one
  obtain ⟨l0, S0, g0, z0⟩ := OkV.slT K0 (E := e_Do) (good := good_Do hp0) rfl lv_Do
  have hrb : reachBytes ≤ 140737488351232 := by decide
  have CL := O0.op.hr.cl O0.op.top
  have hw := plays_walk hp0 top0 u0 l0 S0 CL
  refine Calls.mono (hw φ0 _ W [.slice a0 n0 c0] (.cons _ _ _ _ V0 .nil) O0.op.hr O0.op.top) fun e w' hh => ?_
  obtain ⟨r, hp', top', v', φ', rfl, ⟨rfl, _⟩, Wk⟩ := hh
  have := Wk.v.bool_inv
  subst this
  exact ⟨rfl, Wk.k.grown, ⟨Wk.k.os, Wk.k.tape, Wk.k.output, Wk.k.size, fun b hb => Wk.k.same b hb (by omega)⟩⟩

/-! ### the row -/
theorem laid : laidOutB Try.prog = true := by kernel_rfl
theorem rec45 : Try.prog.readableRec 45 = true := by kernel_rfl
theorem row45 : 45 < Try.prog.types.size := of_decide_eq_true (by kernel_rfl)

set_option maxRecDepth 100000 in
theorem lifted (os : Os) (started : os.Started) (H : Type) (enc : TypeId × Value → H) :
    ReturnsInHanded {} Try.checked os 6 .any (Rows.calendPlaysSpec.pre6 enc Try.prog Try.f6 Rows.calendPlaysRow.domain false) (Rows.calendPlaysSpec.post enc Try.prog Try.f6 false true false false) := by
  refine returnsInHanded_of_change_sized (C := Try.checked) own started (by kernel_rfl) Try.func6
    (ChangeSpec.witness6 (enc := enc) (C := Try.checked) false ⟨#[], #[.slice none 0 0], []⟩ 8 (by kernel_rfl) (by kernel_rfl) (by kernel_rfl) (by kernel_rfl)) ?_
  intro W base args ds gs before hval0 hW hcnd hz0 _
  have hval : ∀ (j : Nat) t v, Try.f6.params[j]? = some t → args[j]? = some v → Value.okWide Try.prog W .any base t v := hval0
  have hz : ∀ (j : Nat) t (d : DataW H), (Try.f6.params.toList ++ Rows.calendPlaysSpec.plain.varTypes Try.prog)[j]? = some t → (ds ++ gs)[j]? = some d → ∀ n ∈ d.weights Try.prog t, n ≤ reachBytes :=
    fun j t d ht hd n hn => of_decide_eq_true (List.all_eq_true.1 hz0 n (DataW.weights_mem_each ht hd n hn))
  have hW' := hW
  have hlt := hW.lt
  obtain ⟨p, q, hA0, hV, rfl, hfz, hnd⟩ := hW
  have hA : DataW.TrodAll enc Try.prog W 0 (fun _ => true) true Try.f6.params.toList args.toList ds p := hA0
  rw [Try.params6] at hA hval hz
  obtain ⟨v0, d0, rfl, rfl, h0⟩ := trodAll_one hA
  obtain ⟨rfl, rfl⟩ := trodVars_none hV
  clear hA0 hval0
  simp only [List.append_nil] at hW' hlt
  refine (walk h0 (hz 0 45 d0 rfl rfl) (hval 0 45 v0 rfl rfl)).mono fun e W' ⟨he, hg, hb⟩ => ?_
  subst he
  refine ⟨_, rfl, post_of_same (pa := (p ++ [])) (pv := []) hW' (fun _ _ _ => (trodAll_cons_mk (shut_bool Try.underlying4 _) trodAll_mk0)) (fun sp hsp => ?_) (fun _ _ => rfl) (by simp)
    (hg.frame _) hg.2.1 (ok_one (by kernel_rfl) rfl (okWide_bool_mk Try.underlying4 _))⟩
  exact (trodAll_cons_mk (WideElems.Trod_stays laid rec45 row45 h0 (fun x hx => hb.same (hlt x (by simp [hx]))) (fun x hx => hsp x (by simp [hx]))) trodAll_mk0)

theorem over : Rows.calendPlaysRow.holds Try.pinned (OpenSpec.ofChange Rows.calendPlaysSpec) :=
  OpenClaim.holds_of_wide 6 Try.f6 rfl rfl rfl rfl rfl rfl rfl ⟨rfl, rfl, rfl, rfl, rfl⟩ rfl rfl rfl rfl rfl (by kernel_rfl) Try.func6 (by kernel_rfl)
    (of_decide_eq_true (by kernel_rfl)) (by unfold Func.isWrapper; first | (rw [if_pos (by decide +kernel)]; kernel_rfl) | (rw [if_neg (by decide +kernel)]; exact ⟨rfl, rfl⟩))
    (fun os started H enc _ => lifted os started H enc)

/-- THE STATEMENT -/
theorem proved : Rows.CalendPlaysSaid :=
  over
#print axioms proved
end Go.Proofs.Ytogndgadipdikaa.calendPlays
