/- CalendKinds, where what it reads is of bounded bulk, the row: the arguments are opened, the walk is run over them, and they read as they did. No condition. -/
import Derived.Test.YtogndgadipdikaaRows
import Derived.Test.YtogndgadipdikaaCKW
import Derived.WalkKit
import Derived.ProofKit
import Derived.OpenShut
import Derived.SizedLaws
import Derived.JoinedCond
import Derived.Deep.CondSized
set_option linter.unusedSimpArgs false
set_option linter.unusedVariables false
namespace Go.Proofs.Ytogndgadipdikaa.calendKindsUpto
open Go.ChangeShapes Go.WideShapes Go.ChangeAt Go.RowKit
open Go.Dm Go.Proofs.Ytogndgadipdikaa.Dm

theorem own : ownKnob Try.prog.godebug = none := by kernel_rfl

noncomputable def sh_uint64 : List Sh := [.leaf (.int .u64)]
def good_uint64 (_ : Hp) (r : Int) : Prop := (IntKind.u64.min ≤ r ∧ r ≤ IntKind.u64.max)
theorem lv_uint64 {hp : Hp} : ∀ cs, OkVs hp sh_uint64 cs → ∃ a : Int, cs = e_uint64.enc a ∧ good_uint64 hp a := by
  rintro cs (_ | ⟨_, _, _, _, ⟨_, _, x0, rfl, y0⟩, (_ | _)⟩)
  exact ⟨x0, rfl, y0⟩
theorem shp_suint64 : shapes Try.prog 9 22 = some [.sl sh_uint64 8] := by kernel_rfl

theorem rngU {x : Int} (h : IntKind.u64.min ≤ x ∧ x ≤ IntKind.u64.max) : 0 ≤ x ∧ x < 18446744073709551616 := by
  simp only [IntKind.min, IntKind.max, IntKind.signed, IntKind.bits, Bool.false_eq_true, if_false, Int.reducePow, Int.reduceSub] at h
  omega
/-! ### the run -/
set_option maxRecDepth 20000 in
theorem walk {H : Type} {enc : TypeId × Value → H} {W : World} {base : Nat} {v0 : Value} {d0 : DataW H} {p0 : List MemPlace}
    (h0 : DataW.Trod enc Try.prog W 0 (fun _ => true) true 22 v0 d0 p0) (w0 : ∀ n ∈ d0.weights Try.prog 22, n ≤ reachBytes) (o0 : Value.okWide Try.prog W .any base 22 v0) :
    Calls Try.prog 3 #[v0] W fun e w' => e = .returned (.bool true) ∧ Grown W w' ∧ Below W.heap.size W w' := by
  obtain ⟨a0, n0, c0, rfl⟩ := okSlice Try.underlying22 o0
  obtain ⟨fuel0, f0⟩ := h0
  obtain ⟨φ0, hp0, top0, cs0, O0⟩ := trod_open (own := fun b => W.heap.size ≤ b) 9 22 _ shp_suint64 fuel0 _ _ f0 w0 (fun _ => none) (fun _ => none) 0 (Opened.nil W)
  obtain ⟨u0, rfl, V0, K0⟩ := O0.one
  obtain ⟨l0, S0, g0, z0⟩ := OkV.slT K0 (E := e_uint64) (good := good_uint64 hp0) rfl lv_uint64
  have hrb : reachBytes ≤ 140737488351232 := by decide
  have CL := O0.op.hr.cl O0.op.top
  have hw := kinds_walk hp0 top0 u0 l0 S0 CL (fun x hx => rngU (g0 x hx))
  refine Calls.mono (hw φ0 _ W [.slice a0 n0 c0] (.cons _ _ _ _ V0 .nil) O0.op.hr O0.op.top) fun e w' hh => ?_
  obtain ⟨r, hp', top', v', φ', rfl, ⟨rfl, _⟩, Wk⟩ := hh
  have := Wk.v.bool_inv
  subst this
  exact ⟨rfl, Wk.k.grown, ⟨Wk.k.os, Wk.k.tape, Wk.k.output, Wk.k.size, fun b hb => Wk.k.same b hb (by omega)⟩⟩

/-! ### the row -/
theorem laid : laidOutB Try.prog = true := by kernel_rfl
theorem rec22 : Try.prog.readableRec 22 = true := by kernel_rfl
theorem row22 : 22 < Try.prog.types.size := of_decide_eq_true (by kernel_rfl)

set_option maxRecDepth 100000 in
theorem lifted (os : Os) (started : os.Started) (H : Type) (enc : TypeId × Value → H) (F : Stop.Interp) :
    ReturnsInHanded {} Try.checked os 3 .any ((Rows.OpenSpec.upto Rows.calendKindsSpec).pre6 enc Try.prog Try.f3 Rows.calendKindsUptoRow.domain false) (((Rows.OpenSpec.upto Rows.calendKindsSpec).at F).post enc Try.prog Try.f3 false true false false) := by
  refine returnsInHanded_of_cond_sized (C := Try.checked) (s := Rows.OpenSpec.upto Rows.calendKindsSpec) (k := Rows.uptoSmall) rfl own started (by kernel_rfl) Try.func3
    (OpenSpec.witness (enc := enc) (C := Try.checked) (s := Rows.OpenSpec.upto Rows.calendKindsSpec) (k := Rows.uptoSmall) rfl false ⟨#[], #[.slice none 0 0], []⟩ 8 (by kernel_rfl) (by kernel_rfl) (by kernel_rfl)
      (x := ([.nil], [], [])) (by kernel_rfl) rfl (by kernel_rfl)) ?_
  intro W base args ds gs before hval0 hW hcnd hk hz0 _
  have hval : ∀ (j : Nat) t v, Try.f3.params[j]? = some t → args[j]? = some v → Value.okWide Try.prog W .any base t v := hval0
  have hz : ∀ (j : Nat) t (d : DataW H), (Try.f3.params.toList ++ Rows.calendKindsSpec.plain.varTypes Try.prog)[j]? = some t → (ds ++ gs)[j]? = some d → ∀ n ∈ d.weights Try.prog t, n ≤ reachBytes :=
    fun j t d ht hd n hn => of_decide_eq_true (List.all_eq_true.1 hz0 n (DataW.weights_mem_each ht hd n hn))
  have hW' := hW
  have hlt := hW.lt
  obtain ⟨p, q, hA0, hV, rfl, hfz, hnd⟩ := hW
  have hA : DataW.TrodAll enc Try.prog W 0 (fun _ => true) true Try.f3.params.toList args.toList ds p := hA0
  rw [Try.params3] at hA hval hz
  obtain ⟨v0, d0, rfl, rfl, h0⟩ := trodAll_one hA
  obtain ⟨rfl, rfl⟩ := trodVars_none hV
  clear hA0 hval0
  simp only [List.append_nil] at hW' hlt
  refine (walk h0 (hz 0 22 d0 rfl rfl) (hval 0 22 v0 rfl rfl)).mono fun e W' ⟨he, hg, hb⟩ => ?_
  subst he
  refine ⟨_, rfl, post_of_same (pa := (p ++ [])) (pv := []) hW' (fun _ _ _ => (trodAll_cons_mk (shut_bool Try.underlying4 _) trodAll_mk0)) (fun sp hsp => ?_) (fun _ _ => rfl) (by simp)
    (hg.frame _) hg.2.1 (ok_one (by kernel_rfl) rfl (okWide_bool_mk Try.underlying4 _))⟩
  exact (trodAll_cons_mk (WideElems.Trod_stays laid rec22 row22 h0 (fun x hx => hb.same (hlt x (by simp [hx]))) (fun x hx => hsp x (by simp [hx]))) trodAll_mk0)

theorem over : Rows.calendKindsUptoRow.holds Try.pinned (Rows.OpenSpec.upto Rows.calendKindsSpec) :=
  OpenClaim.holds_of_cond 3 Try.f3 rfl rfl rfl rfl rfl rfl rfl ⟨rfl, rfl, rfl, rfl, rfl⟩ rfl rfl rfl rfl rfl (by kernel_rfl) Try.func3 (by kernel_rfl)
    (of_decide_eq_true (by kernel_rfl)) (by unfold Func.isWrapper; first | (rw [if_pos (by decide +kernel)]; kernel_rfl) | (rw [if_neg (by decide +kernel)]; exact ⟨rfl, rfl⟩))
    (fun os started H enc _ F => lifted os started H enc F)

/-- THE STATEMENT -/
theorem proved : Rows.CalendKindsUptoSaid :=
  over
#print axioms proved
end Go.Proofs.Ytogndgadipdikaa.calendKindsUpto
