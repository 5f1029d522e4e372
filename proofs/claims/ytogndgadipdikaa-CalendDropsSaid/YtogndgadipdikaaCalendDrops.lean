/- CalendDrops, the row: the arguments are opened, the walk is run over them, and they read as they did. No condition. -/
import Derived.Test.YtogndgadipdikaaRows
import Derived.Test.YtogndgadipdikaaCDW
import Derived.WalkKit
import Derived.ProofKit
import Derived.OpenShut
import Derived.SizedLaws
set_option linter.unusedSimpArgs false
set_option linter.unusedVariables false
namespace Go.Proofs.Ytogndgadipdikaa.calendDrops
open Go.ChangeShapes Go.WideShapes Go.ChangeAt Go.RowKit
open Go.Dm Go.Proofs.Ytogndgadipdikaa.Dm

theorem own : ownKnob Try.prog.godebug = none := by kernel_rfl

noncomputable def sh_uint64 : List Sh := [.leaf (.int .u64)]
def good_uint64 (_ : Hp) (r : Int) : Prop := (IntKind.u64.min ≤ r ∧ r ≤ IntKind.u64.max)
theorem lv_uint64 {hp : Hp} : ∀ cs, OkVs hp sh_uint64 cs → ∃ a : Int, cs = e_uint64.enc a ∧ good_uint64 hp a := by
  rintro cs (_ | ⟨_, _, _, _, ⟨_, _, x0, rfl, y0⟩, (_ | _)⟩)
  exact ⟨x0, rfl, y0⟩
noncomputable def sh_int : List Sh := [.leaf (.int .i64)]
def good_int (_ : Hp) (r : Int) : Prop := (IntKind.i64.min ≤ r ∧ r ≤ IntKind.i64.max)
theorem lv_int {hp : Hp} : ∀ cs, OkVs hp sh_int cs → ∃ a : Int, cs = e_int.enc a ∧ good_int hp a := by
  rintro cs (_ | ⟨_, _, _, _, ⟨_, _, x0, rfl, y0⟩, (_ | _)⟩)
  exact ⟨x0, rfl, y0⟩
theorem shp_suint64 : shapes Try.prog 9 22 = some [.sl sh_uint64 8] := by kernel_rfl
theorem shp_sint : shapes Try.prog 9 34 = some [.sl sh_int 8] := by kernel_rfl

theorem rngU {x : Int} (h : IntKind.u64.min ≤ x ∧ x ≤ IntKind.u64.max) : 0 ≤ x ∧ x < 18446744073709551616 := by
  simp only [IntKind.min, IntKind.max, IntKind.signed, IntKind.bits, Bool.false_eq_true, if_false, Int.reducePow, Int.reduceSub] at h
  omega
theorem rngI {x : Int} (h : IntKind.i64.min ≤ x ∧ x ≤ IntKind.i64.max) : -9223372036854775808 ≤ x ∧ x < 9223372036854775808 := by
  simp only [IntKind.min, IntKind.max, IntKind.signed, IntKind.bits, if_true, Nat.reduceSub, Int.reducePow, Int.reduceSub, Int.reduceNeg] at h
  omega
/-! ### the run -/
set_option maxRecDepth 20000 in
theorem walk {H : Type} {enc : TypeId × Value → H} {W : World} {base : Nat} {v0 v1 v2 : Value} {d0 d1 d2 : DataW H} {p0 p1 p2 : List MemPlace}
    (h0 : DataW.Trod enc Try.prog W 0 (fun _ => true) true 22 v0 d0 p0) (w0 : ∀ n ∈ d0.weights Try.prog 22, n ≤ reachBytes) (o0 : Value.okWide Try.prog W .any base 22 v0)
    (h1 : DataW.Trod enc Try.prog W 0 (fun _ => true) true 34 v1 d1 p1) (w1 : ∀ n ∈ d1.weights Try.prog 34, n ≤ reachBytes) (o1 : Value.okWide Try.prog W .any base 34 v1)
    (h2 : DataW.Trod enc Try.prog W 0 (fun _ => true) true 4 v2 d2 p2) (w2 : ∀ n ∈ d2.weights Try.prog 4, n ≤ reachBytes) (o2 : Value.okWide Try.prog W .any base 4 v2) :
    Calls Try.prog 5 #[v0, v1, v2] W fun e w' => e = .returned (.bool true) ∧ Grown W w' ∧ Below W.heap.size W w' := by
  obtain ⟨a0, n0, c0, rfl⟩ := okSlice Try.underlying22 o0
  obtain ⟨fuel0, f0⟩ := h0
  obtain ⟨φ0, hp0, top0, cs0, O0⟩ := trod_open (own := fun b => W.heap.size ≤ b) 9 22 _ shp_suint64 fuel0 _ _ f0 w0 (fun _ => none) (fun _ => none) 0 (Opened.nil W)
  obtain ⟨u0, rfl, V0, K0⟩ := O0.one
  obtain ⟨a1, n1, c1, rfl⟩ := okSlice Try.underlying34 o1
  obtain ⟨fuel1, f1⟩ := h1
  obtain ⟨φ1, hp1, top1, cs1, O1⟩ := trod_open (own := fun b => W.heap.size ≤ b) 9 34 _ shp_sint fuel1 _ _ f1 w1 φ0 hp0 top0 O0.op
  obtain ⟨u1, rfl, V1, K1⟩ := O1.one
  obtain ⟨x2, rfl⟩ := okBoolV Try.underlying4 o2
  have V0 := V0.mono O1.le
  obtain ⟨l0, S0, g0, z0⟩ := OkV.slT (K0.mono O1.ext) (E := e_uint64) (good := good_uint64 hp1) rfl lv_uint64
  obtain ⟨l1, S1, g1, z1⟩ := OkV.slT K1 (E := e_int) (good := good_int hp1) rfl lv_int
  have hrb : reachBytes ≤ 140737488351232 := by decide
  have CL := O1.op.hr.cl O1.op.top
  have hw := drops_walk hp1 top1 u0 u1 x2 l0 l1 S0 S1 CL (fun x hx => rngU (g0 x hx)) (fun x hx => rngI (g1 x hx))
  refine Calls.mono (hw φ1 _ W [.slice a0 n0 c0, .slice a1 n1 c1, .bool x2] (.cons _ _ _ _ V0 (.cons _ _ _ _ V1 (.cons _ _ _ _ (.bool _) .nil))) O1.op.hr O1.op.top) fun e w' hh => ?_
  obtain ⟨r, hp', top', v', φ', rfl, ⟨rfl, _⟩, Wk⟩ := hh
  have := Wk.v.bool_inv
  subst this
  exact ⟨rfl, Wk.k.grown, ⟨Wk.k.os, Wk.k.tape, Wk.k.output, Wk.k.size, fun b hb => Wk.k.same b hb (by omega)⟩⟩

/-! ### the row -/
theorem laid : laidOutB Try.prog = true := by kernel_rfl
theorem rec4 : Try.prog.readableRec 4 = true := by kernel_rfl
theorem row4 : 4 < Try.prog.types.size := of_decide_eq_true (by kernel_rfl)
theorem rec22 : Try.prog.readableRec 22 = true := by kernel_rfl
theorem row22 : 22 < Try.prog.types.size := of_decide_eq_true (by kernel_rfl)
theorem rec34 : Try.prog.readableRec 34 = true := by kernel_rfl
theorem row34 : 34 < Try.prog.types.size := of_decide_eq_true (by kernel_rfl)

set_option maxRecDepth 100000 in
theorem lifted (os : Os) (started : os.Started) (H : Type) (enc : TypeId × Value → H) :
    ReturnsInHanded {} Try.checked os 5 .any (Rows.calendDropsSpec.pre6 enc Try.prog Try.f5 Rows.calendDropsRow.domain false) (Rows.calendDropsSpec.post enc Try.prog Try.f5 false true false false) := by
  refine returnsInHanded_of_change_sized (C := Try.checked) own started (by kernel_rfl) Try.func5
    (ChangeSpec.witness6 (enc := enc) (C := Try.checked) false ⟨#[], #[.slice none 0 0, .slice none 0 0, .bool false], []⟩ 8 (by kernel_rfl) (by kernel_rfl) (by kernel_rfl) (by kernel_rfl)) ?_
  intro W base args ds gs before hval0 hW hcnd hz0 _
  have hval : ∀ (j : Nat) t v, Try.f5.params[j]? = some t → args[j]? = some v → Value.okWide Try.prog W .any base t v := hval0
  have hz : ∀ (j : Nat) t (d : DataW H), (Try.f5.params.toList ++ Rows.calendDropsSpec.plain.varTypes Try.prog)[j]? = some t → (ds ++ gs)[j]? = some d → ∀ n ∈ d.weights Try.prog t, n ≤ reachBytes :=
    fun j t d ht hd n hn => of_decide_eq_true (List.all_eq_true.1 hz0 n (DataW.weights_mem_each ht hd n hn))
  have hW' := hW
  have hlt := hW.lt
  obtain ⟨p, q, hA0, hV, rfl, hfz, hnd⟩ := hW
  have hA : DataW.TrodAll enc Try.prog W 0 (fun _ => true) true Try.f5.params.toList args.toList ds p := hA0
  rw [Try.params5] at hA hval hz
  obtain ⟨v0, v1, v2, d0, d1, d2, p0, p1, p2, rfl, rfl, rfl, h0, h1, h2⟩ := trodAll_three hA
  obtain ⟨rfl, rfl⟩ := trodVars_none hV
  clear hA0 hval0
  simp only [List.append_nil] at hW' hlt
  refine (walk h0 (hz 0 22 d0 rfl rfl) (hval 0 22 v0 rfl rfl) h1 (hz 1 34 d1 rfl rfl) (hval 1 34 v1 rfl rfl) h2 (hz 2 4 d2 rfl rfl) (hval 2 4 v2 rfl rfl)).mono fun e W' ⟨he, hg, hb⟩ => ?_
  subst he
  refine ⟨_, rfl, post_of_same (pa := (p0 ++ (p1 ++ (p2 ++ [])))) (pv := []) hW' (fun _ _ _ => (trodAll_cons_mk (shut_bool Try.underlying4 _) trodAll_mk0)) (fun sp hsp => ?_) (fun _ _ => rfl) (by simp)
    (hg.frame _) hg.2.1 (ok_one (by kernel_rfl) rfl (okWide_bool_mk Try.underlying4 _))⟩
  exact (trodAll_cons_mk (WideElems.Trod_stays laid rec22 row22 h0 (fun x hx => hb.same (hlt x (by simp [hx]))) (fun x hx => hsp x (by simp [hx]))) (trodAll_cons_mk (WideElems.Trod_stays laid rec34 row34 h1 (fun x hx => hb.same (hlt x (by simp [hx]))) (fun x hx => hsp x (by simp [hx]))) (trodAll_cons_mk (WideElems.Trod_stays laid rec4 row4 h2 (fun x hx => hb.same (hlt x (by simp [hx]))) (fun x hx => hsp x (by simp [hx]))) trodAll_mk0)))

theorem over : Rows.calendDropsRow.holds Try.pinned (OpenSpec.ofChange Rows.calendDropsSpec) :=
  OpenClaim.holds_of_wide 5 Try.f5 rfl rfl rfl rfl rfl rfl rfl ⟨rfl, rfl, rfl, rfl, rfl⟩ rfl rfl rfl rfl rfl (by kernel_rfl) Try.func5 (by kernel_rfl)
    (of_decide_eq_true (by kernel_rfl)) (by unfold Func.isWrapper; first | (rw [if_pos (by decide +kernel)]; kernel_rfl) | (rw [if_neg (by decide +kernel)]; exact ⟨rfl, rfl⟩))
    (fun os started H enc _ => lifted os started H enc)

/-- THE STATEMENT -/
theorem proved : Rows.CalendDropsSaid :=
  over
#print axioms proved
end Go.Proofs.Ytogndgadipdikaa.calendDrops
