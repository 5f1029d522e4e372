/- NetCounts, the row: the arguments are opened, the walk is run over them, and they read as they did. No condition. -/
import Derived.Test.YtmppehipfpkepaaRows
import Derived.Test.YtmppehipfpkepaaNR
import Derived.Test.YtmppehipfpkepaaNCW
import Derived.WalkKit
import Derived.ProofKit
import Derived.OpenShut
import Derived.SizedLaws
set_option linter.unusedSimpArgs false
set_option linter.unusedVariables false
namespace Go.Proofs.Ytmppehipfpkepaa.netCounts
open Go.ChangeShapes Go.WideShapes Go.ChangeAt Go.RowKit
open Go.Dm Go.Proofs.Ytmppehipfpkepaa.Dm
theorem own : ownKnob Try.prog.godebug = none := by kernel_rfl
noncomputable def sh_Rule : List Sh := [.leaf (.int .i64), .leaf (.int .i64), .leaf (.int .i64), .leaf (.int .i64), .leaf (.int .i64)]
def good_Rule (_ : Hp) (r : T_Rule) : Prop := (IntKind.i64.min ≤ r.From ∧ r.From ≤ IntKind.i64.max) ∧ (IntKind.i64.min ≤ r.To ∧ r.To ≤ IntKind.i64.max) ∧ (IntKind.i64.min ≤ r.Nth ∧ r.Nth ≤ IntKind.i64.max) ∧ (IntKind.i64.min ≤ r.Kind ∧ r.Kind ≤ IntKind.i64.max) ∧ (IntKind.i64.min ≤ r.By ∧ r.By ≤ IntKind.i64.max)
theorem lv_Rule {hp : Hp} : ∀ cs, OkVs hp sh_Rule cs → ∃ a : T_Rule, cs = e_Rule.enc a ∧ good_Rule hp a := by
  rintro cs (_ | ⟨_, _, _, _, ⟨_, _, x0, rfl, y0⟩, (_ | ⟨_, _, _, _, ⟨_, _, x1, rfl, y1⟩, (_ | ⟨_, _, _, _, ⟨_, _, x2, rfl, y2⟩, (_ | ⟨_, _, _, _, ⟨_, _, x3, rfl, y3⟩, (_ | ⟨_, _, _, _, ⟨_, _, x4, rfl, y4⟩, (_ | _)⟩)⟩)⟩)⟩)⟩)
  exact ⟨⟨x0, x1, x2, x3, x4⟩, rfl, y0, y1, y2, y3, y4⟩
noncomputable def sh_uint8 : List Sh := [.leaf (.int .u8)]
def good_uint8 (_ : Hp) (r : Int) : Prop := (IntKind.u8.min ≤ r ∧ r ≤ IntKind.u8.max)
theorem lv_uint8 {hp : Hp} : ∀ cs, OkVs hp sh_uint8 cs → ∃ a : Int, cs = e_uint8.enc a ∧ good_uint8 hp a := by
  rintro cs (_ | ⟨_, _, _, _, ⟨_, _, x0, rfl, y0⟩, (_ | _)⟩)
  exact ⟨x0, rfl, y0⟩
theorem shp_suint8 : shapes Try.prog 9 22 = some [.sl sh_uint8 1] := by kernel_rfl
theorem shp_sRule : shapes Try.prog 9 39 = some [.sl sh_Rule 40] := by kernel_rfl
/-! ### the run -/
set_option maxRecDepth 20000 in
theorem walk {H : Type} {enc : TypeId × Value → H} {W : World} {base : Nat} {v0 v1 v2 : Value} {d0 d1 d2 : DataW H} {p0 p1 p2 : List MemPlace}
    (h0 : DataW.Trod enc Try.prog W 0 (fun _ => true) true 39 v0 d0 p0) (w0 : ∀ n ∈ d0.weights Try.prog 39, n ≤ reachBytes) (o0 : Value.okWide Try.prog W .any base 39 v0)
    (h1 : DataW.Trod enc Try.prog W 0 (fun _ => true) true 22 v1 d1 p1) (w1 : ∀ n ∈ d1.weights Try.prog 22, n ≤ reachBytes) (o1 : Value.okWide Try.prog W .any base 22 v1)
    (h2 : DataW.Trod enc Try.prog W 0 (fun _ => true) true 3 v2 d2 p2) (w2 : ∀ n ∈ d2.weights Try.prog 3, n ≤ reachBytes) (o2 : Value.okWide Try.prog W .any base 3 v2) :
    Calls Try.prog 4 #[v0, v1, v2] W (GoodEnd W) := by
  obtain ⟨a0, n0, c0, rfl⟩ := okSlice Try.underlying39 o0
  obtain ⟨fuel0, f0⟩ := h0
  obtain ⟨φ0, hp0, top0, cs0, O0⟩ := trod_open (own := fun b => W.heap.size ≤ b) 9 39 _ shp_sRule fuel0 _ _ f0 w0 (fun _ => none) (fun _ => none) 0 (Opened.nil W)
  obtain ⟨u0, rfl, V0, K0⟩ := O0.one
  obtain ⟨a1, n1, c1, rfl⟩ := okSlice Try.underlying22 o1
  obtain ⟨fuel1, f1⟩ := h1
  obtain ⟨φ1, hp1, top1, cs1, O1⟩ := trod_open (own := fun b => W.heap.size ≤ b) 9 22 _ shp_suint8 fuel1 _ _ f1 w1 φ0 hp0 top0 O0.op
  obtain ⟨u1, rfl, V1, K1⟩ := O1.one
  obtain ⟨x2, rfl, lo2, hi2⟩ := okIntV (k := .i64) Try.underlying3 o2
  have V0 := V0.mono O1.le
  obtain ⟨l0, S0, g0, z0⟩ := OkV.slT (K0.mono O1.ext) (E := e_Rule) (good := good_Rule hp1) rfl lv_Rule
  obtain ⟨l1, S1, g1, z1⟩ := OkV.slT K1 (E := e_uint8) (good := good_uint8 hp1) rfl lv_uint8
  have hrb : reachBytes ≤ 140737488351232 := by decide
  have CL := O1.op.hr.cl O1.op.top
  have hw := counts_ok.2 [u0, u1, .int .i64 x2] hp1 ⟨⟨l0, S0⟩, l1, S1, by omega, g1⟩ top1
  exact goodEnd hw (.cons _ _ _ _ V0 (.cons _ _ _ _ V1 (.cons _ _ _ _ (.int _ _) .nil))) O1.op
/-! ### the row -/
theorem laid : laidOutB Try.prog = true := by kernel_rfl
theorem rec3 : Try.prog.readableRec 3 = true := by kernel_rfl
theorem row3 : 3 < Try.prog.types.size := of_decide_eq_true (by kernel_rfl)
theorem rec22 : Try.prog.readableRec 22 = true := by kernel_rfl
theorem row22 : 22 < Try.prog.types.size := of_decide_eq_true (by kernel_rfl)
theorem rec39 : Try.prog.readableRec 39 = true := by kernel_rfl
theorem row39 : 39 < Try.prog.types.size := of_decide_eq_true (by kernel_rfl)
set_option maxRecDepth 100000 in
theorem lifted (os : Os) (started : os.Started) (H : Type) (enc : TypeId × Value → H) :
    ReturnsInHanded {} Try.checked os 4 .any (Rows.netCountsSpec.pre6 enc Try.prog Try.f4 Rows.netCountsRow.domain false) (Rows.netCountsSpec.post enc Try.prog Try.f4 false true false false) := by
  refine returnsInHanded_of_change_sized (C := Try.checked) own started (by kernel_rfl) Try.func4
    (ChangeSpec.witness6 (enc := enc) (C := Try.checked) false ⟨#[], #[.slice none 0 0, .slice none 0 0, .int .i64 0], []⟩ 8 (by kernel_rfl) (by kernel_rfl) (by kernel_rfl) (by kernel_rfl)) ?_
  intro W base args ds gs before hval0 hW hcnd hz0 _
  have hval : ∀ (j : Nat) t v, Try.f4.params[j]? = some t → args[j]? = some v → Value.okWide Try.prog W .any base t v := hval0
  have hz : ∀ (j : Nat) t (d : DataW H), (Try.f4.params.toList ++ Rows.netCountsSpec.plain.varTypes Try.prog)[j]? = some t → (ds ++ gs)[j]? = some d → ∀ n ∈ d.weights Try.prog t, n ≤ reachBytes :=
    fun j t d ht hd n hn => of_decide_eq_true (List.all_eq_true.1 hz0 n (DataW.weights_mem_each ht hd n hn))
  have hW' := hW
  have hlt := hW.lt
  obtain ⟨p, q, hA0, hV, rfl, hfz, hnd⟩ := hW
  have hA : DataW.TrodAll enc Try.prog W 0 (fun _ => true) true Try.f4.params.toList args.toList ds p := hA0
  rw [Try.params4] at hA hval hz
  obtain ⟨v0, v1, v2, d0, d1, d2, p0, p1, p2, rfl, rfl, rfl, h0, h1, h2⟩ := trodAll_three hA
  obtain ⟨rfl, rfl⟩ := trodVars_none hV
  clear hA0 hval0
  simp only [List.append_nil] at hW' hlt
  refine (walk h0 (hz 0 39 d0 rfl rfl) (hval 0 39 v0 rfl rfl) h1 (hz 1 22 d1 rfl rfl) (hval 1 22 v1 rfl rfl) h2 (hz 2 3 d2 rfl rfl) (hval 2 3 v2 rfl rfl)).mono fun e W' ⟨he, hb⟩ => ?_
  subst he
  refine ⟨_, rfl, post_below (pa := (p0 ++ (p1 ++ (p2 ++ [])))) (pv := []) hW' (fun _ _ _ => (trodAll_cons_mk (shut_bool Try.underlying4 _) trodAll_mk0)) (fun sp hsp => ?_) (fun _ _ => rfl) (by simp)
    (hb.frame _)⟩
  exact (trodAll_cons_mk (WideElems.Trod_stays laid rec39 row39 h0 (fun x hx => hb.same (hlt x (by simp [hx]))) (fun x hx => hsp x (by simp [hx]))) (trodAll_cons_mk (WideElems.Trod_stays laid rec22 row22 h1 (fun x hx => hb.same (hlt x (by simp [hx]))) (fun x hx => hsp x (by simp [hx]))) (trodAll_cons_mk (WideElems.Trod_stays laid rec3 row3 h2 (fun x hx => hb.same (hlt x (by simp [hx]))) (fun x hx => hsp x (by simp [hx]))) trodAll_mk0)))
theorem over : Rows.netCountsRow.holds Try.pinned (OpenSpec.ofChange Rows.netCountsSpec) :=
  OpenClaim.holds_of_wide 4 Try.f4 rfl rfl rfl rfl rfl rfl rfl ⟨rfl, rfl, rfl, rfl, rfl⟩ rfl rfl rfl rfl rfl (by kernel_rfl) Try.func4 (by kernel_rfl)
    (of_decide_eq_true (by kernel_rfl)) (by unfold Func.isWrapper; first | (rw [if_pos (by decide +kernel)]; kernel_rfl) | (rw [if_neg (by decide +kernel)]; exact ⟨rfl, rfl⟩))
    (fun os started H enc _ => lifted os started H enc)
/-- THE STATEMENT -/
theorem proved : Rows.NetCountsSaid :=
  over
#print axioms proved
end Go.Proofs.Ytmppehipfpkepaa.netCounts
