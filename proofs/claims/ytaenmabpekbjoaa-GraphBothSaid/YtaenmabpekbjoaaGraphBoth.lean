/- GraphBoth, the row: the records are opened with their neighbours, the walk is run over them, and they read as they did. No condition. -/
import Derived.Test.YtaenmabpekbjoaaRows
import Derived.Test.YtaenmabpekbjoaaGB
import Derived.SizedLaws
import Derived.WalkKit
import Derived.ProofKit
import Derived.OpenShut
set_option linter.unusedSimpArgs false
set_option linter.unusedVariables false
namespace Go.Proofs.Ytaenmabpekbjoaa.graphBoth
open Go.ChangeShapes Go.WideShapes Go.ChangeAt Go.RowKit
open Go.Dm Go.Proofs.Ytaenmabpekbjoaa.Dm

theorem own : ownKnob Try.prog.godebug = none := by kernel_rfl

noncomputable def shAdj : List Sh := [.leaf (.int .i64), .leaf (.int .i64)]
noncomputable def shRec : List Sh := [.leaf (.int .i64), .leaf (.int .u32), .leaf (.int .u32), .leaf (.int .i64), .leaf .bool, .sl shAdj 16]
theorem sh_recs : shapes Try.prog 9 22 = some [.sl shRec 56] := by kernel_rfl
theorem lv_Adj {hp : Hp} : ∀ cs, OkVs hp shAdj cs → ∃ a, cs = e_Adj.enc a ∧ True := by
  rintro cs (_ | ⟨_, _, _, _, ⟨_, _, x0, rfl, _⟩, (_ | ⟨_, _, _, _, ⟨_, _, x1, rfl, _⟩, (_ | _)⟩)⟩)
  exact ⟨⟨x0, x1⟩, rfl, trivial⟩
theorem lv_Rec {hp : Hp} : ∀ cs, OkVs hp shRec cs → ∃ r : T_Record, cs = e_Record.enc r ∧ SlP e_Adj hp r.Adjs.v := by
  rintro cs (_ | ⟨_, _, _, _, ⟨_, _, x0, rfl, _⟩, (_ | ⟨_, _, _, _, ⟨_, _, x1, rfl, _⟩, (_ | ⟨_, _, _, _, ⟨_, _, x2, rfl, _⟩, (_ | ⟨_, _, _, _, ⟨_, _, x3, rfl, _⟩, (_ | ⟨_, _, _, _, ⟨_, _, x4, rfl⟩, (_ | ⟨_, _, v, _, h, (_ | _)⟩)⟩)⟩)⟩)⟩)⟩)
  obtain ⟨l, hl, _⟩ := OkV.slT h (E := e_Adj) (good := fun _ => True) rfl lv_Adj
  exact ⟨⟨x0, x1, x2, x3, x4, refOf v⟩, by rw [en_Record]; simp only [hl.ref], ⟨l, by show SlT e_Adj hp (refOf v).v l; rw [hl.ref]; exact hl⟩⟩
/-! ### the run -/
theorem walk {H : Type} {enc : TypeId × Value → H} {W : World} {base : Nat} {u : Value} {d : DataW H} {p : List MemPlace}
    (h1 : DataW.Trod enc Try.prog W 0 (fun _ => true) true 22 u d p) (hz : ∀ n ∈ d.weights Try.prog 22, n ≤ reachBytes)
    (o1 : Value.okWide Try.prog W .any base 22 u) :
    Calls Try.prog 3 #[u] W fun e w' => e = .returned (.bool true) ∧ Grown W w' ∧ Below W.heap.size W w' := by
  obtain ⟨a, n, c, rfl⟩ := okSlice Try.underlying22 o1
  obtain ⟨fuel, hf⟩ := h1
  obtain ⟨φ1, hp1, top1, cs, O⟩ := trod_open (own := fun b => W.heap.size ≤ b) 9 22 _ sh_recs fuel _ _ hf hz (fun _ => none) (fun _ => none) 0 (Opened.nil W)
  have hvs : Vs φ1 cs [.slice a n c] := O.vs
  have hok := O.ok
  cases hvs with
  | cons u1 _ l _ V1 hl =>
  cases hl
  cases hok with
  | cons _ _ _ _ hk _ =>
  obtain ⟨l, S, hg, hsz⟩ := OkV.slT hk (E := e_Record) (good := fun r => SlP e_Adj hp1 r.Adjs.v) rfl lv_Rec
  have hr := reachBytes_lt
  have hw := graphBoth_walk hp1 top1 u1 l S hg (O.op.hr.cl O.op.top) (roomB_mk (by omega) (by omega))
  refine Calls.mono (hw φ1 _ W [.slice a n c] (.cons _ _ _ _ V1 .nil) O.op.hr O.op.top) fun e w' hh => ?_
  obtain ⟨r, hp', top', v', φ', rfl, ⟨rfl, _⟩, Wk⟩ := hh
  have := Wk.v.bool_inv
  subst this
  exact ⟨rfl, Wk.k.grown, ⟨Wk.k.os, Wk.k.tape, Wk.k.output, Wk.k.size, fun b hb => Wk.k.same b hb (by omega)⟩⟩

/-! ### the row -/
theorem laid : laidOutB Try.prog = true := by kernel_rfl
theorem rec22 : Try.prog.readableRec 22 = true := by kernel_rfl
theorem row22 : 22 < Try.prog.types.size := of_decide_eq_true (by kernel_rfl)

set_option maxRecDepth 100000 in
theorem lifted (os : Os) (started : os.Started) (H : Type) (enc : TypeId × Value → H) :
    ReturnsInHanded {} Try.checked os 3 .any (Rows.graphBothSpec.pre6 enc Try.prog Try.f3 Rows.graphBothRow.domain false) (Rows.graphBothSpec.post enc Try.prog Try.f3 false true false false) := by
  refine returnsInHanded_of_change_sized (C := Try.checked) own started (by kernel_rfl) Try.func3
    (ChangeSpec.witness6 (enc := enc) (C := Try.checked) false ⟨#[], #[.slice none 0 0], []⟩ 8 (by kernel_rfl) (by kernel_rfl) (by kernel_rfl) (by kernel_rfl)) ?_
  intro W base args ds gs before hval0 hW hcnd hz0 _
  have hval : ∀ (j : Nat) t v, Try.f3.params[j]? = some t → args[j]? = some v → Value.okWide Try.prog W .any base t v := hval0
  have hz : ∀ (j : Nat) t (d : DataW H), (Try.f3.params.toList ++ Rows.graphBothSpec.plain.varTypes Try.prog)[j]? = some t → (ds ++ gs)[j]? = some d → ∀ n ∈ d.weights Try.prog t, n ≤ reachBytes :=
    fun j t d ht hd n hn => of_decide_eq_true (List.all_eq_true.1 hz0 n (DataW.weights_mem_each ht hd n hn))
  have hW' := hW
  have hlt := hW.lt
  obtain ⟨p, q, hA0, hV, rfl, hfz, hnd⟩ := hW
  have hA : DataW.TrodAll enc Try.prog W 0 (fun _ => true) true Try.f3.params.toList args.toList ds p := hA0
  rw [Try.params3] at hA hval hz
  obtain ⟨u, d, rfl, rfl, h1⟩ := trodAll_one hA
  obtain ⟨rfl, rfl⟩ := trodVars_none hV
  clear hA0 hval0
  simp only [List.append_nil] at hW' hlt
  refine (walk h1 (hz 0 22 d rfl rfl) (hval 0 22 u rfl rfl)).mono fun e W' ⟨he, hg, hb⟩ => ?_
  subst he
  refine ⟨_, rfl, post_of_same (pa := p ++ []) (pv := []) hW' (fun _ _ _ => (trodAll_cons_mk (shut_bool Try.underlying4 _) trodAll_mk0)) (fun sp hsp => ?_) (fun _ _ => rfl) (by simp)
    (hg.frame _) hg.2.1 (ok_one (by kernel_rfl) rfl (okWide_bool_mk Try.underlying4 _))⟩
  exact trodAll_cons_mk (WideElems.Trod_stays laid rec22 row22 h1 (fun x hx => hb.same (hlt x (by simp [hx]))) (fun x hx => hsp x (by simp [hx]))) trodAll_mk0

theorem over : Rows.graphBothRow.holds Try.pinned (OpenSpec.ofChange Rows.graphBothSpec) :=
  OpenClaim.holds_of_wide 3 Try.f3 rfl rfl rfl rfl rfl rfl rfl ⟨rfl, rfl, rfl, rfl, rfl⟩ rfl rfl rfl rfl rfl (by kernel_rfl) Try.func3 (by kernel_rfl)
    (of_decide_eq_true (by kernel_rfl)) (by unfold Func.isWrapper; first | (rw [if_pos (by decide +kernel)]; kernel_rfl) | (rw [if_neg (by decide +kernel)]; exact ⟨rfl, rfl⟩))
    (fun os started H enc _ => lifted os started H enc)

/-- THE STATEMENT -/
theorem proved : Rows.GraphBothSaid :=
  over
#print axioms proved
end Go.Proofs.Ytaenmabpekbjoaa.graphBoth
