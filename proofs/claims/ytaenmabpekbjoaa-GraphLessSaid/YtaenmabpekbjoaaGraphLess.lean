/- GraphLess, the row: the records are opened with their neighbours, the walk is run over them, and they read as they did. No condition. -/
import Derived.Test.YtaenmabpekbjoaaRows
import Derived.Test.YtaenmabpekbjoaaGL
import Derived.WalkKit
import Derived.ProofKit
import Derived.OpenShut
set_option linter.unusedSimpArgs false
set_option linter.unusedVariables false
namespace Go.Proofs.Ytaenmabpekbjoaa.graphLess
open Go.ChangeShapes Go.WideShapes Go.ChangeAt Go.RowKit
open Go.Dm Go.Proofs.Ytaenmabpekbjoaa.Dm

theorem own : ownKnob Try.prog.godebug = none := by kernel_rfl

noncomputable def shAdj : List Sh := [.leaf (.int .i64), .leaf (.int .i64)]
noncomputable def shRec : List Sh := [.leaf (.int .i64), .leaf (.int .u32), .leaf (.int .u32), .leaf (.int .i64), .leaf .bool, .sl shAdj]
theorem sh_recs : shapes Try.prog 9 22 = some [.sl shRec] := by kernel_rfl
theorem sh_int : shapes Try.prog 9 3 = some [.leaf (.int .i64)] := by kernel_rfl
theorem lv_Adj {hp : Hp} : ∀ cs, OkVs hp shAdj cs → ∃ a, cs = e_Adj.enc a ∧ True := by
  rintro cs (_ | ⟨_, _, _, _, ⟨_, _, x0, rfl, _⟩, (_ | ⟨_, _, _, _, ⟨_, _, x1, rfl, _⟩, (_ | _)⟩)⟩)
  exact ⟨⟨x0, x1⟩, rfl, trivial⟩
theorem lv_Rec {hp : Hp} : ∀ cs, OkVs hp shRec cs → ∃ r : T_Record, cs = e_Record.enc r ∧ SlP e_Adj hp r.Adjs.v := by
  rintro cs (_ | ⟨_, _, _, _, ⟨_, _, x0, rfl, _⟩, (_ | ⟨_, _, _, _, ⟨_, _, x1, rfl, _⟩, (_ | ⟨_, _, _, _, ⟨_, _, x2, rfl, _⟩, (_ | ⟨_, _, _, _, ⟨_, _, x3, rfl, _⟩, (_ | ⟨_, _, _, _, ⟨_, _, x4, rfl⟩, (_ | ⟨_, _, v, _, h, (_ | _)⟩)⟩)⟩)⟩)⟩)⟩)
  obtain ⟨l, hl, _⟩ := OkV.slT h (E := e_Adj) (good := fun _ => True) rfl lv_Adj
  exact ⟨⟨x0, x1, x2, x3, x4, refOf v⟩, by rw [en_Record]; simp only [hl.ref], ⟨l, by show SlT e_Adj hp (refOf v).v l; rw [hl.ref]; exact hl⟩⟩
theorem okInt {W : World} {base : Nat} {v : Value} (hok : Value.okWide Try.prog W .any base 3 v) : ∃ n, v = .int .i64 n := by
  simp only [Value.okWide, Try.underlying3, Cell.okWide, Cell.ok] at hok
  cases v with
  | int k n => obtain ⟨rfl, _⟩ := hok; exact ⟨n, rfl⟩
  | _ => exact hok.elim

/-! ### the run -/
theorem walk {H : Type} {enc : TypeId × Value → H} {W : World} {base : Nat} {u v v' : Value} {d : DataW H} {p : List MemPlace}
    (h1 : DataW.Trod enc Try.prog W 0 (fun _ => true) true 22 u d p)
    (o1 : Value.okWide Try.prog W .any base 22 u) (o2 : Value.okWide Try.prog W .any base 3 v) (o3 : Value.okWide Try.prog W .any base 3 v') :
    Calls Try.prog 4 #[u, v, v'] W fun e w' => e = .returned (.bool true) ∧ Grown W w' ∧ Below W.heap.size W w' := by
  obtain ⟨x, rfl⟩ := okInt o2
  obtain ⟨y, rfl⟩ := okInt o3
  obtain ⟨a, n, c, rfl⟩ := okSlice Try.underlying22 o1
  obtain ⟨fuel, hf⟩ := h1
  obtain ⟨φ1, hp1, top1, cs, O⟩ := trod_open (own := fun b => W.heap.size ≤ b) 9 22 _ sh_recs fuel _ _ hf (fun _ => none) (fun _ => none) 0 (Opened.nil W)
  have hvs : Vs φ1 cs [.slice a n c] := O.vs
  have hok := O.ok
  cases hvs with
  | cons u1 _ l _ V1 hl =>
  cases hl
  cases hok with
  | cons _ _ _ _ hk _ =>
  obtain ⟨l, S, hg⟩ := OkV.slT hk (E := e_Record) (good := fun r => SlP e_Adj hp1 r.Adjs.v) rfl lv_Rec
  have hw := less_walk hp1 top1 u1 x y l S hg (O.op.hr.cl O.op.top)
  refine Calls.mono (hw φ1 _ W [.slice a n c, .int .i64 x, .int .i64 y] (.cons _ _ _ _ V1 (.cons _ _ _ _ (.int _ _) (.cons _ _ _ _ (.int _ _) .nil))) O.op.hr O.op.top) fun e w' hh => ?_
  obtain ⟨r, hp', top', v', φ', rfl, ⟨rfl, _⟩, Wk⟩ := hh
  have := Wk.v.bool_inv
  subst this
  exact ⟨rfl, Wk.k.grown, ⟨Wk.k.os, Wk.k.tape, Wk.k.output, Wk.k.size, fun b hb => Wk.k.same b hb (by omega)⟩⟩

/-! ### the row -/
theorem laid : laidOutB Try.prog = true := by kernel_rfl
theorem rec22 : Try.prog.readableRec 22 = true := by kernel_rfl
theorem rec3 : Try.prog.readableRec 3 = true := by kernel_rfl
theorem row22 : 22 < Try.prog.types.size := of_decide_eq_true (by kernel_rfl)
theorem row3 : 3 < Try.prog.types.size := of_decide_eq_true (by kernel_rfl)

set_option maxRecDepth 100000 in
theorem lifted (os : Os) (started : os.Started) (H : Type) (enc : TypeId × Value → H) :
    ReturnsInHanded {} Try.checked os 4 .any (Rows.graphLessSpec.pre6 enc Try.prog Try.f4 Rows.graphLessRow.domain false) (Rows.graphLessSpec.post enc Try.prog Try.f4 false true false false) := by
  refine returnsInHanded_of_change (C := Try.checked) own started (by kernel_rfl) Try.func4
    (ChangeSpec.witness6 (enc := enc) (C := Try.checked) false ⟨#[], #[.slice none 0 0, .int .i64 0, .int .i64 0], []⟩ 8 (by kernel_rfl) (by kernel_rfl) (by kernel_rfl) (by kernel_rfl)) ?_
  intro W base args ds gs before hval0 hW hcnd _
  have hval : ∀ (j : Nat) t v, Try.f4.params[j]? = some t → args[j]? = some v → Value.okWide Try.prog W .any base t v := hval0
  have hW' := hW
  have hlt := hW.lt
  obtain ⟨p, q, hA0, hV, rfl, hfz, hnd⟩ := hW
  have hA : DataW.TrodAll enc Try.prog W 0 (fun _ => true) true Try.f4.params.toList args.toList ds p := hA0
  rw [Try.params4] at hA hval
  obtain ⟨u, v, w, d, d', d'', pu, pv, pw, rfl, rfl, rfl, h1, h2, h3⟩ := trodAll_three hA
  obtain ⟨rfl, rfl⟩ := trodVars_none hV
  clear hA0 hval0
  simp only [List.append_nil] at hW' hlt
  refine (walk h1 (hval 0 22 u rfl rfl) (hval 1 3 v rfl rfl) (hval 2 3 w rfl rfl)).mono fun e W' ⟨he, hg, hb⟩ => ?_
  subst he
  refine ⟨_, rfl, post_of_same (pa := pu ++ (pv ++ (pw ++ []))) (pv := []) hW' (fun _ _ _ => (trodAll_cons_mk (shut_bool Try.underlying4 _) trodAll_mk0)) (fun sp hsp => ?_) (fun _ _ => rfl) (by simp)
    (hg.frame _) hg.2.1 (ok_one (by kernel_rfl) rfl (okWide_bool_mk Try.underlying4 _))⟩
  exact trodAll_cons_mk (WideElems.Trod_stays laid rec22 row22 h1 (fun x hx => hb.same (hlt x (by simp [hx]))) (fun x hx => hsp x (by simp [hx])))
    (trodAll_cons_mk (WideElems.Trod_stays laid rec3 row3 h2 (fun x hx => hb.same (hlt x (by simp [hx]))) (fun x hx => hsp x (by simp [hx])))
      (trodAll_cons_mk (WideElems.Trod_stays laid rec3 row3 h3 (fun x hx => hb.same (hlt x (by simp [hx]))) (fun x hx => hsp x (by simp [hx]))) trodAll_mk0))

theorem over : Rows.graphLessRow.holds Try.pinned (OpenSpec.ofChange Rows.graphLessSpec) :=
  OpenClaim.holds_of_wide 4 Try.f4 rfl rfl rfl rfl rfl rfl rfl ⟨rfl, rfl, rfl, rfl, rfl⟩ rfl rfl rfl rfl rfl (by kernel_rfl) Try.func4 (by kernel_rfl)
    (of_decide_eq_true (by kernel_rfl)) (by unfold Func.isWrapper; first | (rw [if_pos (by decide +kernel)]; kernel_rfl) | (rw [if_neg (by decide +kernel)]; exact ⟨rfl, rfl⟩))
    (fun os started H enc _ => lifted os started H enc)

/-- THE STATEMENT -/
theorem proved : Rows.GraphLessSaid :=
  over
#print axioms proved
end Go.Proofs.Ytaenmabpekbjoaa.graphLess
