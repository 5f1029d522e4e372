/- TraceLines, the row: the arguments are opened over the tables, the walk is run over them, and they read as they did. The tables are laid, and tied to the program's text. -/
import Derived.Test.YthpibnpeaidabaaDoorRT7
import Derived.Test.YthpibnpeaidabaaDoorTLW
import Derived.Test.YthpibnpeaidabaaDoorCards
import Derived.Test.YthpibnpeaidabaaDoorTie
import Derived.SevenTiedAt
set_option linter.unusedSimpArgs false
set_option linter.unusedVariables false
namespace Go.Proofs.YthpibnpeaidabaaDoor.traceLines
open Go.ChangeShapes Go.WideShapes Go.ChangeAt Go.RowKit
open Go.Dm Go.Proofs.YthpibnpeaidabaaDoor.Dm

theorem own : ownKnob Tryd.prog.godebug = none := by kernel_rfl
theorem shp_Event : shapes Tryd.prog 9 27 = some [.leaf (.int .u64), .leaf (.int .i64), .leaf (.int .i64), .leaf (.int .i64), .leaf (.int .u32), .leaf (.int .i64), .leaf (.int .u64), .leaf (.int .u64), .leaf (.int .u64), .leaf (.int .u64)] := by kernel_rfl
theorem lv_Event {hp : Hp} : ∀ cs, OkVs hp [.leaf (.int .u64), .leaf (.int .i64), .leaf (.int .i64), .leaf (.int .i64), .leaf (.int .u32), .leaf (.int .i64), .leaf (.int .u64), .leaf (.int .u64), .leaf (.int .u64), .leaf (.int .u64)] cs → ∃ a : T_Event, cs = e_Event.enc a ∧ RngE a := by
  rintro cs (_ | ⟨_, _, _, _, ⟨_, _, x0, rfl, y0⟩, (_ | ⟨_, _, _, _, ⟨_, _, x1, rfl, y1⟩, (_ | ⟨_, _, _, _, ⟨_, _, x2, rfl, y2⟩, (_ | ⟨_, _, _, _, ⟨_, _, x3, rfl, y3⟩, (_ | ⟨_, _, _, _, ⟨_, _, x4, rfl, y4⟩, (_ | ⟨_, _, _, _, ⟨_, _, x5, rfl, y5⟩, (_ | ⟨_, _, _, _, ⟨_, _, x6, rfl, y6⟩, (_ | ⟨_, _, _, _, ⟨_, _, x7, rfl, y7⟩, (_ | ⟨_, _, _, _, ⟨_, _, x8, rfl, y8⟩, (_ | ⟨_, _, _, _, ⟨_, _, x9, rfl, y9⟩, (_ | _)⟩)⟩)⟩)⟩)⟩)⟩)⟩)⟩)⟩)⟩)
  have e1 : IntKind.u64.min = 0 := by decide
  have e2 : IntKind.u64.max = 18446744073709551615 := by decide
  have e3 : IntKind.u32.min = 0 := by decide
  have e4 : IntKind.u32.max = 4294967295 := by decide
  rw [e1, e2] at y0 y6 y7 y8 y9
  rw [e3, e4] at y4
  exact ⟨⟨x0, x1, x2, x3, x4, x5, x6, x7, x8, x9⟩, rfl, ⟨y0.1, by show x0 < _; omega, y4.1, by show x4 < _; omega, ⟨⟨y6.1, by show x6 < _; omega⟩, ⟨y7.1, by show x7 < _; omega⟩, ⟨y8.1, by show x8 < _; omega⟩, ⟨y9.1, by show x9 < _; omega⟩⟩⟩⟩

theorem okStrucV {P : Program} {W : World} {base : Nat} {t : TypeId} {fs : Array Field} {v : Value} (ht : P.underlying t = some (.struct fs)) (hok : Value.okWide P W .any base t v) : ∃ cs, v = .agg ⟨cs⟩ := by
  simp only [Value.okWide, ht] at hok
  obtain ⟨⟨cs⟩, rfl, _⟩ := hok
  exact ⟨cs, rfl⟩

/-! ### the run -/
set_option maxRecDepth 20000 in
theorem walk {H : Type} {enc : TypeId × Value → H} {W : World} {base : Nat} {v0 : Value} {d0 : DataW H} {p0 : List MemPlace} (hl : laidMetH Tryd.prog laid7 W)
    (h0 : DataW.Trod enc Tryd.prog W 0 (fun _ => true) true 27 v0 d0 p0) (w0 : ∀ n ∈ d0.weights Tryd.prog 27, n ≤ reachBytes) (o0 : Value.okWide Tryd.prog W .any base 27 v0) (hsh : W.ShapedOpen Tryd.prog) :
    Calls Tryd.prog 3 #[v0] W (GoodEnd W) := by
  obtain ⟨φt, hpt, Ot, t0, t1⟩ := opened_tabs7 hl hsh
  obtain ⟨r0, rfl⟩ := okStrucV Tryd.underlying27 o0
  obtain ⟨fuel0, f0⟩ := h0
  obtain ⟨φ0, hp0, top0, cs0, O0⟩ := trod_open (own := fun b => W.heap.size ≤ b) 9 27 _ shp_Event fuel0 _ _ f0 w0 φt hpt 7 Ot
  obtain ⟨a0, rfl, ha0⟩ := lv_Event _ O0.ok
  have T0 := (O0.ext _ _ t0)
  have T1 := (vars_ext O0.ext t1)
  have hw := lines_ok.2 [.agg ⟨e_Event.enc a0⟩] hp0 (⟨⟨a0, rfl, ha0⟩, T1, T0⟩) top0
  exact goodEnd (p := fun _ h t => h = hp0 ∧ t = top0) hw (.cons _ _ _ _ (.agg _ _ O0.vs) .nil) O0.op

/-! ### the row -/
theorem laid : laidOutB Tryd.prog = true := by kernel_rfl
theorem rec27 : Tryd.prog.readableRec 27 = true := by kernel_rfl
theorem row27 : 27 < Tryd.prog.types.size := of_decide_eq_true (by kernel_rfl)

set_option maxRecDepth 100000 in
theorem lifted (os : Os) (started : os.Started) (H : Type) (enc : TypeId × Value → H) :
    ReturnsInHanded {} Tryd.checked os 3 .any (fun w args => (Rows.traceLinesSpec.pre enc Tryd.prog Tryd.f3 Rows.traceLinesRow.domain false w args ∧ laidMetH Tryd.prog laid7 w) ∧ sizedMet enc Tryd.prog Tryd.f3 (OpenSpec.ofChange Rows.traceLinesSpec) false w args)
      (Rows.traceLinesSpec.post enc Tryd.prog Tryd.f3 false true false false) := by
  refine handed_shaped (C := Tryd.checked) (X := fun w _ => laidMetH Tryd.prog laid7 w) (fun _ _ _ hh h => h.of_heap hh) own started (by kernel_rfl) Tryd.func3
    (ChangeSpec.witness_shaped (enc := enc) (C := Tryd.checked) (os := os) (X := fun w _ => laidMetH Tryd.prog laid7 w) false (world7 os) #[.agg #[.int .u64 0, .int .i64 0, .int .i64 0, .int .i64 0, .int .u32 0, .int .i64 0, .int .u64 0, .int .u64 0, .int .u64 0, .int .u64 0]] 8 rfl (world7_shaped_call os _) (by kernel_rfl) (by kernel_rfl) (by kernel_rfl) (door_met7 os _)) ?_
  intro W base args ds gs before hval0 hW hcnd hz0 hL hsh _
  have hval : ∀ (j : Nat) t v, Tryd.f3.params[j]? = some t → args[j]? = some v → Value.okWide Tryd.prog W .any base t v := hval0
  have hz : ∀ (j : Nat) t (d : DataW H), (Tryd.f3.params.toList ++ Rows.traceLinesSpec.plain.varTypes Tryd.prog)[j]? = some t → (ds ++ gs)[j]? = some d → ∀ n ∈ d.weights Tryd.prog t, n ≤ reachBytes :=
    fun j t d ht hd n hn => of_decide_eq_true (List.all_eq_true.1 hz0 n (DataW.weights_mem_each ht hd n hn))
  have hW' := hW
  have hlt := hW.lt
  obtain ⟨p, q, hA0, hV, rfl, hfz, hnd⟩ := hW
  have hA : DataW.TrodAll enc Tryd.prog W 0 (fun _ => true) true Tryd.f3.params.toList args.toList ds p := hA0
  rw [Tryd.params3] at hA hval hz
  obtain ⟨v0, d0, rfl, rfl, h0⟩ := trodAll_one hA
  obtain ⟨rfl, rfl⟩ := trodVars_none hV
  clear hA0 hval0
  simp only [List.append_nil] at hW' hlt
  refine (walk hL h0 (hz 0 27 d0 rfl rfl) (hval 0 27 v0 rfl rfl) hsh).mono fun e W' ⟨he, hb⟩ => ?_
  subst he
  refine ⟨_, rfl, post_below (pa := (p ++ [])) (pv := []) hW' (fun _ _ _ => (trodAll_cons_mk (shut_bool Tryd.underlying4 _) trodAll_mk0)) (fun sp hsp => ?_) (fun _ _ => rfl) (by simp)
    (hb.frame _)⟩
  exact (trodAll_cons_mk (WideElems.Trod_stays laid rec27 row27 h0 (fun x hx => hb.same (hlt x (by simp [hx]))) (fun x hx => hsp x (by simp [hx]))) trodAll_mk0)

theorem over : Rows.TraceLinesSaid :=
  OpenClaim.holds_of_wide 3 Tryd.f3 rfl rfl rfl rfl rfl rfl rfl ⟨rfl, rfl, rfl, rfl, rfl⟩ rfl rfl rfl rfl rfl (by kernel_rfl) Tryd.func3 (by kernel_rfl)
    (of_decide_eq_true (by kernel_rfl)) (by unfold Func.isWrapper; first | (rw [if_pos (by decide +kernel)]; kernel_rfl) | (rw [if_neg (by decide +kernel)]; exact ⟨rfl, rfl⟩))
    (fun os started H enc _ => lifted os started H enc)

/-- THE STATEMENT -/
theorem proved : Rows.TraceLinesCardSaid :=
  Claim7.holds_tied_plain_at .later [] [.data, .data, .data, .data, .sentinel, .sentinel, .pinned] true (true, "f58b18157efb9ebb19c7608d01cdff1b29b20f7c02ff33a6f98a9e79a996f7fd") true
    over (fun _ h => by cases h) (by kernel_rfl) (fun _ h => by cases h) traceLines_row_tie rfl ⟨rfl, rfl⟩ (by kernel_rfl) rfl
    (fun f fn hf hfn => by
      obtain rfl : f = 3 := Option.some.inj ((show Tryd.prog.funcNamed "dandelion/dandelionlaw26.TraceLines" = some 3 by kernel_rfl).symm.trans hf) |>.symm
      obtain rfl : fn = Tryd.f3 := (Option.some.inj (Tryd.func3.symm.trans hfn)).symm
      exact ⟨by kernel_rfl, fun j t ht => by
        rw [Tryd.params3] at ht
        have hm : t ∈ [27] := by simpa using Array.mem_of_getElem? ht
        have hall : ([27].all fun u => !Tryd.prog.wantsStandIn u) = true := by kernel_rfl
        exact (show Tryd.prog.wantsStandIn t = false by simpa using List.all_eq_true.1 hall t hm)⟩)
    (by kernel_rfl)
#print axioms proved
end Go.Proofs.YthpibnpeaidabaaDoor.traceLines
