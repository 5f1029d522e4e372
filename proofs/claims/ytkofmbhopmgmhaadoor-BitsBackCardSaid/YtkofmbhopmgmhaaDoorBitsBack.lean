/- BitsBack, the row: the arguments are opened over the tables, the walk is run over them, and they read as they did. The tables are laid, and tied to the program's text. -/
import Derived.Test.YtkofmbhopmgmhaaDoorRT7
import Derived.Test.YtkofmbhopmgmhaaDoorBB
import Derived.Test.YtkofmbhopmgmhaaDoorCards
import Derived.Test.YtkofmbhopmgmhaaDoorTie
import Derived.SevenTiedAt
set_option linter.unusedSimpArgs false
set_option linter.unusedVariables false
namespace Go.Proofs.YtkofmbhopmgmhaaDoor.bitsBack
open Go.ChangeShapes Go.WideShapes Go.ChangeAt Go.RowKit
open Go.Dm Go.Proofs.YtkofmbhopmgmhaaDoor.Dm

theorem own : ownKnob Tryd.prog.godebug = none := by kernel_rfl
theorem shp_Bits : shapes Tryd.prog 9 25 = some [.leaf (.int .u64), .leaf (.int .u64), .leaf (.int .u64), .leaf (.int .u64)] := by kernel_rfl
theorem lv_Bits {hp : Hp} : ∀ cs, OkVs hp [.leaf (.int .u64), .leaf (.int .u64), .leaf (.int .u64), .leaf (.int .u64)] cs → ∃ a : T_Bits, cs = bl a ∧ OkB a := by
  rintro cs (_ | ⟨_, _, _, _, ⟨_, _, x0, rfl, y0⟩, (_ | ⟨_, _, _, _, ⟨_, _, x1, rfl, y1⟩, (_ | ⟨_, _, _, _, ⟨_, _, x2, rfl, y2⟩, (_ | ⟨_, _, _, _, ⟨_, _, x3, rfl, y3⟩, (_ | _)⟩)⟩)⟩)⟩)
  have hu : ∀ x : Int, IntKind.u64.min ≤ x ∧ x ≤ IntKind.u64.max → U64 x := by
    intro x ⟨h1, h2⟩
    have e1 : IntKind.u64.min = 0 := by decide
    have e2 : IntKind.u64.max = 18446744073709551615 := by decide
    unfold U64; omega
  exact ⟨⟨x0, x1, x2, x3⟩, rfl, hu _ y0, hu _ y1, hu _ y2, hu _ y3⟩

theorem okArrV {P : Program} {W : World} {base : Nat} {t e : TypeId} {n : Nat} {v : Value} (ht : P.underlying t = some (.array n e)) (hok : Value.okWide P W .any base t v) : ∃ cs, v = .agg ⟨cs⟩ := by
  simp only [Value.okWide, ht] at hok
  obtain ⟨⟨cs⟩, rfl, _⟩ := hok
  exact ⟨cs, rfl⟩

/-! ### the run -/
set_option maxRecDepth 20000 in
theorem walk {H : Type} {enc : TypeId × Value → H} {W : World} {base : Nat} {v0 : Value} {d0 : DataW H} {p0 : List MemPlace} (hl : laidMetH Tryd.prog laid7 W)
    (h0 : DataW.Trod enc Tryd.prog W 0 (fun _ => true) true 25 v0 d0 p0) (w0 : ∀ n ∈ d0.weights Tryd.prog 25, n ≤ reachBytes) (o0 : Value.okWide Tryd.prog W .any base 25 v0) (hsh : W.ShapedOpen Tryd.prog) :
    Calls Tryd.prog 10 #[v0] W (GoodEnd W) := by
  obtain ⟨φt, hpt, Ot, t0, t1⟩ := opened_tabs7 hl hsh
  obtain ⟨r0, rfl⟩ := okArrV Tryd.underlying25 o0
  obtain ⟨fuel0, f0⟩ := h0
  obtain ⟨φ0, hp0, top0, cs0, O0⟩ := trod_open (own := fun b => W.heap.size ≤ b) 9 25 _ shp_Bits fuel0 _ _ f0 w0 φt hpt 7 Ot
  obtain ⟨a0, rfl, ha0⟩ := lv_Bits _ O0.ok
  have T0 := (O0.ext _ _ t0)
  have T1 := (vars_ext O0.ext t1)
  have hw := back_ok.2 [.agg ⟨bl a0⟩] hp0 (⟨⟨a0, rfl, ha0⟩, T0, T1⟩) top0
  exact goodEnd (p := fun _ h t => h = hp0 ∧ t = top0) hw (.cons _ _ _ _ (.agg _ _ O0.vs) .nil) O0.op

/-! ### the row -/
theorem laid : laidOutB Tryd.prog = true := by kernel_rfl
theorem rec25 : Tryd.prog.readableRec 25 = true := by kernel_rfl
theorem row25 : 25 < Tryd.prog.types.size := of_decide_eq_true (by kernel_rfl)

set_option maxRecDepth 100000 in
theorem lifted (os : Os) (started : os.Started) (H : Type) (enc : TypeId × Value → H) :
    ReturnsInHanded {} Tryd.checked os 10 .any (fun w args => (Rows.bitsBackSpec.pre enc Tryd.prog Tryd.f10 Rows.bitsBackRow.domain false w args ∧ laidMetH Tryd.prog laid7 w) ∧ sizedMet enc Tryd.prog Tryd.f10 (OpenSpec.ofChange Rows.bitsBackSpec) false w args)
      (Rows.bitsBackSpec.post enc Tryd.prog Tryd.f10 false true false false) := by
  refine handed_shaped (C := Tryd.checked) (X := fun w _ => laidMetH Tryd.prog laid7 w) (fun _ _ _ hh h => h.of_heap hh) own started (by kernel_rfl) Tryd.func10
    (ChangeSpec.witness_shaped (enc := enc) (C := Tryd.checked) (os := os) (X := fun w _ => laidMetH Tryd.prog laid7 w) false (world7 os) #[.agg #[.int .u64 0, .int .u64 0, .int .u64 0, .int .u64 0]] 8 rfl (world7_shaped_call os _) (by kernel_rfl) (by kernel_rfl) (by kernel_rfl) (door_met7 os _)) ?_
  intro W base args ds gs before hval0 hW hcnd hz0 hL hsh _
  have hval : ∀ (j : Nat) t v, Tryd.f10.params[j]? = some t → args[j]? = some v → Value.okWide Tryd.prog W .any base t v := hval0
  have hz : ∀ (j : Nat) t (d : DataW H), (Tryd.f10.params.toList ++ Rows.bitsBackSpec.plain.varTypes Tryd.prog)[j]? = some t → (ds ++ gs)[j]? = some d → ∀ n ∈ d.weights Tryd.prog t, n ≤ reachBytes :=
    fun j t d ht hd n hn => of_decide_eq_true (List.all_eq_true.1 hz0 n (DataW.weights_mem_each ht hd n hn))
  have hW' := hW
  have hlt := hW.lt
  obtain ⟨p, q, hA0, hV, rfl, hfz, hnd⟩ := hW
  have hA : DataW.TrodAll enc Tryd.prog W 0 (fun _ => true) true Tryd.f10.params.toList args.toList ds p := hA0
  rw [Tryd.params10] at hA hval hz
  obtain ⟨v0, d0, rfl, rfl, h0⟩ := trodAll_one hA
  obtain ⟨rfl, rfl⟩ := trodVars_none hV
  clear hA0 hval0
  simp only [List.append_nil] at hW' hlt
  refine (walk hL h0 (hz 0 25 d0 rfl rfl) (hval 0 25 v0 rfl rfl) hsh).mono fun e W' ⟨he, hb⟩ => ?_
  subst he
  refine ⟨_, rfl, post_below (pa := (p ++ [])) (pv := []) hW' (fun _ _ _ => (trodAll_cons_mk (shut_bool Tryd.underlying4 _) trodAll_mk0)) (fun sp hsp => ?_) (fun _ _ => rfl) (by simp)
    (hb.frame _)⟩
  exact (trodAll_cons_mk (WideElems.Trod_stays laid rec25 row25 h0 (fun x hx => hb.same (hlt x (by simp [hx]))) (fun x hx => hsp x (by simp [hx]))) trodAll_mk0)

theorem over : Rows.BitsBackSaid :=
  OpenClaim.holds_of_wide 10 Tryd.f10 rfl rfl rfl rfl rfl rfl rfl ⟨rfl, rfl, rfl, rfl, rfl⟩ rfl rfl rfl rfl rfl (by kernel_rfl) Tryd.func10 (by kernel_rfl)
    (of_decide_eq_true (by kernel_rfl)) (by unfold Func.isWrapper; first | (rw [if_pos (by decide +kernel)]; kernel_rfl) | (rw [if_neg (by decide +kernel)]; exact ⟨rfl, rfl⟩))
    (fun os started H enc _ => lifted os started H enc)

/-- THE STATEMENT -/
theorem proved : Rows.BitsBackCardSaid :=
  Claim7.holds_tied_plain_at .later [] [.data, .data, .data, .data, .sentinel, .sentinel, .pinned] true (true, "805c12b86418f16954a6b6df79f547d68da7f34861e751233c5e231eeee430b0") true
    over (fun _ h => by cases h) (by kernel_rfl) (fun _ h => by cases h) bitsBack_row_tie rfl ⟨rfl, rfl⟩ (by kernel_rfl) rfl
    (fun f fn hf hfn => by
      obtain rfl : f = 10 := Option.some.inj ((show Tryd.prog.funcNamed "dandelion/dandelionlaw01.BitsBack" = some 10 by kernel_rfl).symm.trans hf) |>.symm
      obtain rfl : fn = Tryd.f10 := (Option.some.inj (Tryd.func10.symm.trans hfn)).symm
      exact ⟨by kernel_rfl, fun j t ht => by
        rw [Tryd.params10] at ht
        have hm : t ∈ [25] := by simpa using Array.mem_of_getElem? ht
        have hall : ([25].all fun u => !Tryd.prog.wantsStandIn u) = true := by kernel_rfl
        exact (show Tryd.prog.wantsStandIn t = false by simpa using List.all_eq_true.1 hall t hm)⟩)
    (by kernel_rfl)
#print axioms proved
end Go.Proofs.YtkofmbhopmgmhaaDoor.bitsBack
