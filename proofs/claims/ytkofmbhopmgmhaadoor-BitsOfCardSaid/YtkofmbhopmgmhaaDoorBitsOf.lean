/- BitsOf, the row: the list is opened over the tables, the walk is run over them, and it reads as it did. The tables are laid, and tied to the program's text. -/
import Derived.Test.YtkofmbhopmgmhaaDoorRT
import Derived.Test.YtkofmbhopmgmhaaDoorBO
import Derived.Test.YtkofmbhopmgmhaaDoorCards
import Derived.Test.YtkofmbhopmgmhaaDoorTie
import Derived.SevenTiedAt
set_option linter.unusedSimpArgs false
set_option linter.unusedVariables false
namespace Go.Proofs.YtkofmbhopmgmhaaDoor.bitsOf
open Go.ChangeShapes Go.WideShapes Go.ChangeAt Go.RowKit
open Go.Dm Go.Proofs.YtkofmbhopmgmhaaDoor.Dm

theorem own : ownKnob Tryd.prog.godebug = none := by kernel_rfl
noncomputable def sh_int : List Sh := [.leaf (.int .i64)]
def good_int (_ : Hp) (_ : Int) : Prop := True
theorem lv_int {hp : Hp} : ∀ cs, OkVs hp sh_int cs → ∃ a : Int, cs = e_int.enc a ∧ good_int hp a := by
  rintro cs (_ | ⟨_, _, _, _, ⟨_, _, x0, rfl, _⟩, (_ | _)⟩)
  exact ⟨x0, rfl, trivial⟩
theorem shp_sint : shapes Tryd.prog 9 22 = some [.sl sh_int 8] := by kernel_rfl

/-! ### the run -/
set_option maxRecDepth 20000 in
theorem walk {H : Type} {enc : TypeId × Value → H} {W : World} {base : Nat} {v0 : Value} {d0 : DataW H} {p0 : List MemPlace} (hl : laidMetH Tryd.prog laid3 W)
    (h0 : DataW.Trod enc Tryd.prog W 0 (fun _ => true) true 22 v0 d0 p0) (w0 : ∀ n ∈ d0.weights Tryd.prog 22, n ≤ reachBytes) (o0 : Value.okWide Tryd.prog W .any base 22 v0) :
    Calls Tryd.prog 3 #[v0] W (GoodEnd W) := by
  obtain ⟨φt, hpt, Ot, ht, hp1⟩ := opened_tabs hl
  obtain ⟨a0, n0, c0, rfl⟩ := okSlice Tryd.underlying22 o0
  obtain ⟨fuel0, f0⟩ := h0
  obtain ⟨φ0, hp0, top0, cs0, O0⟩ := trod_open (own := fun b => W.heap.size ≤ b) 9 22 _ shp_sint fuel0 _ _ f0 w0 φt hpt 2 Ot
  obtain ⟨u0, rfl, V0, K0⟩ := O0.one
  obtain ⟨l0, S0, g0, z0⟩ := OkV.slT K0 (E := e_int) (good := good_int hp0) rfl lv_int
  have hrb : reachBytes ≤ 140737488351232 := by decide
  have hw := bitsOf_ok.2 [u0] hp0 ⟨l0, S0, roomB_mk (by omega) (by rw [show ti3.bytes = 8 from rfl]; omega), O0.ext _ _ ht, O0.ext _ _ hp1⟩ top0
  exact goodEnd (p := fun _ h t => h = hp0 ∧ t = top0) hw (.cons _ _ _ _ V0 .nil) O0.op

/-! ### the row -/
theorem laid : laidOutB Tryd.prog = true := by kernel_rfl
theorem rec22 : Tryd.prog.readableRec 22 = true := by kernel_rfl
theorem row22 : 22 < Tryd.prog.types.size := of_decide_eq_true (by kernel_rfl)

set_option maxRecDepth 100000 in
theorem lifted (os : Os) (started : os.Started) (H : Type) (enc : TypeId × Value → H) :
    ReturnsInHanded {} Tryd.checked os 3 .any (fun w args => (Rows.bitsOfSpec.pre enc Tryd.prog Tryd.f3 Rows.bitsOfRow.domain false w args ∧ laidMetH Tryd.prog laid3 w) ∧ sizedMet enc Tryd.prog Tryd.f3 (OpenSpec.ofChange Rows.bitsOfSpec) false w args)
      (Rows.bitsOfSpec.post enc Tryd.prog Tryd.f3 false true false false) := by
  refine returnsInHanded_of_change_and (C := Tryd.checked) (X := fun w _ => laidMetH Tryd.prog laid3 w) (fun _ _ _ hh h => h.of_heap hh) own started (by kernel_rfl) Tryd.func3
    (ChangeSpec.witness_shaped (enc := enc) (C := Tryd.checked) (os := os) (X := fun w _ => laidMetH Tryd.prog laid3 w) false (World.doorLaid Tryd.prog 2000 os) #[.slice none 0 0] 8 rfl (World.shaped_of_RefB (by kernel_rfl) (by kernel_rfl)) (by kernel_rfl) (by kernel_rfl) (by kernel_rfl) (door_met os _)) ?_
  intro W base args ds gs before hval0 hW hcnd hz0 hL _
  have hval : ∀ (j : Nat) t v, Tryd.f3.params[j]? = some t → args[j]? = some v → Value.okWide Tryd.prog W .any base t v := hval0
  have hz : ∀ (j : Nat) t (d : DataW H), (Tryd.f3.params.toList ++ Rows.bitsOfSpec.plain.varTypes Tryd.prog)[j]? = some t → (ds ++ gs)[j]? = some d → ∀ n ∈ d.weights Tryd.prog t, n ≤ reachBytes :=
    fun j t d ht hd n hn => of_decide_eq_true (List.all_eq_true.1 hz0 n (DataW.weights_mem_each ht hd n hn))
  have hW' := hW
  have hlt := hW.lt
  obtain ⟨p, q, hA0, hV, rfl, hfz, hnd⟩ := hW
  have hA : DataW.TrodAll enc Tryd.prog W 0 (fun _ => true) true Tryd.f3.params.toList args.toList ds p := hA0
  rw [Tryd.params3] at hA hval hz
  obtain ⟨v0, d0, rfl, rfl, h0⟩ := trodAll_one hA
  obtain ⟨rfl, rfl⟩ := trodVars_none hV
  clear hA0 hval0
  simp only [List.append_nil] at hW' hlt
  refine (walk hL h0 (hz 0 22 d0 rfl rfl) (hval 0 22 v0 rfl rfl)).mono fun e W' ⟨he, hb⟩ => ?_
  subst he
  refine ⟨_, rfl, post_below (pa := (p ++ [])) (pv := []) hW' (fun _ _ _ => (trodAll_cons_mk (shut_bool Tryd.underlying4 _) trodAll_mk0)) (fun sp hsp => ?_) (fun _ _ => rfl) (by simp)
    (hb.frame _)⟩
  exact (trodAll_cons_mk (WideElems.Trod_stays laid rec22 row22 h0 (fun x hx => hb.same (hlt x (by simp [hx]))) (fun x hx => hsp x (by simp [hx]))) trodAll_mk0)

theorem over : Rows.BitsOfSaid :=
  OpenClaim.holds_of_wide 3 Tryd.f3 rfl rfl rfl rfl rfl rfl rfl ⟨rfl, rfl, rfl, rfl, rfl⟩ rfl rfl rfl rfl rfl (by kernel_rfl) Tryd.func3 (by kernel_rfl)
    (of_decide_eq_true (by kernel_rfl)) (by unfold Func.isWrapper; first | (rw [if_pos (by decide +kernel)]; kernel_rfl) | (rw [if_neg (by decide +kernel)]; exact ⟨rfl, rfl⟩))
    (fun os started H enc _ => lifted os started H enc)

/-- THE STATEMENT -/
theorem proved : Rows.BitsOfCardSaid :=
  Claim7.holds_tied_plain_at .later [] [.data, .data, .data] true (true, "805c12b86418f16954a6b6df79f547d68da7f34861e751233c5e231eeee430b0") true
    over (fun _ h => by cases h) (by kernel_rfl) (fun _ h => by cases h) bitsOf_row_tie rfl ⟨rfl, rfl⟩ (by kernel_rfl) rfl
    (fun f fn hf hfn => by
      obtain rfl : f = 3 := Option.some.inj ((show Tryd.prog.funcNamed "dandelion/dandelionlaw01.BitsOf" = some 3 by kernel_rfl).symm.trans hf) |>.symm
      obtain rfl : fn = Tryd.f3 := (Option.some.inj (Tryd.func3.symm.trans hfn)).symm
      exact ⟨by kernel_rfl, fun j t ht => by
        rw [Tryd.params3] at ht
        have hm : t ∈ [22] := by simpa using Array.mem_of_getElem? ht
        have hall : ([22].all fun u => !Tryd.prog.wantsStandIn u) = true := by kernel_rfl
        exact (show Tryd.prog.wantsStandIn t = false by simpa using List.all_eq_true.1 hall t hm)⟩)
    (by kernel_rfl)
#print axioms proved
end Go.Proofs.YtkofmbhopmgmhaaDoor.bitsOf
