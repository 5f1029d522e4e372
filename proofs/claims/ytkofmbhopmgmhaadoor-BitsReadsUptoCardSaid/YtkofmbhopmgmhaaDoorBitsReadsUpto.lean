/- BitsReads, where what it reads is of bounded bulk, the row: the arguments are opened over the tables, the walk is run over them, and they read as they did. The tables are laid, and tied to the program's text. -/
import Derived.Test.YtkofmbhopmgmhaaDoorRTU
import Derived.Test.YtkofmbhopmgmhaaDoorBPW
import Derived.Test.YtkofmbhopmgmhaaDoorCards
import Derived.Test.YtkofmbhopmgmhaaDoorTie
import Derived.SevenTiedAt
set_option linter.unusedSimpArgs false
set_option linter.unusedVariables false
namespace Go.Proofs.YtkofmbhopmgmhaaDoor.bitsReadsUpto
open Go.ChangeShapes Go.WideShapes Go.ChangeAt Go.RowKit
open Go.Dm Go.Proofs.YtkofmbhopmgmhaaDoor.Dm

theorem own : ownKnob Tryd.prog.godebug = none := by kernel_rfl
/-! ### the run -/
set_option maxRecDepth 20000 in
theorem walk {H : Type} {enc : TypeId × Value → H} {W : World} {base : Nat} {v0 : Value} {d0 : DataW H} {p0 : List MemPlace} (hl : laidMetH Tryd.prog laid7 W)
    (h0 : DataW.Trod enc Tryd.prog W 0 (fun _ => true) true 9 v0 d0 p0) (w0 : ∀ n ∈ d0.weights Tryd.prog 9, n ≤ reachBytes) (o0 : Value.okWide Tryd.prog W .any base 9 v0) (hsh : W.ShapedOpen Tryd.prog) (hb : ∀ s, DataW.lit (.string s) ∈ [d0] → s.length ≤ 1048576) :
    Calls Tryd.prog 9 #[v0] W (GoodEnd W) := by
  obtain ⟨φt, hpt, Ot, t0, t1⟩ := opened_tabs7 hl hsh
  obtain ⟨x0, rfl⟩ := okStrV Tryd.underlying9 o0
  have len0 := hb x0 (by rw [str_bulk Tryd.underlying9 h0]; simp)
  have T0 := t0
  have T1 := t1
  have hw := reads_ok.2 [.string ⟨⟨x0⟩⟩] hpt (⟨by omega, T0, T1⟩) 7
  exact goodEnd (p := fun _ h t => h = hpt ∧ t = 7) hw (.cons _ _ _ _ (.str _) .nil) Ot

/-! ### the row -/
theorem laid : laidOutB Tryd.prog = true := by kernel_rfl
theorem rec9 : Tryd.prog.readableRec 9 = true := by kernel_rfl
theorem row9 : 9 < Tryd.prog.types.size := of_decide_eq_true (by kernel_rfl)

set_option maxRecDepth 100000 in
theorem lifted (os : Os) (started : os.Started) (H : Type) (enc : TypeId × Value → H) (F : Stop.Interp) :
    ReturnsInHanded {} Tryd.checked os 9 .any (fun w args => ((Rows.OpenSpec.upto Rows.bitsReadsSpec).pre enc Tryd.prog Tryd.f9 Rows.bitsReadsUptoRow.domain false w args ∧ laidMetH Tryd.prog laid7 w) ∧ sizedMet enc Tryd.prog Tryd.f9 (Rows.OpenSpec.upto Rows.bitsReadsSpec) false w args)
      (((Rows.OpenSpec.upto Rows.bitsReadsSpec).at F).post enc Tryd.prog Tryd.f9 false true false false) := by
  refine handed_cond (C := Tryd.checked) (s := Rows.OpenSpec.upto Rows.bitsReadsSpec) (k := Rows.uptoSmall) rfl (X := fun w _ => laidMetH Tryd.prog laid7 w) (fun _ _ _ hh h => h.of_heap hh) own started (by kernel_rfl) Tryd.func9
    (witness_cond (enc := enc) (C := Tryd.checked) (s := Rows.OpenSpec.upto Rows.bitsReadsSpec) (k := Rows.uptoSmall) rfl (os := os) (X := fun w _ => laidMetH Tryd.prog laid7 w) false (world7 os) #[.string ⟨#[]⟩] 8 rfl (world7_shaped_call os _) (by kernel_rfl) (x := ([.lit (.string [])], [], [])) (by kernel_rfl) rfl (by kernel_rfl) (by kernel_rfl) (door_met7 os _)) ?_
  intro W base args ds gs before hval0 hW hcnd hk hz0 hL hsh _
  have hval : ∀ (j : Nat) t v, Tryd.f9.params[j]? = some t → args[j]? = some v → Value.okWide Tryd.prog W .any base t v := hval0
  have hz : ∀ (j : Nat) t (d : DataW H), (Tryd.f9.params.toList ++ Rows.bitsReadsSpec.plain.varTypes Tryd.prog)[j]? = some t → (ds ++ gs)[j]? = some d → ∀ n ∈ d.weights Tryd.prog t, n ≤ reachBytes :=
    fun j t d ht hd n hn => of_decide_eq_true (List.all_eq_true.1 hz0 n (DataW.weights_mem_each ht hd n hn))
  have hW' := hW
  have hlt := hW.lt
  obtain ⟨p, q, hA0, hV, rfl, hfz, hnd⟩ := hW
  have hA : DataW.TrodAll enc Tryd.prog W 0 (fun _ => true) true Tryd.f9.params.toList args.toList ds p := hA0
  rw [Tryd.params9] at hA hval hz
  obtain ⟨v0, d0, rfl, rfl, h0⟩ := trodAll_one hA
  obtain ⟨rfl, rfl⟩ := trodVars_none hV
  clear hA0 hval0
  simp only [List.append_nil] at hW' hlt
  refine (walk hL h0 (hz 0 9 d0 rfl rfl) (hval 0 9 v0 rfl rfl) hsh (fun s hm => upto_str hk (by simpa using hm))).mono fun e W' ⟨he, hb⟩ => ?_
  subst he
  refine ⟨_, rfl, post_below (pa := (p ++ [])) (pv := []) hW' (fun _ _ _ => (trodAll_cons_mk (shut_bool Tryd.underlying4 _) trodAll_mk0)) (fun sp hsp => ?_) (fun _ _ => rfl) (by simp)
    (hb.frame _)⟩
  exact (trodAll_cons_mk (WideElems.Trod_stays laid rec9 row9 h0 (fun x hx => hb.same (hlt x (by simp [hx]))) (fun x hx => hsp x (by simp [hx]))) trodAll_mk0)

theorem over : Rows.BitsReadsUptoSaid :=
  OpenClaim.holds_of_cond 9 Tryd.f9 rfl rfl rfl rfl rfl rfl rfl ⟨rfl, rfl, rfl, rfl, rfl⟩ rfl rfl rfl rfl rfl (by kernel_rfl) Tryd.func9 (by kernel_rfl)
    (of_decide_eq_true (by kernel_rfl)) (by unfold Func.isWrapper; first | (rw [if_pos (by decide +kernel)]; kernel_rfl) | (rw [if_neg (by decide +kernel)]; exact ⟨rfl, rfl⟩))
    (fun os started H enc _ F => lifted os started H enc F)

/-- THE STATEMENT -/
theorem proved : Rows.BitsReadsUptoCardSaid :=
  Claim7.holds_tied_plain_at .later [] [.data, .data, .data, .data, .sentinel, .sentinel, .pinned] true (true, "805c12b86418f16954a6b6df79f547d68da7f34861e751233c5e231eeee430b0") true
    over (fun _ h => by cases h) (by kernel_rfl) (fun _ h => by cases h) bitsReadsUpto_row_tie rfl ⟨rfl, rfl⟩ (by kernel_rfl) rfl
    (fun f fn hf hfn => by
      obtain rfl : f = 9 := Option.some.inj ((show Tryd.prog.funcNamed "dandelion/dandelionlaw01.BitsReads" = some 9 by kernel_rfl).symm.trans hf) |>.symm
      obtain rfl : fn = Tryd.f9 := (Option.some.inj (Tryd.func9.symm.trans hfn)).symm
      exact ⟨by kernel_rfl, fun j t ht => by
        rw [Tryd.params9] at ht
        have hm : t ∈ [9] := by simpa using Array.mem_of_getElem? ht
        have hall : ([9].all fun u => !Tryd.prog.wantsStandIn u) = true := by kernel_rfl
        exact (show Tryd.prog.wantsStandIn t = false by simpa using List.all_eq_true.1 hall t hm)⟩)
    (by kernel_rfl)
#print axioms proved
end Go.Proofs.YtkofmbhopmgmhaaDoor.bitsReadsUpto
