/- TraceReads, where what it reads is of bounded bulk, the row: the arguments are opened over the tables, the walk is run over them, and they read as they did. The tables are laid, and tied to the program's text. -/
import Derived.Test.YthpibnpeaidabaaGreatDoorRT8
import Derived.Test.YthpibnpeaidabaaGreatDoorRTU
import Derived.Test.YthpibnpeaidabaaGreatDoorTRDW
import Derived.Test.YthpibnpeaidabaaGreatDoorCards
import Derived.Test.YthpibnpeaidabaaGreatDoorTie
import Derived.SevenTiedAt
set_option linter.unusedVariables false
namespace Go.Proofs.YthpibnpeaidabaaGreatDoor.traceReadsUpto
open Go.ChangeShapes Go.WideShapes Go.ChangeAt Go.RowKit
open Go.Dm Go.Proofs.YthpibnpeaidabaaGreatDoor.Dm
theorem own : ownKnob Tryz.prog.godebug = none := by kernel_rfl
/-! ### the run -/
set_option maxRecDepth 20000 in
theorem walk {H : Type} {enc : TypeId × Value → H} {W : World} {base : Nat} {v0 : Value} {d0 : DataW H} {p0 : List MemPlace} (hl : laidMetH Tryz.prog laid8 W)
    (h0 : DataW.Trod enc Tryz.prog W 0 (fun _ => true) true 9 v0 d0 p0) (w0 : ∀ n ∈ d0.weights Tryz.prog 9, n ≤ reachBytes) (o0 : Value.okWide Tryz.prog W .any base 9 v0) (hsh : W.ShapedOpen Tryz.prog) (hb : ∀ s, DataW.lit (.string s) ∈ [d0] → s.length ≤ 1048576) (hq : ∀ d ∈ [d0], Rows.uptoBulk d ≤ 1048576) :
    Calls Tryz.prog 5 #[v0] W (GoodEnd W) := by
  obtain ⟨φt, hpt, Ot, t0, t1, t2⟩ := opened_tabs8 hl hsh
  obtain ⟨x0, rfl⟩ := okStrV Tryz.underlying9 o0
  have len0 := hb x0 (by rw [str_bulk Tryz.underlying9 h0]; simp)
  have T0 := t0
  have T1 := t1
  have T2 := t2
  have hw := reads2_ok.2 [.string ⟨⟨x0⟩⟩] hpt (⟨len0, T1, T0, T2⟩) 8
  exact goodEnd (p := fun _ h t => h = hpt ∧ t = 8) hw (.cons _ _ _ _ (.str _) .nil) Ot
/-! ### the row -/
theorem laid : laidOutB Tryz.prog = true := by kernel_rfl
theorem rec9 : Tryz.prog.readableRec 9 = true := by kernel_rfl
theorem row9 : 9 < Tryz.prog.types.size := of_decide_eq_true (by kernel_rfl)
set_option maxRecDepth 100000 in
theorem lifted (os : Os) (started : os.Started) (H : Type) (enc : TypeId × Value → H) (F : Stop.Interp) :
    ReturnsInHanded {} Tryz.checked os 5 .any (fun w args => ((Rows.OpenSpec.upto Rows.traceReadsSpec).pre enc Tryz.prog Tryz.f5 Rows.traceReadsUptoRow.domain false w args ∧ laidMetH Tryz.prog laid8 w) ∧ sizedMet enc Tryz.prog Tryz.f5 (Rows.OpenSpec.upto Rows.traceReadsSpec) false w args)
      (((Rows.OpenSpec.upto Rows.traceReadsSpec).at F).post enc Tryz.prog Tryz.f5 false true false false) := by
  refine handed_cond (C := Tryz.checked) (s := Rows.OpenSpec.upto Rows.traceReadsSpec) (k := Rows.uptoSmall) rfl (X := fun w _ => laidMetH Tryz.prog laid8 w) (fun _ _ _ hh h => h.of_heap hh) own started (by kernel_rfl) Tryz.func5
    (witness_cond (enc := enc) (C := Tryz.checked) (s := Rows.OpenSpec.upto Rows.traceReadsSpec) (k := Rows.uptoSmall) rfl (os := os) (X := fun w _ => laidMetH Tryz.prog laid8 w) false (world7 os) #[.string ⟨#[]⟩] 8 rfl (world7_shaped_call os _) (by kernel_rfl) (x := ([.lit (.string [])], [], [])) (by kernel_rfl) rfl (by kernel_rfl) (by kernel_rfl) (door_met8 os _)) ?_
  intro W base args ds gs before hval0 hW hcnd hk hz0 hL hsh _
  have hval : ∀ (j : Nat) t v, Tryz.f5.params[j]? = some t → args[j]? = some v → Value.okWide Tryz.prog W .any base t v := hval0
  have hz : ∀ (j : Nat) t (d : DataW H), (Tryz.f5.params.toList ++ Rows.traceReadsSpec.plain.varTypes Tryz.prog)[j]? = some t → (ds ++ gs)[j]? = some d → ∀ n ∈ d.weights Tryz.prog t, n ≤ reachBytes :=
    fun j t d ht hd n hn => of_decide_eq_true (List.all_eq_true.1 hz0 n (DataW.weights_mem_each ht hd n hn))
  have hW' := hW
  have hlt := hW.lt
  obtain ⟨p, q, hA0, hV, rfl, hfz, hnd⟩ := hW
  have hA : DataW.TrodAll enc Tryz.prog W 0 (fun _ => true) true Tryz.f5.params.toList args.toList ds p := hA0
  rw [Tryz.params5] at hA hval hz
  obtain ⟨v0, d0, rfl, rfl, h0⟩ := trodAll_one hA
  obtain ⟨rfl, rfl⟩ := trodVars_none hV
  clear hA0 hval0
  simp only [List.append_nil] at hW' hlt
  refine (walk hL h0 (hz 0 9 d0 rfl rfl) (hval 0 9 v0 rfl rfl) hsh (fun s hm => upto_str hk (by simpa using hm)) (fun d hm => upto_sl hk (by simpa using hm))).mono fun e W' ⟨he, hb⟩ => ?_
  subst he
  refine ⟨_, rfl, post_below (pa := (p ++ [])) (pv := []) hW' (fun _ _ _ => (trodAll_cons_mk (shut_bool Tryz.underlying4 _) trodAll_mk0)) (fun sp hsp => ?_) (fun _ _ => rfl) (by simp)
    (hb.frame _)⟩
  exact (trodAll_cons_mk (WideElems.Trod_stays laid rec9 row9 h0 (fun x hx => hb.same (hlt x (by simp [hx]))) (fun x hx => hsp x (by simp [hx]))) trodAll_mk0)
theorem over : Rows.TraceReadsUptoSaid :=
  OpenClaim.holds_of_cond 5 Tryz.f5 rfl rfl rfl rfl rfl rfl rfl ⟨rfl, rfl, rfl, rfl, rfl⟩ rfl rfl rfl rfl rfl (by kernel_rfl) Tryz.func5 (by kernel_rfl)
    (of_decide_eq_true (by kernel_rfl)) (by unfold Func.isWrapper; first | (rw [if_pos (by decide +kernel)]; kernel_rfl) | (rw [if_neg (by decide +kernel)]; exact ⟨rfl, rfl⟩))
    (fun os started H enc _ F => lifted os started H enc F)
/-- THE STATEMENT -/
theorem proved : Rows.TraceReadsUptoCardSaid :=
  Claim7.holds_tied_plain_at .later [] [.data, .data, .data, .data, .handle, .sentinel, .sentinel, .pinned] true (true, "73c9023ce2262730dd21ba4556bf6e52fc6c6a0c9a5952ab37802d550199d0be") true
    over (fun _ h => by cases h) (by kernel_rfl) (fun _ h => by cases h) traceReadsUpto_row_tie rfl ⟨rfl, rfl⟩ (by kernel_rfl) rfl
    (fun f fn hf hfn => by
      obtain rfl : f = 5 := Option.some.inj ((show Tryz.prog.funcNamed "dandelion/dandelionlaw26.TraceReads" = some 5 by kernel_rfl).symm.trans hf) |>.symm
      obtain rfl : fn = Tryz.f5 := (Option.some.inj (Tryz.func5.symm.trans hfn)).symm
      exact ⟨by kernel_rfl, fun j t ht => by
        rw [Tryz.params5] at ht
        have hm : t ∈ [9] := by simpa using Array.mem_of_getElem? ht
        have hall : ([9].all fun u => !Tryz.prog.wantsStandIn u) = true := by kernel_rfl
        exact (show Tryz.prog.wantsStandIn t = false by simpa using List.all_eq_true.1 hall t hm)⟩)
    (by kernel_rfl)
#print axioms proved
end Go.Proofs.YthpibnpeaidabaaGreatDoor.traceReadsUpto
