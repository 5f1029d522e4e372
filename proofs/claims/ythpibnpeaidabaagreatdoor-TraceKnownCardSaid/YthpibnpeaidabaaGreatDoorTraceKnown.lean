/- TraceKnown, the row: the arguments are opened over the tables, the walk is run over them, and they read as they did. The tables are laid, and tied to the program's text. -/
import Derived.Test.YthpibnpeaidabaaGreatDoorRT8
import Derived.Test.YthpibnpeaidabaaGreatDoorRTU
import Derived.Test.YthpibnpeaidabaaGreatDoorTKW
import Derived.Test.YthpibnpeaidabaaGreatDoorCards
import Derived.Test.YthpibnpeaidabaaGreatDoorTie
import Derived.SevenTiedAt
set_option linter.unusedSimpArgs false
set_option linter.unusedVariables false
namespace Go.Proofs.YthpibnpeaidabaaGreatDoor.traceKnown
open Go.ChangeShapes Go.WideShapes Go.ChangeAt Go.RowKit
open Go.Dm Go.Proofs.YthpibnpeaidabaaGreatDoor.Dm
theorem own:ownKnob Tryz.prog.godebug=none:=by kernel_rfl
set_option maxRecDepth 20000 in
theorem walk {W:World}(hl:laidMetH Tryz.prog Io W)(hsh:W.ShapedOpen Tryz.prog) :
  Calls Tryz.prog 8 #[] W (Vv W):=by
 obtain ⟨φt,hpt,Ot,t0,t1,t2⟩:=Pn hl hsh
 have T0:=t0
 have T1:=t1
 have T2:=t2
 have hw:=YT.2 [] hpt (⟨rfl,T1,T0,T2⟩) 8
 exact fA (p:=fun _ h t=>h=hpt∧t=8) hw .nil Ot
theorem laid:laidOutB Tryz.prog=true:=by kernel_rfl
set_option maxRecDepth 100000 in
theorem lifted (os:Os)(started:os.Started)(H:Type)(enc:TypeId×Value→H) :
  ReturnsInHanded {} Tryz.checked os 8 .any (fun w args=>(Rows.traceKnownSpec.pre enc Tryz.prog Tryz.f8 Rows.traceKnownRow.domain false w args∧laidMetH Tryz.prog Io w)∧sizedMet enc Tryz.prog Tryz.f8 (OpenSpec.ofChange Rows.traceKnownSpec) false w args)
   (Rows.traceKnownSpec.post enc Tryz.prog Tryz.f8 false true false false):=by
 refine NR (C:=Tryz.checked) (X:=fun w _=>laidMetH Tryz.prog Io w) (fun _ _ _ hh h=>h.of_heap hh) own started (by kernel_rfl) Tryz.func8
  (ChangeSpec.witness_shaped (enc:=enc) (C:=Tryz.checked) (os:=os) (X:=fun w _=>laidMetH Tryz.prog Io w) false (TF os) #[] 8 rfl (Iy os _) (by kernel_rfl) (by kernel_rfl) (by kernel_rfl) (Wj os _)) ?_
 intro W base args ds gs before hval0 hW hcnd hz0 hL hsh _
 have hval:∀(j:Nat) t v,Tryz.f8.params[j]? = some t→args[j]? = some v→Value.okWide Tryz.prog W .any base t v:=hval0
 have hz:∀(j:Nat) t (d:DataW H),(Tryz.f8.params.toList ++ Rows.traceKnownSpec.plain.varTypes Tryz.prog)[j]? = some t→(ds ++ gs)[j]? = some d→∀n∈d.weights Tryz.prog t,n≤reachBytes:=
  fun j t d ht hd n hn=>of_decide_eq_true (List.all_eq_true.1 hz0 n (DataW.weights_mem_each ht hd n hn))
 have hW':=hW
 have hlt:=hW.lt
 obtain ⟨p,q,hA0,hV,rfl,hfz,hnd⟩:=hW
 have hA:DataW.TrodAll enc Tryz.prog W 0 (fun _=>true) true Tryz.f8.params.toList args.toList ds p:=hA0
 rw [Tryz.params8] at hA hval hz
 obtain ⟨hargs,rfl,rfl⟩:=trodAll_nil hA
 obtain rfl:args= #[]:=by cases args;simp at hargs;rw [hargs]
 obtain ⟨rfl,rfl⟩:=trodVars_none hV
 clear hA0 hval0
 simp only [List.append_nil] at hW' hlt
 refine (walk hL hsh).mono fun e W' ⟨he,hb⟩=> ?_
 subst he
 refine ⟨_,rfl,Tc (pa:= []) (pv:= []) hW' (fun _ _ _=>(trodAll_cons_mk (shut_bool Tryz.underlying4 _) trodAll_mk0)) (fun sp hsp=> ?_) (fun _ _=>rfl) (by simp)
  (hb.frame _)⟩
 exact trodAll_mk0
theorem over:Rows.TraceKnownSaid:=
 OpenClaim.holds_of_wide 8 Tryz.f8 rfl rfl rfl rfl rfl rfl rfl ⟨rfl,rfl,rfl,rfl,rfl⟩ rfl rfl rfl rfl rfl (by kernel_rfl) Tryz.func8 (by kernel_rfl)
  (of_decide_eq_true (by kernel_rfl)) (by unfold Func.isWrapper;first | (rw [if_pos (by decide +kernel)];kernel_rfl) | (rw [if_neg (by decide +kernel)];exact ⟨rfl,rfl⟩))
  (fun os started H enc _=>lifted os started H enc)
theorem proved:Rows.TraceKnownCardSaid:=
 Claim7.holds_tied_plain_at .later [] [.data, .data, .data, .data, .handle, .sentinel, .sentinel, .pinned] true (true, "73c9023ce2262730dd21ba4556bf6e52fc6c6a0c9a5952ab37802d550199d0be") true
  over (fun _ h=>by cases h) (by kernel_rfl) (fun _ h=>by cases h) traceKnown_row_tie rfl ⟨rfl,rfl⟩ (by kernel_rfl) rfl
  (fun f fn hf hfn=>by
   obtain rfl:f=8:=Option.some.inj ((show Tryz.prog.funcNamed "dandelion/dandelionlaw26.TraceKnown" = some 8 by kernel_rfl).symm.trans hf) |>.symm
   obtain rfl:fn=Tryz.f8:=(Option.some.inj (Tryz.func8.symm.trans hfn)).symm
   exact ⟨by kernel_rfl,fun j t ht=>by
    rw [Tryz.params8] at ht
    simp at ht⟩)
  (by kernel_rfl)
#print axioms proved
end Go.Proofs.YthpibnpeaidabaaGreatDoor.traceKnown
