/- ScriptReads, the row: the arguments are opened over the tables, the walk is run over them, and they read as they did. The tables are laid, and tied to the program's text. -/
import Derived.Test.YthlhnangbinhoaaGreatDoorRT8
import Derived.Test.YthlhnangbinhoaaGreatDoorRTU
import Derived.Test.YthlhnangbinhoaaGreatDoorSRS
import Derived.Test.YthlhnangbinhoaaGreatDoorCards
import Derived.Test.YthlhnangbinhoaaGreatDoorTie
import Derived.SevenTiedAt
set_option linter.unusedSimpArgs false
set_option linter.unusedVariables false
namespace Go.Proofs.YthlhnangbinhoaaGreatDoor.scriptReads
open Go.ChangeShapes Go.WideShapes Go.ChangeAt Go.RowKit
open Go.Dm Go.Proofs.YthlhnangbinhoaaGreatDoor.Dm
theorem own:ownKnob Tryz.prog.godebug=none:=by kernel_rfl
set_option maxRecDepth 20000 in
theorem walk {H:Type}{enc:TypeId×Value→H}{W:World}{base:Nat}{v0:Value}{d0:DataW H}{p0:List MemPlace}(hl:laidMetH Tryz.prog Ll W)
  (h0:DataW.Trod enc Tryz.prog W 0 (fun _=>true) true 9 v0 d0 p0) (w0:∀n∈d0.weights Tryz.prog 9,n≤reachBytes) (o0:Value.okWide Tryz.prog W .any base 9 v0) (hsh:W.ShapedOpen Tryz.prog) :
  Calls Tryz.prog 5 #[v0] W (Zf W):=by
 obtain ⟨φt,hpt,Ot,t0,t1,t2⟩:=VD hl hsh
 obtain ⟨x0,rfl⟩:=vq Tryz.underlying9 o0
 have T0:=t0
 have T1:=t1
 have T2:=t2
 have hw:=kJ.2 [.string ⟨⟨x0⟩⟩] hpt (⟨T1,T2⟩) 8
 exact oV (p:=fun _ h t=>h=hpt∧t=8) hw (.cons _ _ _ _ (.str _) .nil) Ot
theorem laid:laidOutB Tryz.prog=true:=by kernel_rfl
theorem AEc:Tryz.prog.readableRec 9=true:=by kernel_rfl
theorem AEh:9 < Tryz.prog.types.size:=of_decide_eq_true (by kernel_rfl)
set_option maxRecDepth 100000 in
theorem lifted (os:Os)(started:os.Started)(H:Type)(enc:TypeId×Value→H) :
  ReturnsInHanded {} Tryz.checked os 5 .any (fun w args=>(Rows.scriptReadsSpec.pre enc Tryz.prog Tryz.f5 Rows.scriptReadsRow.domain false w args∧laidMetH Tryz.prog Ll w)∧sizedMet enc Tryz.prog Tryz.f5 (OpenSpec.ofChange Rows.scriptReadsSpec) false w args)
   (Rows.scriptReadsSpec.post enc Tryz.prog Tryz.f5 false true false false):=by
 refine SF (C:=Tryz.checked) (X:=fun w _=>laidMetH Tryz.prog Ll w) (fun _ _ _ hh h=>h.of_heap hh) own started (by kernel_rfl) Tryz.func5
  (ChangeSpec.witness_shaped (enc:=enc) (C:=Tryz.checked) (os:=os) (X:=fun w _=>laidMetH Tryz.prog Ll w) false (Zb os) #[.string ⟨#[]⟩] 8 rfl (MQ os _) (by kernel_rfl) (by kernel_rfl) (by kernel_rfl) (dM os _)) ?_
 intro W base args ds gs before hval0 hW hcnd hz0 hL hsh _
 have hval:∀(j:Nat) t v,Tryz.f5.params[j]? = some t→args[j]? = some v→Value.okWide Tryz.prog W .any base t v:=hval0
 have hz:∀(j:Nat) t (d:DataW H),(Tryz.f5.params.toList ++ Rows.scriptReadsSpec.plain.varTypes Tryz.prog)[j]? = some t→(ds ++ gs)[j]? = some d→∀n∈d.weights Tryz.prog t,n≤reachBytes:=
  fun j t d ht hd n hn=>of_decide_eq_true (List.all_eq_true.1 hz0 n (DataW.weights_mem_each ht hd n hn))
 have hW':=hW
 have hlt:=hW.lt
 obtain ⟨p,q,hA0,hV,rfl,hfz,hnd⟩:=hW
 have hA:DataW.TrodAll enc Tryz.prog W 0 (fun _=>true) true Tryz.f5.params.toList args.toList ds p:=hA0
 rw [Tryz.params5] at hA hval hz
 obtain ⟨v0,d0,rfl,rfl,h0⟩:=trodAll_one hA
 obtain ⟨rfl,rfl⟩:=trodVars_none hV
 clear hA0 hval0
 simp only [List.append_nil] at hW' hlt
 refine (walk hL h0 (hz 0 9 d0 rfl rfl) (hval 0 9 v0 rfl rfl) hsh).mono fun e W' ⟨he,hb⟩=> ?_
 subst he
 refine ⟨_,rfl,Y4 (pa:=(p ++ [])) (pv:= []) hW' (fun _ _ _=>(trodAll_cons_mk (shut_bool Tryz.underlying4 _) trodAll_mk0)) (fun sp hsp=> ?_) (fun _ _=>rfl) (by simp)
  (hb.frame _)⟩
 exact (trodAll_cons_mk (WideElems.Trod_stays laid AEc AEh h0 (fun x hx=>hb.same (hlt x (by simp [hx]))) (fun x hx=>hsp x (by simp [hx]))) trodAll_mk0)
theorem over:Rows.ScriptReadsSaid:=
 OpenClaim.holds_of_wide 5 Tryz.f5 rfl rfl rfl rfl rfl rfl rfl ⟨rfl,rfl,rfl,rfl,rfl⟩ rfl rfl rfl rfl rfl (by kernel_rfl) Tryz.func5 (by kernel_rfl)
  (of_decide_eq_true (by kernel_rfl)) (by unfold Func.isWrapper;first | (rw [if_pos (by decide +kernel)];kernel_rfl) | (rw [if_neg (by decide +kernel)];exact ⟨rfl,rfl⟩))
  (fun os started H enc _=>lifted os started H enc)
theorem proved:Rows.ScriptReadsCardSaid:=
 Claim7.holds_tied_plain_at .later [] [.data, .data, .data, .data, .handle, .sentinel, .sentinel, .pinned] true (true, "76645c86a42ce18f4e415345835eeb0b59677ffbf77c78404ff9b271daa8d56e") true
  over (fun _ h=>by cases h) (by kernel_rfl) (fun _ h=>by cases h) scriptReads_row_tie rfl ⟨rfl,rfl⟩ (by kernel_rfl) rfl
  (fun f fn hf hfn=>by
   obtain rfl:f=5:=Option.some.inj ((show Tryz.prog.funcNamed "dandelion/dandelionlaw27.ScriptReads" = some 5 by kernel_rfl).symm.trans hf) |>.symm
   obtain rfl:fn=Tryz.f5:=(Option.some.inj (Tryz.func5.symm.trans hfn)).symm
   exact ⟨by kernel_rfl,fun j t ht=>by
    rw [Tryz.params5] at ht
    have hm:t∈ [9]:=by simpa using Array.mem_of_getElem? ht
    have hall:([9].all fun u=> !Tryz.prog.wantsStandIn u)=true:=by kernel_rfl
    exact (show Tryz.prog.wantsStandIn t=false by simpa using List.all_eq_true.1 hall t hm)⟩)
  (by kernel_rfl)
#print axioms proved
end Go.Proofs.YthlhnangbinhoaaGreatDoor.scriptReads
