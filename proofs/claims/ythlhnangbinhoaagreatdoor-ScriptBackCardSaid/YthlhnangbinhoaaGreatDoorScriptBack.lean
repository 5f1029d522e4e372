/- ScriptBack, the row: the arguments are opened over the tables, the walk is run over them, and they read as they did. The tables are laid, and tied to the program's text. -/
import Derived.Test.YthlhnangbinhoaaGreatDoorRT8
import Derived.Test.YthlhnangbinhoaaGreatDoorRTU
import Derived.Test.YthlhnangbinhoaaGreatDoorSBB
import Derived.Test.YthlhnangbinhoaaGreatDoorCards
import Derived.Test.YthlhnangbinhoaaGreatDoorTie
import Derived.SevenTiedAt
set_option linter.unusedSimpArgs false
set_option linter.unusedVariables false
namespace Go.Proofs.YthlhnangbinhoaaGreatDoor.scriptBack
open Go.ChangeShapes Go.WideShapes Go.ChangeAt Go.RowKit
open Go.Dm Go.Proofs.YthlhnangbinhoaaGreatDoor.Dm
theorem own:ownKnob Tryz.prog.godebug=none:=by kernel_rfl
theorem kQ {hp:Hp}:∀cs,I3 hp [.leaf (.int .u8), .leaf (.int .u8), .leaf (.int .u8), .leaf (.int .u8), .leaf (.int .u16), .leaf (.int .u32), .leaf .str] cs→∃a:C6,cs=B8.enc a∧QH a:=by
 rintro cs (_ | ⟨_,_,_,_,⟨_,_,x0,rfl,y0⟩,(_ | ⟨_,_,_,_,⟨_,_,x1,rfl,y1⟩,(_ | ⟨_,_,_,_,⟨_,_,x2,rfl,y2⟩,(_ | ⟨_,_,_,_,⟨_,_,x3,rfl,y3⟩,(_ | ⟨_,_,_,_,⟨_,_,x4,rfl,y4⟩,(_ | ⟨_,_,_,_,⟨_,_,x5,rfl,y5⟩,(_ | ⟨_,_,_,_,⟨_,_,⟨⟨x6⟩⟩,rfl,y6⟩,(_ | _)⟩)⟩)⟩)⟩)⟩)⟩)⟩)
 have mi_u16:IntKind.u16.min=0:=by decide
 have ma_u16:IntKind.u16.max=65535:=by decide
 have mi_u32:IntKind.u32.min=0:=by decide
 have ma_u32:IntKind.u32.max=4294967295:=by decide
 have mi_u8:IntKind.u8.min=0:=by decide
 have ma_u8:IntKind.u8.max=255:=by decide
 rw [mi_u8,ma_u8] at y0
 rw [mi_u8,ma_u8] at y1
 rw [mi_u8,ma_u8] at y2
 rw [mi_u8,ma_u8] at y3
 rw [mi_u16,ma_u16] at y4
 rw [mi_u32,ma_u32] at y5
 have z6:x6.length≤9223372036854775807:=Nat.le_trans (show x6.length≤maxLen from y6) (by decide)
 exact ⟨⟨x0,x1,x2,x3,x4,x5,x6⟩,rfl,⟨y0.1,by show x0 < _;omega,y1.1,by show x1 < _;omega,y2.1,by show x2 < _;omega,y3.1,by show x3 < _;omega,y4.1,by show x4 < _;omega,y5.1,by show x5 < _;omega,z6⟩⟩
theorem WJ:M6 Tryz.prog 9 36=some [.sl [.leaf (.int .u8), .leaf (.int .u8), .leaf (.int .u8), .leaf (.int .u8), .leaf (.int .u16), .leaf (.int .u32), .leaf .str] 32]:=by kernel_rfl
set_option maxRecDepth 20000 in
theorem walk {H:Type}{enc:TypeId×Value→H}{W:World}{base:Nat}{v0:Value}{d0:DataW H}{p0:List MemPlace}(hl:laidMetH Tryz.prog HC W)
  (h0:DataW.Trod enc Tryz.prog W 0 (fun _=>true) true 36 v0 d0 p0) (w0:∀n∈d0.weights Tryz.prog 36,n≤reachBytes) (o0:Value.okWide Tryz.prog W .any base 36 v0) (hsh:W.ShapedOpen Tryz.prog) :
  Calls Tryz.prog 4 #[v0] W (QQ W):=by
 obtain ⟨φt,hpt,Ot,t0,t1,t2⟩:=Kx hl hsh
 obtain ⟨b0,n0,c0,rfl⟩:=UQ Tryz.underlying36 o0
 obtain ⟨fuel0,f0⟩:=h0
 obtain ⟨φ0,hp0,top0,cs0,O0⟩:=TE (own:=fun b=>W.heap.size≤b) 9 36 _ WJ fuel0 _ _ f0 w0 φt hpt 8 Ot
 obtain ⟨u0,rfl,V0,K0⟩:=O0.one
 obtain ⟨l0,S0,g0,z0⟩:=aq.slT K0 (E:=B8) (good:=QH) rfl kQ
 have T0:=(O0.ext _ _ t0)
 have T1:=(Xb O0.ext t1)
 have T2:=(O0.ext _ _ t2)
 have hw:=oH.2 [u0] hp0 (⟨⟨l0,S0⟩,fun d hd=>g0 d (by rwa [S0.rd] at hd),T1,T2⟩) top0
 exact WB (p:=fun _ h t=>h=hp0∧t=top0) hw (.cons _ _ _ _ V0 .nil) O0.op
theorem laid:laidOutB Tryz.prog=true:=by kernel_rfl
theorem iZ:Tryz.prog.readableRec 36=true:=by kernel_rfl
theorem fi:36 < Tryz.prog.types.size:=of_decide_eq_true (by kernel_rfl)
set_option maxRecDepth 100000 in
theorem lifted (os:Os)(started:os.Started)(H:Type)(enc:TypeId×Value→H) :
  ReturnsInHanded {} Tryz.checked os 4 .any (fun w args=>(Rows.scriptBackSpec.pre enc Tryz.prog Tryz.f4 Rows.scriptBackRow.domain false w args∧laidMetH Tryz.prog HC w)∧sizedMet enc Tryz.prog Tryz.f4 (OpenSpec.ofChange Rows.scriptBackSpec) false w args)
   (Rows.scriptBackSpec.post enc Tryz.prog Tryz.f4 false true false false):=by
 refine JR (C:=Tryz.checked) (X:=fun w _=>laidMetH Tryz.prog HC w) (fun _ _ _ hh h=>h.of_heap hh) own started (by kernel_rfl) Tryz.func4
  (ChangeSpec.witness_shaped (enc:=enc) (C:=Tryz.checked) (os:=os) (X:=fun w _=>laidMetH Tryz.prog HC w) false (Rm os) #[.slice none 0 0] 8 rfl (F8 os _) (by kernel_rfl) (by kernel_rfl) (by kernel_rfl) (Ph os _)) ?_
 intro W base args ds gs before hval0 hW hcnd hz0 hL hsh _
 have hval:∀(j:Nat) t v,Tryz.f4.params[j]? = some t→args[j]? = some v→Value.okWide Tryz.prog W .any base t v:=hval0
 have hz:∀(j:Nat) t (d:DataW H),(Tryz.f4.params.toList ++ Rows.scriptBackSpec.plain.varTypes Tryz.prog)[j]? = some t→(ds ++ gs)[j]? = some d→∀n∈d.weights Tryz.prog t,n≤reachBytes:=
  fun j t d ht hd n hn=>of_decide_eq_true (List.all_eq_true.1 hz0 n (DataW.weights_mem_each ht hd n hn))
 have hW':=hW
 have hlt:=hW.lt
 obtain ⟨p,q,hA0,hV,rfl,hfz,hnd⟩:=hW
 have hA:DataW.TrodAll enc Tryz.prog W 0 (fun _=>true) true Tryz.f4.params.toList args.toList ds p:=hA0
 rw [Tryz.params4] at hA hval hz
 obtain ⟨v0,d0,rfl,rfl,h0⟩:=trodAll_one hA
 obtain ⟨rfl,rfl⟩:=trodVars_none hV
 clear hA0 hval0
 simp only [List.append_nil] at hW' hlt
 refine (walk hL h0 (hz 0 36 d0 rfl rfl) (hval 0 36 v0 rfl rfl) hsh).mono fun e W' ⟨he,hb⟩=> ?_
 subst he
 refine ⟨_,rfl,NC (pa:=(p ++ [])) (pv:= []) hW' (fun _ _ _=>(trodAll_cons_mk (shut_bool Tryz.underlying4 _) trodAll_mk0)) (fun sp hsp=> ?_) (fun _ _=>rfl) (by simp)
  (hb.frame _)⟩
 exact (trodAll_cons_mk (WideElems.Trod_stays laid iZ fi h0 (fun x hx=>hb.same (hlt x (by simp [hx]))) (fun x hx=>hsp x (by simp [hx]))) trodAll_mk0)
theorem over:Rows.ScriptBackSaid:=
 OpenClaim.holds_of_wide 4 Tryz.f4 rfl rfl rfl rfl rfl rfl rfl ⟨rfl,rfl,rfl,rfl,rfl⟩ rfl rfl rfl rfl rfl (by kernel_rfl) Tryz.func4 (by kernel_rfl)
  (of_decide_eq_true (by kernel_rfl)) (by unfold Func.isWrapper;first | (rw [if_pos (by decide +kernel)];kernel_rfl) | (rw [if_neg (by decide +kernel)];exact ⟨rfl,rfl⟩))
  (fun os started H enc _=>lifted os started H enc)
theorem proved:Rows.ScriptBackCardSaid:=
 Claim7.holds_tied_plain_at .later [] [.data, .data, .data, .data, .handle, .sentinel, .sentinel, .pinned] true (true, "76645c86a42ce18f4e415345835eeb0b59677ffbf77c78404ff9b271daa8d56e") true
  over (fun _ h=>by cases h) (by kernel_rfl) (fun _ h=>by cases h) scriptBack_row_tie rfl ⟨rfl,rfl⟩ (by kernel_rfl) rfl
  (fun f fn hf hfn=>by
   obtain rfl:f=4:=Option.some.inj ((show Tryz.prog.funcNamed "dandelion/dandelionlaw27.ScriptBack" = some 4 by kernel_rfl).symm.trans hf) |>.symm
   obtain rfl:fn=Tryz.f4:=(Option.some.inj (Tryz.func4.symm.trans hfn)).symm
   exact ⟨by kernel_rfl,fun j t ht=>by
    rw [Tryz.params4] at ht
    have hm:t∈ [36]:=by simpa using Array.mem_of_getElem? ht
    have hall:([36].all fun u=> !Tryz.prog.wantsStandIn u)=true:=by kernel_rfl
    exact (show Tryz.prog.wantsStandIn t=false by simpa using List.all_eq_true.1 hall t hm)⟩)
  (by kernel_rfl)
#print axioms proved
end Go.Proofs.YthlhnangbinhoaaGreatDoor.scriptBack
