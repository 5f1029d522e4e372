/- TracePrints, where what it reads is of bounded bulk: the arguments are opened over the tables, the walk is run over them, and they read as they did. The tables are laid, and tied to the program's text. -/
import Derived.Test.YthpibnpeaidabaaGreatDoorRT7
import Derived.Test.YthpibnpeaidabaaGreatDoorRTU
import Derived.Test.YthpibnpeaidabaaGreatDoorTPJ
import Derived.Test.YthpibnpeaidabaaGreatDoorCards
import Derived.Test.YthpibnpeaidabaaGreatDoorTie
import Derived.SevenTiedAt
set_option linter.unusedVariables false
namespace Go.Proofs.YthpibnpeaidabaaGreatDoor.tracePrintsUpto
open Go.ChangeShapes Go.WideShapes Go.ChangeAt Go.RowKit
open Go.Dm Go.Proofs.YthpibnpeaidabaaGreatDoor.Dm
theorem own:ownKnob Tryz.prog.godebug=none:=by kernel_rfl
theorem vE:Ja Tryz.prog 9 33=some [.leaf (.int .u64), .leaf (.int .i64), .leaf (.int .i64), .leaf (.int .i64), .leaf (.int .u32), .leaf (.int .i64), .leaf (.int .u64), .leaf (.int .u64), .leaf (.int .u64), .leaf (.int .u64)]:=by kernel_rfl
theorem bF {hp:Hp}:∀cs,GL hp [.leaf (.int .u64), .leaf (.int .i64), .leaf (.int .i64), .leaf (.int .i64), .leaf (.int .u32), .leaf (.int .i64), .leaf (.int .u64), .leaf (.int .u64), .leaf (.int .u64), .leaf (.int .u64)] cs→∃a:AE,cs=AA.enc a∧FY a:=by
 rintro cs (_ | ⟨_,_,_,_,⟨_,_,x0,rfl,y0⟩,(_ | ⟨_,_,_,_,⟨_,_,x1,rfl,y1⟩,(_ | ⟨_,_,_,_,⟨_,_,x2,rfl,y2⟩,(_ | ⟨_,_,_,_,⟨_,_,x3,rfl,y3⟩,(_ | ⟨_,_,_,_,⟨_,_,x4,rfl,y4⟩,(_ | ⟨_,_,_,_,⟨_,_,x5,rfl,y5⟩,(_ | ⟨_,_,_,_,⟨_,_,x6,rfl,y6⟩,(_ | ⟨_,_,_,_,⟨_,_,x7,rfl,y7⟩,(_ | ⟨_,_,_,_,⟨_,_,x8,rfl,y8⟩,(_ | ⟨_,_,_,_,⟨_,_,x9,rfl,y9⟩,(_ | _)⟩)⟩)⟩)⟩)⟩)⟩)⟩)⟩)⟩)⟩)
 have e1:IntKind.u64.min=0:=by decide
 have e2:IntKind.u64.max=18446744073709551615:=by decide
 have e3:IntKind.u32.min=0:=by decide
 have e4:IntKind.u32.max=4294967295:=by decide
 rw [e1,e2] at y0 y6 y7 y8 y9
 rw [e3,e4] at y4
 exact ⟨⟨x0,x1,x2,x3,x4,x5,x6,x7,x8,x9⟩,rfl,⟨y0.1,by show x0 < _;omega,y4.1,by show x4 < _;omega,⟨⟨y6.1,by show x6 < _;omega⟩,⟨y7.1,by show x7 < _;omega⟩,⟨y8.1,by show x8 < _;omega⟩,⟨y9.1,by show x9 < _;omega⟩⟩⟩⟩
theorem VN:Ja Tryz.prog 9 22=some [.sl [.leaf (.int .u64), .leaf (.int .i64), .leaf (.int .i64), .leaf (.int .i64), .leaf (.int .u32), .leaf (.int .i64), .leaf (.int .u64), .leaf (.int .u64), .leaf (.int .u64), .leaf (.int .u64)] 80]:=by kernel_rfl
theorem yN {P:Program}{W:World}{base:Nat}{t:TypeId}{fs:Array Field}{v:Value}(ht:P.underlying t=some (.struct fs))(hok:Value.okWide P W .any base t v):∃cs,v= .agg ⟨cs⟩:=by
 simp only [Value.okWide,ht] at hok
 obtain ⟨⟨cs⟩,rfl,_⟩:=hok
 exact ⟨cs,rfl⟩
set_option maxRecDepth 20000 in
theorem walk {H:Type}{enc:TypeId×Value→H}{W:World}{base:Nat}{v0 v1:Value}{d0 d1:DataW H}{p0 p1:List MemPlace}(hl:laidMetH Tryz.prog Jv W)
  (h0:DataW.Trod enc Tryz.prog W 0 (fun _=>true) true 22 v0 d0 p0) (w0:∀n∈d0.weights Tryz.prog 22,n≤reachBytes) (o0:Value.okWide Tryz.prog W .any base 22 v0)
  (h1:DataW.Trod enc Tryz.prog W 0 (fun _=>true) true 29 v1 d1 p1) (w1:∀n∈d1.weights Tryz.prog 29,n≤reachBytes) (o1:Value.okWide Tryz.prog W .any base 29 v1) (hsh:W.ShapedOpen Tryz.prog) (hb:∀s,DataW.lit (.string s)∈ [d0,d1]→s.length≤1048576) (hq:∀d∈ [d0,d1],Rows.uptoBulk d≤1048576) :
  Calls Tryz.prog 7 #[v0,v1] W (Xv W):=by
 obtain ⟨φt,hpt,Ot,t0,t1⟩:=Qk hl hsh
 obtain ⟨b0,n0,c0,rfl⟩:=W5 Tryz.underlying22 o0
 have nb0:=ny Tryz.underlying22 h0
 obtain ⟨fuel0,f0⟩:=h0
 obtain ⟨φ0,hp0,top0,cs0,O0⟩:=ZR (own:=fun b=>W.heap.size≤b) 9 22 _ VN fuel0 _ _ f0 w0 φt hpt 7 Ot
 obtain ⟨u0,rfl,V0,K0⟩:=O0.one
 obtain ⟨l0,S0,g0,z0⟩:=Ym.slT K0 (E:=AA) (good:=FY) rfl bF
 have len0:l0.length≤1048576:=Nat.le_trans (jf S0 V0 ▸ nb0) (hq d0 (by simp))
 obtain ⟨x1,rfl,lo1,hi1⟩:=rY (k:= .u32) Tryz.underlying29 o1
 have T0:=(O0.ext _ _ t0)
 have T1:=(dK O0.ext t1)
 have hw:=Zt.2 [u0, .int .u32 x1] hp0 (⟨⟨l0,S0⟩,by rw [S0.rd];exact g0,by rw [S0.rd];exact len0,T1,T0⟩) top0
 exact lV (p:=fun _ h t=>h=hp0∧t=top0) hw (.cons _ _ _ _ V0 (.cons _ _ _ _ (.int _ _) .nil)) O0.op
theorem laid:laidOutB Tryz.prog=true:=by kernel_rfl
theorem xh:Tryz.prog.readableRec 22=true:=by kernel_rfl
theorem yn:22 < Tryz.prog.types.size:=of_decide_eq_true (by kernel_rfl)
theorem yW:Tryz.prog.readableRec 29=true:=by kernel_rfl
theorem wx:29 < Tryz.prog.types.size:=of_decide_eq_true (by kernel_rfl)
set_option maxRecDepth 100000 in
theorem lifted (os:Os)(started:os.Started)(H:Type)(enc:TypeId×Value→H)(F:Stop.Interp) :
  ReturnsInHanded {} Tryz.checked os 7 .any (fun w args=>((Rows.OpenSpec.upto Rows.tracePrintsSpec).pre enc Tryz.prog Tryz.f7 Rows.tracePrintsUptoRow.domain false w args∧laidMetH Tryz.prog Jv w)∧sizedMet enc Tryz.prog Tryz.f7 (Rows.OpenSpec.upto Rows.tracePrintsSpec) false w args)
   (((Rows.OpenSpec.upto Rows.tracePrintsSpec).at F).post enc Tryz.prog Tryz.f7 false true false false):=by
 refine T8 (C:=Tryz.checked) (s:=Rows.OpenSpec.upto Rows.tracePrintsSpec) (k:=Rows.uptoSmall) rfl (X:=fun w _=>laidMetH Tryz.prog Jv w) (fun _ _ _ hh h=>h.of_heap hh) own started (by kernel_rfl) Tryz.func7
  (Pt (enc:=enc) (C:=Tryz.checked) (s:=Rows.OpenSpec.upto Rows.tracePrintsSpec) (k:=Rows.uptoSmall) rfl (os:=os) (X:=fun w _=>laidMetH Tryz.prog Jv w) false (V8 os) #[.slice none 0 0, .int .u32 0] 8 rfl (JV os _) (by kernel_rfl) (x:=([.nil, .lit (.int .u32 0)], [], [])) (by kernel_rfl) rfl (by kernel_rfl) (by kernel_rfl) (Yb os _)) ?_
 intro W base args ds gs before hval0 hW hcnd hk hz0 hL hsh _
 have hval:∀(j:Nat) t v,Tryz.f7.params[j]? = some t→args[j]? = some v→Value.okWide Tryz.prog W .any base t v:=hval0
 have hz:∀(j:Nat) t (d:DataW H),(Tryz.f7.params.toList ++ Rows.tracePrintsSpec.plain.varTypes Tryz.prog)[j]? = some t→(ds ++ gs)[j]? = some d→∀n∈d.weights Tryz.prog t,n≤reachBytes:=
  fun j t d ht hd n hn=>of_decide_eq_true (List.all_eq_true.1 hz0 n (DataW.weights_mem_each ht hd n hn))
 have hW':=hW
 have hlt:=hW.lt
 obtain ⟨p,q,hA0,hV,rfl,hfz,hnd⟩:=hW
 have hA:DataW.TrodAll enc Tryz.prog W 0 (fun _=>true) true Tryz.f7.params.toList args.toList ds p:=hA0
 rw [Tryz.params7] at hA hval hz
 obtain ⟨v0,v1,d0,d1,p0,p1,rfl,rfl,rfl,h0,h1⟩:=trodAll_two hA
 obtain ⟨rfl,rfl⟩:=trodVars_none hV
 clear hA0 hval0
 simp only [List.append_nil] at hW' hlt
 refine (walk hL h0 (hz 0 22 d0 rfl rfl) (hval 0 22 v0 rfl rfl) h1 (hz 1 29 d1 rfl rfl) (hval 1 29 v1 rfl rfl) hsh (fun s hm=>cD hk (by simpa using hm)) (fun d hm=>kb hk (by simpa using hm))).mono fun e W' ⟨he,hb⟩=> ?_
 subst he
 refine ⟨_,rfl,Vz (pa:=(p0 ++ (p1 ++ []))) (pv:= []) hW' (fun _ _ _=>(trodAll_cons_mk (shut_bool Tryz.underlying4 _) trodAll_mk0)) (fun sp hsp=> ?_) (fun _ _=>rfl) (by simp)
  (hb.frame _)⟩
 exact (trodAll_cons_mk (WideElems.Trod_stays laid xh yn h0 (fun x hx=>hb.same (hlt x (by simp [hx]))) (fun x hx=>hsp x (by simp [hx]))) (trodAll_cons_mk (WideElems.Trod_stays laid yW wx h1 (fun x hx=>hb.same (hlt x (by simp [hx]))) (fun x hx=>hsp x (by simp [hx]))) trodAll_mk0))
theorem over:Rows.TracePrintsUptoSaid:=
 OpenClaim.holds_of_cond 7 Tryz.f7 rfl rfl rfl rfl rfl rfl rfl ⟨rfl,rfl,rfl,rfl,rfl⟩ rfl rfl rfl rfl rfl (by kernel_rfl) Tryz.func7 (by kernel_rfl)
  (of_decide_eq_true (by kernel_rfl)) (by unfold Func.isWrapper;first | (rw [if_pos (by decide +kernel)];kernel_rfl) | (rw [if_neg (by decide +kernel)];exact ⟨rfl,rfl⟩))
  (fun os started H enc _ F=>lifted os started H enc F)
theorem proved:Rows.TracePrintsUptoCardSaid:=
 Claim7.holds_tied_plain_at .later [] [.data, .data, .data, .data, .sentinel, .sentinel, .pinned] true (true, "73c9023ce2262730dd21ba4556bf6e52fc6c6a0c9a5952ab37802d550199d0be") true
  over (fun _ h=>by cases h) (by kernel_rfl) (fun _ h=>by cases h) tracePrintsUpto_row_tie rfl ⟨rfl,rfl⟩ (by kernel_rfl) rfl
  (fun f fn hf hfn=>by
   obtain rfl:f=7:=Option.some.inj ((show Tryz.prog.funcNamed "dandelion/dandelionlaw26.TracePrints" = some 7 by kernel_rfl).symm.trans hf) |>.symm
   obtain rfl:fn=Tryz.f7:=(Option.some.inj (Tryz.func7.symm.trans hfn)).symm
   exact ⟨by kernel_rfl,fun j t ht=>by
    rw [Tryz.params7] at ht
    have hm:t∈ [22,29]:=by simpa using Array.mem_of_getElem? ht
    have hall:([22,29].all fun u=> !Tryz.prog.wantsStandIn u)=true:=by kernel_rfl
    exact (show Tryz.prog.wantsStandIn t=false by simpa using List.all_eq_true.1 hall t hm)⟩)
  (by kernel_rfl)
#print axioms proved
end Go.Proofs.YthpibnpeaidabaaGreatDoor.tracePrintsUpto
