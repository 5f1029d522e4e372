/- ScriptLines, where what it reads is of bounded bulk, the row: the arguments are opened over the tables, the walk is run over them, and they read as they did. The tables are laid, and tied to the program's text. -/
import Derived.Test.YthlhnangbinhoaaGreatDoorRT8
import Derived.Test.YthlhnangbinhoaaGreatDoorRTU
import Derived.Test.YthlhnangbinhoaaGreatDoorSRG
import Derived.Test.YthlhnangbinhoaaGreatDoorCards
import Derived.Test.YthlhnangbinhoaaGreatDoorTie
import Derived.SevenTiedAt
set_option linter.unusedVariables false
namespace Go.Proofs.YthlhnangbinhoaaGreatDoor.scriptLinesUpto
open Go.ChangeShapes Go.WideShapes Go.ChangeAt Go.RowKit
open Go.Dm Go.Proofs.YthlhnangbinhoaaGreatDoor.Dm
theorem own:ownKnob Tryz.prog.godebug=none:=by kernel_rfl
theorem vo:ON Tryz.prog 9 43=some [.leaf (.int .i64), .leaf (.int .i64), .leaf (.int .i64), .leaf (.int .i64), .leaf (.int .u32), .leaf (.int .i64), .leaf .str]:=by kernel_rfl
theorem AAp {hp:Hp}:∀cs,Ij hp [.leaf (.int .i64), .leaf (.int .i64), .leaf (.int .i64), .leaf (.int .i64), .leaf (.int .u32), .leaf (.int .i64), .leaf .str] cs→∃a:Ax,cs=Aw.enc a∧xu a:=by
 rintro cs (_ | ⟨_,_,_,_,⟨_,_,x0,rfl,y0⟩,(_ | ⟨_,_,_,_,⟨_,_,x1,rfl,y1⟩,(_ | ⟨_,_,_,_,⟨_,_,x2,rfl,y2⟩,(_ | ⟨_,_,_,_,⟨_,_,x3,rfl,y3⟩,(_ | ⟨_,_,_,_,⟨_,_,x4,rfl,y4⟩,(_ | ⟨_,_,_,_,⟨_,_,x5,rfl,y5⟩,(_ | ⟨_,_,_,_,⟨_,_,⟨⟨x6⟩⟩,rfl,y6⟩,(_ | _)⟩)⟩)⟩)⟩)⟩)⟩)⟩)
 have mi_i64:IntKind.i64.min= -9223372036854775808:=by decide
 have ma_i64:IntKind.i64.max=9223372036854775807:=by decide
 have mi_u32:IntKind.u32.min=0:=by decide
 have ma_u32:IntKind.u32.max=4294967295:=by decide
 rw [mi_i64,ma_i64] at y0
 rw [mi_i64,ma_i64] at y1
 rw [mi_i64,ma_i64] at y2
 rw [mi_i64,ma_i64] at y3
 rw [mi_u32,ma_u32] at y4
 rw [mi_i64,ma_i64] at y5
 have z6:x6.length≤9223372036854775807:=Nat.le_trans (show x6.length≤maxLen from y6) (by decide)
 exact ⟨⟨x0,x1,x2,x3,x4,x5,x6⟩,rfl,⟨y0.1,by show x0 < _;omega,y1.1,by show x1 < _;omega,y2.1,by show x2 < _;omega,y3.1,by show x3 < _;omega,y4.1,by show x4 < _;omega,y5.1,by show x5 < _;omega,z6⟩⟩
theorem e9 {P:Program}{W:World}{base:Nat}{t:TypeId}{fs:Array Field}{v:Value}(ht:P.underlying t=some (.struct fs))(hok:Value.okWide P W .any base t v):∃cs,v= .agg ⟨cs⟩:=by
 simp only [Value.okWide,ht] at hok
 obtain ⟨⟨cs⟩,rfl,_⟩:=hok
 exact ⟨cs,rfl⟩
set_option maxRecDepth 20000 in
theorem walk {H:Type}{enc:TypeId×Value→H}{W:World}{base:Nat}{v0 v1:Value}{d0 d1:DataW H}{p0 p1:List MemPlace}(hl:laidMetH Tryz.prog Lg W)
  (h0:DataW.Trod enc Tryz.prog W 0 (fun _=>true) true 43 v0 d0 p0) (w0:∀n∈d0.weights Tryz.prog 43,n≤reachBytes) (o0:Value.okWide Tryz.prog W .any base 43 v0)
  (h1:DataW.Trod enc Tryz.prog W 0 (fun _=>true) true 9 v1 d1 p1) (w1:∀n∈d1.weights Tryz.prog 9,n≤reachBytes) (o1:Value.okWide Tryz.prog W .any base 9 v1) (hsh:W.ShapedOpen Tryz.prog) (hb:∀s,DataW.lit (.string s)∈ [d0,d1]→s.length≤1048576) (hq:∀d∈ [d0,d1],Rows.uptoBulk d≤1048576) :
  Calls Tryz.prog 7 #[v0,v1] W (aW W):=by
 obtain ⟨φt,hpt,Ot,t0,t1,t2⟩:=Ud hl hsh
 obtain ⟨r0,rfl⟩:=e9 Tryz.underlying43 o0
 have hb0:=fun {φ:Dm.Ren} {a:Ax} (hv:Vs φ (Aw.enc a) r0)=>oS h0 hv
 obtain ⟨fuel0,f0⟩:=h0
 obtain ⟨φ0,hp0,top0,cs0,O0⟩:=dD (own:=fun b=>W.heap.size≤b) 9 43 _ vo fuel0 _ _ f0 w0 φt hpt 8 Ot
 obtain ⟨a0,rfl,ha0⟩:=AAp _ O0.ok
 obtain ⟨x1,rfl⟩:=u5 Tryz.underlying9 o1
 have len1:=hb x1 (by rw [gM Tryz.underlying9 h1];simp)
 have T0:=(O0.ext _ _ t0)
 have T1:=(mS O0.ext t1)
 have T2:=(O0.ext _ _ t2)
 have hw:=kB.2 [.agg ⟨Aw.enc a0⟩, .string ⟨⟨x1⟩⟩] hp0 (⟨⟨a0,rfl,ha0.o (Nat.le_trans (hb0 O0.vs) (Nat.le_trans (hq d0 (by simp)) (by decide)))⟩,len1,T1,T2⟩) top0
 exact sj (p:=fun _ h t=>h=hp0∧t=top0) hw (.cons _ _ _ _ (.agg _ _ O0.vs) (.cons _ _ _ _ (.str _) .nil)) O0.op
theorem laid:laidOutB Tryz.prog=true:=by kernel_rfl
theorem ADu:Tryz.prog.readableRec 9=true:=by kernel_rfl
theorem AED:9 < Tryz.prog.types.size:=of_decide_eq_true (by kernel_rfl)
theorem zr:Tryz.prog.readableRec 43=true:=by kernel_rfl
theorem ACJ:43 < Tryz.prog.types.size:=of_decide_eq_true (by kernel_rfl)
set_option maxRecDepth 100000 in
theorem lifted (os:Os)(started:os.Started)(H:Type)(enc:TypeId×Value→H)(F:Stop.Interp) :
  ReturnsInHanded {} Tryz.checked os 7 .any (fun w args=>((Rows.OpenSpec.upto Rows.scriptLinesSpec).pre enc Tryz.prog Tryz.f7 Rows.scriptLinesUptoRow.domain false w args∧laidMetH Tryz.prog Lg w)∧sizedMet enc Tryz.prog Tryz.f7 (Rows.OpenSpec.upto Rows.scriptLinesSpec) false w args)
   (((Rows.OpenSpec.upto Rows.scriptLinesSpec).at F).post enc Tryz.prog Tryz.f7 false true false false):=by
 refine XP (C:=Tryz.checked) (s:=Rows.OpenSpec.upto Rows.scriptLinesSpec) (k:=Rows.uptoSmall) rfl (X:=fun w _=>laidMetH Tryz.prog Lg w) (fun _ _ _ hh h=>h.of_heap hh) own started (by kernel_rfl) Tryz.func7
  (Vk (enc:=enc) (C:=Tryz.checked) (s:=Rows.OpenSpec.upto Rows.scriptLinesSpec) (k:=Rows.uptoSmall) rfl (os:=os) (X:=fun w _=>laidMetH Tryz.prog Lg w) false (YX os) #[.agg #[.int .i64 0, .int .i64 0, .int .i64 0, .int .i64 0, .int .u32 0, .int .i64 0, .string ⟨#[]⟩], .string ⟨#[]⟩] 8 rfl (MZ os _) (by kernel_rfl) (x:=([.agg [.lit (.int .i64 0), .lit (.int .i64 0), .lit (.int .i64 0), .lit (.int .i64 0), .lit (.int .u32 0), .lit (.int .i64 0), .lit (.string [])], .lit (.string [])], [], [])) (by kernel_rfl) rfl (by kernel_rfl) (by kernel_rfl) (dA os _)) ?_
 intro W base args ds gs before hval0 hW hcnd hk hz0 hL hsh _
 have hval:∀(j:Nat) t v,Tryz.f7.params[j]? = some t→args[j]? = some v→Value.okWide Tryz.prog W .any base t v:=hval0
 have hz:∀(j:Nat) t (d:DataW H),(Tryz.f7.params.toList ++ Rows.scriptLinesSpec.plain.varTypes Tryz.prog)[j]? = some t→(ds ++ gs)[j]? = some d→∀n∈d.weights Tryz.prog t,n≤reachBytes:=
  fun j t d ht hd n hn=>of_decide_eq_true (List.all_eq_true.1 hz0 n (DataW.weights_mem_each ht hd n hn))
 have hW':=hW
 have hlt:=hW.lt
 obtain ⟨p,q,hA0,hV,rfl,hfz,hnd⟩:=hW
 have hA:DataW.TrodAll enc Tryz.prog W 0 (fun _=>true) true Tryz.f7.params.toList args.toList ds p:=hA0
 rw [Tryz.params7] at hA hval hz
 obtain ⟨v0,v1,d0,d1,p0,p1,rfl,rfl,rfl,h0,h1⟩:=trodAll_two hA
 obtain ⟨rfl,rfl⟩:=trodVars_none hV
 clear hA0 hval0
 simp only [List.append_nil] at hW' hlt
 refine (walk hL h0 (hz 0 43 d0 rfl rfl) (hval 0 43 v0 rfl rfl) h1 (hz 1 9 d1 rfl rfl) (hval 1 9 v1 rfl rfl) hsh (fun s hm=>fV hk (by simpa using hm)) (fun d hm=>rF hk (by simpa using hm))).mono fun e W' ⟨he,hb⟩=> ?_
 subst he
 refine ⟨_,rfl,ZD (pa:=(p0 ++ (p1 ++ []))) (pv:= []) hW' (fun _ _ _=>(trodAll_cons_mk (shut_bool Tryz.underlying4 _) trodAll_mk0)) (fun sp hsp=> ?_) (fun _ _=>rfl) (by simp)
  (hb.frame _)⟩
 exact (trodAll_cons_mk (WideElems.Trod_stays laid zr ACJ h0 (fun x hx=>hb.same (hlt x (by simp [hx]))) (fun x hx=>hsp x (by simp [hx]))) (trodAll_cons_mk (WideElems.Trod_stays laid ADu AED h1 (fun x hx=>hb.same (hlt x (by simp [hx]))) (fun x hx=>hsp x (by simp [hx]))) trodAll_mk0))
theorem over:Rows.ScriptLinesUptoSaid:=
 OpenClaim.holds_of_cond 7 Tryz.f7 rfl rfl rfl rfl rfl rfl rfl ⟨rfl,rfl,rfl,rfl,rfl⟩ rfl rfl rfl rfl rfl (by kernel_rfl) Tryz.func7 (by kernel_rfl)
  (of_decide_eq_true (by kernel_rfl)) (by unfold Func.isWrapper;first | (rw [if_pos (by decide +kernel)];kernel_rfl) | (rw [if_neg (by decide +kernel)];exact ⟨rfl,rfl⟩))
  (fun os started H enc _ F=>lifted os started H enc F)
theorem proved:Rows.ScriptLinesUptoCardSaid:=
 Claim7.holds_tied_plain_at .later [] [.data, .data, .data, .data, .handle, .sentinel, .sentinel, .pinned] true (true, "76645c86a42ce18f4e415345835eeb0b59677ffbf77c78404ff9b271daa8d56e") true
  over (fun _ h=>by cases h) (by kernel_rfl) (fun _ h=>by cases h) scriptLinesUpto_row_tie rfl ⟨rfl,rfl⟩ (by kernel_rfl) rfl
  (fun f fn hf hfn=>by
   obtain rfl:f=7:=Option.some.inj ((show Tryz.prog.funcNamed "dandelion/dandelionlaw27.ScriptLines" = some 7 by kernel_rfl).symm.trans hf) |>.symm
   obtain rfl:fn=Tryz.f7:=(Option.some.inj (Tryz.func7.symm.trans hfn)).symm
   exact ⟨by kernel_rfl,fun j t ht=>by
    rw [Tryz.params7] at ht
    have hm:t∈ [43,9]:=by simpa using Array.mem_of_getElem? ht
    have hall:([43,9].all fun u=> !Tryz.prog.wantsStandIn u)=true:=by kernel_rfl
    exact (show Tryz.prog.wantsStandIn t=false by simpa using List.all_eq_true.1 hall t hm)⟩)
  (by kernel_rfl)
#print axioms proved
end Go.Proofs.YthlhnangbinhoaaGreatDoor.scriptLinesUpto
