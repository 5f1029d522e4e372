/- NetPlays, the row: the arguments are opened, the walk is run Oz them, and they read as they did. No condition. -/
import Derived.Test.YtmppehipfpkepaaRows
import Derived.Test.YtmppehipfpkepaaNR
import Derived.Test.YtmppehipfpkepaaNP24
import Derived.WalkKit
import Derived.ProofKit
import Derived.OpenShut
import Derived.SizedLaws
set_option linter.unusedVariables false
namespace Go.Proofs.Ytmppehipfpkepaa.netPlays
open Go.ChangeShapes Go.WideShapes Go.ChangeAt Go.RowKit
open Go.Dm Go.Proofs.Ytmppehipfpkepaa.Dm
theorem own:ownKnob Try.prog.godebug=none:=by kernel_rfl
noncomputable def bJ:List Sh:= [.leaf (.int .i64)]
def Zo (_:Hp)(_:Int):Prop:=True
theorem yH {hp:Hp}:∀cs,Iy hp bJ cs→∃a:Int,cs=Ab.enc a∧Zo hp a:=by
 rintro cs (_ | ⟨_,_,_,_,⟨_,_,x0,rfl,y0⟩,(_ | _)⟩)
 exact ⟨x0,rfl,trivial⟩
noncomputable def Xt:List Sh:= [.leaf (.int .i64), .leaf (.int .i64), .leaf (.int .i64)]
def U8 (_:Hp)(_:AX):Prop:=True
theorem rU {hp:Hp}:∀cs,Iy hp Xt cs→∃a:AX,cs=An.enc a∧U8 hp a:=by
 rintro cs (_ | ⟨_,_,_,_,⟨_,_,x0,rfl,y0⟩,(_ | ⟨_,_,_,_,⟨_,_,x1,rfl,y1⟩,(_ | ⟨_,_,_,_,⟨_,_,x2,rfl,y2⟩,(_ | _)⟩)⟩)⟩)
 exact ⟨⟨x0,x1,x2⟩,rfl,trivial⟩
noncomputable def Wx:List Sh:= [.leaf (.int .i64), .leaf (.int .i64), .leaf (.int .i64), .leaf (.int .i64), .leaf (.int .i64)]
def VM (_:Hp)(_:A8):Prop:=True
theorem tz {hp:Hp}:∀cs,Iy hp Wx cs→∃a:A8,cs=Ap.enc a∧VM hp a:=by
 rintro cs (_ | ⟨_,_,_,_,⟨_,_,x0,rfl,y0⟩,(_ | ⟨_,_,_,_,⟨_,_,x1,rfl,y1⟩,(_ | ⟨_,_,_,_,⟨_,_,x2,rfl,y2⟩,(_ | ⟨_,_,_,_,⟨_,_,x3,rfl,y3⟩,(_ | ⟨_,_,_,_,⟨_,_,x4,rfl,y4⟩,(_ | _)⟩)⟩)⟩)⟩)⟩)
 exact ⟨⟨x0,x1,x2,x3,x4⟩,rfl,trivial⟩
noncomputable def wE:List Sh:= [.leaf (.int .i64), .leaf (.int .i64), .leaf (.int .i64), .leaf .str]
def de (_:Hp)(_:Ey):Prop:=True
theorem ACH {hp:Hp}:∀cs,Iy hp wE cs→∃a:Ey,cs=DP.enc a∧de hp a:=by
 rintro cs (_ | ⟨_,_,_,_,⟨_,_,x0,rfl,y0⟩,(_ | ⟨_,_,_,_,⟨_,_,x1,rfl,y1⟩,(_ | ⟨_,_,_,_,⟨_,_,x2,rfl,y2⟩,(_ | ⟨_,_,_,_,⟨_,_,⟨⟨x3⟩⟩,rfl,_⟩,(_ | _)⟩)⟩)⟩)⟩)
 exact ⟨⟨x0,x1,x2,x3⟩,rfl,trivial⟩
theorem l9:Nv Try.prog 9 52=some [.sl bJ 8, .sl Xt 24, .sl Wx 40, .leaf (.int .i64)]:=by kernel_rfl
theorem tB:Nv Try.prog 9 53=some [.sl wE 40]:=by kernel_rfl
/-! ### the run -/
set_option maxRecDepth 20000 in
theorem walk {H:Type}{enc:TypeId×Value→H}{W:World}{base:Nat}{v0 v1:Value}{d0 d1:DataW H}{p0 p1:List MemPlace}
  (h0:DataW.Trod enc Try.prog W 0 (fun _=>true) true 52 v0 d0 p0) (w0:∀n∈d0.weights Try.prog 52,n≤reachBytes) (o0:Value.okWide Try.prog W .any base 52 v0)
  (h1:DataW.Trod enc Try.prog W 0 (fun _=>true) true 53 v1 d1 p1) (w1:∀n∈d1.weights Try.prog 53,n≤reachBytes) (o1:Value.okWide Try.prog W .any base 53 v1) :
  Calls Try.prog 5 #[v0,v1] W (eV W):=by
 obtain ⟨r0,rfl⟩:=yr Try.underlying52 o0
 obtain ⟨fuel0,f0⟩:=h0
 obtain ⟨φ0,hp0,top0,cs0,O0⟩:=VJ (own:=fun b=>W.heap.size≤b) 9 52 _ l9 fuel0 _ _ f0 w0 (fun _=>none) (fun _=>none) 0 (Gm.nil W)
 obtain ⟨u0_0,u0_1,u0_2,u0_3,rfl,K0_0,K0_1,K0_2,K0_3⟩:∃c0 c1 c2 c3,cs0= [c0,c1,c2,c3]∧VC hp0 (.sl bJ 8) c0∧VC hp0 (.sl Xt 24) c1∧VC hp0 (.sl Wx 40) c2∧VC hp0 (.leaf (.int .i64)) c3:=by
  rcases O0.ok with (_ | ⟨_,_,_,_,k0,(_ | ⟨_,_,_,_,k1,(_ | ⟨_,_,_,_,k2,(_ | ⟨_,_,_,_,k3,(_ | _)⟩)⟩)⟩)⟩)
  exact ⟨_,_,_,_,rfl,k0,k1,k2,k3⟩
 have V0:V φ0 (.agg ⟨[u0_0,u0_1,u0_2,u0_3]⟩) (.agg ⟨r0⟩):= .agg _ _ O0.vs
 obtain ⟨a1,n1,c1,rfl⟩:=eH Try.underlying53 o1
 obtain ⟨fuel1,f1⟩:=h1
 obtain ⟨φ1,hp1,top1,cs1,O1⟩:=VJ (own:=fun b=>W.heap.size≤b) 9 53 _ tB fuel1 _ _ f1 w1 φ0 hp0 top0 O0.op
 obtain ⟨u1,rfl,V1,K1⟩:=O1.one
 have V0:=V0.mono O1.le
 obtain ⟨l0_0,S0_0,g0_0,z0_0⟩:=VC.Rn (K0_0.mono O1.ext) (E:=Ab) (Pw:=Zo hp1) rfl yH
 obtain ⟨l0_1,S0_1,g0_1,z0_1⟩:=VC.Rn (K0_1.mono O1.ext) (E:=An) (Pw:=U8 hp1) rfl rU
 obtain ⟨l0_2,S0_2,g0_2,z0_2⟩:=VC.Rn (K0_2.mono O1.ext) (E:=Ap) (Pw:=VM hp1) rfl tz
 obtain ⟨_,_,x0_3,rfl,_⟩:=K0_3
 obtain ⟨l1,S1,g1,z1⟩:=VC.Rn K1 (E:=DP) (Pw:=de hp1) rfl ACH
 have hrb:reachBytes≤140737488351232:=by decide
 have CL:=O1.op.hr.cl O1.op.top
 have hw:=kL.2 [.agg ⟨[u0_0,u0_1,u0_2, .int .i64 x0_3]⟩,u1] hp1 ⟨⟨⟨l0_0,S0_0⟩,⟨l0_1,S0_1⟩,⟨l0_2,S0_2⟩,by rw [S0_0.rd];exact Ou (by omega) (by rw [show Ph.bytes=8 from rfl];omega),by rw [S0_1.rd];exact Ou (by omega) (by rw [show ZY.bytes=24 from rfl];omega),by rw [S0_2.rd];exact Ou (by omega) (by rw [show Wu.bytes=40 from rfl];omega)⟩,l1,S1⟩ top1
 exact qf hw (.cons _ _ _ _ V0 (.cons _ _ _ _ V1 .nil)) O1.op
/-! ### the row -/
theorem laid:laidOutB Try.prog=true:=by kernel_rfl
theorem ACW:Try.prog.readableRec 52=true:=by kernel_rfl
theorem ACB:52 < Try.prog.types.size:=of_decide_eq_true (by kernel_rfl)
theorem ACf:Try.prog.readableRec 53=true:=by kernel_rfl
theorem ABq:53 < Try.prog.types.size:=of_decide_eq_true (by kernel_rfl)
set_option maxRecDepth 100000 in
theorem lifted (os:Os)(started:os.Started)(H:Type)(enc:TypeId×Value→H) :
  ReturnsInHanded {} Try.checked os 5 .any (Rows.netPlaysSpec.pre6 enc Try.prog Try.f5 Rows.netPlaysRow.domain false) (Rows.netPlaysSpec.post enc Try.prog Try.f5 false true false false):=by
 refine returnsInHanded_of_change_sized (C:=Try.checked) own started (by kernel_rfl) Try.func5
  (ChangeSpec.witness6 (enc:=enc) (C:=Try.checked) false ⟨#[], #[.agg #[.slice none 0 0, .slice none 0 0, .slice none 0 0, .int .i64 0], .slice none 0 0], []⟩ 8 (by kernel_rfl) (by kernel_rfl) (by kernel_rfl) (by kernel_rfl)) ?_
 intro W base args ds gs before hval0 hW hcnd hz0 _
 have hval:∀(j:Nat) t v,Try.f5.params[j]? = some t→args[j]? = some v→Value.okWide Try.prog W .any base t v:=hval0
 have hz:∀(j:Nat) t (d:DataW H),(Try.f5.params.toList ++ Rows.netPlaysSpec.plain.varTypes Try.prog)[j]? = some t→(ds ++ gs)[j]? = some d→∀n∈d.weights Try.prog t,n≤reachBytes:=
  fun j t d ht hd n hn=>of_decide_eq_true (List.all_eq_true.1 hz0 n (DataW.weights_mem_each ht hd n hn))
 have hW':=hW
 have hlt:=hW.lt
 obtain ⟨p,q,hA0,hV,rfl,hfz,hnd⟩:=hW
 have hA:DataW.TrodAll enc Try.prog W 0 (fun _=>true) true Try.f5.params.toList args.toList ds p:=hA0
 rw [Try.params5] at hA hval hz
 obtain ⟨v0,v1,d0,d1,p0,p1,rfl,rfl,rfl,h0,h1⟩:=trodAll_two hA
 obtain ⟨rfl,rfl⟩:=trodVars_none hV
 clear hA0 hval0
 simp only [List.append_nil] at hW' hlt
 refine (walk h0 (hz 0 52 d0 rfl rfl) (hval 0 52 v0 rfl rfl) h1 (hz 1 53 d1 rfl rfl) (hval 1 53 v1 rfl rfl)).mono fun e W' ⟨he,hb⟩=> ?_
 subst he
 refine ⟨_,rfl,cN (pa:=(p0 ++ (p1 ++ []))) (pv:= []) hW' (fun _ _ _=>(trodAll_cons_mk (shut_bool Try.underlying4 _) trodAll_mk0)) (fun sp hsp=> ?_) (fun _ _=>rfl) (by simp)
  (hb.frame _)⟩
 exact (trodAll_cons_mk (WideElems.Trod_stays laid ACW ACB h0 (fun x hx=>hb.same (hlt x (by simp [hx]))) (fun x hx=>hsp x (by simp [hx]))) (trodAll_cons_mk (WideElems.Trod_stays laid ACf ABq h1 (fun x hx=>hb.same (hlt x (by simp [hx]))) (fun x hx=>hsp x (by simp [hx]))) trodAll_mk0))
theorem Oz:Rows.netPlaysRow.holds Try.pinned (OpenSpec.ofChange Rows.netPlaysSpec):=
 OpenClaim.holds_of_wide 5 Try.f5 rfl rfl rfl rfl rfl rfl rfl ⟨rfl,rfl,rfl,rfl,rfl⟩ rfl rfl rfl rfl rfl (by kernel_rfl) Try.func5 (by kernel_rfl)
  (of_decide_eq_true (by kernel_rfl)) (by unfold Func.isWrapper;first | (rw [if_pos (by decide +kernel)];kernel_rfl) | (rw [if_neg (by decide +kernel)];exact ⟨rfl,rfl⟩))
  (fun os started H enc _=>lifted os started H enc)
/-- THE STATEMENT -/
theorem proved:Rows.NetPlaysSaid:=
 Oz
#print axioms proved
end Go.Proofs.Ytmppehipfpkepaa.netPlays
