/- errors.Is of a fault and its number (after the kit's worked example). -/
import Derived.Test.YthpibnpeaidabaaGreatDoorTB4
import Derived.WalkKit
import Derived.LaidEql
import Derived.Stop.Asserts
import Derived.RowKitTokens
import Derived.Test.YthpibnpeaidabaaGreatDoorTPC
set_option linter.unusedSimpArgs false
set_option linter.unusedVariables false
namespace Go.Proofs.YthpibnpeaidabaaGreatDoor.Dm
open Go.RowKit Go.Extern.Stop Go.Stop Go.Extern
set_option maxRecDepth 100000
set_option maxHeartbeats 4000000
theorem TP (v:Value)(w:World):(Extern.ReflectliteType.typeOf #[.iface 24 v]).run Tryz.prog w= .ok (.iface 127 (.agg #[.pointer (some ⟨9,24,none⟩)])) w:=by kernel_rfl
theorem M6 (w:World):((Extern.ReflectliteType.method fun t=>do Rtype.noPackHeld "Comparable" t;(fun a=>Value.bool a.comparable) <$> typeInfo t) #[.agg #[.pointer (some ⟨9,24,none⟩)]]).run Tryz.prog w= .ok (.bool true) w:=by kernel_rfl
theorem Hn (v:Value)(w:World):(Go.method 331 127 v "Comparable").run Tryz.prog w= .ok (169,v) w:=by kernel_rfl
theorem ZQ:(Tryz.prog.info? 24).map (·.comparable)=some true:=by kernel_rfl
theorem Wx (v:Value)(xT:TypeId)(w:World):(Instr.typeAssert (.iface 84 v) xT 129 true).run Tryz.prog w= .ok (.tuple #[.nilIface, .bool false]) w:=run_typeAssert_lacksB Tryz.underlying129 (by kernel_rfl) (by kernel_rfl) v xT w
theorem Mx (v:Value)(xT:TypeId)(w:World):(Instr.typeAssert (.iface 84 v) xT 132 true).run Tryz.prog w= .ok (.tuple #[.iface 84 v, .bool true]) w:=run_typeAssert_hasB Tryz.underlying132 (by kernel_rfl) v xT w
theorem KC (v:Value)(w:World):(Go.method 331 84 v "Unwrap").run Tryz.prog w= .ok (163,v) w:=by kernel_rfl
theorem run_eql_iface_int {P:Program}{ti tp:TypeId}{ms:Array (String×TypeId)}{i:TypeInfo}{k:IntKind}(w:World)(n:Int)
  (hi:P.underlying ti=some (.interface ms)) (hp:P.underlying tp=some (.int k)) (hinfo:P.info? tp=some i) (hcomp:i.comparable=true) :
  (binOp .eql ti (.iface tp (.int k n)) (.iface tp (.int k n))).run P w= .ok (.bool true) w:=by
 have h:∀d:Nat,(Op.equalIn (d+2) ti (.iface tp (.int k n)) (.iface tp (.int k n))).run P w= .ok true w:=fun d=>by
  simp [Op.equalIn,run_underlying hi,run_underlying hp,typeInfo,hinfo,hcomp]
 simp only [binOp]
 simp [Op.equal,Op.maxDepth,h 9998]
theorem aM (pb po:Nat)(c:Int)(w:World)(h1:w.cell? ⟨pb,po,none⟩=some (.int .i64 c)) :
  Calls Tryz.prog 27 #[.iface 84 (.pointer (some ⟨pb,po,none⟩)), .iface 24 (.int .i64 c)] w fun e w'=>e= .returned (.bool true)∧w' = w:=by
 obtain ⟨i,hi,hcmp⟩:=Option.map_eq_some_iff.1 ZQ
 have h8:= @run_callFunc_extern Tryz.prog 53 _ Extern.ReflectliteType.typeOf Tryz.func53 (by kernel_rfl) (by kernel_rfl) (by kernel_rfl) (by kernel_rfl)
 have h32:= @run_callFunc_extern Tryz.prog 169 _ (Extern.ReflectliteType.method fun t=>do Rtype.noPackHeld "Comparable" t;pure (.bool (←typeInfo t).comparable)) Tryz.func169 (by kernel_rfl) (by kernel_rfl) (by kernel_rfl) (by kernel_rfl)
 have tT:=TP
 have cT:=M6
 have mR:=Hn
 have nF:=Wx
 have uF:=Mx
 have mU:=KC
 have heq:=fun W=>run_eql_iface_int (P:=Tryz.prog) W c Tryz.underlying35 Tryz.underlying24 hi hcmp
 have hty:=fun W=>run_eql_iface_types (P:=Tryz.prog) 84 24 (.pointer (some ⟨pb,po,none⟩)) (.int .i64 c) Tryz.underlying35 (by decide) W
 go_enter Tryz.func27,Tryz.ntmps27
 go_wp2
 refine wp_loop_rounds 2 ?_
 rw [rounds_succ]
 go_wp2
 rw [rounds_succ]
 go_wp2
 go_ret
 exact ⟨rfl,rfl⟩
end Go.Proofs.YthpibnpeaidabaaGreatDoor.Dm
set_option linter.unusedSimpArgs false
set_option linter.unusedVariables false
namespace Go.Proofs.YthpibnpeaidabaaGreatDoor.Dm
open Go.Dm Go.RowKit
set_option maxHeartbeats 16000000
set_option maxRecDepth 20000
def Ke:BO:= .pure (fun args hp=>match args with
  | [.iface t (.pointer (some ⟨e,0,none⟩)), .iface u (.int .i64 c)]=>t=84∧u=24∧∃n,hp e=FZ c n
  |_=>False) (fun _ _=> .bool true)
theorem pd:BG Tryz.prog 27 Ke:=by
 refine ⟨⟨_,Vt.toFTOk⟩,fun args hp hpre top=> ?_⟩
 match args,hpre with
 | [.iface t (.pointer (some ⟨e,0,none⟩)), .iface u (.int .i64 c)],⟨ht,hu,n,he⟩=>
 subst ht hu
 intro φ own w args' hargs H htop
 cases hargs with
 |cons _ _ _ _ hx hl=>
 cases hl with
 |cons _ _ _ _ hy hl=>
 cases hl
 cases hx with
 |iface _ _ xv hx=>
 cases hy with
 |iface _ _ yv hy=>
 cases hy
 cases hx with
 |ptr _ _ L hL=>
 obtain ⟨L',hL',hok⟩:=H.obj e _ he
 rw [hL] at hL';cases hL'
 obtain ⟨_,cs,ct,fz,hh,hsz,hlim,hvs,_⟩:=hok
 have hoff:L.off < cs.size:=by simp at hlim;omega
 have h1:w.cell? ⟨L.Bl,L.off+0,none⟩=some (.int .i64 c):=by
  rw [List.drop_eq_getElem_cons (by simpa using hoff)] at hvs
  cases hvs with
  |cons _ _ _ _ h0 _=>
  have h0':=h0
  generalize hq:cs.toList[L.off] = q at h0'
  cases h0'
  simp [World.cell?,hh,hoff]
  simpa using hq
 refine Calls.mono (aM L.Bl (L.off+0) c w h1) ?_
 rintro ev w' ⟨rfl,rfl⟩
 exact ⟨_,_,_,_,φ,rfl,⟨rfl,rfl,rfl⟩,⟨Dm.Ren.le_refl _, .bool _,H,Dm.K.refl _ _,htop⟩⟩
end Go.Proofs.YthpibnpeaidabaaGreatDoor.Dm
