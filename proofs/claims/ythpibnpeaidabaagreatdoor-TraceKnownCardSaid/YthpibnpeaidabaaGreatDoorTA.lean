/- errors.As at a target of the program (a worked proof of the kit, turned). -/
import Derived.Test.YthpibnpeaidabaaGreatDoorTB4
import Derived.WalkKit
import Derived.LaidEql
import Derived.Stop.Asserts
import Derived.RowKitTokens
set_option linter.unusedSimpArgs false
set_option linter.unusedVariables false
namespace Go.Proofs.YthpibnpeaidabaaGreatDoor.Dm
open Go.RowKit Go.Extern.Stop Go.Stop Go.Extern
set_option maxRecDepth 100000
set_option maxHeartbeats 4000000
theorem nW (t:Value)(w:World) :
  Calls Tryz.prog 44 #[.nilIface,t] w fun e w'=>e= .returned (.bool false)∧w' = w:=by
 go_enter Tryz.func44,Tryz.ntmps44
 go_wp2
 go_ret
 exact ⟨rfl,rfl⟩
theorem NI (t:Addr)(w:World):(ReflectliteValue.unpack (.iface 89 (.pointer (some t)))).run Tryz.prog w
  = .ok (.agg #[.pointer (some ⟨9,89,none⟩), .pointer (some ⟨w.heap.size,0,none⟩), .int .u64 150]) (w.alloc (.cells #[.pointer (some t)] 89)):=by kernel_rfl
theorem T9 (a:Addr)(w:World):(ReflectliteValue.methodAny (ReflectliteValue.valueError "reflectlite.Value.Type" 0) (fun t _ _ _=>ReflectliteType.toType t) #[.agg #[.pointer (some ⟨9,89,none⟩), .pointer (some a), .int .u64 150]]).run Tryz.prog w
  = .ok (.iface 127 (.agg #[.pointer (some ⟨9,89,none⟩)])) w:=by kernel_rfl
theorem MV (h:Value)(w:World):(Go.method 331 127 (.agg #[h]) "Kind").run Tryz.prog w= .ok (157,h) w:=by kernel_rfl
theorem Ts (w:World):((ReflectliteType.abiMethod fun t=>(fun a:Nat=>Value.int IntKind.u8 (a:Int)) <$> Rtype.kind t) #[.pointer (some ⟨9,89,none⟩)]).run Tryz.prog w= .ok (.int .u8 22) w:=by kernel_rfl
theorem TC (w:World):((ReflectliteType.abiMethod fun t=>(fun a:Nat=>Value.int IntKind.u8 (a:Int)) <$> Rtype.kind t) #[.pointer (some ⟨9,84,none⟩)]).run Tryz.prog w= .ok (.int .u8 22) w:=by kernel_rfl
theorem tG (z:Sem Value)(f:TypeId→Addr→Nat→Nat→Sem Value)(v:Value) :
  ReflectliteValue.method z f #[v] = (do match ←ReflectliteValue.parts v with | none=>z | some (t,a,fl)=>f t a fl (fl % 32)):=rfl
theorem KZ (a:Addr)(w:World):(ReflectliteValue.parts (.agg #[.pointer (some ⟨9,89,none⟩), .pointer (some a), .int .u64 150])).run Tryz.prog w= .ok (some (89,a,150)) w:=by kernel_rfl
theorem RF (a p:Addr)(W:World)(ha:W.cell? a=some (.pointer (some p))) :
  (ReflectliteValue.method (ReflectliteValue.valueError "reflectlite.Value.IsNil" 0) ReflectliteValue.isNil #[.agg #[.pointer (some ⟨9,89,none⟩), .pointer (some a), .int .u64 150]]).run Tryz.prog W= .ok (.bool false) W:=by
 rw [tG]
 simp only [Sem.run_bind,KZ,Result.andThen]
 simp [ReflectliteValue.isNil,loadVar,isAgg,underlying,Tryz.underlying89,ha,Result.andThen]
theorem Ll (h:Value)(w:World):(Go.method 331 127 (.agg #[h]) "Elem").run Tryz.prog w= .ok (170, .agg #[h]) w:=by kernel_rfl
theorem Hc (h:Value)(w:World):(Go.method 331 127 (.agg #[h]) "Implements").run Tryz.prog w= .ok (171, .agg #[h]) w:=by kernel_rfl
theorem Gi (h:Value)(w:World):(Go.method 331 127 (.agg #[h]) "AssignableTo").run Tryz.prog w= .ok (168, .agg #[h]) w:=by kernel_rfl
theorem Su (w:World):(ReflectliteType.method ReflectliteType.elem #[.agg #[.pointer (some ⟨9,89,none⟩)]]).run Tryz.prog w= .ok (.iface 127 (.agg #[.pointer (some ⟨9,84,none⟩)])) w:=by kernel_rfl
theorem KH (w:World):(ReflectliteType.relation "Implements" ReflectliteType.implements_ #[.agg #[.pointer (some ⟨9,84,none⟩)], .iface 127 (.agg #[.pointer (some ⟨9,35,none⟩)])]).run Tryz.prog w= .ok (.bool true) w:=by kernel_rfl
theorem PH (v:Value)(w:World):(ReflectliteType.typeOf #[.iface 84 v]).run Tryz.prog w= .ok (.iface 127 (.agg #[.pointer (some ⟨9,84,none⟩)])) w:=by kernel_rfl
theorem KJ (w:World):(ReflectliteType.relation "AssignableTo" ReflectliteType.assignableTo #[.agg #[.pointer (some ⟨9,84,none⟩)], .iface 127 (.agg #[.pointer (some ⟨9,84,none⟩)])]).run Tryz.prog w= .ok (.bool true) w:=by kernel_rfl
theorem NM (e:Addr)(w:World):(ReflectliteValue.unpack (.iface 84 (.pointer (some e)))).run Tryz.prog w
  = .ok (.agg #[.pointer (some ⟨9,84,none⟩), .pointer (some ⟨w.heap.size,0,none⟩), .int .u64 150]) (w.alloc (.cells #[.pointer (some e)] 84)):=by kernel_rfl
theorem Oq (w:World):(Rtype.elem? 89).run Tryz.prog w= .ok (some 84) w:=by kernel_rfl
theorem Z8 (p:Addr)(w:World):(ReflectliteValue.mk 84 p ReflectliteValue.flagAddr).run Tryz.prog w= .ok (.agg #[.pointer (some ⟨9,84,none⟩), .pointer (some p), .int .u64 406]) w:=by kernel_rfl
theorem Ru (a p:Addr)(W:World)(ha:W.cell? a=some (.pointer (some p))) :
  (ReflectliteValue.method (ReflectliteValue.valueError "reflectlite.Value.Elem" 0) ReflectliteValue.elem #[.agg #[.pointer (some ⟨9,89,none⟩), .pointer (some a), .int .u64 150]]).run Tryz.prog W
   = .ok (.agg #[.pointer (some ⟨9,84,none⟩), .pointer (some p), .int .u64 406]) W:=by
 rw [tG]
 simp only [Sem.run_bind,KZ,Result.andThen]
 simp [ReflectliteValue.elem,loadVar,isAgg,underlying,Tryz.underlying89,ha,Result.andThen,Oq,Z8]
theorem tQ (v x:Value):ReflectliteValue.set #[v,x] = (do
  let (some (dst,a,fl),some (src,b,_)):=(←ReflectliteValue.parts v,←ReflectliteValue.parts x)
   |unsupported (.noEntry "extern/(internal/reflectlite.Value).Set.zeroValue")
  if fl / ReflectliteValue.flagAddr % 2 == 0 then unsupported (.noEntry "extern/(internal/reflectlite.Value).Set.unaddressable")
  let val ←loadVar src b
  if ←Rtype.directlyAssignable dst src then storeVar dst a val
  else if ←Rtype.implements dst src then
   if (←Rtype.kind src) == 20 then
    match val with
    | .nilIface=>unsupported (.noEntry "extern/reflectlite: a nil value of one interface type handed on as a value of another")
    |_=>storeVar dst a val
   else storeVar dst a (.iface src val)
  else panicString ("reflectlite.Set: value of type " ++ (←Rtype.spelt src) ++ " is not assignable to type " ++ (←Rtype.spelt dst))
  pure (.tuple #[])):=rfl
theorem PZ (a:Addr)(w:World):(ReflectliteValue.parts (.agg #[.pointer (some ⟨9,84,none⟩), .pointer (some a), .int .u64 406])).run Tryz.prog w= .ok (some (84,a,406)) w:=by kernel_rfl
theorem SY (a:Addr)(w:World):(ReflectliteValue.parts (.agg #[.pointer (some ⟨9,84,none⟩), .pointer (some a), .int .u64 150])).run Tryz.prog w= .ok (some (84,a,150)) w:=by kernel_rfl
theorem OQ (w:World):(Rtype.directlyAssignable 84 84).run Tryz.prog w= .ok true w:=by kernel_rfl
theorem Ww (ta b e:Addr)(HX:Value)(W:World)(hb:W.cell? b=some (.pointer (some e)))(ht:W.cell? ta=some HX)(hf:W.frozen? ta=false) :
  (ReflectliteValue.set #[.agg #[.pointer (some ⟨9,84,none⟩), .pointer (some ta), .int .u64 406], .agg #[.pointer (some ⟨9,84,none⟩), .pointer (some b), .int .u64 150]]).run Tryz.prog W
   = .ok (.tuple #[]) (W.setCell ta (.pointer (some e))):=by
 rw [tQ]
 simp only [Sem.run_bind,PZ,SY,Result.andThen]
 simp [ReflectliteValue.flagAddr,loadVar,isAgg,underlying,Tryz.underlying84,hb,Result.andThen,OQ,storeVar,Value.cells,storeCells,Addr.add]
 rw [run_store Tryz.prog W ta _ _ (by rfl)]
 simp [ht,hf]
set_option maxHeartbeats 4000000 in
theorem mS (e t:Addr)(HX:Value)(w:World)(hg:w.cell? ⟨0,0,none⟩=some (.iface 127 (.agg #[.pointer (some ⟨9,35,none⟩)])))(ht0:w.cell? t=some HX)(hf0:w.frozen? t=false) :
  Calls Tryz.prog 44 #[.iface 84 (.pointer (some e)), .iface 89 (.pointer (some t))] w fun ev w'=>ev= .returned (.bool true)∧w' = ((((w.alloc (.cells #[.pointer (some t)] 89)).alloc (.cells #[.pointer (some ⟨9,89,none⟩), .pointer (some ⟨w.heap.size,0,none⟩), .int .u64 150] 113)).alloc (.cells #[.pointer (some ⟨9,89,none⟩), .pointer (some ⟨w.heap.size,0,none⟩), .int .u64 150] 113)).alloc (.cells #[.pointer (some e)] 84)).setCell t (.pointer (some e)):=by
 have h6:= @run_callFunc_extern Tryz.prog 70 _ (fun args=>ReflectliteValue.unpack (args.getD 0 (.tuple #[]))) Tryz.func70 (by kernel_rfl) (by kernel_rfl) (by kernel_rfl) (by kernel_rfl)
 have h7:= @run_callFunc_extern Tryz.prog 71 _ (ReflectliteValue.methodAny (ReflectliteValue.valueError "reflectlite.Value.Type" 0) (fun t _ _ _=>ReflectliteType.toType t)) Tryz.func71 (by kernel_rfl) (by kernel_rfl) (by kernel_rfl) (by kernel_rfl)
 have h8:= @run_callFunc_extern Tryz.prog 72 _ (ReflectliteValue.method (ReflectliteValue.valueError "reflectlite.Value.IsNil" 0) ReflectliteValue.isNil) Tryz.func72 (by kernel_rfl) (by kernel_rfl) (by kernel_rfl) (by kernel_rfl)
 have h27:= @run_callFunc_extern Tryz.prog 157 _ (ReflectliteType.abiMethod fun t=>do pure (.int .u8 (←Rtype.kind t))) Tryz.func157 (by kernel_rfl) (by kernel_rfl) (by kernel_rfl) (by kernel_rfl)
 have h37:= @run_callFunc_extern Tryz.prog 170 _ (ReflectliteType.method ReflectliteType.elem) Tryz.func170 (by kernel_rfl) (by kernel_rfl) (by kernel_rfl) (by kernel_rfl)
 have h38:= @run_callFunc_extern Tryz.prog 171 _ (ReflectliteType.relation "Implements" ReflectliteType.implements_) Tryz.func171 (by kernel_rfl) (by kernel_rfl) (by kernel_rfl) (by kernel_rfl)
 have h10:= @run_callFunc_extern Tryz.prog 53 _ ReflectliteType.typeOf Tryz.func53 (by kernel_rfl) (by kernel_rfl) (by kernel_rfl) (by kernel_rfl)
 have h35:= @run_callFunc_extern Tryz.prog 168 _ (ReflectliteType.relation "AssignableTo" ReflectliteType.assignableTo) Tryz.func168 (by kernel_rfl) (by kernel_rfl) (by kernel_rfl) (by kernel_rfl)
 have h11:= @run_callFunc_extern Tryz.prog 96 _ (ReflectliteValue.method (ReflectliteValue.valueError "reflectlite.Value.Elem" 0) ReflectliteValue.elem) Tryz.func96 (by kernel_rfl) (by kernel_rfl) (by kernel_rfl) (by kernel_rfl)
 have h12:= @run_callFunc_extern Tryz.prog 97 _ ReflectliteValue.set Tryz.func97 (by kernel_rfl) (by kernel_rfl) (by kernel_rfl) (by kernel_rfl)
 have tO:=PH
 have mA:=Gi
 have a25:=KJ
 have v25:=NM
 have f6:=NI
 have f7:=T9
 have mK:=MV
 have mE:=Ll
 have mI:=Hc
 have k27:=Ts
 have k25:=TC
 have e27:=Su
 have i25:=KH
 have n8:=RF ⟨w.heap.size,0,none⟩ t ((w.alloc (.cells #[.pointer (some t)] 89)).alloc (.cells #[.pointer (some ⟨9,89,none⟩), .pointer (some ⟨w.heap.size,0,none⟩), .int .u64 150] 113)) (by simp)
 have hlt:0 < w.heap.size:=by
  rcases Nat.eq_zero_or_pos w.heap.size with h0 | h
  ·simp [World.cell?,h0] at hg
  ·exact h
 have hg2:((w.alloc (.cells #[.pointer (some t)] 89)).alloc (.cells #[.pointer (some ⟨9,89,none⟩), .pointer (some ⟨w.heap.size,0,none⟩), .int .u64 150] 113)).cell? ⟨0,0,none⟩=some (.iface 127 (.agg #[.pointer (some ⟨9,35,none⟩)])):=by
  rw [World.cell?_alloc_lt _ _ ⟨0,0,none⟩ (by simp),World.cell?_alloc_lt _ _ ⟨0,0,none⟩ hlt];exact hg
 have htl:t.block < w.heap.size:=by
  rcases Nat.lt_or_ge t.block w.heap.size with h | h
  ·exact h
  ·simp [World.cell?,Array.getElem?_eq_none h] at ht0
 have el:=Ru ⟨w.heap.size,0,none⟩ t (((w.alloc (.cells #[.pointer (some t)] 89)).alloc (.cells #[.pointer (some ⟨9,89,none⟩), .pointer (some ⟨w.heap.size,0,none⟩), .int .u64 150] 113)).alloc (.cells #[.pointer (some ⟨9,89,none⟩), .pointer (some ⟨w.heap.size,0,none⟩), .int .u64 150] 113)) (by rw [World.cell?_alloc_lt _ _ ⟨w.heap.size,0,none⟩ (by simp;omega)];simp)
 have st:=Ww t ⟨w.heap.size+1+1+1,0,none⟩ e HX ((((w.alloc (.cells #[.pointer (some t)] 89)).alloc (.cells #[.pointer (some ⟨9,89,none⟩), .pointer (some ⟨w.heap.size,0,none⟩), .int .u64 150] 113)).alloc (.cells #[.pointer (some ⟨9,89,none⟩), .pointer (some ⟨w.heap.size,0,none⟩), .int .u64 150] 113)).alloc (.cells #[.pointer (some e)] 84))
  (by rw [World.cell?_alloc_at _ _ _ _ (by simp)];rfl)
  (by rw [World.cell?_alloc_lt _ _ t (by simp;omega),World.cell?_alloc_lt _ _ t (by simp;omega),World.cell?_alloc_lt _ _ t (by simp;omega),World.cell?_alloc_lt _ _ t htl];exact ht0)
  (by rw [World.frozen?_alloc_old _ _ t (by simp;omega),World.frozen?_alloc_old _ _ t (by simp;omega),World.frozen?_alloc_old _ _ t (by simp;omega),World.frozen?_alloc_old _ _ t (Nat.ne_of_lt htl)];exact hf0)
 go_enter Tryz.func44,Tryz.ntmps44
 go_wp2
 refine wp_loop_rounds 1 ?_
 rw [rounds_succ]
 go_wp2
 go_ret
 exact ⟨rfl,rfl⟩
end Go.Proofs.YthpibnpeaidabaaGreatDoor.Dm
