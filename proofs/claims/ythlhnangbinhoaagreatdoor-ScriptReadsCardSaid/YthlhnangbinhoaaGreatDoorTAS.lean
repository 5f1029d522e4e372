/- errors.As at a target of the program (a worked proof of the kit, turned). -/
import Derived.Test.YthlhnangbinhoaaGreatDoorSA
import Derived.WalkKit
import Derived.LaidEql
import Derived.Stop.Asserts
import Derived.RowKitTokens
set_option linter.unusedVariables false
namespace Go.Proofs.YthlhnangbinhoaaGreatDoor.Dm
open Go.RowKit Go.Extern.Stop Go.Stop Go.Extern
set_option maxRecDepth 100000
set_option maxHeartbeats 4000000
theorem uI (t:Value)(w:World) :
  Calls Tryz.prog 17 #[.nilIface,t] w fun e w'=>e= .returned (.bool false)∧w' = w:=by
 go_enter Tryz.func17,Tryz.ntmps17
 go_wp2
 go_ret
 exact ⟨rfl,rfl⟩
theorem SB (t:Addr)(w:World):(ReflectliteValue.unpack (.iface 53 (.pointer (some t)))).run Tryz.prog w
  = .ok (.agg #[.pointer (some ⟨9,53,none⟩), .pointer (some ⟨w.heap.size,0,none⟩), .int .u64 150]) (w.alloc (.cells #[.pointer (some t)] 53)):=by kernel_rfl
theorem YE (a:Addr)(w:World):(ReflectliteValue.methodAny (ReflectliteValue.valueError "reflectlite.Value.Type" 0) (fun t _ _ _=>ReflectliteType.toType t) #[.agg #[.pointer (some ⟨9,53,none⟩), .pointer (some a), .int .u64 150]]).run Tryz.prog w
  = .ok (.iface 150 (.agg #[.pointer (some ⟨9,53,none⟩)])) w:=by kernel_rfl
theorem QK (h:Value)(w:World):(Go.method 391 150 (.agg #[h]) "Kind").run Tryz.prog w= .ok (164,h) w:=by kernel_rfl
theorem YD (w:World):((ReflectliteType.abiMethod fun t=>(fun a:Nat=>Value.int IntKind.u8 (a:Int)) <$> Rtype.kind t) #[.pointer (some ⟨9,53,none⟩)]).run Tryz.prog w= .ok (.int .u8 22) w:=by kernel_rfl
theorem YC (w:World):((ReflectliteType.abiMethod fun t=>(fun a:Nat=>Value.int IntKind.u8 (a:Int)) <$> Rtype.kind t) #[.pointer (some ⟨9,51,none⟩)]).run Tryz.prog w= .ok (.int .u8 22) w:=by kernel_rfl
theorem rlm (z:Sem Value)(f:TypeId→Addr→Nat→Nat→Sem Value)(v:Value) :
  ReflectliteValue.method z f #[v] = (do match ←ReflectliteValue.parts v with | none=>z | some (t,a,fl)=>f t a fl (fl % 32)):=rfl
theorem Oi (a:Addr)(w:World):(ReflectliteValue.parts (.agg #[.pointer (some ⟨9,53,none⟩), .pointer (some a), .int .u64 150])).run Tryz.prog w= .ok (some (53,a,150)) w:=by kernel_rfl
theorem Vx (a p:Addr)(W:World)(ha:W.cell? a=some (.pointer (some p))) :
  (ReflectliteValue.method (ReflectliteValue.valueError "reflectlite.Value.IsNil" 0) ReflectliteValue.isNil #[.agg #[.pointer (some ⟨9,53,none⟩), .pointer (some a), .int .u64 150]]).run Tryz.prog W= .ok (.bool false) W:=by
 rw [rlm]
 simp only [Sem.run_bind,Oi,Result.andThen]
 simp [ReflectliteValue.isNil,loadVar,isAgg,underlying,Tryz.underlying53,ha,Result.andThen]
theorem QJ (h:Value)(w:World):(Go.method 391 150 (.agg #[h]) "Elem").run Tryz.prog w= .ok (179, .agg #[h]) w:=by kernel_rfl
theorem Ji (h:Value)(w:World):(Go.method 391 150 (.agg #[h]) "Implements").run Tryz.prog w= .ok (180, .agg #[h]) w:=by kernel_rfl
theorem Im (h:Value)(w:World):(Go.method 391 150 (.agg #[h]) "AssignableTo").run Tryz.prog w= .ok (177, .agg #[h]) w:=by kernel_rfl
theorem YB (w:World):(ReflectliteType.method ReflectliteType.elem #[.agg #[.pointer (some ⟨9,53,none⟩)]]).run Tryz.prog w= .ok (.iface 150 (.agg #[.pointer (some ⟨9,51,none⟩)])) w:=by kernel_rfl
theorem Nr (w:World):(ReflectliteType.relation "Implements" ReflectliteType.implements_ #[.agg #[.pointer (some ⟨9,51,none⟩)], .iface 150 (.agg #[.pointer (some ⟨9,38,none⟩)])]).run Tryz.prog w= .ok (.bool true) w:=by kernel_rfl
theorem UA (v:Value)(w:World):(ReflectliteType.typeOf #[.iface 51 v]).run Tryz.prog w= .ok (.iface 150 (.agg #[.pointer (some ⟨9,51,none⟩)])) w:=by kernel_rfl
theorem Nq (w:World):(ReflectliteType.relation "AssignableTo" ReflectliteType.assignableTo #[.agg #[.pointer (some ⟨9,51,none⟩)], .iface 150 (.agg #[.pointer (some ⟨9,51,none⟩)])]).run Tryz.prog w= .ok (.bool true) w:=by kernel_rfl
theorem SA (e:Addr)(w:World):(ReflectliteValue.unpack (.iface 51 (.pointer (some e)))).run Tryz.prog w
  = .ok (.agg #[.pointer (some ⟨9,51,none⟩), .pointer (some ⟨w.heap.size,0,none⟩), .int .u64 150]) (w.alloc (.cells #[.pointer (some e)] 51)):=by kernel_rfl
theorem T8 (w:World):(Rtype.elem? 53).run Tryz.prog w= .ok (some 51) w:=by kernel_rfl
theorem gN (p:Addr)(w:World):(ReflectliteValue.mk 51 p ReflectliteValue.flagAddr).run Tryz.prog w= .ok (.agg #[.pointer (some ⟨9,51,none⟩), .pointer (some p), .int .u64 406]) w:=by kernel_rfl
theorem Vw (a p:Addr)(W:World)(ha:W.cell? a=some (.pointer (some p))) :
  (ReflectliteValue.method (ReflectliteValue.valueError "reflectlite.Value.Elem" 0) ReflectliteValue.elem #[.agg #[.pointer (some ⟨9,53,none⟩), .pointer (some a), .int .u64 150]]).run Tryz.prog W
   = .ok (.agg #[.pointer (some ⟨9,51,none⟩), .pointer (some p), .int .u64 406]) W:=by
 rw [rlm]
 simp only [Sem.run_bind,Oi,Result.andThen]
 simp [ReflectliteValue.elem,loadVar,isAgg,underlying,Tryz.underlying53,ha,Result.andThen,T8,gN]
theorem rls (v x:Value):ReflectliteValue.set #[v,x] = (do
  let (some (dst,a,fl),some (src,b,_)):=(←ReflectliteValue.parts v,←ReflectliteValue.parts x)
   |unsupported (.noEntry "extern/(internal/reflectlite.Value).Set.zeroValue")
  if fl / ReflectliteValue.flagAddr % 2 == 0 then unsupported (.noEntry "extern/(internal/reflectlite.Value).Set.unaddressable")
  let val ←loadVar src b
  if ←Rtype.directlyAssignable dst src then storeVar dst a val
  else if ←Rtype.implements dst src then
   if (←Rtype.kind src) == 20 then
    match val with
    | .nilIface=>unsupported (.noEntry "extern/reflectlite: a nil value of one interface type handed on as a value of another")
    |_=>storeVar dst a val
   else storeVar dst a (.iface src val)
  else panicString ("reflectlite.Set: value of type " ++ (←Rtype.spelt src) ++ " is not assignable to type " ++ (←Rtype.spelt dst))
  pure (.tuple #[])):=rfl
theorem T9 (a:Addr)(w:World):(ReflectliteValue.parts (.agg #[.pointer (some ⟨9,51,none⟩), .pointer (some a), .int .u64 406])).run Tryz.prog w= .ok (some (51,a,406)) w:=by kernel_rfl
theorem Vy (a:Addr)(w:World):(ReflectliteValue.parts (.agg #[.pointer (some ⟨9,51,none⟩), .pointer (some a), .int .u64 150])).run Tryz.prog w= .ok (some (51,a,150)) w:=by kernel_rfl
theorem T7(w:World):(Rtype.directlyAssignable 51 51).run Tryz.prog w= .ok true w:=by kernel_rfl
theorem cp (ta b e:Addr)(MR:Value)(W:World)(hb:W.cell? b=some (.pointer (some e)))(ht:W.cell? ta=some MR)(hf:W.frozen? ta=false) :
  (ReflectliteValue.set #[.agg #[.pointer (some ⟨9,51,none⟩), .pointer (some ta), .int .u64 406], .agg #[.pointer (some ⟨9,51,none⟩), .pointer (some b), .int .u64 150]]).run Tryz.prog W
   = .ok (.tuple #[]) (W.setCell ta (.pointer (some e))):=by
 rw [rls]
 simp only [Sem.run_bind,T9,Vy,Result.andThen]
 simp [ReflectliteValue.flagAddr,loadVar,isAgg,underlying,Tryz.underlying51,hb,Result.andThen,T7,storeVar,Value.cells,storeCells,Addr.add]
 rw [run_store Tryz.prog W ta _ _ (by rfl)]
 simp [ht,hf]
set_option maxHeartbeats 4000000 in
theorem uH (e t:Addr)(MR:Value)(w:World)(hg:w.cell? ⟨0,0,none⟩=some (.iface 150 (.agg #[.pointer (some ⟨9,38,none⟩)])))(ht0:w.cell? t=some MR)(hf0:w.frozen? t=false) :
  Calls Tryz.prog 17 #[.iface 51 (.pointer (some e)), .iface 53 (.pointer (some t))] w fun ev w'=>ev= .returned (.bool true)∧w' = ((((w.alloc (.cells #[.pointer (some t)] 53)).alloc (.cells #[.pointer (some ⟨9,53,none⟩), .pointer (some ⟨w.heap.size,0,none⟩), .int .u64 150] 112)).alloc (.cells #[.pointer (some ⟨9,53,none⟩), .pointer (some ⟨w.heap.size,0,none⟩), .int .u64 150] 112)).alloc (.cells #[.pointer (some e)] 51)).setCell t (.pointer (some e)):=by
 have h6:= @run_callFunc_extern Tryz.prog 46 _ (fun args=>ReflectliteValue.unpack (args.getD 0 (.tuple #[]))) Tryz.func46 (by kernel_rfl) (by kernel_rfl) (by kernel_rfl) (by kernel_rfl)
 have h7:= @run_callFunc_extern Tryz.prog 47 _ (ReflectliteValue.methodAny (ReflectliteValue.valueError "reflectlite.Value.Type" 0) (fun t _ _ _=>ReflectliteType.toType t)) Tryz.func47 (by kernel_rfl) (by kernel_rfl) (by kernel_rfl) (by kernel_rfl)
 have h8:= @run_callFunc_extern Tryz.prog 48 _ (ReflectliteValue.method (ReflectliteValue.valueError "reflectlite.Value.IsNil" 0) ReflectliteValue.isNil) Tryz.func48 (by kernel_rfl) (by kernel_rfl) (by kernel_rfl) (by kernel_rfl)
 have h27:= @run_callFunc_extern Tryz.prog 164 _ (ReflectliteType.abiMethod fun t=>do pure (.int .u8 (←Rtype.kind t))) Tryz.func164 (by kernel_rfl) (by kernel_rfl) (by kernel_rfl) (by kernel_rfl)
 have h37:= @run_callFunc_extern Tryz.prog 179 _ (ReflectliteType.method ReflectliteType.elem) Tryz.func179 (by kernel_rfl) (by kernel_rfl) (by kernel_rfl) (by kernel_rfl)
 have h38:= @run_callFunc_extern Tryz.prog 180 _ (ReflectliteType.relation "Implements" ReflectliteType.implements_) Tryz.func180 (by kernel_rfl) (by kernel_rfl) (by kernel_rfl) (by kernel_rfl)
 have h10:= @run_callFunc_extern Tryz.prog 54 _ ReflectliteType.typeOf Tryz.func54 (by kernel_rfl) (by kernel_rfl) (by kernel_rfl) (by kernel_rfl)
 have h35:= @run_callFunc_extern Tryz.prog 177 _ (ReflectliteType.relation "AssignableTo" ReflectliteType.assignableTo) Tryz.func177 (by kernel_rfl) (by kernel_rfl) (by kernel_rfl) (by kernel_rfl)
 have h11:= @run_callFunc_extern Tryz.prog 83 _ (ReflectliteValue.method (ReflectliteValue.valueError "reflectlite.Value.Elem" 0) ReflectliteValue.elem) Tryz.func83 (by kernel_rfl) (by kernel_rfl) (by kernel_rfl) (by kernel_rfl)
 have h12:= @run_callFunc_extern Tryz.prog 84 _ ReflectliteValue.set Tryz.func84 (by kernel_rfl) (by kernel_rfl) (by kernel_rfl) (by kernel_rfl)
 have tO:=UA
 have mA:=Im
 have a25:=Nq
 have v25:=SA
 have f6:=SB
 have f7:=YE
 have mK:=QK
 have mE:=QJ
 have mI:=Ji
 have k27:=YD
 have k25:=YC
 have e27:=YB
 have i25:=Nr
 have n8:=Vx ⟨w.heap.size,0,none⟩ t ((w.alloc (.cells #[.pointer (some t)] 53)).alloc (.cells #[.pointer (some ⟨9,53,none⟩), .pointer (some ⟨w.heap.size,0,none⟩), .int .u64 150] 112)) (by simp)
 have hlt:0 < w.heap.size:=by
  rcases Nat.eq_zero_or_pos w.heap.size with h0 | h
  ·simp [World.cell?,h0] at hg
  ·exact h
 have hg2:((w.alloc (.cells #[.pointer (some t)] 53)).alloc (.cells #[.pointer (some ⟨9,53,none⟩), .pointer (some ⟨w.heap.size,0,none⟩), .int .u64 150] 112)).cell? ⟨0,0,none⟩=some (.iface 150 (.agg #[.pointer (some ⟨9,38,none⟩)])):=by
  rw [World.cell?_alloc_lt _ _ ⟨0,0,none⟩ (by simp),World.cell?_alloc_lt _ _ ⟨0,0,none⟩ hlt];exact hg
 have htl:t.block < w.heap.size:=by
  rcases Nat.lt_or_ge t.block w.heap.size with h | h
  ·exact h
  ·simp [World.cell?,Array.getElem?_eq_none h] at ht0
 have el:=Vw ⟨w.heap.size,0,none⟩ t (((w.alloc (.cells #[.pointer (some t)] 53)).alloc (.cells #[.pointer (some ⟨9,53,none⟩), .pointer (some ⟨w.heap.size,0,none⟩), .int .u64 150] 112)).alloc (.cells #[.pointer (some ⟨9,53,none⟩), .pointer (some ⟨w.heap.size,0,none⟩), .int .u64 150] 112)) (by rw [World.cell?_alloc_lt _ _ ⟨w.heap.size,0,none⟩ (by simp;omega)];simp)
 have st:=cp t ⟨w.heap.size+1+1+1,0,none⟩ e MR ((((w.alloc (.cells #[.pointer (some t)] 53)).alloc (.cells #[.pointer (some ⟨9,53,none⟩), .pointer (some ⟨w.heap.size,0,none⟩), .int .u64 150] 112)).alloc (.cells #[.pointer (some ⟨9,53,none⟩), .pointer (some ⟨w.heap.size,0,none⟩), .int .u64 150] 112)).alloc (.cells #[.pointer (some e)] 51))
  (by rw [World.cell?_alloc_at _ _ _ _ (by simp)];rfl)
  (by rw [World.cell?_alloc_lt _ _ t (by simp;omega),World.cell?_alloc_lt _ _ t (by simp;omega),World.cell?_alloc_lt _ _ t (by simp;omega),World.cell?_alloc_lt _ _ t htl];exact ht0)
  (by rw [World.frozen?_alloc_old _ _ t (by simp;omega),World.frozen?_alloc_old _ _ t (by simp;omega),World.frozen?_alloc_old _ _ t (by simp;omega),World.frozen?_alloc_old _ _ t (Nat.ne_of_lt htl)];exact hf0)
 go_enter Tryz.func17,Tryz.ntmps17
 go_wp2
 refine wp_loop_rounds 1 ?_
 rw [rounds_succ]
 go_wp2
 go_ret
 exact ⟨rfl,rfl⟩
end Go.Proofs.YthlhnangbinhoaaGreatDoor.Dm
set_option linter.unusedVariables false
namespace Go.Proofs.YthlhnangbinhoaaGreatDoor.Dm
open Go.Dm Go.RowKit
set_option maxHeartbeats 4000000
set_option maxRecDepth 100000
def oX:Option A8:=some (.raw 0 [.iface 150 (.agg ⟨[.pointer (some ⟨9,38,none⟩)]⟩)])
def Zu:BE:= .det (fun args hp _=>match args with
  | [.nilIface,_]=>True
  | [.iface t (.pointer (some ⟨_,_,none⟩)), .iface u (.pointer (some ⟨i,0,none⟩))]=>t=51∧u=53∧hp 7=oX∧∃v,hp i=some (.cells true 0 [v])
  |_=>False)
 (fun args _ top=>match args with
  | [.iface _ p, .iface _ (.pointer (some ⟨i,_,_⟩))]=>(.bool true, [(i,some (.cells true 0 [p]))],top)
  |_=>(.bool false, [],top))
theorem qK {c:Array Value}{off:Nat}{x:Value}(h:off < c.size):((c.setIfInBounds off x).toList.drop off).take 1= [x]:=by
 rw [Array.toList_setIfInBounds,List.drop_eq_getElem_cons (by simpa using h)]
 simp
theorem Pf (own:Nat→Prop)(w:World)(c:Array Value)(t:TypeId):Dm.K own w (w.alloc (.cells c t)):=Dm.K.alloc own w (.cells c t) w.drawn rfl
theorem zo:Ag Tryz.prog 17 Zu:=by
 refine ⟨⟨_,oC.toFTOk⟩,fun args hp top hpre=> ?_⟩
 match args,hpre with
 | [.nilIface,t],_=>
  intro φ own w args' hargs H htop
  cases hargs with
  |cons _ _ _ _ hx hl=>
  cases hx
  cases hl with
  |cons _ t' _ _ ht hl=>
  cases hl
  refine Calls.mono (uI t' w) ?_
  rintro e w' ⟨rfl,rfl⟩
  exact ⟨_,_,_,_,φ,rfl,⟨rfl,rfl,rfl⟩,⟨Dm.Ren.le_refl _, .bool _,H,Dm.K.refl _ _,htop⟩⟩
 | [.iface t (.pointer (some ⟨e,eo,none⟩)), .iface u (.pointer (some ⟨i,0,none⟩))],⟨ht,hu,h7,v,hi⟩=>
 subst ht hu
 intro φ own w args' hargs H htop
 cases hargs with
 |cons _ _ _ _ hx hl=>
 cases hl with
 |cons _ _ _ _ hy hl=>
 cases hl
 cases hx with
 |iface _ _ xv hx=>
 cases hy with
 |iface _ _ yv hy=>
 cases hx with
 |ptr _ _ M hM=>
 cases hy with
 |ptr _ _ L hL=>
 obtain ⟨L',hL',hok⟩:=H.obj i _ hi
 rw [hL] at hL';cases hL'
 obtain ⟨he,c,ct,fz,hh,hsz,hlim,hvs,hfz⟩:=hok
 obtain ⟨L7,hL7,b7,o7,t7,f7,h7w⟩:=H.obj 7 _ h7
 have hlt:L.BT < w.heap.size:=(Array.getElem?_eq_some_iff.1 hh).1
 have hoff:L.off < c.size:=by simp at hlim;omega
 have hgc:w.cell? ⟨0,0,none⟩=some (.iface 150 (.agg #[.pointer (some ⟨9,38,none⟩)])):=by
  rw [b7] at h7w
  simp [World.cell?,h7w]
 have ht0:w.cell? ⟨L.BT,L.off+0,none⟩=some c[L.off]:=by simp [World.cell?,hh,hoff]
 have hf0:w.frozen? ⟨L.BT,L.off+0,none⟩=false:=by
  have:=hfz.1 rfl
  simp [World.frozen?,hh];omega
 refine Calls.mono (uH ⟨M.BT,M.off+eo,none⟩ ⟨L.BT,L.off+0,none⟩ _ w hgc ht0 hf0) ?_
 rintro ev w' ⟨rfl,rfl⟩
 generalize hW:(((w.alloc (.cells #[.pointer (some ⟨L.BT,L.off+0,none⟩)] 53)).alloc _).alloc _).alloc _=W
 have hk:∀own,Dm.K own w W:=fun own=>by
  subst hW
  exact (((Pf own _ _ _).trans (Pf own _ _ _)).trans (Pf own _ _ _)).trans (Pf own _ _ _)
 have HW:=H.stay (hk _)
 have hhW:W.heap[L.BT]? = some (.cells c ct fz):=by
  rw [(hk fun b=>w.heap.size≤b).same L.BT hlt (by omega)];exact hh
 have e1:(W.setCell ⟨L.BT,L.off+0,none⟩ (.pointer (some ⟨M.BT,M.off+eo,none⟩))).heap[L.BT]? = some (.cells (c.setIfInBounds L.off (.pointer (some ⟨M.BT,M.off+eo,none⟩))) ct fz):=by
  simp [World.setCell,Array.getElem?_modify,hhW]
 have e2:∀k,k≠L.BT→(W.setCell ⟨L.BT,L.off+0,none⟩ (.pointer (some ⟨M.BT,M.off+eo,none⟩))).heap[k]? = W.heap[k]? :=fun k hk=>by
  simp only [World.setCell,Array.getElem?_modify]
  rw [if_neg (Ne.symm hk)]
 have e3:(W.setCell ⟨L.BT,L.off+0,none⟩ (.pointer (some ⟨M.BT,M.off+eo,none⟩))).heap.size=W.heap.size:=by simp [World.setCell]
 have hset:hp.Ac [(i,some (.cells true 0 [.pointer (some ⟨e,eo,none⟩)]))] = hp.Jb i (.cells true 0 [.pointer (some ⟨e,eo,none⟩)]):=by
  funext j;simp only [BR,Bh,Hp.set,Hp.Jb]
 refine ⟨_,_,_,_,φ,rfl,⟨rfl,rfl,rfl⟩,⟨Dm.Ren.le_refl _, .bool _, ?_, ?_,htop⟩⟩
 ·show HR φ own (hp.Ac _) _
  rw [hset]
  refine HW.put i _ _ L hi rfl hL e3 e2 ?_
  rw [e1]
  refine ⟨he,_,ct,fz,rfl,by simp [hsz],hlim, ?_,hfz⟩
  show Vs φ _ (((c.setIfInBounds L.off _).toList.drop L.off).take 1)
  rw [qK hoff]
  exact .cons _ _ _ _ (.ptr _ _ M hM) .nil
 ·refine (hk own).trans ⟨Nat.le_of_eq e3.symm,fun k _ hn=>e2 k fun e=>hn (e ▸ H.D0 i _ L hi rfl hL),rfl,rfl,rfl⟩
end Go.Proofs.YthlhnangbinhoaaGreatDoor.Dm
