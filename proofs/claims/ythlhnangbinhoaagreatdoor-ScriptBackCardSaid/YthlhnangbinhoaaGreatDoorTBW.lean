/- strings.Builder: WriteString, as the world has it. -/
import Derived.Test.YthlhnangbinhoaaGreatDoorTBA
set_option linter.unusedSimpArgs false
set_option linter.unusedVariables false
namespace Go.Proofs.YthlhnangbinhoaaGreatDoor.Dm
open Go.Dm Go.RowKit
set_option maxHeartbeats 4000000
set_option maxRecDepth 100000
theorem Jp {P:Program}{w w':World}{ops:Array Oper}{rest:List Oper}{o:Oper}{a:Act}{Q:Exit→Act→World→Prop}(hgd:o.guard=none)(sl x:Operand)(t u:TypeId)
  (ho:o.op= .call {callee:= .builtin .append,args:= #[sl,x],argTypes:= #[t,u]}) (v xv r:Value) (hs:a.eval sl=v) (hx:a.eval x=xv)
  (hr:(Builtin.append_ #[t,u] o.type #[v,xv]).run P w= .ok r w') (h:wpList P ops Q rest (a.put o.dst r) w'):wpList P ops Q (o :: rest) a w:=by
 refine wpList_plain hgd fun K hK=> ?_
 unfold Oper.wp execOp
 simp only [ho,resolve,invoke,builtin,Sem.run_bind,Sem.run_pure,Result.andThen_ok,List.map_toArray,List.map_cons,List.map_nil,hs,hx,hr]
 exact hK _ _ h
theorem rC (b:Nat)(s:ByteArray)(w:World)(Q1 Q2:World→Prop)
  (hc:Calls Tryz.prog 66 #[.pointer (some ⟨b,0,none⟩)] w fun e w'=>e= .returned (.tuple #[])∧Q1 w')
  (h1:∀w1,Q1 w1→∃y ao n cap w2 z,w1.cell? ⟨b,1,none⟩=some y∧(Builtin.append_ #[69,9] 69 #[y, .string s]).run Tryz.prog w1= .ok (.slice ao n cap) w2∧w2.cell? ⟨b,1,none⟩=some z∧w2.frozen? ⟨b,1,none⟩=false∧Q2 (w2.setCell ⟨b,1,none⟩ (.slice ao n cap))) :
  Calls Tryz.prog 25 #[.pointer (some ⟨b,0,none⟩), .string s] w fun e w'=>e= .returned (.tuple #[.int .i64 s.size, .nilIface])∧Q2 w':=by
 go_enter Tryz.func25,Tryz.ntmps25
 go_wp2_with (go_at_call 66;refine hc.mono ?_)
 rintro e w1 ⟨rfl,q1⟩
 obtain ⟨y,ao,n,cap,w2,z,c1,ha,d1,f1,q2⟩:=h1 w1 q1
 go_wp2_with (at_builtin;refine Jp rfl _ _ _ _ rfl _ _ _ rfl rfl ha ?_)
 go_wp2
 go_ret2
 exact ⟨rfl,q2⟩
theorem sT (b:Nat)(c:Int)(w:World)(Q1 Q2:World→Prop)
  (hc:Calls Tryz.prog 66 #[.pointer (some ⟨b,0,none⟩)] w fun e w'=>e= .returned (.tuple #[])∧Q1 w')
  (h1:∀w1,Q1 w1→∃y ao n cap w2 z,w1.cell? ⟨b,1,none⟩=some y∧(Builtin.append_ #[69,69] 69 #[y, .slice (some ⟨w1.heap.size,0,none⟩) 1 1]).run Tryz.prog (w1.alloc (.cells #[.int .u8 c] 5))= .ok (.slice ao n cap) w2∧w2.cell? ⟨b,1,none⟩=some z∧w2.frozen? ⟨b,1,none⟩=false∧Q2 (w2.setCell ⟨b,1,none⟩ (.slice ao n cap))) :
  Calls Tryz.prog 101 #[.pointer (some ⟨b,0,none⟩), .int .u8 c] w fun e w'=>e= .returned .nilIface∧Q2 w':=by
 go_enter Tryz.func101,Tryz.ntmps101
 go_wp2_with (go_at_call 66;refine hc.mono ?_)
 rintro e w1 ⟨rfl,q1⟩
 obtain ⟨y,ao,n,cap,w2,z,c1,ha,d1,f1,q2⟩:=h1 w1 q1
 go_wp2_with (at_builtin;refine Jp rfl _ _ _ _ rfl _ _ _ rfl rfl ha ?_)
 go_wp2
 go_ret
 exact ⟨rfl,q2⟩
end Go.Proofs.YthlhnangbinhoaaGreatDoor.Dm
