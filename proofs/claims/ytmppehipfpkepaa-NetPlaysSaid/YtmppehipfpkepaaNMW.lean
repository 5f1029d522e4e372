/- NetMends' law, without the program. -/
import Derived.Test.YtmppehipfpkepaaNPL4
import Derived.Test.YtmppehipfpkepaaN27
set_option linter.unusedVariables false
namespace Go.Proofs.Ytmppehipfpkepaa.Dm
open Go.Dm
set_option maxHeartbeats 8000000
set_option maxRecDepth 100000
def R4:List Int:= [1,2,3,4]
def sM (l:List AX):Ak:=GV R4 l [] 0 1
structure OkM (l:List AX):Prop where
 e:Gr.DS R4 l=0
 g:dP (sM l)
 p:∀e∈(sM l).L,0 < e.2.1
 n:(Gr.CF R4 (j0 (sM l)) 25).length=2 * l.length
section
variable {l:List AX} {x y:Int}
def ADf (l:List AX)(x y:Int):Ak:=if DX (sM l) x y=0 then sM l else {sM l with C:= [(pk x y,true,0)],cc:=1}
def oh (l:List AX)(x y:Int):Ak:= {ADf l x y with S:= [],sc:=1}
/-- the end:as it was,but for the clocks of two empty maps -/
def AEa (l:List AX)(x y:Int):Ak:=if DX (sM l) x y=0 then oh l x y else Ng (oh l x y) y x
end
end Go.Proofs.Ytmppehipfpkepaa.Dm
/- NetMends: the walk. -/
set_option linter.unusedVariables false
namespace Go.Proofs.Ytmppehipfpkepaa.Dm
open Go.Dm
set_option maxHeartbeats 16000000
set_option maxRecDepth 20000
noncomputable def v7:FuncId→Bp:=Bu (Bu (Bu (Bu (Bu (Bu Z8 8 MN) 15 Vp) 17 Rt) 16 Rh) 18 Ob) 24 O5
theorem r7:Cf Try.prog tt.get v7:=(((((M3.add ku).add rm).add uM).add tD).add ni).add jr
structure MJ (hp0:Hp) (base q:Nat) (l:List AX) (hp:Hp) (top:Nat):Prop where
 kp:AE base [] hp hp0
 tp:base≤top
 q0:base≤q
 qt:q < top
 at_:hp q=AO An l
end Go.Proofs.Ytmppehipfpkepaa.Dm
