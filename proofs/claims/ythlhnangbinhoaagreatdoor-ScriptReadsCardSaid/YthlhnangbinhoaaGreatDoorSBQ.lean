/- Equality of an op with itself, as a true one. -/
import Derived.Test.YthlhnangbinhoaaGreatDoorTFX
set_option linter.unusedVariables false
namespace Go.Proofs.YthlhnangbinhoaaGreatDoor.Dm
open Go.Dm
set_option maxHeartbeats 16000000
set_option maxRecDepth 20000
theorem iO {d:Nat}{x:Int}:Ij tt.get (d+1) 41 (.int .u32 x) (.int .u32 x)=some true:=by
 simp [Ij,Rv,fX,HY]
theorem Gy {d:Nat}{x:Int}:Ij tt.get (d+1) 3 (.int .i64 x) (.int .i64 x)=some true:=by
 simp [Ij,BX,MT,HY]
theorem iM {d:Nat}{x:List UInt8}:Ij tt.get (d+1) 9 (.string ⟨⟨x⟩⟩) (.string ⟨⟨x⟩⟩)=some true:=by
 simp [Ij,DH,tK,Qr]
theorem vw {o:A0}:Ij tt.get 64 43 (.agg ⟨Aw.enc o⟩) (.agg ⟨Aw.enc o⟩)=some true:=by
 cases o with | mk a0 a1 a2 a3 a4 a5 a6=>
 rw [Ij];simp only [Rt,Xp,Az]
 have p0:∀ {x:Value} {l:List Value},DE MT (x :: l) 0=some x:=rfl
 have p1:∀ {x0 x:Value} {l:List Value},DE MT (x0 :: x :: l) 1=some x:=rfl
 have p2:∀ {x0 x1 x:Value} {l:List Value},DE MT (x0 :: x1 :: x :: l) 2=some x:=rfl
 have p3:∀ {x0 x1 x2 x:Value} {l:List Value},DE MT (x0 :: x1 :: x2 :: x :: l) 3=some x:=rfl
 have p4:∀ {x0 x1 x2 x3 x:Value} {l:List Value},DE fX (x0 :: x1 :: x2 :: x3 :: x :: l) 4=some x:=rfl
 have p5:∀ {x0 x1 x2 x3 x4 x:Value} {l:List Value},DE MT (x0 :: x1 :: x2 :: x3 :: x4 :: x :: l) 5=some x:=rfl
 have p6:∀ {x0 x1 x2 x3 x4 x5 x:Value} {l:List Value},DE tK (x0 :: x1 :: x2 :: x3 :: x4 :: x5 :: x :: l) 6=some x:=rfl
 rw [show (63:Nat)=62+1 from rfl]
 simp only [eqFields,Gy (d:=61),Gy (d:=60),Gy (d:=59),Gy (d:=58),iO (d:=57),Gy (d:=56),iM (d:=55),show ("Kind" == "_")=false from rfl,show ("Router" == "_")=false from rfl,show ("Peer" == "_")=false from rfl,show ("Group" == "_")=false from rfl,show ("Entropy" == "_")=false from rfl,show ("Ticks" == "_")=false from rfl,show ("Bytes" == "_")=false from rfl,BX,Rv,DH,p0,p1,p2,p3,p4,p5,p6]
 try simp
end Go.Proofs.YthlhnangbinhoaaGreatDoor.Dm
