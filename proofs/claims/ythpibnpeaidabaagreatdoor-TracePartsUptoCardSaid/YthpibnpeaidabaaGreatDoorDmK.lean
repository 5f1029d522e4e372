/- H3 on the types of this seat; how their data lie in memory. -/
import Derived.Test.YthpibnpeaidabaaGreatDoorDmTab
import Derived.Test.YthpibnpeaidabaaGreatDoorDmH
set_option linter.unusedSimpArgs false
namespace Go.Proofs.YthpibnpeaidabaaGreatDoor.Dm
open Go.Dm
attribute [go_sem] qw aN sQ oh lA Yz aP Pc bc JY ID Sq KM Nn Mg LY Ns TV bQ V6 QF Xn MU Rz RG Rr LC R0 Q1 RO RW SF Qm K5 Le RZ QY RY R8 R4
@[go_sem] theorem uL:tt.get 2=some qw:=by kernel_rfl
@[go_sem] theorem ry:Ai tt.get 2=0:=by kernel_rfl
@[go_sem] theorem OQ:kindOf tt.get 2=some (.int .i64):=by kernel_rfl
@[go_sem] theorem uX {op:BinOp}{xo yo:Operand}{x y:Value}:BS tt.get op 2 xo yo x y=D8 op .i64 x y:=CU OQ
@[go_sem] theorem HF:tt.get 3=some aN:=by kernel_rfl
@[go_sem] theorem uo:Ai tt.get 3=0:=by kernel_rfl
@[go_sem] theorem Hu:kindOf tt.get 3=some (.int .i64):=by kernel_rfl
@[go_sem] theorem vb {op:BinOp}{xo yo:Operand}{x y:Value}:BS tt.get op 3 xo yo x y=D8 op .i64 x y:=CU Hu
@[go_sem] theorem vP:tt.get 4=some sQ:=by kernel_rfl
@[go_sem] theorem ti:Ai tt.get 4=0:=by kernel_rfl
@[go_sem] theorem pC:kindOf tt.get 4=some (.bool):=by kernel_rfl
@[go_sem] theorem u6 {op:BinOp}{xo yo:Operand}{x y:Value}:BS tt.get op 4 xo yo x y=LZ op x y:=Sm pC
@[go_sem] theorem GQ:tt.get 5=some oh:=by kernel_rfl
@[go_sem] theorem sY:Ai tt.get 5=0:=by kernel_rfl
@[go_sem] theorem E6:kindOf tt.get 5=some (.int .u8):=by kernel_rfl
@[go_sem] theorem uE {op:BinOp}{xo yo:Operand}{x y:Value}:BS tt.get op 5 xo yo x y=D8 op .u8 x y:=CU E6
@[go_sem] theorem CX:tt.get 9=some lA:=by kernel_rfl
@[go_sem] theorem qD:Ai tt.get 9=0:=by kernel_rfl
@[go_sem] theorem Z6:kindOf tt.get 9=some (.string):=by kernel_rfl
@[go_sem] theorem q8 {op:BinOp}{xo yo:Operand}{x y:Value}:BS tt.get op 9 xo yo x y=LX op x y:=Vm Z6
@[go_sem] theorem va:tt.get 20=some Yz:=by kernel_rfl
@[go_sem] theorem ui:Ai tt.get 20=0:=by kernel_rfl
@[go_sem] theorem vX {op:BinOp}{xo yo:Operand}{x y:Value}:BS tt.get op 20 xo yo x y=DS (A9 tt.get op 20 xo yo x y):=CC (by kernel_rfl)
@[go_sem] theorem tn:tt.get 21=some aP:=by kernel_rfl
@[go_sem] theorem rA:Ai tt.get 21=0:=by kernel_rfl
@[go_sem] theorem UG:kindOf tt.get 21=some (.int .i32):=by kernel_rfl
@[go_sem] theorem uO {op:BinOp}{xo yo:Operand}{x y:Value}:BS tt.get op 21 xo yo x y=D8 op .i32 x y:=CU UG
@[go_sem] theorem DA:tt.get 22=some Pc:=by kernel_rfl
@[go_sem] theorem qN:Ai tt.get 22=0:=by kernel_rfl
@[go_sem] theorem Ck:kindOf tt.get 22=some (.slice 33):=by kernel_rfl
@[go_sem] theorem re {op:BinOp}{xo yo:Operand}{x y:Value}:BS tt.get op 22 xo yo x y=DS (A9 tt.get op 22 xo yo x y):=CC (by kernel_rfl)
@[go_sem] theorem iE {xo yo:Operand}{a:Option Addr}{n c:Nat}:A9 tt.get .eql 22 xo yo (.slice a n c) (.slice none 0 0)=some (.bool (a.isNone)):=by cases a <;> simp [A9,EG,DA,Pc]
@[go_sem] theorem eV {xo yo:Operand}{a:Option Addr}{n c:Nat}:A9 tt.get .neq 22 xo yo (.slice a n c) (.slice none 0 0)=some (.bool (!a.isNone)):=by cases a <;> simp [A9,EG,DA,Pc]
@[go_sem] theorem tY:tt.get 24=some bc:=by kernel_rfl
@[go_sem] theorem qh:Ai tt.get 24=0:=by kernel_rfl
@[go_sem] theorem fA:kindOf tt.get 24=some (.int .i64):=by kernel_rfl
@[go_sem] theorem uM {op:BinOp}{xo yo:Operand}{x y:Value}:BS tt.get op 24 xo yo x y=D8 op .i64 x y:=CU fA
@[go_sem] theorem Gq:tt.get 28=some JY:=by kernel_rfl
@[go_sem] theorem p9:Ai tt.get 28=0:=by kernel_rfl
@[go_sem] theorem C8:kindOf tt.get 28=some (.int .u64):=by kernel_rfl
@[go_sem] theorem rH {op:BinOp}{xo yo:Operand}{x y:Value}:BS tt.get op 28 xo yo x y=D8 op .u64 x y:=CU C8
@[go_sem] theorem B3:tt.get 29=some ID:=by kernel_rfl
@[go_sem] theorem qC:Ai tt.get 29=0:=by kernel_rfl
@[go_sem] theorem Fv:kindOf tt.get 29=some (.int .u32):=by kernel_rfl
@[go_sem] theorem rI {op:BinOp}{xo yo:Operand}{x y:Value}:BS tt.get op 29 xo yo x y=D8 op .u32 x y:=CU Fv
@[go_sem] theorem ah:tt.get 31=some Sq:=by kernel_rfl
@[go_sem] theorem th:Ai tt.get 31=0:=by kernel_rfl
@[go_sem] theorem uw:kindOf tt.get 31=some (.array 4 28):=by kernel_rfl
@[go_sem] theorem CP:tt.get 33=some KM:=by kernel_rfl
@[go_sem] theorem sC:Ai tt.get 33=0:=by kernel_rfl
@[go_sem] theorem mc {b o:Nat}:AX tt.get 33 (.pointer (some ⟨b,o,none⟩)) 0=(.pointer (some ⟨b,o,none⟩),True):=by unfold AX;rw [show An tt.get 33 (.pointer (some ⟨b,o,none⟩)) 0=some (.pointer (some ⟨b,o,none⟩)) from by kernel_rfl]
@[go_sem] theorem nZ {b o:Nat}:AX tt.get 33 (.pointer (some ⟨b,o,none⟩)) 1=(.pointer (some ⟨b,o+1,none⟩),True):=by unfold AX;rw [show An tt.get 33 (.pointer (some ⟨b,o,none⟩)) 1=some (.pointer (some ⟨b,o+1,none⟩)) from by kernel_rfl]
@[go_sem] theorem ni {b o:Nat}:AX tt.get 33 (.pointer (some ⟨b,o,none⟩)) 2=(.pointer (some ⟨b,o+2,none⟩),True):=by unfold AX;rw [show An tt.get 33 (.pointer (some ⟨b,o,none⟩)) 2=some (.pointer (some ⟨b,o+2,none⟩)) from by kernel_rfl]
@[go_sem] theorem oJ {b o:Nat}:AX tt.get 33 (.pointer (some ⟨b,o,none⟩)) 3=(.pointer (some ⟨b,o+3,none⟩),True):=by unfold AX;rw [show An tt.get 33 (.pointer (some ⟨b,o,none⟩)) 3=some (.pointer (some ⟨b,o+3,none⟩)) from by kernel_rfl]
@[go_sem] theorem mw {b o:Nat}:AX tt.get 33 (.pointer (some ⟨b,o,none⟩)) 4=(.pointer (some ⟨b,o+4,none⟩),True):=by unfold AX;rw [show An tt.get 33 (.pointer (some ⟨b,o,none⟩)) 4=some (.pointer (some ⟨b,o+4,none⟩)) from by kernel_rfl]
@[go_sem] theorem mf {b o:Nat}:AX tt.get 33 (.pointer (some ⟨b,o,none⟩)) 5=(.pointer (some ⟨b,o+5,none⟩),True):=by unfold AX;rw [show An tt.get 33 (.pointer (some ⟨b,o,none⟩)) 5=some (.pointer (some ⟨b,o+5,none⟩)) from by kernel_rfl]
@[go_sem] theorem mx {b o:Nat}:AX tt.get 33 (.pointer (some ⟨b,o,none⟩)) 6=(.pointer (some ⟨b,o+6,none⟩),True):=by unfold AX;rw [show An tt.get 33 (.pointer (some ⟨b,o,none⟩)) 6=some (.pointer (some ⟨b,o+6,none⟩)) from by kernel_rfl]
@[go_sem] theorem Kh:tt.get 35=some Nn:=by kernel_rfl
@[go_sem] theorem rG:Ai tt.get 35=0:=by kernel_rfl
@[go_sem] theorem tb {op:BinOp}{xo yo:Operand}{x y:Value}:BS tt.get op 35 xo yo x y=DS (A9 tt.get op 35 xo yo x y):=CC (by kernel_rfl)
@[go_sem] theorem CQ:tt.get 51=some Mg:=by kernel_rfl
@[go_sem] theorem mJ:Ai tt.get 51=0:=by kernel_rfl
@[go_sem] theorem CF:kindOf tt.get 51=some (.slice 29):=by kernel_rfl
@[go_sem] theorem qW {op:BinOp}{xo yo:Operand}{x y:Value}:BS tt.get op 51 xo yo x y=DS (A9 tt.get op 51 xo yo x y):=CC (by kernel_rfl)
@[go_sem] theorem cx {xo yo:Operand}{a:Option Addr}{n c:Nat}:A9 tt.get .eql 51 xo yo (.slice a n c) (.slice none 0 0)=some (.bool (a.isNone)):=by cases a <;> simp [A9,EG,CQ,Mg]
@[go_sem] theorem cg {xo yo:Operand}{a:Option Addr}{n c:Nat}:A9 tt.get .neq 51 xo yo (.slice a n c) (.slice none 0 0)=some (.bool (!a.isNone)):=by cases a <;> simp [A9,EG,CQ,Mg]
@[go_sem] theorem CD:tt.get 58=some LY:=by kernel_rfl
@[go_sem] theorem pP:Ai tt.get 58=0:=by kernel_rfl
@[go_sem] theorem Br:kindOf tt.get 58=some (.slice 9):=by kernel_rfl
@[go_sem] theorem qB {op:BinOp}{xo yo:Operand}{x y:Value}:BS tt.get op 58 xo yo x y=DS (A9 tt.get op 58 xo yo x y):=CC (by kernel_rfl)
@[go_sem] theorem cm {xo yo:Operand}{a:Option Addr}{n c:Nat}:A9 tt.get .eql 58 xo yo (.slice a n c) (.slice none 0 0)=some (.bool (a.isNone)):=by cases a <;> simp [A9,EG,CD,LY]
@[go_sem] theorem cp {xo yo:Operand}{a:Option Addr}{n c:Nat}:A9 tt.get .neq 58 xo yo (.slice a n c) (.slice none 0 0)=some (.bool (!a.isNone)):=by cases a <;> simp [A9,EG,CD,LY]
@[go_sem] theorem C6:tt.get 60=some Ns:=by kernel_rfl
@[go_sem] theorem pd:Ai tt.get 60=0:=by kernel_rfl
@[go_sem] theorem EB:kindOf tt.get 60=some (.slice 5):=by kernel_rfl
@[go_sem] theorem sS {op:BinOp}{xo yo:Operand}{x y:Value}:BS tt.get op 60 xo yo x y=DS (A9 tt.get op 60 xo yo x y):=CC (by kernel_rfl)
@[go_sem] theorem fP {xo yo:Operand}{a:Option Addr}{n c:Nat}:A9 tt.get .eql 60 xo yo (.slice a n c) (.slice none 0 0)=some (.bool (a.isNone)):=by cases a <;> simp [A9,EG,C6,Ns]
@[go_sem] theorem iB {xo yo:Operand}{a:Option Addr}{n c:Nat}:A9 tt.get .neq 60 xo yo (.slice a n c) (.slice none 0 0)=some (.bool (!a.isNone)):=by cases a <;> simp [A9,EG,C6,Ns]
@[go_sem] theorem Kr:tt.get 63=some TV:=by kernel_rfl
@[go_sem] theorem kK:Ai tt.get 63=0:=by kernel_rfl
@[go_sem] theorem oY:kindOf tt.get 63=some (.pointer 65):=by kernel_rfl
@[go_sem] theorem mz {op:BinOp}{xo yo:Operand}{x y:Value}:BS tt.get op 63 xo yo x y=DS (A9 tt.get op 63 xo yo x y):=CC (by kernel_rfl)
@[go_sem] theorem Ym {xo yo:Operand}{a:Option Addr}:A9 tt.get .eql 63 xo yo (.pointer a) (.pointer none)=some (.bool (a.isNone)):=by cases a <;> simp [A9,EG,Kr,TV]
@[go_sem] theorem ZC {xo yo:Operand}{a:Option Addr}:A9 tt.get .neq 63 xo yo (.pointer a) (.pointer none)=some (.bool (!a.isNone)):=by cases a <;> simp [A9,EG,Kr,TV]
@[go_sem] theorem qK:tt.get 65=some bQ:=by kernel_rfl
def Rw:Nat:=A8 * (1+65+4096 * 2)
@[go_sem] theorem mb:Ai tt.get 65=Rw:=by kernel_rfl
@[go_sem] theorem jN {b o:Nat}:AX tt.get 65 (.pointer (some ⟨b,o,none⟩)) 0=(.pointer (some ⟨b,o,none⟩),True):=by unfold AX;rw [show An tt.get 65 (.pointer (some ⟨b,o,none⟩)) 0=some (.pointer (some ⟨b,o,none⟩)) from by kernel_rfl]
@[go_sem] theorem eF {b o:Nat}:AX tt.get 65 (.pointer (some ⟨b,o,none⟩)) 1=(.pointer (some ⟨b,o+1,none⟩),True):=by unfold AX;rw [show An tt.get 65 (.pointer (some ⟨b,o,none⟩)) 1=some (.pointer (some ⟨b,o+1,none⟩)) from by kernel_rfl]
@[go_sem] theorem TH:tt.get 71=some V6:=by kernel_rfl
@[go_sem] theorem kz:Ai tt.get 71=0:=by kernel_rfl
@[go_sem] theorem nD:kindOf tt.get 71=some (.array 9 9):=by kernel_rfl
@[go_sem] theorem GS:tt.get 84=some QF:=by kernel_rfl
@[go_sem] theorem cZ:Ai tt.get 84=0:=by kernel_rfl
@[go_sem] theorem jc:kindOf tt.get 84=some (.pointer 85):=by kernel_rfl
@[go_sem] theorem jQ {op:BinOp}{xo yo:Operand}{x y:Value}:BS tt.get op 84 xo yo x y=DS (A9 tt.get op 84 xo yo x y):=CC (by kernel_rfl)
@[go_sem] theorem Vn {xo yo:Operand}{a:Option Addr}:A9 tt.get .eql 84 xo yo (.pointer a) (.pointer none)=some (.bool (a.isNone)):=by cases a <;> simp [A9,EG,GS,QF]
@[go_sem] theorem Wp {xo yo:Operand}{a:Option Addr}:A9 tt.get .neq 84 xo yo (.pointer a) (.pointer none)=some (.bool (!a.isNone)):=by cases a <;> simp [A9,EG,GS,QF]
@[go_sem] theorem mG:tt.get 85=some Xn:=by kernel_rfl
@[go_sem] theorem eZ:Ai tt.get 85=0:=by kernel_rfl
@[go_sem] theorem af {b o:Nat}:AX tt.get 85 (.pointer (some ⟨b,o,none⟩)) 0=(.pointer (some ⟨b,o,none⟩),True):=by unfold AX;rw [show An tt.get 85 (.pointer (some ⟨b,o,none⟩)) 0=some (.pointer (some ⟨b,o,none⟩)) from by kernel_rfl]
@[go_sem] theorem ai {b o:Nat}:AX tt.get 85 (.pointer (some ⟨b,o,none⟩)) 1=(.pointer (some ⟨b,o+1,none⟩),True):=by unfold AX;rw [show An tt.get 85 (.pointer (some ⟨b,o,none⟩)) 1=some (.pointer (some ⟨b,o+1,none⟩)) from by kernel_rfl]
@[go_sem] theorem QD:tt.get 102=some MU:=by kernel_rfl
@[go_sem] theorem pq:Ai tt.get 102=0:=by kernel_rfl
@[go_sem] theorem rS:kindOf tt.get 102=some (.pointer 5):=by kernel_rfl
@[go_sem] theorem sw {op:BinOp}{xo yo:Operand}{x y:Value}:BS tt.get op 102 xo yo x y=DS (A9 tt.get op 102 xo yo x y):=CC (by kernel_rfl)
@[go_sem] theorem jk {xo yo:Operand}{a:Option Addr}:A9 tt.get .eql 102 xo yo (.pointer a) (.pointer none)=some (.bool (a.isNone)):=by cases a <;> simp [A9,EG,QD,MU]
@[go_sem] theorem jj {xo yo:Operand}{a:Option Addr}:A9 tt.get .neq 102 xo yo (.pointer a) (.pointer none)=some (.bool (!a.isNone)):=by cases a <;> simp [A9,EG,QD,MU]
@[go_sem] theorem uy:tt.get 121=some Rz:=by kernel_rfl
@[go_sem] theorem ta:Ai tt.get 121=0:=by kernel_rfl
@[go_sem] theorem K7:kindOf tt.get 121=some (.int .u64):=by kernel_rfl
@[go_sem] theorem ue {op:BinOp}{xo yo:Operand}{x y:Value}:BS tt.get op 121 xo yo x y=D8 op .u64 x y:=CU K7
@[go_sem] theorem pL:tt.get 139=some RG:=by kernel_rfl
@[go_sem] theorem lE:Ai tt.get 139=0:=by kernel_rfl
@[go_sem] theorem o8:kindOf tt.get 139=some (.array 24 5):=by kernel_rfl
@[go_sem] theorem tg:tt.get 153=some Rr:=by kernel_rfl
@[go_sem] theorem sj:Ai tt.get 153=0:=by kernel_rfl
@[go_sem] theorem gX:kindOf tt.get 153=some (.int .i64):=by kernel_rfl
@[go_sem] theorem tx {op:BinOp}{xo yo:Operand}{x y:Value}:BS tt.get op 153 xo yo x y=D8 op .i64 x y:=CU gX
@[go_sem] theorem J3:tt.get 155=some LC:=by kernel_rfl
@[go_sem] theorem gK:Ai tt.get 155=0:=by kernel_rfl
@[go_sem] theorem ly:kindOf tt.get 155=some (.pointer 183):=by kernel_rfl
@[go_sem] theorem lx {op:BinOp}{xo yo:Operand}{x y:Value}:BS tt.get op 155 xo yo x y=DS (A9 tt.get op 155 xo yo x y):=CC (by kernel_rfl)
@[go_sem] theorem XW {xo yo:Operand}{a:Option Addr}:A9 tt.get .eql 155 xo yo (.pointer a) (.pointer none)=some (.bool (a.isNone)):=by cases a <;> simp [A9,EG,J3,LC]
@[go_sem] theorem XZ {xo yo:Operand}{a:Option Addr}:A9 tt.get .neq 155 xo yo (.pointer a) (.pointer none)=some (.bool (!a.isNone)):=by cases a <;> simp [A9,EG,J3,LC]
@[go_sem] theorem fB:tt.get 162=some R0:=by kernel_rfl
@[go_sem] theorem dC:Ai tt.get 162=0:=by kernel_rfl
@[go_sem] theorem Nf:kindOf tt.get 162=some (.int .i64):=by kernel_rfl
@[go_sem] theorem dU {op:BinOp}{xo yo:Operand}{x y:Value}:BS tt.get op 162 xo yo x y=D8 op .i64 x y:=CU Nf
@[go_sem] theorem kV:tt.get 173=some Q1:=by kernel_rfl
@[go_sem] theorem dW:Ai tt.get 173=0:=by kernel_rfl
@[go_sem] theorem lK:kindOf tt.get 173=some (.array 20 28):=by kernel_rfl
@[go_sem] theorem nF:tt.get 174=some RO:=by kernel_rfl
@[go_sem] theorem kU:Ai tt.get 174=0:=by kernel_rfl
@[go_sem] theorem nG:kindOf tt.get 174=some (.array 65 5):=by kernel_rfl
@[go_sem] theorem mi:tt.get 175=some RW:=by kernel_rfl
@[go_sem] theorem kJ:Ai tt.get 175=0:=by kernel_rfl
@[go_sem] theorem mn:kindOf tt.get 175=some (.array 64 5):=by kernel_rfl
@[go_sem] theorem o5:tt.get 183=some SF:=by kernel_rfl
@[go_sem] theorem lj:Ai tt.get 183=0:=by kernel_rfl
@[go_sem] theorem cb {b o:Nat}:AX tt.get 183 (.pointer (some ⟨b,o,none⟩)) 0=(.pointer (some ⟨b,o,none⟩),True):=by unfold AX;rw [show An tt.get 183 (.pointer (some ⟨b,o,none⟩)) 0=some (.pointer (some ⟨b,o,none⟩)) from by kernel_rfl]
@[go_sem] theorem cq {b o:Nat}:AX tt.get 183 (.pointer (some ⟨b,o,none⟩)) 1=(.pointer (some ⟨b,o+1,none⟩),True):=by unfold AX;rw [show An tt.get 183 (.pointer (some ⟨b,o,none⟩)) 1=some (.pointer (some ⟨b,o+1,none⟩)) from by kernel_rfl]
@[go_sem] theorem cy {b o:Nat}:AX tt.get 183 (.pointer (some ⟨b,o,none⟩)) 2=(.pointer (some ⟨b,o+2,none⟩),True):=by unfold AX;rw [show An tt.get 183 (.pointer (some ⟨b,o,none⟩)) 2=some (.pointer (some ⟨b,o+2,none⟩)) from by kernel_rfl]
@[go_sem] theorem nJ:tt.get 185=some Qm:=by kernel_rfl
@[go_sem] theorem kZ:Ai tt.get 185=0:=by kernel_rfl
@[go_sem] theorem ME:kindOf tt.get 185=some (.int .u64):=by kernel_rfl
@[go_sem] theorem nP {op:BinOp}{xo yo:Operand}{x y:Value}:BS tt.get op 185 xo yo x y=D8 op .u64 x y:=CU ME
@[go_sem] theorem Xm:tt.get 189=some K5:=by kernel_rfl
@[go_sem] theorem uN:Ai tt.get 189=0:=by kernel_rfl
@[go_sem] theorem vH:kindOf tt.get 189=some (.pointer 3):=by kernel_rfl
@[go_sem] theorem vO {op:BinOp}{xo yo:Operand}{x y:Value}:BS tt.get op 189 xo yo x y=DS (A9 tt.get op 189 xo yo x y):=CC (by kernel_rfl)
@[go_sem] theorem nz {xo yo:Operand}{a:Option Addr}:A9 tt.get .eql 189 xo yo (.pointer a) (.pointer none)=some (.bool (a.isNone)):=by cases a <;> simp [A9,EG,Xm,K5]
@[go_sem] theorem my {xo yo:Operand}{a:Option Addr}:A9 tt.get .neq 189 xo yo (.pointer a) (.pointer none)=some (.bool (!a.isNone)):=by cases a <;> simp [A9,EG,Xm,K5]
@[go_sem] theorem Db:tt.get 194=some Le:=by kernel_rfl
@[go_sem] theorem OS:Ai tt.get 194=0:=by kernel_rfl
@[go_sem] theorem Pz:kindOf tt.get 194=some (.pointer 196):=by kernel_rfl
@[go_sem] theorem P3 {op:BinOp}{xo yo:Operand}{x y:Value}:BS tt.get op 194 xo yo x y=DS (A9 tt.get op 194 xo yo x y):=CC (by kernel_rfl)
@[go_sem] theorem Ma {xo yo:Operand}{a:Option Addr}:A9 tt.get .eql 194 xo yo (.pointer a) (.pointer none)=some (.bool (a.isNone)):=by cases a <;> simp [A9,EG,Db,Le]
@[go_sem] theorem MZ {xo yo:Operand}{a:Option Addr}:A9 tt.get .neq 194 xo yo (.pointer a) (.pointer none)=some (.bool (!a.isNone)):=by cases a <;> simp [A9,EG,Db,Le]
@[go_sem] theorem Qt:tt.get 196=some RZ:=by kernel_rfl
@[go_sem] theorem P0:Ai tt.get 196=0:=by kernel_rfl
@[go_sem] theorem NL {b o:Nat}:AX tt.get 196 (.pointer (some ⟨b,o,none⟩)) 0=(.pointer (some ⟨b,o,none⟩),True):=by unfold AX;rw [show An tt.get 196 (.pointer (some ⟨b,o,none⟩)) 0=some (.pointer (some ⟨b,o,none⟩)) from by kernel_rfl]
@[go_sem] theorem oW:tt.get 200=some QY:=by kernel_rfl
@[go_sem] theorem kI:Ai tt.get 200=0:=by kernel_rfl
@[go_sem] theorem mh:kindOf tt.get 200=some (.array 32 5):=by kernel_rfl
@[go_sem] theorem kd:tt.get 201=some RY:=by kernel_rfl
@[go_sem] theorem dJ:Ai tt.get 201=0:=by kernel_rfl
@[go_sem] theorem kx:kindOf tt.get 201=some (.array 256 5):=by kernel_rfl
@[go_sem] theorem dB:tt.get 203=some R8:=by kernel_rfl
@[go_sem] theorem Ze:Ai tt.get 203=0:=by kernel_rfl
@[go_sem] theorem WQ {b o:Nat}:AX tt.get 203 (.pointer (some ⟨b,o,none⟩)) 0=(.pointer (some ⟨b,o,none⟩),True):=by unfold AX;rw [show An tt.get 203 (.pointer (some ⟨b,o,none⟩)) 0=some (.pointer (some ⟨b,o,none⟩)) from by kernel_rfl]
@[go_sem] theorem XJ {b o:Nat}:AX tt.get 203 (.pointer (some ⟨b,o,none⟩)) 1=(.pointer (some ⟨b,o+1,none⟩),True):=by unfold AX;rw [show An tt.get 203 (.pointer (some ⟨b,o,none⟩)) 1=some (.pointer (some ⟨b,o+1,none⟩)) from by kernel_rfl]
@[go_sem] theorem W0:tt.get 204=some R4:=by kernel_rfl
@[go_sem] theorem UJ:Ai tt.get 204=0:=by kernel_rfl
@[go_sem] theorem Wi:kindOf tt.get 204=some (.array 16 203):=by kernel_rfl
def PH:Be (Int):=⟨fun a=> [.int .i64 (a)],fun l=>intOf ((l[0]?).getD undef),1,fun _=>rfl,fun _=>rfl,fun _=>rfl⟩
instance:PH.Plain:=⟨fun _ _=>rfl⟩
@[go_sem] theorem sy (a:Int):PH.enc a= [.int .i64 (a)]:=rfl
@[go_sem] theorem rP (l:List Value):PH.dec l=intOf ((l[0]?).getD undef):=rfl
def Y1:Be (Int):=⟨fun a=> [.int .i64 (a)],fun l=>intOf ((l[0]?).getD undef),1,fun _=>rfl,fun _=>rfl,fun _=>rfl⟩
instance:Y1.Plain:=⟨fun _ _=>rfl⟩
@[go_sem] theorem vG (a:Int):Y1.enc a= [.int .i64 (a)]:=rfl
@[go_sem] theorem vK (l:List Value):Y1.dec l=intOf ((l[0]?).getD undef):=rfl
def Sa:Be (Bool):=⟨fun a=> [.bool (a)],fun l=>Bz ((l[0]?).getD undef),1,fun _=>rfl,fun _=>rfl,fun _=>rfl⟩
instance:Sa.Plain:=⟨fun _ _=>rfl⟩
@[go_sem] theorem ua (a:Bool):Sa.enc a= [.bool (a)]:=rfl
@[go_sem] theorem uC (l:List Value):Sa.dec l=Bz ((l[0]?).getD undef):=rfl
def Az:Be (Int):=⟨fun a=> [.int .u8 (a)],fun l=>intOf ((l[0]?).getD undef),1,fun _=>rfl,fun _=>rfl,fun _=>rfl⟩
instance:Az.Plain:=⟨fun _ _=>rfl⟩
@[go_sem] theorem qf (a:Int):Az.enc a= [.int .u8 (a)]:=rfl
@[go_sem] theorem sU (l:List Value):Az.dec l=intOf ((l[0]?).getD undef):=rfl
def AR:Be (List UInt8):=⟨fun a=> [.string ⟨⟨a⟩⟩],fun l=>strOf ((l[0]?).getD undef),1,fun _=>rfl,fun _=>rfl,fun _=>rfl⟩
instance:AR.Plain:=⟨fun _ _=>rfl⟩
@[go_sem] theorem qM (a:List UInt8):AR.enc a= [.string ⟨⟨a⟩⟩]:=rfl
@[go_sem] theorem pU (l:List Value):AR.dec l=strOf ((l[0]?).getD undef):=rfl
def OX:Be (Int):=⟨fun a=> [.int .i32 (a)],fun l=>intOf ((l[0]?).getD undef),1,fun _=>rfl,fun _=>rfl,fun _=>rfl⟩
instance:OX.Plain:=⟨fun _ _=>rfl⟩
@[go_sem] theorem ri (a:Int):OX.enc a= [.int .i32 (a)]:=rfl
@[go_sem] theorem sL (l:List Value):OX.dec l=intOf ((l[0]?).getD undef):=rfl
def Om:Be (Int):=⟨fun a=> [.int .i64 (a)],fun l=>intOf ((l[0]?).getD undef),1,fun _=>rfl,fun _=>rfl,fun _=>rfl⟩
instance:Om.Plain:=⟨fun _ _=>rfl⟩
@[go_sem] theorem qu (a:Int):Om.enc a= [.int .i64 (a)]:=rfl
@[go_sem] theorem sK (l:List Value):Om.dec l=intOf ((l[0]?).getD undef):=rfl
def MB:Be (Int):=⟨fun a=> [.int .u64 (a)],fun l=>intOf ((l[0]?).getD undef),1,fun _=>rfl,fun _=>rfl,fun _=>rfl⟩
instance:MB.Plain:=⟨fun _ _=>rfl⟩
@[go_sem] theorem qQ (a:Int):MB.enc a= [.int .u64 (a)]:=rfl
@[go_sem] theorem pf (l:List Value):MB.dec l=intOf ((l[0]?).getD undef):=rfl
def AQ:Be (Int):=⟨fun a=> [.int .u32 (a)],fun l=>intOf ((l[0]?).getD undef),1,fun _=>rfl,fun _=>rfl,fun _=>rfl⟩
instance:AQ.Plain:=⟨fun _ _=>rfl⟩
@[go_sem] theorem qF (a:Int):AQ.enc a= [.int .u32 (a)]:=rfl
@[go_sem] theorem p7 (l:List Value):AQ.dec l=intOf ((l[0]?).getD undef):=rfl
structure AV where
 x0:Int
 x1:Int
 x2:Int
 x3:Int
instance:Inhabited AV:=⟨⟨0,0,0,0⟩⟩
instance:DecidableEq AV:=fun a b=>decidable_of_iff (a.x0=b.x0∧a.x1=b.x1∧a.x2=b.x2∧a.x3=b.x3) (by cases a;cases b;simp)
def Dk:Be (AV):=⟨fun a=> [.int .u64 (a.x0), .int .u64 (a.x1), .int .u64 (a.x2), .int .u64 (a.x3)],fun l=>⟨intOf ((l[0]?).getD undef),intOf ((l[1]?).getD undef),intOf ((l[2]?).getD undef),intOf ((l[3]?).getD undef)⟩,4,fun _=>rfl,fun _=>rfl,fun _=>rfl⟩
instance:Dk.Plain:=⟨fun _ _=>rfl⟩
@[go_sem] theorem BF (a:AV):Dk.enc a= [.int .u64 (a.x0), .int .u64 (a.x1), .int .u64 (a.x2), .int .u64 (a.x3)]:=rfl
@[go_sem] theorem uZ (a:AV):AV.mk a.x0 a.x1 a.x2 a.x3=a:=rfl
@[go_sem] theorem tq (l:List Value):Dk.dec l=⟨intOf ((l[0]?).getD undef),intOf ((l[1]?).getD undef),intOf ((l[2]?).getD undef),intOf ((l[3]?).getD undef)⟩:=rfl
structure AM where
 At:Int
 Kind:Int
 Bw:Int
 DY:Int
 Id:Int
 Set:Int
 Dr:Int
 Dw:Int
 Dt:Int
 Dq:Int
instance:Inhabited AM:=⟨⟨0,0,0,0,0,0,0,0,0,0⟩⟩
instance:DecidableEq AM:=fun a b=>decidable_of_iff (a.At=b.At∧a.Kind=b.Kind∧a.Bw=b.Bw∧a.DY=b.DY∧a.Id=b.Id∧a.Set=b.Set∧a.Dr=b.Dr∧a.Dw=b.Dw∧a.Dt=b.Dt∧a.Dq=b.Dq) (by cases a;cases b;simp)
def AE:Be (AM):=⟨fun a=> [.int .u64 (a.At), .int .i64 (a.Kind), .int .i64 (a.Bw), .int .i64 (a.DY), .int .u32 (a.Id), .int .i64 (a.Set), .int .u64 (a.Dr), .int .u64 (a.Dw), .int .u64 (a.Dt), .int .u64 (a.Dq)],fun l=>⟨intOf ((l[0]?).getD undef),intOf ((l[1]?).getD undef),intOf ((l[2]?).getD undef),intOf ((l[3]?).getD undef),intOf ((l[4]?).getD undef),intOf ((l[5]?).getD undef),intOf ((l[6]?).getD undef),intOf ((l[7]?).getD undef),intOf ((l[8]?).getD undef),intOf ((l[9]?).getD undef)⟩,10,fun _=>rfl,fun _=>rfl,fun _=>rfl⟩
instance:AE.Plain:=⟨fun _ _=>rfl⟩
@[go_sem] theorem Gz (a:AM):AE.enc a= [.int .u64 (a.At), .int .i64 (a.Kind), .int .i64 (a.Bw), .int .i64 (a.DY), .int .u32 (a.Id), .int .i64 (a.Set), .int .u64 (a.Dr), .int .u64 (a.Dw), .int .u64 (a.Dt), .int .u64 (a.Dq)]:=rfl
@[go_sem] theorem r4 (a:AM):AM.mk a.At a.Kind a.Bw a.DY a.Id a.Set a.Dr a.Dw a.Dt a.Dq=a:=rfl
@[go_sem] theorem rM (l:List Value):AE.dec l=⟨intOf ((l[0]?).getD undef),intOf ((l[1]?).getD undef),intOf ((l[2]?).getD undef),intOf ((l[3]?).getD undef),intOf ((l[4]?).getD undef),intOf ((l[5]?).getD undef),intOf ((l[6]?).getD undef),intOf ((l[7]?).getD undef),intOf ((l[8]?).getD undef),intOf ((l[9]?).getD undef)⟩:=rfl
structure DM where
 Code:Int
 At:Int
instance:Inhabited DM:=⟨⟨0,0⟩⟩
instance:DecidableEq DM:=fun a b=>decidable_of_iff (a.Code=b.Code∧a.At=b.At) (by cases a;cases b;simp)
def HB:Be (DM):=⟨fun a=> [.int .i64 (a.Code), .int .i64 (a.At)],fun l=>⟨intOf ((l[0]?).getD undef),intOf ((l[1]?).getD undef)⟩,2,fun _=>rfl,fun _=>rfl,fun _=>rfl⟩
instance:HB.Plain:=⟨fun _ _=>rfl⟩
@[go_sem] theorem jX (a:DM):HB.enc a= [.int .i64 (a.Code), .int .i64 (a.At)]:=rfl
@[go_sem] theorem jL (a:DM):DM.mk a.Code a.At=a:=rfl
@[go_sem] theorem dI (l:List Value):HB.dec l=⟨intOf ((l[0]?).getD undef),intOf ((l[1]?).getD undef)⟩:=rfl
def Se:Be (Int):=⟨fun a=> [.int .u64 (a)],fun l=>intOf ((l[0]?).getD undef),1,fun _=>rfl,fun _=>rfl,fun _=>rfl⟩
instance:Se.Plain:=⟨fun _ _=>rfl⟩
@[go_sem] theorem tv (a:Int):Se.enc a= [.int .u64 (a)]:=rfl
@[go_sem] theorem uD (l:List Value):Se.dec l=intOf ((l[0]?).getD undef):=rfl
def OK:Be (Int):=⟨fun a=> [.int .i64 (a)],fun l=>intOf ((l[0]?).getD undef),1,fun _=>rfl,fun _=>rfl,fun _=>rfl⟩
instance:OK.Plain:=⟨fun _ _=>rfl⟩
@[go_sem] theorem tV (a:Int):OK.enc a= [.int .i64 (a)]:=rfl
@[go_sem] theorem q7 (l:List Value):OK.dec l=intOf ((l[0]?).getD undef):=rfl
def GJ:Be (Int):=⟨fun a=> [.int .i64 (a)],fun l=>intOf ((l[0]?).getD undef),1,fun _=>rfl,fun _=>rfl,fun _=>rfl⟩
instance:GJ.Plain:=⟨fun _ _=>rfl⟩
@[go_sem] theorem dD (a:Int):GJ.enc a= [.int .i64 (a)]:=rfl
@[go_sem] theorem cu (l:List Value):GJ.dec l=intOf ((l[0]?).getD undef):=rfl
def H9:Be (Int):=⟨fun a=> [.int .u64 (a)],fun l=>intOf ((l[0]?).getD undef),1,fun _=>rfl,fun _=>rfl,fun _=>rfl⟩
instance:H9.Plain:=⟨fun _ _=>rfl⟩
@[go_sem] theorem ke (a:Int):H9.enc a= [.int .u64 (a)]:=rfl
@[go_sem] theorem lT (l:List Value):H9.dec l=intOf ((l[0]?).getD undef):=rfl
structure Bg where
 s:List UInt8
instance:Inhabited Bg:=⟨⟨[]⟩⟩
instance:DecidableEq Bg:=fun a b=>decidable_of_iff (a.s=b.s) (by cases a;cases b;simp)
def Ct:Be (Bg):=⟨fun a=> [.string ⟨⟨a.s⟩⟩],fun l=>⟨strOf ((l[0]?).getD undef)⟩,1,fun _=>rfl,fun _=>rfl,fun _=>rfl⟩
instance:Ct.Plain:=⟨fun _ _=>rfl⟩
@[go_sem] theorem Py (a:Bg):Ct.enc a= [.string ⟨⟨a.s⟩⟩]:=rfl
@[go_sem] theorem P1 (a:Bg):Bg.mk a.s=a:=rfl
@[go_sem] theorem P2 (l:List Value):Ct.dec l=⟨strOf ((l[0]?).getD undef)⟩:=rfl
structure Co where
 lo:Int
 hi:Int
instance:Inhabited Co:=⟨⟨0,0⟩⟩
instance:DecidableEq Co:=fun a b=>decidable_of_iff (a.lo=b.lo∧a.hi=b.hi) (by cases a;cases b;simp)
def FN:Be (Co):=⟨fun a=> [.int .u8 (a.lo), .int .u8 (a.hi)],fun l=>⟨intOf ((l[0]?).getD undef),intOf ((l[1]?).getD undef)⟩,2,fun _=>rfl,fun _=>rfl,fun _=>rfl⟩
instance:FN.Plain:=⟨fun _ _=>rfl⟩
@[go_sem] theorem cD (a:Co):FN.enc a= [.int .u8 (a.lo), .int .u8 (a.hi)]:=rfl
@[go_sem] theorem Z0 (a:Co):Co.mk a.lo a.hi=a:=rfl
@[go_sem] theorem bB (l:List Value):FN.dec l=⟨intOf ((l[0]?).getD undef),intOf ((l[1]?).getD undef)⟩:=rfl
section
theorem CN {hp:Hp}{v:Value}{l:List (AM)}(h:BQ AE hp v l){hp':Hp}:Cy tt.get hp' 22 v=(.int .i64 (l.length:Int),True):=h.PD Ck
theorem DG {hp:Hp}{v:Value}{l:List (AM)}(h:BQ AE hp v l){k:IntKind}{n:Int}(h0:0≤n)(h1:n < l.length):Al tt.get 22 v (.int k n)=(BK v (n.toNat * 10),True):=h.idx Ck CP rfl h0 h1
theorem Dd {hp:Hp}{v:Value}{l:List (AM)}(h:BQ AE hp v l){i:Nat}(hi:i < l.length):AZ tt.get hp 33 (BK v (i * 10))=(.agg ⟨AE.enc (at' l i)⟩,True):=h.load CP rfl rfl hi
theorem kS {hp:Hp}{v:Value}{l:List (AM)}(h:BQ AE hp v l){i:Nat}(hi:i < l.length):AX tt.get 33 (BK v (i * 10)) 0=(BK v (i * 10),True):=h.field hi (d:=0) (fun b o=>(by kernel_rfl:An tt.get 33 (.pointer (some ⟨b,o,none⟩)) 0=some (.pointer (some ⟨b,o+0,none⟩))))
theorem lN {hp:Hp}{v:Value}{l:List (AM)}(h:BQ AE hp v l){i:Nat}(hi:i < l.length):AZ tt.get hp 28 (BK v (i * 10))=(.int .u64 ((at' l i).At),True):=h.cell (f:=0) Gq rfl hi (by decide)
theorem lg {hp:Hp}{v:Value}{l:List (AM)}(h:BQ AE hp v l){i:Nat}(hi:i < l.length):AX tt.get 33 (BK v (i * 10)) 1=(BK v (i * 10+1),True):=h.field hi (d:=1) (fun b o=>(by kernel_rfl:An tt.get 33 (.pointer (some ⟨b,o,none⟩)) 1=some (.pointer (some ⟨b,o+1,none⟩))))
theorem lh {hp:Hp}{v:Value}{l:List (AM)}(h:BQ AE hp v l){i:Nat}(hi:i < l.length):AZ tt.get hp 3 (BK v (i * 10+1))=(.int .i64 ((at' l i).Kind),True):=h.cell (f:=1) HF rfl hi (by decide)
theorem kN {hp:Hp}{v:Value}{l:List (AM)}(h:BQ AE hp v l){i:Nat}(hi:i < l.length):AX tt.get 33 (BK v (i * 10)) 2=(BK v (i * 10+2),True):=h.field hi (d:=2) (fun b o=>(by kernel_rfl:An tt.get 33 (.pointer (some ⟨b,o,none⟩)) 2=some (.pointer (some ⟨b,o+2,none⟩))))
theorem mI {hp:Hp}{v:Value}{l:List (AM)}(h:BQ AE hp v l){i:Nat}(hi:i < l.length):AZ tt.get hp 3 (BK v (i * 10+2))=(.int .i64 ((at' l i).Bw),True):=h.cell (f:=2) HF rfl hi (by decide)
theorem kE {hp:Hp}{v:Value}{l:List (AM)}(h:BQ AE hp v l){i:Nat}(hi:i < l.length):AX tt.get 33 (BK v (i * 10)) 3=(BK v (i * 10+3),True):=h.field hi (d:=3) (fun b o=>(by kernel_rfl:An tt.get 33 (.pointer (some ⟨b,o,none⟩)) 3=some (.pointer (some ⟨b,o+3,none⟩))))
theorem lD {hp:Hp}{v:Value}{l:List (AM)}(h:BQ AE hp v l){i:Nat}(hi:i < l.length):AZ tt.get hp 3 (BK v (i * 10+3))=(.int .i64 ((at' l i).DY),True):=h.cell (f:=3) HF rfl hi (by decide)
theorem Rn {hp:Hp}{v:Value}{l:List (AM)}(h:BQ AE hp v l){i:Nat}(hi:i < l.length):AX tt.get 33 (BK v (i * 10)) 4=(BK v (i * 10+4),True):=h.field hi (d:=4) (fun b o=>(by kernel_rfl:An tt.get 33 (.pointer (some ⟨b,o,none⟩)) 4=some (.pointer (some ⟨b,o+4,none⟩))))
theorem SE {hp:Hp}{v:Value}{l:List (AM)}(h:BQ AE hp v l){i:Nat}(hi:i < l.length):AZ tt.get hp 29 (BK v (i * 10+4))=(.int .u32 ((at' l i).Id),True):=h.cell (f:=4) B3 rfl hi (by decide)
theorem mE {hp:Hp}{v:Value}{l:List (AM)}(h:BQ AE hp v l){i:Nat}(hi:i < l.length):AX tt.get 33 (BK v (i * 10)) 5=(BK v (i * 10+5),True):=h.field hi (d:=5) (fun b o=>(by kernel_rfl:An tt.get 33 (.pointer (some ⟨b,o,none⟩)) 5=some (.pointer (some ⟨b,o+5,none⟩))))
theorem ka {hp:Hp}{v:Value}{l:List (AM)}(h:BQ AE hp v l){i:Nat}(hi:i < l.length):AZ tt.get hp 3 (BK v (i * 10+5))=(.int .i64 ((at' l i).Set),True):=h.cell (f:=5) HF rfl hi (by decide)
theorem kT {hp:Hp}{v:Value}{l:List (AM)}(h:BQ AE hp v l){i:Nat}(hi:i < l.length):AX tt.get 33 (BK v (i * 10)) 6=(BK v (i * 10+6),True):=h.field hi (d:=6) (fun b o=>(by kernel_rfl:An tt.get 33 (.pointer (some ⟨b,o,none⟩)) 6=some (.pointer (some ⟨b,o+6,none⟩))))
theorem qV {hp:Hp}{v:Value}{l:List (AM)}(h:BQ AE hp v l){k:IntKind}{n:Int}(h0:0≤n)(h1:n≤l.length):Bf tt.get hp 22 v none (some (.int k n))=(KN 10 v 0 n.toNat,True):=h.nT Ck CP h0 h1
theorem pw {hp:Hp}{v:Value}{l:List (AM)}(h:BQ AE hp v l){k:IntKind}{n:Int}(h0:0≤n)(h1:n≤l.length):Bf tt.get hp 22 v (some (.int k n)) none=(KQ 10 v n.toNat,True):=h.o7 Ck CP rfl h0 h1
@[go_sem] theorem pX {hp:Hp}{x:Value}{b top:Nat}{l:List (AM)}(h:hp b=Af AE l)(hx:KR AE hp x)(hn:l.length+(AE.rd hp x).length≤16777216):Aj tt.get hp top [22,22] (Ao b l) x=some (Ao top (l ++ AE.rd hp x),DZ b l top (Af AE (l ++ AE.rd hp x)),top+1):=ET Ck DA rfl CP rfl rfl h hx hn
@[go_sem] theorem nW {hp:Hp}{x:Value}{top:Nat}(hx:KR AE hp x)(hn:(AE.rd hp x).length≤16777216):Aj tt.get hp top [22,22] (.slice none 0 0) x=some (Ao top (AE.rd hp x), [(top,Af AE (AE.rd hp x))],top+1):=EO Ck DA rfl CP rfl rfl hx hn
@[go_sem] theorem Rb {hp:Hp}{b top k:Nat}{l:List (AM)}(h:hp b=Af AE l)(hk:hp k=some (.cells true 10 (cellsOf (hp k))))(hc:AE.enc (AE.dec (cellsOf (hp k)))=cellsOf (hp k))(hn:CK (l.length+1) KM.bytes=true):Aj tt.get hp top [22,22] (Ao b l) (.slice (some ⟨k,0,none⟩) 1 1)=some (Ao top (l ++ [AE.dec (cellsOf (hp k))]),DZ b l top (Af AE (l ++ [AE.dec (cellsOf (hp k))])),top+1):=Dy Ck DA rfl CP rfl rfl h hk hc hn
@[go_sem] theorem ma {hp:Hp}{x:Value}{top:Nat}(hx:KR AE hp x)(hn:CK (AE.rd hp x).length KM.bytes=true):Aj tt.get hp top [22,22] (.slice none 0 0) x=some (Ao top (AE.rd hp x), [(top,Af AE (AE.rd hp x))],top+1):=Du Ck DA rfl CP rfl rfl hx hn
@[go_sem] theorem nM {hp:Hp}{top k:Nat}(hk:hp k=some (.cells true 10 (cellsOf (hp k))))(hc:AE.enc (AE.dec (cellsOf (hp k)))=cellsOf (hp k)):Aj tt.get hp top [22,22] (.slice none 0 0) (.slice (some ⟨k,0,none⟩) 1 1)=some (Ao top [AE.dec (cellsOf (hp k))], [(top,Af AE [AE.dec (cellsOf (hp k))])],top+1):=Dv Ck DA rfl CP rfl rfl hk hc
@[go_sem] theorem pY {hp:Hp}{b top:Nat}{l l2:List (AM)}(h:hp b=Af AE l):hp.Am (DZ b l top (Af AE l2))=(hp.set b none).set top (Af AE l2):=HH h
@[go_sem] theorem ph {hp:Hp}{b:Nat}{l:List (AM)}{i:Nat}(h:hp b=Af AE l)(hi:i < l.length){a0:Int}{a1:Int}{a2:Int}{a3:Int}{a4:Int}{a5:Int}{a6:Int}{a7:Int}{a8:Int}{a9:Int}:Ag tt.get hp 33 (BK (Ao b l) (i * 10)) (.agg ⟨[.int .u64 (a0), .int .i64 (a1), .int .i64 (a2), .int .i64 (a3), .int .u32 (a4), .int .i64 (a5), .int .u64 (a6), .int .u64 (a7), .int .u64 (a8), .int .u64 (a9)]⟩)=([(b,Af AE (l.set i ⟨a0,a1,a2,a3,a4,a5,a6,a7,a8,a9⟩))],True):=Si (E:=AE) (cs:=AE.enc ⟨a0,a1,a2,a3,a4,a5,a6,a7,a8,a9⟩) CP rfl h hi rfl rfl
@[go_sem] theorem kc {hp:Hp}{b:Nat}{l:List (AM)}{i:Nat}(h:hp b=Af AE l)(hi:i < l.length){x:Int}:Ag tt.get hp 28 (BK (Ao b l) (i * 10)) (.int .u64 (x))=([(b,Af AE (l.set i {at' l i with At:=x}))],True):=Cf (f:=0) Gq h hi rfl (by decide) rfl rfl
@[go_sem] theorem mC {hp:Hp}{b:Nat}{l:List (AM)}{i:Nat}(h:hp b=Af AE l)(hi:i < l.length){x:Int}:Ag tt.get hp 3 (BK (Ao b l) (i * 10+1)) (.int .i64 (x))=([(b,Af AE (l.set i {at' l i with Kind:=x}))],True):=Cf (f:=1) HF h hi rfl (by decide) rfl rfl
@[go_sem] theorem lI {hp:Hp}{b:Nat}{l:List (AM)}{i:Nat}(h:hp b=Af AE l)(hi:i < l.length){x:Int}:Ag tt.get hp 3 (BK (Ao b l) (i * 10+2)) (.int .i64 (x))=([(b,Af AE (l.set i {at' l i with Bw:=x}))],True):=Cf (f:=2) HF h hi rfl (by decide) rfl rfl
@[go_sem] theorem kH {hp:Hp}{b:Nat}{l:List (AM)}{i:Nat}(h:hp b=Af AE l)(hi:i < l.length){x:Int}:Ag tt.get hp 3 (BK (Ao b l) (i * 10+3)) (.int .i64 (x))=([(b,Af AE (l.set i {at' l i with DY:=x}))],True):=Cf (f:=3) HF h hi rfl (by decide) rfl rfl
@[go_sem] theorem lU {hp:Hp}{b:Nat}{l:List (AM)}{i:Nat}(h:hp b=Af AE l)(hi:i < l.length){x:Int}:Ag tt.get hp 29 (BK (Ao b l) (i * 10+4)) (.int .u32 (x))=([(b,Af AE (l.set i {at' l i with Id:=x}))],True):=Cf (f:=4) B3 h hi rfl (by decide) rfl rfl
@[go_sem] theorem kv {hp:Hp}{b:Nat}{l:List (AM)}{i:Nat}(h:hp b=Af AE l)(hi:i < l.length){x:Int}:Ag tt.get hp 3 (BK (Ao b l) (i * 10+5)) (.int .i64 (x))=([(b,Af AE (l.set i {at' l i with Set:=x}))],True):=Cf (f:=5) HF h hi rfl (by decide) rfl rfl
@[go_sem] theorem po {b:Nat}{l:List (AM)}{hp2:Hp}:Cy tt.get hp2 22 (Ao b l)=(.int .i64 (l.length:Int),True):=by cases l with | nil=>unfold Cy Ao;simp only [Ck,Ex,DA,Pc];rfl | cons a l=>unfold Cy Ao;simp only [Ck,Ex,DA,Pc];rfl
@[go_sem] theorem pO {hp:Hp}{b top k:Nat}{l:List (AM)}(h:hp b=Af AE l)(hk:hp k=some (.cells true 10 (cellsOf (hp k))))(hc:AE.enc (AE.dec (cellsOf (hp k)))=cellsOf (hp k))(hn:l.length < 16777216):Aj tt.get hp top [22,22] (Ao b l) (.slice (some ⟨k,0,none⟩) 1 1)=some (Ao top (l ++ [AE.dec (cellsOf (hp k))]),DZ b l top (Af AE (l ++ [AE.dec (cellsOf (hp k))])),top+1):=Ea Ck DA rfl CP rfl rfl h hk hc hn
end
section
theorem E4 {hp:Hp}{v:Value}{l:List (Int)}(h:BQ AQ hp v l){hp':Hp}:Cy tt.get hp' 51 v=(.int .i64 (l.length:Int),True):=h.PD CF
theorem KG {hp:Hp}{v:Value}{l:List (Int)}(h:BQ AQ hp v l){k:IntKind}{n:Int}(h0:0≤n)(h1:n < l.length):Al tt.get 51 v (.int k n)=(BK v (n.toNat * 1),True):=h.idx CF B3 rfl h0 h1
theorem Sr {hp:Hp}{v:Value}{l:List (Int)}(h:BQ AQ hp v l){i:Nat}(hi:i < l.length):AZ tt.get hp 29 (BK v (i * 1))=(.int .u32 (at' l i),True):=h.cell (f:=0) B3 rfl hi (by decide)
theorem TM {hp:Hp}{v:Value}{l:List (Int)}(h:BQ AQ hp v l){k:IntKind}{n:Int}(h0:0≤n)(h1:n≤l.length):Bf tt.get hp 51 v none (some (.int k n))=(KN 1 v 0 n.toNat,True):=h.nT CF B3 h0 h1
theorem Tg {hp:Hp}{v:Value}{l:List (Int)}(h:BQ AQ hp v l){k:IntKind}{n:Int}(h0:0≤n)(h1:n≤l.length):Bf tt.get hp 51 v (some (.int k n)) none=(KQ 1 v n.toNat,True):=h.o7 CF B3 rfl h0 h1
@[go_sem] theorem nc {hp:Hp}{x:Value}{b top:Nat}{l:List (Int)}(h:hp b=Af AQ l)(hx:KR AQ hp x)(hn:l.length+(AQ.rd hp x).length≤16777216):Aj tt.get hp top [51,51] (Ao b l) x=some (Ao top (l ++ AQ.rd hp x),DZ b l top (Af AQ (l ++ AQ.rd hp x)),top+1):=ET CF CQ rfl B3 rfl rfl h hx hn
@[go_sem] theorem kl {hp:Hp}{x:Value}{top:Nat}(hx:KR AQ hp x)(hn:(AQ.rd hp x).length≤16777216):Aj tt.get hp top [51,51] (.slice none 0 0) x=some (Ao top (AQ.rd hp x), [(top,Af AQ (AQ.rd hp x))],top+1):=EO CF CQ rfl B3 rfl rfl hx hn
@[go_sem] theorem NZ {hp:Hp}{b top k:Nat}{l:List (Int)}(h:hp b=Af AQ l)(hk:hp k=some (.cells true 1 (cellsOf (hp k))))(hc:AQ.enc (AQ.dec (cellsOf (hp k)))=cellsOf (hp k))(hn:CK (l.length+1) ID.bytes=true):Aj tt.get hp top [51,51] (Ao b l) (.slice (some ⟨k,0,none⟩) 1 1)=some (Ao top (l ++ [AQ.dec (cellsOf (hp k))]),DZ b l top (Af AQ (l ++ [AQ.dec (cellsOf (hp k))])),top+1):=Dy CF CQ rfl B3 rfl rfl h hk hc hn
@[go_sem] theorem lP {hp:Hp}{x:Value}{top:Nat}(hx:KR AQ hp x)(hn:CK (AQ.rd hp x).length ID.bytes=true):Aj tt.get hp top [51,51] (.slice none 0 0) x=some (Ao top (AQ.rd hp x), [(top,Af AQ (AQ.rd hp x))],top+1):=Du CF CQ rfl B3 rfl rfl hx hn
@[go_sem] theorem ky {hp:Hp}{top k:Nat}(hk:hp k=some (.cells true 1 (cellsOf (hp k))))(hc:AQ.enc (AQ.dec (cellsOf (hp k)))=cellsOf (hp k)):Aj tt.get hp top [51,51] (.slice none 0 0) (.slice (some ⟨k,0,none⟩) 1 1)=some (Ao top [AQ.dec (cellsOf (hp k))], [(top,Af AQ [AQ.dec (cellsOf (hp k))])],top+1):=Dv CF CQ rfl B3 rfl rfl hk hc
@[go_sem] theorem nV {hp:Hp}{b top:Nat}{l l2:List (Int)}(h:hp b=Af AQ l):hp.Am (DZ b l top (Af AQ l2))=(hp.set b none).set top (Af AQ l2):=HH h
@[go_sem] theorem TD {hp:Hp}{b:Nat}{l:List (Int)}{i:Nat}(h:hp b=Af AQ l)(hi:i < l.length){x:Int}:Ag tt.get hp 29 (BK (Ao b l) (i * 1)) (.int .u32 (x))=([(b,Af AQ (l.set i x))],True):=Cf (f:=0) B3 h hi rfl (by decide) rfl rfl
@[go_sem] theorem oR {b:Nat}{l:List (Int)}{hp2:Hp}:Cy tt.get hp2 51 (Ao b l)=(.int .i64 (l.length:Int),True):=by cases l with | nil=>unfold Cy Ao;simp only [CF,Ex,CQ,Mg];rfl | cons a l=>unfold Cy Ao;simp only [CF,Ex,CQ,Mg];rfl
@[go_sem] theorem kR {hp:Hp}{b top k:Nat}{l:List (Int)}(h:hp b=Af AQ l)(hk:hp k=some (.cells true 1 (cellsOf (hp k))))(hc:AQ.enc (AQ.dec (cellsOf (hp k)))=cellsOf (hp k))(hn:l.length < 16777216):Aj tt.get hp top [51,51] (Ao b l) (.slice (some ⟨k,0,none⟩) 1 1)=some (Ao top (l ++ [AQ.dec (cellsOf (hp k))]),DZ b l top (Af AQ (l ++ [AQ.dec (cellsOf (hp k))])),top+1):=Ea CF CQ rfl B3 rfl rfl h hk hc hn
end
section
theorem lF {hp:Hp}{v:Value}{l:List (List UInt8)}(h:BQ AR hp v l){hp':Hp}:Cy tt.get hp' 58 v=(.int .i64 (l.length:Int),True):=h.PD Br
theorem Cv {hp:Hp}{v:Value}{l:List (List UInt8)}(h:BQ AR hp v l){k:IntKind}{n:Int}(h0:0≤n)(h1:n < l.length):Al tt.get 58 v (.int k n)=(BK v (n.toNat * 1),True):=h.idx Br CX rfl h0 h1
theorem Kw {hp:Hp}{v:Value}{l:List (List UInt8)}(h:BQ AR hp v l){i:Nat}(hi:i < l.length):AZ tt.get hp 9 (BK v (i * 1))=(.string ⟨⟨at' l i⟩⟩,True):=h.cell (f:=0) CX rfl hi (by decide)
theorem pR {hp:Hp}{v:Value}{l:List (List UInt8)}(h:BQ AR hp v l){k:IntKind}{n:Int}(h0:0≤n)(h1:n≤l.length):Bf tt.get hp 58 v none (some (.int k n))=(KN 1 v 0 n.toNat,True):=h.nT Br CX h0 h1
theorem pE {hp:Hp}{v:Value}{l:List (List UInt8)}(h:BQ AR hp v l){k:IntKind}{n:Int}(h0:0≤n)(h1:n≤l.length):Bf tt.get hp 58 v (some (.int k n)) none=(KQ 1 v n.toNat,True):=h.o7 Br CX rfl h0 h1
@[go_sem] theorem mq {hp:Hp}{x:Value}{b top:Nat}{l:List (List UInt8)}(h:hp b=Af AR l)(hx:KR AR hp x)(hn:l.length+(AR.rd hp x).length≤16777216):Aj tt.get hp top [58,58] (Ao b l) x=some (Ao top (l ++ AR.rd hp x),DZ b l top (Af AR (l ++ AR.rd hp x)),top+1):=ET Br CD rfl CX rfl rfl h hx hn
@[go_sem] theorem kO {hp:Hp}{x:Value}{top:Nat}(hx:KR AR hp x)(hn:(AR.rd hp x).length≤16777216):Aj tt.get hp top [58,58] (.slice none 0 0) x=some (Ao top (AR.rd hp x), [(top,Af AR (AR.rd hp x))],top+1):=EO Br CD rfl CX rfl rfl hx hn
@[go_sem] theorem eh {hp:Hp}{b top k:Nat}{l:List (List UInt8)}(h:hp b=Af AR l)(hk:hp k=some (.cells true 1 (cellsOf (hp k))))(hc:AR.enc (AR.dec (cellsOf (hp k)))=cellsOf (hp k))(hn:CK (l.length+1) lA.bytes=true):Aj tt.get hp top [58,58] (Ao b l) (.slice (some ⟨k,0,none⟩) 1 1)=some (Ao top (l ++ [AR.dec (cellsOf (hp k))]),DZ b l top (Af AR (l ++ [AR.dec (cellsOf (hp k))])),top+1):=Dy Br CD rfl CX rfl rfl h hk hc hn
@[go_sem] theorem lS {hp:Hp}{x:Value}{top:Nat}(hx:KR AR hp x)(hn:CK (AR.rd hp x).length lA.bytes=true):Aj tt.get hp top [58,58] (.slice none 0 0) x=some (Ao top (AR.rd hp x), [(top,Af AR (AR.rd hp x))],top+1):=Du Br CD rfl CX rfl rfl hx hn
@[go_sem] theorem mB {hp:Hp}{top k:Nat}(hk:hp k=some (.cells true 1 (cellsOf (hp k))))(hc:AR.enc (AR.dec (cellsOf (hp k)))=cellsOf (hp k)):Aj tt.get hp top [58,58] (.slice none 0 0) (.slice (some ⟨k,0,none⟩) 1 1)=some (Ao top [AR.dec (cellsOf (hp k))], [(top,Af AR [AR.dec (cellsOf (hp k))])],top+1):=Dv Br CD rfl CX rfl rfl hk hc
@[go_sem] theorem oC {hp:Hp}{b top:Nat}{l l2:List (List UInt8)}(h:hp b=Af AR l):hp.Am (DZ b l top (Af AR l2))=(hp.set b none).set top (Af AR l2):=HH h
@[go_sem] theorem mL {hp:Hp}{b:Nat}{l:List (List UInt8)}{i:Nat}(h:hp b=Af AR l)(hi:i < l.length){x:List UInt8}:Ag tt.get hp 9 (BK (Ao b l) (i * 1)) (.string ⟨⟨x⟩⟩)=([(b,Af AR (l.set i x))],True):=Cf (f:=0) CX h hi rfl (by decide) rfl rfl
@[go_sem] theorem oO {b:Nat}{l:List (List UInt8)}{hp2:Hp}:Cy tt.get hp2 58 (Ao b l)=(.int .i64 (l.length:Int),True):=by cases l with | nil=>unfold Cy Ao;simp only [Br,Ex,CD,LY];rfl | cons a l=>unfold Cy Ao;simp only [Br,Ex,CD,LY];rfl
@[go_sem] theorem kq {hp:Hp}{b top k:Nat}{l:List (List UInt8)}(h:hp b=Af AR l)(hk:hp k=some (.cells true 1 (cellsOf (hp k))))(hc:AR.enc (AR.dec (cellsOf (hp k)))=cellsOf (hp k))(hn:l.length < 16777216):Aj tt.get hp top [58,58] (Ao b l) (.slice (some ⟨k,0,none⟩) 1 1)=some (Ao top (l ++ [AR.dec (cellsOf (hp k))]),DZ b l top (Af AR (l ++ [AR.dec (cellsOf (hp k))])),top+1):=Ea Br CD rfl CX rfl rfl h hk hc hn
end
section
@[go_sem] theorem qE {hp:Hp}{x:Value}{b top:Nat}{l:List (Int)}(h:hp b=Af Az l)(hx:KR Az hp x)(hn:l.length+(Az.rd hp x).length≤16777216):Aj tt.get hp top [60,60] (Ao b l) x=some (Ao top (l ++ Az.rd hp x),DZ b l top (Af Az (l ++ Az.rd hp x)),top+1):=ET EB C6 rfl GQ rfl rfl h hx hn
@[go_sem] theorem ng {hp:Hp}{x:Value}{top:Nat}(hx:KR Az hp x)(hn:(Az.rd hp x).length≤16777216):Aj tt.get hp top [60,60] (.slice none 0 0) x=some (Ao top (Az.rd hp x), [(top,Af Az (Az.rd hp x))],top+1):=EO EB C6 rfl GQ rfl rfl hx hn
@[go_sem] theorem l9 {hp:Hp}{b top k:Nat}{l:List (Int)}(h:hp b=Af Az l)(hk:hp k=some (.cells true 1 (cellsOf (hp k))))(hc:Az.enc (Az.dec (cellsOf (hp k)))=cellsOf (hp k))(hn:CK (l.length+1) oh.bytes=true):Aj tt.get hp top [60,60] (Ao b l) (.slice (some ⟨k,0,none⟩) 1 1)=some (Ao top (l ++ [Az.dec (cellsOf (hp k))]),DZ b l top (Af Az (l ++ [Az.dec (cellsOf (hp k))])),top+1):=Dy EB C6 rfl GQ rfl rfl h hk hc hn
@[go_sem] theorem ot {hp:Hp}{x:Value}{top:Nat}(hx:KR Az hp x)(hn:CK (Az.rd hp x).length oh.bytes=true):Aj tt.get hp top [60,60] (.slice none 0 0) x=some (Ao top (Az.rd hp x), [(top,Af Az (Az.rd hp x))],top+1):=Du EB C6 rfl GQ rfl rfl hx hn
@[go_sem] theorem nC {hp:Hp}{top k:Nat}(hk:hp k=some (.cells true 1 (cellsOf (hp k))))(hc:Az.enc (Az.dec (cellsOf (hp k)))=cellsOf (hp k)):Aj tt.get hp top [60,60] (.slice none 0 0) (.slice (some ⟨k,0,none⟩) 1 1)=some (Ao top [Az.dec (cellsOf (hp k))], [(top,Af Az [Az.dec (cellsOf (hp k))])],top+1):=Dv EB C6 rfl GQ rfl rfl hk hc
@[go_sem] theorem qJ {hp:Hp}{b top:Nat}{l l2:List (Int)}(h:hp b=Af Az l):hp.Am (DZ b l top (Af Az l2))=(hp.set b none).set top (Af Az l2):=HH h
@[go_sem] theorem qX {hp:Hp}{b:Nat}{l:List (Int)}{i:Nat}(h:hp b=Af Az l)(hi:i < l.length){x:Int}:Ag tt.get hp 5 (BK (Ao b l) (i * 1)) (.int .u8 (x))=([(b,Af Az (l.set i x))],True):=Cf (f:=0) GQ h hi rfl (by decide) rfl rfl
@[go_sem] theorem qT {b:Nat}{l:List (Int)}{hp2:Hp}:Cy tt.get hp2 60 (Ao b l)=(.int .i64 (l.length:Int),True):=by cases l with | nil=>unfold Cy Ao;simp only [EB,Ex,C6,Ns];rfl | cons a l=>unfold Cy Ao;simp only [EB,Ex,C6,Ns];rfl
@[go_sem] theorem n9 {hp:Hp}{b top k:Nat}{l:List (Int)}(h:hp b=Af Az l)(hk:hp k=some (.cells true 1 (cellsOf (hp k))))(hc:Az.enc (Az.dec (cellsOf (hp k)))=cellsOf (hp k))(hn:l.length < 16777216):Aj tt.get hp top [60,60] (Ao b l) (.slice (some ⟨k,0,none⟩) 1 1)=some (Ao top (l ++ [Az.dec (cellsOf (hp k))]),DZ b l top (Af Az (l ++ [Az.dec (cellsOf (hp k))])),top+1):=Ea EB C6 rfl GQ rfl rfl h hk hc hn
end
theorem CG {s d:TypeId}{k1 k2:IntKind}{hp:Hp}{x:Value}(h1:kindOf tt.get s=some (.int k1))(h2:kindOf tt.get d=some (.int k2)):BO tt.get hp s d x=(.int k2 (AL k2 (intOf x)),HK x):=by
 unfold BO
 simp only [h1,h2,MR]
@[go_sem] theorem uG {hp:Hp}{x:Value}:BO tt.get hp 2 28 x=(.int .u64 (AL .u64 (intOf x)),HK x):=CG OQ C8
@[go_sem] theorem vL {hp:Hp}{x:Value}:BO tt.get hp 3 5 x=(.int .u8 (AL .u8 (intOf x)),HK x):=CG Hu E6
@[go_sem] theorem uV {hp:Hp}{x:Value}:BO tt.get hp 3 28 x=(.int .u64 (AL .u64 (intOf x)),HK x):=CG Hu C8
@[go_sem] theorem tO {hp:Hp}{x:Value}:BO tt.get hp 3 121 x=(.int .u64 (AL .u64 (intOf x)),HK x):=CG Hu K7
@[go_sem] theorem se {hp:Hp}{x:Value}:BO tt.get hp 3 185 x=(.int .u64 (AL .u64 (intOf x)),HK x):=CG Hu ME
@[go_sem] theorem uk {hp:Hp}{x:Value}:BO tt.get hp 5 3 x=(.int .i64 (AL .i64 (intOf x)),HK x):=CG E6 Hu
@[go_sem] theorem tu {hp:Hp}{x:Value}:BO tt.get hp 5 21 x=(.int .i32 (AL .i32 (intOf x)),HK x):=CG E6 UG
@[go_sem] theorem uH {hp:Hp}{x:Value}:BO tt.get hp 5 28 x=(.int .u64 (AL .u64 (intOf x)),HK x):=CG E6 C8
@[go_sem] theorem td {hp:Hp}{x:Value}:BO tt.get hp 5 29 x=(.int .u32 (AL .u32 (intOf x)),HK x):=CG E6 Fv
@[go_sem] theorem uF {hp:Hp}{x:Value}:BO tt.get hp 28 2 x=(.int .i64 (AL .i64 (intOf x)),HK x):=CG C8 OQ
@[go_sem] theorem tm {hp:Hp}{x:Value}:BO tt.get hp 28 3 x=(.int .i64 (AL .i64 (intOf x)),HK x):=CG C8 Hu
@[go_sem] theorem uY {hp:Hp}{x:Value}:BO tt.get hp 28 5 x=(.int .u8 (AL .u8 (intOf x)),HK x):=CG C8 E6
@[go_sem] theorem r9 {hp:Hp}{x:Value}:BO tt.get hp 28 29 x=(.int .u32 (AL .u32 (intOf x)),HK x):=CG C8 Fv
@[go_sem] theorem uJ {hp:Hp}{x:Value}:BO tt.get hp 29 5 x=(.int .u8 (AL .u8 (intOf x)),HK x):=CG Fv E6
@[go_sem] theorem r0 {hp:Hp}{x:Value}:BO tt.get hp 29 28 x=(.int .u64 (AL .u64 (intOf x)),HK x):=CG Fv C8
@[go_sem] theorem sq {hp:Hp}{x:Value}:BO tt.get hp 121 3 x=(.int .i64 (AL .i64 (intOf x)),HK x):=CG K7 Hu
@[go_sem] theorem pc {hp:Hp}{x:Value}:BO tt.get hp 121 29 x=(.int .u32 (AL .u32 (intOf x)),HK x):=CG K7 Fv
end Go.Proofs.YthpibnpeaidabaaGreatDoor.Dm
