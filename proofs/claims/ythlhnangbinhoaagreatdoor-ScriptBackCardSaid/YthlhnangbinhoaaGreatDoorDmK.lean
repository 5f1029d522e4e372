/- Mx on the types of this seat; how their data lie in memory. -/
import Derived.Test.YthlhnangbinhoaaGreatDoorDmTab
import Derived.Test.YthlhnangbinhoaaGreatDoorDmH
set_option linter.unusedSimpArgs false
namespace Go.Proofs.YthlhnangbinhoaaGreatDoor.Dm
open Go.Dm
attribute [go_sem] ti2 NQ yh uM rU qm Zb qL Yk Yz Yh ma YE kP dE Zt Ur ZO S8 mC dN Wz di la Xz VI Ud pD lS Ym ZD Wy sG Xw YL bB XN aJ ba aG bx UC a7 R8 bZ bb aZ ae bm cE R1 Wv Wx T3 TA TW W1 bE X3 RN Wh XI W0 bd ah Xn TD XZ RJ XC T4 bj b8 Q0 az bf aL ai ay aw aa aH T8
@[go_sem] theorem Bk:tt.get 3=some NQ:=by kernel_rfl
@[go_sem] theorem ACw:CC tt.get 3=0:=by kernel_rfl
@[go_sem] theorem T5:kindOf tt.get 3=some (.int .i64):=by kernel_rfl
@[go_sem] theorem AD0 {op:BinOp}{xo yo:Operand}{x y:Value}:Dn tt.get op 3 xo yo x y=LY op .i64 x y:=J7 T5
@[go_sem] theorem iP:tt.get 4=some yh:=by kernel_rfl
@[go_sem] theorem wL:kindOf tt.get 4=some (.bool):=by kernel_rfl
@[go_sem] theorem AC9 {op:BinOp}{xo yo:Operand}{x y:Value}:Dn tt.get op 4 xo yo x y=Rc op x y:=Yv wL
@[go_sem] theorem EC:tt.get 5=some uM:=by kernel_rfl
@[go_sem] theorem Nk:kindOf tt.get 5=some (.int .u8):=by kernel_rfl
@[go_sem] theorem ACD {op:BinOp}{xo yo:Operand}{x y:Value}:Dn tt.get op 5 xo yo x y=LY op .u8 x y:=J7 Nk
@[go_sem] theorem C5:tt.get 9=some rU:=by kernel_rfl
@[go_sem] theorem Ic:kindOf tt.get 9=some (.string):=by kernel_rfl
@[go_sem] theorem ABB {op:BinOp}{xo yo:Operand}{x y:Value}:Dn tt.get op 9 xo yo x y=Qm op x y:=dj Ic
@[go_sem] theorem tq:tt.get 20=some Zb:=by kernel_rfl
@[go_sem] theorem ADy {op:BinOp}{xo yo:Operand}{x y:Value}:Dn tt.get op 20 xo yo x y=Ln (Di tt.get op 20 xo yo x y):=MK (by kernel_rfl)
@[go_sem] theorem KR:tt.get 22=some Yk:=by kernel_rfl
@[go_sem] theorem C2:kindOf tt.get 22=some (.slice 79):=by kernel_rfl
@[go_sem] theorem Ko:tt.get 23=some Yz:=by kernel_rfl
@[go_sem] theorem BZ:kindOf tt.get 23=some (.slice 81):=by kernel_rfl
@[go_sem] theorem Kd:tt.get 24=some Yh:=by kernel_rfl
@[go_sem] theorem DW:kindOf tt.get 24=some (.slice 83):=by kernel_rfl
@[go_sem] theorem ACm:tt.get 26=some ma:=by kernel_rfl
@[go_sem] theorem wM {b o:Nat}:AD tt.get 26 (.pointer (some ⟨b,o,none⟩)) 0=(.pointer (some ⟨b,o,none⟩),True):=by unfold AD;rw [show AM tt.get 26 (.pointer (some ⟨b,o,none⟩)) 0=some (.pointer (some ⟨b,o,none⟩)) from by kernel_rfl]
@[go_sem] theorem xA {b o:Nat}:AD tt.get 26 (.pointer (some ⟨b,o,none⟩)) 1=(.pointer (some ⟨b,o+1,none⟩),True):=by unfold AD;rw [show AM tt.get 26 (.pointer (some ⟨b,o,none⟩)) 1=some (.pointer (some ⟨b,o+1,none⟩)) from by kernel_rfl]
@[go_sem] theorem xF {b o:Nat}:AD tt.get 26 (.pointer (some ⟨b,o,none⟩)) 2=(.pointer (some ⟨b,o+2,none⟩),True):=by unfold AD;rw [show AM tt.get 26 (.pointer (some ⟨b,o,none⟩)) 2=some (.pointer (some ⟨b,o+2,none⟩)) from by kernel_rfl]
@[go_sem] theorem uG {b o:Nat}:AD tt.get 26 (.pointer (some ⟨b,o,none⟩)) 3=(.pointer (some ⟨b,o+3,none⟩),True):=by unfold AD;rw [show AM tt.get 26 (.pointer (some ⟨b,o,none⟩)) 3=some (.pointer (some ⟨b,o+3,none⟩)) from by kernel_rfl]
@[go_sem] theorem wW {b o:Nat}:AD tt.get 26 (.pointer (some ⟨b,o,none⟩)) 4=(.pointer (some ⟨b,o+4,none⟩),True):=by unfold AD;rw [show AM tt.get 26 (.pointer (some ⟨b,o,none⟩)) 4=some (.pointer (some ⟨b,o+4,none⟩)) from by kernel_rfl]
@[go_sem] theorem uk {b o:Nat}:AD tt.get 26 (.pointer (some ⟨b,o,none⟩)) 5=(.pointer (some ⟨b,o+5,none⟩),True):=by unfold AD;rw [show AM tt.get 26 (.pointer (some ⟨b,o,none⟩)) 5=some (.pointer (some ⟨b,o+5,none⟩)) from by kernel_rfl]
@[go_sem] theorem uY {b o:Nat}:AD tt.get 26 (.pointer (some ⟨b,o,none⟩)) 6=(.pointer (some ⟨b,o+6,none⟩),True):=by unfold AD;rw [show AM tt.get 26 (.pointer (some ⟨b,o,none⟩)) 6=some (.pointer (some ⟨b,o+6,none⟩)) from by kernel_rfl]
@[go_sem] theorem Px:tt.get 27=some YE:=by kernel_rfl
@[go_sem] theorem Hd:kindOf tt.get 27=some (.slice 43):=by kernel_rfl
@[go_sem] theorem zf:tt.get 29=some kP:=by kernel_rfl
@[go_sem] theorem yA:CC tt.get 29=0:=by kernel_rfl
@[go_sem] theorem td {b o:Nat}:AD tt.get 29 (.pointer (some ⟨b,o,none⟩)) 0=(.pointer (some ⟨b,o,none⟩),True):=by unfold AD;rw [show AM tt.get 29 (.pointer (some ⟨b,o,none⟩)) 0=some (.pointer (some ⟨b,o,none⟩)) from by kernel_rfl]
@[go_sem] theorem tx {b o:Nat}:AD tt.get 29 (.pointer (some ⟨b,o,none⟩)) 1=(.pointer (some ⟨b,o+7,none⟩),True):=by unfold AD;rw [show AM tt.get 29 (.pointer (some ⟨b,o,none⟩)) 1=some (.pointer (some ⟨b,o+7,none⟩)) from by kernel_rfl]
@[go_sem] theorem rP:tt.get 30=some dE:=by kernel_rfl
@[go_sem] theorem qy:kindOf tt.get 30=some (.int .i64):=by kernel_rfl
@[go_sem] theorem ACH {op:BinOp}{xo yo:Operand}{x y:Value}:Dn tt.get op 30 xo yo x y=LY op .i64 x y:=J7 qy
@[go_sem] theorem UD:tt.get 36=some Zt:=by kernel_rfl
@[go_sem] theorem Hz:kindOf tt.get 36=some (.slice 47):=by kernel_rfl
@[go_sem] theorem QM:tt.get 38=some Ur:=by kernel_rfl
@[go_sem] theorem ABU:CC tt.get 38=0:=by kernel_rfl
@[go_sem] theorem AB8 {op:BinOp}{xo yo:Operand}{x y:Value}:Dn tt.get op 38 xo yo x y=Ln (Di tt.get op 38 xo yo x y):=MK (by kernel_rfl)
@[go_sem] theorem KE:tt.get 41=some ZO:=by kernel_rfl
@[go_sem] theorem RO:kindOf tt.get 41=some (.int .u32):=by kernel_rfl
@[go_sem] theorem AAO {op:BinOp}{xo yo:Operand}{x y:Value}:Dn tt.get op 41 xo yo x y=LY op .u32 x y:=J7 RO
@[go_sem] theorem NL:tt.get 43=some S8:=by kernel_rfl
@[go_sem] theorem ADw:CC tt.get 43=0:=by kernel_rfl
@[go_sem] theorem ACg {b o:Nat}:AD tt.get 43 (.pointer (some ⟨b,o,none⟩)) 0=(.pointer (some ⟨b,o,none⟩),True):=by unfold AD;rw [show AM tt.get 43 (.pointer (some ⟨b,o,none⟩)) 0=some (.pointer (some ⟨b,o,none⟩)) from by kernel_rfl]
@[go_sem] theorem ABj {b o:Nat}:AD tt.get 43 (.pointer (some ⟨b,o,none⟩)) 1=(.pointer (some ⟨b,o+1,none⟩),True):=by unfold AD;rw [show AM tt.get 43 (.pointer (some ⟨b,o,none⟩)) 1=some (.pointer (some ⟨b,o+1,none⟩)) from by kernel_rfl]
@[go_sem] theorem ABx {b o:Nat}:AD tt.get 43 (.pointer (some ⟨b,o,none⟩)) 2=(.pointer (some ⟨b,o+2,none⟩),True):=by unfold AD;rw [show AM tt.get 43 (.pointer (some ⟨b,o,none⟩)) 2=some (.pointer (some ⟨b,o+2,none⟩)) from by kernel_rfl]
@[go_sem] theorem ABr {b o:Nat}:AD tt.get 43 (.pointer (some ⟨b,o,none⟩)) 3=(.pointer (some ⟨b,o+3,none⟩),True):=by unfold AD;rw [show AM tt.get 43 (.pointer (some ⟨b,o,none⟩)) 3=some (.pointer (some ⟨b,o+3,none⟩)) from by kernel_rfl]
@[go_sem] theorem ABz {b o:Nat}:AD tt.get 43 (.pointer (some ⟨b,o,none⟩)) 4=(.pointer (some ⟨b,o+4,none⟩),True):=by unfold AD;rw [show AM tt.get 43 (.pointer (some ⟨b,o,none⟩)) 4=some (.pointer (some ⟨b,o+4,none⟩)) from by kernel_rfl]
@[go_sem] theorem AB4 {b o:Nat}:AD tt.get 43 (.pointer (some ⟨b,o,none⟩)) 5=(.pointer (some ⟨b,o+5,none⟩),True):=by unfold AD;rw [show AM tt.get 43 (.pointer (some ⟨b,o,none⟩)) 5=some (.pointer (some ⟨b,o+5,none⟩)) from by kernel_rfl]
@[go_sem] theorem ACh {b o:Nat}:AD tt.get 43 (.pointer (some ⟨b,o,none⟩)) 6=(.pointer (some ⟨b,o+6,none⟩),True):=by unfold AD;rw [show AM tt.get 43 (.pointer (some ⟨b,o,none⟩)) 6=some (.pointer (some ⟨b,o+6,none⟩)) from by kernel_rfl]
@[go_sem] theorem X9:tt.get 45=some mC:=by kernel_rfl
@[go_sem] theorem Xj:kindOf tt.get 45=some (.int .u16):=by kernel_rfl
@[go_sem] theorem zo {op:BinOp}{xo yo:Operand}{x y:Value}:Dn tt.get op 45 xo yo x y=LY op .u16 x y:=J7 Xj
@[go_sem] theorem Vz:tt.get 47=some dN:=by kernel_rfl
@[go_sem] theorem AB2 {b o:Nat}:AD tt.get 47 (.pointer (some ⟨b,o,none⟩)) 0=(.pointer (some ⟨b,o,none⟩),True):=by unfold AD;rw [show AM tt.get 47 (.pointer (some ⟨b,o,none⟩)) 0=some (.pointer (some ⟨b,o,none⟩)) from by kernel_rfl]
@[go_sem] theorem ACi {b o:Nat}:AD tt.get 47 (.pointer (some ⟨b,o,none⟩)) 1=(.pointer (some ⟨b,o+1,none⟩),True):=by unfold AD;rw [show AM tt.get 47 (.pointer (some ⟨b,o,none⟩)) 1=some (.pointer (some ⟨b,o+1,none⟩)) from by kernel_rfl]
@[go_sem] theorem ACn {b o:Nat}:AD tt.get 47 (.pointer (some ⟨b,o,none⟩)) 2=(.pointer (some ⟨b,o+2,none⟩),True):=by unfold AD;rw [show AM tt.get 47 (.pointer (some ⟨b,o,none⟩)) 2=some (.pointer (some ⟨b,o+2,none⟩)) from by kernel_rfl]
@[go_sem] theorem ACl {b o:Nat}:AD tt.get 47 (.pointer (some ⟨b,o,none⟩)) 3=(.pointer (some ⟨b,o+3,none⟩),True):=by unfold AD;rw [show AM tt.get 47 (.pointer (some ⟨b,o,none⟩)) 3=some (.pointer (some ⟨b,o+3,none⟩)) from by kernel_rfl]
@[go_sem] theorem ABs {b o:Nat}:AD tt.get 47 (.pointer (some ⟨b,o,none⟩)) 4=(.pointer (some ⟨b,o+4,none⟩),True):=by unfold AD;rw [show AM tt.get 47 (.pointer (some ⟨b,o,none⟩)) 4=some (.pointer (some ⟨b,o+4,none⟩)) from by kernel_rfl]
@[go_sem] theorem ACR {b o:Nat}:AD tt.get 47 (.pointer (some ⟨b,o,none⟩)) 5=(.pointer (some ⟨b,o+5,none⟩),True):=by unfold AD;rw [show AM tt.get 47 (.pointer (some ⟨b,o,none⟩)) 5=some (.pointer (some ⟨b,o+5,none⟩)) from by kernel_rfl]
@[go_sem] theorem ACe {b o:Nat}:AD tt.get 47 (.pointer (some ⟨b,o,none⟩)) 6=(.pointer (some ⟨b,o+6,none⟩),True):=by unfold AD;rw [show AM tt.get 47 (.pointer (some ⟨b,o,none⟩)) 6=some (.pointer (some ⟨b,o+6,none⟩)) from by kernel_rfl]
@[go_sem] theorem K5:tt.get 51=some Wz:=by kernel_rfl
@[go_sem] theorem nT:CC tt.get 51=0:=by kernel_rfl
@[go_sem] theorem rj {op:BinOp}{xo yo:Operand}{x y:Value}:Dn tt.get op 51 xo yo x y=Ln (Di tt.get op 51 xo yo x y):=MK (by kernel_rfl)
@[go_sem] theorem dQ {xo yo:Operand}{a:Option Addr}:Di tt.get .eql 51 xo yo (.pointer a) (.pointer none)=some (.bool (a.isNone)):=by cases a <;> simp [Di,LC,K5,Wz]
@[go_sem] theorem cX {xo yo:Operand}{a:Option Addr}:Di tt.get .neq 51 xo yo (.pointer a) (.pointer none)=some (.bool (!a.isNone)):=by cases a <;> simp [Di,LC,K5,Wz]
@[go_sem] theorem Sk:tt.get 53=some di:=by kernel_rfl
@[go_sem] theorem tw:tt.get 55=some la:=by kernel_rfl
@[go_sem] theorem iX {b o:Nat}:AD tt.get 55 (.pointer (some ⟨b,o,none⟩)) 0=(.pointer (some ⟨b,o,none⟩),True):=by unfold AD;rw [show AM tt.get 55 (.pointer (some ⟨b,o,none⟩)) 0=some (.pointer (some ⟨b,o,none⟩)) from by kernel_rfl]
@[go_sem] theorem im {b o:Nat}:AD tt.get 55 (.pointer (some ⟨b,o,none⟩)) 1=(.pointer (some ⟨b,o+1,none⟩),True):=by unfold AD;rw [show AM tt.get 55 (.pointer (some ⟨b,o,none⟩)) 1=some (.pointer (some ⟨b,o+1,none⟩)) from by kernel_rfl]
@[go_sem] theorem GM:tt.get 67=some Xz:=by kernel_rfl
@[go_sem] theorem wC:CC tt.get 67=0:=by kernel_rfl
@[go_sem] theorem CY:kindOf tt.get 67=some (.slice 9):=by kernel_rfl
@[go_sem] theorem JM:tt.get 68=some VI:=by kernel_rfl
@[go_sem] theorem Cq:kindOf tt.get 68=some (.slice 3):=by kernel_rfl
@[go_sem] theorem ADF {op:BinOp}{xo yo:Operand}{x y:Value}:Dn tt.get op 68 xo yo x y=Ln (Di tt.get op 68 xo yo x y):=MK (by kernel_rfl)
@[go_sem] theorem wI {xo yo:Operand}{a:Option Addr}{n c:Nat}:Di tt.get .eql 68 xo yo (.slice a n c) (.slice none 0 0)=some (.bool (a.isNone)):=by cases a <;> simp [Di,LC,JM,VI]
@[go_sem] theorem FA:tt.get 69=some Ud:=by kernel_rfl
@[go_sem] theorem Gd:kindOf tt.get 69=some (.slice 5):=by kernel_rfl
@[go_sem] theorem yI:tt.get 73=some lS:=by kernel_rfl
def Cn:Nat:=Bs * (1+73+4096 * 2)
@[go_sem] theorem wv:CC tt.get 73=Cn:=by kernel_rfl
@[go_sem] theorem oP {b o:Nat}:AD tt.get 73 (.pointer (some ⟨b,o,none⟩)) 1=(.pointer (some ⟨b,o+1,none⟩),True):=by unfold AD;rw [show AM tt.get 73 (.pointer (some ⟨b,o,none⟩)) 1=some (.pointer (some ⟨b,o+1,none⟩)) from by kernel_rfl]
@[go_sem] theorem JT:tt.get 79=some Ym:=by kernel_rfl
@[go_sem] theorem AB3:CC tt.get 79=0:=by kernel_rfl
@[go_sem] theorem yE {b o:Nat}:AD tt.get 79 (.pointer (some ⟨b,o,none⟩)) 0=(.pointer (some ⟨b,o,none⟩),True):=by unfold AD;rw [show AM tt.get 79 (.pointer (some ⟨b,o,none⟩)) 0=some (.pointer (some ⟨b,o,none⟩)) from by kernel_rfl]
@[go_sem] theorem yD {b o:Nat}:AD tt.get 79 (.pointer (some ⟨b,o,none⟩)) 1=(.pointer (some ⟨b,o+1,none⟩),True):=by unfold AD;rw [show AM tt.get 79 (.pointer (some ⟨b,o,none⟩)) 1=some (.pointer (some ⟨b,o+1,none⟩)) from by kernel_rfl]
@[go_sem] theorem yT {b o:Nat}:AD tt.get 79 (.pointer (some ⟨b,o,none⟩)) 2=(.pointer (some ⟨b,o+2,none⟩),True):=by unfold AD;rw [show AM tt.get 79 (.pointer (some ⟨b,o,none⟩)) 2=some (.pointer (some ⟨b,o+2,none⟩)) from by kernel_rfl]
@[go_sem] theorem JX:tt.get 81=some ZD:=by kernel_rfl
@[go_sem] theorem ABq:CC tt.get 81=0:=by kernel_rfl
@[go_sem] theorem xl {b o:Nat}:AD tt.get 81 (.pointer (some ⟨b,o,none⟩)) 0=(.pointer (some ⟨b,o,none⟩),True):=by unfold AD;rw [show AM tt.get 81 (.pointer (some ⟨b,o,none⟩)) 0=some (.pointer (some ⟨b,o,none⟩)) from by kernel_rfl]
@[go_sem] theorem x7 {b o:Nat}:AD tt.get 81 (.pointer (some ⟨b,o,none⟩)) 1=(.pointer (some ⟨b,o+1,none⟩),True):=by unfold AD;rw [show AM tt.get 81 (.pointer (some ⟨b,o,none⟩)) 1=some (.pointer (some ⟨b,o+1,none⟩)) from by kernel_rfl]
@[go_sem] theorem yc {b o:Nat}:AD tt.get 81 (.pointer (some ⟨b,o,none⟩)) 2=(.pointer (some ⟨b,o+2,none⟩),True):=by unfold AD;rw [show AM tt.get 81 (.pointer (some ⟨b,o,none⟩)) 2=some (.pointer (some ⟨b,o+2,none⟩)) from by kernel_rfl]
@[go_sem] theorem IV:tt.get 83=some Wy:=by kernel_rfl
@[go_sem] theorem ABy:CC tt.get 83=0:=by kernel_rfl
@[go_sem] theorem yN {b o:Nat}:AD tt.get 83 (.pointer (some ⟨b,o,none⟩)) 0=(.pointer (some ⟨b,o,none⟩),True):=by unfold AD;rw [show AM tt.get 83 (.pointer (some ⟨b,o,none⟩)) 0=some (.pointer (some ⟨b,o,none⟩)) from by kernel_rfl]
@[go_sem] theorem yZ {b o:Nat}:AD tt.get 83 (.pointer (some ⟨b,o,none⟩)) 1=(.pointer (some ⟨b,o+1,none⟩),True):=by unfold AD;rw [show AM tt.get 83 (.pointer (some ⟨b,o,none⟩)) 1=some (.pointer (some ⟨b,o+1,none⟩)) from by kernel_rfl]
@[go_sem] theorem xm {b o:Nat}:AD tt.get 83 (.pointer (some ⟨b,o,none⟩)) 2=(.pointer (some ⟨b,o+2,none⟩),True):=by unfold AD;rw [show AM tt.get 83 (.pointer (some ⟨b,o,none⟩)) 2=some (.pointer (some ⟨b,o+2,none⟩)) from by kernel_rfl]
@[go_sem] theorem yY {b o:Nat}:AD tt.get 83 (.pointer (some ⟨b,o,none⟩)) 3=(.pointer (some ⟨b,o+3,none⟩),True):=by unfold AD;rw [show AM tt.get 83 (.pointer (some ⟨b,o,none⟩)) 3=some (.pointer (some ⟨b,o+3,none⟩)) from by kernel_rfl]
@[go_sem] theorem yb {b o:Nat}:AD tt.get 83 (.pointer (some ⟨b,o,none⟩)) 4=(.pointer (some ⟨b,o+4,none⟩),True):=by unfold AD;rw [show AM tt.get 83 (.pointer (some ⟨b,o,none⟩)) 4=some (.pointer (some ⟨b,o+4,none⟩)) from by kernel_rfl]
@[go_sem] theorem ADq:tt.get 100=some Xw:=by kernel_rfl
@[go_sem] theorem ADE:CC tt.get 100=0:=by kernel_rfl
@[go_sem] theorem zq {b o:Nat}:AD tt.get 100 (.pointer (some ⟨b,o,none⟩)) 0=(.pointer (some ⟨b,o,none⟩),True):=by unfold AD;rw [show AM tt.get 100 (.pointer (some ⟨b,o,none⟩)) 0=some (.pointer (some ⟨b,o,none⟩)) from by kernel_rfl]
@[go_sem] theorem zS {b o:Nat}:AD tt.get 100 (.pointer (some ⟨b,o,none⟩)) 1=(.pointer (some ⟨b,o+1,none⟩),True):=by unfold AD;rw [show AM tt.get 100 (.pointer (some ⟨b,o,none⟩)) 1=some (.pointer (some ⟨b,o+1,none⟩)) from by kernel_rfl]
@[go_sem] theorem AAI {b o:Nat}:AD tt.get 100 (.pointer (some ⟨b,o,none⟩)) 2=(.pointer (some ⟨b,o+2,none⟩),True):=by unfold AD;rw [show AM tt.get 100 (.pointer (some ⟨b,o,none⟩)) 2=some (.pointer (some ⟨b,o+2,none⟩)) from by kernel_rfl]
@[go_sem] theorem zO:tt.get 101=some YL:=by kernel_rfl
@[go_sem] theorem xk:CC tt.get 101=0:=by kernel_rfl
@[go_sem] theorem AAw:kindOf tt.get 101=some (.array 12 100):=by kernel_rfl
@[go_sem] theorem fZ:tt.get 106=some XN:=by kernel_rfl
@[go_sem] theorem Xc:kindOf tt.get 106=some (.int .u64):=by kernel_rfl
@[go_sem] theorem Ws:tt.get 136=some UC:=by kernel_rfl
@[go_sem] theorem LX:kindOf tt.get 136=some (.map 3 3):=by kernel_rfl
@[go_sem] theorem qt {hp:Hp}{b:Nat}:CQ tt.get hp 136 (.map (some b))=(match hp b with | some (.map es _)=>(.int .i64 (Int.ofNat es.length),True) | _=>(undef,False)):=by unfold CQ;simp only [LX,Eb,Ws,UC];cases hp b with | none=>rfl | some o=>cases o <;> rfl
@[go_sem] theorem bO:tt.get 143=some R8:=by kernel_rfl
@[go_sem] theorem zE:CC tt.get 143=0:=by kernel_rfl
@[go_sem] theorem uN {b o:Nat}:AD tt.get 143 (.pointer (some ⟨b,o,none⟩)) 0=(.pointer (some ⟨b,o,none⟩),True):=by unfold AD;rw [show AM tt.get 143 (.pointer (some ⟨b,o,none⟩)) 0=some (.pointer (some ⟨b,o,none⟩)) from by kernel_rfl]
@[go_sem] theorem K7:tt.get 183=some R1:=by kernel_rfl
@[go_sem] theorem Kf:kindOf tt.get 183=some (.slice 233):=by kernel_rfl
@[go_sem] theorem ACG:tt.get 185=some Wv:=by kernel_rfl
@[go_sem] theorem zJ:CC tt.get 185=0:=by kernel_rfl
@[go_sem] theorem w9 {b o:Nat}:AD tt.get 185 (.pointer (some ⟨b,o,none⟩)) 0=(.pointer (some ⟨b,o,none⟩),True):=by unfold AD;rw [show AM tt.get 185 (.pointer (some ⟨b,o,none⟩)) 0=some (.pointer (some ⟨b,o,none⟩)) from by kernel_rfl]
@[go_sem] theorem uW {b o:Nat}:AD tt.get 185 (.pointer (some ⟨b,o,none⟩)) 1=(.pointer (some ⟨b,o+1,none⟩),True):=by unfold AD;rw [show AM tt.get 185 (.pointer (some ⟨b,o,none⟩)) 1=some (.pointer (some ⟨b,o+1,none⟩)) from by kernel_rfl]
@[go_sem] theorem ACf:tt.get 188=some Wx:=by kernel_rfl
@[go_sem] theorem VW:tt.get 192=some T3:=by kernel_rfl
@[go_sem] theorem OY:kindOf tt.get 192=some (.map 202 3):=by kernel_rfl
@[go_sem] theorem nZ {hp:Hp}{b:Nat}:CQ tt.get hp 192 (.map (some b))=(match hp b with | some (.map es _)=>(.int .i64 (Int.ofNat es.length),True) | _=>(undef,False)):=by unfold CQ;simp only [OY,Eb,VW,T3];cases hp b with | none=>rfl | some o=>cases o <;> rfl
@[go_sem] theorem S6:tt.get 193=some TA:=by kernel_rfl
@[go_sem] theorem Sr:kindOf tt.get 193=some (.map 202 4):=by kernel_rfl
@[go_sem] theorem l6 {hp:Hp}{b:Nat}:CQ tt.get hp 193 (.map (some b))=(match hp b with | some (.map es _)=>(.int .i64 (Int.ofNat es.length),True) | _=>(undef,False)):=by unfold CQ;simp only [Sr,Eb,S6,TA];cases hp b with | none=>rfl | some o=>cases o <;> rfl
@[go_sem] theorem V3:tt.get 194=some TW:=by kernel_rfl
@[go_sem] theorem WA:kindOf tt.get 194=some (.map 3 4):=by kernel_rfl
@[go_sem] theorem nY {hp:Hp}{b:Nat}:CQ tt.get hp 194 (.map (some b))=(match hp b with | some (.map es _)=>(.int .i64 (Int.ofNat es.length),True) | _=>(undef,False)):=by unfold CQ;simp only [WA,Eb,V3,TW];cases hp b with | none=>rfl | some o=>cases o <;> rfl
@[go_sem] theorem ACN:tt.get 195=some W1:=by kernel_rfl
@[go_sem] theorem xp:tt.get 200=some X3:=by kernel_rfl
@[go_sem] theorem sq {b o:Nat}:AD tt.get 200 (.pointer (some ⟨b,o,none⟩)) 1=(.pointer (some ⟨b,o+1,none⟩),True):=by unfold AD;rw [show AM tt.get 200 (.pointer (some ⟨b,o,none⟩)) 1=some (.pointer (some ⟨b,o+1,none⟩)) from by kernel_rfl]
@[go_sem] theorem Zo:tt.get 202=some RN:=by kernel_rfl
@[go_sem] theorem ACT:CC tt.get 202=0:=by kernel_rfl
@[go_sem] theorem yG:tt.get 207=some Wh:=by kernel_rfl
@[go_sem] theorem wu:CC tt.get 207=0:=by kernel_rfl
@[go_sem] theorem yO:kindOf tt.get 207=some (.array 25 4):=by kernel_rfl
@[go_sem] theorem AAZ:tt.get 208=some XI:=by kernel_rfl
@[go_sem] theorem AAK:kindOf tt.get 208=some (.array 25 3):=by kernel_rfl
@[go_sem] theorem s8:tt.get 209=some W0:=by kernel_rfl
@[go_sem] theorem ABa:tt.get 221=some Xn:=by kernel_rfl
@[go_sem] theorem yM:CC tt.get 221=0:=by kernel_rfl
@[go_sem] theorem ABM:kindOf tt.get 221=some (.array 25 208):=by kernel_rfl
@[go_sem] theorem PE:tt.get 223=some TD:=by kernel_rfl
@[go_sem] theorem HF:kindOf tt.get 223=some (.map 248 83):=by kernel_rfl
@[go_sem] theorem aB {hp:Hp}{b:Nat}:CQ tt.get hp 223 (.map (some b))=(match hp b with | some (.map es _)=>(.int .i64 (Int.ofNat es.length),True) | _=>(undef,False)):=by unfold CQ;simp only [HF,Eb,PE,TD];cases hp b with | none=>rfl | some o=>cases o <;> rfl
@[go_sem] theorem ADM:tt.get 227=some XZ:=by kernel_rfl
@[go_sem] theorem MQ:tt.get 228=some RJ:=by kernel_rfl
@[go_sem] theorem MN:kindOf tt.get 228=some (.slice 282):=by kernel_rfl
@[go_sem] theorem ADm:tt.get 230=some XC:=by kernel_rfl
@[go_sem] theorem Pj:tt.get 233=some T4:=by kernel_rfl
@[go_sem] theorem MM:tt.get 248=some Q0:=by kernel_rfl
@[go_sem] theorem u3:CC tt.get 248=0:=by kernel_rfl
@[go_sem] theorem SW:tt.get 282=some T8:=by kernel_rfl
def U3:B9 (Int):=⟨fun a=> [.int .i64 (a)],fun l=>intOf ((l[0]?).getD undef),1,fun _=>rfl,fun _=>rfl,fun _=>rfl⟩
instance:U3.Plain:=⟨fun _ _=>rfl⟩
@[go_sem] theorem zT (a:Int):U3.enc a= [.int .i64 (a)]:=rfl
@[go_sem] theorem AAM (l:List Value):U3.dec l=intOf ((l[0]?).getD undef):=rfl
def Ad:B9 (Int):=⟨fun a=> [.int .i64 (a)],fun l=>intOf ((l[0]?).getD undef),1,fun _=>rfl,fun _=>rfl,fun _=>rfl⟩
instance:Ad.Plain:=⟨fun _ _=>rfl⟩
@[go_sem] theorem ADI (a:Int):Ad.enc a= [.int .i64 (a)]:=rfl
@[go_sem] theorem ADP (l:List Value):Ad.dec l=intOf ((l[0]?).getD undef):=rfl
def Y1:B9 (Bool):=⟨fun a=> [.bool (a)],fun l=>CH ((l[0]?).getD undef),1,fun _=>rfl,fun _=>rfl,fun _=>rfl⟩
instance:Y1.Plain:=⟨fun _ _=>rfl⟩
@[go_sem] theorem ACF (a:Bool):Y1.enc a= [.bool (a)]:=rfl
@[go_sem] theorem ABm (l:List Value):Y1.dec l=CH ((l[0]?).getD undef):=rfl
def CL:B9 (Int):=⟨fun a=> [.int .u8 (a)],fun l=>intOf ((l[0]?).getD undef),1,fun _=>rfl,fun _=>rfl,fun _=>rfl⟩
instance:CL.Plain:=⟨fun _ _=>rfl⟩
@[go_sem] theorem yj (a:Int):CL.enc a= [.int .u8 (a)]:=rfl
@[go_sem] theorem AAc (l:List Value):CL.dec l=intOf ((l[0]?).getD undef):=rfl
def AH:B9 (List UInt8):=⟨fun a=> [.string ⟨⟨a⟩⟩],fun l=>strOf ((l[0]?).getD undef),1,fun _=>rfl,fun _=>rfl,fun _=>rfl⟩
instance:AH.Plain:=⟨fun _ _=>rfl⟩
@[go_sem] theorem cn (a:List UInt8):AH.enc a= [.string ⟨⟨a⟩⟩]:=rfl
@[go_sem] theorem yQ (l:List Value):AH.dec l=strOf ((l[0]?).getD undef):=rfl
def U4:B9 (Int):=⟨fun a=> [.int .i32 (a)],fun l=>intOf ((l[0]?).getD undef),1,fun _=>rfl,fun _=>rfl,fun _=>rfl⟩
instance:U4.Plain:=⟨fun _ _=>rfl⟩
@[go_sem] theorem AAE (a:Int):U4.enc a= [.int .i32 (a)]:=rfl
@[go_sem] theorem zl (l:List Value):U4.dec l=intOf ((l[0]?).getD undef):=rfl
structure Me where
 Tv:Int
 Tp:Int
 dU:Int
 Yq:Int
 HX:Gq
 Links:Gq
 Nt:Gq
instance:Inhabited Me:=⟨⟨0,0,0,0, .nil, .nil, .nil⟩⟩
instance:DecidableEq Me:=fun a b=>decidable_of_iff (a.Tv=b.Tv∧a.Tp=b.Tp∧a.dU=b.dU∧a.Yq=b.Yq∧a.HX=b.HX∧a.Links=b.Links∧a.Nt=b.Nt) (by cases a;cases b;simp)
def QO:B9 (Me):=⟨fun a=> [.int .i64 (a.Tv), .int .i64 (a.Tp), .int .i64 (a.dU), .int .i64 (a.Yq),(a.HX).v,(a.Links).v,(a.Nt).v],fun l=>⟨intOf ((l[0]?).getD undef),intOf ((l[1]?).getD undef),intOf ((l[2]?).getD undef),intOf ((l[3]?).getD undef),FC ((l[4]?).getD undef),FC ((l[5]?).getD undef),FC ((l[6]?).getD undef)⟩,7,fun a=>by cases a;simp [NY],fun _=>rfl,fun _=>by simp [A9,Gq.oc,Rn,OA,R2]⟩
instance:QO.Ra:=⟨fun ρ a=> {a with HX:=a.HX.ra ρ,Links:=a.Links.ra ρ,Nt:=a.Nt.ra ρ},fun ρ a=>by simp [QO,DA,Av,QZ]⟩
@[go_sem] theorem zK (a:Me):QO.enc a= [.int .i64 (a.Tv), .int .i64 (a.Tp), .int .i64 (a.dU), .int .i64 (a.Yq),(a.HX).v,(a.Links).v,(a.Nt).v]:=rfl
@[go_sem] theorem AAX (a:Me):Me.mk a.Tv a.Tp a.dU a.Yq a.HX a.Links a.Nt=a:=rfl
@[go_sem] theorem yn (l:List Value):QO.dec l=⟨intOf ((l[0]?).getD undef),intOf ((l[1]?).getD undef),intOf ((l[2]?).getD undef),intOf ((l[3]?).getD undef),FC ((l[4]?).getD undef),FC ((l[5]?).getD undef),FC ((l[6]?).getD undef)⟩:=rfl
structure J9 where
 Hi:Int
 Hg:Int
 IY:Int
 IZ:Int
 Dz:Gq
 FT:Gq
 FJ:Gq
 qf:Gq
instance:Inhabited J9:=⟨⟨0,0,0,0, .nil, .nil, .nil, .nil⟩⟩
instance:DecidableEq J9:=fun a b=>decidable_of_iff (a.Hi=b.Hi∧a.Hg=b.Hg∧a.IY=b.IY∧a.IZ=b.IZ∧a.Dz=b.Dz∧a.FT=b.FT∧a.FJ=b.FJ∧a.qf=b.qf) (by cases a;cases b;simp)
def N0:B9 (J9):=⟨fun a=> [.int .i64 (a.Hi), .int .i64 (a.Hg), .int .i64 (a.IY), .int .i64 (a.IZ),(a.Dz).v,(a.FT).v,(a.FJ).v,(a.qf).v],fun l=>⟨intOf ((l[0]?).getD undef),intOf ((l[1]?).getD undef),intOf ((l[2]?).getD undef),intOf ((l[3]?).getD undef),FC ((l[4]?).getD undef),FC ((l[5]?).getD undef),FC ((l[6]?).getD undef),FC ((l[7]?).getD undef)⟩,8,fun a=>by cases a;simp [NY],fun _=>rfl,fun _=>by simp [A9,Gq.oc,Rn,OA,R2]⟩
instance:N0.Ra:=⟨fun ρ a=> {a with Dz:=a.Dz.ra ρ,FT:=a.FT.ra ρ,FJ:=a.FJ.ra ρ,qf:=a.qf.ra ρ},fun ρ a=>by simp [N0,DA,Av,QZ]⟩
@[go_sem] theorem yS (a:J9):N0.enc a= [.int .i64 (a.Hi), .int .i64 (a.Hg), .int .i64 (a.IY), .int .i64 (a.IZ),(a.Dz).v,(a.FT).v,(a.FJ).v,(a.qf).v]:=rfl
@[go_sem] theorem yP (a:J9):J9.mk a.Hi a.Hg a.IY a.IZ a.Dz a.FT a.FJ a.qf=a:=rfl
@[go_sem] theorem xn (l:List Value):N0.dec l=⟨intOf ((l[0]?).getD undef),intOf ((l[1]?).getD undef),intOf ((l[2]?).getD undef),intOf ((l[3]?).getD undef),FC ((l[4]?).getD undef),FC ((l[5]?).getD undef),FC ((l[6]?).getD undef),FC ((l[7]?).getD undef)⟩:=rfl
def U8:B9 (Int):=⟨fun a=> [.int .i64 (a)],fun l=>intOf ((l[0]?).getD undef),1,fun _=>rfl,fun _=>rfl,fun _=>rfl⟩
instance:U8.Plain:=⟨fun _ _=>rfl⟩
@[go_sem] theorem ABK (a:Int):U8.enc a= [.int .i64 (a)]:=rfl
@[go_sem] theorem AA6 (l:List Value):U8.dec l=intOf ((l[0]?).getD undef):=rfl
def Qr:B9 (Int):=⟨fun a=> [.int .u32 (a)],fun l=>intOf ((l[0]?).getD undef),1,fun _=>rfl,fun _=>rfl,fun _=>rfl⟩
instance:Qr.Plain:=⟨fun _ _=>rfl⟩
@[go_sem] theorem yR (a:Int):Qr.enc a= [.int .u32 (a)]:=rfl
@[go_sem] theorem yL (l:List Value):Qr.dec l=intOf ((l[0]?).getD undef):=rfl
structure Aq where
 Kind:Int
 Bl:Int
 Dg:Int
 CF:Int
 BS:Int
 CB:Int
 Bytes:List UInt8
instance:Inhabited Aq:=⟨⟨0,0,0,0,0,0, []⟩⟩
instance:DecidableEq Aq:=fun a b=>decidable_of_iff (a.Kind=b.Kind∧a.Bl=b.Bl∧a.Dg=b.Dg∧a.CF=b.CF∧a.BS=b.BS∧a.CB=b.CB∧a.Bytes=b.Bytes) (by cases a;cases b;simp)
def A7:B9 (Aq):=⟨fun a=> [.int .i64 (a.Kind), .int .i64 (a.Bl), .int .i64 (a.Dg), .int .i64 (a.CF), .int .u32 (a.BS), .int .i64 (a.CB), .string ⟨⟨a.Bytes⟩⟩],fun l=>⟨intOf ((l[0]?).getD undef),intOf ((l[1]?).getD undef),intOf ((l[2]?).getD undef),intOf ((l[3]?).getD undef),intOf ((l[4]?).getD undef),intOf ((l[5]?).getD undef),strOf ((l[6]?).getD undef)⟩,7,fun _=>rfl,fun _=>rfl,fun _=>rfl⟩
instance:A7.Plain:=⟨fun _ _=>rfl⟩
@[go_sem] theorem Aw (a:Aq):A7.enc a= [.int .i64 (a.Kind), .int .i64 (a.Bl), .int .i64 (a.Dg), .int .i64 (a.CF), .int .u32 (a.BS), .int .i64 (a.CB), .string ⟨⟨a.Bytes⟩⟩]:=rfl
@[go_sem] theorem AD6 (a:Aq):Aq.mk a.Kind a.Bl a.Dg a.CF a.BS a.CB a.Bytes=a:=rfl
@[go_sem] theorem ADv (l:List Value):A7.dec l=⟨intOf ((l[0]?).getD undef),intOf ((l[1]?).getD undef),intOf ((l[2]?).getD undef),intOf ((l[3]?).getD undef),intOf ((l[4]?).getD undef),intOf ((l[5]?).getD undef),strOf ((l[6]?).getD undef)⟩:=rfl
def Qg:B9 (Int):=⟨fun a=> [.int .u16 (a)],fun l=>intOf ((l[0]?).getD undef),1,fun _=>rfl,fun _=>rfl,fun _=>rfl⟩
instance:Qg.Plain:=⟨fun _ _=>rfl⟩
@[go_sem] theorem xg (a:Int):Qg.enc a= [.int .u16 (a)]:=rfl
@[go_sem] theorem yJ (l:List Value):Qg.dec l=intOf ((l[0]?).getD undef):=rfl
structure C6 where
 Kind:Int
 Bl:Int
 Dg:Int
 CF:Int
 CB:Int
 BS:Int
 Bytes:List UInt8
instance:Inhabited C6:=⟨⟨0,0,0,0,0,0, []⟩⟩
instance:DecidableEq C6:=fun a b=>decidable_of_iff (a.Kind=b.Kind∧a.Bl=b.Bl∧a.Dg=b.Dg∧a.CF=b.CF∧a.CB=b.CB∧a.BS=b.BS∧a.Bytes=b.Bytes) (by cases a;cases b;simp)
def B8:B9 (C6):=⟨fun a=> [.int .u8 (a.Kind), .int .u8 (a.Bl), .int .u8 (a.Dg), .int .u8 (a.CF), .int .u16 (a.CB), .int .u32 (a.BS), .string ⟨⟨a.Bytes⟩⟩],fun l=>⟨intOf ((l[0]?).getD undef),intOf ((l[1]?).getD undef),intOf ((l[2]?).getD undef),intOf ((l[3]?).getD undef),intOf ((l[4]?).getD undef),intOf ((l[5]?).getD undef),strOf ((l[6]?).getD undef)⟩,7,fun _=>rfl,fun _=>rfl,fun _=>rfl⟩
instance:B8.Plain:=⟨fun _ _=>rfl⟩
@[go_sem] theorem JH (a:C6):B8.enc a= [.int .u8 (a.Kind), .int .u8 (a.Bl), .int .u8 (a.Dg), .int .u8 (a.CF), .int .u16 (a.CB), .int .u32 (a.BS), .string ⟨⟨a.Bytes⟩⟩]:=rfl
@[go_sem] theorem ADx (a:C6):C6.mk a.Kind a.Bl a.Dg a.CF a.CB a.BS a.Bytes=a:=rfl
@[go_sem] theorem AD7 (l:List Value):B8.dec l=⟨intOf ((l[0]?).getD undef),intOf ((l[1]?).getD undef),intOf ((l[2]?).getD undef),intOf ((l[3]?).getD undef),intOf ((l[4]?).getD undef),intOf ((l[5]?).getD undef),strOf ((l[6]?).getD undef)⟩:=rfl
structure GK where
 Code:Int
 At:Int
instance:Inhabited GK:=⟨⟨0,0⟩⟩
instance:DecidableEq GK:=fun a b=>decidable_of_iff (a.Code=b.Code∧a.At=b.At) (by cases a;cases b;simp)
def Lo:B9 (GK):=⟨fun a=> [.int .i64 (a.Code), .int .i64 (a.At)],fun l=>⟨intOf ((l[0]?).getD undef),intOf ((l[1]?).getD undef)⟩,2,fun _=>rfl,fun _=>rfl,fun _=>rfl⟩
instance:Lo.Plain:=⟨fun _ _=>rfl⟩
@[go_sem] theorem oJ (a:GK):Lo.enc a= [.int .i64 (a.Code), .int .i64 (a.At)]:=rfl
@[go_sem] theorem p8 (a:GK):GK.mk a.Code a.At=a:=rfl
@[go_sem] theorem rz (l:List Value):Lo.dec l=⟨intOf ((l[0]?).getD undef),intOf ((l[1]?).getD undef)⟩:=rfl
structure CI where
 Self:Int
 Claim:Int
 F6:Bool
instance:Inhabited CI:=⟨⟨0,0,false⟩⟩
instance:DecidableEq CI:=fun a b=>decidable_of_iff (a.Self=b.Self∧a.Claim=b.Claim∧a.F6=b.F6) (by cases a;cases b;simp)
def AL:B9 (CI):=⟨fun a=> [.int .i64 (a.Self), .int .i64 (a.Claim), .bool (a.F6)],fun l=>⟨intOf ((l[0]?).getD undef),intOf ((l[1]?).getD undef),CH ((l[2]?).getD undef)⟩,3,fun _=>rfl,fun _=>rfl,fun _=>rfl⟩
instance:AL.Plain:=⟨fun _ _=>rfl⟩
@[go_sem] theorem Ea (a:CI):AL.enc a= [.int .i64 (a.Self), .int .i64 (a.Claim), .bool (a.F6)]:=rfl
@[go_sem] theorem ACp (a:CI):CI.mk a.Self a.Claim a.F6=a:=rfl
@[go_sem] theorem AB1 (l:List Value):AL.dec l=⟨intOf ((l[0]?).getD undef),intOf ((l[1]?).getD undef),CH ((l[2]?).getD undef)⟩:=rfl
structure Ap where
 A:Int
 B:Int
 Er:Int
instance:Inhabited Ap:=⟨⟨0,0,0⟩⟩
instance:DecidableEq Ap:=fun a b=>decidable_of_iff (a.A=b.A∧a.B=b.B∧a.Er=b.Er) (by cases a;cases b;simp)
def Af:B9 (Ap):=⟨fun a=> [.int .i64 (a.A), .int .i64 (a.B), .int .i64 (a.Er)],fun l=>⟨intOf ((l[0]?).getD undef),intOf ((l[1]?).getD undef),intOf ((l[2]?).getD undef)⟩,3,fun _=>rfl,fun _=>rfl,fun _=>rfl⟩
instance:Af.Plain:=⟨fun _ _=>rfl⟩
@[go_sem] theorem Nw (a:Ap):Af.enc a= [.int .i64 (a.A), .int .i64 (a.B), .int .i64 (a.Er)]:=rfl
@[go_sem] theorem ACk (a:Ap):Ap.mk a.A a.B a.Er=a:=rfl
@[go_sem] theorem ACO (l:List Value):Af.dec l=⟨intOf ((l[0]?).getD undef),intOf ((l[1]?).getD undef),intOf ((l[2]?).getD undef)⟩:=rfl
structure BX where
 C9:Int
 To:Int
 KM:Int
 Kind:Int
 By:Int
instance:Inhabited BX:=⟨⟨0,0,0,0,0⟩⟩
instance:DecidableEq BX:=fun a b=>decidable_of_iff (a.C9=b.C9∧a.To=b.To∧a.KM=b.KM∧a.Kind=b.Kind∧a.By=b.By) (by cases a;cases b;simp)
def AJ:B9 (BX):=⟨fun a=> [.int .i64 (a.C9), .int .i64 (a.To), .int .i64 (a.KM), .int .i64 (a.Kind), .int .i64 (a.By)],fun l=>⟨intOf ((l[0]?).getD undef),intOf ((l[1]?).getD undef),intOf ((l[2]?).getD undef),intOf ((l[3]?).getD undef),intOf ((l[4]?).getD undef)⟩,5,fun _=>rfl,fun _=>rfl,fun _=>rfl⟩
instance:AJ.Plain:=⟨fun _ _=>rfl⟩
@[go_sem] theorem EU (a:BX):AJ.enc a= [.int .i64 (a.C9), .int .i64 (a.To), .int .i64 (a.KM), .int .i64 (a.Kind), .int .i64 (a.By)]:=rfl
@[go_sem] theorem AB7 (a:BX):BX.mk a.C9 a.To a.KM a.Kind a.By=a:=rfl
@[go_sem] theorem ABn (l:List Value):AJ.dec l=⟨intOf ((l[0]?).getD undef),intOf ((l[1]?).getD undef),intOf ((l[2]?).getD undef),intOf ((l[3]?).getD undef),intOf ((l[4]?).getD undef)⟩:=rfl
structure GI where
 kind:Int
 word:List UInt8
 fields:Int
instance:Inhabited GI:=⟨⟨0, [],0⟩⟩
instance:DecidableEq GI:=fun a b=>decidable_of_iff (a.kind=b.kind∧a.word=b.word∧a.fields=b.fields) (by cases a;cases b;simp)
def RM:B9 (GI):=⟨fun a=> [.int .i64 (a.kind), .string ⟨⟨a.word⟩⟩, .int .i64 (a.fields)],fun l=>⟨intOf ((l[0]?).getD undef),strOf ((l[1]?).getD undef),intOf ((l[2]?).getD undef)⟩,3,fun _=>rfl,fun _=>rfl,fun _=>rfl⟩
instance:RM.Plain:=⟨fun _ _=>rfl⟩
@[go_sem] theorem Ay (a:GI):RM.enc a= [.int .i64 (a.kind), .string ⟨⟨a.word⟩⟩, .int .i64 (a.fields)]:=rfl
@[go_sem] theorem ADB (a:GI):GI.mk a.kind a.word a.fields=a:=rfl
@[go_sem] theorem ADZ (l:List Value):RM.dec l=⟨intOf ((l[0]?).getD undef),strOf ((l[1]?).getD undef),intOf ((l[2]?).getD undef)⟩:=rfl
def Yy:B9 (Int):=⟨fun a=> [.int .u64 (a)],fun l=>intOf ((l[0]?).getD undef),1,fun _=>rfl,fun _=>rfl,fun _=>rfl⟩
instance:Yy.Plain:=⟨fun _ _=>rfl⟩
@[go_sem] theorem ACJ (a:Int):Yy.enc a= [.int .u64 (a)]:=rfl
@[go_sem] theorem ACQ (l:List Value):Yy.dec l=intOf ((l[0]?).getD undef):=rfl
def Rb:B9 (Int):=⟨fun a=> [.int .u64 (a)],fun l=>intOf ((l[0]?).getD undef),1,fun _=>rfl,fun _=>rfl,fun _=>rfl⟩
instance:Rb.Plain:=⟨fun _ _=>rfl⟩
@[go_sem] theorem ya (a:Int):Rb.enc a= [.int .u64 (a)]:=rfl
@[go_sem] theorem xx (l:List Value):Rb.dec l=intOf ((l[0]?).getD undef):=rfl
def Z9:B9 (Int):=⟨fun a=> [.int .u64 (a)],fun l=>intOf ((l[0]?).getD undef),1,fun _=>rfl,fun _=>rfl,fun _=>rfl⟩
instance:Z9.Plain:=⟨fun _ _=>rfl⟩
@[go_sem] theorem ACP (a:Int):Z9.enc a= [.int .u64 (a)]:=rfl
@[go_sem] theorem ABw (l:List Value):Z9.dec l=intOf ((l[0]?).getD undef):=rfl
def Z5:B9 (Int):=⟨fun a=> [.int .u8 (a)],fun l=>intOf ((l[0]?).getD undef),1,fun _=>rfl,fun _=>rfl,fun _=>rfl⟩
instance:Z5.Plain:=⟨fun _ _=>rfl⟩
@[go_sem] theorem ABo (a:Int):Z5.enc a= [.int .u8 (a)]:=rfl
@[go_sem] theorem ACZ (l:List Value):Z5.dec l=intOf ((l[0]?).getD undef):=rfl
structure Mh where
 code:Int
instance:Inhabited Mh:=⟨⟨0⟩⟩
instance:DecidableEq Mh:=fun a b=>decidable_of_iff (a.code=b.code) (by cases a;cases b;simp)
def UU:B9 (Mh):=⟨fun a=> [.int .i64 (a.code)],fun l=>⟨intOf ((l[0]?).getD undef)⟩,1,fun _=>rfl,fun _=>rfl,fun _=>rfl⟩
instance:UU.Plain:=⟨fun _ _=>rfl⟩
@[go_sem] theorem zi (a:Mh):UU.enc a= [.int .i64 (a.code)]:=rfl
@[go_sem] theorem ABP (a:Mh):Mh.mk a.code=a:=rfl
@[go_sem] theorem AA8 (l:List Value):UU.dec l=⟨intOf ((l[0]?).getD undef)⟩:=rfl
structure Ma where
 Pm:Gq
 P7:Gq
instance:Inhabited Ma:=⟨⟨.nil, .nil⟩⟩
instance:DecidableEq Ma:=fun a b=>decidable_of_iff (a.Pm=b.Pm∧a.P7=b.P7) (by cases a;cases b;simp)
def QL:B9 (Ma):=⟨fun a=> [(a.Pm).v,(a.P7).v],fun l=>⟨FC ((l[0]?).getD undef),FC ((l[1]?).getD undef)⟩,2,fun a=>by cases a;simp [NY],fun _=>rfl,fun _=>by simp [A9,Gq.oc,Rn,OA,R2]⟩
instance:QL.Ra:=⟨fun ρ a=> {a with Pm:=a.Pm.ra ρ,P7:=a.P7.ra ρ},fun ρ a=>by simp [QL,DA,Av,QZ]⟩
@[go_sem] theorem zY (a:Ma):QL.enc a= [(a.Pm).v,(a.P7).v]:=rfl
@[go_sem] theorem ABV (a:Ma):Ma.mk a.Pm a.P7=a:=rfl
@[go_sem] theorem zW (l:List Value):QL.dec l=⟨FC ((l[0]?).getD undef),FC ((l[1]?).getD undef)⟩:=rfl
structure J5 where
 C9:Int
 To:Int
 Bytes:List UInt8
instance:Inhabited J5:=⟨⟨0,0, []⟩⟩
instance:DecidableEq J5:=fun a b=>decidable_of_iff (a.C9=b.C9∧a.To=b.To∧a.Bytes=b.Bytes) (by cases a;cases b;simp)
def Qi:B9 (J5):=⟨fun a=> [.int .i64 (a.C9), .int .i64 (a.To), .string ⟨⟨a.Bytes⟩⟩],fun l=>⟨intOf ((l[0]?).getD undef),intOf ((l[1]?).getD undef),strOf ((l[2]?).getD undef)⟩,3,fun _=>rfl,fun _=>rfl,fun _=>rfl⟩
instance:Qi.Plain:=⟨fun _ _=>rfl⟩
@[go_sem] theorem yf (a:J5):Qi.enc a= [.int .i64 (a.C9), .int .i64 (a.To), .string ⟨⟨a.Bytes⟩⟩]:=rfl
@[go_sem] theorem x8 (a:J5):J5.mk a.C9 a.To a.Bytes=a:=rfl
@[go_sem] theorem xf (l:List Value):Qi.dec l=⟨intOf ((l[0]?).getD undef),intOf ((l[1]?).getD undef),strOf ((l[2]?).getD undef)⟩:=rfl
structure Iw where
 a:Int
 b:Int
instance:Inhabited Iw:=⟨⟨0,0⟩⟩
instance:DecidableEq Iw:=fun a b=>decidable_of_iff (a.a=b.a∧a.b=b.b) (by cases a;cases b;simp)
def VT:B9 (Iw):=⟨fun a=> [.int .i64 (a.a), .int .i64 (a.b)],fun l=>⟨intOf ((l[0]?).getD undef),intOf ((l[1]?).getD undef)⟩,2,fun _=>rfl,fun _=>rfl,fun _=>rfl⟩
instance:VT.Plain:=⟨fun _ _=>rfl⟩
@[go_sem] theorem QX (a:Iw):VT.enc a= [.int .i64 (a.a), .int .i64 (a.b)]:=rfl
@[go_sem] theorem ACb (a:Iw):Iw.mk a.a a.b=a:=rfl
@[go_sem] theorem ABv (l:List Value):VT.dec l=⟨intOf ((l[0]?).getD undef),intOf ((l[1]?).getD undef)⟩:=rfl
structure PX where
 there:Bool
 last:Int
 l:Gq
instance:Inhabited PX:=⟨⟨false,0, .nil⟩⟩
instance:DecidableEq PX:=fun a b=>decidable_of_iff (a.there=b.there∧a.last=b.last∧a.l=b.l) (by cases a;cases b;simp)
def Vf:B9 (PX):=⟨fun a=> [.bool (a.there), .int .i64 (a.last),(a.l).v],fun l=>⟨CH ((l[0]?).getD undef),intOf ((l[1]?).getD undef),FC ((l[2]?).getD undef)⟩,3,fun a=>by cases a;simp [NY],fun _=>rfl,fun _=>by simp [A9,Gq.oc,Rn,OA,R2]⟩
instance:Vf.Ra:=⟨fun ρ a=> {a with l:=a.l.ra ρ},fun ρ a=>by simp [Vf,DA,Av,QZ]⟩
@[go_sem] theorem ABl (a:PX):Vf.enc a= [.bool (a.there), .int .i64 (a.last),(a.l).v]:=rfl
@[go_sem] theorem ACU (a:PX):PX.mk a.there a.last a.l=a:=rfl
@[go_sem] theorem ACX (l:List Value):Vf.dec l=⟨CH ((l[0]?).getD undef),intOf ((l[1]?).getD undef),FC ((l[2]?).getD undef)⟩:=rfl
structure Ds where
 C9:Int
 To:Int
 Er:Int
instance:Inhabited Ds:=⟨⟨0,0,0⟩⟩
instance:DecidableEq Ds:=fun a b=>decidable_of_iff (a.C9=b.C9∧a.To=b.To∧a.Er=b.Er) (by cases a;cases b;simp)
def Bh:B9 (Ds):=⟨fun a=> [.int .i64 (a.C9), .int .i64 (a.To), .int .i64 (a.Er)],fun l=>⟨intOf ((l[0]?).getD undef),intOf ((l[1]?).getD undef),intOf ((l[2]?).getD undef)⟩,3,fun _=>rfl,fun _=>rfl,fun _=>rfl⟩
instance:Bh.Plain:=⟨fun _ _=>rfl⟩
@[go_sem] theorem ACW (a:Ds):Bh.enc a= [.int .i64 (a.C9), .int .i64 (a.To), .int .i64 (a.Er)]:=rfl
@[go_sem] theorem ABp (a:Ds):Ds.mk a.C9 a.To a.Er=a:=rfl
@[go_sem] theorem ACA (l:List Value):Bh.dec l=⟨intOf ((l[0]?).getD undef),intOf ((l[1]?).getD undef),intOf ((l[2]?).getD undef)⟩:=rfl
def U5:B9 (Int):=⟨fun a=> [.int .i64 (a)],fun l=>intOf ((l[0]?).getD undef),1,fun _=>rfl,fun _=>rfl,fun _=>rfl⟩
instance:U5.Plain:=⟨fun _ _=>rfl⟩
@[go_sem] theorem yk (a:Int):U5.enc a= [.int .i64 (a)]:=rfl
@[go_sem] theorem ABd (l:List Value):U5.dec l=intOf ((l[0]?).getD undef):=rfl
structure Ei where
 from_:Int
 to:Int
 nth:Int
instance:Inhabited Ei:=⟨⟨0,0,0⟩⟩
instance:DecidableEq Ei:=fun a b=>decidable_of_iff (a.from_=b.from_∧a.to=b.to∧a.nth=b.nth) (by cases a;cases b;simp)
def MR:B9 (Ei):=⟨fun a=> [.int .i64 (a.from_), .int .i64 (a.to), .int .i64 (a.nth)],fun l=>⟨intOf ((l[0]?).getD undef),intOf ((l[1]?).getD undef),intOf ((l[2]?).getD undef)⟩,3,fun _=>rfl,fun _=>rfl,fun _=>rfl⟩
instance:MR.Plain:=⟨fun _ _=>rfl⟩
@[go_sem] theorem KN (a:Ei):MR.enc a= [.int .i64 (a.from_), .int .i64 (a.to), .int .i64 (a.nth)]:=rfl
@[go_sem] theorem xD (a:Ei):Ei.mk a.from_ a.to a.nth=a:=rfl
@[go_sem] theorem xK (l:List Value):MR.dec l=⟨intOf ((l[0]?).getD undef),intOf ((l[1]?).getD undef),intOf ((l[2]?).getD undef)⟩:=rfl
structure Ee where
 lo:Int
 hi:Int
instance:Inhabited Ee:=⟨⟨0,0⟩⟩
instance:DecidableEq Ee:=fun a b=>decidable_of_iff (a.lo=b.lo∧a.hi=b.hi) (by cases a;cases b;simp)
def JV:B9 (Ee):=⟨fun a=> [.int .u8 (a.lo), .int .u8 (a.hi)],fun l=>⟨intOf ((l[0]?).getD undef),intOf ((l[1]?).getD undef)⟩,2,fun _=>rfl,fun _=>rfl,fun _=>rfl⟩
instance:JV.Plain:=⟨fun _ _=>rfl⟩
@[go_sem] theorem km (a:Ee):JV.enc a= [.int .u8 (a.lo), .int .u8 (a.hi)]:=rfl
@[go_sem] theorem iY (a:Ee):Ee.mk a.lo a.hi=a:=rfl
@[go_sem] theorem jb (l:List Value):JV.dec l=⟨intOf ((l[0]?).getD undef),intOf ((l[1]?).getD undef)⟩:=rfl
structure CU where
 s:List UInt8
instance:Inhabited CU:=⟨⟨[]⟩⟩
instance:DecidableEq CU:=fun a b=>decidable_of_iff (a.s=b.s) (by cases a;cases b;simp)
def FD:B9 (CU):=⟨fun a=> [.string ⟨⟨a.s⟩⟩],fun l=>⟨strOf ((l[0]?).getD undef)⟩,1,fun _=>rfl,fun _=>rfl,fun _=>rfl⟩
instance:FD.Plain:=⟨fun _ _=>rfl⟩
@[go_sem] theorem WZ (a:CU):FD.enc a= [.string ⟨⟨a.s⟩⟩]:=rfl
@[go_sem] theorem Wa (a:CU):CU.mk a.s=a:=rfl
@[go_sem] theorem WY (l:List Value):FD.dec l=⟨strOf ((l[0]?).getD undef)⟩:=rfl
structure Ix where
 at_:Int
 M5:Int
 SH:Int
 kN:Int
 OU:List UInt8
instance:Inhabited Ix:=⟨⟨0,0,0,0, []⟩⟩
instance:DecidableEq Ix:=fun a b=>decidable_of_iff (a.at_=b.at_∧a.M5=b.M5∧a.SH=b.SH∧a.kN=b.kN∧a.OU=b.OU) (by cases a;cases b;simp)
def CO:B9 (Ix):=⟨fun a=> [.int .u64 (a.at_), .int .i64 (a.M5), .int .i64 (a.SH), .int .i64 (a.kN), .string ⟨⟨a.OU⟩⟩],fun l=>⟨intOf ((l[0]?).getD undef),intOf ((l[1]?).getD undef),intOf ((l[2]?).getD undef),intOf ((l[3]?).getD undef),strOf ((l[4]?).getD undef)⟩,5,fun _=>rfl,fun _=>rfl,fun _=>rfl⟩
instance:CO.Plain:=⟨fun _ _=>rfl⟩
@[go_sem] theorem ACK (a:Ix):CO.enc a= [.int .u64 (a.at_), .int .i64 (a.M5), .int .i64 (a.SH), .int .i64 (a.kN), .string ⟨⟨a.OU⟩⟩]:=rfl
@[go_sem] theorem ABt (a:Ix):Ix.mk a.at_ a.M5 a.SH a.kN a.OU=a:=rfl
@[go_sem] theorem ACa (l:List Value):CO.dec l=⟨intOf ((l[0]?).getD undef),intOf ((l[1]?).getD undef),intOf ((l[2]?).getD undef),intOf ((l[3]?).getD undef),strOf ((l[4]?).getD undef)⟩:=rfl
section
theorem Eg {hp:Hp}{v:Value}{l:List (CI)}(h:BJ AL hp v l){hp':Hp}:CQ tt.get hp' 22 v=(.int .i64 (l.length:Int),True):=h.KL C2
theorem Ed {hp:Hp}{v:Value}{l:List (CI)}(h:BJ AL hp v l){k:IntKind}{n:Int}(h0:0≤n)(h1:n < l.length):Ak tt.get 22 v (.int k n)=(Ag v (n.toNat * 3),True):=h.idx C2 JT rfl h0 h1
theorem F2 {hp:Hp}{v:Value}{l:List (CI)}(h:BJ AL hp v l){i:Nat}(hi:i < l.length):BA tt.get hp 79 (Ag v (i * 3))=(.agg ⟨AL.enc (at' l i)⟩,True):=h.load JT rfl rfl hi
theorem D0 {hp:Hp}{v:Value}{l:List (CI)}(h:BJ AL hp v l){i:Nat}(hi:i < l.length):AD tt.get 79 (Ag v (i * 3)) 0=(Ag v (i * 3),True):=h.field hi (d:=0) (fun b o=>(by kernel_rfl:AM tt.get 79 (.pointer (some ⟨b,o,none⟩)) 0=some (.pointer (some ⟨b,o+0,none⟩))))
theorem D1 {hp:Hp}{v:Value}{l:List (CI)}(h:BJ AL hp v l){i:Nat}(hi:i < l.length):BA tt.get hp 3 (Ag v (i * 3))=(.int .i64 ((at' l i).Self),True):=h.cell (f:=0) Bk rfl hi (by decide)
theorem D3 {hp:Hp}{v:Value}{l:List (CI)}(h:BJ AL hp v l){i:Nat}(hi:i < l.length):AD tt.get 79 (Ag v (i * 3)) 1=(Ag v (i * 3+1),True):=h.field hi (d:=1) (fun b o=>(by kernel_rfl:AM tt.get 79 (.pointer (some ⟨b,o,none⟩)) 1=some (.pointer (some ⟨b,o+1,none⟩))))
theorem D6 {hp:Hp}{v:Value}{l:List (CI)}(h:BJ AL hp v l){i:Nat}(hi:i < l.length):BA tt.get hp 3 (Ag v (i * 3+1))=(.int .i64 ((at' l i).Claim),True):=h.cell (f:=1) Bk rfl hi (by decide)
theorem D4 {hp:Hp}{v:Value}{l:List (CI)}(h:BJ AL hp v l){i:Nat}(hi:i < l.length):AD tt.get 79 (Ag v (i * 3)) 2=(Ag v (i * 3+2),True):=h.field hi (d:=2) (fun b o=>(by kernel_rfl:AM tt.get 79 (.pointer (some ⟨b,o,none⟩)) 2=some (.pointer (some ⟨b,o+2,none⟩))))
theorem D2 {hp:Hp}{v:Value}{l:List (CI)}(h:BJ AL hp v l){i:Nat}(hi:i < l.length):BA tt.get hp 4 (Ag v (i * 3+2))=(.bool ((at' l i).F6),True):=h.cell (f:=2) iP rfl hi (by decide)
theorem Fy {hp:Hp}{v:Value}{l:List (CI)}(h:BJ AL hp v l){k:IntKind}{n:Int}(h0:0≤n)(h1:n≤l.length):Bv tt.get hp 22 v none (some (.int k n))=(K8 3 v 0 n.toNat,True):=h.ZI C2 JT h0 h1
theorem Fv {hp:Hp}{v:Value}{l:List (CI)}(h:BJ AL hp v l){k:IntKind}{n:Int}(h0:0≤n)(h1:n≤l.length):Bv tt.get hp 22 v (some (.int k n)) none=(G8 3 v n.toNat,True):=h.Y6 C2 JT rfl h0 h1
@[go_sem] theorem yq {hp:Hp}{x:Value}{b top:Nat}{l:List (CI)}(h:hp b=AE AL l)(hx:G6 AL hp x)(hn:l.length+(AL.rd hp x).length≤16777216):AR tt.get hp top [22,22] (AA b l) x=some (AA top (l ++ AL.rd hp x),Ck b l top (AE AL (l ++ AL.rd hp x)),top+1):=Cz C2 KR rfl JT rfl rfl h hx hn
@[go_sem] theorem yU {hp:Hp}{x:Value}{top:Nat}(hx:G6 AL hp x)(hn:(AL.rd hp x).length≤16777216):AR tt.get hp top [22,22] (.slice none 0 0) x=some (AA top (AL.rd hp x), [(top,AE AL (AL.rd hp x))],top+1):=C0 C2 KR rfl JT rfl rfl hx hn
@[go_sem] theorem NG {hp:Hp}{b top k:Nat}{l:List (CI)}(h:hp b=AE AL l)(hk:hp k=some (.cells true 3 (cellsOf (hp k))))(hc:AL.enc (AL.dec (cellsOf (hp k)))=cellsOf (hp k))(hn:DX (l.length+1) Ym.bytes=true):AR tt.get hp top [22,22] (AA b l) (.slice (some ⟨k,0,none⟩) 1 1)=some (AA top (l ++ [AL.dec (cellsOf (hp k))]),Ck b l top (AE AL (l ++ [AL.dec (cellsOf (hp k))])),top+1):=Em C2 KR rfl JT rfl rfl h hk hc hn
@[go_sem] theorem xi {hp:Hp}{x:Value}{top:Nat}(hx:G6 AL hp x)(hn:DX (AL.rd hp x).length Ym.bytes=true):AR tt.get hp top [22,22] (.slice none 0 0) x=some (AA top (AL.rd hp x), [(top,AE AL (AL.rd hp x))],top+1):=Cd C2 KR rfl JT rfl rfl hx hn
@[go_sem] theorem FX {hp:Hp}{top k:Nat}(hk:hp k=some (.cells true 3 (cellsOf (hp k))))(hc:AL.enc (AL.dec (cellsOf (hp k)))=cellsOf (hp k)):AR tt.get hp top [22,22] (.slice none 0 0) (.slice (some ⟨k,0,none⟩) 1 1)=some (AA top [AL.dec (cellsOf (hp k))], [(top,AE AL [AL.dec (cellsOf (hp k))])],top+1):=Ce C2 KR rfl JT rfl rfl hk hc
@[go_sem] theorem yr {hp:Hp}{b top:Nat}{l l2:List (CI)}(h:hp b=AE AL l):hp.A6 (Ck b l top (AE AL l2))=(hp.set b none).set top (AE AL l2):=HL h
@[go_sem] theorem AAT {hp:Hp}{b:Nat}{l:List (CI)}{i:Nat}(h:hp b=AE AL l)(hi:i < l.length){a0:Int}{a1:Int}{a2:Bool}:BW tt.get hp 79 (Ag (AA b l) (i * 3)) (.agg ⟨[.int .i64 (a0), .int .i64 (a1), .bool (a2)]⟩)=([(b,AE AL (l.set i ⟨a0,a1,a2⟩))],True):=GH (E:=AL) (cs:=AL.enc ⟨a0,a1,a2⟩) JT rfl h hi rfl rfl
@[go_sem] theorem wF {hp:Hp}{b:Nat}{l:List (CI)}{i:Nat}(h:hp b=AE AL l)(hi:i < l.length){x:Int}:BW tt.get hp 3 (Ag (AA b l) (i * 3)) (.int .i64 (x))=([(b,AE AL (l.set i {at' l i with Self:=x}))],True):=A5 (f:=0) Bk h hi rfl (by decide) rfl rfl
@[go_sem] theorem vg {hp:Hp}{b:Nat}{l:List (CI)}{i:Nat}(h:hp b=AE AL l)(hi:i < l.length){x:Int}:BW tt.get hp 3 (Ag (AA b l) (i * 3+1)) (.int .i64 (x))=([(b,AE AL (l.set i {at' l i with Claim:=x}))],True):=A5 (f:=1) Bk h hi rfl (by decide) rfl rfl
@[go_sem] theorem uy {hp:Hp}{b:Nat}{l:List (CI)}{i:Nat}(h:hp b=AE AL l)(hi:i < l.length){x:Bool}:BW tt.get hp 4 (Ag (AA b l) (i * 3+2)) (.bool (x))=([(b,AE AL (l.set i {at' l i with F6:=x}))],True):=A5 (f:=2) iP h hi rfl (by decide) rfl rfl
@[go_sem] theorem ABE {b:Nat}{l:List (CI)}{hp2:Hp}:CQ tt.get hp2 22 (AA b l)=(.int .i64 (l.length:Int),True):=by cases l with | nil=>unfold CQ AA;simp only [C2,Eb,KR,Yk];rfl | cons a l=>unfold CQ AA;simp only [C2,Eb,KR,Yk];rfl
end
section
theorem BM {hp:Hp}{v:Value}{l:List (Ap)}(h:BJ Af hp v l){hp':Hp}:CQ tt.get hp' 23 v=(.int .i64 (l.length:Int),True):=h.KL BZ
theorem BL {hp:Hp}{v:Value}{l:List (Ap)}(h:BJ Af hp v l){k:IntKind}{n:Int}(h0:0≤n)(h1:n < l.length):Ak tt.get 23 v (.int k n)=(Ag v (n.toNat * 3),True):=h.idx BZ JX rfl h0 h1
theorem Bq {hp:Hp}{v:Value}{l:List (Ap)}(h:BJ Af hp v l){i:Nat}(hi:i < l.length):BA tt.get hp 81 (Ag v (i * 3))=(.agg ⟨Af.enc (at' l i)⟩,True):=h.load JX rfl rfl hi
theorem BD {hp:Hp}{v:Value}{l:List (Ap)}(h:BJ Af hp v l){i:Nat}(hi:i < l.length):AD tt.get 81 (Ag v (i * 3)) 0=(Ag v (i * 3),True):=h.field hi (d:=0) (fun b o=>(by kernel_rfl:AM tt.get 81 (.pointer (some ⟨b,o,none⟩)) 0=some (.pointer (some ⟨b,o+0,none⟩))))
theorem BC {hp:Hp}{v:Value}{l:List (Ap)}(h:BJ Af hp v l){i:Nat}(hi:i < l.length):BA tt.get hp 3 (Ag v (i * 3))=(.int .i64 ((at' l i).A),True):=h.cell (f:=0) Bk rfl hi (by decide)
theorem BB {hp:Hp}{v:Value}{l:List (Ap)}(h:BJ Af hp v l){i:Nat}(hi:i < l.length):AD tt.get 81 (Ag v (i * 3)) 1=(Ag v (i * 3+1),True):=h.field hi (d:=1) (fun b o=>(by kernel_rfl:AM tt.get 81 (.pointer (some ⟨b,o,none⟩)) 1=some (.pointer (some ⟨b,o+1,none⟩))))
theorem BG {hp:Hp}{v:Value}{l:List (Ap)}(h:BJ Af hp v l){i:Nat}(hi:i < l.length):BA tt.get hp 3 (Ag v (i * 3+1))=(.int .i64 ((at' l i).B),True):=h.cell (f:=1) Bk rfl hi (by decide)
theorem BF {hp:Hp}{v:Value}{l:List (Ap)}(h:BJ Af hp v l){i:Nat}(hi:i < l.length):AD tt.get 81 (Ag v (i * 3)) 2=(Ag v (i * 3+2),True):=h.field hi (d:=2) (fun b o=>(by kernel_rfl:AM tt.get 81 (.pointer (some ⟨b,o,none⟩)) 2=some (.pointer (some ⟨b,o+2,none⟩))))
theorem BE {hp:Hp}{v:Value}{l:List (Ap)}(h:BJ Af hp v l){i:Nat}(hi:i < l.length):BA tt.get hp 3 (Ag v (i * 3+2))=(.int .i64 ((at' l i).Er),True):=h.cell (f:=2) Bk rfl hi (by decide)
theorem Bp {hp:Hp}{v:Value}{l:List (Ap)}(h:BJ Af hp v l){k:IntKind}{n:Int}(h0:0≤n)(h1:n≤l.length):Bv tt.get hp 23 v none (some (.int k n))=(K8 3 v 0 n.toNat,True):=h.ZI BZ JX h0 h1
theorem Bo {hp:Hp}{v:Value}{l:List (Ap)}(h:BJ Af hp v l){k:IntKind}{n:Int}(h0:0≤n)(h1:n≤l.length):Bv tt.get hp 23 v (some (.int k n)) none=(G8 3 v n.toNat,True):=h.Y6 BZ JX rfl h0 h1
@[go_sem] theorem AAy {hp:Hp}{x:Value}{b top:Nat}{l:List (Ap)}(h:hp b=AE Af l)(hx:G6 Af hp x)(hn:l.length+(Af.rd hp x).length≤16777216):AR tt.get hp top [23,23] (AA b l) x=some (AA top (l ++ Af.rd hp x),Ck b l top (AE Af (l ++ Af.rd hp x)),top+1):=Cz BZ Ko rfl JX rfl rfl h hx hn
@[go_sem] theorem yB {hp:Hp}{x:Value}{top:Nat}(hx:G6 Af hp x)(hn:(Af.rd hp x).length≤16777216):AR tt.get hp top [23,23] (.slice none 0 0) x=some (AA top (Af.rd hp x), [(top,AE Af (Af.rd hp x))],top+1):=C0 BZ Ko rfl JX rfl rfl hx hn
@[go_sem] theorem Y9 {hp:Hp}{b top k:Nat}{l:List (Ap)}(h:hp b=AE Af l)(hk:hp k=some (.cells true 3 (cellsOf (hp k))))(hc:Af.enc (Af.dec (cellsOf (hp k)))=cellsOf (hp k))(hn:DX (l.length+1) ZD.bytes=true):AR tt.get hp top [23,23] (AA b l) (.slice (some ⟨k,0,none⟩) 1 1)=some (AA top (l ++ [Af.dec (cellsOf (hp k))]),Ck b l top (AE Af (l ++ [Af.dec (cellsOf (hp k))])),top+1):=Em BZ Ko rfl JX rfl rfl h hk hc hn
@[go_sem] theorem xy {hp:Hp}{x:Value}{top:Nat}(hx:G6 Af hp x)(hn:DX (Af.rd hp x).length ZD.bytes=true):AR tt.get hp top [23,23] (.slice none 0 0) x=some (AA top (Af.rd hp x), [(top,AE Af (Af.rd hp x))],top+1):=Cd BZ Ko rfl JX rfl rfl hx hn
@[go_sem] theorem Ol {hp:Hp}{top k:Nat}(hk:hp k=some (.cells true 3 (cellsOf (hp k))))(hc:Af.enc (Af.dec (cellsOf (hp k)))=cellsOf (hp k)):AR tt.get hp top [23,23] (.slice none 0 0) (.slice (some ⟨k,0,none⟩) 1 1)=some (AA top [Af.dec (cellsOf (hp k))], [(top,AE Af [Af.dec (cellsOf (hp k))])],top+1):=Ce BZ Ko rfl JX rfl rfl hk hc
@[go_sem] theorem ym {hp:Hp}{b top:Nat}{l l2:List (Ap)}(h:hp b=AE Af l):hp.A6 (Ck b l top (AE Af l2))=(hp.set b none).set top (AE Af l2):=HL h
@[go_sem] theorem AAG {hp:Hp}{b:Nat}{l:List (Ap)}{i:Nat}(h:hp b=AE Af l)(hi:i < l.length){a0:Int}{a1:Int}{a2:Int}:BW tt.get hp 81 (Ag (AA b l) (i * 3)) (.agg ⟨[.int .i64 (a0), .int .i64 (a1), .int .i64 (a2)]⟩)=([(b,AE Af (l.set i ⟨a0,a1,a2⟩))],True):=GH (E:=Af) (cs:=Af.enc ⟨a0,a1,a2⟩) JX rfl h hi rfl rfl
@[go_sem] theorem u7 {hp:Hp}{b:Nat}{l:List (Ap)}{i:Nat}(h:hp b=AE Af l)(hi:i < l.length){x:Int}:BW tt.get hp 3 (Ag (AA b l) (i * 3)) (.int .i64 (x))=([(b,AE Af (l.set i {at' l i with A:=x}))],True):=A5 (f:=0) Bk h hi rfl (by decide) rfl rfl
@[go_sem] theorem xI {hp:Hp}{b:Nat}{l:List (Ap)}{i:Nat}(h:hp b=AE Af l)(hi:i < l.length){x:Int}:BW tt.get hp 3 (Ag (AA b l) (i * 3+1)) (.int .i64 (x))=([(b,AE Af (l.set i {at' l i with B:=x}))],True):=A5 (f:=1) Bk h hi rfl (by decide) rfl rfl
@[go_sem] theorem uq {hp:Hp}{b:Nat}{l:List (Ap)}{i:Nat}(h:hp b=AE Af l)(hi:i < l.length){x:Int}:BW tt.get hp 3 (Ag (AA b l) (i * 3+2)) (.int .i64 (x))=([(b,AE Af (l.set i {at' l i with Er:=x}))],True):=A5 (f:=2) Bk h hi rfl (by decide) rfl rfl
@[go_sem] theorem AAs {b:Nat}{l:List (Ap)}{hp2:Hp}:CQ tt.get hp2 23 (AA b l)=(.int .i64 (l.length:Int),True):=by cases l with | nil=>unfold CQ AA;simp only [BZ,Eb,Ko,Yz];rfl | cons a l=>unfold CQ AA;simp only [BZ,Eb,Ko,Yz];rfl
end
section
theorem GO {hp:Hp}{v:Value}{l:List (BX)}(h:BJ AJ hp v l){hp':Hp}:CQ tt.get hp' 24 v=(.int .i64 (l.length:Int),True):=h.KL DW
theorem GN {hp:Hp}{v:Value}{l:List (BX)}(h:BJ AJ hp v l){k:IntKind}{n:Int}(h0:0≤n)(h1:n < l.length):Ak tt.get 24 v (.int k n)=(Ag v (n.toNat * 5),True):=h.idx DW IV rfl h0 h1
theorem Hf {hp:Hp}{v:Value}{l:List (BX)}(h:BJ AJ hp v l){i:Nat}(hi:i < l.length):BA tt.get hp 83 (Ag v (i * 5))=(.agg ⟨AJ.enc (at' l i)⟩,True):=h.load IV rfl rfl hi
theorem FW {hp:Hp}{v:Value}{l:List (BX)}(h:BJ AJ hp v l){i:Nat}(hi:i < l.length):AD tt.get 83 (Ag v (i * 5)) 0=(Ag v (i * 5),True):=h.field hi (d:=0) (fun b o=>(by kernel_rfl:AM tt.get 83 (.pointer (some ⟨b,o,none⟩)) 0=some (.pointer (some ⟨b,o+0,none⟩))))
theorem E4 {hp:Hp}{v:Value}{l:List (BX)}(h:BJ AJ hp v l){i:Nat}(hi:i < l.length):BA tt.get hp 3 (Ag v (i * 5))=(.int .i64 ((at' l i).C9),True):=h.cell (f:=0) Bk rfl hi (by decide)
theorem FO {hp:Hp}{v:Value}{l:List (BX)}(h:BJ AJ hp v l){i:Nat}(hi:i < l.length):AD tt.get 83 (Ag v (i * 5)) 1=(Ag v (i * 5+1),True):=h.field hi (d:=1) (fun b o=>(by kernel_rfl:AM tt.get 83 (.pointer (some ⟨b,o,none⟩)) 1=some (.pointer (some ⟨b,o+1,none⟩))))
theorem FQ {hp:Hp}{v:Value}{l:List (BX)}(h:BJ AJ hp v l){i:Nat}(hi:i < l.length):BA tt.get hp 3 (Ag v (i * 5+1))=(.int .i64 ((at' l i).To),True):=h.cell (f:=1) Bk rfl hi (by decide)
theorem FI {hp:Hp}{v:Value}{l:List (BX)}(h:BJ AJ hp v l){i:Nat}(hi:i < l.length):AD tt.get 83 (Ag v (i * 5)) 2=(Ag v (i * 5+2),True):=h.field hi (d:=2) (fun b o=>(by kernel_rfl:AM tt.get 83 (.pointer (some ⟨b,o,none⟩)) 2=some (.pointer (some ⟨b,o+2,none⟩))))
theorem E5 {hp:Hp}{v:Value}{l:List (BX)}(h:BJ AJ hp v l){i:Nat}(hi:i < l.length):BA tt.get hp 3 (Ag v (i * 5+2))=(.int .i64 ((at' l i).KM),True):=h.cell (f:=2) Bk rfl hi (by decide)
theorem E6 {hp:Hp}{v:Value}{l:List (BX)}(h:BJ AJ hp v l){i:Nat}(hi:i < l.length):AD tt.get 83 (Ag v (i * 5)) 3=(Ag v (i * 5+3),True):=h.field hi (d:=3) (fun b o=>(by kernel_rfl:AM tt.get 83 (.pointer (some ⟨b,o,none⟩)) 3=some (.pointer (some ⟨b,o+3,none⟩))))
theorem E7 {hp:Hp}{v:Value}{l:List (BX)}(h:BJ AJ hp v l){i:Nat}(hi:i < l.length):BA tt.get hp 3 (Ag v (i * 5+3))=(.int .i64 ((at' l i).Kind),True):=h.cell (f:=3) Bk rfl hi (by decide)
theorem FF {hp:Hp}{v:Value}{l:List (BX)}(h:BJ AJ hp v l){i:Nat}(hi:i < l.length):AD tt.get 83 (Ag v (i * 5)) 4=(Ag v (i * 5+4),True):=h.field hi (d:=4) (fun b o=>(by kernel_rfl:AM tt.get 83 (.pointer (some ⟨b,o,none⟩)) 4=some (.pointer (some ⟨b,o+4,none⟩))))
theorem E9 {hp:Hp}{v:Value}{l:List (BX)}(h:BJ AJ hp v l){i:Nat}(hi:i < l.length):BA tt.get hp 3 (Ag v (i * 5+4))=(.int .i64 ((at' l i).By),True):=h.cell (f:=4) Bk rfl hi (by decide)
theorem He {hp:Hp}{v:Value}{l:List (BX)}(h:BJ AJ hp v l){k:IntKind}{n:Int}(h0:0≤n)(h1:n≤l.length):Bv tt.get hp 24 v none (some (.int k n))=(K8 5 v 0 n.toNat,True):=h.ZI DW IV h0 h1
theorem Hk {hp:Hp}{v:Value}{l:List (BX)}(h:BJ AJ hp v l){k:IntKind}{n:Int}(h0:0≤n)(h1:n≤l.length):Bv tt.get hp 24 v (some (.int k n)) none=(G8 5 v n.toNat,True):=h.Y6 DW IV rfl h0 h1
@[go_sem] theorem za {hp:Hp}{x:Value}{b top:Nat}{l:List (BX)}(h:hp b=AE AJ l)(hx:G6 AJ hp x)(hn:l.length+(AJ.rd hp x).length≤16777216):AR tt.get hp top [24,24] (AA b l) x=some (AA top (l ++ AJ.rd hp x),Ck b l top (AE AJ (l ++ AJ.rd hp x)),top+1):=Cz DW Kd rfl IV rfl rfl h hx hn
@[go_sem] theorem xu {hp:Hp}{x:Value}{top:Nat}(hx:G6 AJ hp x)(hn:(AJ.rd hp x).length≤16777216):AR tt.get hp top [24,24] (.slice none 0 0) x=some (AA top (AJ.rd hp x), [(top,AE AJ (AJ.rd hp x))],top+1):=C0 DW Kd rfl IV rfl rfl hx hn
@[go_sem] theorem NN {hp:Hp}{b top k:Nat}{l:List (BX)}(h:hp b=AE AJ l)(hk:hp k=some (.cells true 5 (cellsOf (hp k))))(hc:AJ.enc (AJ.dec (cellsOf (hp k)))=cellsOf (hp k))(hn:DX (l.length+1) Wy.bytes=true):AR tt.get hp top [24,24] (AA b l) (.slice (some ⟨k,0,none⟩) 1 1)=some (AA top (l ++ [AJ.dec (cellsOf (hp k))]),Ck b l top (AE AJ (l ++ [AJ.dec (cellsOf (hp k))])),top+1):=Em DW Kd rfl IV rfl rfl h hk hc hn
@[go_sem] theorem yK {hp:Hp}{x:Value}{top:Nat}(hx:G6 AJ hp x)(hn:DX (AJ.rd hp x).length Wy.bytes=true):AR tt.get hp top [24,24] (.slice none 0 0) x=some (AA top (AJ.rd hp x), [(top,AE AJ (AJ.rd hp x))],top+1):=Cd DW Kd rfl IV rfl rfl hx hn
@[go_sem] theorem Fc {hp:Hp}{top k:Nat}(hk:hp k=some (.cells true 5 (cellsOf (hp k))))(hc:AJ.enc (AJ.dec (cellsOf (hp k)))=cellsOf (hp k)):AR tt.get hp top [24,24] (.slice none 0 0) (.slice (some ⟨k,0,none⟩) 1 1)=some (AA top [AJ.dec (cellsOf (hp k))], [(top,AE AJ [AJ.dec (cellsOf (hp k))])],top+1):=Ce DW Kd rfl IV rfl rfl hk hc
@[go_sem] theorem zj {hp:Hp}{b top:Nat}{l l2:List (BX)}(h:hp b=AE AJ l):hp.A6 (Ck b l top (AE AJ l2))=(hp.set b none).set top (AE AJ l2):=HL h
@[go_sem] theorem ABG {hp:Hp}{b:Nat}{l:List (BX)}{i:Nat}(h:hp b=AE AJ l)(hi:i < l.length){a0:Int}{a1:Int}{a2:Int}{a3:Int}{a4:Int}:BW tt.get hp 83 (Ag (AA b l) (i * 5)) (.agg ⟨[.int .i64 (a0), .int .i64 (a1), .int .i64 (a2), .int .i64 (a3), .int .i64 (a4)]⟩)=([(b,AE AJ (l.set i ⟨a0,a1,a2,a3,a4⟩))],True):=GH (E:=AJ) (cs:=AJ.enc ⟨a0,a1,a2,a3,a4⟩) IV rfl h hi rfl rfl
@[go_sem] theorem xB {hp:Hp}{b:Nat}{l:List (BX)}{i:Nat}(h:hp b=AE AJ l)(hi:i < l.length){x:Int}:BW tt.get hp 3 (Ag (AA b l) (i * 5)) (.int .i64 (x))=([(b,AE AJ (l.set i {at' l i with C9:=x}))],True):=A5 (f:=0) Bk h hi rfl (by decide) rfl rfl
@[go_sem] theorem w7 {hp:Hp}{b:Nat}{l:List (BX)}{i:Nat}(h:hp b=AE AJ l)(hi:i < l.length){x:Int}:BW tt.get hp 3 (Ag (AA b l) (i * 5+1)) (.int .i64 (x))=([(b,AE AJ (l.set i {at' l i with To:=x}))],True):=A5 (f:=1) Bk h hi rfl (by decide) rfl rfl
@[go_sem] theorem u9 {hp:Hp}{b:Nat}{l:List (BX)}{i:Nat}(h:hp b=AE AJ l)(hi:i < l.length){x:Int}:BW tt.get hp 3 (Ag (AA b l) (i * 5+2)) (.int .i64 (x))=([(b,AE AJ (l.set i {at' l i with KM:=x}))],True):=A5 (f:=2) Bk h hi rfl (by decide) rfl rfl
@[go_sem] theorem vy {hp:Hp}{b:Nat}{l:List (BX)}{i:Nat}(h:hp b=AE AJ l)(hi:i < l.length){x:Int}:BW tt.get hp 3 (Ag (AA b l) (i * 5+3)) (.int .i64 (x))=([(b,AE AJ (l.set i {at' l i with Kind:=x}))],True):=A5 (f:=3) Bk h hi rfl (by decide) rfl rfl
@[go_sem] theorem xS {hp:Hp}{b:Nat}{l:List (BX)}{i:Nat}(h:hp b=AE AJ l)(hi:i < l.length){x:Int}:BW tt.get hp 3 (Ag (AA b l) (i * 5+4)) (.int .i64 (x))=([(b,AE AJ (l.set i {at' l i with By:=x}))],True):=A5 (f:=4) Bk h hi rfl (by decide) rfl rfl
@[go_sem] theorem ABZ {b:Nat}{l:List (BX)}{hp2:Hp}:CQ tt.get hp2 24 (AA b l)=(.int .i64 (l.length:Int),True):=by cases l with | nil=>unfold CQ AA;simp only [DW,Eb,Kd,Yh];rfl | cons a l=>unfold CQ AA;simp only [DW,Eb,Kd,Yh];rfl
end
section
theorem IH {hp:Hp}{v:Value}{l:List (Aq)}(h:BJ A7 hp v l){hp':Hp}:CQ tt.get hp' 27 v=(.int .i64 (l.length:Int),True):=h.KL Hd
theorem IG {hp:Hp}{v:Value}{l:List (Aq)}(h:BJ A7 hp v l){k:IntKind}{n:Int}(h0:0≤n)(h1:n < l.length):Ak tt.get 27 v (.int k n)=(Ag v (n.toNat * 7),True):=h.idx Hd NL rfl h0 h1
theorem Ke {hp:Hp}{v:Value}{l:List (Aq)}(h:BJ A7 hp v l){i:Nat}(hi:i < l.length):BA tt.get hp 43 (Ag v (i * 7))=(.agg ⟨A7.enc (at' l i)⟩,True):=h.load NL rfl rfl hi
theorem Gs {hp:Hp}{v:Value}{l:List (Aq)}(h:BJ A7 hp v l){i:Nat}(hi:i < l.length):AD tt.get 43 (Ag v (i * 7)) 0=(Ag v (i * 7),True):=h.field hi (d:=0) (fun b o=>(by kernel_rfl:AM tt.get 43 (.pointer (some ⟨b,o,none⟩)) 0=some (.pointer (some ⟨b,o+0,none⟩))))
theorem Gt {hp:Hp}{v:Value}{l:List (Aq)}(h:BJ A7 hp v l){i:Nat}(hi:i < l.length):BA tt.get hp 3 (Ag v (i * 7))=(.int .i64 ((at' l i).Kind),True):=h.cell (f:=0) Bk rfl hi (by decide)
theorem Gu {hp:Hp}{v:Value}{l:List (Aq)}(h:BJ A7 hp v l){i:Nat}(hi:i < l.length):AD tt.get 43 (Ag v (i * 7)) 1=(Ag v (i * 7+1),True):=h.field hi (d:=1) (fun b o=>(by kernel_rfl:AM tt.get 43 (.pointer (some ⟨b,o,none⟩)) 1=some (.pointer (some ⟨b,o+1,none⟩))))
theorem GW {hp:Hp}{v:Value}{l:List (Aq)}(h:BJ A7 hp v l){i:Nat}(hi:i < l.length):BA tt.get hp 3 (Ag v (i * 7+1))=(.int .i64 ((at' l i).Bl),True):=h.cell (f:=1) Bk rfl hi (by decide)
theorem Gz {hp:Hp}{v:Value}{l:List (Aq)}(h:BJ A7 hp v l){i:Nat}(hi:i < l.length):AD tt.get 43 (Ag v (i * 7)) 2=(Ag v (i * 7+2),True):=h.field hi (d:=2) (fun b o=>(by kernel_rfl:AM tt.get 43 (.pointer (some ⟨b,o,none⟩)) 2=some (.pointer (some ⟨b,o+2,none⟩))))
theorem Gm {hp:Hp}{v:Value}{l:List (Aq)}(h:BJ A7 hp v l){i:Nat}(hi:i < l.length):BA tt.get hp 3 (Ag v (i * 7+2))=(.int .i64 ((at' l i).Dg),True):=h.cell (f:=2) Bk rfl hi (by decide)
theorem GX {hp:Hp}{v:Value}{l:List (Aq)}(h:BJ A7 hp v l){i:Nat}(hi:i < l.length):AD tt.get 43 (Ag v (i * 7)) 3=(Ag v (i * 7+3),True):=h.field hi (d:=3) (fun b o=>(by kernel_rfl:AM tt.get 43 (.pointer (some ⟨b,o,none⟩)) 3=some (.pointer (some ⟨b,o+3,none⟩))))
theorem Ge {hp:Hp}{v:Value}{l:List (Aq)}(h:BJ A7 hp v l){i:Nat}(hi:i < l.length):BA tt.get hp 3 (Ag v (i * 7+3))=(.int .i64 ((at' l i).CF),True):=h.cell (f:=3) Bk rfl hi (by decide)
theorem Gn {hp:Hp}{v:Value}{l:List (Aq)}(h:BJ A7 hp v l){i:Nat}(hi:i < l.length):AD tt.get 43 (Ag v (i * 7)) 4=(Ag v (i * 7+4),True):=h.field hi (d:=4) (fun b o=>(by kernel_rfl:AM tt.get 43 (.pointer (some ⟨b,o,none⟩)) 4=some (.pointer (some ⟨b,o+4,none⟩))))
theorem Gp {hp:Hp}{v:Value}{l:List (Aq)}(h:BJ A7 hp v l){i:Nat}(hi:i < l.length):BA tt.get hp 41 (Ag v (i * 7+4))=(.int .u32 ((at' l i).BS),True):=h.cell (f:=4) KE rfl hi (by decide)
theorem Gx {hp:Hp}{v:Value}{l:List (Aq)}(h:BJ A7 hp v l){i:Nat}(hi:i < l.length):AD tt.get 43 (Ag v (i * 7)) 5=(Ag v (i * 7+5),True):=h.field hi (d:=5) (fun b o=>(by kernel_rfl:AM tt.get 43 (.pointer (some ⟨b,o,none⟩)) 5=some (.pointer (some ⟨b,o+5,none⟩))))
theorem Gi {hp:Hp}{v:Value}{l:List (Aq)}(h:BJ A7 hp v l){i:Nat}(hi:i < l.length):BA tt.get hp 3 (Ag v (i * 7+5))=(.int .i64 ((at' l i).CB),True):=h.cell (f:=5) Bk rfl hi (by decide)
theorem Gg {hp:Hp}{v:Value}{l:List (Aq)}(h:BJ A7 hp v l){i:Nat}(hi:i < l.length):AD tt.get 43 (Ag v (i * 7)) 6=(Ag v (i * 7+6),True):=h.field hi (d:=6) (fun b o=>(by kernel_rfl:AM tt.get 43 (.pointer (some ⟨b,o,none⟩)) 6=some (.pointer (some ⟨b,o+6,none⟩))))
theorem GY {hp:Hp}{v:Value}{l:List (Aq)}(h:BJ A7 hp v l){i:Nat}(hi:i < l.length):BA tt.get hp 9 (Ag v (i * 7+6))=(.string ⟨⟨(at' l i).Bytes⟩⟩,True):=h.cell (f:=6) C5 rfl hi (by decide)
theorem KU {hp:Hp}{v:Value}{l:List (Aq)}(h:BJ A7 hp v l){k:IntKind}{n:Int}(h0:0≤n)(h1:n≤l.length):Bv tt.get hp 27 v none (some (.int k n))=(K8 7 v 0 n.toNat,True):=h.ZI Hd NL h0 h1
theorem Kz {hp:Hp}{v:Value}{l:List (Aq)}(h:BJ A7 hp v l){k:IntKind}{n:Int}(h0:0≤n)(h1:n≤l.length):Bv tt.get hp 27 v (some (.int k n)) none=(G8 7 v n.toNat,True):=h.Y6 Hd NL rfl h0 h1
@[go_sem] theorem AC3 {hp:Hp}{x:Value}{b top:Nat}{l:List (Aq)}(h:hp b=AE A7 l)(hx:G6 A7 hp x)(hn:l.length+(A7.rd hp x).length≤16777216):AR tt.get hp top [27,27] (AA b l) x=some (AA top (l ++ A7.rd hp x),Ck b l top (AE A7 (l ++ A7.rd hp x)),top+1):=Cz Hd Px rfl NL rfl rfl h hx hn
@[go_sem] theorem AB9 {hp:Hp}{x:Value}{top:Nat}(hx:G6 A7 hp x)(hn:(A7.rd hp x).length≤16777216):AR tt.get hp top [27,27] (.slice none 0 0) x=some (AA top (A7.rd hp x), [(top,AE A7 (A7.rd hp x))],top+1):=C0 Hd Px rfl NL rfl rfl hx hn
@[go_sem] theorem YO {hp:Hp}{b top k:Nat}{l:List (Aq)}(h:hp b=AE A7 l)(hk:hp k=some (.cells true 7 (cellsOf (hp k))))(hc:A7.enc (A7.dec (cellsOf (hp k)))=cellsOf (hp k))(hn:DX (l.length+1) S8.bytes=true):AR tt.get hp top [27,27] (AA b l) (.slice (some ⟨k,0,none⟩) 1 1)=some (AA top (l ++ [A7.dec (cellsOf (hp k))]),Ck b l top (AE A7 (l ++ [A7.dec (cellsOf (hp k))])),top+1):=Em Hd Px rfl NL rfl rfl h hk hc hn
@[go_sem] theorem AB6 {hp:Hp}{x:Value}{top:Nat}(hx:G6 A7 hp x)(hn:DX (A7.rd hp x).length S8.bytes=true):AR tt.get hp top [27,27] (.slice none 0 0) x=some (AA top (A7.rd hp x), [(top,AE A7 (A7.rd hp x))],top+1):=Cd Hd Px rfl NL rfl rfl hx hn
@[go_sem] theorem ACE {hp:Hp}{top k:Nat}(hk:hp k=some (.cells true 7 (cellsOf (hp k))))(hc:A7.enc (A7.dec (cellsOf (hp k)))=cellsOf (hp k)):AR tt.get hp top [27,27] (.slice none 0 0) (.slice (some ⟨k,0,none⟩) 1 1)=some (AA top [A7.dec (cellsOf (hp k))], [(top,AE A7 [A7.dec (cellsOf (hp k))])],top+1):=Ce Hd Px rfl NL rfl rfl hk hc
@[go_sem] theorem ADd {hp:Hp}{b top:Nat}{l l2:List (Aq)}(h:hp b=AE A7 l):hp.A6 (Ck b l top (AE A7 l2))=(hp.set b none).set top (AE A7 l2):=HL h
@[go_sem] theorem ACs {hp:Hp}{b:Nat}{l:List (Aq)}{i:Nat}(h:hp b=AE A7 l)(hi:i < l.length){a0:Int}{a1:Int}{a2:Int}{a3:Int}{a4:Int}{a5:Int}{a6:List UInt8}:BW tt.get hp 43 (Ag (AA b l) (i * 7)) (.agg ⟨[.int .i64 (a0), .int .i64 (a1), .int .i64 (a2), .int .i64 (a3), .int .u32 (a4), .int .i64 (a5), .string ⟨⟨a6⟩⟩]⟩)=([(b,AE A7 (l.set i ⟨a0,a1,a2,a3,a4,a5,a6⟩))],True):=GH (E:=A7) (cs:=A7.enc ⟨a0,a1,a2,a3,a4,a5,a6⟩) NL rfl h hi rfl rfl
@[go_sem] theorem ABY {hp:Hp}{b:Nat}{l:List (Aq)}{i:Nat}(h:hp b=AE A7 l)(hi:i < l.length){x:Int}:BW tt.get hp 3 (Ag (AA b l) (i * 7)) (.int .i64 (x))=([(b,AE A7 (l.set i {at' l i with Kind:=x}))],True):=A5 (f:=0) Bk h hi rfl (by decide) rfl rfl
@[go_sem] theorem zZ {hp:Hp}{b:Nat}{l:List (Aq)}{i:Nat}(h:hp b=AE A7 l)(hi:i < l.length){x:Int}:BW tt.get hp 3 (Ag (AA b l) (i * 7+1)) (.int .i64 (x))=([(b,AE A7 (l.set i {at' l i with Bl:=x}))],True):=A5 (f:=1) Bk h hi rfl (by decide) rfl rfl
@[go_sem] theorem AAg {hp:Hp}{b:Nat}{l:List (Aq)}{i:Nat}(h:hp b=AE A7 l)(hi:i < l.length){x:Int}:BW tt.get hp 3 (Ag (AA b l) (i * 7+2)) (.int .i64 (x))=([(b,AE A7 (l.set i {at' l i with Dg:=x}))],True):=A5 (f:=2) Bk h hi rfl (by decide) rfl rfl
@[go_sem] theorem yi {hp:Hp}{b:Nat}{l:List (Aq)}{i:Nat}(h:hp b=AE A7 l)(hi:i < l.length){x:Int}:BW tt.get hp 3 (Ag (AA b l) (i * 7+3)) (.int .i64 (x))=([(b,AE A7 (l.set i {at' l i with CF:=x}))],True):=A5 (f:=3) Bk h hi rfl (by decide) rfl rfl
@[go_sem] theorem zH {hp:Hp}{b:Nat}{l:List (Aq)}{i:Nat}(h:hp b=AE A7 l)(hi:i < l.length){x:Int}:BW tt.get hp 41 (Ag (AA b l) (i * 7+4)) (.int .u32 (x))=([(b,AE A7 (l.set i {at' l i with BS:=x}))],True):=A5 (f:=4) KE h hi rfl (by decide) rfl rfl
@[go_sem] theorem zc {hp:Hp}{b:Nat}{l:List (Aq)}{i:Nat}(h:hp b=AE A7 l)(hi:i < l.length){x:Int}:BW tt.get hp 3 (Ag (AA b l) (i * 7+5)) (.int .i64 (x))=([(b,AE A7 (l.set i {at' l i with CB:=x}))],True):=A5 (f:=5) Bk h hi rfl (by decide) rfl rfl
@[go_sem] theorem AAf {hp:Hp}{b:Nat}{l:List (Aq)}{i:Nat}(h:hp b=AE A7 l)(hi:i < l.length){x:List UInt8}:BW tt.get hp 9 (Ag (AA b l) (i * 7+6)) (.string ⟨⟨x⟩⟩)=([(b,AE A7 (l.set i {at' l i with Bytes:=x}))],True):=A5 (f:=6) C5 h hi rfl (by decide) rfl rfl
@[go_sem] theorem ADS {b:Nat}{l:List (Aq)}{hp2:Hp}:CQ tt.get hp2 27 (AA b l)=(.int .i64 (l.length:Int),True):=by cases l with | nil=>unfold CQ AA;simp only [Hd,Eb,Px,YE];rfl | cons a l=>unfold CQ AA;simp only [Hd,Eb,Px,YE];rfl
end
section
theorem MV {hp:Hp}{v:Value}{l:List (C6)}(h:BJ B8 hp v l){hp':Hp}:CQ tt.get hp' 36 v=(.int .i64 (l.length:Int),True):=h.KL Hz
theorem MH {hp:Hp}{v:Value}{l:List (C6)}(h:BJ B8 hp v l){k:IntKind}{n:Int}(h0:0≤n)(h1:n < l.length):Ak tt.get 36 v (.int k n)=(Ag v (n.toNat * 7),True):=h.idx Hz Vz rfl h0 h1
theorem PY {hp:Hp}{v:Value}{l:List (C6)}(h:BJ B8 hp v l){i:Nat}(hi:i < l.length):BA tt.get hp 47 (Ag v (i * 7))=(.agg ⟨B8.enc (at' l i)⟩,True):=h.load Vz rfl rfl hi
theorem J3 {hp:Hp}{v:Value}{l:List (C6)}(h:BJ B8 hp v l){i:Nat}(hi:i < l.length):AD tt.get 47 (Ag v (i * 7)) 0=(Ag v (i * 7),True):=h.field hi (d:=0) (fun b o=>(by kernel_rfl:AM tt.get 47 (.pointer (some ⟨b,o,none⟩)) 0=some (.pointer (some ⟨b,o+0,none⟩))))
theorem Je {hp:Hp}{v:Value}{l:List (C6)}(h:BJ B8 hp v l){i:Nat}(hi:i < l.length):BA tt.get hp 5 (Ag v (i * 7))=(.int .u8 ((at' l i).Kind),True):=h.cell (f:=0) EC rfl hi (by decide)
theorem Jb {hp:Hp}{v:Value}{l:List (C6)}(h:BJ B8 hp v l){i:Nat}(hi:i < l.length):AD tt.get 47 (Ag v (i * 7)) 1=(Ag v (i * 7+1),True):=h.field hi (d:=1) (fun b o=>(by kernel_rfl:AM tt.get 47 (.pointer (some ⟨b,o,none⟩)) 1=some (.pointer (some ⟨b,o+1,none⟩))))
theorem J0 {hp:Hp}{v:Value}{l:List (C6)}(h:BJ B8 hp v l){i:Nat}(hi:i < l.length):BA tt.get hp 5 (Ag v (i * 7+1))=(.int .u8 ((at' l i).Bl),True):=h.cell (f:=1) EC rfl hi (by decide)
theorem Jk {hp:Hp}{v:Value}{l:List (C6)}(h:BJ B8 hp v l){i:Nat}(hi:i < l.length):AD tt.get 47 (Ag v (i * 7)) 2=(Ag v (i * 7+2),True):=h.field hi (d:=2) (fun b o=>(by kernel_rfl:AM tt.get 47 (.pointer (some ⟨b,o,none⟩)) 2=some (.pointer (some ⟨b,o+2,none⟩))))
theorem KC {hp:Hp}{v:Value}{l:List (C6)}(h:BJ B8 hp v l){i:Nat}(hi:i < l.length):BA tt.get hp 5 (Ag v (i * 7+2))=(.int .u8 ((at' l i).Dg),True):=h.cell (f:=2) EC rfl hi (by decide)
theorem J6 {hp:Hp}{v:Value}{l:List (C6)}(h:BJ B8 hp v l){i:Nat}(hi:i < l.length):AD tt.get 47 (Ag v (i * 7)) 3=(Ag v (i * 7+3),True):=h.field hi (d:=3) (fun b o=>(by kernel_rfl:AM tt.get 47 (.pointer (some ⟨b,o,none⟩)) 3=some (.pointer (some ⟨b,o+3,none⟩))))
theorem Jj {hp:Hp}{v:Value}{l:List (C6)}(h:BJ B8 hp v l){i:Nat}(hi:i < l.length):BA tt.get hp 5 (Ag v (i * 7+3))=(.int .u8 ((at' l i).CF),True):=h.cell (f:=3) EC rfl hi (by decide)
theorem Ji {hp:Hp}{v:Value}{l:List (C6)}(h:BJ B8 hp v l){i:Nat}(hi:i < l.length):AD tt.get 47 (Ag v (i * 7)) 4=(Ag v (i * 7+4),True):=h.field hi (d:=4) (fun b o=>(by kernel_rfl:AM tt.get 47 (.pointer (some ⟨b,o,none⟩)) 4=some (.pointer (some ⟨b,o+4,none⟩))))
theorem Ju {hp:Hp}{v:Value}{l:List (C6)}(h:BJ B8 hp v l){i:Nat}(hi:i < l.length):BA tt.get hp 45 (Ag v (i * 7+4))=(.int .u16 ((at' l i).CB),True):=h.cell (f:=4) X9 rfl hi (by decide)
theorem Jd {hp:Hp}{v:Value}{l:List (C6)}(h:BJ B8 hp v l){i:Nat}(hi:i < l.length):AD tt.get 47 (Ag v (i * 7)) 5=(Ag v (i * 7+5),True):=h.field hi (d:=5) (fun b o=>(by kernel_rfl:AM tt.get 47 (.pointer (some ⟨b,o,none⟩)) 5=some (.pointer (some ⟨b,o+5,none⟩))))
theorem Jt {hp:Hp}{v:Value}{l:List (C6)}(h:BJ B8 hp v l){i:Nat}(hi:i < l.length):BA tt.get hp 41 (Ag v (i * 7+5))=(.int .u32 ((at' l i).BS),True):=h.cell (f:=5) KE rfl hi (by decide)
theorem J8 {hp:Hp}{v:Value}{l:List (C6)}(h:BJ B8 hp v l){i:Nat}(hi:i < l.length):AD tt.get 47 (Ag v (i * 7)) 6=(Ag v (i * 7+6),True):=h.field hi (d:=6) (fun b o=>(by kernel_rfl:AM tt.get 47 (.pointer (some ⟨b,o,none⟩)) 6=some (.pointer (some ⟨b,o+6,none⟩))))
theorem Jr {hp:Hp}{v:Value}{l:List (C6)}(h:BJ B8 hp v l){i:Nat}(hi:i < l.length):BA tt.get hp 9 (Ag v (i * 7+6))=(.string ⟨⟨(at' l i).Bytes⟩⟩,True):=h.cell (f:=6) C5 rfl hi (by decide)
theorem Oa {hp:Hp}{v:Value}{l:List (C6)}(h:BJ B8 hp v l){k:IntKind}{n:Int}(h0:0≤n)(h1:n≤l.length):Bv tt.get hp 36 v none (some (.int k n))=(K8 7 v 0 n.toNat,True):=h.ZI Hz Vz h0 h1
theorem Oe {hp:Hp}{v:Value}{l:List (C6)}(h:BJ B8 hp v l){k:IntKind}{n:Int}(h0:0≤n)(h1:n≤l.length):Bv tt.get hp 36 v (some (.int k n)) none=(G8 7 v n.toNat,True):=h.Y6 Hz Vz rfl h0 h1
@[go_sem] theorem AC8 {hp:Hp}{x:Value}{b top:Nat}{l:List (C6)}(h:hp b=AE B8 l)(hx:G6 B8 hp x)(hn:l.length+(B8.rd hp x).length≤16777216):AR tt.get hp top [36,36] (AA b l) x=some (AA top (l ++ B8.rd hp x),Ck b l top (AE B8 (l ++ B8.rd hp x)),top+1):=Cz Hz UD rfl Vz rfl rfl h hx hn
@[go_sem] theorem ACY {hp:Hp}{x:Value}{top:Nat}(hx:G6 B8 hp x)(hn:(B8.rd hp x).length≤16777216):AR tt.get hp top [36,36] (.slice none 0 0) x=some (AA top (B8.rd hp x), [(top,AE B8 (B8.rd hp x))],top+1):=C0 Hz UD rfl Vz rfl rfl hx hn
@[go_sem] theorem ACj {hp:Hp}{x:Value}{top:Nat}(hx:G6 B8 hp x)(hn:DX (B8.rd hp x).length dN.bytes=true):AR tt.get hp top [36,36] (.slice none 0 0) x=some (AA top (B8.rd hp x), [(top,AE B8 (B8.rd hp x))],top+1):=Cd Hz UD rfl Vz rfl rfl hx hn
@[go_sem] theorem ACS {hp:Hp}{top k:Nat}(hk:hp k=some (.cells true 7 (cellsOf (hp k))))(hc:B8.enc (B8.dec (cellsOf (hp k)))=cellsOf (hp k)):AR tt.get hp top [36,36] (.slice none 0 0) (.slice (some ⟨k,0,none⟩) 1 1)=some (AA top [B8.dec (cellsOf (hp k))], [(top,AE B8 [B8.dec (cellsOf (hp k))])],top+1):=Ce Hz UD rfl Vz rfl rfl hk hc
@[go_sem] theorem ADf {hp:Hp}{b:Nat}{l:List (C6)}{i:Nat}(h:hp b=AE B8 l)(hi:i < l.length){a0:Int}{a1:Int}{a2:Int}{a3:Int}{a4:Int}{a5:Int}{a6:List UInt8}:BW tt.get hp 47 (Ag (AA b l) (i * 7)) (.agg ⟨[.int .u8 (a0), .int .u8 (a1), .int .u8 (a2), .int .u8 (a3), .int .u16 (a4), .int .u32 (a5), .string ⟨⟨a6⟩⟩]⟩)=([(b,AE B8 (l.set i ⟨a0,a1,a2,a3,a4,a5,a6⟩))],True):=GH (E:=B8) (cs:=B8.enc ⟨a0,a1,a2,a3,a4,a5,a6⟩) Vz rfl h hi rfl rfl
@[go_sem] theorem ABH {hp:Hp}{b:Nat}{l:List (C6)}{i:Nat}(h:hp b=AE B8 l)(hi:i < l.length){x:Int}:BW tt.get hp 5 (Ag (AA b l) (i * 7)) (.int .u8 (x))=([(b,AE B8 (l.set i {at' l i with Kind:=x}))],True):=A5 (f:=0) EC h hi rfl (by decide) rfl rfl
@[go_sem] theorem zw {hp:Hp}{b:Nat}{l:List (C6)}{i:Nat}(h:hp b=AE B8 l)(hi:i < l.length){x:Int}:BW tt.get hp 5 (Ag (AA b l) (i * 7+1)) (.int .u8 (x))=([(b,AE B8 (l.set i {at' l i with Bl:=x}))],True):=A5 (f:=1) EC h hi rfl (by decide) rfl rfl
@[go_sem] theorem AAz {hp:Hp}{b:Nat}{l:List (C6)}{i:Nat}(h:hp b=AE B8 l)(hi:i < l.length){x:Int}:BW tt.get hp 5 (Ag (AA b l) (i * 7+2)) (.int .u8 (x))=([(b,AE B8 (l.set i {at' l i with Dg:=x}))],True):=A5 (f:=2) EC h hi rfl (by decide) rfl rfl
@[go_sem] theorem ABg {hp:Hp}{b:Nat}{l:List (C6)}{i:Nat}(h:hp b=AE B8 l)(hi:i < l.length){x:Int}:BW tt.get hp 5 (Ag (AA b l) (i * 7+3)) (.int .u8 (x))=([(b,AE B8 (l.set i {at' l i with CF:=x}))],True):=A5 (f:=3) EC h hi rfl (by decide) rfl rfl
@[go_sem] theorem AAA {hp:Hp}{b:Nat}{l:List (C6)}{i:Nat}(h:hp b=AE B8 l)(hi:i < l.length){x:Int}:BW tt.get hp 45 (Ag (AA b l) (i * 7+4)) (.int .u16 (x))=([(b,AE B8 (l.set i {at' l i with CB:=x}))],True):=A5 (f:=4) X9 h hi rfl (by decide) rfl rfl
@[go_sem] theorem AAh {hp:Hp}{b:Nat}{l:List (C6)}{i:Nat}(h:hp b=AE B8 l)(hi:i < l.length){x:Int}:BW tt.get hp 41 (Ag (AA b l) (i * 7+5)) (.int .u32 (x))=([(b,AE B8 (l.set i {at' l i with BS:=x}))],True):=A5 (f:=5) KE h hi rfl (by decide) rfl rfl
@[go_sem] theorem z8 {hp:Hp}{b:Nat}{l:List (C6)}{i:Nat}(h:hp b=AE B8 l)(hi:i < l.length){x:List UInt8}:BW tt.get hp 9 (Ag (AA b l) (i * 7+6)) (.string ⟨⟨x⟩⟩)=([(b,AE B8 (l.set i {at' l i with Bytes:=x}))],True):=A5 (f:=6) C5 h hi rfl (by decide) rfl rfl
@[go_sem] theorem ADJ {b:Nat}{l:List (C6)}{hp2:Hp}:CQ tt.get hp2 36 (AA b l)=(.int .i64 (l.length:Int),True):=by cases l with | nil=>unfold CQ AA;simp only [Hz,Eb,UD,Zt];rfl | cons a l=>unfold CQ AA;simp only [Hz,Eb,UD,Zt];rfl
end
section
theorem C4 {hp:Hp}{v:Value}{l:List (List UInt8)}(h:BJ AH hp v l){hp':Hp}:CQ tt.get hp' 67 v=(.int .i64 (l.length:Int),True):=h.KL CY
theorem CS {hp:Hp}{v:Value}{l:List (List UInt8)}(h:BJ AH hp v l){k:IntKind}{n:Int}(h0:0≤n)(h1:n < l.length):Ak tt.get 67 v (.int k n)=(Ag v (n.toNat * 1),True):=h.idx CY C5 rfl h0 h1
theorem Cf {hp:Hp}{v:Value}{l:List (List UInt8)}(h:BJ AH hp v l){i:Nat}(hi:i < l.length):BA tt.get hp 9 (Ag v (i * 1))=(.string ⟨⟨at' l i⟩⟩,True):=h.cell (f:=0) C5 rfl hi (by decide)
theorem D5 {hp:Hp}{v:Value}{l:List (List UInt8)}(h:BJ AH hp v l){k:IntKind}{n:Int}(h0:0≤n)(h1:n≤l.length):Bv tt.get hp 67 v none (some (.int k n))=(K8 1 v 0 n.toNat,True):=h.ZI CY C5 h0 h1
theorem DI {hp:Hp}{v:Value}{l:List (List UInt8)}(h:BJ AH hp v l){k:IntKind}{n:Int}(h0:0≤n)(h1:n≤l.length):Bv tt.get hp 67 v (some (.int k n)) none=(G8 1 v n.toNat,True):=h.Y6 CY C5 rfl h0 h1
@[go_sem] theorem w4 {hp:Hp}{x:Value}{b top:Nat}{l:List (List UInt8)}(h:hp b=AE AH l)(hx:G6 AH hp x)(hn:l.length+(AH.rd hp x).length≤16777216):AR tt.get hp top [67,67] (AA b l) x=some (AA top (l ++ AH.rd hp x),Ck b l top (AE AH (l ++ AH.rd hp x)),top+1):=Cz CY GM rfl C5 rfl rfl h hx hn
@[go_sem] theorem tM {hp:Hp}{x:Value}{top:Nat}(hx:G6 AH hp x)(hn:(AH.rd hp x).length≤16777216):AR tt.get hp top [67,67] (.slice none 0 0) x=some (AA top (AH.rd hp x), [(top,AE AH (AH.rd hp x))],top+1):=C0 CY GM rfl C5 rfl rfl hx hn
@[go_sem] theorem WO {hp:Hp}{b top k:Nat}{l:List (List UInt8)}(h:hp b=AE AH l)(hk:hp k=some (.cells true 1 (cellsOf (hp k))))(hc:AH.enc (AH.dec (cellsOf (hp k)))=cellsOf (hp k))(hn:DX (l.length+1) rU.bytes=true):AR tt.get hp top [67,67] (AA b l) (.slice (some ⟨k,0,none⟩) 1 1)=some (AA top (l ++ [AH.dec (cellsOf (hp k))]),Ck b l top (AE AH (l ++ [AH.dec (cellsOf (hp k))])),top+1):=Em CY GM rfl C5 rfl rfl h hk hc hn
@[go_sem] theorem tY {hp:Hp}{x:Value}{top:Nat}(hx:G6 AH hp x)(hn:DX (AH.rd hp x).length rU.bytes=true):AR tt.get hp top [67,67] (.slice none 0 0) x=some (AA top (AH.rd hp x), [(top,AE AH (AH.rd hp x))],top+1):=Cd CY GM rfl C5 rfl rfl hx hn
@[go_sem] theorem tf {hp:Hp}{top k:Nat}(hk:hp k=some (.cells true 1 (cellsOf (hp k))))(hc:AH.enc (AH.dec (cellsOf (hp k)))=cellsOf (hp k)):AR tt.get hp top [67,67] (.slice none 0 0) (.slice (some ⟨k,0,none⟩) 1 1)=some (AA top [AH.dec (cellsOf (hp k))], [(top,AE AH [AH.dec (cellsOf (hp k))])],top+1):=Ce CY GM rfl C5 rfl rfl hk hc
@[go_sem] theorem v7 {hp:Hp}{b top:Nat}{l l2:List (List UInt8)}(h:hp b=AE AH l):hp.A6 (Ck b l top (AE AH l2))=(hp.set b none).set top (AE AH l2):=HL h
@[go_sem] theorem ue {hp:Hp}{b:Nat}{l:List (List UInt8)}{i:Nat}(h:hp b=AE AH l)(hi:i < l.length){x:List UInt8}:BW tt.get hp 9 (Ag (AA b l) (i * 1)) (.string ⟨⟨x⟩⟩)=([(b,AE AH (l.set i x))],True):=A5 (f:=0) C5 h hi rfl (by decide) rfl rfl
@[go_sem] theorem xZ {b:Nat}{l:List (List UInt8)}{hp2:Hp}:CQ tt.get hp2 67 (AA b l)=(.int .i64 (l.length:Int),True):=by cases l with | nil=>unfold CQ AA;simp only [CY,Eb,GM,Xz];rfl | cons a l=>unfold CQ AA;simp only [CY,Eb,GM,Xz];rfl
end
section
theorem DQ {hp:Hp}{v:Value}{l:List (Int)}(h:BJ Ad hp v l){hp':Hp}:CQ tt.get hp' 68 v=(.int .i64 (l.length:Int),True):=h.KL Cq
theorem Cg {hp:Hp}{v:Value}{l:List (Int)}(h:BJ Ad hp v l){k:IntKind}{n:Int}(h0:0≤n)(h1:n < l.length):Ak tt.get 68 v (.int k n)=(Ag v (n.toNat * 1),True):=h.idx Cq Bk rfl h0 h1
theorem DD {hp:Hp}{v:Value}{l:List (Int)}(h:BJ Ad hp v l){i:Nat}(hi:i < l.length):BA tt.get hp 3 (Ag v (i * 1))=(.int .i64 (at' l i),True):=h.cell (f:=0) Bk rfl hi (by decide)
theorem EB {hp:Hp}{v:Value}{l:List (Int)}(h:BJ Ad hp v l){k:IntKind}{n:Int}(h0:0≤n)(h1:n≤l.length):Bv tt.get hp 68 v none (some (.int k n))=(K8 1 v 0 n.toNat,True):=h.ZI Cq Bk h0 h1
theorem ED {hp:Hp}{v:Value}{l:List (Int)}(h:BJ Ad hp v l){k:IntKind}{n:Int}(h0:0≤n)(h1:n≤l.length):Bv tt.get hp 68 v (some (.int k n)) none=(G8 1 v n.toNat,True):=h.Y6 Cq Bk rfl h0 h1
@[go_sem] theorem ACC {hp:Hp}{x:Value}{b top:Nat}{l:List (Int)}(h:hp b=AE Ad l)(hx:G6 Ad hp x)(hn:l.length+(Ad.rd hp x).length≤16777216):AR tt.get hp top [68,68] (AA b l) x=some (AA top (l ++ Ad.rd hp x),Ck b l top (AE Ad (l ++ Ad.rd hp x)),top+1):=Cz Cq JM rfl Bk rfl rfl h hx hn
@[go_sem] theorem AAC {hp:Hp}{x:Value}{top:Nat}(hx:G6 Ad hp x)(hn:(Ad.rd hp x).length≤16777216):AR tt.get hp top [68,68] (.slice none 0 0) x=some (AA top (Ad.rd hp x), [(top,AE Ad (Ad.rd hp x))],top+1):=C0 Cq JM rfl Bk rfl rfl hx hn
@[go_sem] theorem TP {hp:Hp}{b top k:Nat}{l:List (Int)}(h:hp b=AE Ad l)(hk:hp k=some (.cells true 1 (cellsOf (hp k))))(hc:Ad.enc (Ad.dec (cellsOf (hp k)))=cellsOf (hp k))(hn:DX (l.length+1) NQ.bytes=true):AR tt.get hp top [68,68] (AA b l) (.slice (some ⟨k,0,none⟩) 1 1)=some (AA top (l ++ [Ad.dec (cellsOf (hp k))]),Ck b l top (AE Ad (l ++ [Ad.dec (cellsOf (hp k))])),top+1):=Em Cq JM rfl Bk rfl rfl h hk hc hn
@[go_sem] theorem AA1 {hp:Hp}{x:Value}{top:Nat}(hx:G6 Ad hp x)(hn:DX (Ad.rd hp x).length NQ.bytes=true):AR tt.get hp top [68,68] (.slice none 0 0) x=some (AA top (Ad.rd hp x), [(top,AE Ad (Ad.rd hp x))],top+1):=Cd Cq JM rfl Bk rfl rfl hx hn
@[go_sem] theorem ABI {hp:Hp}{top k:Nat}(hk:hp k=some (.cells true 1 (cellsOf (hp k))))(hc:Ad.enc (Ad.dec (cellsOf (hp k)))=cellsOf (hp k)):AR tt.get hp top [68,68] (.slice none 0 0) (.slice (some ⟨k,0,none⟩) 1 1)=some (AA top [Ad.dec (cellsOf (hp k))], [(top,AE Ad [Ad.dec (cellsOf (hp k))])],top+1):=Ce Cq JM rfl Bk rfl rfl hk hc
@[go_sem] theorem ACB {hp:Hp}{b top:Nat}{l l2:List (Int)}(h:hp b=AE Ad l):hp.A6 (Ck b l top (AE Ad l2))=(hp.set b none).set top (AE Ad l2):=HL h
@[go_sem] theorem AB5 {hp:Hp}{b:Nat}{l:List (Int)}{i:Nat}(h:hp b=AE Ad l)(hi:i < l.length){x:Int}:BW tt.get hp 3 (Ag (AA b l) (i * 1)) (.int .i64 (x))=([(b,AE Ad (l.set i x))],True):=A5 (f:=0) Bk h hi rfl (by decide) rfl rfl
@[go_sem] theorem ABu {b:Nat}{l:List (Int)}{hp2:Hp}:CQ tt.get hp2 68 (AA b l)=(.int .i64 (l.length:Int),True):=by cases l with | nil=>unfold CQ AA;simp only [Cq,Eb,JM,VI];rfl | cons a l=>unfold CQ AA;simp only [Cq,Eb,JM,VI];rfl
@[go_sem] theorem yy {hp:Hp}{b top k:Nat}{l:List (Int)}(h:hp b=AE Ad l)(hk:hp k=some (.cells true 1 (cellsOf (hp k))))(hc:Ad.enc (Ad.dec (cellsOf (hp k)))=cellsOf (hp k))(hn:l.length < 16777216):AR tt.get hp top [68,68] (AA b l) (.slice (some ⟨k,0,none⟩) 1 1)=some (AA top (l ++ [Ad.dec (cellsOf (hp k))]),Ck b l top (AE Ad (l ++ [Ad.dec (cellsOf (hp k))])),top+1):=N9 Cq JM rfl Bk rfl rfl h hk hc hn
end
section
@[go_sem] theorem yH {hp:Hp}{x:Value}{b top:Nat}{l:List (Int)}(h:hp b=AE CL l)(hx:G6 CL hp x)(hn:l.length+(CL.rd hp x).length≤16777216):AR tt.get hp top [69,69] (AA b l) x=some (AA top (l ++ CL.rd hp x),Ck b l top (AE CL (l ++ CL.rd hp x)),top+1):=Cz Gd FA rfl EC rfl rfl h hx hn
@[go_sem] theorem vm {hp:Hp}{x:Value}{top:Nat}(hx:G6 CL hp x)(hn:(CL.rd hp x).length≤16777216):AR tt.get hp top [69,69] (.slice none 0 0) x=some (AA top (CL.rd hp x), [(top,AE CL (CL.rd hp x))],top+1):=C0 Gd FA rfl EC rfl rfl hx hn
@[go_sem] theorem wZ {hp:Hp}{x:Value}{top:Nat}(hx:G6 CL hp x)(hn:DX (CL.rd hp x).length uM.bytes=true):AR tt.get hp top [69,69] (.slice none 0 0) x=some (AA top (CL.rd hp x), [(top,AE CL (CL.rd hp x))],top+1):=Cd Gd FA rfl EC rfl rfl hx hn
@[go_sem] theorem v8 {hp:Hp}{top k:Nat}(hk:hp k=some (.cells true 1 (cellsOf (hp k))))(hc:CL.enc (CL.dec (cellsOf (hp k)))=cellsOf (hp k)):AR tt.get hp top [69,69] (.slice none 0 0) (.slice (some ⟨k,0,none⟩) 1 1)=some (AA top [CL.dec (cellsOf (hp k))], [(top,AE CL [CL.dec (cellsOf (hp k))])],top+1):=Ce Gd FA rfl EC rfl rfl hk hc
@[go_sem] theorem xz {hp:Hp}{b:Nat}{l:List (Int)}{i:Nat}(h:hp b=AE CL l)(hi:i < l.length){x:Int}:BW tt.get hp 5 (Ag (AA b l) (i * 1)) (.int .u8 (x))=([(b,AE CL (l.set i x))],True):=A5 (f:=0) EC h hi rfl (by decide) rfl rfl
@[go_sem] theorem yF {b:Nat}{l:List (Int)}{hp2:Hp}:CQ tt.get hp2 69 (AA b l)=(.int .i64 (l.length:Int),True):=by cases l with | nil=>unfold CQ AA;simp only [Gd,Eb,FA,Ud];rfl | cons a l=>unfold CQ AA;simp only [Gd,Eb,FA,Ud];rfl
end
section
@[go_sem] theorem AAa {hp:Hp}{x:Value}{b top:Nat}{l:List (Ds)}(h:hp b=AE Bh l)(hx:G6 Bh hp x)(hn:l.length+(Bh.rd hp x).length≤16777216):AR tt.get hp top [183,183] (AA b l) x=some (AA top (l ++ Bh.rd hp x),Ck b l top (AE Bh (l ++ Bh.rd hp x)),top+1):=Cz Kf K7 rfl Pj rfl rfl h hx hn
@[go_sem] theorem yV {hp:Hp}{x:Value}{top:Nat}(hx:G6 Bh hp x)(hn:(Bh.rd hp x).length≤16777216):AR tt.get hp top [183,183] (.slice none 0 0) x=some (AA top (Bh.rd hp x), [(top,AE Bh (Bh.rd hp x))],top+1):=C0 Kf K7 rfl Pj rfl rfl hx hn
@[go_sem] theorem yX {hp:Hp}{x:Value}{top:Nat}(hx:G6 Bh hp x)(hn:DX (Bh.rd hp x).length T4.bytes=true):AR tt.get hp top [183,183] (.slice none 0 0) x=some (AA top (Bh.rd hp x), [(top,AE Bh (Bh.rd hp x))],top+1):=Cd Kf K7 rfl Pj rfl rfl hx hn
@[go_sem] theorem xr {hp:Hp}{top k:Nat}(hk:hp k=some (.cells true 3 (cellsOf (hp k))))(hc:Bh.enc (Bh.dec (cellsOf (hp k)))=cellsOf (hp k)):AR tt.get hp top [183,183] (.slice none 0 0) (.slice (some ⟨k,0,none⟩) 1 1)=some (AA top [Bh.dec (cellsOf (hp k))], [(top,AE Bh [Bh.dec (cellsOf (hp k))])],top+1):=Ce Kf K7 rfl Pj rfl rfl hk hc
@[go_sem] theorem zV {hp:Hp}{b top:Nat}{l l2:List (Ds)}(h:hp b=AE Bh l):hp.A6 (Ck b l top (AE Bh l2))=(hp.set b none).set top (AE Bh l2):=HL h
@[go_sem] theorem zI {hp:Hp}{b:Nat}{l:List (Ds)}{i:Nat}(h:hp b=AE Bh l)(hi:i < l.length){a0:Int}{a1:Int}{a2:Int}:BW tt.get hp 233 (Ag (AA b l) (i * 3)) (.agg ⟨[.int .i64 (a0), .int .i64 (a1), .int .i64 (a2)]⟩)=([(b,AE Bh (l.set i ⟨a0,a1,a2⟩))],True):=GH (E:=Bh) (cs:=Bh.enc ⟨a0,a1,a2⟩) Pj rfl h hi rfl rfl
@[go_sem] theorem uu {hp:Hp}{b:Nat}{l:List (Ds)}{i:Nat}(h:hp b=AE Bh l)(hi:i < l.length){x:Int}:BW tt.get hp 3 (Ag (AA b l) (i * 3)) (.int .i64 (x))=([(b,AE Bh (l.set i {at' l i with C9:=x}))],True):=A5 (f:=0) Bk h hi rfl (by decide) rfl rfl
@[go_sem] theorem wj {hp:Hp}{b:Nat}{l:List (Ds)}{i:Nat}(h:hp b=AE Bh l)(hi:i < l.length){x:Int}:BW tt.get hp 3 (Ag (AA b l) (i * 3+1)) (.int .i64 (x))=([(b,AE Bh (l.set i {at' l i with To:=x}))],True):=A5 (f:=1) Bk h hi rfl (by decide) rfl rfl
@[go_sem] theorem uf {hp:Hp}{b:Nat}{l:List (Ds)}{i:Nat}(h:hp b=AE Bh l)(hi:i < l.length){x:Int}:BW tt.get hp 3 (Ag (AA b l) (i * 3+2)) (.int .i64 (x))=([(b,AE Bh (l.set i {at' l i with Er:=x}))],True):=A5 (f:=2) Bk h hi rfl (by decide) rfl rfl
@[go_sem] theorem AAp {b:Nat}{l:List (Ds)}{hp2:Hp}:CQ tt.get hp2 183 (AA b l)=(.int .i64 (l.length:Int),True):=by cases l with | nil=>unfold CQ AA;simp only [Kf,Eb,K7,R1];rfl | cons a l=>unfold CQ AA;simp only [Kf,Eb,K7,R1];rfl
@[go_sem] theorem xq {hp:Hp}{b top k:Nat}{l:List (Ds)}(h:hp b=AE Bh l)(hk:hp k=some (.cells true 3 (cellsOf (hp k))))(hc:Bh.enc (Bh.dec (cellsOf (hp k)))=cellsOf (hp k))(hn:l.length < 16777216):AR tt.get hp top [183,183] (AA b l) (.slice (some ⟨k,0,none⟩) 1 1)=some (AA top (l ++ [Bh.dec (cellsOf (hp k))]),Ck b l top (AE Bh (l ++ [Bh.dec (cellsOf (hp k))])),top+1):=N9 Kf K7 rfl Pj rfl rfl h hk hc hn
end
section
@[go_sem] theorem zm {hp:Hp}{x:Value}{b top:Nat}{l:List (Ix)}(h:hp b=AE CO l)(hx:G6 CO hp x)(hn:l.length+(CO.rd hp x).length≤16777216):AR tt.get hp top [228,228] (AA b l) x=some (AA top (l ++ CO.rd hp x),Ck b l top (AE CO (l ++ CO.rd hp x)),top+1):=Cz MN MQ rfl SW rfl rfl h hx hn
@[go_sem] theorem xw {hp:Hp}{x:Value}{top:Nat}(hx:G6 CO hp x)(hn:(CO.rd hp x).length≤16777216):AR tt.get hp top [228,228] (.slice none 0 0) x=some (AA top (CO.rd hp x), [(top,AE CO (CO.rd hp x))],top+1):=C0 MN MQ rfl SW rfl rfl hx hn
@[go_sem] theorem x9 {hp:Hp}{x:Value}{top:Nat}(hx:G6 CO hp x)(hn:DX (CO.rd hp x).length T8.bytes=true):AR tt.get hp top [228,228] (.slice none 0 0) x=some (AA top (CO.rd hp x), [(top,AE CO (CO.rd hp x))],top+1):=Cd MN MQ rfl SW rfl rfl hx hn
@[go_sem] theorem yW {hp:Hp}{top k:Nat}(hk:hp k=some (.cells true 5 (cellsOf (hp k))))(hc:CO.enc (CO.dec (cellsOf (hp k)))=cellsOf (hp k)):AR tt.get hp top [228,228] (.slice none 0 0) (.slice (some ⟨k,0,none⟩) 1 1)=some (AA top [CO.dec (cellsOf (hp k))], [(top,AE CO [CO.dec (cellsOf (hp k))])],top+1):=Ce MN MQ rfl SW rfl rfl hk hc
@[go_sem] theorem AAJ {hp:Hp}{b:Nat}{l:List (Ix)}{i:Nat}(h:hp b=AE CO l)(hi:i < l.length){a0:Int}{a1:Int}{a2:Int}{a3:Int}{a4:List UInt8}:BW tt.get hp 282 (Ag (AA b l) (i * 5)) (.agg ⟨[.int .u64 (a0), .int .i64 (a1), .int .i64 (a2), .int .i64 (a3), .string ⟨⟨a4⟩⟩]⟩)=([(b,AE CO (l.set i ⟨a0,a1,a2,a3,a4⟩))],True):=GH (E:=CO) (cs:=CO.enc ⟨a0,a1,a2,a3,a4⟩) SW rfl h hi rfl rfl
@[go_sem] theorem vo {hp:Hp}{b:Nat}{l:List (Ix)}{i:Nat}(h:hp b=AE CO l)(hi:i < l.length){x:Int}:BW tt.get hp 106 (Ag (AA b l) (i * 5)) (.int .u64 (x))=([(b,AE CO (l.set i {at' l i with at_:=x}))],True):=A5 (f:=0) fZ h hi rfl (by decide) rfl rfl
@[go_sem] theorem vQ {hp:Hp}{b:Nat}{l:List (Ix)}{i:Nat}(h:hp b=AE CO l)(hi:i < l.length){x:Int}:BW tt.get hp 3 (Ag (AA b l) (i * 5+1)) (.int .i64 (x))=([(b,AE CO (l.set i {at' l i with M5:=x}))],True):=A5 (f:=1) Bk h hi rfl (by decide) rfl rfl
@[go_sem] theorem AA0 {b:Nat}{l:List (Ix)}{hp2:Hp}:CQ tt.get hp2 228 (AA b l)=(.int .i64 (l.length:Int),True):=by cases l with | nil=>unfold CQ AA;simp only [MN,Eb,MQ,RJ];rfl | cons a l=>unfold CQ AA;simp only [MN,Eb,MQ,RJ];rfl
end
def UN:KT tt.get 3 Int:=⟨fun a=> .int .i64 (a),fun a b=>by simp [LC,Bk,NQ,MZ],fun a=>by simp [La,Bk,NQ],fun a=>rfl,fun a=>by simp [Instr.sameBits],fun ρ a=>rfl⟩
@[go_sem] theorem pt {hp:Hp}{b:Nat}{k:Value}{ok:Bool}:H7 tt.get hp 136 (.map (some b)) k ok=(match hp b with | some (.map es _)=>Ka tt.get 3 NQ.zero k es ok | _=>(undef,False)):=Pu LX Bk Bk
@[go_sem] theorem pW {hp:Hp}{b:Nat}{k x:Value}:Fb tt.get hp 136 (.map (some b)) k x=(match hp b with | some (.map es Cc)=>HU tt.get 3 b k x es Cc | _=>none):=LU LX Bk
def ET (a:Int):Value:= .int .i64 (a)
abbrev Hl:=List (Int×Int×Nat)
def EO (m:Hl):List MapEntry:=m.map (M3 UN.ek ET)
@[go_sem] theorem nt {z:Value}{m:Hl}{a0:Int}:Ka tt.get 3 z (.int .i64 (a0)) (EO m) false=(((LP m a0).map ET).getD z,True):=mS UN ET m a0
@[go_sem] theorem nq {x:Option (Int)}:(x.map ET).getD (.int .i64 (0))=ET (x.getD default):=by cases x <;> rfl
theorem VX {ρ:Nat→Nat}{m:Hl}:(EO m).map (Oc ρ)=EO m:=SX (fun _=>rfl) (fun _=>rfl) m
@[go_sem] theorem pV {b Cc:Nat}{m:Hl}{a0:Int}{b0:Int}:HU tt.get 3 b (.int .i64 (a0)) (.int .i64 (b0)) (EO m) Cc=some [(b,some (.map (EO (NW m a0 b0 Cc)) (WS m a0 Cc)))]:=Pb UN ET b m Cc a0 b0
def VC:KT tt.get 202 Iw:=⟨fun a=> .agg ⟨VT.enc a⟩,fun a b=>by
  obtain ⟨a0,a1⟩:=a;obtain ⟨b0,b1⟩:=b
  simp only [LC,Zo,RN,eqFields,EJ,NQ,Bk,NQ,Bk,JW,QX,MZ,List.drop_zero,List.drop_succ_cons,Iw.mk.injEq,if_true]
  by_cases h0:a0=b0 <;> by_cases h1:a1=b1 <;> simp [h0,h1],fun a=>by
  simp [La,HI,EJ,Zo,RN,NQ,Bk,NQ,Bk,JW,QX],fun a=>by simp [plain,QX],fun a=>Pq (fun v h=>by simp [QX] at h;rcases h with rfl | rfl <;> simp [Instr.sameBits]),fun ρ a=>rfl⟩
@[go_sem] theorem na {hp:Hp}{b:Nat}{k x:Value}:Fb tt.get hp 192 (.map (some b)) k x=(match hp b with | some (.map es Cc)=>HU tt.get 202 b k x es Cc | _=>none):=LU OY Zo
def Fx (a:Int):Value:= .int .i64 (a)
abbrev EW:=List (Iw×Int×Nat)
def En (m:EW):List MapEntry:=m.map (M3 VC.ek Fx)
@[go_sem] theorem nQ {x:Option (Int)}:(x.map Fx).getD (.int .i64 (0))=Fx (x.getD default):=by cases x <;> rfl
theorem Sn {ρ:Nat→Nat}{m:EW}:(En m).map (Oc ρ)=En m:=SX (fun _=>rfl) (fun _=>rfl) m
@[go_sem] theorem nU {b Cc:Nat}{m:EW}{a0 a1:Int}{b0:Int}:HU tt.get 202 b (.agg ⟨[.int .i64 (a0), .int .i64 (a1)]⟩) (.int .i64 (b0)) (En m) Cc=some [(b,some (.map (En (NW m ⟨a0,a1⟩ b0 Cc)) (WS m ⟨a0,a1⟩ Cc)))]:=Pb VC Fx b m Cc ⟨a0,a1⟩ b0
def Gw (a:Bool):Value:= .bool (a)
abbrev JO:=List (Iw×Bool×Nat)
def Gh (m:JO):List MapEntry:=m.map (M3 VC.ek Gw)
@[go_sem] theorem j9 {x:Option (Bool)}:(x.map Gw).getD (.bool (false))=Gw (x.getD default):=by cases x <;> rfl
theorem R7 {ρ:Nat→Nat}{m:JO}:(Gh m).map (Oc ρ)=Gh m:=SX (fun _=>rfl) (fun _=>rfl) m
def HP (a:Bool):Value:= .bool (a)
abbrev Ky:=List (Int×Bool×Nat)
def HT (m:Ky):List MapEntry:=m.map (M3 UN.ek HP)
@[go_sem] theorem nN {x:Option (Bool)}:(x.map HP).getD (.bool (false))=HP (x.getD default):=by cases x <;> rfl
theorem Su {ρ:Nat→Nat}{m:Ky}:(HT m).map (Oc ρ)=HT m:=SX (fun _=>rfl) (fun _=>rfl) m
def NM:KT tt.get 248 Ei:=⟨fun a=> .agg ⟨MR.enc a⟩,fun a b=>by
  obtain ⟨a0,a1,a2⟩:=a;obtain ⟨b0,b1,b2⟩:=b
  simp only [LC,MM,Q0,eqFields,EJ,NQ,Bk,NQ,Bk,NQ,Bk,JW,KN,MZ,List.drop_zero,List.drop_succ_cons,Ei.mk.injEq,if_true]
  by_cases h0:a0=b0 <;> by_cases h1:a1=b1 <;> by_cases h2:a2=b2 <;> simp [h0,h1,h2],fun a=>by
  simp [La,HI,EJ,MM,Q0,NQ,Bk,NQ,Bk,NQ,Bk,JW,KN],fun a=>by simp [plain,KN],fun a=>Pq (fun v h=>by simp [KN] at h;rcases h with rfl | rfl | rfl <;> simp [Instr.sameBits]),fun ρ a=>rfl⟩
@[go_sem] theorem ax {hp:Hp}{b:Nat}{k:Value}{ok:Bool}:H7 tt.get hp 223 (.map (some b)) k ok=(match hp b with | some (.map es _)=>Ka tt.get 248 Wy.zero k es ok | _=>(undef,False)):=Pu HF MM IV
@[go_sem] theorem af {hp:Hp}{b:Nat}{k x:Value}:Fb tt.get hp 223 (.map (some b)) k x=(match hp b with | some (.map es Cc)=>HU tt.get 248 b k x es Cc | _=>none):=LU HF MM
def Ch (a:BX):Value:= .agg ⟨AJ.enc a⟩
abbrev EF:=List (Ei×BX×Nat)
def B1 (m:EF):List MapEntry:=m.map (M3 NM.ek Ch)
@[go_sem] theorem bh {z:Value}{m:EF}{a0 a1 a2:Int}:Ka tt.get 248 z (.agg ⟨[.int .i64 (a0), .int .i64 (a1), .int .i64 (a2)]⟩) (B1 m) true=(.tuple ⟨[((LP m ⟨a0,a1,a2⟩).map Ch).getD z, .bool (LP m ⟨a0,a1,a2⟩).isSome]⟩,True):=YM NM Ch m ⟨a0,a1,a2⟩
@[go_sem] theorem bn {x:Option (BX)}:(x.map Ch).getD (.agg ⟨[(.int .i64 (0)),(.int .i64 (0)),(.int .i64 (0)),(.int .i64 (0)),(.int .i64 (0))]⟩)=Ch (x.getD default):=by cases x <;> rfl
theorem N5 {ρ:Nat→Nat}{m:EF}:(B1 m).map (Oc ρ)=B1 m:=SX (fun _=>rfl) (fun _=>rfl) m
@[go_sem] theorem aj {b Cc:Nat}{m:EF}{a0 a1 a2:Int}{b0 b1 b2 b3 b4:Int}:HU tt.get 248 b (.agg ⟨[.int .i64 (a0), .int .i64 (a1), .int .i64 (a2)]⟩) (.agg ⟨[.int .i64 (b0), .int .i64 (b1), .int .i64 (b2), .int .i64 (b3), .int .i64 (b4)]⟩) (B1 m) Cc=some [(b,some (.map (B1 (NW m ⟨a0,a1,a2⟩ ⟨b0,b1,b2,b3,b4⟩ Cc)) (WS m ⟨a0,a1,a2⟩ Cc)))]:=Pb NM Ch b m Cc ⟨a0,a1,a2⟩ ⟨b0,b1,b2,b3,b4⟩
theorem OO {s d:TypeId}{k1 k2:IntKind}{hp:Hp}{x:Value}(h1:kindOf tt.get s=some (.int k1))(h2:kindOf tt.get d=some (.int k2)):DJ tt.get hp s d x=(.int k2 (Ar k2 (intOf x)),Sf x):=by
 unfold DJ
 simp only [h1,h2,Rx]
@[go_sem] theorem ADL {hp:Hp}{x:Value}:DJ tt.get hp 3 5 x=(.int .u8 (Ar .u8 (intOf x)),Sf x):=OO T5 Nk
@[go_sem] theorem ACV {hp:Hp}{x:Value}:DJ tt.get hp 3 41 x=(.int .u32 (Ar .u32 (intOf x)),Sf x):=OO T5 RO
@[go_sem] theorem zG {hp:Hp}{x:Value}:DJ tt.get hp 3 106 x=(.int .u64 (Ar .u64 (intOf x)),Sf x):=OO T5 Xc
@[go_sem] theorem ADU {hp:Hp}{x:Value}:DJ tt.get hp 5 3 x=(.int .i64 (Ar .i64 (intOf x)),Sf x):=OO Nk T5
@[go_sem] theorem ACI {hp:Hp}{x:Value}:DJ tt.get hp 45 3 x=(.int .i64 (Ar .i64 (intOf x)),Sf x):=OO Xj T5
attribute [go_sem_proc] reduceIte reduceCtorEq Nat.reduceAdd Nat.reduceMul Nat.reduceSub Nat.reduceLT Nat.reduceLeDiff Nat.reduceEqDiff Int.reduceEq Int.reduceLT Int.reduceLE Int.reduceNe
attribute [simp] Gk KI cv Av DA jc cp Hx.nil Hx.cons Za Yu fU Aa E0 Dq Al B9.Dd AF AQ B5 CZ Bc.set Bc.NK Bc.refl VX Sn R7 Su N5
attribute [go_sem] ET
attribute [go_sem] Fx
attribute [go_sem] Gw
attribute [go_sem] HP
attribute [go_sem] Ch
end Go.Proofs.YthlhnangbinhoaaGreatDoor.Dm
