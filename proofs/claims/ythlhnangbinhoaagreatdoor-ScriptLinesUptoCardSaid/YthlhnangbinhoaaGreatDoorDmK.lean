/- Ld on the types of this seat; how their data lie in memory. -/
import Derived.Test.YthlhnangbinhoaaGreatDoorDmTab
import Derived.Test.YthlhnangbinhoaaGreatDoorDmH
set_option linter.unusedSimpArgs false
namespace Go.Proofs.YthlhnangbinhoaaGreatDoor.Dm
open Go.Dm
attribute [go_sem] ti2 Nb zv xe rK n9 Yw qy Zg Y1 Zc fp X3 mg cn Vv ZY Uj Y3 cM lE kM W2 R8 T9 sB kY Yj YC XC pN X2 Xj bg X1 aS aC Zw Zp Sx aN Qz Zq bH bd aw Zk aR Qn Xc Xh SO Sz SP Wl bj W7 Qu W9 W6 Xn aA aJ WB Ta Xr Qc XU TZ bm Zv QH Z7 aP aY bG bB Zx aZ bc S7
@[go_sem] theorem BX:tt.get 3=some Nb:=by kernel_rfl
@[go_sem] theorem AEc:B0 tt.get 3=0:=by kernel_rfl
@[go_sem] theorem TB:kindOf tt.get 3=some (.int .i64):=by kernel_rfl
@[go_sem] theorem AEy {op:BinOp}{xo yo:Operand}{x y:Value}:Df tt.get op 3 xo yo x y=MB op .i64 x y:=K7 TB
@[go_sem] theorem kK:tt.get 4=some zv:=by kernel_rfl
@[go_sem] theorem xQ:kindOf tt.get 4=some (.bool):=by kernel_rfl
@[go_sem] theorem ADx {op:BinOp}{xo yo:Operand}{x y:Value}:Df tt.get op 4 xo yo x y=Ri op x y:=YW xQ
@[go_sem] theorem F6:tt.get 5=some xe:=by kernel_rfl
@[go_sem] theorem JT:kindOf tt.get 5=some (.int .u8):=by kernel_rfl
@[go_sem] theorem ADS {op:BinOp}{xo yo:Operand}{x y:Value}:Df tt.get op 5 xo yo x y=MB op .u8 x y:=K7 JT
@[go_sem] theorem C4:tt.get 9=some rK:=by kernel_rfl
@[go_sem] theorem HD:kindOf tt.get 9=some (.string):=by kernel_rfl
@[go_sem] theorem ABh {op:BinOp}{xo yo:Operand}{x y:Value}:Df tt.get op 9 xo yo x y=Rd op x y:=dZ HD
@[go_sem] theorem tA:tt.get 20=some Yw:=by kernel_rfl
@[go_sem] theorem AEq {op:BinOp}{xo yo:Operand}{x y:Value}:Df tt.get op 20 xo yo x y=Lq (DX tt.get op 20 xo yo x y):=LG (by kernel_rfl)
@[go_sem] theorem JH:tt.get 22=some Zg:=by kernel_rfl
@[go_sem] theorem FN:kindOf tt.get 22=some (.slice 79):=by kernel_rfl
@[go_sem] theorem JM:tt.get 23=some Y1:=by kernel_rfl
@[go_sem] theorem FT:kindOf tt.get 23=some (.slice 81):=by kernel_rfl
@[go_sem] theorem JS:tt.get 24=some Zc:=by kernel_rfl
@[go_sem] theorem FM:kindOf tt.get 24=some (.slice 83):=by kernel_rfl
@[go_sem] theorem ACr:tt.get 26=some fp:=by kernel_rfl
@[go_sem] theorem vI {b o:Nat}:AF tt.get 26 (.pointer (some ⟨b,o,none⟩)) 0=(.pointer (some ⟨b,o,none⟩),True):=by unfold AF;rw [show AX tt.get 26 (.pointer (some ⟨b,o,none⟩)) 0=some (.pointer (some ⟨b,o,none⟩)) from by kernel_rfl]
@[go_sem] theorem vP {b o:Nat}:AF tt.get 26 (.pointer (some ⟨b,o,none⟩)) 1=(.pointer (some ⟨b,o+1,none⟩),True):=by unfold AF;rw [show AX tt.get 26 (.pointer (some ⟨b,o,none⟩)) 1=some (.pointer (some ⟨b,o+1,none⟩)) from by kernel_rfl]
@[go_sem] theorem uk {b o:Nat}:AF tt.get 26 (.pointer (some ⟨b,o,none⟩)) 2=(.pointer (some ⟨b,o+2,none⟩),True):=by unfold AF;rw [show AX tt.get 26 (.pointer (some ⟨b,o,none⟩)) 2=some (.pointer (some ⟨b,o+2,none⟩)) from by kernel_rfl]
@[go_sem] theorem xr {b o:Nat}:AF tt.get 26 (.pointer (some ⟨b,o,none⟩)) 3=(.pointer (some ⟨b,o+3,none⟩),True):=by unfold AF;rw [show AX tt.get 26 (.pointer (some ⟨b,o,none⟩)) 3=some (.pointer (some ⟨b,o+3,none⟩)) from by kernel_rfl]
@[go_sem] theorem uV {b o:Nat}:AF tt.get 26 (.pointer (some ⟨b,o,none⟩)) 4=(.pointer (some ⟨b,o+4,none⟩),True):=by unfold AF;rw [show AX tt.get 26 (.pointer (some ⟨b,o,none⟩)) 4=some (.pointer (some ⟨b,o+4,none⟩)) from by kernel_rfl]
@[go_sem] theorem xR {b o:Nat}:AF tt.get 26 (.pointer (some ⟨b,o,none⟩)) 5=(.pointer (some ⟨b,o+5,none⟩),True):=by unfold AF;rw [show AX tt.get 26 (.pointer (some ⟨b,o,none⟩)) 5=some (.pointer (some ⟨b,o+5,none⟩)) from by kernel_rfl]
@[go_sem] theorem uG {b o:Nat}:AF tt.get 26 (.pointer (some ⟨b,o,none⟩)) 6=(.pointer (some ⟨b,o+6,none⟩),True):=by unfold AF;rw [show AX tt.get 26 (.pointer (some ⟨b,o,none⟩)) 6=some (.pointer (some ⟨b,o+6,none⟩)) from by kernel_rfl]
@[go_sem] theorem PE:tt.get 27=some X3:=by kernel_rfl
@[go_sem] theorem Jh:kindOf tt.get 27=some (.slice 43):=by kernel_rfl
@[go_sem] theorem AAO:tt.get 29=some mg:=by kernel_rfl
@[go_sem] theorem yp:B0 tt.get 29=0:=by kernel_rfl
@[go_sem] theorem tb {b o:Nat}:AF tt.get 29 (.pointer (some ⟨b,o,none⟩)) 0=(.pointer (some ⟨b,o,none⟩),True):=by unfold AF;rw [show AX tt.get 29 (.pointer (some ⟨b,o,none⟩)) 0=some (.pointer (some ⟨b,o,none⟩)) from by kernel_rfl]
@[go_sem] theorem s9 {b o:Nat}:AF tt.get 29 (.pointer (some ⟨b,o,none⟩)) 1=(.pointer (some ⟨b,o+7,none⟩),True):=by unfold AF;rw [show AX tt.get 29 (.pointer (some ⟨b,o,none⟩)) 1=some (.pointer (some ⟨b,o+7,none⟩)) from by kernel_rfl]
@[go_sem] theorem pL:tt.get 30=some cn:=by kernel_rfl
@[go_sem] theorem pW:kindOf tt.get 30=some (.int .i64):=by kernel_rfl
@[go_sem] theorem ADG {op:BinOp}{xo yo:Operand}{x y:Value}:Df tt.get op 30 xo yo x y=MB op .i64 x y:=K7 pW
@[go_sem] theorem P4:tt.get 38=some Vv:=by kernel_rfl
@[go_sem] theorem ACG:B0 tt.get 38=0:=by kernel_rfl
@[go_sem] theorem ACs {op:BinOp}{xo yo:Operand}{x y:Value}:Df tt.get op 38 xo yo x y=Lq (DX tt.get op 38 xo yo x y):=LG (by kernel_rfl)
@[go_sem] theorem NZ:tt.get 41=some ZY:=by kernel_rfl
@[go_sem] theorem Nd:kindOf tt.get 41=some (.int .u32):=by kernel_rfl
@[go_sem] theorem ABW {op:BinOp}{xo yo:Operand}{x y:Value}:Df tt.get op 41 xo yo x y=MB op .u32 x y:=K7 Nd
@[go_sem] theorem OE:tt.get 43=some Uj:=by kernel_rfl
@[go_sem] theorem AEn:B0 tt.get 43=0:=by kernel_rfl
@[go_sem] theorem AC0 {b o:Nat}:AF tt.get 43 (.pointer (some ⟨b,o,none⟩)) 0=(.pointer (some ⟨b,o,none⟩),True):=by unfold AF;rw [show AX tt.get 43 (.pointer (some ⟨b,o,none⟩)) 0=some (.pointer (some ⟨b,o,none⟩)) from by kernel_rfl]
@[go_sem] theorem ACt {b o:Nat}:AF tt.get 43 (.pointer (some ⟨b,o,none⟩)) 1=(.pointer (some ⟨b,o+1,none⟩),True):=by unfold AF;rw [show AX tt.get 43 (.pointer (some ⟨b,o,none⟩)) 1=some (.pointer (some ⟨b,o+1,none⟩)) from by kernel_rfl]
@[go_sem] theorem ADA {b o:Nat}:AF tt.get 43 (.pointer (some ⟨b,o,none⟩)) 2=(.pointer (some ⟨b,o+2,none⟩),True):=by unfold AF;rw [show AX tt.get 43 (.pointer (some ⟨b,o,none⟩)) 2=some (.pointer (some ⟨b,o+2,none⟩)) from by kernel_rfl]
@[go_sem] theorem ADc {b o:Nat}:AF tt.get 43 (.pointer (some ⟨b,o,none⟩)) 3=(.pointer (some ⟨b,o+3,none⟩),True):=by unfold AF;rw [show AX tt.get 43 (.pointer (some ⟨b,o,none⟩)) 3=some (.pointer (some ⟨b,o+3,none⟩)) from by kernel_rfl]
@[go_sem] theorem AC4 {b o:Nat}:AF tt.get 43 (.pointer (some ⟨b,o,none⟩)) 4=(.pointer (some ⟨b,o+4,none⟩),True):=by unfold AF;rw [show AX tt.get 43 (.pointer (some ⟨b,o,none⟩)) 4=some (.pointer (some ⟨b,o+4,none⟩)) from by kernel_rfl]
@[go_sem] theorem ADP {b o:Nat}:AF tt.get 43 (.pointer (some ⟨b,o,none⟩)) 5=(.pointer (some ⟨b,o+5,none⟩),True):=by unfold AF;rw [show AX tt.get 43 (.pointer (some ⟨b,o,none⟩)) 5=some (.pointer (some ⟨b,o+5,none⟩)) from by kernel_rfl]
@[go_sem] theorem ADH {b o:Nat}:AF tt.get 43 (.pointer (some ⟨b,o,none⟩)) 6=(.pointer (some ⟨b,o+6,none⟩),True):=by unfold AF;rw [show AX tt.get 43 (.pointer (some ⟨b,o,none⟩)) 6=some (.pointer (some ⟨b,o+6,none⟩)) from by kernel_rfl]
@[go_sem] theorem Mx:tt.get 51=some Y3:=by kernel_rfl
@[go_sem] theorem nU:B0 tt.get 51=0:=by kernel_rfl
@[go_sem] theorem pK {op:BinOp}{xo yo:Operand}{x y:Value}:Df tt.get op 51 xo yo x y=Lq (DX tt.get op 51 xo yo x y):=LG (by kernel_rfl)
@[go_sem] theorem dC {xo yo:Operand}{a:Option Addr}:DX tt.get .neq 51 xo yo (.pointer a) (.pointer none)=some (.bool (!a.isNone)):=by cases a <;> simp [DX,Jt,Mx,Y3]
@[go_sem] theorem R6:tt.get 53=some cM:=by kernel_rfl
@[go_sem] theorem tR:tt.get 55=some lE:=by kernel_rfl
@[go_sem] theorem jU {b o:Nat}:AF tt.get 55 (.pointer (some ⟨b,o,none⟩)) 0=(.pointer (some ⟨b,o,none⟩),True):=by unfold AF;rw [show AX tt.get 55 (.pointer (some ⟨b,o,none⟩)) 0=some (.pointer (some ⟨b,o,none⟩)) from by kernel_rfl]
@[go_sem] theorem jB {b o:Nat}:AF tt.get 55 (.pointer (some ⟨b,o,none⟩)) 1=(.pointer (some ⟨b,o+1,none⟩),True):=by unfold AF;rw [show AX tt.get 55 (.pointer (some ⟨b,o,none⟩)) 1=some (.pointer (some ⟨b,o+1,none⟩)) from by kernel_rfl]
@[go_sem] theorem Tu:tt.get 57=some kM:=by kernel_rfl
@[go_sem] theorem Rw {b o:Nat}:AF tt.get 57 (.pointer (some ⟨b,o,none⟩)) 0=(.pointer (some ⟨b,o,none⟩),True):=by unfold AF;rw [show AX tt.get 57 (.pointer (some ⟨b,o,none⟩)) 0=some (.pointer (some ⟨b,o,none⟩)) from by kernel_rfl]
@[go_sem] theorem Rx {b o:Nat}:AF tt.get 57 (.pointer (some ⟨b,o,none⟩)) 1=(.pointer (some ⟨b,o+1,none⟩),True):=by unfold AF;rw [show AX tt.get 57 (.pointer (some ⟨b,o,none⟩)) 1=some (.pointer (some ⟨b,o+1,none⟩)) from by kernel_rfl]
@[go_sem] theorem FC:tt.get 67=some W2:=by kernel_rfl
@[go_sem] theorem wS:B0 tt.get 67=0:=by kernel_rfl
@[go_sem] theorem DG:kindOf tt.get 67=some (.slice 9):=by kernel_rfl
@[go_sem] theorem HP:tt.get 68=some R8:=by kernel_rfl
@[go_sem] theorem Fs:kindOf tt.get 68=some (.slice 3):=by kernel_rfl
@[go_sem] theorem AEb {op:BinOp}{xo yo:Operand}{x y:Value}:Df tt.get op 68 xo yo x y=Lq (DX tt.get op 68 xo yo x y):=LG (by kernel_rfl)
@[go_sem] theorem vO {xo yo:Operand}{a:Option Addr}{n c:Nat}:DX tt.get .eql 68 xo yo (.slice a n c) (.slice none 0 0)=some (.bool (a.isNone)):=by cases a <;> simp [DX,Jt,HP,R8]
@[go_sem] theorem DW:tt.get 69=some T9:=by kernel_rfl
@[go_sem] theorem DT:kindOf tt.get 69=some (.slice 5):=by kernel_rfl
@[go_sem] theorem yY:tt.get 73=some kY:=by kernel_rfl
def CS:Nat:=Bc * (1+73+4096 * 2)
@[go_sem] theorem wo:B0 tt.get 73=CS:=by kernel_rfl
@[go_sem] theorem q6 {b o:Nat}:AF tt.get 73 (.pointer (some ⟨b,o,none⟩)) 1=(.pointer (some ⟨b,o+1,none⟩),True):=by unfold AF;rw [show AX tt.get 73 (.pointer (some ⟨b,o,none⟩)) 1=some (.pointer (some ⟨b,o+1,none⟩)) from by kernel_rfl]
@[go_sem] theorem H5:tt.get 79=some Yj:=by kernel_rfl
@[go_sem] theorem ADJ:B0 tt.get 79=0:=by kernel_rfl
@[go_sem] theorem yd {b o:Nat}:AF tt.get 79 (.pointer (some ⟨b,o,none⟩)) 0=(.pointer (some ⟨b,o,none⟩),True):=by unfold AF;rw [show AX tt.get 79 (.pointer (some ⟨b,o,none⟩)) 0=some (.pointer (some ⟨b,o,none⟩)) from by kernel_rfl]
@[go_sem] theorem yk {b o:Nat}:AF tt.get 79 (.pointer (some ⟨b,o,none⟩)) 1=(.pointer (some ⟨b,o+1,none⟩),True):=by unfold AF;rw [show AX tt.get 79 (.pointer (some ⟨b,o,none⟩)) 1=some (.pointer (some ⟨b,o+1,none⟩)) from by kernel_rfl]
@[go_sem] theorem yK {b o:Nat}:AF tt.get 79 (.pointer (some ⟨b,o,none⟩)) 2=(.pointer (some ⟨b,o+2,none⟩),True):=by unfold AF;rw [show AX tt.get 79 (.pointer (some ⟨b,o,none⟩)) 2=some (.pointer (some ⟨b,o+2,none⟩)) from by kernel_rfl]
@[go_sem] theorem H4:tt.get 81=some YC:=by kernel_rfl
@[go_sem] theorem ADK:B0 tt.get 81=0:=by kernel_rfl
@[go_sem] theorem yS {b o:Nat}:AF tt.get 81 (.pointer (some ⟨b,o,none⟩)) 0=(.pointer (some ⟨b,o,none⟩),True):=by unfold AF;rw [show AX tt.get 81 (.pointer (some ⟨b,o,none⟩)) 0=some (.pointer (some ⟨b,o,none⟩)) from by kernel_rfl]
@[go_sem] theorem yP {b o:Nat}:AF tt.get 81 (.pointer (some ⟨b,o,none⟩)) 1=(.pointer (some ⟨b,o+1,none⟩),True):=by unfold AF;rw [show AX tt.get 81 (.pointer (some ⟨b,o,none⟩)) 1=some (.pointer (some ⟨b,o+1,none⟩)) from by kernel_rfl]
@[go_sem] theorem yj {b o:Nat}:AF tt.get 81 (.pointer (some ⟨b,o,none⟩)) 2=(.pointer (some ⟨b,o+2,none⟩),True):=by unfold AF;rw [show AX tt.get 81 (.pointer (some ⟨b,o,none⟩)) 2=some (.pointer (some ⟨b,o+2,none⟩)) from by kernel_rfl]
@[go_sem] theorem HJ:tt.get 83=some XC:=by kernel_rfl
@[go_sem] theorem ADk:B0 tt.get 83=0:=by kernel_rfl
@[go_sem] theorem yM {b o:Nat}:AF tt.get 83 (.pointer (some ⟨b,o,none⟩)) 0=(.pointer (some ⟨b,o,none⟩),True):=by unfold AF;rw [show AX tt.get 83 (.pointer (some ⟨b,o,none⟩)) 0=some (.pointer (some ⟨b,o,none⟩)) from by kernel_rfl]
@[go_sem] theorem yW {b o:Nat}:AF tt.get 83 (.pointer (some ⟨b,o,none⟩)) 1=(.pointer (some ⟨b,o+1,none⟩),True):=by unfold AF;rw [show AX tt.get 83 (.pointer (some ⟨b,o,none⟩)) 1=some (.pointer (some ⟨b,o+1,none⟩)) from by kernel_rfl]
@[go_sem] theorem yx {b o:Nat}:AF tt.get 83 (.pointer (some ⟨b,o,none⟩)) 2=(.pointer (some ⟨b,o+2,none⟩),True):=by unfold AF;rw [show AX tt.get 83 (.pointer (some ⟨b,o,none⟩)) 2=some (.pointer (some ⟨b,o+2,none⟩)) from by kernel_rfl]
@[go_sem] theorem yu {b o:Nat}:AF tt.get 83 (.pointer (some ⟨b,o,none⟩)) 3=(.pointer (some ⟨b,o+3,none⟩),True):=by unfold AF;rw [show AX tt.get 83 (.pointer (some ⟨b,o,none⟩)) 3=some (.pointer (some ⟨b,o+3,none⟩)) from by kernel_rfl]
@[go_sem] theorem yq {b o:Nat}:AF tt.get 83 (.pointer (some ⟨b,o,none⟩)) 4=(.pointer (some ⟨b,o+4,none⟩),True):=by unfold AF;rw [show AX tt.get 83 (.pointer (some ⟨b,o,none⟩)) 4=some (.pointer (some ⟨b,o+4,none⟩)) from by kernel_rfl]
@[go_sem] theorem AEm:tt.get 100=some X2:=by kernel_rfl
@[go_sem] theorem AEM:B0 tt.get 100=0:=by kernel_rfl
@[go_sem] theorem ACE {b o:Nat}:AF tt.get 100 (.pointer (some ⟨b,o,none⟩)) 0=(.pointer (some ⟨b,o,none⟩),True):=by unfold AF;rw [show AX tt.get 100 (.pointer (some ⟨b,o,none⟩)) 0=some (.pointer (some ⟨b,o,none⟩)) from by kernel_rfl]
@[go_sem] theorem ABm {b o:Nat}:AF tt.get 100 (.pointer (some ⟨b,o,none⟩)) 1=(.pointer (some ⟨b,o+1,none⟩),True):=by unfold AF;rw [show AX tt.get 100 (.pointer (some ⟨b,o,none⟩)) 1=some (.pointer (some ⟨b,o+1,none⟩)) from by kernel_rfl]
@[go_sem] theorem zN {b o:Nat}:AF tt.get 100 (.pointer (some ⟨b,o,none⟩)) 2=(.pointer (some ⟨b,o+2,none⟩),True):=by unfold AF;rw [show AX tt.get 100 (.pointer (some ⟨b,o,none⟩)) 2=some (.pointer (some ⟨b,o+2,none⟩)) from by kernel_rfl]
@[go_sem] theorem AA9:tt.get 101=some Xj:=by kernel_rfl
@[go_sem] theorem yt:B0 tt.get 101=0:=by kernel_rfl
@[go_sem] theorem ACe:kindOf tt.get 101=some (.array 12 100):=by kernel_rfl
@[go_sem] theorem lC:tt.get 106=some X1:=by kernel_rfl
@[go_sem] theorem XT:kindOf tt.get 106=some (.int .u64):=by kernel_rfl
@[go_sem] theorem XD:tt.get 136=some Sx:=by kernel_rfl
@[go_sem] theorem J9:kindOf tt.get 136=some (.map 3 3):=by kernel_rfl
@[go_sem] theorem ni {hp:Hp}{b:Nat}:CF tt.get hp 136 (.map (some b))=(match hp b with | some (.map es _)=>(.int .i64 (Int.ofNat es.length),True) | _=>(undef,False)):=by unfold CF;simp only [J9,D9,XD,Sx];cases hp b with | none=>rfl | some o=>cases o <;> rfl
@[go_sem] theorem ax:tt.get 143=some Qz:=by kernel_rfl
@[go_sem] theorem AAg:B0 tt.get 143=0:=by kernel_rfl
@[go_sem] theorem wx {b o:Nat}:AF tt.get 143 (.pointer (some ⟨b,o,none⟩)) 0=(.pointer (some ⟨b,o,none⟩),True):=by unfold AF;rw [show AX tt.get 143 (.pointer (some ⟨b,o,none⟩)) 0=some (.pointer (some ⟨b,o,none⟩)) from by kernel_rfl]
@[go_sem] theorem JV:tt.get 183=some Qn:=by kernel_rfl
@[go_sem] theorem Jf:kindOf tt.get 183=some (.slice 233):=by kernel_rfl
@[go_sem] theorem ADR:tt.get 185=some Xc:=by kernel_rfl
@[go_sem] theorem ACk:B0 tt.get 185=0:=by kernel_rfl
@[go_sem] theorem v8 {b o:Nat}:AF tt.get 185 (.pointer (some ⟨b,o,none⟩)) 0=(.pointer (some ⟨b,o,none⟩),True):=by unfold AF;rw [show AX tt.get 185 (.pointer (some ⟨b,o,none⟩)) 0=some (.pointer (some ⟨b,o,none⟩)) from by kernel_rfl]
@[go_sem] theorem uK {b o:Nat}:AF tt.get 185 (.pointer (some ⟨b,o,none⟩)) 1=(.pointer (some ⟨b,o+1,none⟩),True):=by unfold AF;rw [show AX tt.get 185 (.pointer (some ⟨b,o,none⟩)) 1=some (.pointer (some ⟨b,o+1,none⟩)) from by kernel_rfl]
@[go_sem] theorem ADb:tt.get 188=some Xh:=by kernel_rfl
@[go_sem] theorem VT:tt.get 192=some SO:=by kernel_rfl
@[go_sem] theorem Ms:kindOf tt.get 192=some (.map 202 3):=by kernel_rfl
@[go_sem] theorem nS {hp:Hp}{b:Nat}:CF tt.get hp 192 (.map (some b))=(match hp b with | some (.map es _)=>(.int .i64 (Int.ofNat es.length),True) | _=>(undef,False)):=by unfold CF;simp only [Ms,D9,VT,SO];cases hp b with | none=>rfl | some o=>cases o <;> rfl
@[go_sem] theorem SB:tt.get 193=some Sz:=by kernel_rfl
@[go_sem] theorem SA:kindOf tt.get 193=some (.map 202 4):=by kernel_rfl
@[go_sem] theorem j8 {hp:Hp}{b:Nat}:CF tt.get hp 193 (.map (some b))=(match hp b with | some (.map es _)=>(.int .i64 (Int.ofNat es.length),True) | _=>(undef,False)):=by unfold CF;simp only [SA,D9,SB,Sz];cases hp b with | none=>rfl | some o=>cases o <;> rfl
@[go_sem] theorem VP:tt.get 194=some SP:=by kernel_rfl
@[go_sem] theorem U4:kindOf tt.get 194=some (.map 3 4):=by kernel_rfl
@[go_sem] theorem nY {hp:Hp}{b:Nat}:CF tt.get hp 194 (.map (some b))=(match hp b with | some (.map es _)=>(.int .i64 (Int.ofNat es.length),True) | _=>(undef,False)):=by unfold CF;simp only [U4,D9,VP,SP];cases hp b with | none=>rfl | some o=>cases o <;> rfl
@[go_sem] theorem ADj:tt.get 195=some Wl:=by kernel_rfl
@[go_sem] theorem ya:tt.get 200=some W7:=by kernel_rfl
@[go_sem] theorem pO {b o:Nat}:AF tt.get 200 (.pointer (some ⟨b,o,none⟩)) 1=(.pointer (some ⟨b,o+1,none⟩),True):=by unfold AF;rw [show AX tt.get 200 (.pointer (some ⟨b,o,none⟩)) 1=some (.pointer (some ⟨b,o+1,none⟩)) from by kernel_rfl]
@[go_sem] theorem Yt:tt.get 202=some Qu:=by kernel_rfl
@[go_sem] theorem ADY:B0 tt.get 202=0:=by kernel_rfl
@[go_sem] theorem yi:tt.get 207=some W9:=by kernel_rfl
@[go_sem] theorem vD:B0 tt.get 207=0:=by kernel_rfl
@[go_sem] theorem zB:kindOf tt.get 207=some (.array 25 4):=by kernel_rfl
@[go_sem] theorem AAw:tt.get 208=some W6:=by kernel_rfl
@[go_sem] theorem AA2:kindOf tt.get 208=some (.array 25 3):=by kernel_rfl
@[go_sem] theorem tM:tt.get 209=some Xn:=by kernel_rfl
@[go_sem] theorem ABi:tt.get 221=some WB:=by kernel_rfl
@[go_sem] theorem yZ:B0 tt.get 221=0:=by kernel_rfl
@[go_sem] theorem ACI:kindOf tt.get 221=some (.array 25 208):=by kernel_rfl
@[go_sem] theorem N3:tt.get 223=some Ta:=by kernel_rfl
@[go_sem] theorem Fu:kindOf tt.get 223=some (.map 248 83):=by kernel_rfl
@[go_sem] theorem Z2 {hp:Hp}{b:Nat}:CF tt.get hp 223 (.map (some b))=(match hp b with | some (.map es _)=>(.int .i64 (Int.ofNat es.length),True) | _=>(undef,False)):=by unfold CF;simp only [Fu,D9,N3,Ta];cases hp b with | none=>rfl | some o=>cases o <;> rfl
@[go_sem] theorem AD3:tt.get 227=some Xr:=by kernel_rfl
@[go_sem] theorem LC:tt.get 228=some Qc:=by kernel_rfl
@[go_sem] theorem LF:kindOf tt.get 228=some (.slice 282):=by kernel_rfl
@[go_sem] theorem AEW:tt.get 230=some XU:=by kernel_rfl
@[go_sem] theorem OQ:tt.get 233=some TZ:=by kernel_rfl
@[go_sem] theorem Ky:tt.get 248=some QH:=by kernel_rfl
@[go_sem] theorem u6:B0 tt.get 248=0:=by kernel_rfl
@[go_sem] theorem Rr:tt.get 282=some S7:=by kernel_rfl
def US:B8 (Int):=⟨fun a=> [.int .i64 (a)],fun l=>intOf ((l[0]?).getD undef),1,fun _=>rfl,fun _=>rfl,fun _=>rfl⟩
instance:US.Plain:=⟨fun _ _=>rfl⟩
@[go_sem] theorem AAn (a:Int):US.enc a= [.int .i64 (a)]:=rfl
@[go_sem] theorem ACW (l:List Value):US.dec l=intOf ((l[0]?).getD undef):=rfl
def AY:B8 (Int):=⟨fun a=> [.int .i64 (a)],fun l=>intOf ((l[0]?).getD undef),1,fun _=>rfl,fun _=>rfl,fun _=>rfl⟩
instance:AY.Plain:=⟨fun _ _=>rfl⟩
@[go_sem] theorem AD6 (a:Int):AY.enc a= [.int .i64 (a)]:=rfl
@[go_sem] theorem AEX (l:List Value):AY.dec l=intOf ((l[0]?).getD undef):=rfl
def YG:B8 (Bool):=⟨fun a=> [.bool (a)],fun l=>B2 ((l[0]?).getD undef),1,fun _=>rfl,fun _=>rfl,fun _=>rfl⟩
instance:YG.Plain:=⟨fun _ _=>rfl⟩
@[go_sem] theorem AC8 (a:Bool):YG.enc a= [.bool (a)]:=rfl
@[go_sem] theorem ADF (l:List Value):YG.dec l=B2 ((l[0]?).getD undef):=rfl
def A9:B8 (Int):=⟨fun a=> [.int .u8 (a)],fun l=>intOf ((l[0]?).getD undef),1,fun _=>rfl,fun _=>rfl,fun _=>rfl⟩
instance:A9.Plain:=⟨fun _ _=>rfl⟩
@[go_sem] theorem AAh (a:Int):A9.enc a= [.int .u8 (a)]:=rfl
@[go_sem] theorem ABG (l:List Value):A9.dec l=intOf ((l[0]?).getD undef):=rfl
def AE:B8 (List UInt8):=⟨fun a=> [.string ⟨⟨a⟩⟩],fun l=>strOf ((l[0]?).getD undef),1,fun _=>rfl,fun _=>rfl,fun _=>rfl⟩
instance:AE.Plain:=⟨fun _ _=>rfl⟩
@[go_sem] theorem eN (a:List UInt8):AE.enc a= [.string ⟨⟨a⟩⟩]:=rfl
@[go_sem] theorem zD (l:List Value):AE.dec l=strOf ((l[0]?).getD undef):=rfl
def Vi:B8 (Int):=⟨fun a=> [.int .i32 (a)],fun l=>intOf ((l[0]?).getD undef),1,fun _=>rfl,fun _=>rfl,fun _=>rfl⟩
instance:Vi.Plain:=⟨fun _ _=>rfl⟩
@[go_sem] theorem AAE (a:Int):Vi.enc a= [.int .i32 (a)]:=rfl
@[go_sem] theorem ABl (l:List Value):Vi.dec l=intOf ((l[0]?).getD undef):=rfl
structure LY where
 Ss:Int
 Tc:Int
 cQ:Int
 Yb:Int
 F8:Fb
 Links:Fb
 M5:Fb
instance:Inhabited LY:=⟨⟨0,0,0,0, .nil, .nil, .nil⟩⟩
instance:DecidableEq LY:=fun a b=>decidable_of_iff (a.Ss=b.Ss∧a.Tc=b.Tc∧a.cQ=b.cQ∧a.Yb=b.Yb∧a.F8=b.F8∧a.Links=b.Links∧a.M5=b.M5) (by cases a;cases b;simp)
def Pp:B8 (LY):=⟨fun a=> [.int .i64 (a.Ss), .int .i64 (a.Tc), .int .i64 (a.cQ), .int .i64 (a.Yb),(a.F8).v,(a.Links).v,(a.M5).v],fun l=>⟨intOf ((l[0]?).getD undef),intOf ((l[1]?).getD undef),intOf ((l[2]?).getD undef),intOf ((l[3]?).getD undef),EU ((l[4]?).getD undef),EU ((l[5]?).getD undef),EU ((l[6]?).getD undef)⟩,7,fun a=>by cases a;simp [NT],fun _=>rfl,fun _=>by simp [A3,Fb.oc,Rt,Ni,Rq]⟩
instance:Pp.Ra:=⟨fun ρ a=> {a with F8:=a.F8.ra ρ,Links:=a.Links.ra ρ,M5:=a.M5.ra ρ},fun ρ a=>by simp [Pp,Co,Az,Pn]⟩
@[go_sem] theorem ABJ (a:LY):Pp.enc a= [.int .i64 (a.Ss), .int .i64 (a.Tc), .int .i64 (a.cQ), .int .i64 (a.Yb),(a.F8).v,(a.Links).v,(a.M5).v]:=rfl
@[go_sem] theorem ACA (a:LY):LY.mk a.Ss a.Tc a.cQ a.Yb a.F8 a.Links a.M5=a:=rfl
@[go_sem] theorem AAf (l:List Value):Pp.dec l=⟨intOf ((l[0]?).getD undef),intOf ((l[1]?).getD undef),intOf ((l[2]?).getD undef),intOf ((l[3]?).getD undef),EU ((l[4]?).getD undef),EU ((l[5]?).getD undef),EU ((l[6]?).getD undef)⟩:=rfl
structure IV where
 GI:Int
 GG:Int
 G8:Int
 HK:Int
 DQ:Fb
 EX:Fb
 ER:Fb
 tg:Fb
instance:Inhabited IV:=⟨⟨0,0,0,0, .nil, .nil, .nil, .nil⟩⟩
instance:DecidableEq IV:=fun a b=>decidable_of_iff (a.GI=b.GI∧a.GG=b.GG∧a.G8=b.G8∧a.HK=b.HK∧a.DQ=b.DQ∧a.EX=b.EX∧a.ER=b.ER∧a.tg=b.tg) (by cases a;cases b;simp)
def NU:B8 (IV):=⟨fun a=> [.int .i64 (a.GI), .int .i64 (a.GG), .int .i64 (a.G8), .int .i64 (a.HK),(a.DQ).v,(a.EX).v,(a.ER).v,(a.tg).v],fun l=>⟨intOf ((l[0]?).getD undef),intOf ((l[1]?).getD undef),intOf ((l[2]?).getD undef),intOf ((l[3]?).getD undef),EU ((l[4]?).getD undef),EU ((l[5]?).getD undef),EU ((l[6]?).getD undef),EU ((l[7]?).getD undef)⟩,8,fun a=>by cases a;simp [NT],fun _=>rfl,fun _=>by simp [A3,Fb.oc,Rt,Ni,Rq]⟩
instance:NU.Ra:=⟨fun ρ a=> {a with DQ:=a.DQ.ra ρ,EX:=a.EX.ra ρ,ER:=a.ER.ra ρ,tg:=a.tg.ra ρ},fun ρ a=>by simp [NU,Co,Az,Pn]⟩
@[go_sem] theorem yQ (a:IV):NU.enc a= [.int .i64 (a.GI), .int .i64 (a.GG), .int .i64 (a.G8), .int .i64 (a.HK),(a.DQ).v,(a.EX).v,(a.ER).v,(a.tg).v]:=rfl
@[go_sem] theorem yf (a:IV):IV.mk a.GI a.GG a.G8 a.HK a.DQ a.EX a.ER a.tg=a:=rfl
@[go_sem] theorem yN (l:List Value):NU.dec l=⟨intOf ((l[0]?).getD undef),intOf ((l[1]?).getD undef),intOf ((l[2]?).getD undef),intOf ((l[3]?).getD undef),EU ((l[4]?).getD undef),EU ((l[5]?).getD undef),EU ((l[6]?).getD undef),EU ((l[7]?).getD undef)⟩:=rfl
def Tl:B8 (Int):=⟨fun a=> [.int .i64 (a)],fun l=>intOf ((l[0]?).getD undef),1,fun _=>rfl,fun _=>rfl,fun _=>rfl⟩
instance:Tl.Plain:=⟨fun _ _=>rfl⟩
@[go_sem] theorem ABu (a:Int):Tl.enc a= [.int .i64 (a)]:=rfl
@[go_sem] theorem AAG (l:List Value):Tl.dec l=intOf ((l[0]?).getD undef):=rfl
def QA:B8 (Int):=⟨fun a=> [.int .u32 (a)],fun l=>intOf ((l[0]?).getD undef),1,fun _=>rfl,fun _=>rfl,fun _=>rfl⟩
instance:QA.Plain:=⟨fun _ _=>rfl⟩
@[go_sem] theorem yJ (a:Int):QA.enc a= [.int .u32 (a)]:=rfl
@[go_sem] theorem zI (l:List Value):QA.dec l=intOf ((l[0]?).getD undef):=rfl
structure Ax where
 Kind:Int
 Bj:Int
 C8:Int
 B1:Int
 Bd:Int
 CJ:Int
 Bytes:List UInt8
instance:Inhabited Ax:=⟨⟨0,0,0,0,0,0, []⟩⟩
instance:DecidableEq Ax:=fun a b=>decidable_of_iff (a.Kind=b.Kind∧a.Bj=b.Bj∧a.C8=b.C8∧a.B1=b.B1∧a.Bd=b.Bd∧a.CJ=b.CJ∧a.Bytes=b.Bytes) (by cases a;cases b;simp)
def Aw:B8 (Ax):=⟨fun a=> [.int .i64 (a.Kind), .int .i64 (a.Bj), .int .i64 (a.C8), .int .i64 (a.B1), .int .u32 (a.Bd), .int .i64 (a.CJ), .string ⟨⟨a.Bytes⟩⟩],fun l=>⟨intOf ((l[0]?).getD undef),intOf ((l[1]?).getD undef),intOf ((l[2]?).getD undef),intOf ((l[3]?).getD undef),intOf ((l[4]?).getD undef),intOf ((l[5]?).getD undef),strOf ((l[6]?).getD undef)⟩,7,fun _=>rfl,fun _=>rfl,fun _=>rfl⟩
instance:Aw.Plain:=⟨fun _ _=>rfl⟩
@[go_sem] theorem Ai (a:Ax):Aw.enc a= [.int .i64 (a.Kind), .int .i64 (a.Bj), .int .i64 (a.C8), .int .i64 (a.B1), .int .u32 (a.Bd), .int .i64 (a.CJ), .string ⟨⟨a.Bytes⟩⟩]:=rfl
@[go_sem] theorem AEl (a:Ax):Ax.mk a.Kind a.Bj a.C8 a.B1 a.Bd a.CJ a.Bytes=a:=rfl
@[go_sem] theorem AEt (l:List Value):Aw.dec l=⟨intOf ((l[0]?).getD undef),intOf ((l[1]?).getD undef),intOf ((l[2]?).getD undef),intOf ((l[3]?).getD undef),intOf ((l[4]?).getD undef),intOf ((l[5]?).getD undef),strOf ((l[6]?).getD undef)⟩:=rfl
structure FD where
 Code:Int
 At:Int
instance:Inhabited FD:=⟨⟨0,0⟩⟩
instance:DecidableEq FD:=fun a b=>decidable_of_iff (a.Code=b.Code∧a.At=b.At) (by cases a;cases b;simp)
def KL:B8 (FD):=⟨fun a=> [.int .i64 (a.Code), .int .i64 (a.At)],fun l=>⟨intOf ((l[0]?).getD undef),intOf ((l[1]?).getD undef)⟩,2,fun _=>rfl,fun _=>rfl,fun _=>rfl⟩
instance:KL.Plain:=⟨fun _ _=>rfl⟩
@[go_sem] theorem sJ (a:FD):KL.enc a= [.int .i64 (a.Code), .int .i64 (a.At)]:=rfl
@[go_sem] theorem p8 (a:FD):FD.mk a.Code a.At=a:=rfl
@[go_sem] theorem sE (l:List Value):KL.dec l=⟨intOf ((l[0]?).getD undef),intOf ((l[1]?).getD undef)⟩:=rfl
structure B5 where
 Code:Int
 At:Int
instance:Inhabited B5:=⟨⟨0,0⟩⟩
instance:DecidableEq B5:=fun a b=>decidable_of_iff (a.Code=b.Code∧a.At=b.At) (by cases a;cases b;simp)
def Dj:B8 (B5):=⟨fun a=> [.int .i64 (a.Code), .int .i64 (a.At)],fun l=>⟨intOf ((l[0]?).getD undef),intOf ((l[1]?).getD undef)⟩,2,fun _=>rfl,fun _=>rfl,fun _=>rfl⟩
instance:Dj.Plain:=⟨fun _ _=>rfl⟩
@[go_sem] theorem TK (a:B5):Dj.enc a= [.int .i64 (a.Code), .int .i64 (a.At)]:=rfl
@[go_sem] theorem S6 (a:B5):B5.mk a.Code a.At=a:=rfl
@[go_sem] theorem TT (l:List Value):Dj.dec l=⟨intOf ((l[0]?).getD undef),intOf ((l[1]?).getD undef)⟩:=rfl
structure B3 where
 Self:Int
 Claim:Int
 Ey:Bool
instance:Inhabited B3:=⟨⟨0,0,false⟩⟩
instance:DecidableEq B3:=fun a b=>decidable_of_iff (a.Self=b.Self∧a.Claim=b.Claim∧a.Ey=b.Ey) (by cases a;cases b;simp)
def AL:B8 (B3):=⟨fun a=> [.int .i64 (a.Self), .int .i64 (a.Claim), .bool (a.Ey)],fun l=>⟨intOf ((l[0]?).getD undef),intOf ((l[1]?).getD undef),B2 ((l[2]?).getD undef)⟩,3,fun _=>rfl,fun _=>rfl,fun _=>rfl⟩
instance:AL.Plain:=⟨fun _ _=>rfl⟩
@[go_sem] theorem Dt (a:B3):AL.enc a= [.int .i64 (a.Self), .int .i64 (a.Claim), .bool (a.Ey)]:=rfl
@[go_sem] theorem ADN (a:B3):B3.mk a.Self a.Claim a.Ey=a:=rfl
@[go_sem] theorem ADQ (l:List Value):AL.dec l=⟨intOf ((l[0]?).getD undef),intOf ((l[1]?).getD undef),B2 ((l[2]?).getD undef)⟩:=rfl
structure Ak where
 A:Int
 B:Int
 EB:Int
instance:Inhabited Ak:=⟨⟨0,0,0⟩⟩
instance:DecidableEq Ak:=fun a b=>decidable_of_iff (a.A=b.A∧a.B=b.B∧a.EB=b.EB) (by cases a;cases b;simp)
def Ad:B8 (Ak):=⟨fun a=> [.int .i64 (a.A), .int .i64 (a.B), .int .i64 (a.EB)],fun l=>⟨intOf ((l[0]?).getD undef),intOf ((l[1]?).getD undef),intOf ((l[2]?).getD undef)⟩,3,fun _=>rfl,fun _=>rfl,fun _=>rfl⟩
instance:Ad.Plain:=⟨fun _ _=>rfl⟩
@[go_sem] theorem Mq (a:Ak):Ad.enc a= [.int .i64 (a.A), .int .i64 (a.B), .int .i64 (a.EB)]:=rfl
@[go_sem] theorem AC3 (a:Ak):Ak.mk a.A a.B a.EB=a:=rfl
@[go_sem] theorem ACx (l:List Value):Ad.dec l=⟨intOf ((l[0]?).getD undef),intOf ((l[1]?).getD undef),intOf ((l[2]?).getD undef)⟩:=rfl
structure BJ where
 Cj:Int
 To:Int
 JK:Int
 Kind:Int
 By:Int
instance:Inhabited BJ:=⟨⟨0,0,0,0,0⟩⟩
instance:DecidableEq BJ:=fun a b=>decidable_of_iff (a.Cj=b.Cj∧a.To=b.To∧a.JK=b.JK∧a.Kind=b.Kind∧a.By=b.By) (by cases a;cases b;simp)
def AJ:B8 (BJ):=⟨fun a=> [.int .i64 (a.Cj), .int .i64 (a.To), .int .i64 (a.JK), .int .i64 (a.Kind), .int .i64 (a.By)],fun l=>⟨intOf ((l[0]?).getD undef),intOf ((l[1]?).getD undef),intOf ((l[2]?).getD undef),intOf ((l[3]?).getD undef),intOf ((l[4]?).getD undef)⟩,5,fun _=>rfl,fun _=>rfl,fun _=>rfl⟩
instance:AJ.Plain:=⟨fun _ _=>rfl⟩
@[go_sem] theorem Dv (a:BJ):AJ.enc a= [.int .i64 (a.Cj), .int .i64 (a.To), .int .i64 (a.JK), .int .i64 (a.Kind), .int .i64 (a.By)]:=rfl
@[go_sem] theorem ACw (a:BJ):BJ.mk a.Cj a.To a.JK a.Kind a.By=a:=rfl
@[go_sem] theorem ADO (l:List Value):AJ.dec l=⟨intOf ((l[0]?).getD undef),intOf ((l[1]?).getD undef),intOf ((l[2]?).getD undef),intOf ((l[3]?).getD undef),intOf ((l[4]?).getD undef)⟩:=rfl
structure De where
 kind:Int
 word:List UInt8
 fields:Int
instance:Inhabited De:=⟨⟨0, [],0⟩⟩
instance:DecidableEq De:=fun a b=>decidable_of_iff (a.kind=b.kind∧a.word=b.word∧a.fields=b.fields) (by cases a;cases b;simp)
def RC:B8 (De):=⟨fun a=> [.int .i64 (a.kind), .string ⟨⟨a.word⟩⟩, .int .i64 (a.fields)],fun l=>⟨intOf ((l[0]?).getD undef),strOf ((l[1]?).getD undef),intOf ((l[2]?).getD undef)⟩,3,fun _=>rfl,fun _=>rfl,fun _=>rfl⟩
instance:RC.Plain:=⟨fun _ _=>rfl⟩
@[go_sem] theorem Am (a:De):RC.enc a= [.int .i64 (a.kind), .string ⟨⟨a.word⟩⟩, .int .i64 (a.fields)]:=rfl
@[go_sem] theorem AEI (a:De):De.mk a.kind a.word a.fields=a:=rfl
@[go_sem] theorem AD9 (l:List Value):RC.dec l=⟨intOf ((l[0]?).getD undef),strOf ((l[1]?).getD undef),intOf ((l[2]?).getD undef)⟩:=rfl
def Yv:B8 (Int):=⟨fun a=> [.int .u64 (a)],fun l=>intOf ((l[0]?).getD undef),1,fun _=>rfl,fun _=>rfl,fun _=>rfl⟩
instance:Yv.Plain:=⟨fun _ _=>rfl⟩
@[go_sem] theorem ADZ (a:Int):Yv.enc a= [.int .u64 (a)]:=rfl
@[go_sem] theorem ADE (l:List Value):Yv.dec l=intOf ((l[0]?).getD undef):=rfl
def Rg:B8 (Int):=⟨fun a=> [.int .u64 (a)],fun l=>intOf ((l[0]?).getD undef),1,fun _=>rfl,fun _=>rfl,fun _=>rfl⟩
instance:Rg.Plain:=⟨fun _ _=>rfl⟩
@[go_sem] theorem zF (a:Int):Rg.enc a= [.int .u64 (a)]:=rfl
@[go_sem] theorem yl (l:List Value):Rg.dec l=intOf ((l[0]?).getD undef):=rfl
def Y4:B8 (Int):=⟨fun a=> [.int .u64 (a)],fun l=>intOf ((l[0]?).getD undef),1,fun _=>rfl,fun _=>rfl,fun _=>rfl⟩
instance:Y4.Plain:=⟨fun _ _=>rfl⟩
@[go_sem] theorem ADh (a:Int):Y4.enc a= [.int .u64 (a)]:=rfl
@[go_sem] theorem ACz (l:List Value):Y4.dec l=intOf ((l[0]?).getD undef):=rfl
def Yk:B8 (Int):=⟨fun a=> [.int .u8 (a)],fun l=>intOf ((l[0]?).getD undef),1,fun _=>rfl,fun _=>rfl,fun _=>rfl⟩
instance:Yk.Plain:=⟨fun _ _=>rfl⟩
@[go_sem] theorem AC9 (a:Int):Yk.enc a= [.int .u8 (a)]:=rfl
@[go_sem] theorem ACv (l:List Value):Yk.dec l=intOf ((l[0]?).getD undef):=rfl
structure Kx where
 code:Int
instance:Inhabited Kx:=⟨⟨0⟩⟩
instance:DecidableEq Kx:=fun a b=>decidable_of_iff (a.code=b.code) (by cases a;cases b;simp)
def U5:B8 (Kx):=⟨fun a=> [.int .i64 (a.code)],fun l=>⟨intOf ((l[0]?).getD undef)⟩,1,fun _=>rfl,fun _=>rfl,fun _=>rfl⟩
instance:U5.Plain:=⟨fun _ _=>rfl⟩
@[go_sem] theorem AA0 (a:Kx):U5.enc a= [.int .i64 (a.code)]:=rfl
@[go_sem] theorem ACP (a:Kx):Kx.mk a.code=a:=rfl
@[go_sem] theorem zT (l:List Value):U5.dec l=⟨intOf ((l[0]?).getD undef)⟩:=rfl
structure K6 where
 PS:Fb
 PZ:Fb
instance:Inhabited K6:=⟨⟨.nil, .nil⟩⟩
instance:DecidableEq K6:=fun a b=>decidable_of_iff (a.PS=b.PS∧a.PZ=b.PZ) (by cases a;cases b;simp)
def Pr:B8 (K6):=⟨fun a=> [(a.PS).v,(a.PZ).v],fun l=>⟨EU ((l[0]?).getD undef),EU ((l[1]?).getD undef)⟩,2,fun a=>by cases a;simp [NT],fun _=>rfl,fun _=>by simp [A3,Fb.oc,Rt,Ni,Rq]⟩
instance:Pr.Ra:=⟨fun ρ a=> {a with PS:=a.PS.ra ρ,PZ:=a.PZ.ra ρ},fun ρ a=>by simp [Pr,Co,Az,Pn]⟩
@[go_sem] theorem ABM (a:K6):Pr.enc a= [(a.PS).v,(a.PZ).v]:=rfl
@[go_sem] theorem AA5 (a:K6):K6.mk a.PS a.PZ=a:=rfl
@[go_sem] theorem AAC (l:List Value):Pr.dec l=⟨EU ((l[0]?).getD undef),EU ((l[1]?).getD undef)⟩:=rfl
structure Iz where
 Cj:Int
 To:Int
 Bytes:List UInt8
instance:Inhabited Iz:=⟨⟨0,0, []⟩⟩
instance:DecidableEq Iz:=fun a b=>decidable_of_iff (a.Cj=b.Cj∧a.To=b.To∧a.Bytes=b.Bytes) (by cases a;cases b;simp)
def RB:B8 (Iz):=⟨fun a=> [.int .i64 (a.Cj), .int .i64 (a.To), .string ⟨⟨a.Bytes⟩⟩],fun l=>⟨intOf ((l[0]?).getD undef),intOf ((l[1]?).getD undef),strOf ((l[2]?).getD undef)⟩,3,fun _=>rfl,fun _=>rfl,fun _=>rfl⟩
instance:RB.Plain:=⟨fun _ _=>rfl⟩
@[go_sem] theorem yw (a:Iz):RB.enc a= [.int .i64 (a.Cj), .int .i64 (a.To), .string ⟨⟨a.Bytes⟩⟩]:=rfl
@[go_sem] theorem yU (a:Iz):Iz.mk a.Cj a.To a.Bytes=a:=rfl
@[go_sem] theorem yO (l:List Value):RB.dec l=⟨intOf ((l[0]?).getD undef),intOf ((l[1]?).getD undef),strOf ((l[2]?).getD undef)⟩:=rfl
structure HQ where
 a:Int
 b:Int
instance:Inhabited HQ:=⟨⟨0,0⟩⟩
instance:DecidableEq HQ:=fun a b=>decidable_of_iff (a.a=b.a∧a.b=b.b) (by cases a;cases b;simp)
def Up:B8 (HQ):=⟨fun a=> [.int .i64 (a.a), .int .i64 (a.b)],fun l=>⟨intOf ((l[0]?).getD undef),intOf ((l[1]?).getD undef)⟩,2,fun _=>rfl,fun _=>rfl,fun _=>rfl⟩
instance:Up.Plain:=⟨fun _ _=>rfl⟩
@[go_sem] theorem Pw (a:HQ):Up.enc a= [.int .i64 (a.a), .int .i64 (a.b)]:=rfl
@[go_sem] theorem AC2 (a:HQ):HQ.mk a.a a.b=a:=rfl
@[go_sem] theorem ADM (l:List Value):Up.dec l=⟨intOf ((l[0]?).getD undef),intOf ((l[1]?).getD undef)⟩:=rfl
structure OH where
 there:Bool
 last:Int
 l:Fb
instance:Inhabited OH:=⟨⟨false,0, .nil⟩⟩
instance:DecidableEq OH:=fun a b=>decidable_of_iff (a.there=b.there∧a.last=b.last∧a.l=b.l) (by cases a;cases b;simp)
def T4:B8 (OH):=⟨fun a=> [.bool (a.there), .int .i64 (a.last),(a.l).v],fun l=>⟨B2 ((l[0]?).getD undef),intOf ((l[1]?).getD undef),EU ((l[2]?).getD undef)⟩,3,fun a=>by cases a;simp [NT],fun _=>rfl,fun _=>by simp [A3,Fb.oc,Rt,Ni,Rq]⟩
instance:T4.Ra:=⟨fun ρ a=> {a with l:=a.l.ra ρ},fun ρ a=>by simp [T4,Co,Az,Pn]⟩
@[go_sem] theorem ACy (a:OH):T4.enc a= [.bool (a.there), .int .i64 (a.last),(a.l).v]:=rfl
@[go_sem] theorem ADW (a:OH):OH.mk a.there a.last a.l=a:=rfl
@[go_sem] theorem ADB (l:List Value):T4.dec l=⟨B2 ((l[0]?).getD undef),intOf ((l[1]?).getD undef),EU ((l[2]?).getD undef)⟩:=rfl
structure DD where
 Cj:Int
 To:Int
 EB:Int
instance:Inhabited DD:=⟨⟨0,0,0⟩⟩
instance:DecidableEq DD:=fun a b=>decidable_of_iff (a.Cj=b.Cj∧a.To=b.To∧a.EB=b.EB) (by cases a;cases b;simp)
def BT:B8 (DD):=⟨fun a=> [.int .i64 (a.Cj), .int .i64 (a.To), .int .i64 (a.EB)],fun l=>⟨intOf ((l[0]?).getD undef),intOf ((l[1]?).getD undef),intOf ((l[2]?).getD undef)⟩,3,fun _=>rfl,fun _=>rfl,fun _=>rfl⟩
instance:BT.Plain:=⟨fun _ _=>rfl⟩
@[go_sem] theorem ADm (a:DD):BT.enc a= [.int .i64 (a.Cj), .int .i64 (a.To), .int .i64 (a.EB)]:=rfl
@[go_sem] theorem AC5 (a:DD):DD.mk a.Cj a.To a.EB=a:=rfl
@[go_sem] theorem ADl (l:List Value):BT.dec l=⟨intOf ((l[0]?).getD undef),intOf ((l[1]?).getD undef),intOf ((l[2]?).getD undef)⟩:=rfl
def VB:B8 (Int):=⟨fun a=> [.int .i64 (a)],fun l=>intOf ((l[0]?).getD undef),1,fun _=>rfl,fun _=>rfl,fun _=>rfl⟩
instance:VB.Plain:=⟨fun _ _=>rfl⟩
@[go_sem] theorem ACY (a:Int):VB.enc a= [.int .i64 (a)]:=rfl
@[go_sem] theorem zR (l:List Value):VB.dec l=intOf ((l[0]?).getD undef):=rfl
structure D0 where
 from_:Int
 to:Int
 nth:Int
instance:Inhabited D0:=⟨⟨0,0,0⟩⟩
instance:DecidableEq D0:=fun a b=>decidable_of_iff (a.from_=b.from_∧a.to=b.to∧a.nth=b.nth) (by cases a;cases b;simp)
def LA:B8 (D0):=⟨fun a=> [.int .i64 (a.from_), .int .i64 (a.to), .int .i64 (a.nth)],fun l=>⟨intOf ((l[0]?).getD undef),intOf ((l[1]?).getD undef),intOf ((l[2]?).getD undef)⟩,3,fun _=>rfl,fun _=>rfl,fun _=>rfl⟩
instance:LA.Plain:=⟨fun _ _=>rfl⟩
@[go_sem] theorem JB (a:D0):LA.enc a= [.int .i64 (a.from_), .int .i64 (a.to), .int .i64 (a.nth)]:=rfl
@[go_sem] theorem wV (a:D0):D0.mk a.from_ a.to a.nth=a:=rfl
@[go_sem] theorem u7 (l:List Value):LA.dec l=⟨intOf ((l[0]?).getD undef),intOf ((l[1]?).getD undef),intOf ((l[2]?).getD undef)⟩:=rfl
structure D3 where
 lo:Int
 hi:Int
instance:Inhabited D3:=⟨⟨0,0⟩⟩
instance:DecidableEq D3:=fun a b=>decidable_of_iff (a.lo=b.lo∧a.hi=b.hi) (by cases a;cases b;simp)
def IB:B8 (D3):=⟨fun a=> [.int .u8 (a.lo), .int .u8 (a.hi)],fun l=>⟨intOf ((l[0]?).getD undef),intOf ((l[1]?).getD undef)⟩,2,fun _=>rfl,fun _=>rfl,fun _=>rfl⟩
instance:IB.Plain:=⟨fun _ _=>rfl⟩
@[go_sem] theorem ji (a:D3):IB.enc a= [.int .u8 (a.lo), .int .u8 (a.hi)]:=rfl
@[go_sem] theorem ja (a:D3):D3.mk a.lo a.hi=a:=rfl
@[go_sem] theorem mY (l:List Value):IB.dec l=⟨intOf ((l[0]?).getD undef),intOf ((l[1]?).getD undef)⟩:=rfl
structure CH where
 s:List UInt8
instance:Inhabited CH:=⟨⟨[]⟩⟩
instance:DecidableEq CH:=fun a b=>decidable_of_iff (a.s=b.s) (by cases a;cases b;simp)
def EO:B8 (CH):=⟨fun a=> [.string ⟨⟨a.s⟩⟩],fun l=>⟨strOf ((l[0]?).getD undef)⟩,1,fun _=>rfl,fun _=>rfl,fun _=>rfl⟩
instance:EO.Plain:=⟨fun _ _=>rfl⟩
@[go_sem] theorem V4 (a:CH):EO.enc a= [.string ⟨⟨a.s⟩⟩]:=rfl
@[go_sem] theorem Vz (a:CH):CH.mk a.s=a:=rfl
@[go_sem] theorem Vy (l:List Value):EO.dec l=⟨strOf ((l[0]?).getD undef)⟩:=rfl
structure HO where
 at_:Int
 Mc:Int
 Qv:Int
 fL:Int
 Nl:List UInt8
instance:Inhabited HO:=⟨⟨0,0,0,0, []⟩⟩
instance:DecidableEq HO:=fun a b=>decidable_of_iff (a.at_=b.at_∧a.Mc=b.Mc∧a.Qv=b.Qv∧a.fL=b.fL∧a.Nl=b.Nl) (by cases a;cases b;simp)
def CB:B8 (HO):=⟨fun a=> [.int .u64 (a.at_), .int .i64 (a.Mc), .int .i64 (a.Qv), .int .i64 (a.fL), .string ⟨⟨a.Nl⟩⟩],fun l=>⟨intOf ((l[0]?).getD undef),intOf ((l[1]?).getD undef),intOf ((l[2]?).getD undef),intOf ((l[3]?).getD undef),strOf ((l[4]?).getD undef)⟩,5,fun _=>rfl,fun _=>rfl,fun _=>rfl⟩
instance:CB.Plain:=⟨fun _ _=>rfl⟩
@[go_sem] theorem ADd (a:HO):CB.enc a= [.int .u64 (a.at_), .int .i64 (a.Mc), .int .i64 (a.Qv), .int .i64 (a.fL), .string ⟨⟨a.Nl⟩⟩]:=rfl
@[go_sem] theorem AC7 (a:HO):HO.mk a.at_ a.Mc a.Qv a.fL a.Nl=a:=rfl
@[go_sem] theorem ACp (l:List Value):CB.dec l=⟨intOf ((l[0]?).getD undef),intOf ((l[1]?).getD undef),intOf ((l[2]?).getD undef),intOf ((l[3]?).getD undef),strOf ((l[4]?).getD undef)⟩:=rfl
section
theorem OU {hp:Hp}{v:Value}{l:List (B3)}(h:BP AL hp v l){hp':Hp}:CF tt.get hp' 22 v=(.int .i64 (l.length:Int),True):=h.K8 FN
theorem IX {hp:Hp}{v:Value}{l:List (B3)}(h:BP AL hp v l){k:IntKind}{n:Int}(h0:0≤n)(h1:n < l.length):Aa tt.get 22 v (.int k n)=(Ag v (n.toNat * 3),True):=h.idx FN H5 rfl h0 h1
theorem Kr {hp:Hp}{v:Value}{l:List (B3)}(h:BP AL hp v l){i:Nat}(hi:i < l.length):A4 tt.get hp 79 (Ag v (i * 3))=(.agg ⟨AL.enc (at' l i)⟩,True):=h.load H5 rfl rfl hi
theorem ui {hp:Hp}{v:Value}{l:List (B3)}(h:BP AL hp v l){i:Nat}(hi:i < l.length):AF tt.get 79 (Ag v (i * 3)) 0=(Ag v (i * 3),True):=h.field hi (d:=0) (fun b o=>(by kernel_rfl:AX tt.get 79 (.pointer (some ⟨b,o,none⟩)) 0=some (.pointer (some ⟨b,o+0,none⟩))))
theorem xA {hp:Hp}{v:Value}{l:List (B3)}(h:BP AL hp v l){i:Nat}(hi:i < l.length):A4 tt.get hp 3 (Ag v (i * 3))=(.int .i64 ((at' l i).Self),True):=h.cell (f:=0) BX rfl hi (by decide)
theorem wh {hp:Hp}{v:Value}{l:List (B3)}(h:BP AL hp v l){i:Nat}(hi:i < l.length):AF tt.get 79 (Ag v (i * 3)) 1=(Ag v (i * 3+1),True):=h.field hi (d:=1) (fun b o=>(by kernel_rfl:AX tt.get 79 (.pointer (some ⟨b,o,none⟩)) 1=some (.pointer (some ⟨b,o+1,none⟩))))
theorem uW {hp:Hp}{v:Value}{l:List (B3)}(h:BP AL hp v l){i:Nat}(hi:i < l.length):A4 tt.get hp 3 (Ag v (i * 3+1))=(.int .i64 ((at' l i).Claim),True):=h.cell (f:=1) BX rfl hi (by decide)
theorem xk {hp:Hp}{v:Value}{l:List (B3)}(h:BP AL hp v l){i:Nat}(hi:i < l.length):AF tt.get 79 (Ag v (i * 3)) 2=(Ag v (i * 3+2),True):=h.field hi (d:=2) (fun b o=>(by kernel_rfl:AX tt.get 79 (.pointer (some ⟨b,o,none⟩)) 2=some (.pointer (some ⟨b,o+2,none⟩))))
theorem wL {hp:Hp}{v:Value}{l:List (B3)}(h:BP AL hp v l){i:Nat}(hi:i < l.length):A4 tt.get hp 4 (Ag v (i * 3+2))=(.bool ((at' l i).Ey),True):=h.cell (f:=2) kK rfl hi (by decide)
theorem ABk {hp:Hp}{v:Value}{l:List (B3)}(h:BP AL hp v l){k:IntKind}{n:Int}(h0:0≤n)(h1:n≤l.length):Bv tt.get hp 22 v none (some (.int k n))=(Jo 3 v 0 n.toNat,True):=h.cV FN H5 h0 h1
theorem AAr {hp:Hp}{v:Value}{l:List (B3)}(h:BP AL hp v l){k:IntKind}{n:Int}(h0:0≤n)(h1:n≤l.length):Bv tt.get hp 22 v (some (.int k n)) none=(Fy 3 v n.toNat,True):=h.dE FN H5 rfl h0 h1
@[go_sem] theorem ABj {hp:Hp}{x:Value}{b top:Nat}{l:List (B3)}(h:hp b=AD AL l)(hx:GQ AL hp x)(hn:l.length+(AL.rd hp x).length≤16777216):AM tt.get hp top [22,22] (AA b l) x=some (AA top (l ++ AL.rd hp x),CC b l top (AD AL (l ++ AL.rd hp x)),top+1):=C0 FN JH rfl H5 rfl rfl h hx hn
@[go_sem] theorem ye {hp:Hp}{x:Value}{top:Nat}(hx:GQ AL hp x)(hn:(AL.rd hp x).length≤16777216):AM tt.get hp top [22,22] (.slice none 0 0) x=some (AA top (AL.rd hp x), [(top,AD AL (AL.rd hp x))],top+1):=Cx FN JH rfl H5 rfl rfl hx hn
@[go_sem] theorem ME {hp:Hp}{b top k:Nat}{l:List (B3)}(h:hp b=AD AL l)(hk:hp k=some (.cells true 3 (cellsOf (hp k))))(hc:AL.enc (AL.dec (cellsOf (hp k)))=cellsOf (hp k))(hn:C5 (l.length+1) Yj.bytes=true):AM tt.get hp top [22,22] (AA b l) (.slice (some ⟨k,0,none⟩) 1 1)=some (AA top (l ++ [AL.dec (cellsOf (hp k))]),CC b l top (AD AL (l ++ [AL.dec (cellsOf (hp k))])),top+1):=D2 FN JH rfl H5 rfl rfl h hk hc hn
@[go_sem] theorem y7 {hp:Hp}{x:Value}{top:Nat}(hx:GQ AL hp x)(hn:C5 (AL.rd hp x).length Yj.bytes=true):AM tt.get hp top [22,22] (.slice none 0 0) x=some (AA top (AL.rd hp x), [(top,AD AL (AL.rd hp x))],top+1):=Ce FN JH rfl H5 rfl rfl hx hn
@[go_sem] theorem Ef {hp:Hp}{top k:Nat}(hk:hp k=some (.cells true 3 (cellsOf (hp k))))(hc:AL.enc (AL.dec (cellsOf (hp k)))=cellsOf (hp k)):AM tt.get hp top [22,22] (.slice none 0 0) (.slice (some ⟨k,0,none⟩) 1 1)=some (AA top [AL.dec (cellsOf (hp k))], [(top,AD AL [AL.dec (cellsOf (hp k))])],top+1):=Ci FN JH rfl H5 rfl rfl hk hc
@[go_sem] theorem ABg {hp:Hp}{b top:Nat}{l l2:List (B3)}(h:hp b=AD AL l):hp.Av (CC b l top (AD AL l2))=(hp.set b none).set top (AD AL l2):=FF h
@[go_sem] theorem zh {hp:Hp}{b:Nat}{l:List (B3)}{i:Nat}(h:hp b=AD AL l)(hi:i < l.length){a0:Int}{a1:Int}{a2:Bool}:Bg tt.get hp 79 (Ag (AA b l) (i * 3)) (.agg ⟨[.int .i64 (a0), .int .i64 (a1), .bool (a2)]⟩)=([(b,AD AL (l.set i ⟨a0,a1,a2⟩))],True):=F3 (E:=AL) (cs:=AL.enc ⟨a0,a1,a2⟩) H5 rfl h hi rfl rfl
@[go_sem] theorem u3 {hp:Hp}{b:Nat}{l:List (B3)}{i:Nat}(h:hp b=AD AL l)(hi:i < l.length){x:Int}:Bg tt.get hp 3 (Ag (AA b l) (i * 3)) (.int .i64 (x))=([(b,AD AL (l.set i {at' l i with Self:=x}))],True):=BF (f:=0) BX h hi rfl (by decide) rfl rfl
@[go_sem] theorem vB {hp:Hp}{b:Nat}{l:List (B3)}{i:Nat}(h:hp b=AD AL l)(hi:i < l.length){x:Int}:Bg tt.get hp 3 (Ag (AA b l) (i * 3+1)) (.int .i64 (x))=([(b,AD AL (l.set i {at' l i with Claim:=x}))],True):=BF (f:=1) BX h hi rfl (by decide) rfl rfl
@[go_sem] theorem xH {hp:Hp}{b:Nat}{l:List (B3)}{i:Nat}(h:hp b=AD AL l)(hi:i < l.length){x:Bool}:Bg tt.get hp 4 (Ag (AA b l) (i * 3+2)) (.bool (x))=([(b,AD AL (l.set i {at' l i with Ey:=x}))],True):=BF (f:=2) kK h hi rfl (by decide) rfl rfl
@[go_sem] theorem zY {b:Nat}{l:List (B3)}{hp2:Hp}:CF tt.get hp2 22 (AA b l)=(.int .i64 (l.length:Int),True):=by cases l with | nil=>unfold CF AA;simp only [FN,D9,JH,Zg];rfl | cons a l=>unfold CF AA;simp only [FN,D9,JH,Zg];rfl
end
section
theorem G4 {hp:Hp}{v:Value}{l:List (Ak)}(h:BP Ad hp v l){hp':Hp}:CF tt.get hp' 23 v=(.int .i64 (l.length:Int),True):=h.K8 FT
theorem C1 {hp:Hp}{v:Value}{l:List (Ak)}(h:BP Ad hp v l){k:IntKind}{n:Int}(h0:0≤n)(h1:n < l.length):Aa tt.get 23 v (.int k n)=(Ag v (n.toNat * 3),True):=h.idx FT H4 rfl h0 h1
theorem DY {hp:Hp}{v:Value}{l:List (Ak)}(h:BP Ad hp v l){i:Nat}(hi:i < l.length):A4 tt.get hp 81 (Ag v (i * 3))=(.agg ⟨Ad.enc (at' l i)⟩,True):=h.load H4 rfl rfl hi
theorem xj {hp:Hp}{v:Value}{l:List (Ak)}(h:BP Ad hp v l){i:Nat}(hi:i < l.length):AF tt.get 81 (Ag v (i * 3)) 0=(Ag v (i * 3),True):=h.field hi (d:=0) (fun b o=>(by kernel_rfl:AX tt.get 81 (.pointer (some ⟨b,o,none⟩)) 0=some (.pointer (some ⟨b,o+0,none⟩))))
theorem xB {hp:Hp}{v:Value}{l:List (Ak)}(h:BP Ad hp v l){i:Nat}(hi:i < l.length):A4 tt.get hp 3 (Ag v (i * 3))=(.int .i64 ((at' l i).A),True):=h.cell (f:=0) BX rfl hi (by decide)
theorem xD {hp:Hp}{v:Value}{l:List (Ak)}(h:BP Ad hp v l){i:Nat}(hi:i < l.length):AF tt.get 81 (Ag v (i * 3)) 1=(Ag v (i * 3+1),True):=h.field hi (d:=1) (fun b o=>(by kernel_rfl:AX tt.get 81 (.pointer (some ⟨b,o,none⟩)) 1=some (.pointer (some ⟨b,o+1,none⟩))))
theorem u4 {hp:Hp}{v:Value}{l:List (Ak)}(h:BP Ad hp v l){i:Nat}(hi:i < l.length):A4 tt.get hp 3 (Ag v (i * 3+1))=(.int .i64 ((at' l i).B),True):=h.cell (f:=1) BX rfl hi (by decide)
theorem um {hp:Hp}{v:Value}{l:List (Ak)}(h:BP Ad hp v l){i:Nat}(hi:i < l.length):AF tt.get 81 (Ag v (i * 3)) 2=(Ag v (i * 3+2),True):=h.field hi (d:=2) (fun b o=>(by kernel_rfl:AX tt.get 81 (.pointer (some ⟨b,o,none⟩)) 2=some (.pointer (some ⟨b,o+2,none⟩))))
theorem xN {hp:Hp}{v:Value}{l:List (Ak)}(h:BP Ad hp v l){i:Nat}(hi:i < l.length):A4 tt.get hp 3 (Ag v (i * 3+2))=(.int .i64 ((at' l i).EB),True):=h.cell (f:=2) BX rfl hi (by decide)
theorem ABP {hp:Hp}{v:Value}{l:List (Ak)}(h:BP Ad hp v l){k:IntKind}{n:Int}(h0:0≤n)(h1:n≤l.length):Bv tt.get hp 23 v none (some (.int k n))=(Jo 3 v 0 n.toNat,True):=h.cV FT H4 h0 h1
theorem AAq {hp:Hp}{v:Value}{l:List (Ak)}(h:BP Ad hp v l){k:IntKind}{n:Int}(h0:0≤n)(h1:n≤l.length):Bv tt.get hp 23 v (some (.int k n)) none=(Fy 3 v n.toNat,True):=h.dE FT H4 rfl h0 h1
@[go_sem] theorem AAP {hp:Hp}{x:Value}{b top:Nat}{l:List (Ak)}(h:hp b=AD Ad l)(hx:GQ Ad hp x)(hn:l.length+(Ad.rd hp x).length≤16777216):AM tt.get hp top [23,23] (AA b l) x=some (AA top (l ++ Ad.rd hp x),CC b l top (AD Ad (l ++ Ad.rd hp x)),top+1):=C0 FT JM rfl H4 rfl rfl h hx hn
@[go_sem] theorem yb {hp:Hp}{x:Value}{top:Nat}(hx:GQ Ad hp x)(hn:(Ad.rd hp x).length≤16777216):AM tt.get hp top [23,23] (.slice none 0 0) x=some (AA top (Ad.rd hp x), [(top,AD Ad (Ad.rd hp x))],top+1):=Cx FT JM rfl H4 rfl rfl hx hn
@[go_sem] theorem YF {hp:Hp}{b top k:Nat}{l:List (Ak)}(h:hp b=AD Ad l)(hk:hp k=some (.cells true 3 (cellsOf (hp k))))(hc:Ad.enc (Ad.dec (cellsOf (hp k)))=cellsOf (hp k))(hn:C5 (l.length+1) YC.bytes=true):AM tt.get hp top [23,23] (AA b l) (.slice (some ⟨k,0,none⟩) 1 1)=some (AA top (l ++ [Ad.dec (cellsOf (hp k))]),CC b l top (AD Ad (l ++ [Ad.dec (cellsOf (hp k))])),top+1):=D2 FT JM rfl H4 rfl rfl h hk hc hn
@[go_sem] theorem yL {hp:Hp}{x:Value}{top:Nat}(hx:GQ Ad hp x)(hn:C5 (Ad.rd hp x).length YC.bytes=true):AM tt.get hp top [23,23] (.slice none 0 0) x=some (AA top (Ad.rd hp x), [(top,AD Ad (Ad.rd hp x))],top+1):=Ce FT JM rfl H4 rfl rfl hx hn
@[go_sem] theorem OP {hp:Hp}{top k:Nat}(hk:hp k=some (.cells true 3 (cellsOf (hp k))))(hc:Ad.enc (Ad.dec (cellsOf (hp k)))=cellsOf (hp k)):AM tt.get hp top [23,23] (.slice none 0 0) (.slice (some ⟨k,0,none⟩) 1 1)=some (AA top [Ad.dec (cellsOf (hp k))], [(top,AD Ad [Ad.dec (cellsOf (hp k))])],top+1):=Ci FT JM rfl H4 rfl rfl hk hc
@[go_sem] theorem AAu {hp:Hp}{b top:Nat}{l l2:List (Ak)}(h:hp b=AD Ad l):hp.Av (CC b l top (AD Ad l2))=(hp.set b none).set top (AD Ad l2):=FF h
@[go_sem] theorem AAQ {hp:Hp}{b:Nat}{l:List (Ak)}{i:Nat}(h:hp b=AD Ad l)(hi:i < l.length){a0:Int}{a1:Int}{a2:Int}:Bg tt.get hp 81 (Ag (AA b l) (i * 3)) (.agg ⟨[.int .i64 (a0), .int .i64 (a1), .int .i64 (a2)]⟩)=([(b,AD Ad (l.set i ⟨a0,a1,a2⟩))],True):=F3 (E:=Ad) (cs:=Ad.enc ⟨a0,a1,a2⟩) H4 rfl h hi rfl rfl
@[go_sem] theorem vl {hp:Hp}{b:Nat}{l:List (Ak)}{i:Nat}(h:hp b=AD Ad l)(hi:i < l.length){x:Int}:Bg tt.get hp 3 (Ag (AA b l) (i * 3)) (.int .i64 (x))=([(b,AD Ad (l.set i {at' l i with A:=x}))],True):=BF (f:=0) BX h hi rfl (by decide) rfl rfl
@[go_sem] theorem vu {hp:Hp}{b:Nat}{l:List (Ak)}{i:Nat}(h:hp b=AD Ad l)(hi:i < l.length){x:Int}:Bg tt.get hp 3 (Ag (AA b l) (i * 3+1)) (.int .i64 (x))=([(b,AD Ad (l.set i {at' l i with B:=x}))],True):=BF (f:=1) BX h hi rfl (by decide) rfl rfl
@[go_sem] theorem vi {hp:Hp}{b:Nat}{l:List (Ak)}{i:Nat}(h:hp b=AD Ad l)(hi:i < l.length){x:Int}:Bg tt.get hp 3 (Ag (AA b l) (i * 3+2)) (.int .i64 (x))=([(b,AD Ad (l.set i {at' l i with EB:=x}))],True):=BF (f:=2) BX h hi rfl (by decide) rfl rfl
@[go_sem] theorem AA1 {b:Nat}{l:List (Ak)}{hp2:Hp}:CF tt.get hp2 23 (AA b l)=(.int .i64 (l.length:Int),True):=by cases l with | nil=>unfold CF AA;simp only [FT,D9,JM,Y1];rfl | cons a l=>unfold CF AA;simp only [FT,D9,JM,Y1];rfl
end
section
theorem OI {hp:Hp}{v:Value}{l:List (BJ)}(h:BP AJ hp v l){hp':Hp}:CF tt.get hp' 24 v=(.int .i64 (l.length:Int),True):=h.K8 FM
theorem LO {hp:Hp}{v:Value}{l:List (BJ)}(h:BP AJ hp v l){k:IntKind}{n:Int}(h0:0≤n)(h1:n < l.length):Aa tt.get 24 v (.int k n)=(Ag v (n.toNat * 5),True):=h.idx FM HJ rfl h0 h1
theorem NY {hp:Hp}{v:Value}{l:List (BJ)}(h:BP AJ hp v l){i:Nat}(hi:i < l.length):A4 tt.get hp 83 (Ag v (i * 5))=(.agg ⟨AJ.enc (at' l i)⟩,True):=h.load HJ rfl rfl hi
theorem vL {hp:Hp}{v:Value}{l:List (BJ)}(h:BP AJ hp v l){i:Nat}(hi:i < l.length):AF tt.get 83 (Ag v (i * 5)) 0=(Ag v (i * 5),True):=h.field hi (d:=0) (fun b o=>(by kernel_rfl:AX tt.get 83 (.pointer (some ⟨b,o,none⟩)) 0=some (.pointer (some ⟨b,o+0,none⟩))))
theorem uz {hp:Hp}{v:Value}{l:List (BJ)}(h:BP AJ hp v l){i:Nat}(hi:i < l.length):A4 tt.get hp 3 (Ag v (i * 5))=(.int .i64 ((at' l i).Cj),True):=h.cell (f:=0) BX rfl hi (by decide)
theorem vh {hp:Hp}{v:Value}{l:List (BJ)}(h:BP AJ hp v l){i:Nat}(hi:i < l.length):AF tt.get 83 (Ag v (i * 5)) 1=(Ag v (i * 5+1),True):=h.field hi (d:=1) (fun b o=>(by kernel_rfl:AX tt.get 83 (.pointer (some ⟨b,o,none⟩)) 1=some (.pointer (some ⟨b,o+1,none⟩))))
theorem w4 {hp:Hp}{v:Value}{l:List (BJ)}(h:BP AJ hp v l){i:Nat}(hi:i < l.length):A4 tt.get hp 3 (Ag v (i * 5+1))=(.int .i64 ((at' l i).To),True):=h.cell (f:=1) BX rfl hi (by decide)
theorem vf {hp:Hp}{v:Value}{l:List (BJ)}(h:BP AJ hp v l){i:Nat}(hi:i < l.length):AF tt.get 83 (Ag v (i * 5)) 2=(Ag v (i * 5+2),True):=h.field hi (d:=2) (fun b o=>(by kernel_rfl:AX tt.get 83 (.pointer (some ⟨b,o,none⟩)) 2=some (.pointer (some ⟨b,o+2,none⟩))))
theorem xx {hp:Hp}{v:Value}{l:List (BJ)}(h:BP AJ hp v l){i:Nat}(hi:i < l.length):A4 tt.get hp 3 (Ag v (i * 5+2))=(.int .i64 ((at' l i).JK),True):=h.cell (f:=2) BX rfl hi (by decide)
theorem uP {hp:Hp}{v:Value}{l:List (BJ)}(h:BP AJ hp v l){i:Nat}(hi:i < l.length):AF tt.get 83 (Ag v (i * 5)) 3=(Ag v (i * 5+3),True):=h.field hi (d:=3) (fun b o=>(by kernel_rfl:AX tt.get 83 (.pointer (some ⟨b,o,none⟩)) 3=some (.pointer (some ⟨b,o+3,none⟩))))
theorem vz {hp:Hp}{v:Value}{l:List (BJ)}(h:BP AJ hp v l){i:Nat}(hi:i < l.length):A4 tt.get hp 3 (Ag v (i * 5+3))=(.int .i64 ((at' l i).Kind),True):=h.cell (f:=3) BX rfl hi (by decide)
theorem uX {hp:Hp}{v:Value}{l:List (BJ)}(h:BP AJ hp v l){i:Nat}(hi:i < l.length):AF tt.get 83 (Ag v (i * 5)) 4=(Ag v (i * 5+4),True):=h.field hi (d:=4) (fun b o=>(by kernel_rfl:AX tt.get 83 (.pointer (some ⟨b,o,none⟩)) 4=some (.pointer (some ⟨b,o+4,none⟩))))
theorem xM {hp:Hp}{v:Value}{l:List (BJ)}(h:BP AJ hp v l){i:Nat}(hi:i < l.length):A4 tt.get hp 3 (Ag v (i * 5+4))=(.int .i64 ((at' l i).By),True):=h.cell (f:=4) BX rfl hi (by decide)
theorem ABX {hp:Hp}{v:Value}{l:List (BJ)}(h:BP AJ hp v l){k:IntKind}{n:Int}(h0:0≤n)(h1:n≤l.length):Bv tt.get hp 24 v none (some (.int k n))=(Jo 5 v 0 n.toNat,True):=h.cV FM HJ h0 h1
theorem ACU {hp:Hp}{v:Value}{l:List (BJ)}(h:BP AJ hp v l){k:IntKind}{n:Int}(h0:0≤n)(h1:n≤l.length):Bv tt.get hp 24 v (some (.int k n)) none=(Fy 5 v n.toNat,True):=h.dE FM HJ rfl h0 h1
@[go_sem] theorem AA8 {hp:Hp}{x:Value}{b top:Nat}{l:List (BJ)}(h:hp b=AD AJ l)(hx:GQ AJ hp x)(hn:l.length+(AJ.rd hp x).length≤16777216):AM tt.get hp top [24,24] (AA b l) x=some (AA top (l ++ AJ.rd hp x),CC b l top (AD AJ (l ++ AJ.rd hp x)),top+1):=C0 FM JS rfl HJ rfl rfl h hx hn
@[go_sem] theorem zC {hp:Hp}{x:Value}{top:Nat}(hx:GQ AJ hp x)(hn:(AJ.rd hp x).length≤16777216):AM tt.get hp top [24,24] (.slice none 0 0) x=some (AA top (AJ.rd hp x), [(top,AD AJ (AJ.rd hp x))],top+1):=Cx FM JS rfl HJ rfl rfl hx hn
@[go_sem] theorem Me {hp:Hp}{b top k:Nat}{l:List (BJ)}(h:hp b=AD AJ l)(hk:hp k=some (.cells true 5 (cellsOf (hp k))))(hc:AJ.enc (AJ.dec (cellsOf (hp k)))=cellsOf (hp k))(hn:C5 (l.length+1) XC.bytes=true):AM tt.get hp top [24,24] (AA b l) (.slice (some ⟨k,0,none⟩) 1 1)=some (AA top (l ++ [AJ.dec (cellsOf (hp k))]),CC b l top (AD AJ (l ++ [AJ.dec (cellsOf (hp k))])),top+1):=D2 FM JS rfl HJ rfl rfl h hk hc hn
@[go_sem] theorem zA {hp:Hp}{x:Value}{top:Nat}(hx:GQ AJ hp x)(hn:C5 (AJ.rd hp x).length XC.bytes=true):AM tt.get hp top [24,24] (.slice none 0 0) x=some (AA top (AJ.rd hp x), [(top,AD AJ (AJ.rd hp x))],top+1):=Ce FM JS rfl HJ rfl rfl hx hn
@[go_sem] theorem Ec {hp:Hp}{top k:Nat}(hk:hp k=some (.cells true 5 (cellsOf (hp k))))(hc:AJ.enc (AJ.dec (cellsOf (hp k)))=cellsOf (hp k)):AM tt.get hp top [24,24] (.slice none 0 0) (.slice (some ⟨k,0,none⟩) 1 1)=some (AA top [AJ.dec (cellsOf (hp k))], [(top,AD AJ [AJ.dec (cellsOf (hp k))])],top+1):=Ci FM JS rfl HJ rfl rfl hk hc
@[go_sem] theorem ABK {hp:Hp}{b top:Nat}{l l2:List (BJ)}(h:hp b=AD AJ l):hp.Av (CC b l top (AD AJ l2))=(hp.set b none).set top (AD AJ l2):=FF h
@[go_sem] theorem ACm {hp:Hp}{b:Nat}{l:List (BJ)}{i:Nat}(h:hp b=AD AJ l)(hi:i < l.length){a0:Int}{a1:Int}{a2:Int}{a3:Int}{a4:Int}:Bg tt.get hp 83 (Ag (AA b l) (i * 5)) (.agg ⟨[.int .i64 (a0), .int .i64 (a1), .int .i64 (a2), .int .i64 (a3), .int .i64 (a4)]⟩)=([(b,AD AJ (l.set i ⟨a0,a1,a2,a3,a4⟩))],True):=F3 (E:=AJ) (cs:=AJ.enc ⟨a0,a1,a2,a3,a4⟩) HJ rfl h hi rfl rfl
@[go_sem] theorem vg {hp:Hp}{b:Nat}{l:List (BJ)}{i:Nat}(h:hp b=AD AJ l)(hi:i < l.length){x:Int}:Bg tt.get hp 3 (Ag (AA b l) (i * 5)) (.int .i64 (x))=([(b,AD AJ (l.set i {at' l i with Cj:=x}))],True):=BF (f:=0) BX h hi rfl (by decide) rfl rfl
@[go_sem] theorem xp {hp:Hp}{b:Nat}{l:List (BJ)}{i:Nat}(h:hp b=AD AJ l)(hi:i < l.length){x:Int}:Bg tt.get hp 3 (Ag (AA b l) (i * 5+1)) (.int .i64 (x))=([(b,AD AJ (l.set i {at' l i with To:=x}))],True):=BF (f:=1) BX h hi rfl (by decide) rfl rfl
@[go_sem] theorem vy {hp:Hp}{b:Nat}{l:List (BJ)}{i:Nat}(h:hp b=AD AJ l)(hi:i < l.length){x:Int}:Bg tt.get hp 3 (Ag (AA b l) (i * 5+2)) (.int .i64 (x))=([(b,AD AJ (l.set i {at' l i with JK:=x}))],True):=BF (f:=2) BX h hi rfl (by decide) rfl rfl
@[go_sem] theorem wc {hp:Hp}{b:Nat}{l:List (BJ)}{i:Nat}(h:hp b=AD AJ l)(hi:i < l.length){x:Int}:Bg tt.get hp 3 (Ag (AA b l) (i * 5+3)) (.int .i64 (x))=([(b,AD AJ (l.set i {at' l i with Kind:=x}))],True):=BF (f:=3) BX h hi rfl (by decide) rfl rfl
@[go_sem] theorem vK {hp:Hp}{b:Nat}{l:List (BJ)}{i:Nat}(h:hp b=AD AJ l)(hi:i < l.length){x:Int}:Bg tt.get hp 3 (Ag (AA b l) (i * 5+4)) (.int .i64 (x))=([(b,AD AJ (l.set i {at' l i with By:=x}))],True):=BF (f:=4) BX h hi rfl (by decide) rfl rfl
@[go_sem] theorem zS {b:Nat}{l:List (BJ)}{hp2:Hp}:CF tt.get hp2 24 (AA b l)=(.int .i64 (l.length:Int),True):=by cases l with | nil=>unfold CF AA;simp only [FM,D9,JS,Zc];rfl | cons a l=>unfold CF AA;simp only [FM,D9,JS,Zc];rfl
end
section
theorem VQ {hp:Hp}{v:Value}{l:List (Ax)}(h:BP Aw hp v l){hp':Hp}:CF tt.get hp' 27 v=(.int .i64 (l.length:Int),True):=h.K8 Jh
theorem bA {hp:Hp}{v:Value}{l:List (Ax)}(h:BP Aw hp v l){k:IntKind}{n:Int}(h0:0≤n)(h1:n < l.length):Aa tt.get 27 v (.int k n)=(Ag v (n.toNat * 7),True):=h.idx Jh OE rfl h0 h1
theorem ic {hp:Hp}{v:Value}{l:List (Ax)}(h:BP Aw hp v l){i:Nat}(hi:i < l.length):A4 tt.get hp 43 (Ag v (i * 7))=(.agg ⟨Aw.enc (at' l i)⟩,True):=h.load OE rfl rfl hi
theorem AAm {hp:Hp}{v:Value}{l:List (Ax)}(h:BP Aw hp v l){i:Nat}(hi:i < l.length):AF tt.get 43 (Ag v (i * 7)) 0=(Ag v (i * 7),True):=h.field hi (d:=0) (fun b o=>(by kernel_rfl:AX tt.get 43 (.pointer (some ⟨b,o,none⟩)) 0=some (.pointer (some ⟨b,o+0,none⟩))))
theorem AAk {hp:Hp}{v:Value}{l:List (Ax)}(h:BP Aw hp v l){i:Nat}(hi:i < l.length):A4 tt.get hp 3 (Ag v (i * 7))=(.int .i64 ((at' l i).Kind),True):=h.cell (f:=0) BX rfl hi (by decide)
theorem AAT {hp:Hp}{v:Value}{l:List (Ax)}(h:BP Aw hp v l){i:Nat}(hi:i < l.length):AF tt.get 43 (Ag v (i * 7)) 1=(Ag v (i * 7+1),True):=h.field hi (d:=1) (fun b o=>(by kernel_rfl:AX tt.get 43 (.pointer (some ⟨b,o,none⟩)) 1=some (.pointer (some ⟨b,o+1,none⟩))))
theorem AAx {hp:Hp}{v:Value}{l:List (Ax)}(h:BP Aw hp v l){i:Nat}(hi:i < l.length):A4 tt.get hp 3 (Ag v (i * 7+1))=(.int .i64 ((at' l i).Bj),True):=h.cell (f:=1) BX rfl hi (by decide)
theorem ABB {hp:Hp}{v:Value}{l:List (Ax)}(h:BP Aw hp v l){i:Nat}(hi:i < l.length):AF tt.get 43 (Ag v (i * 7)) 2=(Ag v (i * 7+2),True):=h.field hi (d:=2) (fun b o=>(by kernel_rfl:AX tt.get 43 (.pointer (some ⟨b,o,none⟩)) 2=some (.pointer (some ⟨b,o+2,none⟩))))
theorem zs {hp:Hp}{v:Value}{l:List (Ax)}(h:BP Aw hp v l){i:Nat}(hi:i < l.length):A4 tt.get hp 3 (Ag v (i * 7+2))=(.int .i64 ((at' l i).C8),True):=h.cell (f:=2) BX rfl hi (by decide)
theorem AAa {hp:Hp}{v:Value}{l:List (Ax)}(h:BP Aw hp v l){i:Nat}(hi:i < l.length):AF tt.get 43 (Ag v (i * 7)) 3=(Ag v (i * 7+3),True):=h.field hi (d:=3) (fun b o=>(by kernel_rfl:AX tt.get 43 (.pointer (some ⟨b,o,none⟩)) 3=some (.pointer (some ⟨b,o+3,none⟩))))
theorem AAF {hp:Hp}{v:Value}{l:List (Ax)}(h:BP Aw hp v l){i:Nat}(hi:i < l.length):A4 tt.get hp 3 (Ag v (i * 7+3))=(.int .i64 ((at' l i).B1),True):=h.cell (f:=3) BX rfl hi (by decide)
theorem ACS {hp:Hp}{v:Value}{l:List (Ax)}(h:BP Aw hp v l){i:Nat}(hi:i < l.length):AF tt.get 43 (Ag v (i * 7)) 4=(Ag v (i * 7+4),True):=h.field hi (d:=4) (fun b o=>(by kernel_rfl:AX tt.get 43 (.pointer (some ⟨b,o,none⟩)) 4=some (.pointer (some ⟨b,o+4,none⟩))))
theorem AA3 {hp:Hp}{v:Value}{l:List (Ax)}(h:BP Aw hp v l){i:Nat}(hi:i < l.length):A4 tt.get hp 41 (Ag v (i * 7+4))=(.int .u32 ((at' l i).Bd),True):=h.cell (f:=4) NZ rfl hi (by decide)
theorem zt {hp:Hp}{v:Value}{l:List (Ax)}(h:BP Aw hp v l){i:Nat}(hi:i < l.length):AF tt.get 43 (Ag v (i * 7)) 5=(Ag v (i * 7+5),True):=h.field hi (d:=5) (fun b o=>(by kernel_rfl:AX tt.get 43 (.pointer (some ⟨b,o,none⟩)) 5=some (.pointer (some ⟨b,o+5,none⟩))))
theorem ABC {hp:Hp}{v:Value}{l:List (Ax)}(h:BP Aw hp v l){i:Nat}(hi:i < l.length):A4 tt.get hp 3 (Ag v (i * 7+5))=(.int .i64 ((at' l i).CJ),True):=h.cell (f:=5) BX rfl hi (by decide)
theorem ABV {hp:Hp}{v:Value}{l:List (Ax)}(h:BP Aw hp v l){i:Nat}(hi:i < l.length):AF tt.get 43 (Ag v (i * 7)) 6=(Ag v (i * 7+6),True):=h.field hi (d:=6) (fun b o=>(by kernel_rfl:AX tt.get 43 (.pointer (some ⟨b,o,none⟩)) 6=some (.pointer (some ⟨b,o+6,none⟩))))
theorem ABf {hp:Hp}{v:Value}{l:List (Ax)}(h:BP Aw hp v l){i:Nat}(hi:i < l.length):A4 tt.get hp 9 (Ag v (i * 7+6))=(.string ⟨⟨(at' l i).Bytes⟩⟩,True):=h.cell (f:=6) C4 rfl hi (by decide)
theorem AEP {hp:Hp}{v:Value}{l:List (Ax)}(h:BP Aw hp v l){k:IntKind}{n:Int}(h0:0≤n)(h1:n≤l.length):Bv tt.get hp 27 v none (some (.int k n))=(Jo 7 v 0 n.toNat,True):=h.cV Jh OE h0 h1
theorem AEQ {hp:Hp}{v:Value}{l:List (Ax)}(h:BP Aw hp v l){k:IntKind}{n:Int}(h0:0≤n)(h1:n≤l.length):Bv tt.get hp 27 v (some (.int k n)) none=(Fy 7 v n.toNat,True):=h.dE Jh OE rfl h0 h1
@[go_sem] theorem AEH {hp:Hp}{x:Value}{b top:Nat}{l:List (Ax)}(h:hp b=AD Aw l)(hx:GQ Aw hp x)(hn:l.length+(Aw.rd hp x).length≤16777216):AM tt.get hp top [27,27] (AA b l) x=some (AA top (l ++ Aw.rd hp x),CC b l top (AD Aw (l ++ Aw.rd hp x)),top+1):=C0 Jh PE rfl OE rfl rfl h hx hn
@[go_sem] theorem AC6 {hp:Hp}{x:Value}{top:Nat}(hx:GQ Aw hp x)(hn:(Aw.rd hp x).length≤16777216):AM tt.get hp top [27,27] (.slice none 0 0) x=some (AA top (Aw.rd hp x), [(top,AD Aw (Aw.rd hp x))],top+1):=Cx Jh PE rfl OE rfl rfl hx hn
@[go_sem] theorem l8 {hp:Hp}{b top k:Nat}{l:List (Ax)}(h:hp b=AD Aw l)(hk:hp k=some (.cells true 7 (cellsOf (hp k))))(hc:Aw.enc (Aw.dec (cellsOf (hp k)))=cellsOf (hp k))(hn:C5 (l.length+1) Uj.bytes=true):AM tt.get hp top [27,27] (AA b l) (.slice (some ⟨k,0,none⟩) 1 1)=some (AA top (l ++ [Aw.dec (cellsOf (hp k))]),CC b l top (AD Aw (l ++ [Aw.dec (cellsOf (hp k))])),top+1):=D2 Jh PE rfl OE rfl rfl h hk hc hn
@[go_sem] theorem ADn {hp:Hp}{x:Value}{top:Nat}(hx:GQ Aw hp x)(hn:C5 (Aw.rd hp x).length Uj.bytes=true):AM tt.get hp top [27,27] (.slice none 0 0) x=some (AA top (Aw.rd hp x), [(top,AD Aw (Aw.rd hp x))],top+1):=Ce Jh PE rfl OE rfl rfl hx hn
@[go_sem] theorem ADg {hp:Hp}{top k:Nat}(hk:hp k=some (.cells true 7 (cellsOf (hp k))))(hc:Aw.enc (Aw.dec (cellsOf (hp k)))=cellsOf (hp k)):AM tt.get hp top [27,27] (.slice none 0 0) (.slice (some ⟨k,0,none⟩) 1 1)=some (AA top [Aw.dec (cellsOf (hp k))], [(top,AD Aw [Aw.dec (cellsOf (hp k))])],top+1):=Ci Jh PE rfl OE rfl rfl hk hc
@[go_sem] theorem AEK {hp:Hp}{b top:Nat}{l l2:List (Ax)}(h:hp b=AD Aw l):hp.Av (CC b l top (AD Aw l2))=(hp.set b none).set top (AD Aw l2):=FF h
@[go_sem] theorem AEd {hp:Hp}{b:Nat}{l:List (Ax)}{i:Nat}(h:hp b=AD Aw l)(hi:i < l.length){a0:Int}{a1:Int}{a2:Int}{a3:Int}{a4:Int}{a5:Int}{a6:List UInt8}:Bg tt.get hp 43 (Ag (AA b l) (i * 7)) (.agg ⟨[.int .i64 (a0), .int .i64 (a1), .int .i64 (a2), .int .i64 (a3), .int .u32 (a4), .int .i64 (a5), .string ⟨⟨a6⟩⟩]⟩)=([(b,AD Aw (l.set i ⟨a0,a1,a2,a3,a4,a5,a6⟩))],True):=F3 (E:=Aw) (cs:=Aw.enc ⟨a0,a1,a2,a3,a4,a5,a6⟩) OE rfl h hi rfl rfl
@[go_sem] theorem AB0 {hp:Hp}{b:Nat}{l:List (Ax)}{i:Nat}(h:hp b=AD Aw l)(hi:i < l.length){x:Int}:Bg tt.get hp 3 (Ag (AA b l) (i * 7)) (.int .i64 (x))=([(b,AD Aw (l.set i {at' l i with Kind:=x}))],True):=BF (f:=0) BX h hi rfl (by decide) rfl rfl
@[go_sem] theorem zL {hp:Hp}{b:Nat}{l:List (Ax)}{i:Nat}(h:hp b=AD Aw l)(hi:i < l.length){x:Int}:Bg tt.get hp 3 (Ag (AA b l) (i * 7+1)) (.int .i64 (x))=([(b,AD Aw (l.set i {at' l i with Bj:=x}))],True):=BF (f:=1) BX h hi rfl (by decide) rfl rfl
@[go_sem] theorem ABx {hp:Hp}{b:Nat}{l:List (Ax)}{i:Nat}(h:hp b=AD Aw l)(hi:i < l.length){x:Int}:Bg tt.get hp 3 (Ag (AA b l) (i * 7+2)) (.int .i64 (x))=([(b,AD Aw (l.set i {at' l i with C8:=x}))],True):=BF (f:=2) BX h hi rfl (by decide) rfl rfl
@[go_sem] theorem ABS {hp:Hp}{b:Nat}{l:List (Ax)}{i:Nat}(h:hp b=AD Aw l)(hi:i < l.length){x:Int}:Bg tt.get hp 3 (Ag (AA b l) (i * 7+3)) (.int .i64 (x))=([(b,AD Aw (l.set i {at' l i with B1:=x}))],True):=BF (f:=3) BX h hi rfl (by decide) rfl rfl
@[go_sem] theorem ACc {hp:Hp}{b:Nat}{l:List (Ax)}{i:Nat}(h:hp b=AD Aw l)(hi:i < l.length){x:Int}:Bg tt.get hp 41 (Ag (AA b l) (i * 7+4)) (.int .u32 (x))=([(b,AD Aw (l.set i {at' l i with Bd:=x}))],True):=BF (f:=4) NZ h hi rfl (by decide) rfl rfl
@[go_sem] theorem zm {hp:Hp}{b:Nat}{l:List (Ax)}{i:Nat}(h:hp b=AD Aw l)(hi:i < l.length){x:Int}:Bg tt.get hp 3 (Ag (AA b l) (i * 7+5)) (.int .i64 (x))=([(b,AD Aw (l.set i {at' l i with CJ:=x}))],True):=BF (f:=5) BX h hi rfl (by decide) rfl rfl
@[go_sem] theorem zc {hp:Hp}{b:Nat}{l:List (Ax)}{i:Nat}(h:hp b=AD Aw l)(hi:i < l.length){x:List UInt8}:Bg tt.get hp 9 (Ag (AA b l) (i * 7+6)) (.string ⟨⟨x⟩⟩)=([(b,AD Aw (l.set i {at' l i with Bytes:=x}))],True):=BF (f:=6) C4 h hi rfl (by decide) rfl rfl
@[go_sem] theorem ADv {b:Nat}{l:List (Ax)}{hp2:Hp}:CF tt.get hp2 27 (AA b l)=(.int .i64 (l.length:Int),True):=by cases l with | nil=>unfold CF AA;simp only [Jh,D9,PE,X3];rfl | cons a l=>unfold CF AA;simp only [Jh,D9,PE,X3];rfl
end
section
theorem FA {hp:Hp}{v:Value}{l:List (List UInt8)}(h:BP AE hp v l){hp':Hp}:CF tt.get hp' 67 v=(.int .i64 (l.length:Int),True):=h.K8 DG
theorem DM {hp:Hp}{v:Value}{l:List (List UInt8)}(h:BP AE hp v l){k:IntKind}{n:Int}(h0:0≤n)(h1:n < l.length):Aa tt.get 67 v (.int k n)=(Ag v (n.toNat * 1),True):=h.idx DG C4 rfl h0 h1
theorem Dw {hp:Hp}{v:Value}{l:List (List UInt8)}(h:BP AE hp v l){i:Nat}(hi:i < l.length):A4 tt.get hp 9 (Ag v (i * 1))=(.string ⟨⟨at' l i⟩⟩,True):=h.cell (f:=0) C4 rfl hi (by decide)
theorem Yr {hp:Hp}{v:Value}{l:List (List UInt8)}(h:BP AE hp v l){k:IntKind}{n:Int}(h0:0≤n)(h1:n≤l.length):Bv tt.get hp 67 v none (some (.int k n))=(Jo 1 v 0 n.toNat,True):=h.cV DG C4 h0 h1
theorem MC {hp:Hp}{v:Value}{l:List (List UInt8)}(h:BP AE hp v l){k:IntKind}{n:Int}(h0:0≤n)(h1:n≤l.length):Bv tt.get hp 67 v (some (.int k n)) none=(Fy 1 v n.toNat,True):=h.dE DG C4 rfl h0 h1
@[go_sem] theorem vX {hp:Hp}{x:Value}{b top:Nat}{l:List (List UInt8)}(h:hp b=AD AE l)(hx:GQ AE hp x)(hn:l.length+(AE.rd hp x).length≤16777216):AM tt.get hp top [67,67] (AA b l) x=some (AA top (l ++ AE.rd hp x),CC b l top (AD AE (l ++ AE.rd hp x)),top+1):=C0 DG FC rfl C4 rfl rfl h hx hn
@[go_sem] theorem sx {hp:Hp}{x:Value}{top:Nat}(hx:GQ AE hp x)(hn:(AE.rd hp x).length≤16777216):AM tt.get hp top [67,67] (.slice none 0 0) x=some (AA top (AE.rd hp x), [(top,AD AE (AE.rd hp x))],top+1):=Cx DG FC rfl C4 rfl rfl hx hn
@[go_sem] theorem JZ {hp:Hp}{b top k:Nat}{l:List (List UInt8)}(h:hp b=AD AE l)(hk:hp k=some (.cells true 1 (cellsOf (hp k))))(hc:AE.enc (AE.dec (cellsOf (hp k)))=cellsOf (hp k))(hn:C5 (l.length+1) rK.bytes=true):AM tt.get hp top [67,67] (AA b l) (.slice (some ⟨k,0,none⟩) 1 1)=some (AA top (l ++ [AE.dec (cellsOf (hp k))]),CC b l top (AD AE (l ++ [AE.dec (cellsOf (hp k))])),top+1):=D2 DG FC rfl C4 rfl rfl h hk hc hn
@[go_sem] theorem tB {hp:Hp}{x:Value}{top:Nat}(hx:GQ AE hp x)(hn:C5 (AE.rd hp x).length rK.bytes=true):AM tt.get hp top [67,67] (.slice none 0 0) x=some (AA top (AE.rd hp x), [(top,AD AE (AE.rd hp x))],top+1):=Ce DG FC rfl C4 rfl rfl hx hn
@[go_sem] theorem tv {hp:Hp}{top k:Nat}(hk:hp k=some (.cells true 1 (cellsOf (hp k))))(hc:AE.enc (AE.dec (cellsOf (hp k)))=cellsOf (hp k)):AM tt.get hp top [67,67] (.slice none 0 0) (.slice (some ⟨k,0,none⟩) 1 1)=some (AA top [AE.dec (cellsOf (hp k))], [(top,AD AE [AE.dec (cellsOf (hp k))])],top+1):=Ci DG FC rfl C4 rfl rfl hk hc
@[go_sem] theorem wR {hp:Hp}{b top:Nat}{l l2:List (List UInt8)}(h:hp b=AD AE l):hp.Av (CC b l top (AD AE l2))=(hp.set b none).set top (AD AE l2):=FF h
@[go_sem] theorem xb {hp:Hp}{b:Nat}{l:List (List UInt8)}{i:Nat}(h:hp b=AD AE l)(hi:i < l.length){x:List UInt8}:Bg tt.get hp 9 (Ag (AA b l) (i * 1)) (.string ⟨⟨x⟩⟩)=([(b,AD AE (l.set i x))],True):=BF (f:=0) C4 h hi rfl (by decide) rfl rfl
@[go_sem] theorem DR {b:Nat}{l:List (List UInt8)}{hp2:Hp}:CF tt.get hp2 67 (AA b l)=(.int .i64 (l.length:Int),True):=by cases l with | nil=>unfold CF AA;simp only [DG,D9,FC,W2];rfl | cons a l=>unfold CF AA;simp only [DG,D9,FC,W2];rfl
end
section
theorem Xb {hp:Hp}{v:Value}{l:List (Int)}(h:BP AY hp v l){hp':Hp}:CF tt.get hp' 68 v=(.int .i64 (l.length:Int),True):=h.K8 Fs
theorem Ib {hp:Hp}{v:Value}{l:List (Int)}(h:BP AY hp v l){k:IntKind}{n:Int}(h0:0≤n)(h1:n < l.length):Aa tt.get 68 v (.int k n)=(Ag v (n.toNat * 1),True):=h.idx Fs BX rfl h0 h1
theorem M6 {hp:Hp}{v:Value}{l:List (Int)}(h:BP AY hp v l){i:Nat}(hi:i < l.length):A4 tt.get hp 3 (Ag v (i * 1))=(.int .i64 (at' l i),True):=h.cell (f:=0) BX rfl hi (by decide)
theorem ADi {hp:Hp}{v:Value}{l:List (Int)}(h:BP AY hp v l){k:IntKind}{n:Int}(h0:0≤n)(h1:n≤l.length):Bv tt.get hp 68 v none (some (.int k n))=(Jo 1 v 0 n.toNat,True):=h.cV Fs BX h0 h1
theorem ADL {hp:Hp}{v:Value}{l:List (Int)}(h:BP AY hp v l){k:IntKind}{n:Int}(h0:0≤n)(h1:n≤l.length):Bv tt.get hp 68 v (some (.int k n)) none=(Fy 1 v n.toNat,True):=h.dE Fs BX rfl h0 h1
@[go_sem] theorem ACu {hp:Hp}{x:Value}{b top:Nat}{l:List (Int)}(h:hp b=AD AY l)(hx:GQ AY hp x)(hn:l.length+(AY.rd hp x).length≤16777216):AM tt.get hp top [68,68] (AA b l) x=some (AA top (l ++ AY.rd hp x),CC b l top (AD AY (l ++ AY.rd hp x)),top+1):=C0 Fs HP rfl BX rfl rfl h hx hn
@[go_sem] theorem ACR {hp:Hp}{x:Value}{top:Nat}(hx:GQ AY hp x)(hn:(AY.rd hp x).length≤16777216):AM tt.get hp top [68,68] (.slice none 0 0) x=some (AA top (AY.rd hp x), [(top,AD AY (AY.rd hp x))],top+1):=Cx Fs HP rfl BX rfl rfl hx hn
@[go_sem] theorem N1 {hp:Hp}{b top k:Nat}{l:List (Int)}(h:hp b=AD AY l)(hk:hp k=some (.cells true 1 (cellsOf (hp k))))(hc:AY.enc (AY.dec (cellsOf (hp k)))=cellsOf (hp k))(hn:C5 (l.length+1) Nb.bytes=true):AM tt.get hp top [68,68] (AA b l) (.slice (some ⟨k,0,none⟩) 1 1)=some (AA top (l ++ [AY.dec (cellsOf (hp k))]),CC b l top (AD AY (l ++ [AY.dec (cellsOf (hp k))])),top+1):=D2 Fs HP rfl BX rfl rfl h hk hc hn
@[go_sem] theorem ACH {hp:Hp}{x:Value}{top:Nat}(hx:GQ AY hp x)(hn:C5 (AY.rd hp x).length Nb.bytes=true):AM tt.get hp top [68,68] (.slice none 0 0) x=some (AA top (AY.rd hp x), [(top,AD AY (AY.rd hp x))],top+1):=Ce Fs HP rfl BX rfl rfl hx hn
@[go_sem] theorem AB8 {hp:Hp}{top k:Nat}(hk:hp k=some (.cells true 1 (cellsOf (hp k))))(hc:AY.enc (AY.dec (cellsOf (hp k)))=cellsOf (hp k)):AM tt.get hp top [68,68] (.slice none 0 0) (.slice (some ⟨k,0,none⟩) 1 1)=some (AA top [AY.dec (cellsOf (hp k))], [(top,AD AY [AY.dec (cellsOf (hp k))])],top+1):=Ci Fs HP rfl BX rfl rfl hk hc
@[go_sem] theorem ADU {hp:Hp}{b top:Nat}{l l2:List (Int)}(h:hp b=AD AY l):hp.Av (CC b l top (AD AY l2))=(hp.set b none).set top (AD AY l2):=FF h
@[go_sem] theorem ADf {hp:Hp}{b:Nat}{l:List (Int)}{i:Nat}(h:hp b=AD AY l)(hi:i < l.length){x:Int}:Bg tt.get hp 3 (Ag (AA b l) (i * 1)) (.int .i64 (x))=([(b,AD AY (l.set i x))],True):=BF (f:=0) BX h hi rfl (by decide) rfl rfl
@[go_sem] theorem LB {b:Nat}{l:List (Int)}{hp2:Hp}:CF tt.get hp2 68 (AA b l)=(.int .i64 (l.length:Int),True):=by cases l with | nil=>unfold CF AA;simp only [Fs,D9,HP,R8];rfl | cons a l=>unfold CF AA;simp only [Fs,D9,HP,R8];rfl
@[go_sem] theorem ABY {hp:Hp}{b top k:Nat}{l:List (Int)}(h:hp b=AD AY l)(hk:hp k=some (.cells true 1 (cellsOf (hp k))))(hc:AY.enc (AY.dec (cellsOf (hp k)))=cellsOf (hp k))(hn:l.length < 16777216):AM tt.get hp top [68,68] (AA b l) (.slice (some ⟨k,0,none⟩) 1 1)=some (AA top (l ++ [AY.dec (cellsOf (hp k))]),CC b l top (AD AY (l ++ [AY.dec (cellsOf (hp k))])),top+1):=Ng Fs HP rfl BX rfl rfl h hk hc hn
end
section
@[go_sem] theorem y8 {hp:Hp}{x:Value}{b top:Nat}{l:List (Int)}(h:hp b=AD A9 l)(hx:GQ A9 hp x)(hn:l.length+(A9.rd hp x).length≤16777216):AM tt.get hp top [69,69] (AA b l) x=some (AA top (l ++ A9.rd hp x),CC b l top (AD A9 (l ++ A9.rd hp x)),top+1):=C0 DT DW rfl F6 rfl rfl h hx hn
@[go_sem] theorem vk {hp:Hp}{x:Value}{top:Nat}(hx:GQ A9 hp x)(hn:(A9.rd hp x).length≤16777216):AM tt.get hp top [69,69] (.slice none 0 0) x=some (AA top (A9.rd hp x), [(top,AD A9 (A9.rd hp x))],top+1):=Cx DT DW rfl F6 rfl rfl hx hn
@[go_sem] theorem uu {hp:Hp}{x:Value}{top:Nat}(hx:GQ A9 hp x)(hn:C5 (A9.rd hp x).length xe.bytes=true):AM tt.get hp top [69,69] (.slice none 0 0) x=some (AA top (A9.rd hp x), [(top,AD A9 (A9.rd hp x))],top+1):=Ce DT DW rfl F6 rfl rfl hx hn
@[go_sem] theorem uS {hp:Hp}{top k:Nat}(hk:hp k=some (.cells true 1 (cellsOf (hp k))))(hc:A9.enc (A9.dec (cellsOf (hp k)))=cellsOf (hp k)):AM tt.get hp top [69,69] (.slice none 0 0) (.slice (some ⟨k,0,none⟩) 1 1)=some (AA top [A9.dec (cellsOf (hp k))], [(top,AD A9 [A9.dec (cellsOf (hp k))])],top+1):=Ci DT DW rfl F6 rfl rfl hk hc
@[go_sem] theorem zE {hp:Hp}{b top:Nat}{l l2:List (Int)}(h:hp b=AD A9 l):hp.Av (CC b l top (AD A9 l2))=(hp.set b none).set top (AD A9 l2):=FF h
@[go_sem] theorem zJ {hp:Hp}{b:Nat}{l:List (Int)}{i:Nat}(h:hp b=AD A9 l)(hi:i < l.length){x:Int}:Bg tt.get hp 5 (Ag (AA b l) (i * 1)) (.int .u8 (x))=([(b,AD A9 (l.set i x))],True):=BF (f:=0) F6 h hi rfl (by decide) rfl rfl
@[go_sem] theorem yy {b:Nat}{l:List (Int)}{hp2:Hp}:CF tt.get hp2 69 (AA b l)=(.int .i64 (l.length:Int),True):=by cases l with | nil=>unfold CF AA;simp only [DT,D9,DW,T9];rfl | cons a l=>unfold CF AA;simp only [DT,D9,DW,T9];rfl
end
section
@[go_sem] theorem AAd {hp:Hp}{x:Value}{b top:Nat}{l:List (DD)}(h:hp b=AD BT l)(hx:GQ BT hp x)(hn:l.length+(BT.rd hp x).length≤16777216):AM tt.get hp top [183,183] (AA b l) x=some (AA top (l ++ BT.rd hp x),CC b l top (AD BT (l ++ BT.rd hp x)),top+1):=C0 Jf JV rfl OQ rfl rfl h hx hn
@[go_sem] theorem yr {hp:Hp}{x:Value}{top:Nat}(hx:GQ BT hp x)(hn:(BT.rd hp x).length≤16777216):AM tt.get hp top [183,183] (.slice none 0 0) x=some (AA top (BT.rd hp x), [(top,AD BT (BT.rd hp x))],top+1):=Cx Jf JV rfl OQ rfl rfl hx hn
@[go_sem] theorem y9 {hp:Hp}{x:Value}{top:Nat}(hx:GQ BT hp x)(hn:C5 (BT.rd hp x).length TZ.bytes=true):AM tt.get hp top [183,183] (.slice none 0 0) x=some (AA top (BT.rd hp x), [(top,AD BT (BT.rd hp x))],top+1):=Ce Jf JV rfl OQ rfl rfl hx hn
@[go_sem] theorem zH {hp:Hp}{top k:Nat}(hk:hp k=some (.cells true 3 (cellsOf (hp k))))(hc:BT.enc (BT.dec (cellsOf (hp k)))=cellsOf (hp k)):AM tt.get hp top [183,183] (.slice none 0 0) (.slice (some ⟨k,0,none⟩) 1 1)=some (AA top [BT.dec (cellsOf (hp k))], [(top,AD BT [BT.dec (cellsOf (hp k))])],top+1):=Ci Jf JV rfl OQ rfl rfl hk hc
@[go_sem] theorem ABN {hp:Hp}{b top:Nat}{l l2:List (DD)}(h:hp b=AD BT l):hp.Av (CC b l top (AD BT l2))=(hp.set b none).set top (AD BT l2):=FF h
@[go_sem] theorem ACB {hp:Hp}{b:Nat}{l:List (DD)}{i:Nat}(h:hp b=AD BT l)(hi:i < l.length){a0:Int}{a1:Int}{a2:Int}:Bg tt.get hp 233 (Ag (AA b l) (i * 3)) (.agg ⟨[.int .i64 (a0), .int .i64 (a1), .int .i64 (a2)]⟩)=([(b,AD BT (l.set i ⟨a0,a1,a2⟩))],True):=F3 (E:=BT) (cs:=BT.enc ⟨a0,a1,a2⟩) OQ rfl h hi rfl rfl
@[go_sem] theorem wg {hp:Hp}{b:Nat}{l:List (DD)}{i:Nat}(h:hp b=AD BT l)(hi:i < l.length){x:Int}:Bg tt.get hp 3 (Ag (AA b l) (i * 3)) (.int .i64 (x))=([(b,AD BT (l.set i {at' l i with Cj:=x}))],True):=BF (f:=0) BX h hi rfl (by decide) rfl rfl
@[go_sem] theorem vY {hp:Hp}{b:Nat}{l:List (DD)}{i:Nat}(h:hp b=AD BT l)(hi:i < l.length){x:Int}:Bg tt.get hp 3 (Ag (AA b l) (i * 3+1)) (.int .i64 (x))=([(b,AD BT (l.set i {at' l i with To:=x}))],True):=BF (f:=1) BX h hi rfl (by decide) rfl rfl
@[go_sem] theorem xi {hp:Hp}{b:Nat}{l:List (DD)}{i:Nat}(h:hp b=AD BT l)(hi:i < l.length){x:Int}:Bg tt.get hp 3 (Ag (AA b l) (i * 3+2)) (.int .i64 (x))=([(b,AD BT (l.set i {at' l i with EB:=x}))],True):=BF (f:=2) BX h hi rfl (by decide) rfl rfl
@[go_sem] theorem zx {b:Nat}{l:List (DD)}{hp2:Hp}:CF tt.get hp2 183 (AA b l)=(.int .i64 (l.length:Int),True):=by cases l with | nil=>unfold CF AA;simp only [Jf,D9,JV,Qn];rfl | cons a l=>unfold CF AA;simp only [Jf,D9,JV,Qn];rfl
@[go_sem] theorem yT {hp:Hp}{b top k:Nat}{l:List (DD)}(h:hp b=AD BT l)(hk:hp k=some (.cells true 3 (cellsOf (hp k))))(hc:BT.enc (BT.dec (cellsOf (hp k)))=cellsOf (hp k))(hn:l.length < 16777216):AM tt.get hp top [183,183] (AA b l) (.slice (some ⟨k,0,none⟩) 1 1)=some (AA top (l ++ [BT.dec (cellsOf (hp k))]),CC b l top (AD BT (l ++ [BT.dec (cellsOf (hp k))])),top+1):=Ng Jf JV rfl OQ rfl rfl h hk hc hn
end
section
@[go_sem] theorem ABb {hp:Hp}{x:Value}{b top:Nat}{l:List (HO)}(h:hp b=AD CB l)(hx:GQ CB hp x)(hn:l.length+(CB.rd hp x).length≤16777216):AM tt.get hp top [228,228] (AA b l) x=some (AA top (l ++ CB.rd hp x),CC b l top (AD CB (l ++ CB.rd hp x)),top+1):=C0 LF LC rfl Rr rfl rfl h hx hn
@[go_sem] theorem yX {hp:Hp}{x:Value}{top:Nat}(hx:GQ CB hp x)(hn:(CB.rd hp x).length≤16777216):AM tt.get hp top [228,228] (.slice none 0 0) x=some (AA top (CB.rd hp x), [(top,AD CB (CB.rd hp x))],top+1):=Cx LF LC rfl Rr rfl rfl hx hn
@[go_sem] theorem zG {hp:Hp}{x:Value}{top:Nat}(hx:GQ CB hp x)(hn:C5 (CB.rd hp x).length S7.bytes=true):AM tt.get hp top [228,228] (.slice none 0 0) x=some (AA top (CB.rd hp x), [(top,AD CB (CB.rd hp x))],top+1):=Ce LF LC rfl Rr rfl rfl hx hn
@[go_sem] theorem yV {hp:Hp}{top k:Nat}(hk:hp k=some (.cells true 5 (cellsOf (hp k))))(hc:CB.enc (CB.dec (cellsOf (hp k)))=cellsOf (hp k)):AM tt.get hp top [228,228] (.slice none 0 0) (.slice (some ⟨k,0,none⟩) 1 1)=some (AA top [CB.dec (cellsOf (hp k))], [(top,AD CB [CB.dec (cellsOf (hp k))])],top+1):=Ci LF LC rfl Rr rfl rfl hk hc
@[go_sem] theorem AA6 {hp:Hp}{b:Nat}{l:List (HO)}{i:Nat}(h:hp b=AD CB l)(hi:i < l.length){a0:Int}{a1:Int}{a2:Int}{a3:Int}{a4:List UInt8}:Bg tt.get hp 282 (Ag (AA b l) (i * 5)) (.agg ⟨[.int .u64 (a0), .int .i64 (a1), .int .i64 (a2), .int .i64 (a3), .string ⟨⟨a4⟩⟩]⟩)=([(b,AD CB (l.set i ⟨a0,a1,a2,a3,a4⟩))],True):=F3 (E:=CB) (cs:=CB.enc ⟨a0,a1,a2,a3,a4⟩) Rr rfl h hi rfl rfl
@[go_sem] theorem wC {hp:Hp}{b:Nat}{l:List (HO)}{i:Nat}(h:hp b=AD CB l)(hi:i < l.length){x:Int}:Bg tt.get hp 106 (Ag (AA b l) (i * 5)) (.int .u64 (x))=([(b,AD CB (l.set i {at' l i with at_:=x}))],True):=BF (f:=0) lC h hi rfl (by decide) rfl rfl
@[go_sem] theorem wq {hp:Hp}{b:Nat}{l:List (HO)}{i:Nat}(h:hp b=AD CB l)(hi:i < l.length){x:Int}:Bg tt.get hp 3 (Ag (AA b l) (i * 5+1)) (.int .i64 (x))=([(b,AD CB (l.set i {at' l i with Mc:=x}))],True):=BF (f:=1) BX h hi rfl (by decide) rfl rfl
@[go_sem] theorem AAY {b:Nat}{l:List (HO)}{hp2:Hp}:CF tt.get hp2 228 (AA b l)=(.int .i64 (l.length:Int),True):=by cases l with | nil=>unfold CF AA;simp only [LF,D9,LC,Qc];rfl | cons a l=>unfold CF AA;simp only [LF,D9,LC,Qc];rfl
end
def Uu:KT tt.get 3 Int:=⟨fun a=> .int .i64 (a),fun a b=>by simp [Jt,BX,Nb,LU],fun a=>by simp [Kp,BX,Nb],fun a=>rfl,fun a=>by simp [Instr.sameBits],fun ρ a=>rfl⟩
@[go_sem] theorem sZ {hp:Hp}{b:Nat}{k:Value}{ok:Bool}:Gm tt.get hp 136 (.map (some b)) k ok=(match hp b with | some (.map es _)=>JC tt.get 3 Nb.zero k es ok | _=>(undef,False)):=PN J9 BX BX
@[go_sem] theorem q8 {hp:Hp}{b:Nat}{k x:Value}:Eg tt.get hp 136 (.map (some b)) k x=(match hp b with | some (.map es CI)=>GD tt.get 3 b k x es CI | _=>none):=Ks J9 BX
def Dq (a:Int):Value:= .int .i64 (a)
abbrev GO:=List (Int×Int×Nat)
def Dn (m:GO):List MapEntry:=m.map (MR Uu.ek Dq)
@[go_sem] theorem sH {z:Value}{m:GO}{a0:Int}:JC tt.get 3 z (.int .i64 (a0)) (Dn m) false=(((Jp m a0).map Dq).getD z,True):=hY Uu Dq m a0
@[go_sem] theorem se {x:Option (Int)}:(x.map Dq).getD (.int .i64 (0))=Dq (x.getD default):=by cases x <;> rfl
theorem Ua {ρ:Nat→Nat}{m:GO}:(Dn m).map (Rv ρ)=Dn m:=Qh (fun _=>rfl) (fun _=>rfl) m
@[go_sem] theorem ri {b CI:Nat}{m:GO}{a0:Int}{b0:Int}:GD tt.get 3 b (.int .i64 (a0)) (.int .i64 (b0)) (Dn m) CI=some [(b,some (.map (Dn (NR m a0 b0 CI)) (Um m a0 CI)))]:=Oo Uu Dq b m CI a0 b0
def UZ:KT tt.get 202 HQ:=⟨fun a=> .agg ⟨Up.enc a⟩,fun a b=>by
  obtain ⟨a0,a1⟩:=a;obtain ⟨b0,b1⟩:=b
  simp only [Jt,Yt,Qu,eqFields,Dg,Nb,BX,Nb,BX,H6,Pw,LU,List.drop_zero,List.drop_succ_cons,HQ.mk.injEq,if_true]
  by_cases h0:a0=b0 <;> by_cases h1:a1=b1 <;> simp [h0,h1],fun a=>by
  simp [Kp,Fw,Dg,Yt,Qu,Nb,BX,Nb,BX,H6,Pw],fun a=>by simp [plain,Pw],fun a=>PY (fun v h=>by simp [Pw] at h;rcases h with rfl | rfl <;> simp [Instr.sameBits]),fun ρ a=>rfl⟩
@[go_sem] theorem nM {hp:Hp}{b:Nat}{k x:Value}:Eg tt.get hp 192 (.map (some b)) k x=(match hp b with | some (.map es CI)=>GD tt.get 202 b k x es CI | _=>none):=Ks Ms Yt
def Eu (a:Int):Value:= .int .i64 (a)
abbrev Dk:=List (HQ×Int×Nat)
def Dy (m:Dk):List MapEntry:=m.map (MR UZ.ek Eu)
@[go_sem] theorem nV {x:Option (Int)}:(x.map Eu).getD (.int .i64 (0))=Eu (x.getD default):=by cases x <;> rfl
theorem R1 {ρ:Nat→Nat}{m:Dk}:(Dy m).map (Rv ρ)=Dy m:=Qh (fun _=>rfl) (fun _=>rfl) m
@[go_sem] theorem nQ {b CI:Nat}{m:Dk}{a0 a1:Int}{b0:Int}:GD tt.get 202 b (.agg ⟨[.int .i64 (a0), .int .i64 (a1)]⟩) (.int .i64 (b0)) (Dy m) CI=some [(b,some (.map (Dy (NR m ⟨a0,a1⟩ b0 CI)) (Um m ⟨a0,a1⟩ CI)))]:=Oo UZ Eu b m CI ⟨a0,a1⟩ b0
def Ff (a:Bool):Value:= .bool (a)
abbrev H3:=List (HQ×Bool×Nat)
def FL (m:H3):List MapEntry:=m.map (MR UZ.ek Ff)
@[go_sem] theorem lB {x:Option (Bool)}:(x.map Ff).getD (.bool (false))=Ff (x.getD default):=by cases x <;> rfl
theorem QW {ρ:Nat→Nat}{m:H3}:(FL m).map (Rv ρ)=FL m:=Qh (fun _=>rfl) (fun _=>rfl) m
def GC (a:Bool):Value:= .bool (a)
abbrev Ja:=List (Int×Bool×Nat)
def GA (m:Ja):List MapEntry:=m.map (MR Uu.ek GC)
@[go_sem] theorem nT {x:Option (Bool)}:(x.map GC).getD (.bool (false))=GC (x.getD default):=by cases x <;> rfl
theorem R4 {ρ:Nat→Nat}{m:Ja}:(GA m).map (Rv ρ)=GA m:=Qh (fun _=>rfl) (fun _=>rfl) m
def MT:KT tt.get 248 D0:=⟨fun a=> .agg ⟨LA.enc a⟩,fun a b=>by
  obtain ⟨a0,a1,a2⟩:=a;obtain ⟨b0,b1,b2⟩:=b
  simp only [Jt,Ky,QH,eqFields,Dg,Nb,BX,Nb,BX,Nb,BX,H6,JB,LU,List.drop_zero,List.drop_succ_cons,D0.mk.injEq,if_true]
  by_cases h0:a0=b0 <;> by_cases h1:a1=b1 <;> by_cases h2:a2=b2 <;> simp [h0,h1,h2],fun a=>by
  simp [Kp,Fw,Dg,Ky,QH,Nb,BX,Nb,BX,Nb,BX,H6,JB],fun a=>by simp [plain,JB],fun a=>PY (fun v h=>by simp [JB] at h;rcases h with rfl | rfl | rfl <;> simp [Instr.sameBits]),fun ρ a=>rfl⟩
@[go_sem] theorem ai {hp:Hp}{b:Nat}{k:Value}{ok:Bool}:Gm tt.get hp 223 (.map (some b)) k ok=(match hp b with | some (.map es _)=>JC tt.get 248 XC.zero k es ok | _=>(undef,False)):=PN Fu Ky HJ
@[go_sem] theorem bf {hp:Hp}{b:Nat}{k x:Value}:Eg tt.get hp 223 (.map (some b)) k x=(match hp b with | some (.map es CI)=>GD tt.get 248 b k x es CI | _=>none):=Ks Fu Ky
def CN (a:BJ):Value:= .agg ⟨AJ.enc a⟩
abbrev DZ:=List (D0×BJ×Nat)
def Bo (m:DZ):List MapEntry:=m.map (MR MT.ek CN)
@[go_sem] theorem ak {z:Value}{m:DZ}{a0 a1 a2:Int}:JC tt.get 248 z (.agg ⟨[.int .i64 (a0), .int .i64 (a1), .int .i64 (a2)]⟩) (Bo m) true=(.tuple ⟨[((Jp m ⟨a0,a1,a2⟩).map CN).getD z, .bool (Jp m ⟨a0,a1,a2⟩).isSome]⟩,True):=Wa MT CN m ⟨a0,a1,a2⟩
@[go_sem] theorem Zl {x:Option (BJ)}:(x.map CN).getD (.agg ⟨[(.int .i64 (0)),(.int .i64 (0)),(.int .i64 (0)),(.int .i64 (0)),(.int .i64 (0))]⟩)=CN (x.getD default):=by cases x <;> rfl
theorem NM {ρ:Nat→Nat}{m:DZ}:(Bo m).map (Rv ρ)=Bo m:=Qh (fun _=>rfl) (fun _=>rfl) m
@[go_sem] theorem bM {b CI:Nat}{m:DZ}{a0 a1 a2:Int}{b0 b1 b2 b3 b4:Int}:GD tt.get 248 b (.agg ⟨[.int .i64 (a0), .int .i64 (a1), .int .i64 (a2)]⟩) (.agg ⟨[.int .i64 (b0), .int .i64 (b1), .int .i64 (b2), .int .i64 (b3), .int .i64 (b4)]⟩) (Bo m) CI=some [(b,some (.map (Bo (NR m ⟨a0,a1,a2⟩ ⟨b0,b1,b2,b3,b4⟩ CI)) (Um m ⟨a0,a1,a2⟩ CI)))]:=Oo MT CN b m CI ⟨a0,a1,a2⟩ ⟨b0,b1,b2,b3,b4⟩
theorem NX {s d:TypeId}{k1 k2:IntKind}{hp:Hp}{x:Value}(h1:kindOf tt.get s=some (.int k1))(h2:kindOf tt.get d=some (.int k2)):CU tt.get hp s d x=(.int k2 (Ap k2 (intOf x)),SD x):=by
 unfold CU
 simp only [h1,h2,QF]
@[go_sem] theorem ADy {hp:Hp}{x:Value}:CU tt.get hp 3 5 x=(.int .u8 (Ap .u8 (intOf x)),SD x):=NX TB JT
@[go_sem] theorem ADC {hp:Hp}{x:Value}:CU tt.get hp 3 41 x=(.int .u32 (Ap .u32 (intOf x)),SD x):=NX TB Nd
@[go_sem] theorem zW {hp:Hp}{x:Value}:CU tt.get hp 3 106 x=(.int .u64 (Ap .u64 (intOf x)),SD x):=NX TB XT
@[go_sem] theorem ADw {hp:Hp}{x:Value}:CU tt.get hp 5 3 x=(.int .i64 (Ap .i64 (intOf x)),SD x):=NX JT TB
@[go_sem] theorem ADe {hp:Hp}{x:Value}:CU tt.get hp 41 3 x=(.int .i64 (Ap .i64 (intOf x)),SD x):=NX Nd TB
attribute [go_sem_proc] reduceIte reduceCtorEq Nat.reduceAdd Nat.reduceMul Nat.reduceSub Nat.reduceLT Nat.reduceLeDiff Nat.reduceEqDiff Int.reduceEq Int.reduceLT Int.reduceLE Int.reduceNe
attribute [simp] Ge Jk eI Az Co iJ bx Gd.nil Gd.cons Y6 YE kn AP EF DE Ab B8.FO AG AZ Bt CG BQ.set BQ.MP BQ.refl Ua R1 QW R4 NM
attribute [go_sem] Dq
attribute [go_sem] Eu
attribute [go_sem] Ff
attribute [go_sem] GC
attribute [go_sem] CN
end Go.Proofs.YthlhnangbinhoaaGreatDoor.Dm
