/- yp on the types of this seat; how their data lie in memory. -/
import Derived.Test.YthlhnangbinhoaaGreatDoorDmTab
import Derived.Test.YthlhnangbinhoaaGreatDoorDmH
namespace Go.Proofs.YthlhnangbinhoaaGreatDoor.Dm
open Go.Dm
attribute [go_sem]ti2 MT xH yk tK xF fS xG fT fU fV qx ZW qy l8 Xo fX Xp fY l9 qz q6 ZX VX Xq xI q7 Xr ZY Xs xJ cE cF lQ cG lS lT lV lW Xg lX Tl lY lZ la lf lg lh Tm cH cI Xh Xi Xj cJ lj cK Tn Tp cL cM cN Tq cO lk ll cP Xk cQ Ts cR Xl ln lq Tt lr lu lx ly lz l5 l6 l7 Xm Xn
@[go_sem]theorem BX:tt.get 3=some MT:=by kernel_rfl
@[go_sem]theorem ADz:Ba tt.get 3=0:=by kernel_rfl
@[go_sem] theorem Q0:kindOf tt.get 3=some (.int .i64):=by kernel_rfl
@[go_sem]theorem AFI{op:BinOp}{xo yo:Operand}{x y:Value}:Cv tt.get op 3 xo yo x y=Lt op .i64 x y:=K5 Q0
@[go_sem]theorem Ke:tt.get 4=some xH:=by kernel_rfl
@[go_sem] theorem vA:kindOf tt.get 4=some (.bool):=by kernel_rfl
@[go_sem]theorem AEv{op:BinOp}{xo yo:Operand}{x y:Value}:Cv tt.get op 4 xo yo x y=Rf op x y:=ZF vA
@[go_sem]theorem Fu:tt.get 5=some yk:=by kernel_rfl
@[go_sem] theorem I8:kindOf tt.get 5=some (.int .u8):=by kernel_rfl
@[go_sem]theorem ADg{op:BinOp}{xo yo:Operand}{x y:Value}:Cv tt.get op 5 xo yo x y=Lt op .u8 x y:=K5 I8
@[go_sem]theorem DH:tt.get 9=some tK:=by kernel_rfl
@[go_sem] theorem F7:kindOf tt.get 9=some (.string):=by kernel_rfl
@[go_sem]theorem ACQ{op:BinOp}{xo yo:Operand}{x y:Value}:Cv tt.get op 9 xo yo x y=Rg op x y:=ep F7
@[go_sem]theorem tJ:tt.get 20=some fS:=by kernel_rfl
@[go_sem] theorem AFJ {op:BinOp}{xo yo:Operand}{x y:Value}:Cv tt.get op 20 xo yo x y=KZ (DC tt.get op 20 xo yo x y):=K6 (by kernel_rfl)
@[go_sem]theorem JP:tt.get 22=some fT:=by kernel_rfl
@[go_sem] theorem GZ:kindOf tt.get 22=some (.slice 79):=by kernel_rfl
@[go_sem]theorem JR:tt.get 23=some fU:=by kernel_rfl
@[go_sem] theorem Ga:kindOf tt.get 23=some (.slice 81):=by kernel_rfl
@[go_sem]theorem JS:tt.get 24=some fV:=by kernel_rfl
@[go_sem] theorem Gb:kindOf tt.get 24=some (.slice 83):=by kernel_rfl
@[go_sem]theorem ADb:tt.get 26=some qx:=by kernel_rfl
@[go_sem]theorem zT:Ba tt.get 26=0:=by kernel_rfl
@[go_sem] theorem uo {b o:Nat}:AG tt.get 26 (.pointer (some ⟨b,o,none⟩)) 0=(.pointer (some ⟨b,o,none⟩),True):=by unfold AG;rw [show AV tt.get 26 (.pointer (some ⟨b,o,none⟩)) 0=some (.pointer (some ⟨b,o,none⟩)) from by kernel_rfl]
@[go_sem] theorem uq {b o:Nat}:AG tt.get 26 (.pointer (some ⟨b,o,none⟩)) 1=(.pointer (some ⟨b,o+1,none⟩),True):=by unfold AG;rw [show AV tt.get 26 (.pointer (some ⟨b,o,none⟩)) 1=some (.pointer (some ⟨b,o+1,none⟩)) from by kernel_rfl]
@[go_sem] theorem ur {b o:Nat}:AG tt.get 26 (.pointer (some ⟨b,o,none⟩)) 2=(.pointer (some ⟨b,o+2,none⟩),True):=by unfold AG;rw [show AV tt.get 26 (.pointer (some ⟨b,o,none⟩)) 2=some (.pointer (some ⟨b,o+2,none⟩)) from by kernel_rfl]
@[go_sem] theorem uu {b o:Nat}:AG tt.get 26 (.pointer (some ⟨b,o,none⟩)) 3=(.pointer (some ⟨b,o+3,none⟩),True):=by unfold AG;rw [show AV tt.get 26 (.pointer (some ⟨b,o,none⟩)) 3=some (.pointer (some ⟨b,o+3,none⟩)) from by kernel_rfl]
@[go_sem] theorem uw {b o:Nat}:AG tt.get 26 (.pointer (some ⟨b,o,none⟩)) 4=(.pointer (some ⟨b,o+4,none⟩),True):=by unfold AG;rw [show AV tt.get 26 (.pointer (some ⟨b,o,none⟩)) 4=some (.pointer (some ⟨b,o+4,none⟩)) from by kernel_rfl]
@[go_sem] theorem ux {b o:Nat}:AG tt.get 26 (.pointer (some ⟨b,o,none⟩)) 5=(.pointer (some ⟨b,o+5,none⟩),True):=by unfold AG;rw [show AV tt.get 26 (.pointer (some ⟨b,o,none⟩)) 5=some (.pointer (some ⟨b,o+5,none⟩)) from by kernel_rfl]
@[go_sem] theorem uy {b o:Nat}:AG tt.get 26 (.pointer (some ⟨b,o,none⟩)) 6=(.pointer (some ⟨b,o+6,none⟩),True):=by unfold AG;rw [show AV tt.get 26 (.pointer (some ⟨b,o,none⟩)) 6=some (.pointer (some ⟨b,o+6,none⟩)) from by kernel_rfl]
@[go_sem]theorem PO:tt.get 27=some ZW:=by kernel_rfl
@[go_sem] theorem Lh:kindOf tt.get 27=some (.slice 43):=by kernel_rfl
@[go_sem]theorem ACB:tt.get 29=some qy:=by kernel_rfl
@[go_sem]theorem xb:Ba tt.get 29=0:=by kernel_rfl
@[go_sem] theorem sd {b o:Nat}:AG tt.get 29 (.pointer (some ⟨b,o,none⟩)) 0=(.pointer (some ⟨b,o,none⟩),True):=by unfold AG;rw [show AV tt.get 29 (.pointer (some ⟨b,o,none⟩)) 0=some (.pointer (some ⟨b,o,none⟩)) from by kernel_rfl]
@[go_sem] theorem se {b o:Nat}:AG tt.get 29 (.pointer (some ⟨b,o,none⟩)) 1=(.pointer (some ⟨b,o+7,none⟩),True):=by unfold AG;rw [show AV tt.get 29 (.pointer (some ⟨b,o,none⟩)) 1=some (.pointer (some ⟨b,o+7,none⟩)) from by kernel_rfl]
@[go_sem]theorem qo:tt.get 30=some l8:=by kernel_rfl
@[go_sem] theorem ot:kindOf tt.get 30=some (.int .i64):=by kernel_rfl
@[go_sem]theorem ADe{op:BinOp}{xo yo:Operand}{x y:Value}:Cv tt.get op 30 xo yo x y=Lt op .i64 x y:=K5 ot
@[go_sem]theorem P6:tt.get 38=some Xo:=by kernel_rfl
@[go_sem]theorem zV:Ba tt.get 38=0:=by kernel_rfl
@[go_sem] theorem ADf {op:BinOp}{xo yo:Operand}{x y:Value}:Cv tt.get op 38 xo yo x y=KZ (DC tt.get op 38 xo yo x y):=K6 (by kernel_rfl)
@[go_sem]theorem Rv:tt.get 41=some fX:=by kernel_rfl
@[go_sem] theorem M7:kindOf tt.get 41=some (.int .u32):=by kernel_rfl
@[go_sem]theorem ACR{op:BinOp}{xo yo:Operand}{x y:Value}:Cv tt.get op 41 xo yo x y=Lt op .u32 x y:=K5 M7
@[go_sem]theorem Rt:tt.get 43=some Xp:=by kernel_rfl
@[go_sem]theorem AE5:Ba tt.get 43=0:=by kernel_rfl
@[go_sem] theorem ADG {b o:Nat}:AG tt.get 43 (.pointer (some ⟨b,o,none⟩)) 0=(.pointer (some ⟨b,o,none⟩),True):=by unfold AG;rw [show AV tt.get 43 (.pointer (some ⟨b,o,none⟩)) 0=some (.pointer (some ⟨b,o,none⟩)) from by kernel_rfl]
@[go_sem] theorem ADH {b o:Nat}:AG tt.get 43 (.pointer (some ⟨b,o,none⟩)) 1=(.pointer (some ⟨b,o+1,none⟩),True):=by unfold AG;rw [show AV tt.get 43 (.pointer (some ⟨b,o,none⟩)) 1=some (.pointer (some ⟨b,o+1,none⟩)) from by kernel_rfl]
@[go_sem] theorem ADI {b o:Nat}:AG tt.get 43 (.pointer (some ⟨b,o,none⟩)) 2=(.pointer (some ⟨b,o+2,none⟩),True):=by unfold AG;rw [show AV tt.get 43 (.pointer (some ⟨b,o,none⟩)) 2=some (.pointer (some ⟨b,o+2,none⟩)) from by kernel_rfl]
@[go_sem] theorem ADJ {b o:Nat}:AG tt.get 43 (.pointer (some ⟨b,o,none⟩)) 3=(.pointer (some ⟨b,o+3,none⟩),True):=by unfold AG;rw [show AV tt.get 43 (.pointer (some ⟨b,o,none⟩)) 3=some (.pointer (some ⟨b,o+3,none⟩)) from by kernel_rfl]
@[go_sem] theorem ADK {b o:Nat}:AG tt.get 43 (.pointer (some ⟨b,o,none⟩)) 4=(.pointer (some ⟨b,o+4,none⟩),True):=by unfold AG;rw [show AV tt.get 43 (.pointer (some ⟨b,o,none⟩)) 4=some (.pointer (some ⟨b,o+4,none⟩)) from by kernel_rfl]
@[go_sem] theorem ADL {b o:Nat}:AG tt.get 43 (.pointer (some ⟨b,o,none⟩)) 5=(.pointer (some ⟨b,o+5,none⟩),True):=by unfold AG;rw [show AV tt.get 43 (.pointer (some ⟨b,o,none⟩)) 5=some (.pointer (some ⟨b,o+5,none⟩)) from by kernel_rfl]
@[go_sem] theorem ADM {b o:Nat}:AG tt.get 43 (.pointer (some ⟨b,o,none⟩)) 6=(.pointer (some ⟨b,o+6,none⟩),True):=by unfold AG;rw [show AV tt.get 43 (.pointer (some ⟨b,o,none⟩)) 6=some (.pointer (some ⟨b,o+6,none⟩)) from by kernel_rfl]
@[go_sem]theorem Na:tt.get 51=some fY:=by kernel_rfl
@[go_sem]theorem mm:Ba tt.get 51=0:=by kernel_rfl
@[go_sem] theorem rC {op:BinOp}{xo yo:Operand}{x y:Value}:Cv tt.get op 51 xo yo x y=KZ (DC tt.get op 51 xo yo x y):=K6 (by kernel_rfl)
@[go_sem] theorem eD {xo yo:Operand}{a:Option Addr}:DC tt.get .neq 51 xo yo (.pointer a) (.pointer none)=some (.bool (!a.isNone)):=by cases a <;> simp [DC,Ij,Na,fY]
@[go_sem]theorem SX:tt.get 53=some l9:=by kernel_rfl
@[go_sem]theorem tI:tt.get 55=some qz:=by kernel_rfl
@[go_sem] theorem iU {b o:Nat}:AG tt.get 55 (.pointer (some ⟨b,o,none⟩)) 0=(.pointer (some ⟨b,o,none⟩),True):=by unfold AG;rw [show AV tt.get 55 (.pointer (some ⟨b,o,none⟩)) 0=some (.pointer (some ⟨b,o,none⟩)) from by kernel_rfl]
@[go_sem] theorem iV {b o:Nat}:AG tt.get 55 (.pointer (some ⟨b,o,none⟩)) 1=(.pointer (some ⟨b,o+1,none⟩),True):=by unfold AG;rw [show AV tt.get 55 (.pointer (some ⟨b,o,none⟩)) 1=some (.pointer (some ⟨b,o+1,none⟩)) from by kernel_rfl]
@[go_sem]theorem VT:tt.get 57=some q6:=by kernel_rfl
@[go_sem]theorem Sg:Ba tt.get 57=0:=by kernel_rfl
@[go_sem] theorem R5 {b o:Nat}:AG tt.get 57 (.pointer (some ⟨b,o,none⟩)) 0=(.pointer (some ⟨b,o,none⟩),True):=by unfold AG;rw [show AV tt.get 57 (.pointer (some ⟨b,o,none⟩)) 0=some (.pointer (some ⟨b,o,none⟩)) from by kernel_rfl]
@[go_sem] theorem R6 {b o:Nat}:AG tt.get 57 (.pointer (some ⟨b,o,none⟩)) 1=(.pointer (some ⟨b,o+1,none⟩),True):=by unfold AG;rw [show AV tt.get 57 (.pointer (some ⟨b,o,none⟩)) 1=some (.pointer (some ⟨b,o+1,none⟩)) from by kernel_rfl]
@[go_sem]theorem E7:tt.get 67=some ZX:=by kernel_rfl
@[go_sem]theorem uB:Ba tt.get 67=0:=by kernel_rfl
@[go_sem] theorem Bz:kindOf tt.get 67=some (.slice 9):=by kernel_rfl
@[go_sem]theorem HH:tt.get 68=some VX:=by kernel_rfl
@[go_sem] theorem Ey:kindOf tt.get 68=some (.slice 3):=by kernel_rfl
@[go_sem] theorem AEw {op:BinOp}{xo yo:Operand}{x y:Value}:Cv tt.get op 68 xo yo x y=KZ (DC tt.get op 68 xo yo x y):=K6 (by kernel_rfl)
@[go_sem] theorem vM {xo yo:Operand}{a:Option Addr}{n c:Nat}:DC tt.get .eql 68 xo yo (.slice a n c) (.slice none 0 0)=some (.bool (a.isNone)):=by cases a <;> simp [DC,Ij,HH,VX]
@[go_sem]theorem DX:tt.get 69=some Xq:=by kernel_rfl
@[go_sem] theorem DU:kindOf tt.get 69=some (.slice 5):=by kernel_rfl
@[go_sem]theorem yh:tt.get 73=some q7:=by kernel_rfl
def CV:Nat:=BQ * (1+73+4096 * 2)
@[go_sem]theorem tx:Ba tt.get 73=CV:=by kernel_rfl
@[go_sem] theorem n6 {b o:Nat}:AG tt.get 73 (.pointer (some ⟨b,o,none⟩)) 1=(.pointer (some ⟨b,o+1,none⟩),True):=by unfold AG;rw [show AV tt.get 73 (.pointer (some ⟨b,o,none⟩)) 1=some (.pointer (some ⟨b,o+1,none⟩)) from by kernel_rfl]
@[go_sem]theorem HG:tt.get 79=some Xr:=by kernel_rfl
@[go_sem]theorem ACm:Ba tt.get 79=0:=by kernel_rfl
@[go_sem] theorem yI {b o:Nat}:AG tt.get 79 (.pointer (some ⟨b,o,none⟩)) 0=(.pointer (some ⟨b,o,none⟩),True):=by unfold AG;rw [show AV tt.get 79 (.pointer (some ⟨b,o,none⟩)) 0=some (.pointer (some ⟨b,o,none⟩)) from by kernel_rfl]
@[go_sem] theorem yJ {b o:Nat}:AG tt.get 79 (.pointer (some ⟨b,o,none⟩)) 1=(.pointer (some ⟨b,o+1,none⟩),True):=by unfold AG;rw [show AV tt.get 79 (.pointer (some ⟨b,o,none⟩)) 1=some (.pointer (some ⟨b,o+1,none⟩)) from by kernel_rfl]
@[go_sem] theorem yK {b o:Nat}:AG tt.get 79 (.pointer (some ⟨b,o,none⟩)) 2=(.pointer (some ⟨b,o+2,none⟩),True):=by unfold AG;rw [show AV tt.get 79 (.pointer (some ⟨b,o,none⟩)) 2=some (.pointer (some ⟨b,o+2,none⟩)) from by kernel_rfl]
@[go_sem]theorem JO:tt.get 81=some ZY:=by kernel_rfl
@[go_sem]theorem ACn:Ba tt.get 81=0:=by kernel_rfl
@[go_sem] theorem yL {b o:Nat}:AG tt.get 81 (.pointer (some ⟨b,o,none⟩)) 0=(.pointer (some ⟨b,o,none⟩),True):=by unfold AG;rw [show AV tt.get 81 (.pointer (some ⟨b,o,none⟩)) 0=some (.pointer (some ⟨b,o,none⟩)) from by kernel_rfl]
@[go_sem] theorem yM {b o:Nat}:AG tt.get 81 (.pointer (some ⟨b,o,none⟩)) 1=(.pointer (some ⟨b,o+1,none⟩),True):=by unfold AG;rw [show AV tt.get 81 (.pointer (some ⟨b,o,none⟩)) 1=some (.pointer (some ⟨b,o+1,none⟩)) from by kernel_rfl]
@[go_sem] theorem yN {b o:Nat}:AG tt.get 81 (.pointer (some ⟨b,o,none⟩)) 2=(.pointer (some ⟨b,o+2,none⟩),True):=by unfold AG;rw [show AV tt.get 81 (.pointer (some ⟨b,o,none⟩)) 2=some (.pointer (some ⟨b,o+2,none⟩)) from by kernel_rfl]
@[go_sem]theorem Hv:tt.get 83=some Xs:=by kernel_rfl
@[go_sem]theorem ACo:Ba tt.get 83=0:=by kernel_rfl
@[go_sem] theorem yO {b o:Nat}:AG tt.get 83 (.pointer (some ⟨b,o,none⟩)) 0=(.pointer (some ⟨b,o,none⟩),True):=by unfold AG;rw [show AV tt.get 83 (.pointer (some ⟨b,o,none⟩)) 0=some (.pointer (some ⟨b,o,none⟩)) from by kernel_rfl]
@[go_sem] theorem yP {b o:Nat}:AG tt.get 83 (.pointer (some ⟨b,o,none⟩)) 1=(.pointer (some ⟨b,o+1,none⟩),True):=by unfold AG;rw [show AV tt.get 83 (.pointer (some ⟨b,o,none⟩)) 1=some (.pointer (some ⟨b,o+1,none⟩)) from by kernel_rfl]
@[go_sem] theorem yQ {b o:Nat}:AG tt.get 83 (.pointer (some ⟨b,o,none⟩)) 2=(.pointer (some ⟨b,o+2,none⟩),True):=by unfold AG;rw [show AV tt.get 83 (.pointer (some ⟨b,o,none⟩)) 2=some (.pointer (some ⟨b,o+2,none⟩)) from by kernel_rfl]
@[go_sem] theorem yR {b o:Nat}:AG tt.get 83 (.pointer (some ⟨b,o,none⟩)) 3=(.pointer (some ⟨b,o+3,none⟩),True):=by unfold AG;rw [show AV tt.get 83 (.pointer (some ⟨b,o,none⟩)) 3=some (.pointer (some ⟨b,o+3,none⟩)) from by kernel_rfl]
@[go_sem] theorem yS {b o:Nat}:AG tt.get 83 (.pointer (some ⟨b,o,none⟩)) 4=(.pointer (some ⟨b,o+4,none⟩),True):=by unfold AG;rw [show AV tt.get 83 (.pointer (some ⟨b,o,none⟩)) 4=some (.pointer (some ⟨b,o+4,none⟩)) from by kernel_rfl]
@[go_sem]theorem AFG:tt.get 100=some cE:=by kernel_rfl
@[go_sem]theorem AD0:Ba tt.get 100=0:=by kernel_rfl
@[go_sem] theorem AAR {b o:Nat}:AG tt.get 100 (.pointer (some ⟨b,o,none⟩)) 0=(.pointer (some ⟨b,o,none⟩),True):=by unfold AG;rw [show AV tt.get 100 (.pointer (some ⟨b,o,none⟩)) 0=some (.pointer (some ⟨b,o,none⟩)) from by kernel_rfl]
@[go_sem] theorem AAS {b o:Nat}:AG tt.get 100 (.pointer (some ⟨b,o,none⟩)) 1=(.pointer (some ⟨b,o+1,none⟩),True):=by unfold AG;rw [show AV tt.get 100 (.pointer (some ⟨b,o,none⟩)) 1=some (.pointer (some ⟨b,o+1,none⟩)) from by kernel_rfl]
@[go_sem] theorem AAT {b o:Nat}:AG tt.get 100 (.pointer (some ⟨b,o,none⟩)) 2=(.pointer (some ⟨b,o+2,none⟩),True):=by unfold AG;rw [show AV tt.get 100 (.pointer (some ⟨b,o,none⟩)) 2=some (.pointer (some ⟨b,o+2,none⟩)) from by kernel_rfl]
@[go_sem]theorem ACC:tt.get 101=some cF:=by kernel_rfl
@[go_sem]theorem xc:Ba tt.get 101=0:=by kernel_rfl
@[go_sem] theorem AAi:kindOf tt.get 101=some (.array 12 100):=by kernel_rfl
@[go_sem] theorem vB:kindOf tt.get 104=some (.int .u64):=by kernel_rfl
@[go_sem]theorem Xe:tt.get 106=some cG:=by kernel_rfl
@[go_sem] theorem Wt:kindOf tt.get 106=some (.int .u64):=by kernel_rfl
@[go_sem]theorem Xd:tt.get 136=some Xg:=by kernel_rfl
@[go_sem] theorem KL:kindOf tt.get 136=some (.map 3 3):=by kernel_rfl
@[go_sem] theorem o9 {hp:Hp}{b:Nat}:Bv tt.get hp 136 (.map (some b))=(match hp b with | some (.map es _)=>(.int .i64 (Int.ofNat es.length),True) | _=>(undef,False)):=by unfold Bv;simp only [KL,DV,Xd,Xg];cases hp b with | none=>rfl | some o=>cases o <;> rfl
@[go_sem]theorem cD:tt.get 143=some Tl:=by kernel_rfl
@[go_sem]theorem zW:Ba tt.get 143=0:=by kernel_rfl
@[go_sem] theorem uz {b o:Nat}:AG tt.get 143 (.pointer (some ⟨b,o,none⟩)) 0=(.pointer (some ⟨b,o,none⟩),True):=by unfold AG;rw [show AV tt.get 143 (.pointer (some ⟨b,o,none⟩)) 0=some (.pointer (some ⟨b,o,none⟩)) from by kernel_rfl]
@[go_sem]theorem JQ:tt.get 183=some Tm:=by kernel_rfl
@[go_sem] theorem I7:kindOf tt.get 183=some (.slice 233):=by kernel_rfl
@[go_sem]theorem ADa:tt.get 185=some cH:=by kernel_rfl
@[go_sem]theorem zS:Ba tt.get 185=0:=by kernel_rfl
@[go_sem] theorem uk {b o:Nat}:AG tt.get 185 (.pointer (some ⟨b,o,none⟩)) 0=(.pointer (some ⟨b,o,none⟩),True):=by unfold AG;rw [show AV tt.get 185 (.pointer (some ⟨b,o,none⟩)) 0=some (.pointer (some ⟨b,o,none⟩)) from by kernel_rfl]
@[go_sem] theorem um {b o:Nat}:AG tt.get 185 (.pointer (some ⟨b,o,none⟩)) 1=(.pointer (some ⟨b,o+1,none⟩),True):=by unfold AG;rw [show AV tt.get 185 (.pointer (some ⟨b,o,none⟩)) 1=some (.pointer (some ⟨b,o+1,none⟩)) from by kernel_rfl]
@[go_sem]theorem ADc:tt.get 188=some cI:=by kernel_rfl
@[go_sem]theorem VV:tt.get 192=some Xh:=by kernel_rfl
@[go_sem] theorem M6:kindOf tt.get 192=some (.map 202 3):=by kernel_rfl
@[go_sem] theorem mw {hp:Hp}{b:Nat}:Bv tt.get hp 192 (.map (some b))=(match hp b with | some (.map es _)=>(.int .i64 (Int.ofNat es.length),True) | _=>(undef,False)):=by unfold Bv;simp only [M6,DV,VV,Xh];cases hp b with | none=>rfl | some o=>cases o <;> rfl
@[go_sem]theorem SW:tt.get 193=some Xi:=by kernel_rfl
@[go_sem] theorem SH:kindOf tt.get 193=some (.map 202 4):=by kernel_rfl
@[go_sem] theorem jV {hp:Hp}{b:Nat}:Bv tt.get hp 193 (.map (some b))=(match hp b with | some (.map es _)=>(.int .i64 (Int.ofNat es.length),True) | _=>(undef,False)):=by unfold Bv;simp only [SH,DV,SW,Xi];cases hp b with | none=>rfl | some o=>cases o <;> rfl
@[go_sem]theorem VU:tt.get 194=some Xj:=by kernel_rfl
@[go_sem] theorem Uw:kindOf tt.get 194=some (.map 3 4):=by kernel_rfl
@[go_sem] theorem mv {hp:Hp}{b:Nat}:Bv tt.get hp 194 (.map (some b))=(match hp b with | some (.map es _)=>(.int .i64 (Int.ofNat es.length),True) | _=>(undef,False)):=by unfold Bv;simp only [Uw,DV,VU,Xj];cases hp b with | none=>rfl | some o=>cases o <;> rfl
@[go_sem]theorem ADd:tt.get 195=some cJ:=by kernel_rfl
@[go_sem]theorem yj:tt.get 200=some cK:=by kernel_rfl
@[go_sem] theorem n7 {b o:Nat}:AG tt.get 200 (.pointer (some ⟨b,o,none⟩)) 1=(.pointer (some ⟨b,o+1,none⟩),True):=by unfold AG;rw [show AV tt.get 200 (.pointer (some ⟨b,o,none⟩)) 1=some (.pointer (some ⟨b,o+1,none⟩)) from by kernel_rfl]
@[go_sem]theorem ZV:tt.get 202=some Tn:=by kernel_rfl
@[go_sem]theorem ACp:Ba tt.get 202=0:=by kernel_rfl
@[go_sem]theorem LB:tt.get 206=some Tp:=by kernel_rfl
@[go_sem] theorem Ku:kindOf tt.get 206=some (.slice 4):=by kernel_rfl
@[go_sem]theorem yi:tt.get 207=some cL:=by kernel_rfl
@[go_sem]theorem tz:Ba tt.get 207=0:=by kernel_rfl
@[go_sem] theorem yU:kindOf tt.get 207=some (.array 25 4):=by kernel_rfl
@[go_sem]theorem ACD:tt.get 208=some cM:=by kernel_rfl
@[go_sem] theorem AAj:kindOf tt.get 208=some (.array 25 3):=by kernel_rfl
@[go_sem]theorem tH:tt.get 209=some cN:=by kernel_rfl
@[go_sem]theorem Oc:tt.get 210=some Tq:=by kernel_rfl
@[go_sem] theorem OE:kindOf tt.get 210=some (.slice 280):=by kernel_rfl
@[go_sem]theorem Xc:tt.get 212=some cO:=by kernel_rfl
@[go_sem]theorem ACE:tt.get 221=some cP:=by kernel_rfl
@[go_sem]theorem xd:Ba tt.get 221=0:=by kernel_rfl
@[go_sem] theorem AAk:kindOf tt.get 221=some (.array 25 208):=by kernel_rfl
@[go_sem]theorem Ob:tt.get 223=some Xk:=by kernel_rfl
@[go_sem] theorem Fc:kindOf tt.get 223=some (.map 248 83):=by kernel_rfl
@[go_sem] theorem bQ {hp:Hp}{b:Nat}:Bv tt.get hp 223 (.map (some b))=(match hp b with | some (.map es _)=>(.int .i64 (Int.ofNat es.length),True) | _=>(undef,False)):=by unfold Bv;simp only [Fc,DV,Ob,Xk];cases hp b with | none=>rfl | some o=>cases o <;> rfl
@[go_sem]theorem AEp:tt.get 227=some cQ:=by kernel_rfl
@[go_sem]theorem LC:tt.get 228=some Ts:=by kernel_rfl
@[go_sem] theorem Kv:kindOf tt.get 228=some (.slice 282):=by kernel_rfl
@[go_sem]theorem AEq:tt.get 230=some cR:=by kernel_rfl
@[go_sem]theorem Oa:tt.get 233=some Xl:=by kernel_rfl
@[go_sem]theorem LA:tt.get 248=some Tt:=by kernel_rfl
@[go_sem]theorem uA:Ba tt.get 248=0:=by kernel_rfl
@[go_sem]theorem Xb:tt.get 280=some Xm:=by kernel_rfl
@[go_sem]theorem Ru:tt.get 282=some Xn:=by kernel_rfl
def UW:B6 (Int):=⟨fun a=> [.int .i64 (a)],fun l=>intOf ((l[0]?).getD undef),1,fun _=>rfl,fun _=>rfl,fun _=>rfl⟩
instance:UW.Plain:=⟨fun _ _=>rfl⟩
@[go_sem] theorem AAK (a:Int):UW.enc a= [.int .i64 (a)]:=rfl
@[go_sem] theorem zz (l:List Value):UW.dec l=intOf ((l[0]?).getD undef):=rfl
def AL:B6 (Int):=⟨fun a=> [.int .i64 (a)],fun l=>intOf ((l[0]?).getD undef),1,fun _=>rfl,fun _=>rfl,fun _=>rfl⟩
instance:AL.Plain:=⟨fun _ _=>rfl⟩
@[go_sem] theorem AEG (a:Int):AL.enc a= [.int .i64 (a)]:=rfl
@[go_sem] theorem AED (l:List Value):AL.dec l=intOf ((l[0]?).getD undef):=rfl
def CK:B6 (Bool):=⟨fun a=> [.bool (a)],fun l=>Bs ((l[0]?).getD undef),1,fun _=>rfl,fun _=>rfl,fun _=>rfl⟩
instance:CK.Plain:=⟨fun _ _=>rfl⟩
@[go_sem] theorem ADB (a:Bool):CK.enc a= [.bool (a)]:=rfl
@[go_sem] theorem AC3 (l:List Value):CK.dec l=Bs ((l[0]?).getD undef):=rfl
def A5:B6 (Int):=⟨fun a=> [.int .u8 (a)],fun l=>intOf ((l[0]?).getD undef),1,fun _=>rfl,fun _=>rfl,fun _=>rfl⟩
instance:A5.Plain:=⟨fun _ _=>rfl⟩
@[go_sem] theorem AAL (a:Int):A5.enc a= [.int .u8 (a)]:=rfl
@[go_sem] theorem z7 (l:List Value):A5.dec l=intOf ((l[0]?).getD undef):=rfl
def AB:B6 (List UInt8):=⟨fun a=> [.string ⟨⟨a⟩⟩],fun l=>strOf ((l[0]?).getD undef),1,fun _=>rfl,fun _=>rfl,fun _=>rfl⟩
instance:AB.Plain:=⟨fun _ _=>rfl⟩
@[go_sem] theorem dU (a:List UInt8):AB.enc a= [.string ⟨⟨a⟩⟩]:=rfl
@[go_sem] theorem yB (l:List Value):AB.dec l=strOf ((l[0]?).getD undef):=rfl
def UU:B6 (Int):=⟨fun a=> [.int .i32 (a)],fun l=>intOf ((l[0]?).getD undef),1,fun _=>rfl,fun _=>rfl,fun _=>rfl⟩
instance:UU.Plain:=⟨fun _ _=>rfl⟩
@[go_sem] theorem AAJ (a:Int):UU.enc a= [.int .i32 (a)]:=rfl
@[go_sem] theorem zy (l:List Value):UU.dec l=intOf ((l[0]?).getD undef):=rfl
structure Ki where
 Sf:Int
 SY:Int
 cr:Int
 YA:Int
 Fl:FA
 Links:FA
 LL:FA
instance:Inhabited Ki:=⟨⟨0,0,0,0, .nil, .nil, .nil⟩⟩
instance:DecidableEq Ki:=fun a b=>decidable_of_iff (a.Sf=b.Sf∧a.SY=b.SY∧a.cr=b.cr∧a.YA=b.YA∧a.Fl=b.Fl∧a.Links=b.Links∧a.LL=b.LL) (by cases a;cases b;simp)
def Pp:B6 (Ki):=⟨fun a=> [.int .i64 (a.Sf), .int .i64 (a.SY), .int .i64 (a.cr), .int .i64 (a.YA),(a.Fl).v,(a.Links).v,(a.LL).v],fun l=>⟨intOf ((l[0]?).getD undef),intOf ((l[1]?).getD undef),intOf ((l[2]?).getD undef),intOf ((l[3]?).getD undef),EY ((l[4]?).getD undef),EY ((l[5]?).getD undef),EY ((l[6]?).getD undef)⟩,7,fun a=>by cases a;simp [NN],fun _=>rfl,fun _=>by simp [Au,FA.oc,VA]⟩
instance:Pp.Ra:=⟨fun ρ a=> {a with Fl:=a.Fl.ra ρ,Links:=a.Links.ra ρ,LL:=a.LL.ra ρ},fun ρ a=>by simp[Pp,Cg,Ao,P0]⟩
@[go_sem] theorem AAI (a:Ki):Pp.enc a= [.int .i64 (a.Sf), .int .i64 (a.SY), .int .i64 (a.cr), .int .i64 (a.YA),(a.Fl).v,(a.Links).v,(a.LL).v]:=rfl
@[go_sem]theorem AA3(a:Ki):Ki.mk a.Sf a.SY a.cr a.YA a.Fl a.Links a.LL=a:=rfl
@[go_sem] theorem zx (l:List Value):Pp.dec l=⟨intOf ((l[0]?).getD undef),intOf ((l[1]?).getD undef),intOf ((l[2]?).getD undef),intOf ((l[3]?).getD undef),EY ((l[4]?).getD undef),EY ((l[5]?).getD undef),EY ((l[6]?).getD undef)⟩:=rfl
structure H7 where
 Fy:Int
 Fx:Int
 Gp:Int
 Gn:Int
 DJ:FA
 EB:FA
 EC:FA
 sI:FA
instance:Inhabited H7:=⟨⟨0,0,0,0, .nil, .nil, .nil, .nil⟩⟩
instance:DecidableEq H7:=fun a b=>decidable_of_iff (a.Fy=b.Fy∧a.Fx=b.Fx∧a.Gp=b.Gp∧a.Gn=b.Gn∧a.DJ=b.DJ∧a.EB=b.EB∧a.EC=b.EC∧a.sI=b.sI) (by cases a;cases b;simp)
def Mo:B6 (H7):=⟨fun a=> [.int .i64 (a.Fy), .int .i64 (a.Fx), .int .i64 (a.Gp), .int .i64 (a.Gn),(a.DJ).v,(a.EB).v,(a.EC).v,(a.sI).v],fun l=>⟨intOf ((l[0]?).getD undef),intOf ((l[1]?).getD undef),intOf ((l[2]?).getD undef),intOf ((l[3]?).getD undef),EY ((l[4]?).getD undef),EY ((l[5]?).getD undef),EY ((l[6]?).getD undef),EY ((l[7]?).getD undef)⟩,8,fun a=>by cases a;simp [NN],fun _=>rfl,fun _=>by simp [Au,FA.oc,VA]⟩
instance:Mo.Ra:=⟨fun ρ a=> {a with DJ:=a.DJ.ra ρ,EB:=a.EB.ra ρ,EC:=a.EC.ra ρ,sI:=a.sI.ra ρ},fun ρ a=>by simp[Mo,Cg,Ao,P0]⟩
@[go_sem] theorem yF (a:H7):Mo.enc a= [.int .i64 (a.Fy), .int .i64 (a.Fx), .int .i64 (a.Gp), .int .i64 (a.Gn),(a.DJ).v,(a.EB).v,(a.EC).v,(a.sI).v]:=rfl
@[go_sem]theorem yW(a:H7):H7.mk a.Fy a.Fx a.Gp a.Gn a.DJ a.EB a.EC a.sI=a:=rfl
@[go_sem] theorem yA (l:List Value):Mo.dec l=⟨intOf ((l[0]?).getD undef),intOf ((l[1]?).getD undef),intOf ((l[2]?).getD undef),intOf ((l[3]?).getD undef),EY ((l[4]?).getD undef),EY ((l[5]?).getD undef),EY ((l[6]?).getD undef),EY ((l[7]?).getD undef)⟩:=rfl
def US:B6 (Int):=⟨fun a=> [.int .i64 (a)],fun l=>intOf ((l[0]?).getD undef),1,fun _=>rfl,fun _=>rfl,fun _=>rfl⟩
instance:US.Plain:=⟨fun _ _=>rfl⟩
@[go_sem] theorem AAF (a:Int):US.enc a= [.int .i64 (a)]:=rfl
@[go_sem] theorem zu (l:List Value):US.dec l=intOf ((l[0]?).getD undef):=rfl
def Qj:B6 (Int):=⟨fun a=> [.int .u32 (a)],fun l=>intOf ((l[0]?).getD undef),1,fun _=>rfl,fun _=>rfl,fun _=>rfl⟩
instance:Qj.Plain:=⟨fun _ _=>rfl⟩
@[go_sem] theorem yG (a:Int):Qj.enc a= [.int .u32 (a)]:=rfl
@[go_sem] theorem yC (l:List Value):Qj.dec l=intOf ((l[0]?).getD undef):=rfl
structure A0 where
 Kind:Int
 Bg:Int
 DQ:Int
 CH:Int
 Be:Int
 Cj:Int
 Bytes:List UInt8
instance:Inhabited A0:=⟨⟨0,0,0,0,0,0, []⟩⟩
instance:DecidableEq A0:=fun a b=>decidable_of_iff (a.Kind=b.Kind∧a.Bg=b.Bg∧a.DQ=b.DQ∧a.CH=b.CH∧a.Be=b.Be∧a.Cj=b.Cj∧a.Bytes=b.Bytes) (by cases a;cases b;simp)
def Aw:B6 (A0):=⟨fun a=> [.int .i64 (a.Kind), .int .i64 (a.Bg), .int .i64 (a.DQ), .int .i64 (a.CH), .int .u32 (a.Be), .int .i64 (a.Cj), .string ⟨⟨a.Bytes⟩⟩],fun l=>⟨intOf ((l[0]?).getD undef),intOf ((l[1]?).getD undef),intOf ((l[2]?).getD undef),intOf ((l[3]?).getD undef),intOf ((l[4]?).getD undef),intOf ((l[5]?).getD undef),strOf ((l[6]?).getD undef)⟩,7,fun _=>rfl,fun _=>rfl,fun _=>rfl⟩
instance:Aw.Plain:=⟨fun _ _=>rfl⟩
@[go_sem] theorem Az (a:A0):Aw.enc a= [.int .i64 (a.Kind), .int .i64 (a.Bg), .int .i64 (a.DQ), .int .i64 (a.CH), .int .u32 (a.Be), .int .i64 (a.Cj), .string ⟨⟨a.Bytes⟩⟩]:=rfl
@[go_sem]theorem AFB(a:A0):A0.mk a.Kind a.Bg a.DQ a.CH a.Be a.Cj a.Bytes=a:=rfl
@[go_sem] theorem AE7 (l:List Value):Aw.dec l=⟨intOf ((l[0]?).getD undef),intOf ((l[1]?).getD undef),intOf ((l[2]?).getD undef),intOf ((l[3]?).getD undef),intOf ((l[4]?).getD undef),intOf ((l[5]?).getD undef),strOf ((l[6]?).getD undef)⟩:=rfl
structure E3 where
 Code:Int
 At:Int
instance:Inhabited E3:=⟨⟨0,0⟩⟩
instance:DecidableEq E3:=fun a b=>decidable_of_iff (a.Code=b.Code∧a.At=b.At) (by cases a;cases b;simp)
def Jz:B6 (E3):=⟨fun a=> [.int .i64 (a.Code), .int .i64 (a.At)],fun l=>⟨intOf ((l[0]?).getD undef),intOf ((l[1]?).getD undef)⟩,2,fun _=>rfl,fun _=>rfl,fun _=>rfl⟩
instance:Jz.Plain:=⟨fun _ _=>rfl⟩
@[go_sem] theorem nu (a:E3):Jz.enc a= [.int .i64 (a.Code), .int .i64 (a.At)]:=rfl
@[go_sem]theorem pE(a:E3):E3.mk a.Code a.At=a:=rfl
@[go_sem] theorem nt (l:List Value):Jz.dec l=⟨intOf ((l[0]?).getD undef),intOf ((l[1]?).getD undef)⟩:=rfl
structure Bq where
 Code:Int
 At:Int
instance:Inhabited Bq:=⟨⟨0,0⟩⟩
instance:DecidableEq Bq:=fun a b=>decidable_of_iff (a.Code=b.Code∧a.At=b.At) (by cases a;cases b;simp)
def Dd:B6 (Bq):=⟨fun a=> [.int .i64 (a.Code), .int .i64 (a.At)],fun l=>⟨intOf ((l[0]?).getD undef),intOf ((l[1]?).getD undef)⟩,2,fun _=>rfl,fun _=>rfl,fun _=>rfl⟩
instance:Dd.Plain:=⟨fun _ _=>rfl⟩
@[go_sem] theorem Sx (a:Bq):Dd.enc a= [.int .i64 (a.Code), .int .i64 (a.At)]:=rfl
@[go_sem]theorem TN(a:Bq):Bq.mk a.Code a.At=a:=rfl
@[go_sem] theorem Sv (l:List Value):Dd.dec l=⟨intOf ((l[0]?).getD undef),intOf ((l[1]?).getD undef)⟩:=rfl
structure CF where
 Self:Int
 Claim:Int
 Er:Bool
instance:Inhabited CF:=⟨⟨0,0,false⟩⟩
instance:DecidableEq CF:=fun a b=>decidable_of_iff (a.Self=b.Self∧a.Claim=b.Claim∧a.Er=b.Er) (by cases a;cases b;simp)
def AU:B6 (CF):=⟨fun a=> [.int .i64 (a.Self), .int .i64 (a.Claim), .bool (a.Er)],fun l=>⟨intOf ((l[0]?).getD undef),intOf ((l[1]?).getD undef),Bs ((l[2]?).getD undef)⟩,3,fun _=>rfl,fun _=>rfl,fun _=>rfl⟩
instance:AU.Plain:=⟨fun _ _=>rfl⟩
@[go_sem] theorem Iz (a:CF):AU.enc a= [.int .i64 (a.Self), .int .i64 (a.Claim), .bool (a.Er)]:=rfl
@[go_sem]theorem ADP(a:CF):CF.mk a.Self a.Claim a.Er=a:=rfl
@[go_sem] theorem ACy (l:List Value):AU.dec l=⟨intOf ((l[0]?).getD undef),intOf ((l[1]?).getD undef),Bs ((l[2]?).getD undef)⟩:=rfl
structure AQ where
 A:Int
 B:Int
 Dx:Int
instance:Inhabited AQ:=⟨⟨0,0,0⟩⟩
instance:DecidableEq AQ:=fun a b=>decidable_of_iff (a.A=b.A∧a.B=b.B∧a.Dx=b.Dx) (by cases a;cases b;simp)
def AP:B6 (AQ):=⟨fun a=> [.int .i64 (a.A), .int .i64 (a.B), .int .i64 (a.Dx)],fun l=>⟨intOf ((l[0]?).getD undef),intOf ((l[1]?).getD undef),intOf ((l[2]?).getD undef)⟩,3,fun _=>rfl,fun _=>rfl,fun _=>rfl⟩
instance:AP.Plain:=⟨fun _ _=>rfl⟩
@[go_sem] theorem Kr (a:AQ):AP.enc a= [.int .i64 (a.A), .int .i64 (a.B), .int .i64 (a.Dx)]:=rfl
@[go_sem]theorem ADR(a:AQ):AQ.mk a.A a.B a.Dx=a:=rfl
@[go_sem] theorem AC1 (l:List Value):AP.dec l=⟨intOf ((l[0]?).getD undef),intOf ((l[1]?).getD undef),intOf ((l[2]?).getD undef)⟩:=rfl
structure Aq where
 C1:Int
 To:Int
 Kg:Int
 Kind:Int
 By:Int
instance:Inhabited Aq:=⟨⟨0,0,0,0,0⟩⟩
instance:DecidableEq Aq:=fun a b=>decidable_of_iff (a.C1=b.C1∧a.To=b.To∧a.Kg=b.Kg∧a.Kind=b.Kind∧a.By=b.By) (by cases a;cases b;simp)
def AO:B6 (Aq):=⟨fun a=> [.int .i64 (a.C1), .int .i64 (a.To), .int .i64 (a.Kg), .int .i64 (a.Kind), .int .i64 (a.By)],fun l=>⟨intOf ((l[0]?).getD undef),intOf ((l[1]?).getD undef),intOf ((l[2]?).getD undef),intOf ((l[3]?).getD undef),intOf ((l[4]?).getD undef)⟩,5,fun _=>rfl,fun _=>rfl,fun _=>rfl⟩
instance:AO.Plain:=⟨fun _ _=>rfl⟩
@[go_sem] theorem Et (a:Aq):AO.enc a= [.int .i64 (a.C1), .int .i64 (a.To), .int .i64 (a.Kg), .int .i64 (a.Kind), .int .i64 (a.By)]:=rfl
@[go_sem]theorem ADS(a:Aq):Aq.mk a.C1 a.To a.Kg a.Kind a.By=a:=rfl
@[go_sem] theorem AC2 (l:List Value):AO.dec l=⟨intOf ((l[0]?).getD undef),intOf ((l[1]?).getD undef),intOf ((l[2]?).getD undef),intOf ((l[3]?).getD undef),intOf ((l[4]?).getD undef)⟩:=rfl
structure Da where
 kind:Int
 word:List UInt8
 fields:Int
instance:Inhabited Da:=⟨⟨0, [],0⟩⟩
instance:DecidableEq Da:=fun a b=>decidable_of_iff (a.kind=b.kind∧a.word=b.word∧a.fields=b.fields) (by cases a;cases b;simp)
def Qi:B6 (Da):=⟨fun a=> [.int .i64 (a.kind), .string ⟨⟨a.word⟩⟩, .int .i64 (a.fields)],fun l=>⟨intOf ((l[0]?).getD undef),strOf ((l[1]?).getD undef),intOf ((l[2]?).getD undef)⟩,3,fun _=>rfl,fun _=>rfl,fun _=>rfl⟩
instance:Qi.Plain:=⟨fun _ _=>rfl⟩
@[go_sem] theorem Bb (a:Da):Qi.enc a= [.int .i64 (a.kind), .string ⟨⟨a.word⟩⟩, .int .i64 (a.fields)]:=rfl
@[go_sem]theorem AEW(a:Da):Da.mk a.kind a.word a.fields=a:=rfl
@[go_sem] theorem AEE (l:List Value):Qi.dec l=⟨intOf ((l[0]?).getD undef),strOf ((l[1]?).getD undef),intOf ((l[2]?).getD undef)⟩:=rfl
def Ya:B6 (Int):=⟨fun a=> [.int .u64 (a)],fun l=>intOf ((l[0]?).getD undef),1,fun _=>rfl,fun _=>rfl,fun _=>rfl⟩
instance:Ya.Plain:=⟨fun _ _=>rfl⟩
@[go_sem] theorem ADF (a:Int):Ya.enc a= [.int .u64 (a)]:=rfl
@[go_sem] theorem AC8 (l:List Value):Ya.dec l=intOf ((l[0]?).getD undef):=rfl
def Qk:B6 (Int):=⟨fun a=> [.int .u64 (a)],fun l=>intOf ((l[0]?).getD undef),1,fun _=>rfl,fun _=>rfl,fun _=>rfl⟩
instance:Qk.Plain:=⟨fun _ _=>rfl⟩
@[go_sem] theorem yH (a:Int):Qk.enc a= [.int .u64 (a)]:=rfl
@[go_sem] theorem yD (l:List Value):Qk.dec l=intOf ((l[0]?).getD undef):=rfl
def YZ:B6 (Int):=⟨fun a=> [.int .u64 (a)],fun l=>intOf ((l[0]?).getD undef),1,fun _=>rfl,fun _=>rfl,fun _=>rfl⟩
instance:YZ.Plain:=⟨fun _ _=>rfl⟩
@[go_sem] theorem ADC (a:Int):YZ.enc a= [.int .u64 (a)]:=rfl
@[go_sem] theorem AC4 (l:List Value):YZ.dec l=intOf ((l[0]?).getD undef):=rfl
def YY:B6 (Int):=⟨fun a=> [.int .u8 (a)],fun l=>intOf ((l[0]?).getD undef),1,fun _=>rfl,fun _=>rfl,fun _=>rfl⟩
instance:YY.Plain:=⟨fun _ _=>rfl⟩
@[go_sem] theorem ADA (a:Int):YY.enc a= [.int .u8 (a)]:=rfl
@[go_sem] theorem AC0 (l:List Value):YY.dec l=intOf ((l[0]?).getD undef):=rfl
structure Kj where
 code:Int
instance:Inhabited Kj:=⟨⟨0⟩⟩
instance:DecidableEq Kj:=fun a b=>decidable_of_iff (a.code=b.code) (by cases a;cases b;simp)
def UZ:B6 (Kj):=⟨fun a=> [.int .i64 (a.code)],fun l=>⟨intOf ((l[0]?).getD undef)⟩,1,fun _=>rfl,fun _=>rfl,fun _=>rfl⟩
instance:UZ.Plain:=⟨fun _ _=>rfl⟩
@[go_sem] theorem AAM (a:Kj):UZ.enc a= [.int .i64 (a.code)]:=rfl
@[go_sem]theorem AA4(a:Kj):Kj.mk a.code=a:=rfl
@[go_sem] theorem AAA (l:List Value):UZ.dec l=⟨intOf ((l[0]?).getD undef)⟩:=rfl
structure Kh where
 Og:FA
 Oe:FA
instance:Inhabited Kh:=⟨⟨.nil, .nil⟩⟩
instance:DecidableEq Kh:=fun a b=>decidable_of_iff (a.Og=b.Og∧a.Oe=b.Oe) (by cases a;cases b;simp)
def Po:B6 (Kh):=⟨fun a=> [(a.Og).v,(a.Oe).v],fun l=>⟨EY ((l[0]?).getD undef),EY ((l[1]?).getD undef)⟩,2,fun a=>by cases a;simp [NN],fun _=>rfl,fun _=>by simp [Au,FA.oc]⟩
instance:Po.Ra:=⟨fun ρ a=> {a with Og:=a.Og.ra ρ,Oe:=a.Oe.ra ρ},fun ρ a=>by simp[Po,Cg,P0]⟩
@[go_sem]theorem AAH(a:Kh):Po.enc a= [(a.Og).v,(a.Oe).v]:=rfl
@[go_sem]theorem AA2(a:Kh):Kh.mk a.Og a.Oe=a:=rfl
@[go_sem] theorem zw (l:List Value):Po.dec l=⟨EY ((l[0]?).getD undef),EY ((l[1]?).getD undef)⟩:=rfl
structure H6 where
 C1:Int
 To:Int
 Bytes:List UInt8
instance:Inhabited H6:=⟨⟨0,0, []⟩⟩
instance:DecidableEq H6:=fun a b=>decidable_of_iff (a.C1=b.C1∧a.To=b.To∧a.Bytes=b.Bytes) (by cases a;cases b;simp)
def Qh:B6 (H6):=⟨fun a=> [.int .i64 (a.C1), .int .i64 (a.To), .string ⟨⟨a.Bytes⟩⟩],fun l=>⟨intOf ((l[0]?).getD undef),intOf ((l[1]?).getD undef),strOf ((l[2]?).getD undef)⟩,3,fun _=>rfl,fun _=>rfl,fun _=>rfl⟩
instance:Qh.Plain:=⟨fun _ _=>rfl⟩
@[go_sem] theorem yE (a:H6):Qh.enc a= [.int .i64 (a.C1), .int .i64 (a.To), .string ⟨⟨a.Bytes⟩⟩]:=rfl
@[go_sem]theorem yV(a:H6):H6.mk a.C1 a.To a.Bytes=a:=rfl
@[go_sem] theorem x9 (l:List Value):Qh.dec l=⟨intOf ((l[0]?).getD undef),intOf ((l[1]?).getD undef),strOf ((l[2]?).getD undef)⟩:=rfl
structure Gq where
 a:Int
 b:Int
instance:Inhabited Gq:=⟨⟨0,0⟩⟩
instance:DecidableEq Gq:=fun a b=>decidable_of_iff (a.a=b.a∧a.b=b.b) (by cases a;cases b;simp)
def UX:B6 (Gq):=⟨fun a=> [.int .i64 (a.a), .int .i64 (a.b)],fun l=>⟨intOf ((l[0]?).getD undef),intOf ((l[1]?).getD undef)⟩,2,fun _=>rfl,fun _=>rfl,fun _=>rfl⟩
instance:UX.Plain:=⟨fun _ _=>rfl⟩
@[go_sem] theorem Pq (a:Gq):UX.enc a= [.int .i64 (a.a), .int .i64 (a.b)]:=rfl
@[go_sem]theorem ADT(a:Gq):Gq.mk a.a a.b=a:=rfl
@[go_sem] theorem AC5 (l:List Value):UX.dec l=⟨intOf ((l[0]?).getD undef),intOf ((l[1]?).getD undef)⟩:=rfl
structure Np where
 there:Bool
 last:Int
 l:FA
instance:Inhabited Np:=⟨⟨false,0, .nil⟩⟩
instance:DecidableEq Np:=fun a b=>decidable_of_iff (a.there=b.there∧a.last=b.last∧a.l=b.l) (by cases a;cases b;simp)
def UY:B6 (Np):=⟨fun a=> [.bool (a.there), .int .i64 (a.last),(a.l).v],fun l=>⟨Bs ((l[0]?).getD undef),intOf ((l[1]?).getD undef),EY ((l[2]?).getD undef)⟩,3,fun a=>by cases a;simp [NN],fun _=>rfl,fun _=>by simp [Au,FA.oc,VA,bc]⟩
instance:UY.Ra:=⟨fun ρ a=> {a with l:=a.l.ra ρ},fun ρ a=>by simp[UY,Cg,Ao,P0]⟩
@[go_sem] theorem ADD (a:Np):UY.enc a= [.bool (a.there), .int .i64 (a.last),(a.l).v]:=rfl
@[go_sem]theorem ADU(a:Np):Np.mk a.there a.last a.l=a:=rfl
@[go_sem] theorem AC6 (l:List Value):UY.dec l=⟨Bs ((l[0]?).getD undef),intOf ((l[1]?).getD undef),EY ((l[2]?).getD undef)⟩:=rfl
structure C7 where
 C1:Int
 To:Int
 Dx:Int
instance:Inhabited C7:=⟨⟨0,0,0⟩⟩
instance:DecidableEq C7:=fun a b=>decidable_of_iff (a.C1=b.C1∧a.To=b.To∧a.Dx=b.Dx) (by cases a;cases b;simp)
def BC:B6 (C7):=⟨fun a=> [.int .i64 (a.C1), .int .i64 (a.To), .int .i64 (a.Dx)],fun l=>⟨intOf ((l[0]?).getD undef),intOf ((l[1]?).getD undef),intOf ((l[2]?).getD undef)⟩,3,fun _=>rfl,fun _=>rfl,fun _=>rfl⟩
instance:BC.Plain:=⟨fun _ _=>rfl⟩
@[go_sem] theorem AC9 (a:C7):BC.enc a= [.int .i64 (a.C1), .int .i64 (a.To), .int .i64 (a.Dx)]:=rfl
@[go_sem]theorem ADQ(a:C7):C7.mk a.C1 a.To a.Dx=a:=rfl
@[go_sem] theorem ACz (l:List Value):BC.dec l=⟨intOf ((l[0]?).getD undef),intOf ((l[1]?).getD undef),intOf ((l[2]?).getD undef)⟩:=rfl
def UT:B6 (Int):=⟨fun a=> [.int .i64 (a)],fun l=>intOf ((l[0]?).getD undef),1,fun _=>rfl,fun _=>rfl,fun _=>rfl⟩
instance:UT.Plain:=⟨fun _ _=>rfl⟩
@[go_sem] theorem AAG (a:Int):UT.enc a= [.int .i64 (a)]:=rfl
@[go_sem] theorem zv (l:List Value):UT.dec l=intOf ((l[0]?).getD undef):=rfl
structure Ds where
 from_:Int
 to:Int
 nth:Int
instance:Inhabited Ds:=⟨⟨0,0,0⟩⟩
instance:DecidableEq Ds:=fun a b=>decidable_of_iff (a.from_=b.from_∧a.to=b.to∧a.nth=b.nth) (by cases a;cases b;simp)
def Kq:B6 (Ds):=⟨fun a=> [.int .i64 (a.from_), .int .i64 (a.to), .int .i64 (a.nth)],fun l=>⟨intOf ((l[0]?).getD undef),intOf ((l[1]?).getD undef),intOf ((l[2]?).getD undef)⟩,3,fun _=>rfl,fun _=>rfl,fun _=>rfl⟩
instance:Kq.Plain:=⟨fun _ _=>rfl⟩
@[go_sem] theorem I1 (a:Ds):Kq.enc a= [.int .i64 (a.from_), .int .i64 (a.to), .int .i64 (a.nth)]:=rfl
@[go_sem]theorem vL(a:Ds):Ds.mk a.from_ a.to a.nth=a:=rfl
@[go_sem] theorem uY (l:List Value):Kq.dec l=⟨intOf ((l[0]?).getD undef),intOf ((l[1]?).getD undef),intOf ((l[2]?).getD undef)⟩:=rfl
structure Dr where
 lo:Int
 hi:Int
instance:Inhabited Dr:=⟨⟨0,0⟩⟩
instance:DecidableEq Dr:=fun a b=>decidable_of_iff (a.lo=b.lo∧a.hi=b.hi) (by cases a;cases b;simp)
def Hj:B6 (Dr):=⟨fun a=> [.int .u8 (a.lo), .int .u8 (a.hi)],fun l=>⟨intOf ((l[0]?).getD undef),intOf ((l[1]?).getD undef)⟩,2,fun _=>rfl,fun _=>rfl,fun _=>rfl⟩
instance:Hj.Plain:=⟨fun _ _=>rfl⟩
@[go_sem] theorem iG (a:Dr):Hj.enc a= [.int .u8 (a.lo), .int .u8 (a.hi)]:=rfl
@[go_sem]theorem jb(a:Dr):Dr.mk a.lo a.hi=a:=rfl
@[go_sem] theorem gz (l:List Value):Hj.dec l=⟨intOf ((l[0]?).getD undef),intOf ((l[1]?).getD undef)⟩:=rfl
structure CB where
 s:List UInt8
instance:Inhabited CB:=⟨⟨[]⟩⟩
instance:DecidableEq CB:=fun a b=>decidable_of_iff (a.s=b.s) (by cases a;cases b;simp)
def EF:B6 (CB):=⟨fun a=> [.string ⟨⟨a.s⟩⟩],fun l=>⟨strOf ((l[0]?).getD undef)⟩,1,fun _=>rfl,fun _=>rfl,fun _=>rfl⟩
instance:EF.Plain:=⟨fun _ _=>rfl⟩
@[go_sem] theorem Vg (a:CB):EF.enc a= [.string ⟨⟨a.s⟩⟩]:=rfl
@[go_sem]theorem Vi(a:CB):CB.mk a.s=a:=rfl
@[go_sem] theorem Vf (l:List Value):EF.dec l=⟨strOf ((l[0]?).getD undef)⟩:=rfl
structure Jh where
 At:Int
 QG:Int
 gI:Int
 MU:List UInt8
instance:Inhabited Jh:=⟨⟨0,0,0, []⟩⟩
instance:DecidableEq Jh:=fun a b=>decidable_of_iff (a.At=b.At∧a.QG=b.QG∧a.gI=b.gI∧a.MU=b.MU) (by cases a;cases b;simp)
def C5:B6 (Jh):=⟨fun a=> [.int .u64 (a.At), .int .i64 (a.QG), .int .i64 (a.gI), .string ⟨⟨a.MU⟩⟩],fun l=>⟨intOf ((l[0]?).getD undef),intOf ((l[1]?).getD undef),intOf ((l[2]?).getD undef),strOf ((l[3]?).getD undef)⟩,4,fun _=>rfl,fun _=>rfl,fun _=>rfl⟩
instance:C5.Plain:=⟨fun _ _=>rfl⟩
@[go_sem] theorem AEF (a:Jh):C5.enc a= [.int .u64 (a.At), .int .i64 (a.QG), .int .i64 (a.gI), .string ⟨⟨a.MU⟩⟩]:=rfl
@[go_sem]theorem AEV(a:Jh):Jh.mk a.At a.QG a.gI a.MU=a:=rfl
@[go_sem] theorem AEC (l:List Value):C5.dec l=⟨intOf ((l[0]?).getD undef),intOf ((l[1]?).getD undef),intOf ((l[2]?).getD undef),strOf ((l[3]?).getD undef)⟩:=rfl
structure Gs where
 at_:Int
 MO:Int
 Ry:Int
 mJ:Int
 Nf:List UInt8
instance:Inhabited Gs:=⟨⟨0,0,0,0, []⟩⟩
instance:DecidableEq Gs:=fun a b=>decidable_of_iff (a.at_=b.at_∧a.MO=b.MO∧a.Ry=b.Ry∧a.mJ=b.mJ∧a.Nf=b.Nf) (by cases a;cases b;simp)
def B2:B6 (Gs):=⟨fun a=> [.int .u64 (a.at_), .int .i64 (a.MO), .int .i64 (a.Ry), .int .i64 (a.mJ), .string ⟨⟨a.Nf⟩⟩],fun l=>⟨intOf ((l[0]?).getD undef),intOf ((l[1]?).getD undef),intOf ((l[2]?).getD undef),intOf ((l[3]?).getD undef),strOf ((l[4]?).getD undef)⟩,5,fun _=>rfl,fun _=>rfl,fun _=>rfl⟩
instance:B2.Plain:=⟨fun _ _=>rfl⟩
@[go_sem] theorem ADE (a:Gs):B2.enc a= [.int .u64 (a.at_), .int .i64 (a.MO), .int .i64 (a.Ry), .int .i64 (a.mJ), .string ⟨⟨a.Nf⟩⟩]:=rfl
@[go_sem]theorem ADV(a:Gs):Gs.mk a.at_ a.MO a.Ry a.mJ a.Nf=a:=rfl
@[go_sem] theorem AC7 (l:List Value):B2.dec l=⟨intOf ((l[0]?).getD undef),intOf ((l[1]?).getD undef),intOf ((l[2]?).getD undef),intOf ((l[3]?).getD undef),strOf ((l[4]?).getD undef)⟩:=rfl
section
theorem CS {hp:Hp}{v:Value}{l:List (CF)}(h:BF AU hp v l){hp':Hp}:Bv tt.get hp' 22 v=(.int .i64 (l.length:Int),True):=h.Kw GZ
theorem DA {hp:Hp}{v:Value}{l:List (CF)}(h:BF AU hp v l){k:IntKind}{n:Int}(h0:0≤n)(h1:n < l.length):AZ tt.get 22 v (.int k n)=(Ah v (n.toNat * 3),True):=h.idx GZ HG rfl h0 h1
theorem F8 {hp:Hp}{v:Value}{l:List (CF)}(h:BF AU hp v l){i:Nat}(hi:i < l.length):BN tt.get hp 79 (Ah v (i * 3))=(.agg ⟨AU.enc (at' l i)⟩,True):=h.load HG rfl rfl hi
theorem JI {hp:Hp}{v:Value}{l:List (CF)}(h:BF AU hp v l){i:Nat}(hi:i < l.length):AG tt.get 79 (Ah v (i * 3)) 0=(Ah v (i * 3),True):=h.field hi (d:=0) (fun b o=>(by kernel_rfl:AV tt.get 79 (.pointer (some ⟨b,o,none⟩)) 0=some (.pointer (some ⟨b,o+0,none⟩))))
theorem JH {hp:Hp}{v:Value}{l:List (CF)}(h:BF AU hp v l){i:Nat}(hi:i < l.length):BN tt.get hp 3 (Ah v (i * 3))=(.int .i64 ((at' l i).Self),True):=h.cell (f:=0) BX rfl hi (by decide)
@[go_sem] theorem zd {hp:Hp}{x:Value}{b top:Nat}{l:List (CF)}(h:hp b=AD AU l)(hx:Dy AU hp x)(hn:l.length+(AU.rd hp x).length≤16777216):AK tt.get hp top [22,22] (AA b l) x=some (AA top (l ++ AU.rd hp x),Bu b l top (AD AU (l ++ AU.rd hp x)),top+1):=CJ GZ JP rfl HG rfl rfl h hx hn
@[go_sem] theorem xn {hp:Hp}{x:Value}{top:Nat}(hx:Dy AU hp x)(hn:(AU.rd hp x).length≤16777216):AK tt.get hp top [22,22] (.slice none 0 0) x=some (AA top (AU.rd hp x), [(top,AD AU (AU.rd hp x))],top+1):=CI GZ JP rfl HG rfl rfl hx hn
@[go_sem] theorem YI {hp:Hp}{b top k:Nat}{l:List (CF)}(h:hp b=AD AU l)(hk:hp k=some (.cells true 3 (cellsOf (hp k))))(hc:AU.enc (AU.dec (cellsOf (hp k)))=cellsOf (hp k))(hn:Cu (l.length+1) Xr.bytes=true):AK tt.get hp top [22,22] (AA b l) (.slice (some ⟨k,0,none⟩) 1 1)=some (AA top (l ++ [AU.dec (cellsOf (hp k))]),Bu b l top (AD AU (l ++ [AU.dec (cellsOf (hp k))])),top+1):=Dt GZ JP rfl HG rfl rfl h hk hc hn
@[go_sem] theorem xx {hp:Hp}{x:Value}{top:Nat}(hx:Dy AU hp x)(hn:Cu (AU.rd hp x).length Xr.bytes=true):AK tt.get hp top [22,22] (.slice none 0 0) x=some (AA top (AU.rd hp x), [(top,AD AU (AU.rd hp x))],top+1):=B0 GZ JP rfl HG rfl rfl hx hn
@[go_sem] theorem xf {hp:Hp}{top k:Nat}(hk:hp k=some (.cells true 3 (cellsOf (hp k))))(hc:AU.enc (AU.dec (cellsOf (hp k)))=cellsOf (hp k)):AK tt.get hp top [22,22] (.slice none 0 0) (.slice (some ⟨k,0,none⟩) 1 1)=some (AA top [AU.dec (cellsOf (hp k))], [(top,AD AU [AU.dec (cellsOf (hp k))])],top+1):=B1 GZ JP rfl HG rfl rfl hk hc
@[go_sem] theorem ABw {hp:Hp}{b top:Nat}{l l2:List (CF)}(h:hp b=AD AU l):hp.Ac (Bu b l top (AD AU l2))=(hp.set b none).set top (AD AU l2):=E6 h
@[go_sem] theorem ABR {hp:Hp}{b:Nat}{l:List (CF)}{i:Nat}(h:hp b=AD AU l)(hi:i < l.length){a0:Int}{a1:Int}{a2:Bool}:BJ tt.get hp 79 (Ah (AA b l) (i * 3)) (.agg ⟨[.int .i64 (a0), .int .i64 (a1), .bool (a2)]⟩)=([(b,AD AU (l.set i ⟨a0,a1,a2⟩))],True):=Ez (E:=AU) (cs:=AU.enc ⟨a0,a1,a2⟩) HG rfl h hi rfl rfl
@[go_sem] theorem vW {hp:Hp}{b:Nat}{l:List (CF)}{i:Nat}(h:hp b=AD AU l)(hi:i < l.length){x:Int}:BJ tt.get hp 3 (Ah (AA b l) (i * 3)) (.int .i64 (x))=([(b,AD AU (l.set i {at' l i with Self:=x}))],True):=A4 (f:=0) BX h hi rfl (by decide) rfl rfl
@[go_sem] theorem vX {hp:Hp}{b:Nat}{l:List (CF)}{i:Nat}(h:hp b=AD AU l)(hi:i < l.length){x:Int}:BJ tt.get hp 3 (Ah (AA b l) (i * 3+1)) (.int .i64 (x))=([(b,AD AU (l.set i {at' l i with Claim:=x}))],True):=A4 (f:=1) BX h hi rfl (by decide) rfl rfl
@[go_sem] theorem vY {hp:Hp}{b:Nat}{l:List (CF)}{i:Nat}(h:hp b=AD AU l)(hi:i < l.length){x:Bool}:BJ tt.get hp 4 (Ah (AA b l) (i * 3+2)) (.bool (x))=([(b,AD AU (l.set i {at' l i with Er:=x}))],True):=A4 (f:=2) Ke h hi rfl (by decide) rfl rfl
@[go_sem] theorem ABX {b:Nat}{l:List (CF)}{hp2:Hp}:Bv tt.get hp2 22 (AA b l)=(.int .i64 (l.length:Int),True):=by cases l with | nil=>unfold Bv AA;simp only [GZ,DV,JP,fT];rfl | cons a l=>unfold Bv AA;simp only [GZ,DV,JP,fT];rfl
end
section
theorem BH {hp:Hp}{v:Value}{l:List (AQ)}(h:BF AP hp v l){hp':Hp}:Bv tt.get hp' 23 v=(.int .i64 (l.length:Int),True):=h.Kw Ga
theorem BG {hp:Hp}{v:Value}{l:List (AQ)}(h:BF AP hp v l){k:IntKind}{n:Int}(h0:0≤n)(h1:n < l.length):AZ tt.get 23 v (.int k n)=(Ah v (n.toNat * 3),True):=h.idx Ga JO rfl h0 h1
theorem B4 {hp:Hp}{v:Value}{l:List (AQ)}(h:BF AP hp v l){i:Nat}(hi:i < l.length):BN tt.get hp 81 (Ah v (i * 3))=(.agg ⟨AP.enc (at' l i)⟩,True):=h.load JO rfl rfl hi
theorem Fj {hp:Hp}{v:Value}{l:List (AQ)}(h:BF AP hp v l){i:Nat}(hi:i < l.length):AG tt.get 81 (Ah v (i * 3)) 0=(Ah v (i * 3),True):=h.field hi (d:=0) (fun b o=>(by kernel_rfl:AV tt.get 81 (.pointer (some ⟨b,o,none⟩)) 0=some (.pointer (some ⟨b,o+0,none⟩))))
theorem Fh {hp:Hp}{v:Value}{l:List (AQ)}(h:BF AP hp v l){i:Nat}(hi:i < l.length):BN tt.get hp 3 (Ah v (i * 3))=(.int .i64 ((at' l i).A),True):=h.cell (f:=0) BX rfl hi (by decide)
theorem Fk {hp:Hp}{v:Value}{l:List (AQ)}(h:BF AP hp v l){i:Nat}(hi:i < l.length):AG tt.get 81 (Ah v (i * 3)) 1=(Ah v (i * 3+1),True):=h.field hi (d:=1) (fun b o=>(by kernel_rfl:AV tt.get 81 (.pointer (some ⟨b,o,none⟩)) 1=some (.pointer (some ⟨b,o+1,none⟩))))
theorem Fi {hp:Hp}{v:Value}{l:List (AQ)}(h:BF AP hp v l){i:Nat}(hi:i < l.length):BN tt.get hp 3 (Ah v (i * 3+1))=(.int .i64 ((at' l i).B),True):=h.cell (f:=1) BX rfl hi (by decide)
theorem ZO {hp:Hp}{v:Value}{l:List (AQ)}(h:BF AP hp v l){i:Nat}(hi:i < l.length):AG tt.get 81 (Ah v (i * 3)) 2=(Ah v (i * 3+2),True):=h.field hi (d:=2) (fun b o=>(by kernel_rfl:AV tt.get 81 (.pointer (some ⟨b,o,none⟩)) 2=some (.pointer (some ⟨b,o+2,none⟩))))
theorem ZG {hp:Hp}{v:Value}{l:List (AQ)}(h:BF AP hp v l){i:Nat}(hi:i < l.length):BN tt.get hp 3 (Ah v (i * 3+2))=(.int .i64 ((at' l i).Dx),True):=h.cell (f:=2) BX rfl hi (by decide)
@[go_sem] theorem zf {hp:Hp}{x:Value}{b top:Nat}{l:List (AQ)}(h:hp b=AD AP l)(hx:Dy AP hp x)(hn:l.length+(AP.rd hp x).length≤16777216):AK tt.get hp top [23,23] (AA b l) x=some (AA top (l ++ AP.rd hp x),Bu b l top (AD AP (l ++ AP.rd hp x)),top+1):=CJ Ga JR rfl JO rfl rfl h hx hn
@[go_sem] theorem xq {hp:Hp}{x:Value}{top:Nat}(hx:Dy AP hp x)(hn:(AP.rd hp x).length≤16777216):AK tt.get hp top [23,23] (.slice none 0 0) x=some (AA top (AP.rd hp x), [(top,AD AP (AP.rd hp x))],top+1):=CI Ga JR rfl JO rfl rfl hx hn
@[go_sem] theorem YJ {hp:Hp}{b top k:Nat}{l:List (AQ)}(h:hp b=AD AP l)(hk:hp k=some (.cells true 3 (cellsOf (hp k))))(hc:AP.enc (AP.dec (cellsOf (hp k)))=cellsOf (hp k))(hn:Cu (l.length+1) ZY.bytes=true):AK tt.get hp top [23,23] (AA b l) (.slice (some ⟨k,0,none⟩) 1 1)=some (AA top (l ++ [AP.dec (cellsOf (hp k))]),Bu b l top (AD AP (l ++ [AP.dec (cellsOf (hp k))])),top+1):=Dt Ga JR rfl JO rfl rfl h hk hc hn
@[go_sem] theorem xz {hp:Hp}{x:Value}{top:Nat}(hx:Dy AP hp x)(hn:Cu (AP.rd hp x).length ZY.bytes=true):AK tt.get hp top [23,23] (.slice none 0 0) x=some (AA top (AP.rd hp x), [(top,AD AP (AP.rd hp x))],top+1):=B0 Ga JR rfl JO rfl rfl hx hn
@[go_sem] theorem xh {hp:Hp}{top k:Nat}(hk:hp k=some (.cells true 3 (cellsOf (hp k))))(hc:AP.enc (AP.dec (cellsOf (hp k)))=cellsOf (hp k)):AK tt.get hp top [23,23] (.slice none 0 0) (.slice (some ⟨k,0,none⟩) 1 1)=some (AA top [AP.dec (cellsOf (hp k))], [(top,AD AP [AP.dec (cellsOf (hp k))])],top+1):=B1 Ga JR rfl JO rfl rfl hk hc
@[go_sem] theorem ABy {hp:Hp}{b top:Nat}{l l2:List (AQ)}(h:hp b=AD AP l):hp.Ac (Bu b l top (AD AP l2))=(hp.set b none).set top (AD AP l2):=E6 h
@[go_sem] theorem ABT {hp:Hp}{b:Nat}{l:List (AQ)}{i:Nat}(h:hp b=AD AP l)(hi:i < l.length){a0:Int}{a1:Int}{a2:Int}:BJ tt.get hp 81 (Ah (AA b l) (i * 3)) (.agg ⟨[.int .i64 (a0), .int .i64 (a1), .int .i64 (a2)]⟩)=([(b,AD AP (l.set i ⟨a0,a1,a2⟩))],True):=Ez (E:=AP) (cs:=AP.enc ⟨a0,a1,a2⟩) JO rfl h hi rfl rfl
@[go_sem] theorem vg {hp:Hp}{b:Nat}{l:List (AQ)}{i:Nat}(h:hp b=AD AP l)(hi:i < l.length){x:Int}:BJ tt.get hp 3 (Ah (AA b l) (i * 3)) (.int .i64 (x))=([(b,AD AP (l.set i {at' l i with A:=x}))],True):=A4 (f:=0) BX h hi rfl (by decide) rfl rfl
@[go_sem] theorem vh {hp:Hp}{b:Nat}{l:List (AQ)}{i:Nat}(h:hp b=AD AP l)(hi:i < l.length){x:Int}:BJ tt.get hp 3 (Ah (AA b l) (i * 3+1)) (.int .i64 (x))=([(b,AD AP (l.set i {at' l i with B:=x}))],True):=A4 (f:=1) BX h hi rfl (by decide) rfl rfl
@[go_sem] theorem vi {hp:Hp}{b:Nat}{l:List (AQ)}{i:Nat}(h:hp b=AD AP l)(hi:i < l.length){x:Int}:BJ tt.get hp 3 (Ah (AA b l) (i * 3+2)) (.int .i64 (x))=([(b,AD AP (l.set i {at' l i with Dx:=x}))],True):=A4 (f:=2) BX h hi rfl (by decide) rfl rfl
@[go_sem] theorem ABZ {b:Nat}{l:List (AQ)}{hp2:Hp}:Bv tt.get hp2 23 (AA b l)=(.int .i64 (l.length:Int),True):=by cases l with | nil=>unfold Bv AA;simp only [Ga,DV,JR,fU];rfl | cons a l=>unfold Bv AA;simp only [Ga,DV,JR,fU];rfl
end
section
theorem DB {hp:Hp}{v:Value}{l:List (Aq)}(h:BF AO hp v l){hp':Hp}:Bv tt.get hp' 24 v=(.int .i64 (l.length:Int),True):=h.Kw Gb
theorem FZ {hp:Hp}{v:Value}{l:List (Aq)}(h:BF AO hp v l){k:IntKind}{n:Int}(h0:0≤n)(h1:n < l.length):AZ tt.get 24 v (.int k n)=(Ah v (n.toNat * 5),True):=h.idx Gb Hv rfl h0 h1
theorem IU {hp:Hp}{v:Value}{l:List (Aq)}(h:BF AO hp v l){i:Nat}(hi:i < l.length):BN tt.get hp 83 (Ah v (i * 5))=(.agg ⟨AO.enc (at' l i)⟩,True):=h.load Hv rfl rfl hi
theorem ZP {hp:Hp}{v:Value}{l:List (Aq)}(h:BF AO hp v l){i:Nat}(hi:i < l.length):AG tt.get 83 (Ah v (i * 5)) 0=(Ah v (i * 5),True):=h.field hi (d:=0) (fun b o=>(by kernel_rfl:AV tt.get 83 (.pointer (some ⟨b,o,none⟩)) 0=some (.pointer (some ⟨b,o+0,none⟩))))
theorem ZH {hp:Hp}{v:Value}{l:List (Aq)}(h:BF AO hp v l){i:Nat}(hi:i < l.length):BN tt.get hp 3 (Ah v (i * 5))=(.int .i64 ((at' l i).C1),True):=h.cell (f:=0) BX rfl hi (by decide)
theorem ZQ {hp:Hp}{v:Value}{l:List (Aq)}(h:BF AO hp v l){i:Nat}(hi:i < l.length):AG tt.get 83 (Ah v (i * 5)) 1=(Ah v (i * 5+1),True):=h.field hi (d:=1) (fun b o=>(by kernel_rfl:AV tt.get 83 (.pointer (some ⟨b,o,none⟩)) 1=some (.pointer (some ⟨b,o+1,none⟩))))
theorem ZI {hp:Hp}{v:Value}{l:List (Aq)}(h:BF AO hp v l){i:Nat}(hi:i < l.length):BN tt.get hp 3 (Ah v (i * 5+1))=(.int .i64 ((at' l i).To),True):=h.cell (f:=1) BX rfl hi (by decide)
theorem ZR {hp:Hp}{v:Value}{l:List (Aq)}(h:BF AO hp v l){i:Nat}(hi:i < l.length):AG tt.get 83 (Ah v (i * 5)) 2=(Ah v (i * 5+2),True):=h.field hi (d:=2) (fun b o=>(by kernel_rfl:AV tt.get 83 (.pointer (some ⟨b,o,none⟩)) 2=some (.pointer (some ⟨b,o+2,none⟩))))
theorem ZJ {hp:Hp}{v:Value}{l:List (Aq)}(h:BF AO hp v l){i:Nat}(hi:i < l.length):BN tt.get hp 3 (Ah v (i * 5+2))=(.int .i64 ((at' l i).Kg),True):=h.cell (f:=2) BX rfl hi (by decide)
@[go_sem] theorem zg {hp:Hp}{x:Value}{b top:Nat}{l:List (Aq)}(h:hp b=AD AO l)(hx:Dy AO hp x)(hn:l.length+(AO.rd hp x).length≤16777216):AK tt.get hp top [24,24] (AA b l) x=some (AA top (l ++ AO.rd hp x),Bu b l top (AD AO (l ++ AO.rd hp x)),top+1):=CJ Gb JS rfl Hv rfl rfl h hx hn
@[go_sem] theorem xr {hp:Hp}{x:Value}{top:Nat}(hx:Dy AO hp x)(hn:(AO.rd hp x).length≤16777216):AK tt.get hp top [24,24] (.slice none 0 0) x=some (AA top (AO.rd hp x), [(top,AD AO (AO.rd hp x))],top+1):=CI Gb JS rfl Hv rfl rfl hx hn
@[go_sem] theorem YK {hp:Hp}{b top k:Nat}{l:List (Aq)}(h:hp b=AD AO l)(hk:hp k=some (.cells true 5 (cellsOf (hp k))))(hc:AO.enc (AO.dec (cellsOf (hp k)))=cellsOf (hp k))(hn:Cu (l.length+1) Xs.bytes=true):AK tt.get hp top [24,24] (AA b l) (.slice (some ⟨k,0,none⟩) 1 1)=some (AA top (l ++ [AO.dec (cellsOf (hp k))]),Bu b l top (AD AO (l ++ [AO.dec (cellsOf (hp k))])),top+1):=Dt Gb JS rfl Hv rfl rfl h hk hc hn
@[go_sem] theorem x6 {hp:Hp}{x:Value}{top:Nat}(hx:Dy AO hp x)(hn:Cu (AO.rd hp x).length Xs.bytes=true):AK tt.get hp top [24,24] (.slice none 0 0) x=some (AA top (AO.rd hp x), [(top,AD AO (AO.rd hp x))],top+1):=B0 Gb JS rfl Hv rfl rfl hx hn
@[go_sem] theorem xi {hp:Hp}{top k:Nat}(hk:hp k=some (.cells true 5 (cellsOf (hp k))))(hc:AO.enc (AO.dec (cellsOf (hp k)))=cellsOf (hp k)):AK tt.get hp top [24,24] (.slice none 0 0) (.slice (some ⟨k,0,none⟩) 1 1)=some (AA top [AO.dec (cellsOf (hp k))], [(top,AD AO [AO.dec (cellsOf (hp k))])],top+1):=B1 Gb JS rfl Hv rfl rfl hk hc
@[go_sem] theorem ABz {hp:Hp}{b top:Nat}{l l2:List (Aq)}(h:hp b=AD AO l):hp.Ac (Bu b l top (AD AO l2))=(hp.set b none).set top (AD AO l2):=E6 h
@[go_sem] theorem ABU {hp:Hp}{b:Nat}{l:List (Aq)}{i:Nat}(h:hp b=AD AO l)(hi:i < l.length){a0:Int}{a1:Int}{a2:Int}{a3:Int}{a4:Int}:BJ tt.get hp 83 (Ah (AA b l) (i * 5)) (.agg ⟨[.int .i64 (a0), .int .i64 (a1), .int .i64 (a2), .int .i64 (a3), .int .i64 (a4)]⟩)=([(b,AD AO (l.set i ⟨a0,a1,a2,a3,a4⟩))],True):=Ez (E:=AO) (cs:=AO.enc ⟨a0,a1,a2,a3,a4⟩) Hv rfl h hi rfl rfl
@[go_sem] theorem vj {hp:Hp}{b:Nat}{l:List (Aq)}{i:Nat}(h:hp b=AD AO l)(hi:i < l.length){x:Int}:BJ tt.get hp 3 (Ah (AA b l) (i * 5)) (.int .i64 (x))=([(b,AD AO (l.set i {at' l i with C1:=x}))],True):=A4 (f:=0) BX h hi rfl (by decide) rfl rfl
@[go_sem] theorem vk {hp:Hp}{b:Nat}{l:List (Aq)}{i:Nat}(h:hp b=AD AO l)(hi:i < l.length){x:Int}:BJ tt.get hp 3 (Ah (AA b l) (i * 5+1)) (.int .i64 (x))=([(b,AD AO (l.set i {at' l i with To:=x}))],True):=A4 (f:=1) BX h hi rfl (by decide) rfl rfl
@[go_sem] theorem vl {hp:Hp}{b:Nat}{l:List (Aq)}{i:Nat}(h:hp b=AD AO l)(hi:i < l.length){x:Int}:BJ tt.get hp 3 (Ah (AA b l) (i * 5+2)) (.int .i64 (x))=([(b,AD AO (l.set i {at' l i with Kg:=x}))],True):=A4 (f:=2) BX h hi rfl (by decide) rfl rfl
@[go_sem] theorem vm {hp:Hp}{b:Nat}{l:List (Aq)}{i:Nat}(h:hp b=AD AO l)(hi:i < l.length){x:Int}:BJ tt.get hp 3 (Ah (AA b l) (i * 5+3)) (.int .i64 (x))=([(b,AD AO (l.set i {at' l i with Kind:=x}))],True):=A4 (f:=3) BX h hi rfl (by decide) rfl rfl
@[go_sem] theorem vn {hp:Hp}{b:Nat}{l:List (Aq)}{i:Nat}(h:hp b=AD AO l)(hi:i < l.length){x:Int}:BJ tt.get hp 3 (Ah (AA b l) (i * 5+4)) (.int .i64 (x))=([(b,AD AO (l.set i {at' l i with By:=x}))],True):=A4 (f:=4) BX h hi rfl (by decide) rfl rfl
@[go_sem] theorem ABa {b:Nat}{l:List (Aq)}{hp2:Hp}:Bv tt.get hp2 24 (AA b l)=(.int .i64 (l.length:Int),True):=by cases l with | nil=>unfold Bv AA;simp only [Gb,DV,JS,fV];rfl | cons a l=>unfold Bv AA;simp only [Gb,DV,JS,fV];rfl
end
section
theorem JB {hp:Hp}{v:Value}{l:List (A0)}(h:BF Aw hp v l){hp':Hp}:Bv tt.get hp' 27 v=(.int .i64 (l.length:Int),True):=h.Kw Lh
theorem Pv {hp:Hp}{v:Value}{l:List (A0)}(h:BF Aw hp v l){k:IntKind}{n:Int}(h0:0≤n)(h1:n < l.length):AZ tt.get 27 v (.int k n)=(Ah v (n.toNat * 7),True):=h.idx Lh Rt rfl h0 h1
theorem U3 {hp:Hp}{v:Value}{l:List (A0)}(h:BF Aw hp v l){i:Nat}(hi:i < l.length):BN tt.get hp 43 (Ah v (i * 7))=(.agg ⟨Aw.enc (at' l i)⟩,True):=h.load Rt rfl rfl hi
@[go_sem] theorem AD4 {hp:Hp}{x:Value}{b top:Nat}{l:List (A0)}(h:hp b=AD Aw l)(hx:Dy Aw hp x)(hn:l.length+(Aw.rd hp x).length≤16777216):AK tt.get hp top [27,27] (AA b l) x=some (AA top (l ++ Aw.rd hp x),Bu b l top (AD Aw (l ++ Aw.rd hp x)),top+1):=CJ Lh PO rfl Rt rfl rfl h hx hn
@[go_sem] theorem ACt {hp:Hp}{x:Value}{top:Nat}(hx:Dy Aw hp x)(hn:(Aw.rd hp x).length≤16777216):AK tt.get hp top [27,27] (.slice none 0 0) x=some (AA top (Aw.rd hp x), [(top,AD Aw (Aw.rd hp x))],top+1):=CI Lh PO rfl Rt rfl rfl hx hn
@[go_sem] theorem V5 {hp:Hp}{b top k:Nat}{l:List (A0)}(h:hp b=AD Aw l)(hk:hp k=some (.cells true 7 (cellsOf (hp k))))(hc:Aw.enc (Aw.dec (cellsOf (hp k)))=cellsOf (hp k))(hn:Cu (l.length+1) Xp.bytes=true):AK tt.get hp top [27,27] (AA b l) (.slice (some ⟨k,0,none⟩) 1 1)=some (AA top (l ++ [Aw.dec (cellsOf (hp k))]),Bu b l top (AD Aw (l ++ [Aw.dec (cellsOf (hp k))])),top+1):=Dt Lh PO rfl Rt rfl rfl h hk hc hn
@[go_sem] theorem ACu {hp:Hp}{x:Value}{top:Nat}(hx:Dy Aw hp x)(hn:Cu (Aw.rd hp x).length Xp.bytes=true):AK tt.get hp top [27,27] (.slice none 0 0) x=some (AA top (Aw.rd hp x), [(top,AD Aw (Aw.rd hp x))],top+1):=B0 Lh PO rfl Rt rfl rfl hx hn
@[go_sem] theorem ACq {hp:Hp}{top k:Nat}(hk:hp k=some (.cells true 7 (cellsOf (hp k))))(hc:Aw.enc (Aw.dec (cellsOf (hp k)))=cellsOf (hp k)):AK tt.get hp top [27,27] (.slice none 0 0) (.slice (some ⟨k,0,none⟩) 1 1)=some (AA top [Aw.dec (cellsOf (hp k))], [(top,AD Aw [Aw.dec (cellsOf (hp k))])],top+1):=B1 Lh PO rfl Rt rfl rfl hk hc
@[go_sem] theorem AEk {hp:Hp}{b top:Nat}{l l2:List (A0)}(h:hp b=AD Aw l):hp.Ac (Bu b l top (AD Aw l2))=(hp.set b none).set top (AD Aw l2):=E6 h
@[go_sem] theorem AEY {hp:Hp}{b:Nat}{l:List (A0)}{i:Nat}(h:hp b=AD Aw l)(hi:i < l.length){a0:Int}{a1:Int}{a2:Int}{a3:Int}{a4:Int}{a5:Int}{a6:List UInt8}:BJ tt.get hp 43 (Ah (AA b l) (i * 7)) (.agg ⟨[.int .i64 (a0), .int .i64 (a1), .int .i64 (a2), .int .i64 (a3), .int .u32 (a4), .int .i64 (a5), .string ⟨⟨a6⟩⟩]⟩)=([(b,AD Aw (l.set i ⟨a0,a1,a2,a3,a4,a5,a6⟩))],True):=Ez (E:=Aw) (cs:=Aw.enc ⟨a0,a1,a2,a3,a4,a5,a6⟩) Rt rfl h hi rfl rfl
@[go_sem] theorem ABF {hp:Hp}{b:Nat}{l:List (A0)}{i:Nat}(h:hp b=AD Aw l)(hi:i < l.length){x:Int}:BJ tt.get hp 3 (Ah (AA b l) (i * 7)) (.int .i64 (x))=([(b,AD Aw (l.set i {at' l i with Kind:=x}))],True):=A4 (f:=0) BX h hi rfl (by decide) rfl rfl
@[go_sem] theorem ABG {hp:Hp}{b:Nat}{l:List (A0)}{i:Nat}(h:hp b=AD Aw l)(hi:i < l.length){x:Int}:BJ tt.get hp 3 (Ah (AA b l) (i * 7+1)) (.int .i64 (x))=([(b,AD Aw (l.set i {at' l i with Bg:=x}))],True):=A4 (f:=1) BX h hi rfl (by decide) rfl rfl
@[go_sem] theorem ABH {hp:Hp}{b:Nat}{l:List (A0)}{i:Nat}(h:hp b=AD Aw l)(hi:i < l.length){x:Int}:BJ tt.get hp 3 (Ah (AA b l) (i * 7+2)) (.int .i64 (x))=([(b,AD Aw (l.set i {at' l i with DQ:=x}))],True):=A4 (f:=2) BX h hi rfl (by decide) rfl rfl
@[go_sem] theorem ABI {hp:Hp}{b:Nat}{l:List (A0)}{i:Nat}(h:hp b=AD Aw l)(hi:i < l.length){x:Int}:BJ tt.get hp 3 (Ah (AA b l) (i * 7+3)) (.int .i64 (x))=([(b,AD Aw (l.set i {at' l i with CH:=x}))],True):=A4 (f:=3) BX h hi rfl (by decide) rfl rfl
@[go_sem] theorem ABJ {hp:Hp}{b:Nat}{l:List (A0)}{i:Nat}(h:hp b=AD Aw l)(hi:i < l.length){x:Int}:BJ tt.get hp 41 (Ah (AA b l) (i * 7+4)) (.int .u32 (x))=([(b,AD Aw (l.set i {at' l i with Be:=x}))],True):=A4 (f:=4) Rv h hi rfl (by decide) rfl rfl
@[go_sem] theorem ABK {hp:Hp}{b:Nat}{l:List (A0)}{i:Nat}(h:hp b=AD Aw l)(hi:i < l.length){x:Int}:BJ tt.get hp 3 (Ah (AA b l) (i * 7+5)) (.int .i64 (x))=([(b,AD Aw (l.set i {at' l i with Cj:=x}))],True):=A4 (f:=5) BX h hi rfl (by decide) rfl rfl
@[go_sem] theorem ABL {hp:Hp}{b:Nat}{l:List (A0)}{i:Nat}(h:hp b=AD Aw l)(hi:i < l.length){x:List UInt8}:BJ tt.get hp 9 (Ah (AA b l) (i * 7+6)) (.string ⟨⟨x⟩⟩)=([(b,AD Aw (l.set i {at' l i with Bytes:=x}))],True):=A4 (f:=6) DH h hi rfl (by decide) rfl rfl
@[go_sem] theorem vz {b:Nat}{l:List (A0)}{hp2:Hp}:Bv tt.get hp2 27 (AA b l)=(.int .i64 (l.length:Int),True):=by cases l with | nil=>unfold Bv AA;simp only [Lh,DV,PO,ZW];rfl | cons a l=>unfold Bv AA;simp only [Lh,DV,PO,ZW];rfl
end
section
theorem CC {hp:Hp}{v:Value}{l:List (List UInt8)}(h:BF AB hp v l){hp':Hp}:Bv tt.get hp' 67 v=(.int .i64 (l.length:Int),True):=h.Kw Bz
theorem Bo {hp:Hp}{v:Value}{l:List (List UInt8)}(h:BF AB hp v l){k:IntKind}{n:Int}(h0:0≤n)(h1:n < l.length):AZ tt.get 67 v (.int k n)=(Ah v (n.toNat * 1),True):=h.idx Bz DH rfl h0 h1
theorem B9 {hp:Hp}{v:Value}{l:List (List UInt8)}(h:BF AB hp v l){i:Nat}(hi:i < l.length):BN tt.get hp 9 (Ah v (i * 1))=(.string ⟨⟨at' l i⟩⟩,True):=h.cell (f:=0) DH rfl hi (by decide)
theorem Rm {hp:Hp}{v:Value}{l:List (List UInt8)}(h:BF AB hp v l){k:IntKind}{n:Int}(h0:0≤n)(h1:n≤l.length):B5 tt.get hp 67 v none (some (.int k n))=(GK 1 v 0 n.toNat,True):=h.AB3 Bz DH h0 h1
theorem HF {hp:Hp}{v:Value}{l:List (List UInt8)}(h:BF AB hp v l){k:IntKind}{n:Int}(h0:0≤n)(h1:n≤l.length):B5 tt.get hp 67 v (some (.int k n)) none=(Gf 1 v n.toNat,True):=h.AEn Bz DH rfl h0 h1
@[go_sem] theorem uD {hp:Hp}{x:Value}{b top:Nat}{l:List (List UInt8)}(h:hp b=AD AB l)(hx:Dy AB hp x)(hn:l.length+(AB.rd hp x).length≤16777216):AK tt.get hp top [67,67] (AA b l) x=some (AA top (l ++ AB.rd hp x),Bu b l top (AD AB (l ++ AB.rd hp x)),top+1):=CJ Bz E7 rfl DH rfl rfl h hx hn
@[go_sem] theorem sP {hp:Hp}{x:Value}{top:Nat}(hx:Dy AB hp x)(hn:(AB.rd hp x).length≤16777216):AK tt.get hp top [67,67] (.slice none 0 0) x=some (AA top (AB.rd hp x), [(top,AD AB (AB.rd hp x))],top+1):=CI Bz E7 rfl DH rfl rfl hx hn
@[go_sem] theorem GU {hp:Hp}{b top k:Nat}{l:List (List UInt8)}(h:hp b=AD AB l)(hk:hp k=some (.cells true 1 (cellsOf (hp k))))(hc:AB.enc (AB.dec (cellsOf (hp k)))=cellsOf (hp k))(hn:Cu (l.length+1) tK.bytes=true):AK tt.get hp top [67,67] (AA b l) (.slice (some ⟨k,0,none⟩) 1 1)=some (AA top (l ++ [AB.dec (cellsOf (hp k))]),Bu b l top (AD AB (l ++ [AB.dec (cellsOf (hp k))])),top+1):=Dt Bz E7 rfl DH rfl rfl h hk hc hn
@[go_sem] theorem sQ {hp:Hp}{x:Value}{top:Nat}(hx:Dy AB hp x)(hn:Cu (AB.rd hp x).length tK.bytes=true):AK tt.get hp top [67,67] (.slice none 0 0) x=some (AA top (AB.rd hp x), [(top,AD AB (AB.rd hp x))],top+1):=B0 Bz E7 rfl DH rfl rfl hx hn
@[go_sem] theorem sO {hp:Hp}{top k:Nat}(hk:hp k=some (.cells true 1 (cellsOf (hp k))))(hc:AB.enc (AB.dec (cellsOf (hp k)))=cellsOf (hp k)):AK tt.get hp top [67,67] (.slice none 0 0) (.slice (some ⟨k,0,none⟩) 1 1)=some (AA top [AB.dec (cellsOf (hp k))], [(top,AD AB [AB.dec (cellsOf (hp k))])],top+1):=B1 Bz E7 rfl DH rfl rfl hk hc
@[go_sem] theorem wc {hp:Hp}{b top:Nat}{l l2:List (List UInt8)}(h:hp b=AD AB l):hp.Ac (Bu b l top (AD AB l2))=(hp.set b none).set top (AD AB l2):=E6 h
@[go_sem] theorem vy {hp:Hp}{b:Nat}{l:List (List UInt8)}{i:Nat}(h:hp b=AD AB l)(hi:i < l.length){x:List UInt8}:BJ tt.get hp 9 (Ah (AA b l) (i * 1)) (.string ⟨⟨x⟩⟩)=([(b,AD AB (l.set i x))],True):=A4 (f:=0) DH h hi rfl (by decide) rfl rfl
@[go_sem] theorem CN {b:Nat}{l:List (List UInt8)}{hp2:Hp}:Bv tt.get hp2 67 (AA b l)=(.int .i64 (l.length:Int),True):=by cases l with | nil=>unfold Bv AA;simp only [Bz,DV,E7,ZX];rfl | cons a l=>unfold Bv AA;simp only [Bz,DV,E7,ZX];rfl
end
section
theorem Ef {hp:Hp}{v:Value}{l:List (Int)}(h:BF AL hp v l){hp':Hp}:Bv tt.get hp' 68 v=(.int .i64 (l.length:Int),True):=h.Kw Ey
theorem Ct {hp:Hp}{v:Value}{l:List (Int)}(h:BF AL hp v l){k:IntKind}{n:Int}(h0:0≤n)(h1:n < l.length):AZ tt.get 68 v (.int k n)=(Ah v (n.toNat * 1),True):=h.idx Ey BX rfl h0 h1
theorem Dh {hp:Hp}{v:Value}{l:List (Int)}(h:BF AL hp v l){i:Nat}(hi:i < l.length):BN tt.get hp 3 (Ah v (i * 1))=(.int .i64 (at' l i),True):=h.cell (f:=0) BX rfl hi (by decide)
theorem VO {hp:Hp}{v:Value}{l:List (Int)}(h:BF AL hp v l){k:IntKind}{n:Int}(h0:0≤n)(h1:n≤l.length):B5 tt.get hp 68 v none (some (.int k n))=(GK 1 v 0 n.toNat,True):=h.AB3 Ey BX h0 h1
@[go_sem] theorem ACs {hp:Hp}{x:Value}{b top:Nat}{l:List (Int)}(h:hp b=AD AL l)(hx:Dy AL hp x)(hn:l.length+(AL.rd hp x).length≤16777216):AK tt.get hp top [68,68] (AA b l) x=some (AA top (l ++ AL.rd hp x),Bu b l top (AD AL (l ++ AL.rd hp x)),top+1):=CJ Ey HH rfl BX rfl rfl h hx hn
@[go_sem] theorem zk {hp:Hp}{x:Value}{top:Nat}(hx:Dy AL hp x)(hn:(AL.rd hp x).length≤16777216):AK tt.get hp top [68,68] (.slice none 0 0) x=some (AA top (AL.rd hp x), [(top,AD AL (AL.rd hp x))],top+1):=CI Ey HH rfl BX rfl rfl hx hn
@[go_sem] theorem IA {hp:Hp}{b top k:Nat}{l:List (Int)}(h:hp b=AD AL l)(hk:hp k=some (.cells true 1 (cellsOf (hp k))))(hc:AL.enc (AL.dec (cellsOf (hp k)))=cellsOf (hp k))(hn:Cu (l.length+1) MT.bytes=true):AK tt.get hp top [68,68] (AA b l) (.slice (some ⟨k,0,none⟩) 1 1)=some (AA top (l ++ [AL.dec (cellsOf (hp k))]),Bu b l top (AD AL (l ++ [AL.dec (cellsOf (hp k))])),top+1):=Dt Ey HH rfl BX rfl rfl h hk hc hn
@[go_sem] theorem zn {hp:Hp}{x:Value}{top:Nat}(hx:Dy AL hp x)(hn:Cu (AL.rd hp x).length MT.bytes=true):AK tt.get hp top [68,68] (.slice none 0 0) x=some (AA top (AL.rd hp x), [(top,AD AL (AL.rd hp x))],top+1):=B0 Ey HH rfl BX rfl rfl hx hn
@[go_sem] theorem zZ {hp:Hp}{top k:Nat}(hk:hp k=some (.cells true 1 (cellsOf (hp k))))(hc:AL.enc (AL.dec (cellsOf (hp k)))=cellsOf (hp k)):AK tt.get hp top [68,68] (.slice none 0 0) (.slice (some ⟨k,0,none⟩) 1 1)=some (AA top [AL.dec (cellsOf (hp k))], [(top,AD AL [AL.dec (cellsOf (hp k))])],top+1):=B1 Ey HH rfl BX rfl rfl hk hc
@[go_sem] theorem ADZ {hp:Hp}{b top:Nat}{l l2:List (Int)}(h:hp b=AD AL l):hp.Ac (Bu b l top (AD AL l2))=(hp.set b none).set top (AD AL l2):=E6 h
@[go_sem] theorem ADX {hp:Hp}{b:Nat}{l:List (Int)}{i:Nat}(h:hp b=AD AL l)(hi:i < l.length){x:Int}:BJ tt.get hp 3 (Ah (AA b l) (i * 1)) (.int .i64 (x))=([(b,AD AL (l.set i x))],True):=A4 (f:=0) BX h hi rfl (by decide) rfl rfl
@[go_sem] theorem Hc {b:Nat}{l:List (Int)}{hp2:Hp}:Bv tt.get hp2 68 (AA b l)=(.int .i64 (l.length:Int),True):=by cases l with | nil=>unfold Bv AA;simp only [Ey,DV,HH,VX];rfl | cons a l=>unfold Bv AA;simp only [Ey,DV,HH,VX];rfl
@[go_sem] theorem za {hp:Hp}{b top k:Nat}{l:List (Int)}(h:hp b=AD AL l)(hk:hp k=some (.cells true 1 (cellsOf (hp k))))(hc:AL.enc (AL.dec (cellsOf (hp k)))=cellsOf (hp k))(hn:l.length < 16777216):AK tt.get hp top [68,68] (AA b l) (.slice (some ⟨k,0,none⟩) 1 1)=some (AA top (l ++ [AL.dec (cellsOf (hp k))]),Bu b l top (AD AL (l ++ [AL.dec (cellsOf (hp k))])),top+1):=MY Ey HH rfl BX rfl rfl h hk hc hn
end
section
@[go_sem] theorem xm {hp:Hp}{x:Value}{b top:Nat}{l:List (Int)}(h:hp b=AD A5 l)(hx:Dy A5 hp x)(hn:l.length+(A5.rd hp x).length≤16777216):AK tt.get hp top [69,69] (AA b l) x=some (AA top (l ++ A5.rd hp x),Bu b l top (AD A5 (l ++ A5.rd hp x)),top+1):=CJ DU DX rfl Fu rfl rfl h hx hn
@[go_sem] theorem uE {hp:Hp}{x:Value}{top:Nat}(hx:Dy A5 hp x)(hn:(A5.rd hp x).length≤16777216):AK tt.get hp top [69,69] (.slice none 0 0) x=some (AA top (A5.rd hp x), [(top,AD A5 (A5.rd hp x))],top+1):=CI DU DX rfl Fu rfl rfl hx hn
@[go_sem] theorem uG {hp:Hp}{x:Value}{top:Nat}(hx:Dy A5 hp x)(hn:Cu (A5.rd hp x).length yk.bytes=true):AK tt.get hp top [69,69] (.slice none 0 0) x=some (AA top (A5.rd hp x), [(top,AD A5 (A5.rd hp x))],top+1):=B0 DU DX rfl Fu rfl rfl hx hn
@[go_sem] theorem uC {hp:Hp}{top k:Nat}(hk:hp k=some (.cells true 1 (cellsOf (hp k))))(hc:A5.enc (A5.dec (cellsOf (hp k)))=cellsOf (hp k)):AK tt.get hp top [69,69] (.slice none 0 0) (.slice (some ⟨k,0,none⟩) 1 1)=some (AA top [A5.dec (cellsOf (hp k))], [(top,AD A5 [A5.dec (cellsOf (hp k))])],top+1):=B1 DU DX rfl Fu rfl rfl hk hc
@[go_sem] theorem ye {hp:Hp}{b top:Nat}{l l2:List (Int)}(h:hp b=AD A5 l):hp.Ac (Bu b l top (AD A5 l2))=(hp.set b none).set top (AD A5 l2):=E6 h
@[go_sem] theorem yY {hp:Hp}{b:Nat}{l:List (Int)}{i:Nat}(h:hp b=AD A5 l)(hi:i < l.length){x:Int}:BJ tt.get hp 5 (Ah (AA b l) (i * 1)) (.int .u8 (x))=([(b,AD A5 (l.set i x))],True):=A4 (f:=0) Fu h hi rfl (by decide) rfl rfl
@[go_sem] theorem yZ {b:Nat}{l:List (Int)}{hp2:Hp}:Bv tt.get hp2 69 (AA b l)=(.int .i64 (l.length:Int),True):=by cases l with | nil=>unfold Bv AA;simp only [DU,DV,DX,Xq];rfl | cons a l=>unfold Bv AA;simp only [DU,DV,DX,Xq];rfl
end
section
@[go_sem] theorem ze {hp:Hp}{x:Value}{b top:Nat}{l:List (C7)}(h:hp b=AD BC l)(hx:Dy BC hp x)(hn:l.length+(BC.rd hp x).length≤16777216):AK tt.get hp top [183,183] (AA b l) x=some (AA top (l ++ BC.rd hp x),Bu b l top (AD BC (l ++ BC.rd hp x)),top+1):=CJ I7 JQ rfl Oa rfl rfl h hx hn
@[go_sem] theorem xp {hp:Hp}{x:Value}{top:Nat}(hx:Dy BC hp x)(hn:(BC.rd hp x).length≤16777216):AK tt.get hp top [183,183] (.slice none 0 0) x=some (AA top (BC.rd hp x), [(top,AD BC (BC.rd hp x))],top+1):=CI I7 JQ rfl Oa rfl rfl hx hn
@[go_sem] theorem xy {hp:Hp}{x:Value}{top:Nat}(hx:Dy BC hp x)(hn:Cu (BC.rd hp x).length Xl.bytes=true):AK tt.get hp top [183,183] (.slice none 0 0) x=some (AA top (BC.rd hp x), [(top,AD BC (BC.rd hp x))],top+1):=B0 I7 JQ rfl Oa rfl rfl hx hn
@[go_sem] theorem xg {hp:Hp}{top k:Nat}(hk:hp k=some (.cells true 3 (cellsOf (hp k))))(hc:BC.enc (BC.dec (cellsOf (hp k)))=cellsOf (hp k)):AK tt.get hp top [183,183] (.slice none 0 0) (.slice (some ⟨k,0,none⟩) 1 1)=some (AA top [BC.dec (cellsOf (hp k))], [(top,AD BC [BC.dec (cellsOf (hp k))])],top+1):=B1 I7 JQ rfl Oa rfl rfl hk hc
@[go_sem] theorem ABx {hp:Hp}{b top:Nat}{l l2:List (C7)}(h:hp b=AD BC l):hp.Ac (Bu b l top (AD BC l2))=(hp.set b none).set top (AD BC l2):=E6 h
@[go_sem] theorem ABS {hp:Hp}{b:Nat}{l:List (C7)}{i:Nat}(h:hp b=AD BC l)(hi:i < l.length){a0:Int}{a1:Int}{a2:Int}:BJ tt.get hp 233 (Ah (AA b l) (i * 3)) (.agg ⟨[.int .i64 (a0), .int .i64 (a1), .int .i64 (a2)]⟩)=([(b,AD BC (l.set i ⟨a0,a1,a2⟩))],True):=Ez (E:=BC) (cs:=BC.enc ⟨a0,a1,a2⟩) Oa rfl h hi rfl rfl
@[go_sem] theorem vd {hp:Hp}{b:Nat}{l:List (C7)}{i:Nat}(h:hp b=AD BC l)(hi:i < l.length){x:Int}:BJ tt.get hp 3 (Ah (AA b l) (i * 3)) (.int .i64 (x))=([(b,AD BC (l.set i {at' l i with C1:=x}))],True):=A4 (f:=0) BX h hi rfl (by decide) rfl rfl
@[go_sem] theorem ve {hp:Hp}{b:Nat}{l:List (C7)}{i:Nat}(h:hp b=AD BC l)(hi:i < l.length){x:Int}:BJ tt.get hp 3 (Ah (AA b l) (i * 3+1)) (.int .i64 (x))=([(b,AD BC (l.set i {at' l i with To:=x}))],True):=A4 (f:=1) BX h hi rfl (by decide) rfl rfl
@[go_sem] theorem vf {hp:Hp}{b:Nat}{l:List (C7)}{i:Nat}(h:hp b=AD BC l)(hi:i < l.length){x:Int}:BJ tt.get hp 3 (Ah (AA b l) (i * 3+2)) (.int .i64 (x))=([(b,AD BC (l.set i {at' l i with Dx:=x}))],True):=A4 (f:=2) BX h hi rfl (by decide) rfl rfl
@[go_sem] theorem ABY {b:Nat}{l:List (C7)}{hp2:Hp}:Bv tt.get hp2 183 (AA b l)=(.int .i64 (l.length:Int),True):=by cases l with | nil=>unfold Bv AA;simp only [I7,DV,JQ,Tm];rfl | cons a l=>unfold Bv AA;simp only [I7,DV,JQ,Tm];rfl
@[go_sem] theorem xl {hp:Hp}{b top k:Nat}{l:List (C7)}(h:hp b=AD BC l)(hk:hp k=some (.cells true 3 (cellsOf (hp k))))(hc:BC.enc (BC.dec (cellsOf (hp k)))=cellsOf (hp k))(hn:l.length < 16777216):AK tt.get hp top [183,183] (AA b l) (.slice (some ⟨k,0,none⟩) 1 1)=some (AA top (l ++ [BC.dec (cellsOf (hp k))]),Bu b l top (AD BC (l ++ [BC.dec (cellsOf (hp k))])),top+1):=MY I7 JQ rfl Oa rfl rfl h hk hc hn
end
section
@[go_sem] theorem zh {hp:Hp}{x:Value}{b top:Nat}{l:List (Bool)}(h:hp b=AD CK l)(hx:Dy CK hp x)(hn:l.length+(CK.rd hp x).length≤16777216):AK tt.get hp top [206,206] (AA b l) x=some (AA top (l ++ CK.rd hp x),Bu b l top (AD CK (l ++ CK.rd hp x)),top+1):=CJ Ku LB rfl Ke rfl rfl h hx hn
@[go_sem] theorem xu {hp:Hp}{x:Value}{top:Nat}(hx:Dy CK hp x)(hn:(CK.rd hp x).length≤16777216):AK tt.get hp top [206,206] (.slice none 0 0) x=some (AA top (CK.rd hp x), [(top,AD CK (CK.rd hp x))],top+1):=CI Ku LB rfl Ke rfl rfl hx hn
@[go_sem] theorem x7 {hp:Hp}{x:Value}{top:Nat}(hx:Dy CK hp x)(hn:Cu (CK.rd hp x).length xH.bytes=true):AK tt.get hp top [206,206] (.slice none 0 0) x=some (AA top (CK.rd hp x), [(top,AD CK (CK.rd hp x))],top+1):=B0 Ku LB rfl Ke rfl rfl hx hn
@[go_sem] theorem xj {hp:Hp}{top k:Nat}(hk:hp k=some (.cells true 1 (cellsOf (hp k))))(hc:CK.enc (CK.dec (cellsOf (hp k)))=cellsOf (hp k)):AK tt.get hp top [206,206] (.slice none 0 0) (.slice (some ⟨k,0,none⟩) 1 1)=some (AA top [CK.dec (cellsOf (hp k))], [(top,AD CK [CK.dec (cellsOf (hp k))])],top+1):=B1 Ku LB rfl Ke rfl rfl hk hc
@[go_sem] theorem ABV {hp:Hp}{b:Nat}{l:List (Bool)}{i:Nat}(h:hp b=AD CK l)(hi:i < l.length){x:Bool}:BJ tt.get hp 4 (Ah (AA b l) (i * 1)) (.bool (x))=([(b,AD CK (l.set i x))],True):=A4 (f:=0) Ke h hi rfl (by decide) rfl rfl
@[go_sem] theorem ABb {b:Nat}{l:List (Bool)}{hp2:Hp}:Bv tt.get hp2 206 (AA b l)=(.int .i64 (l.length:Int),True):=by cases l with | nil=>unfold Bv AA;simp only [Ku,DV,LB,Tp];rfl | cons a l=>unfold Bv AA;simp only [Ku,DV,LB,Tp];rfl
end
section
@[go_sem] theorem ACr {hp:Hp}{x:Value}{b top:Nat}{l:List (Jh)}(h:hp b=AD C5 l)(hx:Dy C5 hp x)(hn:l.length+(C5.rd hp x).length≤16777216):AK tt.get hp top [210,210] (AA b l) x=some (AA top (l ++ C5.rd hp x),Bu b l top (AD C5 (l ++ C5.rd hp x)),top+1):=CJ OE Oc rfl Xb rfl rfl h hx hn
@[go_sem] theorem zj {hp:Hp}{x:Value}{top:Nat}(hx:Dy C5 hp x)(hn:(C5.rd hp x).length≤16777216):AK tt.get hp top [210,210] (.slice none 0 0) x=some (AA top (C5.rd hp x), [(top,AD C5 (C5.rd hp x))],top+1):=CI OE Oc rfl Xb rfl rfl hx hn
@[go_sem] theorem zm {hp:Hp}{x:Value}{top:Nat}(hx:Dy C5 hp x)(hn:Cu (C5.rd hp x).length Xm.bytes=true):AK tt.get hp top [210,210] (.slice none 0 0) x=some (AA top (C5.rd hp x), [(top,AD C5 (C5.rd hp x))],top+1):=B0 OE Oc rfl Xb rfl rfl hx hn
@[go_sem] theorem zY {hp:Hp}{top k:Nat}(hk:hp k=some (.cells true 4 (cellsOf (hp k))))(hc:C5.enc (C5.dec (cellsOf (hp k)))=cellsOf (hp k)):AK tt.get hp top [210,210] (.slice none 0 0) (.slice (some ⟨k,0,none⟩) 1 1)=some (AA top [C5.dec (cellsOf (hp k))], [(top,AD C5 [C5.dec (cellsOf (hp k))])],top+1):=B1 OE Oc rfl Xb rfl rfl hk hc
@[go_sem] theorem ADW {hp:Hp}{b:Nat}{l:List (Jh)}{i:Nat}(h:hp b=AD C5 l)(hi:i < l.length){a0:Int}{a1:Int}{a2:Int}{a3:List UInt8}:BJ tt.get hp 280 (Ah (AA b l) (i * 4)) (.agg ⟨[.int .u64 (a0), .int .i64 (a1), .int .i64 (a2), .string ⟨⟨a3⟩⟩]⟩)=([(b,AD C5 (l.set i ⟨a0,a1,a2,a3⟩))],True):=Ez (E:=C5) (cs:=C5.enc ⟨a0,a1,a2,a3⟩) Xb rfl h hi rfl rfl
@[go_sem] theorem yX {hp:Hp}{b:Nat}{l:List (Jh)}{i:Nat}(h:hp b=AD C5 l)(hi:i < l.length){x:Int}:BJ tt.get hp 106 (Ah (AA b l) (i * 4)) (.int .u64 (x))=([(b,AD C5 (l.set i {at' l i with At:=x}))],True):=A4 (f:=0) Xe h hi rfl (by decide) rfl rfl
@[go_sem] theorem ADY {b:Nat}{l:List (Jh)}{hp2:Hp}:Bv tt.get hp2 210 (AA b l)=(.int .i64 (l.length:Int),True):=by cases l with | nil=>unfold Bv AA;simp only [OE,DV,Oc,Tq];rfl | cons a l=>unfold Bv AA;simp only [OE,DV,Oc,Tq];rfl
end
section
@[go_sem] theorem zi {hp:Hp}{x:Value}{b top:Nat}{l:List (Gs)}(h:hp b=AD B2 l)(hx:Dy B2 hp x)(hn:l.length+(B2.rd hp x).length≤16777216):AK tt.get hp top [228,228] (AA b l) x=some (AA top (l ++ B2.rd hp x),Bu b l top (AD B2 (l ++ B2.rd hp x)),top+1):=CJ Kv LC rfl Ru rfl rfl h hx hn
@[go_sem] theorem xw {hp:Hp}{x:Value}{top:Nat}(hx:Dy B2 hp x)(hn:(B2.rd hp x).length≤16777216):AK tt.get hp top [228,228] (.slice none 0 0) x=some (AA top (B2.rd hp x), [(top,AD B2 (B2.rd hp x))],top+1):=CI Kv LC rfl Ru rfl rfl hx hn
@[go_sem] theorem x8 {hp:Hp}{x:Value}{top:Nat}(hx:Dy B2 hp x)(hn:Cu (B2.rd hp x).length Xn.bytes=true):AK tt.get hp top [228,228] (.slice none 0 0) x=some (AA top (B2.rd hp x), [(top,AD B2 (B2.rd hp x))],top+1):=B0 Kv LC rfl Ru rfl rfl hx hn
@[go_sem] theorem xk {hp:Hp}{top k:Nat}(hk:hp k=some (.cells true 5 (cellsOf (hp k))))(hc:B2.enc (B2.dec (cellsOf (hp k)))=cellsOf (hp k)):AK tt.get hp top [228,228] (.slice none 0 0) (.slice (some ⟨k,0,none⟩) 1 1)=some (AA top [B2.dec (cellsOf (hp k))], [(top,AD B2 [B2.dec (cellsOf (hp k))])],top+1):=B1 Kv LC rfl Ru rfl rfl hk hc
@[go_sem] theorem ABW {hp:Hp}{b:Nat}{l:List (Gs)}{i:Nat}(h:hp b=AD B2 l)(hi:i < l.length){a0:Int}{a1:Int}{a2:Int}{a3:Int}{a4:List UInt8}:BJ tt.get hp 282 (Ah (AA b l) (i * 5)) (.agg ⟨[.int .u64 (a0), .int .i64 (a1), .int .i64 (a2), .int .i64 (a3), .string ⟨⟨a4⟩⟩]⟩)=([(b,AD B2 (l.set i ⟨a0,a1,a2,a3,a4⟩))],True):=Ez (E:=B2) (cs:=B2.enc ⟨a0,a1,a2,a3,a4⟩) Ru rfl h hi rfl rfl
@[go_sem] theorem vo {hp:Hp}{b:Nat}{l:List (Gs)}{i:Nat}(h:hp b=AD B2 l)(hi:i < l.length){x:Int}:BJ tt.get hp 106 (Ah (AA b l) (i * 5)) (.int .u64 (x))=([(b,AD B2 (l.set i {at' l i with at_:=x}))],True):=A4 (f:=0) Xe h hi rfl (by decide) rfl rfl
@[go_sem] theorem vp {hp:Hp}{b:Nat}{l:List (Gs)}{i:Nat}(h:hp b=AD B2 l)(hi:i < l.length){x:Int}:BJ tt.get hp 3 (Ah (AA b l) (i * 5+1)) (.int .i64 (x))=([(b,AD B2 (l.set i {at' l i with MO:=x}))],True):=A4 (f:=1) BX h hi rfl (by decide) rfl rfl
@[go_sem] theorem ABc {b:Nat}{l:List (Gs)}{hp2:Hp}:Bv tt.get hp2 228 (AA b l)=(.int .i64 (l.length:Int),True):=by cases l with | nil=>unfold Bv AA;simp only [Kv,DV,LC,Ts];rfl | cons a l=>unfold Bv AA;simp only [Kv,DV,LC,Ts];rfl
end
def Ux:KT tt.get 3 Int:=⟨fun a=> .int .i64 (a),fun a b=>by simp [Ij,BX,MT,HY],fun a=>by simp [KM,BX,MT],fun a=>rfl,fun a=>by simp [Instr.sameBits],fun ρ a=>rfl⟩
@[go_sem] theorem qM {hp:Hp}{b:Nat}{k:Value}{ok:Bool}:Ge tt.get hp 136 (.map (some b)) k ok=(match hp b with | some (.map es _)=>JK tt.get 3 MT.zero k es ok | _=>(undef,False)):=PK KL BX BX
@[go_sem] theorem ql {hp:Hp}{b:Nat}{k x:Value}:ET tt.get hp 136 (.map (some b)) k x=(match hp b with | some (.map es CG)=>Fp tt.get 3 b k x es CG | _=>none):=KN KL BX
def Dk (a:Int):Value:= .int .i64 (a)
abbrev Fw:=List (Int×Int×Nat)
def Dj (m:Fw):List MapEntry:=m.map (L6 Ux.ek Dk)
@[go_sem] theorem pA {z:Value}{m:Fw}{a0:Int}:JK tt.get 3 z (.int .i64 (a0)) (Dj m) false=(((GH m a0).map Dk).getD z,True):=ku Ux Dk m a0
@[go_sem] theorem oS {x:Option (Int)}:(x.map Dk).getD (.int .i64 (0))=Dk (x.getD default):=by cases x <;> rfl
theorem VL {ρ:Nat→Nat}{m:Fw}:(Dj m).map (RP ρ)=Dj m:=RQ (fun _=>rfl) (fun _=>rfl) m
@[go_sem] theorem pG {b CG:Nat}{m:Fw}{a0:Int}{b0:Int}:Fp tt.get 3 b (.int .i64 (a0)) (.int .i64 (b0)) (Dj m) CG=some [(b,some (.map (Dj (KO m a0 b0 CG)) (U7 m a0 CG)))]:=OH Ux Dk b m CG a0 b0
def Uy:KT tt.get 202 Gq:=⟨fun a=> .agg ⟨UX.enc a⟩,fun a b=>by
  obtain ⟨a0,a1⟩:=a;obtain ⟨b0,b1⟩:=b
  simp only [Ij,ZV,Tn,eqFields,DE,MT,BX,MT,BX,Hh,Pq,HY,List.drop_zero,List.drop_succ_cons,Gq.mk.injEq,if_true]
  by_cases h0:a0=b0 <;> by_cases h1:a1=b1 <;> simp [h0,h1],fun a=>by
  simp [KM,Fe,DE,ZV,Tn,MT,BX,MT,BX,Hh,Pq],fun a=>by simp [plain,Pq],fun a=>PJ (fun v h=>by simp [Pq] at h;rcases h with rfl | rfl <;> simp [Instr.sameBits]),fun ρ a=>rfl⟩
@[go_sem] theorem nC {hp:Hp}{b:Nat}{k x:Value}:ET tt.get hp 192 (.map (some b)) k x=(match hp b with | some (.map es CG)=>Fp tt.get 202 b k x es CG | _=>none):=KN M6 ZV
def Ei (a:Int):Value:= .int .i64 (a)
abbrev Dc:=List (Gq×Int×Nat)
def Dv (m:Dc):List MapEntry:=m.map (L6 Uy.ek Ei)
@[go_sem] theorem mo {x:Option (Int)}:(x.map Ei).getD (.int .i64 (0))=Ei (x.getD default):=by cases x <;> rfl
theorem SN {ρ:Nat→Nat}{m:Dc}:(Dv m).map (RP ρ)=Dv m:=RQ (fun _=>rfl) (fun _=>rfl) m
@[go_sem] theorem my {b CG:Nat}{m:Dc}{a0 a1:Int}{b0:Int}:Fp tt.get 202 b (.agg ⟨[.int .i64 (a0), .int .i64 (a1)]⟩) (.int .i64 (b0)) (Dv m) CG=some [(b,some (.map (Dv (KO m ⟨a0,a1⟩ b0 CG)) (U7 m ⟨a0,a1⟩ CG)))]:=OH Uy Ei b m CG ⟨a0,a1⟩ b0
def FI (a:Bool):Value:= .bool (a)
abbrev Hg:=List (Gq×Bool×Nat)
def FH (m:Hg):List MapEntry:=m.map (L6 Uy.ek FI)
@[go_sem] theorem iy {x:Option (Bool)}:(x.map FI).getD (.bool (false))=FI (x.getD default):=by cases x <;> rfl
theorem RT {ρ:Nat→Nat}{m:Hg}:(FH m).map (RP ρ)=FH m:=RQ (fun _=>rfl) (fun _=>rfl) m
def Ft (a:Bool):Value:= .bool (a)
abbrev Il:=List (Int×Bool×Nat)
def Fq (m:Il):List MapEntry:=m.map (L6 Ux.ek Ft)
@[go_sem] theorem mn {x:Option (Bool)}:(x.map Ft).getD (.bool (false))=Ft (x.getD default):=by cases x <;> rfl
theorem SM {ρ:Nat→Nat}{m:Il}:(Fq m).map (RP ρ)=Fq m:=RQ (fun _=>rfl) (fun _=>rfl) m
def MI:KT tt.get 248 Ds:=⟨fun a=> .agg ⟨Kq.enc a⟩,fun a b=>by
  obtain ⟨a0,a1,a2⟩:=a;obtain ⟨b0,b1,b2⟩:=b
  simp only [Ij,LA,Tt,eqFields,DE,MT,BX,MT,BX,MT,BX,Hh,I1,HY,List.drop_zero,List.drop_succ_cons,Ds.mk.injEq,if_true]
  by_cases h0:a0=b0 <;> by_cases h1:a1=b1 <;> by_cases h2:a2=b2 <;> simp [h0,h1,h2],fun a=>by
  simp [KM,Fe,DE,LA,Tt,MT,BX,MT,BX,MT,BX,Hh,I1],fun a=>by simp [plain,I1],fun a=>PJ (fun v h=>by simp [I1] at h;rcases h with rfl | rfl | rfl <;> simp [Instr.sameBits]),fun ρ a=>rfl⟩
@[go_sem] theorem bw {hp:Hp}{b:Nat}{k:Value}{ok:Bool}:Ge tt.get hp 223 (.map (some b)) k ok=(match hp b with | some (.map es _)=>JK tt.get 248 Xs.zero k es ok | _=>(undef,False)):=PK Fc LA Hv
@[go_sem] theorem cB {hp:Hp}{b:Nat}{k x:Value}:ET tt.get hp 223 (.map (some b)) k x=(match hp b with | some (.map es CG)=>Fp tt.get 248 b k x es CG | _=>none):=KN Fc LA
def CL (a:Aq):Value:= .agg ⟨AO.enc a⟩
abbrev DP:=List (Ds×Aq×Nat)
def BZ (m:DP):List MapEntry:=m.map (L6 MI.ek CL)
@[go_sem] theorem bT {z:Value}{m:DP}{a0 a1 a2:Int}:JK tt.get 248 z (.agg ⟨[.int .i64 (a0), .int .i64 (a1), .int .i64 (a2)]⟩) (BZ m) true=(.tuple ⟨[((GH m ⟨a0,a1,a2⟩).map CL).getD z, .bool (GH m ⟨a0,a1,a2⟩).isSome]⟩,True):=XS MI CL m ⟨a0,a1,a2⟩
@[go_sem] theorem bJ {x:Option (Aq)}:(x.map CL).getD (.agg ⟨[(.int .i64 (0)),(.int .i64 (0)),(.int .i64 (0)),(.int .i64 (0)),(.int .i64 (0))]⟩)=CL (x.getD default):=by cases x <;> rfl
theorem NR {ρ:Nat→Nat}{m:DP}:(BZ m).map (RP ρ)=BZ m:=RQ (fun _=>rfl) (fun _=>rfl) m
@[go_sem] theorem ba {b CG:Nat}{m:DP}{a0 a1 a2:Int}{b0 b1 b2 b3 b4:Int}:Fp tt.get 248 b (.agg ⟨[.int .i64 (a0), .int .i64 (a1), .int .i64 (a2)]⟩) (.agg ⟨[.int .i64 (b0), .int .i64 (b1), .int .i64 (b2), .int .i64 (b3), .int .i64 (b4)]⟩) (BZ m) CG=some [(b,some (.map (BZ (KO m ⟨a0,a1,a2⟩ ⟨b0,b1,b2,b3,b4⟩ CG)) (U7 m ⟨a0,a1,a2⟩ CG)))]:=OH MI CL b m CG ⟨a0,a1,a2⟩ ⟨b0,b1,b2,b3,b4⟩
theorem K7 {s d:TypeId}{k1 k2:IntKind}{hp:Hp}{x:Value}(h1:kindOf tt.get s=some (.int k1))(h2:kindOf tt.get d=some (.int k2)):CQ tt.get hp s d x=(.int k2 (Ad k2 (intOf x)),R3 x):=by
 unfold CQ
 simp only [h1,h2,Rj]
@[go_sem] theorem AEA {hp:Hp}{x:Value}:CQ tt.get hp 3 5 x=(.int .u8 (Ad .u8 (intOf x)),R3 x):=K7 Q0 I8
@[go_sem] theorem ACw {hp:Hp}{x:Value}:CQ tt.get hp 3 41 x=(.int .u32 (Ad .u32 (intOf x)),R3 x):=K7 Q0 M7
@[go_sem] theorem zr {hp:Hp}{x:Value}:CQ tt.get hp 3 104 x=(.int .u64 (Ad .u64 (intOf x)),R3 x):=K7 Q0 vB
@[go_sem] theorem zs {hp:Hp}{x:Value}:CQ tt.get hp 3 106 x=(.int .u64 (Ad .u64 (intOf x)),R3 x):=K7 Q0 Wt
@[go_sem] theorem AEB {hp:Hp}{x:Value}:CQ tt.get hp 5 3 x=(.int .i64 (Ad .i64 (intOf x)),R3 x):=K7 I8 Q0
@[go_sem] theorem ACx {hp:Hp}{x:Value}:CQ tt.get hp 41 3 x=(.int .i64 (Ad .i64 (intOf x)),R3 x):=K7 M7 Q0
attribute [go_sem_proc]reduceIte reduceCtorEq Nat.reduceAdd Nat.reduceMul Nat.reduceSub Nat.reduceLT Nat.reduceLeDiff Nat.reduceEqDiff Int.reduceEq Int.reduceLT Int.reduceLE Int.reduceNe
attribute [simp]Ha Hx eR Ao Cg kL eQ FQ.nil FQ.cons Y6 Y7 kM Ai Eu Ci Av B6.WV AY Aj BR Bh BK.set BK.wh BK.refl VL SN RT SM NR
attribute [go_sem]Dk
attribute [go_sem]Ei
attribute [go_sem]FI
attribute [go_sem]Ft
attribute [go_sem]CL
end Go.Proofs.YthlhnangbinhoaaGreatDoor.Dm
