import Derived.Test.YthpibnpeaidabaaGreatDoorDmTab
import Derived.Test.YthpibnpeaidabaaGreatDoorDmH
set_option linter.unusedSimpArgs false
namespace Go.Proofs.YthpibnpeaidabaaGreatDoor.Dm
open Go.Dm
attribute [go_sem] yu Yg xO Z5 iy fJ af RF aI K6 Jf V4 Lg Pq OI Ll Ng U6 e7 Zc Tv fI Mo Uu KO TS S8 N9 Ux Uv Tc UU Uo UY ML Mj Uq R4 TW Ue UW
@[go_sem] theorem zn:tt.get 2=some yu:=by kernel_rfl
@[go_sem] theorem xH:Ak tt.get 2=0:=by kernel_rfl
@[go_sem] theorem Rl:kindOf tt.get 2=some (.int .i64):=by kernel_rfl
@[go_sem] theorem zO {op:BinOp}{xo yo:Operand}{x y:Value}:Bg tt.get op 2 xo yo x y=Ek op .i64 x y:=Cp Rl
@[go_sem] theorem Dx:tt.get 3=some Yg:=by kernel_rfl
@[go_sem] theorem AAA:Ak tt.get 3=0:=by kernel_rfl
@[go_sem] theorem JD:kindOf tt.get 3=some (.int .i64):=by kernel_rfl
@[go_sem] theorem AA3 {op:BinOp}{xo yo:Operand}{x y:Value}:Bg tt.get op 3 xo yo x y=Ek op .i64 x y:=Cp JD
@[go_sem] theorem AAj:tt.get 4=some xO:=by kernel_rfl
@[go_sem] theorem yw:Ak tt.get 4=0:=by kernel_rfl
@[go_sem] theorem r7:kindOf tt.get 4=some (.bool):=by kernel_rfl
@[go_sem] theorem zt {op:BinOp}{xo yo:Operand}{x y:Value}:Bg tt.get op 4 xo yo x y=MP op x y:=VF r7
@[go_sem] theorem EK:tt.get 5=some Z5:=by kernel_rfl
@[go_sem] theorem yY:Ak tt.get 5=0:=by kernel_rfl
@[go_sem] theorem Ei:kindOf tt.get 5=some (.int .u8):=by kernel_rfl
@[go_sem] theorem zP {op:BinOp}{xo yo:Operand}{x y:Value}:Bg tt.get op 5 xo yo x y=Ek op .u8 x y:=Cp Ei
@[go_sem] theorem B2:tt.get 9=some iy:=by kernel_rfl
@[go_sem] theorem vB:Ak tt.get 9=0:=by kernel_rfl
@[go_sem] theorem OA:kindOf tt.get 9=some (.string):=by kernel_rfl
@[go_sem] theorem vk {op:BinOp}{xo yo:Operand}{x y:Value}:Bg tt.get op 9 xo yo x y=Mx op x y:=ZO OA
@[go_sem] theorem ABB:tt.get 20=some fJ:=by kernel_rfl
@[go_sem] theorem AAE:Ak tt.get 20=0:=by kernel_rfl
@[go_sem] theorem AA5 {op:BinOp}{xo yo:Operand}{x y:Value}:Bg tt.get op 20 xo yo x y=Dv (BD tt.get op 20 xo yo x y):=CN (by kernel_rfl)
@[go_sem] theorem zh:tt.get 21=some af:=by kernel_rfl
@[go_sem] theorem vQ:Ak tt.get 21=0:=by kernel_rfl
@[go_sem] theorem Xg:kindOf tt.get 21=some (.int .i32):=by kernel_rfl
@[go_sem] theorem zc {op:BinOp}{xo yo:Operand}{x y:Value}:Bg tt.get op 21 xo yo x y=Ek op .i32 x y:=Cp Xg
@[go_sem] theorem Dk:tt.get 22=some RF:=by kernel_rfl
@[go_sem] theorem vI:Ak tt.get 22=0:=by kernel_rfl
@[go_sem] theorem Cv:kindOf tt.get 22=some (.slice 33):=by kernel_rfl
@[go_sem] theorem xJ {op:BinOp}{xo yo:Operand}{x y:Value}:Bg tt.get op 22 xo yo x y=Dv (BD tt.get op 22 xo yo x y):=CN (by kernel_rfl)
@[go_sem] theorem lR {xo yo:Operand}{a:Option Addr}{n c:Nat}:BD tt.get .eql 22 xo yo (.slice a n c) (.slice none 0 0)=some (.bool (a.isNone)):=by cases a <;> simp [BD,Em,Dk,RF]
@[go_sem] theorem jE {xo yo:Operand}{a:Option Addr}{n c:Nat}:BD tt.get .neq 22 xo yo (.slice a n c) (.slice none 0 0)=some (.bool (!a.isNone)):=by cases a <;> simp [BD,Em,Dk,RF]
@[go_sem] theorem zg:tt.get 24=some aI:=by kernel_rfl
@[go_sem] theorem yP:Ak tt.get 24=0:=by kernel_rfl
@[go_sem] theorem oA:kindOf tt.get 24=some (.int .i64):=by kernel_rfl
@[go_sem] theorem zG {op:BinOp}{xo yo:Operand}{x y:Value}:Bg tt.get op 24 xo yo x y=Ek op .i64 x y:=Cp oA
@[go_sem] theorem IA:tt.get 28=some K6:=by kernel_rfl
@[go_sem] theorem uv:Ak tt.get 28=0:=by kernel_rfl
@[go_sem] theorem Dd:kindOf tt.get 28=some (.int .u64):=by kernel_rfl
@[go_sem] theorem ym {op:BinOp}{xo yo:Operand}{x y:Value}:Bg tt.get op 28 xo yo x y=Ek op .u64 x y:=Cp Dd
@[go_sem] theorem CH:tt.get 29=some Jf:=by kernel_rfl
@[go_sem] theorem u9:Ak tt.get 29=0:=by kernel_rfl
@[go_sem] theorem Gi:kindOf tt.get 29=some (.int .u32):=by kernel_rfl
@[go_sem] theorem vx {op:BinOp}{xo yo:Operand}{x y:Value}:Bg tt.get op 29 xo yo x y=Ek op .u32 x y:=Cp Gi
@[go_sem] theorem dY:tt.get 31=some V4:=by kernel_rfl
@[go_sem] theorem zd:Ak tt.get 31=0:=by kernel_rfl
@[go_sem] theorem AAQ:kindOf tt.get 31=some (.array 4 28):=by kernel_rfl
@[go_sem] theorem Ch:tt.get 33=some Lg:=by kernel_rfl
@[go_sem] theorem wD:Ak tt.get 33=0:=by kernel_rfl
@[go_sem] theorem sg {b o:Nat}:AZ tt.get 33 (.pointer (some ⟨b,o,none⟩)) 0=(.pointer (some ⟨b,o,none⟩),True):=by unfold AZ;rw [show Av tt.get 33 (.pointer (some ⟨b,o,none⟩)) 0=some (.pointer (some ⟨b,o,none⟩)) from by kernel_rfl]
@[go_sem] theorem sJ {b o:Nat}:AZ tt.get 33 (.pointer (some ⟨b,o,none⟩)) 1=(.pointer (some ⟨b,o+1,none⟩),True):=by unfold AZ;rw [show Av tt.get 33 (.pointer (some ⟨b,o,none⟩)) 1=some (.pointer (some ⟨b,o+1,none⟩)) from by kernel_rfl]
@[go_sem] theorem tG {b o:Nat}:AZ tt.get 33 (.pointer (some ⟨b,o,none⟩)) 2=(.pointer (some ⟨b,o+2,none⟩),True):=by unfold AZ;rw [show Av tt.get 33 (.pointer (some ⟨b,o,none⟩)) 2=some (.pointer (some ⟨b,o+2,none⟩)) from by kernel_rfl]
@[go_sem] theorem rI {b o:Nat}:AZ tt.get 33 (.pointer (some ⟨b,o,none⟩)) 3=(.pointer (some ⟨b,o+3,none⟩),True):=by unfold AZ;rw [show Av tt.get 33 (.pointer (some ⟨b,o,none⟩)) 3=some (.pointer (some ⟨b,o+3,none⟩)) from by kernel_rfl]
@[go_sem] theorem tW {b o:Nat}:AZ tt.get 33 (.pointer (some ⟨b,o,none⟩)) 4=(.pointer (some ⟨b,o+4,none⟩),True):=by unfold AZ;rw [show Av tt.get 33 (.pointer (some ⟨b,o,none⟩)) 4=some (.pointer (some ⟨b,o+4,none⟩)) from by kernel_rfl]
@[go_sem] theorem r9 {b o:Nat}:AZ tt.get 33 (.pointer (some ⟨b,o,none⟩)) 5=(.pointer (some ⟨b,o+5,none⟩),True):=by unfold AZ;rw [show Av tt.get 33 (.pointer (some ⟨b,o,none⟩)) 5=some (.pointer (some ⟨b,o+5,none⟩)) from by kernel_rfl]
@[go_sem] theorem uW {b o:Nat}:AZ tt.get 33 (.pointer (some ⟨b,o,none⟩)) 6=(.pointer (some ⟨b,o+6,none⟩),True):=by unfold AZ;rw [show Av tt.get 33 (.pointer (some ⟨b,o,none⟩)) 6=some (.pointer (some ⟨b,o+6,none⟩)) from by kernel_rfl]
@[go_sem] theorem Ln:tt.get 35=some Pq:=by kernel_rfl
@[go_sem] theorem xN:Ak tt.get 35=0:=by kernel_rfl
@[go_sem] theorem yy {op:BinOp}{xo yo:Operand}{x y:Value}:Bg tt.get op 35 xo yo x y=Dv (BD tt.get op 35 xo yo x y):=CN (by kernel_rfl)
@[go_sem] theorem Cr:tt.get 51=some OI:=by kernel_rfl
@[go_sem] theorem sE:Ak tt.get 51=0:=by kernel_rfl
@[go_sem] theorem Cb:kindOf tt.get 51=some (.slice 29):=by kernel_rfl
@[go_sem] theorem uk {op:BinOp}{xo yo:Operand}{x y:Value}:Bg tt.get op 51 xo yo x y=Dv (BD tt.get op 51 xo yo x y):=CN (by kernel_rfl)
@[go_sem] theorem iu {xo yo:Operand}{a:Option Addr}{n c:Nat}:BD tt.get .eql 51 xo yo (.slice a n c) (.slice none 0 0)=some (.bool (a.isNone)):=by cases a <;> simp [BD,Em,Cr,OI]
@[go_sem] theorem iT {xo yo:Operand}{a:Option Addr}{n c:Nat}:BD tt.get .neq 51 xo yo (.slice a n c) (.slice none 0 0)=some (.bool (!a.isNone)):=by cases a <;> simp [BD,Em,Cr,OI]
@[go_sem] theorem CM:tt.get 58=some Ll:=by kernel_rfl
@[go_sem] theorem sO:Ak tt.get 58=0:=by kernel_rfl
@[go_sem] theorem Bw:kindOf tt.get 58=some (.slice 9):=by kernel_rfl
@[go_sem] theorem uj {op:BinOp}{xo yo:Operand}{x y:Value}:Bg tt.get op 58 xo yo x y=Dv (BD tt.get op 58 xo yo x y):=CN (by kernel_rfl)
@[go_sem] theorem iv {xo yo:Operand}{a:Option Addr}{n c:Nat}:BD tt.get .eql 58 xo yo (.slice a n c) (.slice none 0 0)=some (.bool (a.isNone)):=by cases a <;> simp [BD,Em,CM,Ll]
@[go_sem] theorem iR {xo yo:Operand}{a:Option Addr}{n c:Nat}:BD tt.get .neq 58 xo yo (.slice a n c) (.slice none 0 0)=some (.bool (!a.isNone)):=by cases a <;> simp [BD,Em,CM,Ll]
@[go_sem] theorem CQ:tt.get 60=some Ng:=by kernel_rfl
@[go_sem] theorem um:Ak tt.get 60=0:=by kernel_rfl
@[go_sem] theorem DN:kindOf tt.get 60=some (.slice 5):=by kernel_rfl
@[go_sem] theorem xx {op:BinOp}{xo yo:Operand}{x y:Value}:Bg tt.get op 60 xo yo x y=Dv (BD tt.get op 60 xo yo x y):=CN (by kernel_rfl)
@[go_sem] theorem jG {xo yo:Operand}{a:Option Addr}{n c:Nat}:BD tt.get .eql 60 xo yo (.slice a n c) (.slice none 0 0)=some (.bool (a.isNone)):=by cases a <;> simp [BD,Em,CQ,Ng]
@[go_sem] theorem jk {xo yo:Operand}{a:Option Addr}{n c:Nat}:BD tt.get .neq 60 xo yo (.slice a n c) (.slice none 0 0)=some (.bool (!a.isNone)):=by cases a <;> simp [BD,Em,CQ,Ng]
@[go_sem] theorem Nh:tt.get 63=some U6:=by kernel_rfl
@[go_sem] theorem qK:Ak tt.get 63=0:=by kernel_rfl
@[go_sem] theorem sH:kindOf tt.get 63=some (.pointer 65):=by kernel_rfl
@[go_sem] theorem sL {op:BinOp}{xo yo:Operand}{x y:Value}:Bg tt.get op 63 xo yo x y=Dv (BD tt.get op 63 xo yo x y):=CN (by kernel_rfl)
@[go_sem] theorem cK {xo yo:Operand}{a:Option Addr}:BD tt.get .eql 63 xo yo (.pointer a) (.pointer none)=some (.bool (a.isNone)):=by cases a <;> simp [BD,Em,Nh,U6]
@[go_sem] theorem eC {xo yo:Operand}{a:Option Addr}:BD tt.get .neq 63 xo yo (.pointer a) (.pointer none)=some (.bool (!a.isNone)):=by cases a <;> simp [BD,Em,Nh,U6]
@[go_sem] theorem vD:tt.get 65=some e7:=by kernel_rfl
def DR:Nat:=BB * (1+65+4096 * 2)
@[go_sem] theorem tT:Ak tt.get 65=DR:=by kernel_rfl
@[go_sem] theorem kO {b o:Nat}:AZ tt.get 65 (.pointer (some ⟨b,o,none⟩)) 0=(.pointer (some ⟨b,o,none⟩),True):=by unfold AZ;rw [show Av tt.get 65 (.pointer (some ⟨b,o,none⟩)) 0=some (.pointer (some ⟨b,o,none⟩)) from by kernel_rfl]
@[go_sem] theorem kh {b o:Nat}:AZ tt.get 65 (.pointer (some ⟨b,o,none⟩)) 1=(.pointer (some ⟨b,o+1,none⟩),True):=by unfold AZ;rw [show Av tt.get 65 (.pointer (some ⟨b,o,none⟩)) 1=some (.pointer (some ⟨b,o+1,none⟩)) from by kernel_rfl]
@[go_sem] theorem WB:tt.get 71=some Zc:=by kernel_rfl
@[go_sem] theorem pT:Ak tt.get 71=0:=by kernel_rfl
@[go_sem] theorem sy:kindOf tt.get 71=some (.array 9 9):=by kernel_rfl
@[go_sem] theorem HL:tt.get 84=some Tv:=by kernel_rfl
@[go_sem] theorem iW:Ak tt.get 84=0:=by kernel_rfl
@[go_sem] theorem lO:kindOf tt.get 84=some (.pointer 85):=by kernel_rfl
@[go_sem] theorem jC {op:BinOp}{xo yo:Operand}{x y:Value}:Bg tt.get op 84 xo yo x y=Dv (BD tt.get op 84 xo yo x y):=CN (by kernel_rfl)
@[go_sem] theorem ZC {xo yo:Operand}{a:Option Addr}:BD tt.get .eql 84 xo yo (.pointer a) (.pointer none)=some (.bool (a.isNone)):=by cases a <;> simp [BD,Em,HL,Tv]
@[go_sem] theorem Yf {xo yo:Operand}{a:Option Addr}:BD tt.get .neq 84 xo yo (.pointer a) (.pointer none)=some (.bool (!a.isNone)):=by cases a <;> simp [BD,Em,HL,Tv]
@[go_sem] theorem o5:tt.get 85=some fI:=by kernel_rfl
@[go_sem] theorem ju:Ak tt.get 85=0:=by kernel_rfl
@[go_sem] theorem cU {b o:Nat}:AZ tt.get 85 (.pointer (some ⟨b,o,none⟩)) 0=(.pointer (some ⟨b,o,none⟩),True):=by unfold AZ;rw [show Av tt.get 85 (.pointer (some ⟨b,o,none⟩)) 0=some (.pointer (some ⟨b,o,none⟩)) from by kernel_rfl]
@[go_sem] theorem cJ {b o:Nat}:AZ tt.get 85 (.pointer (some ⟨b,o,none⟩)) 1=(.pointer (some ⟨b,o+1,none⟩),True):=by unfold AZ;rw [show Av tt.get 85 (.pointer (some ⟨b,o,none⟩)) 1=some (.pointer (some ⟨b,o+1,none⟩)) from by kernel_rfl]
@[go_sem] theorem Sr:tt.get 102=some Mo:=by kernel_rfl
@[go_sem] theorem vK:Ak tt.get 102=0:=by kernel_rfl
@[go_sem] theorem wV:kindOf tt.get 102=some (.pointer 5):=by kernel_rfl
@[go_sem] theorem xe {op:BinOp}{xo yo:Operand}{x y:Value}:Bg tt.get op 102 xo yo x y=Dv (BD tt.get op 102 xo yo x y):=CN (by kernel_rfl)
@[go_sem] theorem mB {xo yo:Operand}{a:Option Addr}:BD tt.get .eql 102 xo yo (.pointer a) (.pointer none)=some (.bool (a.isNone)):=by cases a <;> simp [BD,Em,Sr,Mo]
@[go_sem] theorem jo {xo yo:Operand}{a:Option Addr}:BD tt.get .neq 102 xo yo (.pointer a) (.pointer none)=some (.bool (!a.isNone)):=by cases a <;> simp [BD,Em,Sr,Mo]
@[go_sem] theorem AAp:tt.get 121=some Uu:=by kernel_rfl
@[go_sem] theorem zX:Ak tt.get 121=0:=by kernel_rfl
@[go_sem] theorem N6:kindOf tt.get 121=some (.int .u64):=by kernel_rfl
@[go_sem] theorem AAM {op:BinOp}{xo yo:Operand}{x y:Value}:Bg tt.get op 121 xo yo x y=Ek op .u64 x y:=Cp N6
@[go_sem] theorem F9:tt.get 122=some KO:=by kernel_rfl
@[go_sem] theorem zC:Ak tt.get 122=0:=by kernel_rfl
@[go_sem] theorem G8:kindOf tt.get 122=some (.slice 3):=by kernel_rfl
@[go_sem] theorem AAP {op:BinOp}{xo yo:Operand}{x y:Value}:Bg tt.get op 122 xo yo x y=Dv (BD tt.get op 122 xo yo x y):=CN (by kernel_rfl)
@[go_sem] theorem tm {xo yo:Operand}{a:Option Addr}{n c:Nat}:BD tt.get .eql 122 xo yo (.slice a n c) (.slice none 0 0)=some (.bool (a.isNone)):=by cases a <;> simp [BD,Em,F9,KO]
@[go_sem] theorem rD {xo yo:Operand}{a:Option Addr}{n c:Nat}:BD tt.get .neq 122 xo yo (.slice a n c) (.slice none 0 0)=some (.bool (!a.isNone)):=by cases a <;> simp [BD,Em,F9,KO]
@[go_sem] theorem tV:tt.get 139=some TS:=by kernel_rfl
@[go_sem] theorem pK:Ak tt.get 139=0:=by kernel_rfl
@[go_sem] theorem sw:kindOf tt.get 139=some (.array 24 5):=by kernel_rfl
@[go_sem] theorem zK:tt.get 153=some S8:=by kernel_rfl
@[go_sem] theorem wY:Ak tt.get 153=0:=by kernel_rfl
@[go_sem] theorem ji:kindOf tt.get 153=some (.int .i64):=by kernel_rfl
@[go_sem] theorem zE {op:BinOp}{xo yo:Operand}{x y:Value}:Bg tt.get op 153 xo yo x y=Ek op .i64 x y:=Cp ji
@[go_sem] theorem LQ:tt.get 155=some N9:=by kernel_rfl
@[go_sem] theorem oT:Ak tt.get 155=0:=by kernel_rfl
@[go_sem] theorem pS:kindOf tt.get 155=some (.pointer 183):=by kernel_rfl
@[go_sem] theorem pU {op:BinOp}{xo yo:Operand}{x y:Value}:Bg tt.get op 155 xo yo x y=Dv (BD tt.get op 155 xo yo x y):=CN (by kernel_rfl)
@[go_sem] theorem aD {xo yo:Operand}{a:Option Addr}:BD tt.get .eql 155 xo yo (.pointer a) (.pointer none)=some (.bool (a.isNone)):=by cases a <;> simp [BD,Em,LQ,N9]
@[go_sem] theorem Z9 {xo yo:Operand}{a:Option Addr}:BD tt.get .neq 155 xo yo (.pointer a) (.pointer none)=some (.bool (!a.isNone)):=by cases a <;> simp [BD,Em,LQ,N9]
@[go_sem] theorem lq:tt.get 162=some Ux:=by kernel_rfl
@[go_sem] theorem il:Ak tt.get 162=0:=by kernel_rfl
@[go_sem] theorem Re:kindOf tt.get 162=some (.int .i64):=by kernel_rfl
@[go_sem] theorem kX {op:BinOp}{xo yo:Operand}{x y:Value}:Bg tt.get op 162 xo yo x y=Ek op .i64 x y:=Cp Re
@[go_sem] theorem qg:tt.get 173=some Uv:=by kernel_rfl
@[go_sem] theorem nw:Ak tt.get 173=0:=by kernel_rfl
@[go_sem] theorem qO:kindOf tt.get 173=some (.array 20 28):=by kernel_rfl
@[go_sem] theorem tj:tt.get 174=some Tc:=by kernel_rfl
@[go_sem] theorem qE:Ak tt.get 174=0:=by kernel_rfl
@[go_sem] theorem sD:kindOf tt.get 174=some (.array 65 5):=by kernel_rfl
@[go_sem] theorem sB:tt.get 175=some UU:=by kernel_rfl
@[go_sem] theorem qD:Ak tt.get 175=0:=by kernel_rfl
@[go_sem] theorem rF:kindOf tt.get 175=some (.array 64 5):=by kernel_rfl
@[go_sem] theorem uD:tt.get 183=some Uo:=by kernel_rfl
@[go_sem] theorem qj:Ak tt.get 183=0:=by kernel_rfl
@[go_sem] theorem ij {b o:Nat}:AZ tt.get 183 (.pointer (some ⟨b,o,none⟩)) 0=(.pointer (some ⟨b,o,none⟩),True):=by unfold AZ;rw [show Av tt.get 183 (.pointer (some ⟨b,o,none⟩)) 0=some (.pointer (some ⟨b,o,none⟩)) from by kernel_rfl]
@[go_sem] theorem ir {b o:Nat}:AZ tt.get 183 (.pointer (some ⟨b,o,none⟩)) 1=(.pointer (some ⟨b,o+1,none⟩),True):=by unfold AZ;rw [show Av tt.get 183 (.pointer (some ⟨b,o,none⟩)) 1=some (.pointer (some ⟨b,o+1,none⟩)) from by kernel_rfl]
@[go_sem] theorem iS {b o:Nat}:AZ tt.get 183 (.pointer (some ⟨b,o,none⟩)) 2=(.pointer (some ⟨b,o+2,none⟩),True):=by unfold AZ;rw [show Av tt.get 183 (.pointer (some ⟨b,o,none⟩)) 2=some (.pointer (some ⟨b,o+2,none⟩)) from by kernel_rfl]
@[go_sem] theorem sn:tt.get 185=some UY:=by kernel_rfl
@[go_sem] theorem pL:Ak tt.get 185=0:=by kernel_rfl
@[go_sem] theorem Na:kindOf tt.get 185=some (.int .u64):=by kernel_rfl
@[go_sem] theorem rZ {op:BinOp}{xo yo:Operand}{x y:Value}:Bg tt.get op 185 xo yo x y=Ek op .u64 x y:=Cp Na
@[go_sem] theorem dN:tt.get 189=some ML:=by kernel_rfl
@[go_sem] theorem zU:Ak tt.get 189=0:=by kernel_rfl
@[go_sem] theorem AAK:kindOf tt.get 189=some (.pointer 3):=by kernel_rfl
@[go_sem] theorem z8 {op:BinOp}{xo yo:Operand}{x y:Value}:Bg tt.get op 189 xo yo x y=Dv (BD tt.get op 189 xo yo x y):=CN (by kernel_rfl)
@[go_sem] theorem tE {xo yo:Operand}{a:Option Addr}:BD tt.get .eql 189 xo yo (.pointer a) (.pointer none)=some (.bool (a.isNone)):=by cases a <;> simp [BD,Em,dN,ML]
@[go_sem] theorem sq {xo yo:Operand}{a:Option Addr}:BD tt.get .neq 189 xo yo (.pointer a) (.pointer none)=some (.bool (!a.isNone)):=by cases a <;> simp [BD,Em,dN,ML]
@[go_sem] theorem EP:tt.get 194=some Mj:=by kernel_rfl
@[go_sem] theorem Qd:Ak tt.get 194=0:=by kernel_rfl
@[go_sem] theorem R3:kindOf tt.get 194=some (.pointer 196):=by kernel_rfl
@[go_sem] theorem R1 {op:BinOp}{xo yo:Operand}{x y:Value}:Bg tt.get op 194 xo yo x y=Dv (BD tt.get op 194 xo yo x y):=CN (by kernel_rfl)
@[go_sem] theorem OD {xo yo:Operand}{a:Option Addr}:BD tt.get .eql 194 xo yo (.pointer a) (.pointer none)=some (.bool (a.isNone)):=by cases a <;> simp [BD,Em,EP,Mj]
@[go_sem] theorem OE {xo yo:Operand}{a:Option Addr}:BD tt.get .neq 194 xo yo (.pointer a) (.pointer none)=some (.bool (!a.isNone)):=by cases a <;> simp [BD,Em,EP,Mj]
@[go_sem] theorem SC:tt.get 196=some Uq:=by kernel_rfl
@[go_sem] theorem Rz:Ak tt.get 196=0:=by kernel_rfl
@[go_sem] theorem PR {b o:Nat}:AZ tt.get 196 (.pointer (some ⟨b,o,none⟩)) 0=(.pointer (some ⟨b,o,none⟩),True):=by unfold AZ;rw [show Av tt.get 196 (.pointer (some ⟨b,o,none⟩)) 0=some (.pointer (some ⟨b,o,none⟩)) from by kernel_rfl]
@[go_sem] theorem rU:tt.get 200=some R4:=by kernel_rfl
@[go_sem] theorem pC:Ak tt.get 200=0:=by kernel_rfl
@[go_sem] theorem td:kindOf tt.get 200=some (.array 32 5):=by kernel_rfl
@[go_sem] theorem om:tt.get 201=some TW:=by kernel_rfl
@[go_sem] theorem kl:Ak tt.get 201=0:=by kernel_rfl
@[go_sem] theorem pF:kindOf tt.get 201=some (.array 256 5):=by kernel_rfl
@[go_sem] theorem iZ:tt.get 203=some Ue:=by kernel_rfl
@[go_sem] theorem bZ:Ak tt.get 203=0:=by kernel_rfl
@[go_sem] theorem Yv {b o:Nat}:AZ tt.get 203 (.pointer (some ⟨b,o,none⟩)) 0=(.pointer (some ⟨b,o,none⟩),True):=by unfold AZ;rw [show Av tt.get 203 (.pointer (some ⟨b,o,none⟩)) 0=some (.pointer (some ⟨b,o,none⟩)) from by kernel_rfl]
@[go_sem] theorem YU {b o:Nat}:AZ tt.get 203 (.pointer (some ⟨b,o,none⟩)) 1=(.pointer (some ⟨b,o+1,none⟩),True):=by unfold AZ;rw [show Av tt.get 203 (.pointer (some ⟨b,o,none⟩)) 1=some (.pointer (some ⟨b,o+1,none⟩)) from by kernel_rfl]
@[go_sem] theorem Zs:tt.get 204=some UW:=by kernel_rfl
@[go_sem] theorem WZ:Ak tt.get 204=0:=by kernel_rfl
@[go_sem] theorem Zw:kindOf tt.get 204=some (.array 16 203):=by kernel_rfl
def Rs:Bk (Int):=⟨fun a=> [.int .i64 (a)],fun l=>intOf ((l[0]?).getD undef),1,fun _=>rfl,fun _=>rfl,fun _=>rfl⟩
instance:Rs.Plain:=⟨fun _ _=>rfl⟩
@[go_sem] theorem wI (a:Int):Rs.enc a= [.int .i64 (a)]:=rfl
@[go_sem] theorem vZ (l:List Value):Rs.dec l=intOf ((l[0]?).getD undef):=rfl
def BV:Bk (Int):=⟨fun a=> [.int .i64 (a)],fun l=>intOf ((l[0]?).getD undef),1,fun _=>rfl,fun _=>rfl,fun _=>rfl⟩
instance:BV.Plain:=⟨fun _ _=>rfl⟩
@[go_sem] theorem zv (a:Int):BV.enc a= [.int .i64 (a)]:=rfl
@[go_sem] theorem zu (l:List Value):BV.dec l=intOf ((l[0]?).getD undef):=rfl
def V3:Bk (Bool):=⟨fun a=> [.bool (a)],fun l=>CF ((l[0]?).getD undef),1,fun _=>rfl,fun _=>rfl,fun _=>rfl⟩
instance:V3.Plain:=⟨fun _ _=>rfl⟩
@[go_sem] theorem zN (a:Bool):V3.enc a= [.bool (a)]:=rfl
@[go_sem] theorem zk (l:List Value):V3.dec l=CF ((l[0]?).getD undef):=rfl
def Ae:Bk (Int):=⟨fun a=> [.int .u8 (a)],fun l=>intOf ((l[0]?).getD undef),1,fun _=>rfl,fun _=>rfl,fun _=>rfl⟩
instance:Ae.Plain:=⟨fun _ _=>rfl⟩
@[go_sem] theorem vf (a:Int):Ae.enc a= [.int .u8 (a)]:=rfl
@[go_sem] theorem yp (l:List Value):Ae.dec l=intOf ((l[0]?).getD undef):=rfl
def AU:Bk (List UInt8):=⟨fun a=> [.string ⟨⟨a⟩⟩],fun l=>strOf ((l[0]?).getD undef),1,fun _=>rfl,fun _=>rfl,fun _=>rfl⟩
instance:AU.Plain:=⟨fun _ _=>rfl⟩
@[go_sem] theorem vA (a:List UInt8):AU.enc a= [.string ⟨⟨a⟩⟩]:=rfl
@[go_sem] theorem vH (l:List Value):AU.dec l=strOf ((l[0]?).getD undef):=rfl
def RJ:Bk (Int):=⟨fun a=> [.int .i32 (a)],fun l=>intOf ((l[0]?).getD undef),1,fun _=>rfl,fun _=>rfl,fun _=>rfl⟩
instance:RJ.Plain:=⟨fun _ _=>rfl⟩
@[go_sem] theorem yr (a:Int):RJ.enc a= [.int .i32 (a)]:=rfl
@[go_sem] theorem xi (l:List Value):RJ.dec l=intOf ((l[0]?).getD undef):=rfl
def QM:Bk (Int):=⟨fun a=> [.int .i64 (a)],fun l=>intOf ((l[0]?).getD undef),1,fun _=>rfl,fun _=>rfl,fun _=>rfl⟩
instance:QM.Plain:=⟨fun _ _=>rfl⟩
@[go_sem] theorem yg (a:Int):QM.enc a= [.int .i64 (a)]:=rfl
@[go_sem] theorem xP (l:List Value):QM.dec l=intOf ((l[0]?).getD undef):=rfl
def MZ:Bk (Int):=⟨fun a=> [.int .u64 (a)],fun l=>intOf ((l[0]?).getD undef),1,fun _=>rfl,fun _=>rfl,fun _=>rfl⟩
instance:MZ.Plain:=⟨fun _ _=>rfl⟩
@[go_sem] theorem u4 (a:Int):MZ.enc a= [.int .u64 (a)]:=rfl
@[go_sem] theorem u6 (l:List Value):MZ.dec l=intOf ((l[0]?).getD undef):=rfl
def AF:Bk (Int):=⟨fun a=> [.int .u32 (a)],fun l=>intOf ((l[0]?).getD undef),1,fun _=>rfl,fun _=>rfl,fun _=>rfl⟩
instance:AF.Plain:=⟨fun _ _=>rfl⟩
@[go_sem] theorem uu (a:Int):AF.enc a= [.int .u32 (a)]:=rfl
@[go_sem] theorem uh (l:List Value):AF.dec l=intOf ((l[0]?).getD undef):=rfl
structure AX where
 x0:Int
 x1:Int
 x2:Int
 x3:Int
instance:Inhabited AX:=⟨⟨0,0,0,0⟩⟩
instance:DecidableEq AX:=fun a b=>decidable_of_iff (a.x0=b.x0∧a.x1=b.x1∧a.x2=b.x2∧a.x3=b.x3) (by cases a;cases b;simp)
def Ea:Bk (AX):=⟨fun a=> [.int .u64 (a.x0), .int .u64 (a.x1), .int .u64 (a.x2), .int .u64 (a.x3)],fun l=>⟨intOf ((l[0]?).getD undef),intOf ((l[1]?).getD undef),intOf ((l[2]?).getD undef),intOf ((l[3]?).getD undef)⟩,4,fun _=>rfl,fun _=>rfl,fun _=>rfl⟩
instance:Ea.Plain:=⟨fun _ _=>rfl⟩
@[go_sem] theorem BT (a:AX):Ea.enc a= [.int .u64 (a.x0), .int .u64 (a.x1), .int .u64 (a.x2), .int .u64 (a.x3)]:=rfl
@[go_sem] theorem zW (a:AX):AX.mk a.x0 a.x1 a.x2 a.x3=a:=rfl
@[go_sem] theorem zL (l:List Value):Ea.dec l=⟨intOf ((l[0]?).getD undef),intOf ((l[1]?).getD undef),intOf ((l[2]?).getD undef),intOf ((l[3]?).getD undef)⟩:=rfl
structure AE where
 At:Int
 Kind:Int
 Bp:Int
 DI:Int
 Id:Int
 Set:Int
 EM:Int
 D9:Int
 EF:Int
 D8:Int
instance:Inhabited AE:=⟨⟨0,0,0,0,0,0,0,0,0,0⟩⟩
instance:DecidableEq AE:=fun a b=>decidable_of_iff (a.At=b.At∧a.Kind=b.Kind∧a.Bp=b.Bp∧a.DI=b.DI∧a.Id=b.Id∧a.Set=b.Set∧a.EM=b.EM∧a.D9=b.D9∧a.EF=b.EF∧a.D8=b.D8) (by cases a;cases b;simp)
def AA:Bk (AE):=⟨fun a=> [.int .u64 (a.At), .int .i64 (a.Kind), .int .i64 (a.Bp), .int .i64 (a.DI), .int .u32 (a.Id), .int .i64 (a.Set), .int .u64 (a.EM), .int .u64 (a.D9), .int .u64 (a.EF), .int .u64 (a.D8)],fun l=>⟨intOf ((l[0]?).getD undef),intOf ((l[1]?).getD undef),intOf ((l[2]?).getD undef),intOf ((l[3]?).getD undef),intOf ((l[4]?).getD undef),intOf ((l[5]?).getD undef),intOf ((l[6]?).getD undef),intOf ((l[7]?).getD undef),intOf ((l[8]?).getD undef),intOf ((l[9]?).getD undef)⟩,10,fun _=>rfl,fun _=>rfl,fun _=>rfl⟩
instance:AA.Plain:=⟨fun _ _=>rfl⟩
@[go_sem] theorem Cs (a:AE):AA.enc a= [.int .u64 (a.At), .int .i64 (a.Kind), .int .i64 (a.Bp), .int .i64 (a.DI), .int .u32 (a.Id), .int .i64 (a.Set), .int .u64 (a.EM), .int .u64 (a.D9), .int .u64 (a.EF), .int .u64 (a.D8)]:=rfl
@[go_sem] theorem yX (a:AE):AE.mk a.At a.Kind a.Bp a.DI a.Id a.Set a.EM a.D9 a.EF a.D8=a:=rfl
@[go_sem] theorem xy (l:List Value):AA.dec l=⟨intOf ((l[0]?).getD undef),intOf ((l[1]?).getD undef),intOf ((l[2]?).getD undef),intOf ((l[3]?).getD undef),intOf ((l[4]?).getD undef),intOf ((l[5]?).getD undef),intOf ((l[6]?).getD undef),intOf ((l[7]?).getD undef),intOf ((l[8]?).getD undef),intOf ((l[9]?).getD undef)⟩:=rfl
structure Dz where
 Code:Int
 At:Int
instance:Inhabited Dz:=⟨⟨0,0⟩⟩
instance:DecidableEq Dz:=fun a b=>decidable_of_iff (a.Code=b.Code∧a.At=b.At) (by cases a;cases b;simp)
def IH:Bk (Dz):=⟨fun a=> [.int .i64 (a.Code), .int .i64 (a.At)],fun l=>⟨intOf ((l[0]?).getD undef),intOf ((l[1]?).getD undef)⟩,2,fun _=>rfl,fun _=>rfl,fun _=>rfl⟩
instance:IH.Plain:=⟨fun _ _=>rfl⟩
@[go_sem] theorem oC (a:Dz):IH.enc a= [.int .i64 (a.Code), .int .i64 (a.At)]:=rfl
@[go_sem] theorem lB (a:Dz):Dz.mk a.Code a.At=a:=rfl
@[go_sem] theorem lx (l:List Value):IH.dec l=⟨intOf ((l[0]?).getD undef),intOf ((l[1]?).getD undef)⟩:=rfl
def WN:Bk (Int):=⟨fun a=> [.int .u64 (a)],fun l=>intOf ((l[0]?).getD undef),1,fun _=>rfl,fun _=>rfl,fun _=>rfl⟩
instance:WN.Plain:=⟨fun _ _=>rfl⟩
@[go_sem] theorem zV (a:Int):WN.enc a= [.int .u64 (a)]:=rfl
@[go_sem] theorem yx (l:List Value):WN.dec l=intOf ((l[0]?).getD undef):=rfl
def Rg:Bk (Int):=⟨fun a=> [.int .i64 (a)],fun l=>intOf ((l[0]?).getD undef),1,fun _=>rfl,fun _=>rfl,fun _=>rfl⟩
instance:Rg.Plain:=⟨fun _ _=>rfl⟩
@[go_sem] theorem wP (a:Int):Rg.enc a= [.int .i64 (a)]:=rfl
@[go_sem] theorem xI (l:List Value):Rg.dec l=intOf ((l[0]?).getD undef):=rfl
def Gz:Bk (Int):=⟨fun a=> [.int .i64 (a)],fun l=>intOf ((l[0]?).getD undef),1,fun _=>rfl,fun _=>rfl,fun _=>rfl⟩
instance:Gz.Plain:=⟨fun _ _=>rfl⟩
@[go_sem] theorem ic (a:Int):Gz.enc a= [.int .i64 (a)]:=rfl
@[go_sem] theorem iw (l:List Value):Gz.dec l=intOf ((l[0]?).getD undef):=rfl
def Jj:Bk (Int):=⟨fun a=> [.int .u64 (a)],fun l=>intOf ((l[0]?).getD undef),1,fun _=>rfl,fun _=>rfl,fun _=>rfl⟩
instance:Jj.Plain:=⟨fun _ _=>rfl⟩
@[go_sem] theorem qM (a:Int):Jj.enc a= [.int .u64 (a)]:=rfl
@[go_sem] theorem o7 (l:List Value):Jj.dec l=intOf ((l[0]?).getD undef):=rfl
structure Bv where
 s:List UInt8
instance:Inhabited Bv:=⟨⟨[]⟩⟩
instance:DecidableEq Bv:=fun a b=>decidable_of_iff (a.s=b.s) (by cases a;cases b;simp)
def DP:Bk (Bv):=⟨fun a=> [.string ⟨⟨a.s⟩⟩],fun l=>⟨strOf ((l[0]?).getD undef)⟩,1,fun _=>rfl,fun _=>rfl,fun _=>rfl⟩
instance:DP.Plain:=⟨fun _ _=>rfl⟩
@[go_sem] theorem R0 (a:Bv):DP.enc a= [.string ⟨⟨a.s⟩⟩]:=rfl
@[go_sem] theorem Rw (a:Bv):Bv.mk a.s=a:=rfl
@[go_sem] theorem Ry (l:List Value):DP.dec l=⟨strOf ((l[0]?).getD undef)⟩:=rfl
structure C7 where
 lo:Int
 hi:Int
instance:Inhabited C7:=⟨⟨0,0⟩⟩
instance:DecidableEq C7:=fun a b=>decidable_of_iff (a.lo=b.lo∧a.hi=b.hi) (by cases a;cases b;simp)
def F8:Bk (C7):=⟨fun a=> [.int .u8 (a.lo), .int .u8 (a.hi)],fun l=>⟨intOf ((l[0]?).getD undef),intOf ((l[1]?).getD undef)⟩,2,fun _=>rfl,fun _=>rfl,fun _=>rfl⟩
instance:F8.Plain:=⟨fun _ _=>rfl⟩
@[go_sem] theorem fm (a:C7):F8.enc a= [.int .u8 (a.lo), .int .u8 (a.hi)]:=rfl
@[go_sem] theorem dz (a:C7):C7.mk a.lo a.hi=a:=rfl
@[go_sem] theorem aR (l:List Value):F8.dec l=⟨intOf ((l[0]?).getD undef),intOf ((l[1]?).getD undef)⟩:=rfl
section
theorem BI {hp:Hp}{v:Value}{l:List (AE)}(h:BM AA hp v l){hp':Hp}:Cj tt.get hp' 22 v=(.int .i64 (l.length:Int),True):=h.P1 Cv
theorem BW {hp:Hp}{v:Value}{l:List (AE)}(h:BM AA hp v l){k:IntKind}{n:Int}(h0:0≤n)(h1:n < l.length):Af tt.get 22 v (.int k n)=(BK v (n.toNat * 10),True):=h.idx Cv Ch rfl h0 h1
theorem Cw {hp:Hp}{v:Value}{l:List (AE)}(h:BM AA hp v l){i:Nat}(hi:i < l.length):Ad tt.get hp 33 (BK v (i * 10))=(.agg ⟨AA.enc (at' l i)⟩,True):=h.load Ch rfl rfl hi
theorem ou {hp:Hp}{v:Value}{l:List (AE)}(h:BM AA hp v l){i:Nat}(hi:i < l.length):AZ tt.get 33 (BK v (i * 10)) 0=(BK v (i * 10),True):=h.field hi (d:=0) (fun b o=>(by kernel_rfl:Av tt.get 33 (.pointer (some ⟨b,o,none⟩)) 0=some (.pointer (some ⟨b,o+0,none⟩))))
theorem pj {hp:Hp}{v:Value}{l:List (AE)}(h:BM AA hp v l){i:Nat}(hi:i < l.length):Ad tt.get hp 28 (BK v (i * 10))=(.int .u64 ((at' l i).At),True):=h.cell (f:=0) IA rfl hi (by decide)
theorem T7 {hp:Hp}{v:Value}{l:List (AE)}(h:BM AA hp v l){i:Nat}(hi:i < l.length):AZ tt.get 33 (BK v (i * 10)) 1=(BK v (i * 10+1),True):=h.field hi (d:=1) (fun b o=>(by kernel_rfl:Av tt.get 33 (.pointer (some ⟨b,o,none⟩)) 1=some (.pointer (some ⟨b,o+1,none⟩))))
theorem TH {hp:Hp}{v:Value}{l:List (AE)}(h:BM AA hp v l){i:Nat}(hi:i < l.length):Ad tt.get hp 3 (BK v (i * 10+1))=(.int .i64 ((at' l i).Kind),True):=h.cell (f:=1) Dx rfl hi (by decide)
theorem pV {hp:Hp}{v:Value}{l:List (AE)}(h:BM AA hp v l){i:Nat}(hi:i < l.length):AZ tt.get 33 (BK v (i * 10)) 2=(BK v (i * 10+2),True):=h.field hi (d:=2) (fun b o=>(by kernel_rfl:Av tt.get 33 (.pointer (some ⟨b,o,none⟩)) 2=some (.pointer (some ⟨b,o+2,none⟩))))
theorem pI {hp:Hp}{v:Value}{l:List (AE)}(h:BM AA hp v l){i:Nat}(hi:i < l.length):Ad tt.get hp 3 (BK v (i * 10+2))=(.int .i64 ((at' l i).Bp),True):=h.cell (f:=2) Dx rfl hi (by decide)
theorem qi {hp:Hp}{v:Value}{l:List (AE)}(h:BM AA hp v l){i:Nat}(hi:i < l.length):AZ tt.get 33 (BK v (i * 10)) 3=(BK v (i * 10+3),True):=h.field hi (d:=3) (fun b o=>(by kernel_rfl:Av tt.get 33 (.pointer (some ⟨b,o,none⟩)) 3=some (.pointer (some ⟨b,o+3,none⟩))))
theorem pE {hp:Hp}{v:Value}{l:List (AE)}(h:BM AA hp v l){i:Nat}(hi:i < l.length):Ad tt.get hp 3 (BK v (i * 10+3))=(.int .i64 ((at' l i).DI),True):=h.cell (f:=3) Dx rfl hi (by decide)
theorem Dw {hp:Hp}{v:Value}{l:List (AE)}(h:BM AA hp v l){i:Nat}(hi:i < l.length):AZ tt.get 33 (BK v (i * 10)) 4=(BK v (i * 10+4),True):=h.field hi (d:=4) (fun b o=>(by kernel_rfl:Av tt.get 33 (.pointer (some ⟨b,o,none⟩)) 4=some (.pointer (some ⟨b,o+4,none⟩))))
theorem Du {hp:Hp}{v:Value}{l:List (AE)}(h:BM AA hp v l){i:Nat}(hi:i < l.length):Ad tt.get hp 29 (BK v (i * 10+4))=(.int .u32 ((at' l i).Id),True):=h.cell (f:=4) CH rfl hi (by decide)
theorem qc {hp:Hp}{v:Value}{l:List (AE)}(h:BM AA hp v l){i:Nat}(hi:i < l.length):AZ tt.get 33 (BK v (i * 10)) 5=(BK v (i * 10+5),True):=h.field hi (d:=5) (fun b o=>(by kernel_rfl:Av tt.get 33 (.pointer (some ⟨b,o,none⟩)) 5=some (.pointer (some ⟨b,o+5,none⟩))))
theorem qN {hp:Hp}{v:Value}{l:List (AE)}(h:BM AA hp v l){i:Nat}(hi:i < l.length):Ad tt.get hp 3 (BK v (i * 10+5))=(.int .i64 ((at' l i).Set),True):=h.cell (f:=5) Dx rfl hi (by decide)
theorem og {hp:Hp}{v:Value}{l:List (AE)}(h:BM AA hp v l){i:Nat}(hi:i < l.length):AZ tt.get 33 (BK v (i * 10)) 6=(BK v (i * 10+6),True):=h.field hi (d:=6) (fun b o=>(by kernel_rfl:Av tt.get 33 (.pointer (some ⟨b,o,none⟩)) 6=some (.pointer (some ⟨b,o+6,none⟩))))
theorem YY {hp:Hp}{v:Value}{l:List (AE)}(h:BM AA hp v l){k:IntKind}{n:Int}(h0:0≤n)(h1:n≤l.length):Be tt.get hp 22 v none (some (.int k n))=(Hd 10 v 0 n.toNat,True):=h.sC Cv Ch h0 h1
theorem u5 {hp:Hp}{v:Value}{l:List (AE)}(h:BM AA hp v l){k:IntKind}{n:Int}(h0:0≤n)(h1:n≤l.length):Be tt.get hp 22 v (some (.int k n)) none=(Gv 10 v n.toNat,True):=h.sA Cv Ch rfl h0 h1
@[go_sem] theorem vL {hp:Hp}{x:Value}{b top:Nat}{l:List (AE)}(h:hp b=AV AA l)(hx:HJ AA hp x)(hn:l.length+(AA.rd hp x).length≤16777216):Ab tt.get hp top [22,22] (AR b l) x=some (AR top (l ++ AA.rd hp x),CP b l top (AV AA (l ++ AA.rd hp x)),top+1):=EE Cv Dk rfl Ch rfl rfl h hx hn
@[go_sem] theorem uZ {hp:Hp}{x:Value}{top:Nat}(hx:HJ AA hp x)(hn:(AA.rd hp x).length≤16777216):Ab tt.get hp top [22,22] (.slice none 0 0) x=some (AR top (AA.rd hp x), [(top,AV AA (AA.rd hp x))],top+1):=EJ Cv Dk rfl Ch rfl rfl hx hn
@[go_sem] theorem IB {hp:Hp}{b top k:Nat}{l:List (AE)}(h:hp b=AV AA l)(hk:hp k=some (.cells true 10 (cellsOf (hp k))))(hc:AA.enc (AA.dec (cellsOf (hp k)))=cellsOf (hp k))(hn:B6 (l.length+1) Lg.bytes=true):Ab tt.get hp top [22,22] (AR b l) (.slice (some ⟨k,0,none⟩) 1 1)=some (AR top (l ++ [AA.dec (cellsOf (hp k))]),CP b l top (AV AA (l ++ [AA.dec (cellsOf (hp k))])),top+1):=Dh Cv Dk rfl Ch rfl rfl h hk hc hn
@[go_sem] theorem tJ {hp:Hp}{x:Value}{top:Nat}(hx:HJ AA hp x)(hn:B6 (AA.rd hp x).length Lg.bytes=true):Ab tt.get hp top [22,22] (.slice none 0 0) x=some (AR top (AA.rd hp x), [(top,AV AA (AA.rd hp x))],top+1):=Dc Cv Dk rfl Ch rfl rfl hx hn
@[go_sem] theorem tz {hp:Hp}{top k:Nat}(hk:hp k=some (.cells true 10 (cellsOf (hp k))))(hc:AA.enc (AA.dec (cellsOf (hp k)))=cellsOf (hp k)):Ab tt.get hp top [22,22] (.slice none 0 0) (.slice (some ⟨k,0,none⟩) 1 1)=some (AR top [AA.dec (cellsOf (hp k))], [(top,AV AA [AA.dec (cellsOf (hp k))])],top+1):=DZ Cv Dk rfl Ch rfl rfl hk hc
@[go_sem] theorem vM {hp:Hp}{b top:Nat}{l l2:List (AE)}(h:hp b=AV AA l):hp.Al (CP b l top (AV AA l2))=(hp.set b none).set top (AV AA l2):=Gd h
@[go_sem] theorem Y7 {hp:Hp}{b:Nat}{l:List (AE)}{i:Nat}(h:hp b=AV AA l)(hi:i < l.length){a0:Int}{a1:Int}{a2:Int}{a3:Int}{a4:Int}{a5:Int}{a6:Int}{a7:Int}{a8:Int}{a9:Int}:Ai tt.get hp 33 (BK (AR b l) (i * 10)) (.agg ⟨[.int .u64 (a0), .int .i64 (a1), .int .i64 (a2), .int .i64 (a3), .int .u32 (a4), .int .i64 (a5), .int .u64 (a6), .int .u64 (a7), .int .u64 (a8), .int .u64 (a9)]⟩)=([(b,AV AA (l.set i ⟨a0,a1,a2,a3,a4,a5,a6,a7,a8,a9⟩))],True):=Vp (E:=AA) (cs:=AA.enc ⟨a0,a1,a2,a3,a4,a5,a6,a7,a8,a9⟩) Ch rfl h hi rfl rfl
@[go_sem] theorem o8 {hp:Hp}{b:Nat}{l:List (AE)}{i:Nat}(h:hp b=AV AA l)(hi:i < l.length){x:Int}:Ai tt.get hp 28 (BK (AR b l) (i * 10)) (.int .u64 (x))=([(b,AV AA (l.set i {at' l i with At:=x}))],True):=Cn (f:=0) IA h hi rfl (by decide) rfl rfl
@[go_sem] theorem qh {hp:Hp}{b:Nat}{l:List (AE)}{i:Nat}(h:hp b=AV AA l)(hi:i < l.length){x:Int}:Ai tt.get hp 3 (BK (AR b l) (i * 10+1)) (.int .i64 (x))=([(b,AV AA (l.set i {at' l i with Kind:=x}))],True):=Cn (f:=1) Dx h hi rfl (by decide) rfl rfl
@[go_sem] theorem pd {hp:Hp}{b:Nat}{l:List (AE)}{i:Nat}(h:hp b=AV AA l)(hi:i < l.length){x:Int}:Ai tt.get hp 3 (BK (AR b l) (i * 10+2)) (.int .i64 (x))=([(b,AV AA (l.set i {at' l i with Bp:=x}))],True):=Cn (f:=2) Dx h hi rfl (by decide) rfl rfl
@[go_sem] theorem pk {hp:Hp}{b:Nat}{l:List (AE)}{i:Nat}(h:hp b=AV AA l)(hi:i < l.length){x:Int}:Ai tt.get hp 3 (BK (AR b l) (i * 10+3)) (.int .i64 (x))=([(b,AV AA (l.set i {at' l i with DI:=x}))],True):=Cn (f:=3) Dx h hi rfl (by decide) rfl rfl
@[go_sem] theorem pX {hp:Hp}{b:Nat}{l:List (AE)}{i:Nat}(h:hp b=AV AA l)(hi:i < l.length){x:Int}:Ai tt.get hp 29 (BK (AR b l) (i * 10+4)) (.int .u32 (x))=([(b,AV AA (l.set i {at' l i with Id:=x}))],True):=Cn (f:=4) CH h hi rfl (by decide) rfl rfl
@[go_sem] theorem p9 {hp:Hp}{b:Nat}{l:List (AE)}{i:Nat}(h:hp b=AV AA l)(hi:i < l.length){x:Int}:Ai tt.get hp 3 (BK (AR b l) (i * 10+5)) (.int .i64 (x))=([(b,AV AA (l.set i {at' l i with Set:=x}))],True):=Cn (f:=5) Dx h hi rfl (by decide) rfl rfl
@[go_sem] theorem ur {b:Nat}{l:List (AE)}{hp2:Hp}:Cj tt.get hp2 22 (AR b l)=(.int .i64 (l.length:Int),True):=by cases l with | nil=>unfold Cj AR;simp only [Cv,El,Dk,RF];rfl | cons a l=>unfold Cj AR;simp only [Cv,El,Dk,RF];rfl
@[go_sem] theorem ta {hp:Hp}{b top k:Nat}{l:List (AE)}(h:hp b=AV AA l)(hk:hp k=some (.cells true 10 (cellsOf (hp k))))(hc:AA.enc (AA.dec (cellsOf (hp k)))=cellsOf (hp k))(hn:l.length < 16777216):Ab tt.get hp top [22,22] (AR b l) (.slice (some ⟨k,0,none⟩) 1 1)=some (AR top (l ++ [AA.dec (cellsOf (hp k))]),CP b l top (AV AA (l ++ [AA.dec (cellsOf (hp k))])),top+1):=EA Cv Dk rfl Ch rfl rfl h hk hc hn
end
section
theorem Br {hp:Hp}{v:Value}{l:List (Int)}(h:BM AF hp v l){hp':Hp}:Cj tt.get hp' 51 v=(.int .i64 (l.length:Int),True):=h.P1 Cb
theorem C0 {hp:Hp}{v:Value}{l:List (Int)}(h:BM AF hp v l){k:IntKind}{n:Int}(h0:0≤n)(h1:n < l.length):Af tt.get 51 v (.int k n)=(BK v (n.toNat * 1),True):=h.idx Cb CH rfl h0 h1
theorem EZ {hp:Hp}{v:Value}{l:List (Int)}(h:BM AF hp v l){i:Nat}(hi:i < l.length):Ad tt.get hp 29 (BK v (i * 1))=(.int .u32 (at' l i),True):=h.cell (f:=0) CH rfl hi (by decide)
theorem JS {hp:Hp}{v:Value}{l:List (Int)}(h:BM AF hp v l){k:IntKind}{n:Int}(h0:0≤n)(h1:n≤l.length):Be tt.get hp 51 v none (some (.int k n))=(Hd 1 v 0 n.toNat,True):=h.sC Cb CH h0 h1
theorem JT {hp:Hp}{v:Value}{l:List (Int)}(h:BM AF hp v l){k:IntKind}{n:Int}(h0:0≤n)(h1:n≤l.length):Be tt.get hp 51 v (some (.int k n)) none=(Gv 1 v n.toNat,True):=h.sA Cb CH rfl h0 h1
@[go_sem] theorem M3 {hp:Hp}{x:Value}{b top:Nat}{l:List (Int)}(h:hp b=AV AF l)(hx:HJ AF hp x)(hn:l.length+(AF.rd hp x).length≤16777216):Ab tt.get hp top [51,51] (AR b l) x=some (AR top (l ++ AF.rd hp x),CP b l top (AV AF (l ++ AF.rd hp x)),top+1):=EE Cb Cr rfl CH rfl rfl h hx hn
@[go_sem] theorem LH {hp:Hp}{x:Value}{top:Nat}(hx:HJ AF hp x)(hn:(AF.rd hp x).length≤16777216):Ab tt.get hp top [51,51] (.slice none 0 0) x=some (AR top (AF.rd hp x), [(top,AV AF (AF.rd hp x))],top+1):=EJ Cb Cr rfl CH rfl rfl hx hn
@[go_sem] theorem HF {hp:Hp}{b top k:Nat}{l:List (Int)}(h:hp b=AV AF l)(hk:hp k=some (.cells true 1 (cellsOf (hp k))))(hc:AF.enc (AF.dec (cellsOf (hp k)))=cellsOf (hp k))(hn:B6 (l.length+1) Jf.bytes=true):Ab tt.get hp top [51,51] (AR b l) (.slice (some ⟨k,0,none⟩) 1 1)=some (AR top (l ++ [AF.dec (cellsOf (hp k))]),CP b l top (AV AF (l ++ [AF.dec (cellsOf (hp k))])),top+1):=Dh Cb Cr rfl CH rfl rfl h hk hc hn
@[go_sem] theorem ph {hp:Hp}{x:Value}{top:Nat}(hx:HJ AF hp x)(hn:B6 (AF.rd hp x).length Jf.bytes=true):Ab tt.get hp top [51,51] (.slice none 0 0) x=some (AR top (AF.rd hp x), [(top,AV AF (AF.rd hp x))],top+1):=Dc Cb Cr rfl CH rfl rfl hx hn
@[go_sem] theorem pO {hp:Hp}{top k:Nat}(hk:hp k=some (.cells true 1 (cellsOf (hp k))))(hc:AF.enc (AF.dec (cellsOf (hp k)))=cellsOf (hp k)):Ab tt.get hp top [51,51] (.slice none 0 0) (.slice (some ⟨k,0,none⟩) 1 1)=some (AR top [AF.dec (cellsOf (hp k))], [(top,AV AF [AF.dec (cellsOf (hp k))])],top+1):=DZ Cb Cr rfl CH rfl rfl hk hc
@[go_sem] theorem uB {hp:Hp}{b top:Nat}{l l2:List (Int)}(h:hp b=AV AF l):hp.Al (CP b l top (AV AF l2))=(hp.set b none).set top (AV AF l2):=Gd h
@[go_sem] theorem VT {hp:Hp}{b:Nat}{l:List (Int)}{i:Nat}(h:hp b=AV AF l)(hi:i < l.length){x:Int}:Ai tt.get hp 29 (BK (AR b l) (i * 1)) (.int .u32 (x))=([(b,AV AF (l.set i x))],True):=Cn (f:=0) CH h hi rfl (by decide) rfl rfl
@[go_sem] theorem tB {b:Nat}{l:List (Int)}{hp2:Hp}:Cj tt.get hp2 51 (AR b l)=(.int .i64 (l.length:Int),True):=by cases l with | nil=>unfold Cj AR;simp only [Cb,El,Cr,OI];rfl | cons a l=>unfold Cj AR;simp only [Cb,El,Cr,OI];rfl
@[go_sem] theorem qC {hp:Hp}{b top k:Nat}{l:List (Int)}(h:hp b=AV AF l)(hk:hp k=some (.cells true 1 (cellsOf (hp k))))(hc:AF.enc (AF.dec (cellsOf (hp k)))=cellsOf (hp k))(hn:l.length < 16777216):Ab tt.get hp top [51,51] (AR b l) (.slice (some ⟨k,0,none⟩) 1 1)=some (AR top (l ++ [AF.dec (cellsOf (hp k))]),CP b l top (AV AF (l ++ [AF.dec (cellsOf (hp k))])),top+1):=EA Cb Cr rfl CH rfl rfl h hk hc hn
end
section
theorem pG {hp:Hp}{v:Value}{l:List (List UInt8)}(h:BM AU hp v l){hp':Hp}:Cj tt.get hp' 58 v=(.int .i64 (l.length:Int),True):=h.P1 Bw
theorem DL {hp:Hp}{v:Value}{l:List (List UInt8)}(h:BM AU hp v l){k:IntKind}{n:Int}(h0:0≤n)(h1:n < l.length):Af tt.get 58 v (.int k n)=(BK v (n.toNat * 1),True):=h.idx Bw B2 rfl h0 h1
theorem Jd {hp:Hp}{v:Value}{l:List (List UInt8)}(h:BM AU hp v l){i:Nat}(hi:i < l.length):Ad tt.get hp 9 (BK v (i * 1))=(.string ⟨⟨at' l i⟩⟩,True):=h.cell (f:=0) B2 rfl hi (by decide)
theorem rX {hp:Hp}{v:Value}{l:List (List UInt8)}(h:BM AU hp v l){k:IntKind}{n:Int}(h0:0≤n)(h1:n≤l.length):Be tt.get hp 58 v none (some (.int k n))=(Hd 1 v 0 n.toNat,True):=h.sC Bw B2 h0 h1
theorem qm {hp:Hp}{v:Value}{l:List (List UInt8)}(h:BM AU hp v l){k:IntKind}{n:Int}(h0:0≤n)(h1:n≤l.length):Be tt.get hp 58 v (some (.int k n)) none=(Gv 1 v n.toNat,True):=h.sA Bw B2 rfl h0 h1
@[go_sem] theorem sV {hp:Hp}{x:Value}{b top:Nat}{l:List (List UInt8)}(h:hp b=AV AU l)(hx:HJ AU hp x)(hn:l.length+(AU.rd hp x).length≤16777216):Ab tt.get hp top [58,58] (AR b l) x=some (AR top (l ++ AU.rd hp x),CP b l top (AV AU (l ++ AU.rd hp x)),top+1):=EE Bw CM rfl B2 rfl rfl h hx hn
@[go_sem] theorem qG {hp:Hp}{x:Value}{top:Nat}(hx:HJ AU hp x)(hn:(AU.rd hp x).length≤16777216):Ab tt.get hp top [58,58] (.slice none 0 0) x=some (AR top (AU.rd hp x), [(top,AV AU (AU.rd hp x))],top+1):=EJ Bw CM rfl B2 rfl rfl hx hn
@[go_sem] theorem mV {hp:Hp}{b top k:Nat}{l:List (List UInt8)}(h:hp b=AV AU l)(hk:hp k=some (.cells true 1 (cellsOf (hp k))))(hc:AU.enc (AU.dec (cellsOf (hp k)))=cellsOf (hp k))(hn:B6 (l.length+1) iy.bytes=true):Ab tt.get hp top [58,58] (AR b l) (.slice (some ⟨k,0,none⟩) 1 1)=some (AR top (l ++ [AU.dec (cellsOf (hp k))]),CP b l top (AV AU (l ++ [AU.dec (cellsOf (hp k))])),top+1):=Dh Bw CM rfl B2 rfl rfl h hk hc hn
@[go_sem] theorem qB {hp:Hp}{x:Value}{top:Nat}(hx:HJ AU hp x)(hn:B6 (AU.rd hp x).length iy.bytes=true):Ab tt.get hp top [58,58] (.slice none 0 0) x=some (AR top (AU.rd hp x), [(top,AV AU (AU.rd hp x))],top+1):=Dc Bw CM rfl B2 rfl rfl hx hn
@[go_sem] theorem ql {hp:Hp}{top k:Nat}(hk:hp k=some (.cells true 1 (cellsOf (hp k))))(hc:AU.enc (AU.dec (cellsOf (hp k)))=cellsOf (hp k)):Ab tt.get hp top [58,58] (.slice none 0 0) (.slice (some ⟨k,0,none⟩) 1 1)=some (AR top [AU.dec (cellsOf (hp k))], [(top,AV AU [AU.dec (cellsOf (hp k))])],top+1):=DZ Bw CM rfl B2 rfl rfl hk hc
@[go_sem] theorem uY {hp:Hp}{b top:Nat}{l l2:List (List UInt8)}(h:hp b=AV AU l):hp.Al (CP b l top (AV AU l2))=(hp.set b none).set top (AV AU l2):=Gd h
@[go_sem] theorem tv {hp:Hp}{b:Nat}{l:List (List UInt8)}{i:Nat}(h:hp b=AV AU l)(hi:i < l.length){x:List UInt8}:Ai tt.get hp 9 (BK (AR b l) (i * 1)) (.string ⟨⟨x⟩⟩)=([(b,AV AU (l.set i x))],True):=Cn (f:=0) B2 h hi rfl (by decide) rfl rfl
@[go_sem] theorem rr {b:Nat}{l:List (List UInt8)}{hp2:Hp}:Cj tt.get hp2 58 (AR b l)=(.int .i64 (l.length:Int),True):=by cases l with | nil=>unfold Cj AR;simp only [Bw,El,CM,Ll];rfl | cons a l=>unfold Cj AR;simp only [Bw,El,CM,Ll];rfl
@[go_sem] theorem pQ {hp:Hp}{b top k:Nat}{l:List (List UInt8)}(h:hp b=AV AU l)(hk:hp k=some (.cells true 1 (cellsOf (hp k))))(hc:AU.enc (AU.dec (cellsOf (hp k)))=cellsOf (hp k))(hn:l.length < 16777216):Ab tt.get hp top [58,58] (AR b l) (.slice (some ⟨k,0,none⟩) 1 1)=some (AR top (l ++ [AU.dec (cellsOf (hp k))]),CP b l top (AV AU (l ++ [AU.dec (cellsOf (hp k))])),top+1):=EA Bw CM rfl B2 rfl rfl h hk hc hn
end
section
@[go_sem] theorem uq {hp:Hp}{x:Value}{b top:Nat}{l:List (Int)}(h:hp b=AV Ae l)(hx:HJ Ae hp x)(hn:l.length+(Ae.rd hp x).length≤16777216):Ab tt.get hp top [60,60] (AR b l) x=some (AR top (l ++ Ae.rd hp x),CP b l top (AV Ae (l ++ Ae.rd hp x)),top+1):=EE DN CQ rfl EK rfl rfl h hx hn
@[go_sem] theorem r8 {hp:Hp}{x:Value}{top:Nat}(hx:HJ Ae hp x)(hn:(Ae.rd hp x).length≤16777216):Ab tt.get hp top [60,60] (.slice none 0 0) x=some (AR top (Ae.rd hp x), [(top,AV Ae (Ae.rd hp x))],top+1):=EJ DN CQ rfl EK rfl rfl hx hn
@[go_sem] theorem Se {hp:Hp}{b top k:Nat}{l:List (Int)}(h:hp b=AV Ae l)(hk:hp k=some (.cells true 1 (cellsOf (hp k))))(hc:Ae.enc (Ae.dec (cellsOf (hp k)))=cellsOf (hp k))(hn:B6 (l.length+1) Z5.bytes=true):Ab tt.get hp top [60,60] (AR b l) (.slice (some ⟨k,0,none⟩) 1 1)=some (AR top (l ++ [Ae.dec (cellsOf (hp k))]),CP b l top (AV Ae (l ++ [Ae.dec (cellsOf (hp k))])),top+1):=Dh DN CQ rfl EK rfl rfl h hk hc hn
@[go_sem] theorem tL {hp:Hp}{x:Value}{top:Nat}(hx:HJ Ae hp x)(hn:B6 (Ae.rd hp x).length Z5.bytes=true):Ab tt.get hp top [60,60] (.slice none 0 0) x=some (AR top (Ae.rd hp x), [(top,AV Ae (Ae.rd hp x))],top+1):=Dc DN CQ rfl EK rfl rfl hx hn
@[go_sem] theorem sP {hp:Hp}{top k:Nat}(hk:hp k=some (.cells true 1 (cellsOf (hp k))))(hc:Ae.enc (Ae.dec (cellsOf (hp k)))=cellsOf (hp k)):Ab tt.get hp top [60,60] (.slice none 0 0) (.slice (some ⟨k,0,none⟩) 1 1)=some (AR top [Ae.dec (cellsOf (hp k))], [(top,AV Ae [Ae.dec (cellsOf (hp k))])],top+1):=DZ DN CQ rfl EK rfl rfl hk hc
@[go_sem] theorem YV {hp:Hp}{b top:Nat}{l l2:List (Int)}(h:hp b=AV Ae l):hp.Al (CP b l top (AV Ae l2))=(hp.set b none).set top (AV Ae l2):=Gd h
@[go_sem] theorem vC {hp:Hp}{b:Nat}{l:List (Int)}{i:Nat}(h:hp b=AV Ae l)(hi:i < l.length){x:Int}:Ai tt.get hp 5 (BK (AR b l) (i * 1)) (.int .u8 (x))=([(b,AV Ae (l.set i x))],True):=Cn (f:=0) EK h hi rfl (by decide) rfl rfl
@[go_sem] theorem Y5 {b:Nat}{l:List (Int)}{hp2:Hp}:Cj tt.get hp2 60 (AR b l)=(.int .i64 (l.length:Int),True):=by cases l with | nil=>unfold Cj AR;simp only [DN,El,CQ,Ng];rfl | cons a l=>unfold Cj AR;simp only [DN,El,CQ,Ng];rfl
@[go_sem] theorem uU {hp:Hp}{b top k:Nat}{l:List (Int)}(h:hp b=AV Ae l)(hk:hp k=some (.cells true 1 (cellsOf (hp k))))(hc:Ae.enc (Ae.dec (cellsOf (hp k)))=cellsOf (hp k))(hn:l.length < 16777216):Ab tt.get hp top [60,60] (AR b l) (.slice (some ⟨k,0,none⟩) 1 1)=some (AR top (l ++ [Ae.dec (cellsOf (hp k))]),CP b l top (AV Ae (l ++ [Ae.dec (cellsOf (hp k))])),top+1):=EA DN CQ rfl EK rfl rfl h hk hc hn
end
section
theorem aX {hp:Hp}{v:Value}{l:List (Int)}(h:BM BV hp v l){k:IntKind}{n:Int}(h0:0≤n)(h1:n < l.length):Af tt.get 122 v (.int k n)=(BK v (n.toNat * 1),True):=h.idx G8 Dx rfl h0 h1
theorem jD {hp:Hp}{v:Value}{l:List (Int)}(h:BM BV hp v l){i:Nat}(hi:i < l.length):Ad tt.get hp 3 (BK v (i * 1))=(.int .i64 (at' l i),True):=h.cell (f:=0) Dx rfl hi (by decide)
@[go_sem] theorem zH {hp:Hp}{x:Value}{b top:Nat}{l:List (Int)}(h:hp b=AV BV l)(hx:HJ BV hp x)(hn:l.length+(BV.rd hp x).length≤16777216):Ab tt.get hp top [122,122] (AR b l) x=some (AR top (l ++ BV.rd hp x),CP b l top (AV BV (l ++ BV.rd hp x)),top+1):=EE G8 F9 rfl Dx rfl rfl h hx hn
@[go_sem] theorem yL {hp:Hp}{x:Value}{top:Nat}(hx:HJ BV hp x)(hn:(BV.rd hp x).length≤16777216):Ab tt.get hp top [122,122] (.slice none 0 0) x=some (AR top (BV.rd hp x), [(top,AV BV (BV.rd hp x))],top+1):=EJ G8 F9 rfl Dx rfl rfl hx hn
@[go_sem] theorem uo {hp:Hp}{b top k:Nat}{l:List (Int)}(h:hp b=AV BV l)(hk:hp k=some (.cells true 1 (cellsOf (hp k))))(hc:BV.enc (BV.dec (cellsOf (hp k)))=cellsOf (hp k))(hn:B6 (l.length+1) Yg.bytes=true):Ab tt.get hp top [122,122] (AR b l) (.slice (some ⟨k,0,none⟩) 1 1)=some (AR top (l ++ [BV.dec (cellsOf (hp k))]),CP b l top (AV BV (l ++ [BV.dec (cellsOf (hp k))])),top+1):=Dh G8 F9 rfl Dx rfl rfl h hk hc hn
@[go_sem] theorem xu {hp:Hp}{x:Value}{top:Nat}(hx:HJ BV hp x)(hn:B6 (BV.rd hp x).length Yg.bytes=true):Ab tt.get hp top [122,122] (.slice none 0 0) x=some (AR top (BV.rd hp x), [(top,AV BV (BV.rd hp x))],top+1):=Dc G8 F9 rfl Dx rfl rfl hx hn
@[go_sem] theorem yl {hp:Hp}{top k:Nat}(hk:hp k=some (.cells true 1 (cellsOf (hp k))))(hc:BV.enc (BV.dec (cellsOf (hp k)))=cellsOf (hp k)):Ab tt.get hp top [122,122] (.slice none 0 0) (.slice (some ⟨k,0,none⟩) 1 1)=some (AR top [BV.dec (cellsOf (hp k))], [(top,AV BV [BV.dec (cellsOf (hp k))])],top+1):=DZ G8 F9 rfl Dx rfl rfl hk hc
@[go_sem] theorem zM {hp:Hp}{b top:Nat}{l l2:List (Int)}(h:hp b=AV BV l):hp.Al (CP b l top (AV BV l2))=(hp.set b none).set top (AV BV l2):=Gd h
@[go_sem] theorem zY {hp:Hp}{b:Nat}{l:List (Int)}{i:Nat}(h:hp b=AV BV l)(hi:i < l.length){x:Int}:Ai tt.get hp 3 (BK (AR b l) (i * 1)) (.int .i64 (x))=([(b,AV BV (l.set i x))],True):=Cn (f:=0) Dx h hi rfl (by decide) rfl rfl
@[go_sem] theorem jL {b:Nat}{l:List (Int)}{hp2:Hp}:Cj tt.get hp2 122 (AR b l)=(.int .i64 (l.length:Int),True):=by cases l with | nil=>unfold Cj AR;simp only [G8,El,F9,KO];rfl | cons a l=>unfold Cj AR;simp only [G8,El,F9,KO];rfl
@[go_sem] theorem xC {hp:Hp}{b top k:Nat}{l:List (Int)}(h:hp b=AV BV l)(hk:hp k=some (.cells true 1 (cellsOf (hp k))))(hc:BV.enc (BV.dec (cellsOf (hp k)))=cellsOf (hp k))(hn:l.length < 16777216):Ab tt.get hp top [122,122] (AR b l) (.slice (some ⟨k,0,none⟩) 1 1)=some (AR top (l ++ [BV.dec (cellsOf (hp k))]),CP b l top (AV BV (l ++ [BV.dec (cellsOf (hp k))])),top+1):=EA G8 F9 rfl Dx rfl rfl h hk hc hn
end
theorem Cd {s d:TypeId}{k1 k2:IntKind}{hp:Hp}{x:Value}(h1:kindOf tt.get s=some (.int k1))(h2:kindOf tt.get d=some (.int k2)):BX tt.get hp s d x=(.int k2 (AP k2 (intOf x)),Hs x):=by
 unfold BX
 simp only [h1,h2,Mr]
@[go_sem] theorem yz {hp:Hp}{x:Value}:BX tt.get hp 2 28 x=(.int .u64 (AP .u64 (intOf x)),Hs x):=Cd Rl Dd
@[go_sem] theorem AAY {hp:Hp}{x:Value}:BX tt.get hp 3 5 x=(.int .u8 (AP .u8 (intOf x)),Hs x):=Cd JD Ei
@[go_sem] theorem zB {hp:Hp}{x:Value}:BX tt.get hp 3 28 x=(.int .u64 (AP .u64 (intOf x)),Hs x):=Cd JD Dd
@[go_sem] theorem yq {hp:Hp}{x:Value}:BX tt.get hp 3 121 x=(.int .u64 (AP .u64 (intOf x)),Hs x):=Cd JD N6
@[go_sem] theorem wG {hp:Hp}{x:Value}:BX tt.get hp 3 185 x=(.int .u64 (AP .u64 (intOf x)),Hs x):=Cd JD Na
@[go_sem] theorem AAO {hp:Hp}{x:Value}:BX tt.get hp 5 3 x=(.int .i64 (AP .i64 (intOf x)),Hs x):=Cd Ei JD
@[go_sem] theorem zS {hp:Hp}{x:Value}:BX tt.get hp 5 21 x=(.int .i32 (AP .i32 (intOf x)),Hs x):=Cd Ei Xg
@[go_sem] theorem zi {hp:Hp}{x:Value}:BX tt.get hp 5 28 x=(.int .u64 (AP .u64 (intOf x)),Hs x):=Cd Ei Dd
@[go_sem] theorem zf {hp:Hp}{x:Value}:BX tt.get hp 5 29 x=(.int .u32 (AP .u32 (intOf x)),Hs x):=Cd Ei Gi
@[go_sem] theorem zD {hp:Hp}{x:Value}:BX tt.get hp 28 2 x=(.int .i64 (AP .i64 (intOf x)),Hs x):=Cd Dd Rl
@[go_sem] theorem za {hp:Hp}{x:Value}:BX tt.get hp 28 3 x=(.int .i64 (AP .i64 (intOf x)),Hs x):=Cd Dd JD
@[go_sem] theorem zj {hp:Hp}{x:Value}:BX tt.get hp 28 5 x=(.int .u8 (AP .u8 (intOf x)),Hs x):=Cd Dd Ei
@[go_sem] theorem yb {hp:Hp}{x:Value}:BX tt.get hp 28 29 x=(.int .u32 (AP .u32 (intOf x)),Hs x):=Cd Dd Gi
@[go_sem] theorem zJ {hp:Hp}{x:Value}:BX tt.get hp 29 5 x=(.int .u8 (AP .u8 (intOf x)),Hs x):=Cd Gi Ei
@[go_sem] theorem xT {hp:Hp}{x:Value}:BX tt.get hp 29 28 x=(.int .u64 (AP .u64 (intOf x)),Hs x):=Cd Gi Dd
@[go_sem] theorem xQ {hp:Hp}{x:Value}:BX tt.get hp 121 3 x=(.int .i64 (AP .i64 (intOf x)),Hs x):=Cd N6 JD
@[go_sem] theorem uw {hp:Hp}{x:Value}:BX tt.get hp 121 29 x=(.int .u32 (AP .u32 (intOf x)),Hs x):=Cd N6 Gi
end Go.Proofs.YthpibnpeaidabaaGreatDoor.Dm
