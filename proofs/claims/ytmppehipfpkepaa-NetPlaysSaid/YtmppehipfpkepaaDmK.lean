/- Nf on the types of this seat; how their data lie in memory. -/
import Derived.Test.YtmppehipfpkepaaDmTab
import Derived.Test.YtmppehipfpkepaaDmH
set_option linter.unusedSimpArgs false
namespace Go.Proofs.Ytmppehipfpkepaa.Dm
open Go.Dm
attribute [go_sem] Ph wA yY jL po tF pM cp WW cR Xb cZ nC bR re ZY Wu iz bM mK m9 mG aX pc cI nK bS gJ jY ad iY iM iU fY nV bP OZ aF Td Yw TM EA eX UZ Z0 UR dZ eZ
@[go_sem] theorem B8:tt.get 3=some Ph:=by kernel_rfl
@[go_sem] theorem fK:BF tt.get 3=some (.int .i64):=by kernel_rfl
@[go_sem] theorem AES {op:BinOp}{xo yo:Operand}{x y:Value}:DI tt.get op 3 xo yo x y=Nh op .i64 x y:=Mk fK
@[go_sem] theorem LK:tt.get 4=some wA:=by kernel_rfl
@[go_sem] theorem xw:BF tt.get 4=some (.bool):=by kernel_rfl
@[go_sem] theorem ADX {op:BinOp}{xo yo:Operand}{x y:Value}:DI tt.get op 4 xo yo x y=Tx op x y:=bT xw
@[go_sem] theorem OM:tt.get 9=some yY:=by kernel_rfl
@[go_sem] theorem oH:BF tt.get 9=some (.string):=by kernel_rfl
@[go_sem] theorem ah:tt.get 24=some jL:=by kernel_rfl
@[go_sem] theorem yb {op:BinOp}{xo yo:Operand}{x y:Value}:DI tt.get op 24 xo yo x y=Jn (EG tt.get op 24 xo yo x y):=HE (by kernel_rfl)
@[go_sem] theorem mE {xo yo:Operand}{a:Option Addr}:EG tt.get .eql 24 xo yo (.pointer a) (.pointer none)=some (.bool (a.isNone)):=by cases a <;> simp [EG,NN,ah,jL]
@[go_sem] theorem AEG:tt.get 28=some po:=by kernel_rfl
theorem uy:OB tt.get 28=some [.i64, .i64, .i64]:=by kernel_rfl
@[go_sem] theorem xi {xo yo:Operand}{x y:Value}:DI tt.get .eql 28 xo yo x y=(.bool (GZ (B0 x) (B0 y)),x= .agg ⟨B0 x⟩∧y= .agg ⟨B0 y⟩∧EZ [.i64, .i64, .i64] (B0 x)∧EZ [.i64, .i64, .i64] (B0 y)):=TB uy
@[go_sem] theorem AAi {b o:Nat}:AI tt.get 28 (.pointer (some ⟨b,o,none⟩)) 0=(.pointer (some ⟨b,o,none⟩),True):=by unfold AI;rw [show AY tt.get 28 (.pointer (some ⟨b,o,none⟩)) 0=some (.pointer (some ⟨b,o,none⟩)) from by kernel_rfl]
@[go_sem] theorem z5 {b o:Nat}:AI tt.get 28 (.pointer (some ⟨b,o,none⟩)) 1=(.pointer (some ⟨b,o+1,none⟩),True):=by unfold AI;rw [show AY tt.get 28 (.pointer (some ⟨b,o,none⟩)) 1=some (.pointer (some ⟨b,o+1,none⟩)) from by kernel_rfl]
@[go_sem] theorem AAd {b o:Nat}:AI tt.get 28 (.pointer (some ⟨b,o,none⟩)) 2=(.pointer (some ⟨b,o+2,none⟩),True):=by unfold AI;rw [show AY tt.get 28 (.pointer (some ⟨b,o,none⟩)) 2=some (.pointer (some ⟨b,o+2,none⟩)) from by kernel_rfl]
@[go_sem] theorem ru:BF tt.get 29=some (.int .i64):=by kernel_rfl
@[go_sem] theorem AC8 {op:BinOp}{xo yo:Operand}{x y:Value}:DI tt.get op 29 xo yo x y=Nh op .i64 x y:=Mk ru
@[go_sem] theorem Rx:tt.get 32=some pM:=by kernel_rfl
@[go_sem] theorem Zn:BF tt.get 32=some (.int .u64):=by kernel_rfl
@[go_sem] theorem AA6 {op:BinOp}{xo yo:Operand}{x y:Value}:DI tt.get op 32 xo yo x y=Nh op .u64 x y:=Mk Zn
@[go_sem] theorem HF:tt.get 34=some cp:=by kernel_rfl
@[go_sem] theorem Fe:BF tt.get 34=some (.slice 37):=by kernel_rfl
@[go_sem] theorem ED:tt.get 37=some WW:=by kernel_rfl
@[go_sem] theorem wU {b o:Nat}:AI tt.get 37 (.pointer (some ⟨b,o,none⟩)) 0=(.pointer (some ⟨b,o,none⟩),True):=by unfold AI;rw [show AY tt.get 37 (.pointer (some ⟨b,o,none⟩)) 0=some (.pointer (some ⟨b,o,none⟩)) from by kernel_rfl]
@[go_sem] theorem vn {b o:Nat}:AI tt.get 37 (.pointer (some ⟨b,o,none⟩)) 1=(.pointer (some ⟨b,o+1,none⟩),True):=by unfold AI;rw [show AY tt.get 37 (.pointer (some ⟨b,o,none⟩)) 1=some (.pointer (some ⟨b,o+1,none⟩)) from by kernel_rfl]
@[go_sem] theorem Ms:tt.get 39=some cR:=by kernel_rfl
@[go_sem] theorem Jt:BF tt.get 39=some (.slice 63):=by kernel_rfl
@[go_sem] theorem Kw:tt.get 40=some Xb:=by kernel_rfl
@[go_sem] theorem HH:BF tt.get 40=some (.slice 3):=by kernel_rfl
@[go_sem] theorem AEF {op:BinOp}{xo yo:Operand}{x y:Value}:DI tt.get op 40 xo yo x y=Jn (EG tt.get op 40 xo yo x y):=HE (by kernel_rfl)
@[go_sem] theorem yZ {xo yo:Operand}{a:Option Addr}{n c:Nat}:EG tt.get .eql 40 xo yo (.slice a n c) (.slice none 0 0)=some (.bool (a.isNone)):=by cases a <;> simp [EG,NN,Kw,Xb]
@[go_sem] theorem LV:tt.get 50=some cZ:=by kernel_rfl
@[go_sem] theorem Ir:BF tt.get 50=some (.slice 61):=by kernel_rfl
@[go_sem] theorem ADr:tt.get 52=some nC:=by kernel_rfl
@[go_sem] theorem AAn {b o:Nat}:AI tt.get 52 (.pointer (some ⟨b,o,none⟩)) 0=(.pointer (some ⟨b,o,none⟩),True):=by unfold AI;rw [show AY tt.get 52 (.pointer (some ⟨b,o,none⟩)) 0=some (.pointer (some ⟨b,o,none⟩)) from by kernel_rfl]
@[go_sem] theorem AAT {b o:Nat}:AI tt.get 52 (.pointer (some ⟨b,o,none⟩)) 1=(.pointer (some ⟨b,o+1,none⟩),True):=by unfold AI;rw [show AY tt.get 52 (.pointer (some ⟨b,o,none⟩)) 1=some (.pointer (some ⟨b,o+1,none⟩)) from by kernel_rfl]
@[go_sem] theorem zq {b o:Nat}:AI tt.get 52 (.pointer (some ⟨b,o,none⟩)) 2=(.pointer (some ⟨b,o+2,none⟩),True):=by unfold AI;rw [show AY tt.get 52 (.pointer (some ⟨b,o,none⟩)) 2=some (.pointer (some ⟨b,o+2,none⟩)) from by kernel_rfl]
@[go_sem] theorem AAH {b o:Nat}:AI tt.get 52 (.pointer (some ⟨b,o,none⟩)) 3=(.pointer (some ⟨b,o+3,none⟩),True):=by unfold AI;rw [show AY tt.get 52 (.pointer (some ⟨b,o,none⟩)) 3=some (.pointer (some ⟨b,o+3,none⟩)) from by kernel_rfl]
@[go_sem] theorem Ui:tt.get 53=some bR:=by kernel_rfl
@[go_sem] theorem Qs:BF tt.get 53=some (.slice 66):=by kernel_rfl
@[go_sem] theorem Lv:tt.get 61=some ZY:=by kernel_rfl
@[go_sem] theorem zn {b o:Nat}:AI tt.get 61 (.pointer (some ⟨b,o,none⟩)) 0=(.pointer (some ⟨b,o,none⟩),True):=by unfold AI;rw [show AY tt.get 61 (.pointer (some ⟨b,o,none⟩)) 0=some (.pointer (some ⟨b,o,none⟩)) from by kernel_rfl]
@[go_sem] theorem zx {b o:Nat}:AI tt.get 61 (.pointer (some ⟨b,o,none⟩)) 1=(.pointer (some ⟨b,o+1,none⟩),True):=by unfold AI;rw [show AY tt.get 61 (.pointer (some ⟨b,o,none⟩)) 1=some (.pointer (some ⟨b,o+1,none⟩)) from by kernel_rfl]
@[go_sem] theorem AAX {b o:Nat}:AI tt.get 61 (.pointer (some ⟨b,o,none⟩)) 2=(.pointer (some ⟨b,o+2,none⟩),True):=by unfold AI;rw [show AY tt.get 61 (.pointer (some ⟨b,o,none⟩)) 2=some (.pointer (some ⟨b,o+2,none⟩)) from by kernel_rfl]
@[go_sem] theorem MR:tt.get 63=some Wu:=by kernel_rfl
@[go_sem] theorem AAM {b o:Nat}:AI tt.get 63 (.pointer (some ⟨b,o,none⟩)) 0=(.pointer (some ⟨b,o,none⟩),True):=by unfold AI;rw [show AY tt.get 63 (.pointer (some ⟨b,o,none⟩)) 0=some (.pointer (some ⟨b,o,none⟩)) from by kernel_rfl]
@[go_sem] theorem zs {b o:Nat}:AI tt.get 63 (.pointer (some ⟨b,o,none⟩)) 1=(.pointer (some ⟨b,o+1,none⟩),True):=by unfold AI;rw [show AY tt.get 63 (.pointer (some ⟨b,o,none⟩)) 1=some (.pointer (some ⟨b,o+1,none⟩)) from by kernel_rfl]
@[go_sem] theorem AAJ {b o:Nat}:AI tt.get 63 (.pointer (some ⟨b,o,none⟩)) 2=(.pointer (some ⟨b,o+2,none⟩),True):=by unfold AI;rw [show AY tt.get 63 (.pointer (some ⟨b,o,none⟩)) 2=some (.pointer (some ⟨b,o+2,none⟩)) from by kernel_rfl]
@[go_sem] theorem AAG {b o:Nat}:AI tt.get 63 (.pointer (some ⟨b,o,none⟩)) 3=(.pointer (some ⟨b,o+3,none⟩),True):=by unfold AI;rw [show AY tt.get 63 (.pointer (some ⟨b,o,none⟩)) 3=some (.pointer (some ⟨b,o+3,none⟩)) from by kernel_rfl]
@[go_sem] theorem zt {b o:Nat}:AI tt.get 63 (.pointer (some ⟨b,o,none⟩)) 4=(.pointer (some ⟨b,o+4,none⟩),True):=by unfold AI;rw [show AY tt.get 63 (.pointer (some ⟨b,o,none⟩)) 4=some (.pointer (some ⟨b,o+4,none⟩)) from by kernel_rfl]
@[go_sem] theorem bq:tt.get 66=some iz:=by kernel_rfl
@[go_sem] theorem AC1 {b o:Nat}:AI tt.get 66 (.pointer (some ⟨b,o,none⟩)) 0=(.pointer (some ⟨b,o,none⟩),True):=by unfold AI;rw [show AY tt.get 66 (.pointer (some ⟨b,o,none⟩)) 0=some (.pointer (some ⟨b,o,none⟩)) from by kernel_rfl]
@[go_sem] theorem ACp {b o:Nat}:AI tt.get 66 (.pointer (some ⟨b,o,none⟩)) 1=(.pointer (some ⟨b,o+1,none⟩),True):=by unfold AI;rw [show AY tt.get 66 (.pointer (some ⟨b,o,none⟩)) 1=some (.pointer (some ⟨b,o+1,none⟩)) from by kernel_rfl]
@[go_sem] theorem ACk {b o:Nat}:AI tt.get 66 (.pointer (some ⟨b,o,none⟩)) 2=(.pointer (some ⟨b,o+2,none⟩),True):=by unfold AI;rw [show AY tt.get 66 (.pointer (some ⟨b,o,none⟩)) 2=some (.pointer (some ⟨b,o+2,none⟩)) from by kernel_rfl]
@[go_sem] theorem AC9 {b o:Nat}:AI tt.get 66 (.pointer (some ⟨b,o,none⟩)) 3=(.pointer (some ⟨b,o+3,none⟩),True):=by unfold AI;rw [show AY tt.get 66 (.pointer (some ⟨b,o,none⟩)) 3=some (.pointer (some ⟨b,o+3,none⟩)) from by kernel_rfl]
@[go_sem] theorem Mu:tt.get 67=some bM:=by kernel_rfl
@[go_sem] theorem LG:BF tt.get 67=some (.slice 4):=by kernel_rfl
@[go_sem] theorem AAj:tt.get 68=some mK:=by kernel_rfl
@[go_sem] theorem AAN:BF tt.get 68=some (.array 25 4):=by kernel_rfl
@[go_sem] theorem ABK:tt.get 69=some m9:=by kernel_rfl
@[go_sem] theorem ABk:BF tt.get 69=some (.array 25 3):=by kernel_rfl
@[go_sem] theorem wC:tt.get 70=some mG:=by kernel_rfl
@[go_sem] theorem v8:BF tt.get 70=some (.array 25 69):=by kernel_rfl
@[go_sem] theorem Nw:tt.get 71=some aX:=by kernel_rfl
@[go_sem] theorem GA:BF tt.get 71=some (.slice 144):=by kernel_rfl
@[go_sem] theorem ZW:tt.get 73=some pc:=by kernel_rfl
@[go_sem] theorem U9 {b o:Nat}:AI tt.get 73 (.pointer (some ⟨b,o,none⟩)) 0=(.pointer (some ⟨b,o,none⟩),True):=by unfold AI;rw [show AY tt.get 73 (.pointer (some ⟨b,o,none⟩)) 0=some (.pointer (some ⟨b,o,none⟩)) from by kernel_rfl]
@[go_sem] theorem Uv {b o:Nat}:AI tt.get 73 (.pointer (some ⟨b,o,none⟩)) 1=(.pointer (some ⟨b,o+1,none⟩),True):=by unfold AI;rw [show AY tt.get 73 (.pointer (some ⟨b,o,none⟩)) 1=some (.pointer (some ⟨b,o+1,none⟩)) from by kernel_rfl]
@[go_sem] theorem VX {b o:Nat}:AI tt.get 73 (.pointer (some ⟨b,o,none⟩)) 2=(.pointer (some ⟨b,o+2,none⟩),True):=by unfold AI;rw [show AY tt.get 73 (.pointer (some ⟨b,o,none⟩)) 2=some (.pointer (some ⟨b,o+2,none⟩)) from by kernel_rfl]
@[go_sem] theorem Uh {b o:Nat}:AI tt.get 73 (.pointer (some ⟨b,o,none⟩)) 3=(.pointer (some ⟨b,o+3,none⟩),True):=by unfold AI;rw [show AY tt.get 73 (.pointer (some ⟨b,o,none⟩)) 3=some (.pointer (some ⟨b,o+3,none⟩)) from by kernel_rfl]
@[go_sem] theorem Uk {b o:Nat}:AI tt.get 73 (.pointer (some ⟨b,o,none⟩)) 4=(.pointer (some ⟨b,o+4,none⟩),True):=by unfold AI;rw [show AY tt.get 73 (.pointer (some ⟨b,o,none⟩)) 4=some (.pointer (some ⟨b,o+4,none⟩)) from by kernel_rfl]
@[go_sem] theorem Uj {b o:Nat}:AI tt.get 73 (.pointer (some ⟨b,o,none⟩)) 5=(.pointer (some ⟨b,o+5,none⟩),True):=by unfold AI;rw [show AY tt.get 73 (.pointer (some ⟨b,o,none⟩)) 5=some (.pointer (some ⟨b,o+5,none⟩)) from by kernel_rfl]
@[go_sem] theorem Uc {b o:Nat}:AI tt.get 73 (.pointer (some ⟨b,o,none⟩)) 6=(.pointer (some ⟨b,o+6,none⟩),True):=by unfold AI;rw [show AY tt.get 73 (.pointer (some ⟨b,o,none⟩)) 6=some (.pointer (some ⟨b,o+6,none⟩)) from by kernel_rfl]
@[go_sem] theorem Uo {b o:Nat}:AI tt.get 73 (.pointer (some ⟨b,o,none⟩)) 7=(.pointer (some ⟨b,o+31,none⟩),True):=by unfold AI;rw [show AY tt.get 73 (.pointer (some ⟨b,o,none⟩)) 7=some (.pointer (some ⟨b,o+31,none⟩)) from by kernel_rfl]
@[go_sem] theorem VO {b o:Nat}:AI tt.get 73 (.pointer (some ⟨b,o,none⟩)) 8=(.pointer (some ⟨b,o+656,none⟩),True):=by unfold AI;rw [show AY tt.get 73 (.pointer (some ⟨b,o,none⟩)) 8=some (.pointer (some ⟨b,o+656,none⟩)) from by kernel_rfl]
@[go_sem] theorem Kv:tt.get 74=some cI:=by kernel_rfl
@[go_sem] theorem I6:BF tt.get 74=some (.slice 86):=by kernel_rfl
@[go_sem] theorem ADL:tt.get 76=some nK:=by kernel_rfl
@[go_sem] theorem zf {b o:Nat}:AI tt.get 76 (.pointer (some ⟨b,o,none⟩)) 0=(.pointer (some ⟨b,o,none⟩),True):=by unfold AI;rw [show AY tt.get 76 (.pointer (some ⟨b,o,none⟩)) 0=some (.pointer (some ⟨b,o,none⟩)) from by kernel_rfl]
@[go_sem] theorem yk {b o:Nat}:AI tt.get 76 (.pointer (some ⟨b,o,none⟩)) 1=(.pointer (some ⟨b,o+1,none⟩),True):=by unfold AI;rw [show AY tt.get 76 (.pointer (some ⟨b,o,none⟩)) 1=some (.pointer (some ⟨b,o+1,none⟩)) from by kernel_rfl]
@[go_sem] theorem Nn:tt.get 82=some bS:=by kernel_rfl
@[go_sem] theorem LA:BF tt.get 82=some (.slice 90):=by kernel_rfl
@[go_sem] theorem MQ:tt.get 86=some gJ:=by kernel_rfl
theorem qu:OB tt.get 86=some [.i64, .i64, .i64]:=by kernel_rfl
@[go_sem] theorem xD {xo yo:Operand}{x y:Value}:DI tt.get .neq 86 xo yo x y=(.bool (!GZ (B0 x) (B0 y)),x= .agg ⟨B0 x⟩∧y= .agg ⟨B0 y⟩∧EZ [.i64, .i64, .i64] (B0 x)∧EZ [.i64, .i64, .i64] (B0 y)):=MF qu
@[go_sem] theorem AAc {b o:Nat}:AI tt.get 86 (.pointer (some ⟨b,o,none⟩)) 0=(.pointer (some ⟨b,o,none⟩),True):=by unfold AI;rw [show AY tt.get 86 (.pointer (some ⟨b,o,none⟩)) 0=some (.pointer (some ⟨b,o,none⟩)) from by kernel_rfl]
@[go_sem] theorem zv {b o:Nat}:AI tt.get 86 (.pointer (some ⟨b,o,none⟩)) 1=(.pointer (some ⟨b,o+1,none⟩),True):=by unfold AI;rw [show AY tt.get 86 (.pointer (some ⟨b,o,none⟩)) 1=some (.pointer (some ⟨b,o+1,none⟩)) from by kernel_rfl]
@[go_sem] theorem zj {b o:Nat}:AI tt.get 86 (.pointer (some ⟨b,o,none⟩)) 2=(.pointer (some ⟨b,o+2,none⟩),True):=by unfold AI;rw [show AY tt.get 86 (.pointer (some ⟨b,o,none⟩)) 2=some (.pointer (some ⟨b,o+2,none⟩)) from by kernel_rfl]
@[go_sem] theorem Q8:tt.get 90=some jY:=by kernel_rfl
theorem xG:OB tt.get 90=some [.i64, .i64]:=by kernel_rfl
@[go_sem] theorem z9 {xo yo:Operand}{x y:Value}:DI tt.get .neq 90 xo yo x y=(.bool (!GZ (B0 x) (B0 y)),x= .agg ⟨B0 x⟩∧y= .agg ⟨B0 y⟩∧EZ [.i64, .i64] (B0 x)∧EZ [.i64, .i64] (B0 y)):=MF xG
@[go_sem] theorem Ow:tt.get 91=some ad:=by kernel_rfl
@[go_sem] theorem I4:BF tt.get 91=some (.map 99 3):=by kernel_rfl
@[go_sem] theorem rK {op:BinOp}{xo yo:Operand}{x y:Value}:DI tt.get op 91 xo yo x y=Jn (EG tt.get op 91 xo yo x y):=HE (by kernel_rfl)
@[go_sem] theorem fy {xo yo:Operand}{a:Option Nat}:EG tt.get .eql 91 xo yo (.map a) (.map none)=some (.bool (a.isNone)):=by cases a <;> simp [EG,NN,Ow,ad]
@[go_sem] theorem qJ {hp:Hp}{b:Nat}:C6 tt.get hp 91 (.map (some b))=(match hp b with | some (.map es _)=>(.int .i64 (Int.ofNat es.length),True) | _=>(undef,False)):=by unfold C6;simp only [I4,FD,Ow,ad];cases hp b with | none=>rfl | some o=>cases o <;> rfl
@[go_sem] theorem UA:tt.get 92=some iY:=by kernel_rfl
@[go_sem] theorem Hx:BF tt.get 92=some (.map 99 4):=by kernel_rfl
@[go_sem] theorem lO {hp:Hp}{b:Nat}:C6 tt.get hp 92 (.map (some b))=(match hp b with | some (.map es _)=>(.int .i64 (Int.ofNat es.length),True) | _=>(undef,False)):=by unfold C6;simp only [Hx,FD,UA,iY];cases hp b with | none=>rfl | some o=>cases o <;> rfl
@[go_sem] theorem Xe:tt.get 93=some iM:=by kernel_rfl
@[go_sem] theorem Iv:BF tt.get 93=some (.map 3 4):=by kernel_rfl
@[go_sem] theorem p9 {hp:Hp}{b:Nat}:C6 tt.get hp 93 (.map (some b))=(match hp b with | some (.map es _)=>(.int .i64 (Int.ofNat es.length),True) | _=>(undef,False)):=by unfold C6;simp only [Iv,FD,Xe,iM];cases hp b with | none=>rfl | some o=>cases o <;> rfl
@[go_sem] theorem r9:tt.get 94=some iU:=by kernel_rfl
@[go_sem] theorem ACo {op:BinOp}{xo yo:Operand}{x y:Value}:DI tt.get op 94 xo yo x y=Jn (EG tt.get op 94 xo yo x y):=HE (by kernel_rfl)
@[go_sem] theorem vt {xo yo:Operand}{a:Option Addr}:EG tt.get .eql 94 xo yo (.pointer a) (.pointer none)=some (.bool (a.isNone)):=by cases a <;> simp [EG,NN,r9,iU]
@[go_sem] theorem qS:tt.get 95=some fY:=by kernel_rfl
@[go_sem] theorem AC0 {op:BinOp}{xo yo:Operand}{x y:Value}:DI tt.get op 95 xo yo x y=Jn (EG tt.get op 95 xo yo x y):=HE (by kernel_rfl)
@[go_sem] theorem wM {xo yo:Operand}{a:Option Addr}:EG tt.get .eql 95 xo yo (.pointer a) (.pointer none)=some (.bool (a.isNone)):=by cases a <;> simp [EG,NN,qS,fY]
@[go_sem] theorem AAa:tt.get 97=some nV:=by kernel_rfl
@[go_sem] theorem ql {b o:Nat}:AI tt.get 97 (.pointer (some ⟨b,o,none⟩)) 0=(.pointer (some ⟨b,o,none⟩),True):=by unfold AI;rw [show AY tt.get 97 (.pointer (some ⟨b,o,none⟩)) 0=some (.pointer (some ⟨b,o,none⟩)) from by kernel_rfl]
@[go_sem] theorem uH {b o:Nat}:AI tt.get 97 (.pointer (some ⟨b,o,none⟩)) 1=(.pointer (some ⟨b,o+1,none⟩),True):=by unfold AI;rw [show AY tt.get 97 (.pointer (some ⟨b,o,none⟩)) 1=some (.pointer (some ⟨b,o+1,none⟩)) from by kernel_rfl]
@[go_sem] theorem vC {b o:Nat}:AI tt.get 97 (.pointer (some ⟨b,o,none⟩)) 2=(.pointer (some ⟨b,o+2,none⟩),True):=by unfold AI;rw [show AY tt.get 97 (.pointer (some ⟨b,o,none⟩)) 2=some (.pointer (some ⟨b,o+2,none⟩)) from by kernel_rfl]
@[go_sem] theorem vR {b o:Nat}:AI tt.get 97 (.pointer (some ⟨b,o,none⟩)) 3=(.pointer (some ⟨b,o+3,none⟩),True):=by unfold AI;rw [show AY tt.get 97 (.pointer (some ⟨b,o,none⟩)) 3=some (.pointer (some ⟨b,o+3,none⟩)) from by kernel_rfl]
@[go_sem] theorem uo {b o:Nat}:AI tt.get 97 (.pointer (some ⟨b,o,none⟩)) 4=(.pointer (some ⟨b,o+4,none⟩),True):=by unfold AI;rw [show AY tt.get 97 (.pointer (some ⟨b,o,none⟩)) 4=some (.pointer (some ⟨b,o+4,none⟩)) from by kernel_rfl]
@[go_sem] theorem rL {b o:Nat}:AI tt.get 97 (.pointer (some ⟨b,o,none⟩)) 5=(.pointer (some ⟨b,o+5,none⟩),True):=by unfold AI;rw [show AY tt.get 97 (.pointer (some ⟨b,o,none⟩)) 5=some (.pointer (some ⟨b,o+5,none⟩)) from by kernel_rfl]
@[go_sem] theorem uc {b o:Nat}:AI tt.get 97 (.pointer (some ⟨b,o,none⟩)) 6=(.pointer (some ⟨b,o+6,none⟩),True):=by unfold AI;rw [show AY tt.get 97 (.pointer (some ⟨b,o,none⟩)) 6=some (.pointer (some ⟨b,o+6,none⟩)) from by kernel_rfl]
@[go_sem] theorem uQ {b o:Nat}:AI tt.get 97 (.pointer (some ⟨b,o,none⟩)) 7=(.pointer (some ⟨b,o+7,none⟩),True):=by unfold AI;rw [show AY tt.get 97 (.pointer (some ⟨b,o,none⟩)) 7=some (.pointer (some ⟨b,o+7,none⟩)) from by kernel_rfl]
@[go_sem] theorem N3:tt.get 99=some bP:=by kernel_rfl
@[go_sem] theorem AAD {b o:Nat}:AI tt.get 99 (.pointer (some ⟨b,o,none⟩)) 0=(.pointer (some ⟨b,o,none⟩),True):=by unfold AI;rw [show AY tt.get 99 (.pointer (some ⟨b,o,none⟩)) 0=some (.pointer (some ⟨b,o,none⟩)) from by kernel_rfl]
@[go_sem] theorem z7 {b o:Nat}:AI tt.get 99 (.pointer (some ⟨b,o,none⟩)) 1=(.pointer (some ⟨b,o+1,none⟩),True):=by unfold AI;rw [show AY tt.get 99 (.pointer (some ⟨b,o,none⟩)) 1=some (.pointer (some ⟨b,o+1,none⟩)) from by kernel_rfl]
@[go_sem] theorem It:tt.get 114=some OZ:=by kernel_rfl
@[go_sem] theorem F6:BF tt.get 114=some (.slice 124):=by kernel_rfl
@[go_sem] theorem ADm:tt.get 116=some aF:=by kernel_rfl
@[go_sem] theorem AAK {b o:Nat}:AI tt.get 116 (.pointer (some ⟨b,o,none⟩)) 0=(.pointer (some ⟨b,o,none⟩),True):=by unfold AI;rw [show AY tt.get 116 (.pointer (some ⟨b,o,none⟩)) 0=some (.pointer (some ⟨b,o,none⟩)) from by kernel_rfl]
@[go_sem] theorem AAV {b o:Nat}:AI tt.get 116 (.pointer (some ⟨b,o,none⟩)) 1=(.pointer (some ⟨b,o+1,none⟩),True):=by unfold AI;rw [show AY tt.get 116 (.pointer (some ⟨b,o,none⟩)) 1=some (.pointer (some ⟨b,o+1,none⟩)) from by kernel_rfl]
@[go_sem] theorem AAf {b o:Nat}:AI tt.get 116 (.pointer (some ⟨b,o,none⟩)) 2=(.pointer (some ⟨b,o+2,none⟩),True):=by unfold AI;rw [show AY tt.get 116 (.pointer (some ⟨b,o,none⟩)) 2=some (.pointer (some ⟨b,o+2,none⟩)) from by kernel_rfl]
@[go_sem] theorem KW:tt.get 117=some Td:=by kernel_rfl
@[go_sem] theorem Fh:BF tt.get 117=some (.map 121 63):=by kernel_rfl
@[go_sem] theorem iW {op:BinOp}{xo yo:Operand}{x y:Value}:DI tt.get op 117 xo yo x y=Jn (EG tt.get op 117 xo yo x y):=HE (by kernel_rfl)
@[go_sem] theorem Yf {xo yo:Operand}{a:Option Nat}:EG tt.get .eql 117 xo yo (.map a) (.map none)=some (.bool (a.isNone)):=by cases a <;> simp [EG,NN,KW,Td]
@[go_sem] theorem dR {hp:Hp}{b:Nat}:C6 tt.get hp 117 (.map (some b))=(match hp b with | some (.map es _)=>(.int .i64 (Int.ofNat es.length),True) | _=>(undef,False)):=by unfold C6;simp only [Fh,FD,KW,Td];cases hp b with | none=>rfl | some o=>cases o <;> rfl
@[go_sem] theorem ADs:tt.get 119=some Yw:=by kernel_rfl
@[go_sem] theorem AAC {b o:Nat}:AI tt.get 119 (.pointer (some ⟨b,o,none⟩)) 0=(.pointer (some ⟨b,o,none⟩),True):=by unfold AI;rw [show AY tt.get 119 (.pointer (some ⟨b,o,none⟩)) 0=some (.pointer (some ⟨b,o,none⟩)) from by kernel_rfl]
@[go_sem] theorem AAY {b o:Nat}:AI tt.get 119 (.pointer (some ⟨b,o,none⟩)) 1=(.pointer (some ⟨b,o+1,none⟩),True):=by unfold AI;rw [show AY tt.get 119 (.pointer (some ⟨b,o,none⟩)) 1=some (.pointer (some ⟨b,o+1,none⟩)) from by kernel_rfl]
@[go_sem] theorem Kg:tt.get 121=some TM:=by kernel_rfl
@[go_sem] theorem IX:tt.get 124=some EA:=by kernel_rfl
@[go_sem] theorem zu {b o:Nat}:AI tt.get 124 (.pointer (some ⟨b,o,none⟩)) 0=(.pointer (some ⟨b,o,none⟩),True):=by unfold AI;rw [show AY tt.get 124 (.pointer (some ⟨b,o,none⟩)) 0=some (.pointer (some ⟨b,o,none⟩)) from by kernel_rfl]
@[go_sem] theorem AAQ {b o:Nat}:AI tt.get 124 (.pointer (some ⟨b,o,none⟩)) 1=(.pointer (some ⟨b,o+1,none⟩),True):=by unfold AI;rw [show AY tt.get 124 (.pointer (some ⟨b,o,none⟩)) 1=some (.pointer (some ⟨b,o+1,none⟩)) from by kernel_rfl]
@[go_sem] theorem AAh {b o:Nat}:AI tt.get 124 (.pointer (some ⟨b,o,none⟩)) 2=(.pointer (some ⟨b,o+2,none⟩),True):=by unfold AI;rw [show AY tt.get 124 (.pointer (some ⟨b,o,none⟩)) 2=some (.pointer (some ⟨b,o+2,none⟩)) from by kernel_rfl]
@[go_sem] theorem yR:tt.get 134=some UZ:=by kernel_rfl
@[go_sem] theorem AD5 {op:BinOp}{xo yo:Operand}{x y:Value}:DI tt.get op 134 xo yo x y=Jn (EG tt.get op 134 xo yo x y):=HE (by kernel_rfl)
@[go_sem] theorem zG {xo yo:Operand}{f:Fn}{x y:Array Value}:EG tt.get .eql 134 xo yo (.func f x y) .nilFunc=some (.bool (!true)):=by simp [EG,NN,yR,UZ]
@[go_sem] theorem ACR:tt.get 136=some Z0:=by kernel_rfl
@[go_sem] theorem AAt:BF tt.get 136=some (.array 25 69):=by kernel_rfl
@[go_sem] theorem NQ:tt.get 144=some UR:=by kernel_rfl
@[go_sem] theorem ae:BF tt.get 146=some (.int .u64):=by kernel_rfl
@[go_sem] theorem ADe {op:BinOp}{xo yo:Operand}{x y:Value}:DI tt.get op 146 xo yo x y=Nh op .u64 x y:=Mk ae
def Ab:Bn (Int):=⟨fun a=> [.int .i64 (a)],fun l=>intOf ((l[0]?).getD undef),1,fun _=>rfl,fun _=>rfl,fun _=>rfl⟩
instance:Ab.Plain:=⟨fun _ _=>rfl⟩
@[go_sem] theorem ADd (a:Int):Ab.enc a= [.int .i64 (a)]:=rfl
@[go_sem] theorem ADh (l:List Value):Ab.dec l=intOf ((l[0]?).getD undef):=rfl
def Bd:Bn (Bool):=⟨fun a=> [.bool (a)],fun l=>Cg ((l[0]?).getD undef),1,fun _=>rfl,fun _=>rfl,fun _=>rfl⟩
instance:Bd.Plain:=⟨fun _ _=>rfl⟩
@[go_sem] theorem ACj (a:Bool):Bd.enc a= [.bool (a)]:=rfl
@[go_sem] theorem ACv (l:List Value):Bd.dec l=Cg ((l[0]?).getD undef):=rfl
def S3:Bn (List UInt8):=⟨fun a=> [.string ⟨⟨a⟩⟩],fun l=>strOf ((l[0]?).getD undef),1,fun _=>rfl,fun _=>rfl,fun _=>rfl⟩
instance:S3.Plain:=⟨fun _ _=>rfl⟩
@[go_sem] theorem AAW (a:List UInt8):S3.enc a= [.string ⟨⟨a⟩⟩]:=rfl
@[go_sem] theorem AAL (l:List Value):S3.dec l=strOf ((l[0]?).getD undef):=rfl
structure FT where
 Bb:Int
 Ee:Int
 Second:Int
instance:Inhabited FT:=⟨⟨0,0,0⟩⟩
instance:DecidableEq FT:=fun a b=>decidable_of_iff (a.Bb=b.Bb∧a.Ee=b.Ee∧a.Second=b.Second) (by cases a;cases b;simp)
def JV:Bn (FT):=⟨fun a=> [.int .i64 (a.Bb), .int .i64 (a.Ee), .int .i64 (a.Second)],fun l=>⟨intOf ((l[0]?).getD undef),intOf ((l[1]?).getD undef),intOf ((l[2]?).getD undef)⟩,3,fun _=>rfl,fun _=>rfl,fun _=>rfl⟩
instance:JV.Plain:=⟨fun _ _=>rfl⟩
@[go_sem] theorem LF (a:FT):JV.enc a= [.int .i64 (a.Bb), .int .i64 (a.Ee), .int .i64 (a.Second)]:=rfl
@[go_sem] theorem ADO (a:FT):FT.mk a.Bb a.Ee a.Second=a:=rfl
@[go_sem] theorem ADP (l:List Value):JV.dec l=⟨intOf ((l[0]?).getD undef),intOf ((l[1]?).getD undef),intOf ((l[2]?).getD undef)⟩:=rfl
def XE:Bn (Int):=⟨fun a=> [.int .i64 (a)],fun l=>intOf ((l[0]?).getD undef),1,fun _=>rfl,fun _=>rfl,fun _=>rfl⟩
instance:XE.Plain:=⟨fun _ _=>rfl⟩
@[go_sem] theorem ACE (a:Int):XE.enc a= [.int .i64 (a)]:=rfl
@[go_sem] theorem ABy (l:List Value):XE.dec l=intOf ((l[0]?).getD undef):=rfl
def Sy:Bn (Int):=⟨fun a=> [.int .u64 (a)],fun l=>intOf ((l[0]?).getD undef),1,fun _=>rfl,fun _=>rfl,fun _=>rfl⟩
instance:Sy.Plain:=⟨fun _ _=>rfl⟩
@[go_sem] theorem AAm (a:Int):Sy.enc a= [.int .u64 (a)]:=rfl
@[go_sem] theorem z4 (l:List Value):Sy.dec l=intOf ((l[0]?).getD undef):=rfl
structure Ae where
 B2:Int
 To:Int
 Bytes:List UInt8
instance:Inhabited Ae:=⟨⟨0,0, []⟩⟩
instance:DecidableEq Ae:=fun a b=>decidable_of_iff (a.B2=b.B2∧a.To=b.To∧a.Bytes=b.Bytes) (by cases a;cases b;simp)
def AJ:Bn (Ae):=⟨fun a=> [.int .i64 (a.B2), .int .i64 (a.To), .string ⟨⟨a.Bytes⟩⟩],fun l=>⟨intOf ((l[0]?).getD undef),intOf ((l[1]?).getD undef),strOf ((l[2]?).getD undef)⟩,3,fun _=>rfl,fun _=>rfl,fun _=>rfl⟩
instance:AJ.Plain:=⟨fun _ _=>rfl⟩
@[go_sem] theorem EW (a:Ae):AJ.enc a= [.int .i64 (a.B2), .int .i64 (a.To), .string ⟨⟨a.Bytes⟩⟩]:=rfl
@[go_sem] theorem AAR (a:Ae):Ae.mk a.B2 a.To a.Bytes=a:=rfl
@[go_sem] theorem Ml (l:List Value):AJ.dec l=⟨intOf ((l[0]?).getD undef),intOf ((l[1]?).getD undef),strOf ((l[2]?).getD undef)⟩:=rfl
structure P8 where
 Hs:Iw
 Links:Iw
 NV:Iw
 Ee:Int
instance:Inhabited P8:=⟨⟨.nil, .nil, .nil,0⟩⟩
instance:DecidableEq P8:=fun a b=>decidable_of_iff (a.Hs=b.Hs∧a.Links=b.Links∧a.NV=b.NV∧a.Ee=b.Ee) (by cases a;cases b;simp)
def V3:Bn (P8):=⟨fun a=> [(a.Hs).v,(a.Links).v,(a.NV).v, .int .i64 (a.Ee)],fun l=>⟨Jh ((l[0]?).getD undef),Jh ((l[1]?).getD undef),Jh ((l[2]?).getD undef),intOf ((l[3]?).getD undef)⟩,4,fun a=>by cases a;simp [Rs],fun _=>rfl,fun _=>by simp [BD,Iw.oc,Xk,RQ,Vq]⟩
instance:V3.Ra:=⟨fun ρ a=> {a with Hs:=a.Hs.ra ρ,Links:=a.Links.ra ρ,NV:=a.NV.ra ρ},fun ρ a=>by simp [V3,Ag,Ad,XA]⟩
@[go_sem] theorem ADR (a:P8):V3.enc a= [(a.Hs).v,(a.Links).v,(a.NV).v, .int .i64 (a.Ee)]:=rfl
@[go_sem] theorem AC7 (a:P8):P8.mk a.Hs a.Links a.NV a.Ee=a:=rfl
@[go_sem] theorem ADN (l:List Value):V3.dec l=⟨Jh ((l[0]?).getD undef),Jh ((l[1]?).getD undef),Jh ((l[2]?).getD undef),intOf ((l[3]?).getD undef)⟩:=rfl
structure AX where
 A:Int
 B:Int
 C2:Int
instance:Inhabited AX:=⟨⟨0,0,0⟩⟩
instance:DecidableEq AX:=fun a b=>decidable_of_iff (a.A=b.A∧a.B=b.B∧a.C2=b.C2) (by cases a;cases b;simp)
def An:Bn (AX):=⟨fun a=> [.int .i64 (a.A), .int .i64 (a.B), .int .i64 (a.C2)],fun l=>⟨intOf ((l[0]?).getD undef),intOf ((l[1]?).getD undef),intOf ((l[2]?).getD undef)⟩,3,fun _=>rfl,fun _=>rfl,fun _=>rfl⟩
instance:An.Plain:=⟨fun _ _=>rfl⟩
@[go_sem] theorem YM (a:AX):An.enc a= [.int .i64 (a.A), .int .i64 (a.B), .int .i64 (a.C2)]:=rfl
@[go_sem] theorem ACw (a:AX):AX.mk a.A a.B a.C2=a:=rfl
@[go_sem] theorem uP (l:List Value):An.dec l=⟨intOf ((l[0]?).getD undef),intOf ((l[1]?).getD undef),intOf ((l[2]?).getD undef)⟩:=rfl
structure A8 where
 B2:Int
 To:Int
 RF:Int
 Kind:Int
 By:Int
instance:Inhabited A8:=⟨⟨0,0,0,0,0⟩⟩
instance:DecidableEq A8:=fun a b=>decidable_of_iff (a.B2=b.B2∧a.To=b.To∧a.RF=b.RF∧a.Kind=b.Kind∧a.By=b.By) (by cases a;cases b;simp)
def Ap:Bn (A8):=⟨fun a=> [.int .i64 (a.B2), .int .i64 (a.To), .int .i64 (a.RF), .int .i64 (a.Kind), .int .i64 (a.By)],fun l=>⟨intOf ((l[0]?).getD undef),intOf ((l[1]?).getD undef),intOf ((l[2]?).getD undef),intOf ((l[3]?).getD undef),intOf ((l[4]?).getD undef)⟩,5,fun _=>rfl,fun _=>rfl,fun _=>rfl⟩
instance:Ap.Plain:=⟨fun _ _=>rfl⟩
@[go_sem] theorem Kx (a:A8):Ap.enc a= [.int .i64 (a.B2), .int .i64 (a.To), .int .i64 (a.RF), .int .i64 (a.Kind), .int .i64 (a.By)]:=rfl
@[go_sem] theorem ADW (a:A8):A8.mk a.B2 a.To a.RF a.Kind a.By=a:=rfl
@[go_sem] theorem ADH (l:List Value):Ap.dec l=⟨intOf ((l[0]?).getD undef),intOf ((l[1]?).getD undef),intOf ((l[2]?).getD undef),intOf ((l[3]?).getD undef),intOf ((l[4]?).getD undef)⟩:=rfl
structure Ey where
 Kind:Int
 A:Int
 B:Int
 Bytes:List UInt8
instance:Inhabited Ey:=⟨⟨0,0,0, []⟩⟩
instance:DecidableEq Ey:=fun a b=>decidable_of_iff (a.Kind=b.Kind∧a.A=b.A∧a.B=b.B∧a.Bytes=b.Bytes) (by cases a;cases b;simp)
def DP:Bn (Ey):=⟨fun a=> [.int .i64 (a.Kind), .int .i64 (a.A), .int .i64 (a.B), .string ⟨⟨a.Bytes⟩⟩],fun l=>⟨intOf ((l[0]?).getD undef),intOf ((l[1]?).getD undef),intOf ((l[2]?).getD undef),strOf ((l[3]?).getD undef)⟩,4,fun _=>rfl,fun _=>rfl,fun _=>rfl⟩
instance:DP.Plain:=⟨fun _ _=>rfl⟩
@[go_sem] theorem AEY (a:Ey):DP.enc a= [.int .i64 (a.Kind), .int .i64 (a.A), .int .i64 (a.B), .string ⟨⟨a.Bytes⟩⟩]:=rfl
@[go_sem] theorem AEK (a:Ey):Ey.mk a.Kind a.A a.B a.Bytes=a:=rfl
@[go_sem] theorem AEP (l:List Value):DP.dec l=⟨intOf ((l[0]?).getD undef),intOf ((l[1]?).getD undef),intOf ((l[2]?).getD undef),strOf ((l[3]?).getD undef)⟩:=rfl
structure M8 where
 Q3:Iw
 RE:Iw
instance:Inhabited M8:=⟨⟨.nil, .nil⟩⟩
instance:DecidableEq M8:=fun a b=>decidable_of_iff (a.Q3=b.Q3∧a.RE=b.RE) (by cases a;cases b;simp)
def Rp:Bn (M8):=⟨fun a=> [(a.Q3).v,(a.RE).v],fun l=>⟨Jh ((l[0]?).getD undef),Jh ((l[1]?).getD undef)⟩,2,fun a=>by cases a;simp [Rs],fun _=>rfl,fun _=>by simp [BD,Iw.oc,Xk,RQ,Vq]⟩
instance:Rp.Ra:=⟨fun ρ a=> {a with Q3:=a.Q3.ra ρ,RE:=a.RE.ra ρ},fun ρ a=>by simp [Rp,Ag,Ad,XA]⟩
@[go_sem] theorem ABS (a:M8):Rp.enc a= [(a.Q3).v,(a.RE).v]:=rfl
@[go_sem] theorem ACZ (a:M8):M8.mk a.Q3 a.RE=a:=rfl
@[go_sem] theorem AB2 (l:List Value):Rp.dec l=⟨Jh ((l[0]?).getD undef),Jh ((l[1]?).getD undef)⟩:=rfl
structure BJ where
 B2:Int
 To:Int
 C2:Int
instance:Inhabited BJ:=⟨⟨0,0,0⟩⟩
instance:DecidableEq BJ:=fun a b=>decidable_of_iff (a.B2=b.B2∧a.To=b.To∧a.C2=b.C2) (by cases a;cases b;simp)
def A9:Bn (BJ):=⟨fun a=> [.int .i64 (a.B2), .int .i64 (a.To), .int .i64 (a.C2)],fun l=>⟨intOf ((l[0]?).getD undef),intOf ((l[1]?).getD undef),intOf ((l[2]?).getD undef)⟩,3,fun _=>rfl,fun _=>rfl,fun _=>rfl⟩
instance:A9.Plain:=⟨fun _ _=>rfl⟩
@[go_sem] theorem Ht (a:BJ):A9.enc a= [.int .i64 (a.B2), .int .i64 (a.To), .int .i64 (a.C2)]:=rfl
@[go_sem] theorem ACu (a:BJ):BJ.mk a.B2 a.To a.C2=a:=rfl
@[go_sem] theorem ACz (l:List Value):A9.dec l=⟨intOf ((l[0]?).getD undef),intOf ((l[1]?).getD undef),intOf ((l[2]?).getD undef)⟩:=rfl
structure Ej where
 To:Int
 C2:Int
instance:Inhabited Ej:=⟨⟨0,0⟩⟩
instance:DecidableEq Ej:=fun a b=>decidable_of_iff (a.To=b.To∧a.C2=b.C2) (by cases a;cases b;simp)
def Bw:Bn (Ej):=⟨fun a=> [.int .i64 (a.To), .int .i64 (a.C2)],fun l=>⟨intOf ((l[0]?).getD undef),intOf ((l[1]?).getD undef)⟩,2,fun _=>rfl,fun _=>rfl,fun _=>rfl⟩
instance:Bw.Plain:=⟨fun _ _=>rfl⟩
@[go_sem] theorem ADx (a:Ej):Bw.enc a= [.int .i64 (a.To), .int .i64 (a.C2)]:=rfl
@[go_sem] theorem ADy (a:Ej):Ej.mk a.To a.C2=a:=rfl
@[go_sem] theorem ADb (l:List Value):Bw.dec l=⟨intOf ((l[0]?).getD undef),intOf ((l[1]?).getD undef)⟩:=rfl
structure HZ where
 a:Int
 b:Int
instance:Inhabited HZ:=⟨⟨0,0⟩⟩
instance:DecidableEq HZ:=fun a b=>decidable_of_iff (a.a=b.a∧a.b=b.b) (by cases a;cases b;simp)
def Vn:Bn (HZ):=⟨fun a=> [.int .i64 (a.a), .int .i64 (a.b)],fun l=>⟨intOf ((l[0]?).getD undef),intOf ((l[1]?).getD undef)⟩,2,fun _=>rfl,fun _=>rfl,fun _=>rfl⟩
instance:Vn.Plain:=⟨fun _ _=>rfl⟩
@[go_sem] theorem Rd (a:HZ):Vn.enc a= [.int .i64 (a.a), .int .i64 (a.b)]:=rfl
@[go_sem] theorem ACr (a:HZ):HZ.mk a.a a.b=a:=rfl
@[go_sem] theorem ADA (l:List Value):Vn.dec l=⟨intOf ((l[0]?).getD undef),intOf ((l[1]?).getD undef)⟩:=rfl
structure QM where
 there:Bool
 last:Int
 l:Iw
instance:Inhabited QM:=⟨⟨false,0, .nil⟩⟩
instance:DecidableEq QM:=fun a b=>decidable_of_iff (a.there=b.there∧a.last=b.last∧a.l=b.l) (by cases a;cases b;simp)
def YI:Bn (QM):=⟨fun a=> [.bool (a.there), .int .i64 (a.last),(a.l).v],fun l=>⟨Cg ((l[0]?).getD undef),intOf ((l[1]?).getD undef),Jh ((l[2]?).getD undef)⟩,3,fun a=>by cases a;simp [Rs],fun _=>rfl,fun _=>by simp [BD,Iw.oc,Xk,RQ,Vq]⟩
instance:YI.Ra:=⟨fun ρ a=> {a with l:=a.l.ra ρ},fun ρ a=>by simp [YI,Ag,Ad,XA]⟩
@[go_sem] theorem ADC (a:QM):YI.enc a= [.bool (a.there), .int .i64 (a.last),(a.l).v]:=rfl
@[go_sem] theorem ACn (a:QM):QM.mk a.there a.last a.l=a:=rfl
@[go_sem] theorem ACt (l:List Value):YI.dec l=⟨Cg ((l[0]?).getD undef),intOf ((l[1]?).getD undef),Jh ((l[2]?).getD undef)⟩:=rfl
structure EK where
 from_:Int
 to:Int
 nth:Int
instance:Inhabited EK:=⟨⟨0,0,0⟩⟩
instance:DecidableEq EK:=fun a b=>decidable_of_iff (a.from_=b.from_∧a.to=b.to∧a.nth=b.nth) (by cases a;cases b;simp)
def Mt:Bn (EK):=⟨fun a=> [.int .i64 (a.from_), .int .i64 (a.to), .int .i64 (a.nth)],fun l=>⟨intOf ((l[0]?).getD undef),intOf ((l[1]?).getD undef),intOf ((l[2]?).getD undef)⟩,3,fun _=>rfl,fun _=>rfl,fun _=>rfl⟩
instance:Mt.Plain:=⟨fun _ _=>rfl⟩
@[go_sem] theorem LS (a:EK):Mt.enc a= [.int .i64 (a.from_), .int .i64 (a.to), .int .i64 (a.nth)]:=rfl
@[go_sem] theorem zR (a:EK):EK.mk a.from_ a.to a.nth=a:=rfl
@[go_sem] theorem xp (l:List Value):Mt.dec l=⟨intOf ((l[0]?).getD undef),intOf ((l[1]?).getD undef),intOf ((l[2]?).getD undef)⟩:=rfl
structure Ah where
 at_:Int
 CA:Int
 Fq:Int
 NM:Int
 Ff:List UInt8
instance:Inhabited Ah:=⟨⟨0,0,0,0, []⟩⟩
instance:DecidableEq Ah:=fun a b=>decidable_of_iff (a.at_=b.at_∧a.CA=b.CA∧a.Fq=b.Fq∧a.NM=b.NM∧a.Ff=b.Ff) (by cases a;cases b;simp)
def AP:Bn (Ah):=⟨fun a=> [.int .u64 (a.at_), .int .i64 (a.CA), .int .i64 (a.Fq), .int .i64 (a.NM), .string ⟨⟨a.Ff⟩⟩],fun l=>⟨intOf ((l[0]?).getD undef),intOf ((l[1]?).getD undef),intOf ((l[2]?).getD undef),intOf ((l[3]?).getD undef),strOf ((l[4]?).getD undef)⟩,5,fun _=>rfl,fun _=>rfl,fun _=>rfl⟩
instance:AP.Plain:=⟨fun _ _=>rfl⟩
@[go_sem] theorem Dk (a:Ah):AP.enc a= [.int .u64 (a.at_), .int .i64 (a.CA), .int .i64 (a.Fq), .int .i64 (a.NM), .string ⟨⟨a.Ff⟩⟩]:=rfl
@[go_sem] theorem tI (a:Ah):Ah.mk a.at_ a.CA a.Fq a.NM a.Ff=a:=rfl
@[go_sem] theorem ADQ (l:List Value):AP.dec l=⟨intOf ((l[0]?).getD undef),intOf ((l[1]?).getD undef),intOf ((l[2]?).getD undef),intOf ((l[3]?).getD undef),strOf ((l[4]?).getD undef)⟩:=rfl
structure D6 where
 At:Int
 HD:Int
 PY:Int
 Hq:List UInt8
instance:Inhabited D6:=⟨⟨0,0,0, []⟩⟩
instance:DecidableEq D6:=fun a b=>decidable_of_iff (a.At=b.At∧a.HD=b.HD∧a.PY=b.PY∧a.Hq=b.Hq) (by cases a;cases b;simp)
def Be:Bn (D6):=⟨fun a=> [.int .u64 (a.At), .int .i64 (a.HD), .int .i64 (a.PY), .string ⟨⟨a.Hq⟩⟩],fun l=>⟨intOf ((l[0]?).getD undef),intOf ((l[1]?).getD undef),intOf ((l[2]?).getD undef),strOf ((l[3]?).getD undef)⟩,4,fun _=>rfl,fun _=>rfl,fun _=>rfl⟩
instance:Be.Plain:=⟨fun _ _=>rfl⟩
@[go_sem] theorem wx (a:D6):Be.enc a= [.int .u64 (a.At), .int .i64 (a.HD), .int .i64 (a.PY), .string ⟨⟨a.Hq⟩⟩]:=rfl
@[go_sem] theorem ADz (a:D6):D6.mk a.At a.HD a.PY a.Hq=a:=rfl
@[go_sem] theorem yh (l:List Value):Be.dec l=⟨intOf ((l[0]?).getD undef),intOf ((l[1]?).getD undef),intOf ((l[2]?).getD undef),strOf ((l[3]?).getD undef)⟩:=rfl
def cG:Bn (Int):=⟨fun a=> [.int .u64 (a)],fun l=>intOf ((l[0]?).getD undef),1,fun _=>rfl,fun _=>rfl,fun _=>rfl⟩
instance:cG.Plain:=⟨fun _ _=>rfl⟩
@[go_sem] theorem ADU (a:Int):cG.enc a= [.int .u64 (a)]:=rfl
@[go_sem] theorem ADF (l:List Value):cG.dec l=intOf ((l[0]?).getD undef):=rfl
section
theorem Cx {hp:Hp}{v:Value}{l:List (Ae)}(h:BU AJ hp v l){hp':Hp}:C6 tt.get hp' 34 v=(.int .i64 (l.length:Int),True):=h.Hu Fe
theorem GN {hp:Hp}{v:Value}{l:List (Ae)}(h:BU AJ hp v l){k:IntKind}{n:Int}(h0:0≤n)(h1:n < l.length):BP tt.get 34 v (.int k n)=(BM v (n.toNat * 3),True):=h.idx Fe ED rfl h0 h1
theorem Je {hp:Hp}{v:Value}{l:List (Ae)}(h:BU AJ hp v l){i:Nat}(hi:i < l.length):CS tt.get hp 37 (BM v (i * 3))=(.agg ⟨AJ.enc (Aj l i)⟩,True):=h.load ED rfl rfl hi
@[go_sem] theorem x8 {hp:Hp}{x:Value}{b top:Nat}{l:List (Ae)}(h:hp b=AO AJ l)(hx:Dp AJ hp x)(hn:l.length+(AJ.rd hp x).length≤16777216):Ar tt.get hp top [34,34] (AK b l) x=some (AK top (l ++ AJ.rd hp x),Em b l top (AO AJ (l ++ AJ.rd hp x)),top+1):=Da Fe HF rfl ED rfl rfl h hx hn
@[go_sem] theorem wX {hp:Hp}{x:Value}{top:Nat}(hx:Dp AJ hp x)(hn:(AJ.rd hp x).length≤16777216):Ar tt.get hp top [34,34] (.slice none 0 0) x=some (AK top (AJ.rd hp x), [(top,AO AJ (AJ.rd hp x))],top+1):=DY Fe HF rfl ED rfl rfl hx hn
@[go_sem] theorem wJ {hp:Hp}{x:Value}{top:Nat}(hx:Dp AJ hp x)(hn:DR (AJ.rd hp x).length WW.bytes=true):Ar tt.get hp top [34,34] (.slice none 0 0) x=some (AK top (AJ.rd hp x), [(top,AO AJ (AJ.rd hp x))],top+1):=C8 Fe HF rfl ED rfl rfl hx hn
@[go_sem] theorem wL {hp:Hp}{top k:Nat}(hk:hp k=some (.cells true 3 (cellsOf (hp k))))(hc:AJ.enc (AJ.dec (cellsOf (hp k)))=cellsOf (hp k)):Ar tt.get hp top [34,34] (.slice none 0 0) (.slice (some ⟨k,0,none⟩) 1 1)=some (AK top [AJ.dec (cellsOf (hp k))], [(top,AO AJ [AJ.dec (cellsOf (hp k))])],top+1):=DB Fe HF rfl ED rfl rfl hk hc
@[go_sem] theorem yF {hp:Hp}{b top:Nat}{l l2:List (Ae)}(h:hp b=AO AJ l):hp.AZ (Em b l top (AO AJ l2))=(hp.set b none).set top (AO AJ l2):=I7 h
@[go_sem] theorem aZ {hp:Hp}{b:Nat}{l:List (Ae)}{i:Nat}(h:hp b=AO AJ l)(hi:i < l.length){a0:Int}{a1:Int}{a2:List UInt8}:Bg tt.get hp 37 (BM (AK b l) (i * 3)) (.agg ⟨[.int .i64 (a0), .int .i64 (a1), .string ⟨⟨a2⟩⟩]⟩)=([(b,AO AJ (l.set i ⟨a0,a1,a2⟩))],True):=FN (E:=AJ) (cs:=AJ.enc ⟨a0,a1,a2⟩) ED rfl h hi rfl rfl
@[go_sem] theorem uF {hp:Hp}{b:Nat}{l:List (Ae)}{i:Nat}(h:hp b=AO AJ l)(hi:i < l.length){x:Int}:Bg tt.get hp 3 (BM (AK b l) (i * 3)) (.int .i64 (x))=([(b,AO AJ (l.set i {Aj l i with B2:=x}))],True):=Bm (f:=0) B8 h hi rfl (by decide) rfl rfl
@[go_sem] theorem sK {hp:Hp}{b:Nat}{l:List (Ae)}{i:Nat}(h:hp b=AO AJ l)(hi:i < l.length){x:Int}:Bg tt.get hp 3 (BM (AK b l) (i * 3+1)) (.int .i64 (x))=([(b,AO AJ (l.set i {Aj l i with To:=x}))],True):=Bm (f:=1) B8 h hi rfl (by decide) rfl rfl
@[go_sem] theorem sV {hp:Hp}{b:Nat}{l:List (Ae)}{i:Nat}(h:hp b=AO AJ l)(hi:i < l.length){x:List UInt8}:Bg tt.get hp 9 (BM (AK b l) (i * 3+2)) (.string ⟨⟨x⟩⟩)=([(b,AO AJ (l.set i {Aj l i with Bytes:=x}))],True):=Bm (f:=2) OM h hi rfl (by decide) rfl rfl
@[go_sem] theorem xf {b:Nat}{l:List (Ae)}{hp2:Hp}:C6 tt.get hp2 34 (AK b l)=(.int .i64 (l.length:Int),True):=by cases l with | nil=>unfold C6 AK;simp only [Fe,FD,HF,cp];rfl | cons a l=>unfold C6 AK;simp only [Fe,FD,HF,cp];rfl
@[go_sem] theorem wO {hp:Hp}{b top k:Nat}{l:List (Ae)}(h:hp b=AO AJ l)(hk:hp k=some (.cells true 3 (cellsOf (hp k))))(hc:AJ.enc (AJ.dec (cellsOf (hp k)))=cellsOf (hp k))(hn:l.length < 16777216):Ar tt.get hp top [34,34] (AK b l) (.slice (some ⟨k,0,none⟩) 1 1)=some (AK top (l ++ [AJ.dec (cellsOf (hp k))]),Em b l top (AO AJ (l ++ [AJ.dec (cellsOf (hp k))])),top+1):=Fi Fe HF rfl ED rfl rfl h hk hc hn
end
section
theorem FY {hp:Hp}{v:Value}{l:List (A8)}(h:BU Ap hp v l){hp':Hp}:C6 tt.get hp' 39 v=(.int .i64 (l.length:Int),True):=h.Hu Jt
theorem JA {hp:Hp}{v:Value}{l:List (A8)}(h:BU Ap hp v l){k:IntKind}{n:Int}(h0:0≤n)(h1:n < l.length):BP tt.get 39 v (.int k n)=(BM v (n.toNat * 5),True):=h.idx Jt MR rfl h0 h1
theorem Oh {hp:Hp}{v:Value}{l:List (A8)}(h:BU Ap hp v l){i:Nat}(hi:i < l.length):CS tt.get hp 63 (BM v (i * 5))=(.agg ⟨Ap.enc (Aj l i)⟩,True):=h.load MR rfl rfl hi
theorem az {hp:Hp}{v:Value}{l:List (A8)}(h:BU Ap hp v l){i:Nat}(hi:i < l.length):AI tt.get 63 (BM v (i * 5)) 0=(BM v (i * 5),True):=h.field hi (d:=0) (fun b o=>(by kernel_rfl:AY tt.get 63 (.pointer (some ⟨b,o,none⟩)) 0=some (.pointer (some ⟨b,o+0,none⟩))))
theorem cE {hp:Hp}{v:Value}{l:List (A8)}(h:BU Ap hp v l){i:Nat}(hi:i < l.length):CS tt.get hp 3 (BM v (i * 5))=(.int .i64 ((Aj l i).B2),True):=h.cell (f:=0) B8 rfl hi (by decide)
theorem cJ {hp:Hp}{v:Value}{l:List (A8)}(h:BU Ap hp v l){i:Nat}(hi:i < l.length):AI tt.get 63 (BM v (i * 5)) 1=(BM v (i * 5+1),True):=h.field hi (d:=1) (fun b o=>(by kernel_rfl:AY tt.get 63 (.pointer (some ⟨b,o,none⟩)) 1=some (.pointer (some ⟨b,o+1,none⟩))))
theorem cf {hp:Hp}{v:Value}{l:List (A8)}(h:BU Ap hp v l){i:Nat}(hi:i < l.length):CS tt.get hp 3 (BM v (i * 5+1))=(.int .i64 ((Aj l i).To),True):=h.cell (f:=1) B8 rfl hi (by decide)
theorem cP {hp:Hp}{v:Value}{l:List (A8)}(h:BU Ap hp v l){i:Nat}(hi:i < l.length):AI tt.get 63 (BM v (i * 5)) 2=(BM v (i * 5+2),True):=h.field hi (d:=2) (fun b o=>(by kernel_rfl:AY tt.get 63 (.pointer (some ⟨b,o,none⟩)) 2=some (.pointer (some ⟨b,o+2,none⟩))))
theorem bm {hp:Hp}{v:Value}{l:List (A8)}(h:BU Ap hp v l){i:Nat}(hi:i < l.length):CS tt.get hp 3 (BM v (i * 5+2))=(.int .i64 ((Aj l i).RF),True):=h.cell (f:=2) B8 rfl hi (by decide)
@[go_sem] theorem AAs {hp:Hp}{x:Value}{b top:Nat}{l:List (A8)}(h:hp b=AO Ap l)(hx:Dp Ap hp x)(hn:l.length+(Ap.rd hp x).length≤16777216):Ar tt.get hp top [39,39] (AK b l) x=some (AK top (l ++ Ap.rd hp x),Em b l top (AO Ap (l ++ Ap.rd hp x)),top+1):=Da Jt Ms rfl MR rfl rfl h hx hn
@[go_sem] theorem AAA {hp:Hp}{x:Value}{top:Nat}(hx:Dp Ap hp x)(hn:(Ap.rd hp x).length≤16777216):Ar tt.get hp top [39,39] (.slice none 0 0) x=some (AK top (Ap.rd hp x), [(top,AO Ap (Ap.rd hp x))],top+1):=DY Jt Ms rfl MR rfl rfl hx hn
@[go_sem] theorem gq {hp:Hp}{x:Value}{top:Nat}(hx:Dp Ap hp x)(hn:DR (Ap.rd hp x).length Wu.bytes=true):Ar tt.get hp top [39,39] (.slice none 0 0) x=some (AK top (Ap.rd hp x), [(top,AO Ap (Ap.rd hp x))],top+1):=C8 Jt Ms rfl MR rfl rfl hx hn
@[go_sem] theorem zm {hp:Hp}{top k:Nat}(hk:hp k=some (.cells true 5 (cellsOf (hp k))))(hc:Ap.enc (Ap.dec (cellsOf (hp k)))=cellsOf (hp k)):Ar tt.get hp top [39,39] (.slice none 0 0) (.slice (some ⟨k,0,none⟩) 1 1)=some (AK top [Ap.dec (cellsOf (hp k))], [(top,AO Ap [Ap.dec (cellsOf (hp k))])],top+1):=DB Jt Ms rfl MR rfl rfl hk hc
@[go_sem] theorem kO {hp:Hp}{b:Nat}{l:List (A8)}{i:Nat}(h:hp b=AO Ap l)(hi:i < l.length){a0:Int}{a1:Int}{a2:Int}{a3:Int}{a4:Int}:Bg tt.get hp 63 (BM (AK b l) (i * 5)) (.agg ⟨[.int .i64 (a0), .int .i64 (a1), .int .i64 (a2), .int .i64 (a3), .int .i64 (a4)]⟩)=([(b,AO Ap (l.set i ⟨a0,a1,a2,a3,a4⟩))],True):=FN (E:=Ap) (cs:=Ap.enc ⟨a0,a1,a2,a3,a4⟩) MR rfl h hi rfl rfl
@[go_sem] theorem w9 {hp:Hp}{b:Nat}{l:List (A8)}{i:Nat}(h:hp b=AO Ap l)(hi:i < l.length){x:Int}:Bg tt.get hp 3 (BM (AK b l) (i * 5)) (.int .i64 (x))=([(b,AO Ap (l.set i {Aj l i with B2:=x}))],True):=Bm (f:=0) B8 h hi rfl (by decide) rfl rfl
@[go_sem] theorem yB {hp:Hp}{b:Nat}{l:List (A8)}{i:Nat}(h:hp b=AO Ap l)(hi:i < l.length){x:Int}:Bg tt.get hp 3 (BM (AK b l) (i * 5+1)) (.int .i64 (x))=([(b,AO Ap (l.set i {Aj l i with To:=x}))],True):=Bm (f:=1) B8 h hi rfl (by decide) rfl rfl
@[go_sem] theorem xv {hp:Hp}{b:Nat}{l:List (A8)}{i:Nat}(h:hp b=AO Ap l)(hi:i < l.length){x:Int}:Bg tt.get hp 3 (BM (AK b l) (i * 5+2)) (.int .i64 (x))=([(b,AO Ap (l.set i {Aj l i with RF:=x}))],True):=Bm (f:=2) B8 h hi rfl (by decide) rfl rfl
@[go_sem] theorem xm {hp:Hp}{b:Nat}{l:List (A8)}{i:Nat}(h:hp b=AO Ap l)(hi:i < l.length){x:Int}:Bg tt.get hp 3 (BM (AK b l) (i * 5+3)) (.int .i64 (x))=([(b,AO Ap (l.set i {Aj l i with Kind:=x}))],True):=Bm (f:=3) B8 h hi rfl (by decide) rfl rfl
@[go_sem] theorem zd {hp:Hp}{b:Nat}{l:List (A8)}{i:Nat}(h:hp b=AO Ap l)(hi:i < l.length){x:Int}:Bg tt.get hp 3 (BM (AK b l) (i * 5+4)) (.int .i64 (x))=([(b,AO Ap (l.set i {Aj l i with By:=x}))],True):=Bm (f:=4) B8 h hi rfl (by decide) rfl rfl
@[go_sem] theorem ABv {b:Nat}{l:List (A8)}{hp2:Hp}:C6 tt.get hp2 39 (AK b l)=(.int .i64 (l.length:Int),True):=by cases l with | nil=>unfold C6 AK;simp only [Jt,FD,Ms,cR];rfl | cons a l=>unfold C6 AK;simp only [Jt,FD,Ms,cR];rfl
end
section
theorem Bs {hp:Hp}{v:Value}{l:List (Int)}(h:BU Ab hp v l){hp':Hp}:C6 tt.get hp' 40 v=(.int .i64 (l.length:Int),True):=h.Hu HH
theorem CN {hp:Hp}{v:Value}{l:List (Int)}(h:BU Ab hp v l){k:IntKind}{n:Int}(h0:0≤n)(h1:n < l.length):BP tt.get 40 v (.int k n)=(BM v (n.toNat * 1),True):=h.idx HH B8 rfl h0 h1
theorem DM {hp:Hp}{v:Value}{l:List (Int)}(h:BU Ab hp v l){i:Nat}(hi:i < l.length):CS tt.get hp 3 (BM v (i * 1))=(.int .i64 (Aj l i),True):=h.cell (f:=0) B8 rfl hi (by decide)
theorem Xf {hp:Hp}{v:Value}{l:List (Int)}(h:BU Ab hp v l){k:IntKind}{n:Int}(h0:0≤n)(h1:n≤l.length):DU tt.get hp 40 v none (some (.int k n))=(Pv 1 v 0 n.toNat,True):=h.ABE HH B8 h0 h1
@[go_sem] theorem ACm {hp:Hp}{x:Value}{b top:Nat}{l:List (Int)}(h:hp b=AO Ab l)(hx:Dp Ab hp x)(hn:l.length+(Ab.rd hp x).length≤16777216):Ar tt.get hp top [40,40] (AK b l) x=some (AK top (l ++ Ab.rd hp x),Em b l top (AO Ab (l ++ Ab.rd hp x)),top+1):=Da HH Kw rfl B8 rfl rfl h hx hn
@[go_sem] theorem ABN {hp:Hp}{x:Value}{top:Nat}(hx:Dp Ab hp x)(hn:(Ab.rd hp x).length≤16777216):Ar tt.get hp top [40,40] (.slice none 0 0) x=some (AK top (Ab.rd hp x), [(top,AO Ab (Ab.rd hp x))],top+1):=DY HH Kw rfl B8 rfl rfl hx hn
@[go_sem] theorem pK {hp:Hp}{x:Value}{top:Nat}(hx:Dp Ab hp x)(hn:DR (Ab.rd hp x).length Ph.bytes=true):Ar tt.get hp top [40,40] (.slice none 0 0) x=some (AK top (Ab.rd hp x), [(top,AO Ab (Ab.rd hp x))],top+1):=C8 HH Kw rfl B8 rfl rfl hx hn
@[go_sem] theorem ACa {hp:Hp}{top k:Nat}(hk:hp k=some (.cells true 1 (cellsOf (hp k))))(hc:Ab.enc (Ab.dec (cellsOf (hp k)))=cellsOf (hp k)):Ar tt.get hp top [40,40] (.slice none 0 0) (.slice (some ⟨k,0,none⟩) 1 1)=some (AK top [Ab.dec (cellsOf (hp k))], [(top,AO Ab [Ab.dec (cellsOf (hp k))])],top+1):=DB HH Kw rfl B8 rfl rfl hk hc
@[go_sem] theorem ADM {hp:Hp}{b top:Nat}{l l2:List (Int)}(h:hp b=AO Ab l):hp.AZ (Em b l top (AO Ab l2))=(hp.set b none).set top (AO Ab l2):=I7 h
@[go_sem] theorem rH {hp:Hp}{b:Nat}{l:List (Int)}{i:Nat}(h:hp b=AO Ab l)(hi:i < l.length){x:Int}:Bg tt.get hp 3 (BM (AK b l) (i * 1)) (.int .i64 (x))=([(b,AO Ab (l.set i x))],True):=Bm (f:=0) B8 h hi rfl (by decide) rfl rfl
@[go_sem] theorem ADE {b:Nat}{l:List (Int)}{hp2:Hp}:C6 tt.get hp2 40 (AK b l)=(.int .i64 (l.length:Int),True):=by cases l with | nil=>unfold C6 AK;simp only [HH,FD,Kw,Xb];rfl | cons a l=>unfold C6 AK;simp only [HH,FD,Kw,Xb];rfl
@[go_sem] theorem ABu {hp:Hp}{b top k:Nat}{l:List (Int)}(h:hp b=AO Ab l)(hk:hp k=some (.cells true 1 (cellsOf (hp k))))(hc:Ab.enc (Ab.dec (cellsOf (hp k)))=cellsOf (hp k))(hn:l.length < 16777216):Ar tt.get hp top [40,40] (AK b l) (.slice (some ⟨k,0,none⟩) 1 1)=some (AK top (l ++ [Ab.dec (cellsOf (hp k))]),Em b l top (AO Ab (l ++ [Ab.dec (cellsOf (hp k))])),top+1):=Fi HH Kw rfl B8 rfl rfl h hk hc hn
end
section
theorem CB {hp:Hp}{v:Value}{l:List (AX)}(h:BU An hp v l){hp':Hp}:C6 tt.get hp' 50 v=(.int .i64 (l.length:Int),True):=h.Hu Ir
theorem B4 {hp:Hp}{v:Value}{l:List (AX)}(h:BU An hp v l){k:IntKind}{n:Int}(h0:0≤n)(h1:n < l.length):BP tt.get 50 v (.int k n)=(BM v (n.toNat * 3),True):=h.idx Ir Lv rfl h0 h1
theorem DN {hp:Hp}{v:Value}{l:List (AX)}(h:BU An hp v l){i:Nat}(hi:i < l.length):CS tt.get hp 61 (BM v (i * 3))=(.agg ⟨An.enc (Aj l i)⟩,True):=h.load Lv rfl rfl hi
theorem Ha {hp:Hp}{v:Value}{l:List (AX)}(h:BU An hp v l){i:Nat}(hi:i < l.length):AI tt.get 61 (BM v (i * 3)) 0=(BM v (i * 3),True):=h.field hi (d:=0) (fun b o=>(by kernel_rfl:AY tt.get 61 (.pointer (some ⟨b,o,none⟩)) 0=some (.pointer (some ⟨b,o+0,none⟩))))
theorem Hg {hp:Hp}{v:Value}{l:List (AX)}(h:BU An hp v l){i:Nat}(hi:i < l.length):CS tt.get hp 3 (BM v (i * 3))=(.int .i64 ((Aj l i).A),True):=h.cell (f:=0) B8 rfl hi (by decide)
theorem HM {hp:Hp}{v:Value}{l:List (AX)}(h:BU An hp v l){i:Nat}(hi:i < l.length):AI tt.get 61 (BM v (i * 3)) 1=(BM v (i * 3+1),True):=h.field hi (d:=1) (fun b o=>(by kernel_rfl:AY tt.get 61 (.pointer (some ⟨b,o,none⟩)) 1=some (.pointer (some ⟨b,o+1,none⟩))))
theorem HG {hp:Hp}{v:Value}{l:List (AX)}(h:BU An hp v l){i:Nat}(hi:i < l.length):CS tt.get hp 3 (BM v (i * 3+1))=(.int .i64 ((Aj l i).B),True):=h.cell (f:=1) B8 rfl hi (by decide)
theorem cC {hp:Hp}{v:Value}{l:List (AX)}(h:BU An hp v l){i:Nat}(hi:i < l.length):AI tt.get 61 (BM v (i * 3)) 2=(BM v (i * 3+2),True):=h.field hi (d:=2) (fun b o=>(by kernel_rfl:AY tt.get 61 (.pointer (some ⟨b,o,none⟩)) 2=some (.pointer (some ⟨b,o+2,none⟩))))
theorem a6 {hp:Hp}{v:Value}{l:List (AX)}(h:BU An hp v l){i:Nat}(hi:i < l.length):CS tt.get hp 3 (BM v (i * 3+2))=(.int .i64 ((Aj l i).C2),True):=h.cell (f:=2) B8 rfl hi (by decide)
@[go_sem] theorem AA4 {hp:Hp}{x:Value}{b top:Nat}{l:List (AX)}(h:hp b=AO An l)(hx:Dp An hp x)(hn:l.length+(An.rd hp x).length≤16777216):Ar tt.get hp top [50,50] (AK b l) x=some (AK top (l ++ An.rd hp x),Em b l top (AO An (l ++ An.rd hp x)),top+1):=Da Ir LV rfl Lv rfl rfl h hx hn
@[go_sem] theorem zo {hp:Hp}{x:Value}{top:Nat}(hx:Dp An hp x)(hn:(An.rd hp x).length≤16777216):Ar tt.get hp top [50,50] (.slice none 0 0) x=some (AK top (An.rd hp x), [(top,AO An (An.rd hp x))],top+1):=DY Ir LV rfl Lv rfl rfl hx hn
@[go_sem] theorem gp {hp:Hp}{x:Value}{top:Nat}(hx:Dp An hp x)(hn:DR (An.rd hp x).length ZY.bytes=true):Ar tt.get hp top [50,50] (.slice none 0 0) x=some (AK top (An.rd hp x), [(top,AO An (An.rd hp x))],top+1):=C8 Ir LV rfl Lv rfl rfl hx hn
@[go_sem] theorem AAP {hp:Hp}{top k:Nat}(hk:hp k=some (.cells true 3 (cellsOf (hp k))))(hc:An.enc (An.dec (cellsOf (hp k)))=cellsOf (hp k)):Ar tt.get hp top [50,50] (.slice none 0 0) (.slice (some ⟨k,0,none⟩) 1 1)=some (AK top [An.dec (cellsOf (hp k))], [(top,AO An [An.dec (cellsOf (hp k))])],top+1):=DB Ir LV rfl Lv rfl rfl hk hc
@[go_sem] theorem AAw {hp:Hp}{b top:Nat}{l l2:List (AX)}(h:hp b=AO An l):hp.AZ (Em b l top (AO An l2))=(hp.set b none).set top (AO An l2):=I7 h
@[go_sem] theorem pF {hp:Hp}{b:Nat}{l:List (AX)}{i:Nat}(h:hp b=AO An l)(hi:i < l.length){a0:Int}{a1:Int}{a2:Int}:Bg tt.get hp 61 (BM (AK b l) (i * 3)) (.agg ⟨[.int .i64 (a0), .int .i64 (a1), .int .i64 (a2)]⟩)=([(b,AO An (l.set i ⟨a0,a1,a2⟩))],True):=FN (E:=An) (cs:=An.enc ⟨a0,a1,a2⟩) Lv rfl h hi rfl rfl
@[go_sem] theorem xY {hp:Hp}{b:Nat}{l:List (AX)}{i:Nat}(h:hp b=AO An l)(hi:i < l.length){x:Int}:Bg tt.get hp 3 (BM (AK b l) (i * 3)) (.int .i64 (x))=([(b,AO An (l.set i {Aj l i with A:=x}))],True):=Bm (f:=0) B8 h hi rfl (by decide) rfl rfl
@[go_sem] theorem ze {hp:Hp}{b:Nat}{l:List (AX)}{i:Nat}(h:hp b=AO An l)(hi:i < l.length){x:Int}:Bg tt.get hp 3 (BM (AK b l) (i * 3+1)) (.int .i64 (x))=([(b,AO An (l.set i {Aj l i with B:=x}))],True):=Bm (f:=1) B8 h hi rfl (by decide) rfl rfl
@[go_sem] theorem yQ {hp:Hp}{b:Nat}{l:List (AX)}{i:Nat}(h:hp b=AO An l)(hi:i < l.length){x:Int}:Bg tt.get hp 3 (BM (AK b l) (i * 3+2)) (.int .i64 (x))=([(b,AO An (l.set i {Aj l i with C2:=x}))],True):=Bm (f:=2) B8 h hi rfl (by decide) rfl rfl
@[go_sem] theorem ACQ {b:Nat}{l:List (AX)}{hp2:Hp}:C6 tt.get hp2 50 (AK b l)=(.int .i64 (l.length:Int),True):=by cases l with | nil=>unfold C6 AK;simp only [Ir,FD,LV,cZ];rfl | cons a l=>unfold C6 AK;simp only [Ir,FD,LV,cZ];rfl
@[go_sem] theorem z8 {hp:Hp}{b top k:Nat}{l:List (AX)}(h:hp b=AO An l)(hk:hp k=some (.cells true 3 (cellsOf (hp k))))(hc:An.enc (An.dec (cellsOf (hp k)))=cellsOf (hp k))(hn:l.length < 16777216):Ar tt.get hp top [50,50] (AK b l) (.slice (some ⟨k,0,none⟩) 1 1)=some (AK top (l ++ [An.dec (cellsOf (hp k))]),Em b l top (AO An (l ++ [An.dec (cellsOf (hp k))])),top+1):=Fi Ir LV rfl Lv rfl rfl h hk hc hn
end
section
theorem dz {hp:Hp}{v:Value}{l:List (Ey)}(h:BU DP hp v l){hp':Hp}:C6 tt.get hp' 53 v=(.int .i64 (l.length:Int),True):=h.Hu Qs
theorem vN {hp:Hp}{v:Value}{l:List (Ey)}(h:BU DP hp v l){k:IntKind}{n:Int}(h0:0≤n)(h1:n < l.length):BP tt.get 53 v (.int k n)=(BM v (n.toNat * 4),True):=h.idx Qs bq rfl h0 h1
theorem zP {hp:Hp}{v:Value}{l:List (Ey)}(h:BU DP hp v l){i:Nat}(hi:i < l.length):CS tt.get hp 66 (BM v (i * 4))=(.agg ⟨DP.enc (Aj l i)⟩,True):=h.load bq rfl rfl hi
@[go_sem] theorem ADY {hp:Hp}{x:Value}{b top:Nat}{l:List (Ey)}(h:hp b=AO DP l)(hx:Dp DP hp x)(hn:l.length+(DP.rd hp x).length≤16777216):Ar tt.get hp top [53,53] (AK b l) x=some (AK top (l ++ DP.rd hp x),Em b l top (AO DP (l ++ DP.rd hp x)),top+1):=Da Qs Ui rfl bq rfl rfl h hx hn
@[go_sem] theorem ACl {hp:Hp}{x:Value}{top:Nat}(hx:Dp DP hp x)(hn:(DP.rd hp x).length≤16777216):Ar tt.get hp top [53,53] (.slice none 0 0) x=some (AK top (DP.rd hp x), [(top,AO DP (DP.rd hp x))],top+1):=DY Qs Ui rfl bq rfl rfl hx hn
@[go_sem] theorem ACx {hp:Hp}{x:Value}{top:Nat}(hx:Dp DP hp x)(hn:DR (DP.rd hp x).length iz.bytes=true):Ar tt.get hp top [53,53] (.slice none 0 0) x=some (AK top (DP.rd hp x), [(top,AO DP (DP.rd hp x))],top+1):=C8 Qs Ui rfl bq rfl rfl hx hn
@[go_sem] theorem ADB {hp:Hp}{top k:Nat}(hk:hp k=some (.cells true 4 (cellsOf (hp k))))(hc:DP.enc (DP.dec (cellsOf (hp k)))=cellsOf (hp k)):Ar tt.get hp top [53,53] (.slice none 0 0) (.slice (some ⟨k,0,none⟩) 1 1)=some (AK top [DP.dec (cellsOf (hp k))], [(top,AO DP [DP.dec (cellsOf (hp k))])],top+1):=DB Qs Ui rfl bq rfl rfl hk hc
@[go_sem] theorem ADj {hp:Hp}{b:Nat}{l:List (Ey)}{i:Nat}(h:hp b=AO DP l)(hi:i < l.length){a0:Int}{a1:Int}{a2:Int}{a3:List UInt8}:Bg tt.get hp 66 (BM (AK b l) (i * 4)) (.agg ⟨[.int .i64 (a0), .int .i64 (a1), .int .i64 (a2), .string ⟨⟨a3⟩⟩]⟩)=([(b,AO DP (l.set i ⟨a0,a1,a2,a3⟩))],True):=FN (E:=DP) (cs:=DP.enc ⟨a0,a1,a2,a3⟩) bq rfl h hi rfl rfl
@[go_sem] theorem ACL {hp:Hp}{b:Nat}{l:List (Ey)}{i:Nat}(h:hp b=AO DP l)(hi:i < l.length){x:Int}:Bg tt.get hp 3 (BM (AK b l) (i * 4)) (.int .i64 (x))=([(b,AO DP (l.set i {Aj l i with Kind:=x}))],True):=Bm (f:=0) B8 h hi rfl (by decide) rfl rfl
@[go_sem] theorem AB5 {hp:Hp}{b:Nat}{l:List (Ey)}{i:Nat}(h:hp b=AO DP l)(hi:i < l.length){x:Int}:Bg tt.get hp 3 (BM (AK b l) (i * 4+1)) (.int .i64 (x))=([(b,AO DP (l.set i {Aj l i with A:=x}))],True):=Bm (f:=1) B8 h hi rfl (by decide) rfl rfl
@[go_sem] theorem ABM {hp:Hp}{b:Nat}{l:List (Ey)}{i:Nat}(h:hp b=AO DP l)(hi:i < l.length){x:Int}:Bg tt.get hp 3 (BM (AK b l) (i * 4+2)) (.int .i64 (x))=([(b,AO DP (l.set i {Aj l i with B:=x}))],True):=Bm (f:=2) B8 h hi rfl (by decide) rfl rfl
@[go_sem] theorem ABZ {hp:Hp}{b:Nat}{l:List (Ey)}{i:Nat}(h:hp b=AO DP l)(hi:i < l.length){x:List UInt8}:Bg tt.get hp 9 (BM (AK b l) (i * 4+3)) (.string ⟨⟨x⟩⟩)=([(b,AO DP (l.set i {Aj l i with Bytes:=x}))],True):=Bm (f:=3) OM h hi rfl (by decide) rfl rfl
@[go_sem] theorem AEC {b:Nat}{l:List (Ey)}{hp2:Hp}:C6 tt.get hp2 53 (AK b l)=(.int .i64 (l.length:Int),True):=by cases l with | nil=>unfold C6 AK;simp only [Qs,FD,Ui,bR];rfl | cons a l=>unfold C6 AK;simp only [Qs,FD,Ui,bR];rfl
end
section
theorem P7 {hp:Hp}{v:Value}{l:List (Bool)}(h:BU Bd hp v l){k:IntKind}{n:Int}(h0:0≤n)(h1:n < l.length):BP tt.get 67 v (.int k n)=(BM v (n.toNat * 1),True):=h.idx LG LK rfl h0 h1
theorem TT {hp:Hp}{v:Value}{l:List (Bool)}(h:BU Bd hp v l){i:Nat}(hi:i < l.length):CS tt.get hp 4 (BM v (i * 1))=(.bool (Aj l i),True):=h.cell (f:=0) LK rfl hi (by decide)
@[go_sem] theorem ABH {hp:Hp}{x:Value}{b top:Nat}{l:List (Bool)}(h:hp b=AO Bd l)(hx:Dp Bd hp x)(hn:l.length+(Bd.rd hp x).length≤16777216):Ar tt.get hp top [67,67] (AK b l) x=some (AK top (l ++ Bd.rd hp x),Em b l top (AO Bd (l ++ Bd.rd hp x)),top+1):=Da LG Mu rfl LK rfl rfl h hx hn
@[go_sem] theorem AAE {hp:Hp}{x:Value}{top:Nat}(hx:Dp Bd hp x)(hn:(Bd.rd hp x).length≤16777216):Ar tt.get hp top [67,67] (.slice none 0 0) x=some (AK top (Bd.rd hp x), [(top,AO Bd (Bd.rd hp x))],top+1):=DY LG Mu rfl LK rfl rfl hx hn
@[go_sem] theorem AAB {hp:Hp}{x:Value}{top:Nat}(hx:Dp Bd hp x)(hn:DR (Bd.rd hp x).length wA.bytes=true):Ar tt.get hp top [67,67] (.slice none 0 0) x=some (AK top (Bd.rd hp x), [(top,AO Bd (Bd.rd hp x))],top+1):=C8 LG Mu rfl LK rfl rfl hx hn
@[go_sem] theorem zl {hp:Hp}{top k:Nat}(hk:hp k=some (.cells true 1 (cellsOf (hp k))))(hc:Bd.enc (Bd.dec (cellsOf (hp k)))=cellsOf (hp k)):Ar tt.get hp top [67,67] (.slice none 0 0) (.slice (some ⟨k,0,none⟩) 1 1)=some (AK top [Bd.dec (cellsOf (hp k))], [(top,AO Bd [Bd.dec (cellsOf (hp k))])],top+1):=DB LG Mu rfl LK rfl rfl hk hc
@[go_sem] theorem Zz {hp:Hp}{b:Nat}{l:List (Bool)}{i:Nat}(h:hp b=AO Bd l)(hi:i < l.length){x:Bool}:Bg tt.get hp 4 (BM (AK b l) (i * 1)) (.bool (x))=([(b,AO Bd (l.set i x))],True):=Bm (f:=0) LK h hi rfl (by decide) rfl rfl
@[go_sem] theorem ABG {b:Nat}{l:List (Bool)}{hp2:Hp}:C6 tt.get hp2 67 (AK b l)=(.int .i64 (l.length:Int),True):=by cases l with | nil=>unfold C6 AK;simp only [LG,FD,Mu,bM];rfl | cons a l=>unfold C6 AK;simp only [LG,FD,Mu,bM];rfl
end
section
theorem FG {hp:Hp}{v:Value}{l:List (D6)}(h:BU Be hp v l){hp':Hp}:C6 tt.get hp' 71 v=(.int .i64 (l.length:Int),True):=h.Hu GA
theorem KY {hp:Hp}{v:Value}{l:List (D6)}(h:BU Be hp v l){k:IntKind}{n:Int}(h0:0≤n)(h1:n < l.length):BP tt.get 71 v (.int k n)=(BM v (n.toNat * 4),True):=h.idx GA NQ rfl h0 h1
theorem sw {hp:Hp}{v:Value}{l:List (D6)}(h:BU Be hp v l){i:Nat}(hi:i < l.length):CS tt.get hp 144 (BM v (i * 4))=(.agg ⟨Be.enc (Aj l i)⟩,True):=h.load NQ rfl rfl hi
theorem Qd {hp:Hp}{v:Value}{l:List (D6)}(h:BU Be hp v l){i:Nat}(hi:i < l.length):AI tt.get 144 (BM v (i * 4)) 0=(BM v (i * 4),True):=h.field hi (d:=0) (fun b o=>(by kernel_rfl:AY tt.get 144 (.pointer (some ⟨b,o,none⟩)) 0=some (.pointer (some ⟨b,o+0,none⟩))))
theorem PZ {hp:Hp}{v:Value}{l:List (D6)}(h:BU Be hp v l){i:Nat}(hi:i < l.length):CS tt.get hp 32 (BM v (i * 4))=(.int .u64 ((Aj l i).At),True):=h.cell (f:=0) Rx rfl hi (by decide)
theorem Qi {hp:Hp}{v:Value}{l:List (D6)}(h:BU Be hp v l){i:Nat}(hi:i < l.length):AI tt.get 144 (BM v (i * 4)) 1=(BM v (i * 4+1),True):=h.field hi (d:=1) (fun b o=>(by kernel_rfl:AY tt.get 144 (.pointer (some ⟨b,o,none⟩)) 1=some (.pointer (some ⟨b,o+1,none⟩))))
theorem dQ {hp:Hp}{v:Value}{l:List (D6)}(h:BU Be hp v l){k:IntKind}{n:Int}(h0:0≤n)(h1:n≤l.length):DU tt.get hp 71 v none (some (.int k n))=(Pv 4 v 0 n.toNat,True):=h.ABE GA NQ h0 h1
theorem YC {hp:Hp}{v:Value}{l:List (D6)}(h:BU Be hp v l){k:IntKind}{n:Int}(h0:0≤n)(h1:n≤l.length):DU tt.get hp 71 v (some (.int k n)) none=(Mb 4 v n.toNat,True):=h.ABi GA NQ rfl h0 h1
@[go_sem] theorem ADG {hp:Hp}{x:Value}{b top:Nat}{l:List (D6)}(h:hp b=AO Be l)(hx:Dp Be hp x)(hn:l.length+(Be.rd hp x).length≤16777216):Ar tt.get hp top [71,71] (AK b l) x=some (AK top (l ++ Be.rd hp x),Em b l top (AO Be (l ++ Be.rd hp x)),top+1):=Da GA Nw rfl NQ rfl rfl h hx hn
@[go_sem] theorem ABg {hp:Hp}{x:Value}{top:Nat}(hx:Dp Be hp x)(hn:(Be.rd hp x).length≤16777216):Ar tt.get hp top [71,71] (.slice none 0 0) x=some (AK top (Be.rd hp x), [(top,AO Be (Be.rd hp x))],top+1):=DY GA Nw rfl NQ rfl rfl hx hn
@[go_sem] theorem ABc {hp:Hp}{x:Value}{top:Nat}(hx:Dp Be hp x)(hn:DR (Be.rd hp x).length UR.bytes=true):Ar tt.get hp top [71,71] (.slice none 0 0) x=some (AK top (Be.rd hp x), [(top,AO Be (Be.rd hp x))],top+1):=C8 GA Nw rfl NQ rfl rfl hx hn
@[go_sem] theorem ACS {hp:Hp}{top k:Nat}(hk:hp k=some (.cells true 4 (cellsOf (hp k))))(hc:Be.enc (Be.dec (cellsOf (hp k)))=cellsOf (hp k)):Ar tt.get hp top [71,71] (.slice none 0 0) (.slice (some ⟨k,0,none⟩) 1 1)=some (AK top [Be.dec (cellsOf (hp k))], [(top,AO Be [Be.dec (cellsOf (hp k))])],top+1):=DB GA Nw rfl NQ rfl rfl hk hc
@[go_sem] theorem ADJ {hp:Hp}{b top:Nat}{l l2:List (D6)}(h:hp b=AO Be l):hp.AZ (Em b l top (AO Be l2))=(hp.set b none).set top (AO Be l2):=I7 h
@[go_sem] theorem AC6 {hp:Hp}{b:Nat}{l:List (D6)}{i:Nat}(h:hp b=AO Be l)(hi:i < l.length){a0:Int}{a1:Int}{a2:Int}{a3:List UInt8}:Bg tt.get hp 144 (BM (AK b l) (i * 4)) (.agg ⟨[.int .u64 (a0), .int .i64 (a1), .int .i64 (a2), .string ⟨⟨a3⟩⟩]⟩)=([(b,AO Be (l.set i ⟨a0,a1,a2,a3⟩))],True):=FN (E:=Be) (cs:=Be.enc ⟨a0,a1,a2,a3⟩) NQ rfl h hi rfl rfl
@[go_sem] theorem zr {hp:Hp}{b:Nat}{l:List (D6)}{i:Nat}(h:hp b=AO Be l)(hi:i < l.length){x:Int}:Bg tt.get hp 32 (BM (AK b l) (i * 4)) (.int .u64 (x))=([(b,AO Be (l.set i {Aj l i with At:=x}))],True):=Bm (f:=0) Rx h hi rfl (by decide) rfl rfl
@[go_sem] theorem ADI {b:Nat}{l:List (D6)}{hp2:Hp}:C6 tt.get hp2 71 (AK b l)=(.int .i64 (l.length:Int),True):=by cases l with | nil=>unfold C6 AK;simp only [GA,FD,Nw,aX];rfl | cons a l=>unfold C6 AK;simp only [GA,FD,Nw,aX];rfl
@[go_sem] theorem AAq {hp:Hp}{b top k:Nat}{l:List (D6)}(h:hp b=AO Be l)(hk:hp k=some (.cells true 4 (cellsOf (hp k))))(hc:Be.enc (Be.dec (cellsOf (hp k)))=cellsOf (hp k))(hn:l.length < 16777216):Ar tt.get hp top [71,71] (AK b l) (.slice (some ⟨k,0,none⟩) 1 1)=some (AK top (l ++ [Be.dec (cellsOf (hp k))]),Em b l top (AO Be (l ++ [Be.dec (cellsOf (hp k))])),top+1):=Fi GA Nw rfl NQ rfl rfl h hk hc hn
end
section
theorem B9 {hp:Hp}{v:Value}{l:List (BJ)}(h:BU A9 hp v l){hp':Hp}:C6 tt.get hp' 74 v=(.int .i64 (l.length:Int),True):=h.Hu I6
theorem Dn {hp:Hp}{v:Value}{l:List (BJ)}(h:BU A9 hp v l){k:IntKind}{n:Int}(h0:0≤n)(h1:n < l.length):BP tt.get 74 v (.int k n)=(BM v (n.toNat * 3),True):=h.idx I6 MQ rfl h0 h1
theorem Ez {hp:Hp}{v:Value}{l:List (BJ)}(h:BU A9 hp v l){i:Nat}(hi:i < l.length):CS tt.get hp 86 (BM v (i * 3))=(.agg ⟨A9.enc (Aj l i)⟩,True):=h.load MQ rfl rfl hi
theorem TX {hp:Hp}{v:Value}{l:List (BJ)}(h:BU A9 hp v l){i:Nat}(hi:i < l.length):AI tt.get 86 (BM v (i * 3)) 0=(BM v (i * 3),True):=h.field hi (d:=0) (fun b o=>(by kernel_rfl:AY tt.get 86 (.pointer (some ⟨b,o,none⟩)) 0=some (.pointer (some ⟨b,o+0,none⟩))))
theorem Se {hp:Hp}{v:Value}{l:List (BJ)}(h:BU A9 hp v l){i:Nat}(hi:i < l.length):CS tt.get hp 3 (BM v (i * 3))=(.int .i64 ((Aj l i).B2),True):=h.cell (f:=0) B8 rfl hi (by decide)
theorem cu {hp:Hp}{v:Value}{l:List (BJ)}(h:BU A9 hp v l){i:Nat}(hi:i < l.length):AI tt.get 86 (BM v (i * 3)) 1=(BM v (i * 3+1),True):=h.field hi (d:=1) (fun b o=>(by kernel_rfl:AY tt.get 86 (.pointer (some ⟨b,o,none⟩)) 1=some (.pointer (some ⟨b,o+1,none⟩))))
theorem bG {hp:Hp}{v:Value}{l:List (BJ)}(h:BU A9 hp v l){i:Nat}(hi:i < l.length):CS tt.get hp 3 (BM v (i * 3+1))=(.int .i64 ((Aj l i).To),True):=h.cell (f:=1) B8 rfl hi (by decide)
theorem a5 {hp:Hp}{v:Value}{l:List (BJ)}(h:BU A9 hp v l){i:Nat}(hi:i < l.length):AI tt.get 86 (BM v (i * 3)) 2=(BM v (i * 3+2),True):=h.field hi (d:=2) (fun b o=>(by kernel_rfl:AY tt.get 86 (.pointer (some ⟨b,o,none⟩)) 2=some (.pointer (some ⟨b,o+2,none⟩))))
theorem bp {hp:Hp}{v:Value}{l:List (BJ)}(h:BU A9 hp v l){i:Nat}(hi:i < l.length):CS tt.get hp 3 (BM v (i * 3+2))=(.int .i64 ((Aj l i).C2),True):=h.cell (f:=2) B8 rfl hi (by decide)
@[go_sem] theorem ACO {hp:Hp}{x:Value}{b top:Nat}{l:List (BJ)}(h:hp b=AO A9 l)(hx:Dp A9 hp x)(hn:l.length+(A9.rd hp x).length≤16777216):Ar tt.get hp top [74,74] (AK b l) x=some (AK top (l ++ A9.rd hp x),Em b l top (AO A9 (l ++ A9.rd hp x)),top+1):=Da I6 Kv rfl MQ rfl rfl h hx hn
@[go_sem] theorem zp {hp:Hp}{x:Value}{top:Nat}(hx:Dp A9 hp x)(hn:(A9.rd hp x).length≤16777216):Ar tt.get hp top [74,74] (.slice none 0 0) x=some (AK top (A9.rd hp x), [(top,AO A9 (A9.rd hp x))],top+1):=DY I6 Kv rfl MQ rfl rfl hx hn
@[go_sem] theorem AAZ {hp:Hp}{x:Value}{top:Nat}(hx:Dp A9 hp x)(hn:DR (A9.rd hp x).length gJ.bytes=true):Ar tt.get hp top [74,74] (.slice none 0 0) x=some (AK top (A9.rd hp x), [(top,AO A9 (A9.rd hp x))],top+1):=C8 I6 Kv rfl MQ rfl rfl hx hn
@[go_sem] theorem AAe {hp:Hp}{top k:Nat}(hk:hp k=some (.cells true 3 (cellsOf (hp k))))(hc:A9.enc (A9.dec (cellsOf (hp k)))=cellsOf (hp k)):Ar tt.get hp top [74,74] (.slice none 0 0) (.slice (some ⟨k,0,none⟩) 1 1)=some (AK top [A9.dec (cellsOf (hp k))], [(top,AO A9 [A9.dec (cellsOf (hp k))])],top+1):=DB I6 Kv rfl MQ rfl rfl hk hc
@[go_sem] theorem AAr {hp:Hp}{b top:Nat}{l l2:List (BJ)}(h:hp b=AO A9 l):hp.AZ (Em b l top (AO A9 l2))=(hp.set b none).set top (AO A9 l2):=I7 h
@[go_sem] theorem ABQ {hp:Hp}{b:Nat}{l:List (BJ)}{i:Nat}(h:hp b=AO A9 l)(hi:i < l.length){a0:Int}{a1:Int}{a2:Int}:Bg tt.get hp 86 (BM (AK b l) (i * 3)) (.agg ⟨[.int .i64 (a0), .int .i64 (a1), .int .i64 (a2)]⟩)=([(b,AO A9 (l.set i ⟨a0,a1,a2⟩))],True):=FN (E:=A9) (cs:=A9.enc ⟨a0,a1,a2⟩) MQ rfl h hi rfl rfl
@[go_sem] theorem zU {hp:Hp}{b:Nat}{l:List (BJ)}{i:Nat}(h:hp b=AO A9 l)(hi:i < l.length){x:Int}:Bg tt.get hp 3 (BM (AK b l) (i * 3)) (.int .i64 (x))=([(b,AO A9 (l.set i {Aj l i with B2:=x}))],True):=Bm (f:=0) B8 h hi rfl (by decide) rfl rfl
@[go_sem] theorem xB {hp:Hp}{b:Nat}{l:List (BJ)}{i:Nat}(h:hp b=AO A9 l)(hi:i < l.length){x:Int}:Bg tt.get hp 3 (BM (AK b l) (i * 3+1)) (.int .i64 (x))=([(b,AO A9 (l.set i {Aj l i with To:=x}))],True):=Bm (f:=1) B8 h hi rfl (by decide) rfl rfl
@[go_sem] theorem xn {hp:Hp}{b:Nat}{l:List (BJ)}{i:Nat}(h:hp b=AO A9 l)(hi:i < l.length){x:Int}:Bg tt.get hp 3 (BM (AK b l) (i * 3+2)) (.int .i64 (x))=([(b,AO A9 (l.set i {Aj l i with C2:=x}))],True):=Bm (f:=2) B8 h hi rfl (by decide) rfl rfl
@[go_sem] theorem ABl {b:Nat}{l:List (BJ)}{hp2:Hp}:C6 tt.get hp2 74 (AK b l)=(.int .i64 (l.length:Int),True):=by cases l with | nil=>unfold C6 AK;simp only [I6,FD,Kv,cI];rfl | cons a l=>unfold C6 AK;simp only [I6,FD,Kv,cI];rfl
@[go_sem] theorem AAS {hp:Hp}{b top k:Nat}{l:List (BJ)}(h:hp b=AO A9 l)(hk:hp k=some (.cells true 3 (cellsOf (hp k))))(hc:A9.enc (A9.dec (cellsOf (hp k)))=cellsOf (hp k))(hn:l.length < 16777216):Ar tt.get hp top [74,74] (AK b l) (.slice (some ⟨k,0,none⟩) 1 1)=some (AK top (l ++ [A9.dec (cellsOf (hp k))]),Em b l top (AO A9 (l ++ [A9.dec (cellsOf (hp k))])),top+1):=Fi I6 Kv rfl MQ rfl rfl h hk hc hn
end
section
theorem Kd {hp:Hp}{v:Value}{l:List (Ej)}(h:BU Bw hp v l){hp':Hp}:C6 tt.get hp' 82 v=(.int .i64 (l.length:Int),True):=h.Hu LA
theorem ZE {hp:Hp}{v:Value}{l:List (Ej)}(h:BU Bw hp v l){k:IntKind}{n:Int}(h0:0≤n)(h1:n < l.length):BP tt.get 82 v (.int k n)=(BM v (n.toNat * 2),True):=h.idx LA Q8 rfl h0 h1
theorem eM {hp:Hp}{v:Value}{l:List (Ej)}(h:BU Bw hp v l){i:Nat}(hi:i < l.length):CS tt.get hp 90 (BM v (i * 2))=(.agg ⟨Bw.enc (Aj l i)⟩,True):=h.load Q8 rfl rfl hi
@[go_sem] theorem AC4 {hp:Hp}{x:Value}{b top:Nat}{l:List (Ej)}(h:hp b=AO Bw l)(hx:Dp Bw hp x)(hn:l.length+(Bw.rd hp x).length≤16777216):Ar tt.get hp top [82,82] (AK b l) x=some (AK top (l ++ Bw.rd hp x),Em b l top (AO Bw (l ++ Bw.rd hp x)),top+1):=Da LA Nn rfl Q8 rfl rfl h hx hn
@[go_sem] theorem ABn {hp:Hp}{x:Value}{top:Nat}(hx:Dp Bw hp x)(hn:(Bw.rd hp x).length≤16777216):Ar tt.get hp top [82,82] (.slice none 0 0) x=some (AK top (Bw.rd hp x), [(top,AO Bw (Bw.rd hp x))],top+1):=DY LA Nn rfl Q8 rfl rfl hx hn
@[go_sem] theorem ABo {hp:Hp}{x:Value}{top:Nat}(hx:Dp Bw hp x)(hn:DR (Bw.rd hp x).length jY.bytes=true):Ar tt.get hp top [82,82] (.slice none 0 0) x=some (AK top (Bw.rd hp x), [(top,AO Bw (Bw.rd hp x))],top+1):=C8 LA Nn rfl Q8 rfl rfl hx hn
@[go_sem] theorem AAo {hp:Hp}{top k:Nat}(hk:hp k=some (.cells true 2 (cellsOf (hp k))))(hc:Bw.enc (Bw.dec (cellsOf (hp k)))=cellsOf (hp k)):Ar tt.get hp top [82,82] (.slice none 0 0) (.slice (some ⟨k,0,none⟩) 1 1)=some (AK top [Bw.dec (cellsOf (hp k))], [(top,AO Bw [Bw.dec (cellsOf (hp k))])],top+1):=DB LA Nn rfl Q8 rfl rfl hk hc
@[go_sem] theorem AC3 {hp:Hp}{b top:Nat}{l l2:List (Ej)}(h:hp b=AO Bw l):hp.AZ (Em b l top (AO Bw l2))=(hp.set b none).set top (AO Bw l2):=I7 h
@[go_sem] theorem ACs {hp:Hp}{b:Nat}{l:List (Ej)}{i:Nat}(h:hp b=AO Bw l)(hi:i < l.length){a0:Int}{a1:Int}:Bg tt.get hp 90 (BM (AK b l) (i * 2)) (.agg ⟨[.int .i64 (a0), .int .i64 (a1)]⟩)=([(b,AO Bw (l.set i ⟨a0,a1⟩))],True):=FN (E:=Bw) (cs:=Bw.enc ⟨a0,a1⟩) Q8 rfl h hi rfl rfl
@[go_sem] theorem AAl {hp:Hp}{b:Nat}{l:List (Ej)}{i:Nat}(h:hp b=AO Bw l)(hi:i < l.length){x:Int}:Bg tt.get hp 3 (BM (AK b l) (i * 2)) (.int .i64 (x))=([(b,AO Bw (l.set i {Aj l i with To:=x}))],True):=Bm (f:=0) B8 h hi rfl (by decide) rfl rfl
@[go_sem] theorem AAF {hp:Hp}{b:Nat}{l:List (Ej)}{i:Nat}(h:hp b=AO Bw l)(hi:i < l.length){x:Int}:Bg tt.get hp 3 (BM (AK b l) (i * 2+1)) (.int .i64 (x))=([(b,AO Bw (l.set i {Aj l i with C2:=x}))],True):=Bm (f:=1) B8 h hi rfl (by decide) rfl rfl
@[go_sem] theorem ADD {b:Nat}{l:List (Ej)}{hp2:Hp}:C6 tt.get hp2 82 (AK b l)=(.int .i64 (l.length:Int),True):=by cases l with | nil=>unfold C6 AK;simp only [LA,FD,Nn,bS];rfl | cons a l=>unfold C6 AK;simp only [LA,FD,Nn,bS];rfl
@[go_sem] theorem ACX {hp:Hp}{b top k:Nat}{l:List (Ej)}(h:hp b=AO Bw l)(hk:hp k=some (.cells true 2 (cellsOf (hp k))))(hc:Bw.enc (Bw.dec (cellsOf (hp k)))=cellsOf (hp k))(hn:l.length < 16777216):Ar tt.get hp top [82,82] (AK b l) (.slice (some ⟨k,0,none⟩) 1 1)=some (AK top (l ++ [Bw.dec (cellsOf (hp k))]),Em b l top (AO Bw (l ++ [Bw.dec (cellsOf (hp k))])),top+1):=Fi LA Nn rfl Q8 rfl rfl h hk hc hn
end
section
theorem EH {hp:Hp}{v:Value}{l:List (Ah)}(h:BU AP hp v l){hp':Hp}:C6 tt.get hp' 114 v=(.int .i64 (l.length:Int),True):=h.Hu F6
theorem EX {hp:Hp}{v:Value}{l:List (Ah)}(h:BU AP hp v l){k:IntKind}{n:Int}(h0:0≤n)(h1:n < l.length):BP tt.get 114 v (.int k n)=(BM v (n.toNat * 5),True):=h.idx F6 IX rfl h0 h1
theorem Fz {hp:Hp}{v:Value}{l:List (Ah)}(h:BU AP hp v l){i:Nat}(hi:i < l.length):CS tt.get hp 124 (BM v (i * 5))=(.agg ⟨AP.enc (Aj l i)⟩,True):=h.load IX rfl rfl hi
theorem Y0 {hp:Hp}{v:Value}{l:List (Ah)}(h:BU AP hp v l){k:IntKind}{n:Int}(h0:0≤n)(h1:n≤l.length):DU tt.get hp 114 v (some (.int k n)) none=(Mb 5 v n.toNat,True):=h.ABi F6 IX rfl h0 h1
@[go_sem] theorem ABb {hp:Hp}{x:Value}{b top:Nat}{l:List (Ah)}(h:hp b=AO AP l)(hx:Dp AP hp x)(hn:l.length+(AP.rd hp x).length≤16777216):Ar tt.get hp top [114,114] (AK b l) x=some (AK top (l ++ AP.rd hp x),Em b l top (AO AP (l ++ AP.rd hp x)),top+1):=Da F6 It rfl IX rfl rfl h hx hn
@[go_sem] theorem AAO {hp:Hp}{x:Value}{top:Nat}(hx:Dp AP hp x)(hn:(AP.rd hp x).length≤16777216):Ar tt.get hp top [114,114] (.slice none 0 0) x=some (AK top (AP.rd hp x), [(top,AO AP (AP.rd hp x))],top+1):=DY F6 It rfl IX rfl rfl hx hn
@[go_sem] theorem zw {hp:Hp}{x:Value}{top:Nat}(hx:Dp AP hp x)(hn:DR (AP.rd hp x).length EA.bytes=true):Ar tt.get hp top [114,114] (.slice none 0 0) x=some (AK top (AP.rd hp x), [(top,AO AP (AP.rd hp x))],top+1):=C8 F6 It rfl IX rfl rfl hx hn
@[go_sem] theorem AAI {hp:Hp}{top k:Nat}(hk:hp k=some (.cells true 5 (cellsOf (hp k))))(hc:AP.enc (AP.dec (cellsOf (hp k)))=cellsOf (hp k)):Ar tt.get hp top [114,114] (.slice none 0 0) (.slice (some ⟨k,0,none⟩) 1 1)=some (AK top [AP.dec (cellsOf (hp k))], [(top,AO AP [AP.dec (cellsOf (hp k))])],top+1):=DB F6 It rfl IX rfl rfl hk hc
@[go_sem] theorem oS {hp:Hp}{b:Nat}{l:List (Ah)}{i:Nat}(h:hp b=AO AP l)(hi:i < l.length){a0:Int}{a1:Int}{a2:Int}{a3:Int}{a4:List UInt8}:Bg tt.get hp 124 (BM (AK b l) (i * 5)) (.agg ⟨[.int .u64 (a0), .int .i64 (a1), .int .i64 (a2), .int .i64 (a3), .string ⟨⟨a4⟩⟩]⟩)=([(b,AO AP (l.set i ⟨a0,a1,a2,a3,a4⟩))],True):=FN (E:=AP) (cs:=AP.enc ⟨a0,a1,a2,a3,a4⟩) IX rfl h hi rfl rfl
@[go_sem] theorem zJ {hp:Hp}{b:Nat}{l:List (Ah)}{i:Nat}(h:hp b=AO AP l)(hi:i < l.length){x:Int}:Bg tt.get hp 32 (BM (AK b l) (i * 5)) (.int .u64 (x))=([(b,AO AP (l.set i {Aj l i with at_:=x}))],True):=Bm (f:=0) Rx h hi rfl (by decide) rfl rfl
@[go_sem] theorem wg {hp:Hp}{b:Nat}{l:List (Ah)}{i:Nat}(h:hp b=AO AP l)(hi:i < l.length){x:Int}:Bg tt.get hp 3 (BM (AK b l) (i * 5+1)) (.int .i64 (x))=([(b,AO AP (l.set i {Aj l i with CA:=x}))],True):=Bm (f:=1) B8 h hi rfl (by decide) rfl rfl
@[go_sem] theorem ABO {b:Nat}{l:List (Ah)}{hp2:Hp}:C6 tt.get hp2 114 (AK b l)=(.int .i64 (l.length:Int),True):=by cases l with | nil=>unfold C6 AK;simp only [F6,FD,It,OZ];rfl | cons a l=>unfold C6 AK;simp only [F6,FD,It,OZ];rfl
end
def FX:KT tt.get 99 HZ:=⟨fun a=> .agg ⟨Vn.enc a⟩,fun a b=>by
  obtain ⟨a0,a1⟩:=a;obtain ⟨b0,b1⟩:=b
  simp only [NN,N3,bP,eqFields,Fo,Ph,B8,Ph,B8,Jm,Rd,PH,List.drop_zero,List.drop_succ_cons,HZ.mk.injEq,if_true]
  by_cases h0:a0=b0 <;> by_cases h1:a1=b1 <;> simp [h0,h1],fun a=>by
  simp [LC,G9,Fo,N3,bP,Ph,B8,Ph,B8,Jm,Rd],fun a=>by simp [plain,Rd],fun a=>Qz (fun v h=>by simp [Rd] at h;rcases h with rfl | rfl <;> simp [Instr.sameBits]),fun ρ a=>rfl⟩
@[go_sem] theorem qH {hp:Hp}{b:Nat}{k:Value}{ok:Bool}:Ga tt.get hp 91 (.map (some b)) k ok=(match hp b with | some (.map es _)=>HL tt.get 99 Ph.zero k es ok | _=>(undef,False)):=J2 I4 N3 B8
@[go_sem] theorem qA {hp:Hp}{b:Nat}{k x:Value}:E5 tt.get hp 91 (.map (some b)) k x=(match hp b with | some (.map es CC)=>F8 tt.get 99 b k x es CC | _=>none):=Ju I4 N3
def CP (a:Int):Value:= .int .i64 (a)
abbrev DD:=List (HZ×Int×Nat)
def Bq (m:DD):List MapEntry:=m.map (Jl FX.ek CP)
def Hr (l:List MapEntry):DD:=l.map fun e=>(⟨intOf (((B0 e.key)[0]?).getD undef),intOf (((B0 e.key)[1]?).getD undef)⟩,intOf (e.val),e.born)
@[go_sem] theorem Hf (m:DD):Hr (Bq m)=m:=by simp only [Hr,Bq,List.map_map];exact (List.map_congr_left (fun _ _=>rfl)).trans (List.map_id m)
@[go_sem] theorem pw {z:Value}{m:DD}{a0 a1:Int}:HL tt.get 99 z (.agg ⟨[.int .i64 (a0), .int .i64 (a1)]⟩) (Bq m) false=(((BV m ⟨a0,a1⟩).map CP).getD z,True):=TQ FX CP m ⟨a0,a1⟩
@[go_sem] theorem p7 {x:Option (Int)}:(x.map CP).getD (.int .i64 (0))=CP (x.getD default):=by cases x <;> rfl
theorem ES {ρ:Nat→Nat}{m:DD}:(Bq m).map (RH ρ)=Bq m:=YR (fun _=>rfl) (fun _=>rfl) m
@[go_sem] theorem qI {b CC:Nat}{m:DD}{a0 a1:Int}{b0:Int}:F8 tt.get 99 b (.agg ⟨[.int .i64 (a0), .int .i64 (a1)]⟩) (.int .i64 (b0)) (Bq m) CC=some [(b,some (.map (Bq (Fs m ⟨a0,a1⟩ b0 CC)) (LD m ⟨a0,a1⟩ CC)))]:=NG FX CP b m CC ⟨a0,a1⟩ b0
@[go_sem] theorem nJ {hp:Hp}{b:Nat}{k:Value}{ok:Bool}:Ga tt.get hp 92 (.map (some b)) k ok=(match hp b with | some (.map es _)=>HL tt.get 99 wA.zero k es ok | _=>(undef,False)):=J2 Hx N3 LK
@[go_sem] theorem nu {hp:Hp}{b:Nat}{k x:Value}:E5 tt.get hp 92 (.map (some b)) k x=(match hp b with | some (.map es CC)=>F8 tt.get 99 b k x es CC | _=>none):=Ju Hx N3
@[go_sem] theorem mI {hp:Hp}{b:Nat}{k:Value}{ts:List TypeId}:Gh tt.get hp (92 :: ts) (.map (some b)) k=(match hp b with | some (.map es CC)=>Hm tt.get 99 b k es CC | _=>none):=MV Hx N3
def Dd (a:Bool):Value:= .bool (a)
abbrev DA:=List (HZ×Bool×Nat)
def BR (m:DA):List MapEntry:=m.map (Jl FX.ek Dd)
def Gs (l:List MapEntry):DA:=l.map fun e=>(⟨intOf (((B0 e.key)[0]?).getD undef),intOf (((B0 e.key)[1]?).getD undef)⟩,Cg (e.val),e.born)
@[go_sem] theorem Gg (m:DA):Gs (BR m)=m:=by simp only [Gs,BR,List.map_map];exact (List.map_congr_left (fun _ _=>rfl)).trans (List.map_id m)
@[go_sem] theorem lQ {z:Value}{m:DA}{a0 a1:Int}:HL tt.get 99 z (.agg ⟨[.int .i64 (a0), .int .i64 (a1)]⟩) (BR m) false=(((BV m ⟨a0,a1⟩).map Dd).getD z,True):=TQ FX Dd m ⟨a0,a1⟩
@[go_sem] theorem mQ {x:Option (Bool)}:(x.map Dd).getD (.bool (false))=Dd (x.getD default):=by cases x <;> rfl
theorem Cn {ρ:Nat→Nat}{m:DA}:(BR m).map (RH ρ)=BR m:=YR (fun _=>rfl) (fun _=>rfl) m
@[go_sem] theorem mA {b CC:Nat}{m:DA}{a0 a1:Int}{b0:Bool}:F8 tt.get 99 b (.agg ⟨[.int .i64 (a0), .int .i64 (a1)]⟩) (.bool (b0)) (BR m) CC=some [(b,some (.map (BR (Fs m ⟨a0,a1⟩ b0 CC)) (LD m ⟨a0,a1⟩ CC)))]:=NG FX Dd b m CC ⟨a0,a1⟩ b0
@[go_sem] theorem pO {b CC:Nat}{m:DA}{a0 a1:Int}:Hm tt.get 99 b (.agg ⟨[.int .i64 (a0), .int .i64 (a1)]⟩) (BR m) CC=some [(b,some (.map (BR (Ix m ⟨a0,a1⟩)) CC))]:=Qa FX Dd b m CC ⟨a0,a1⟩
def WU:KT tt.get 3 Int:=⟨fun a=> .int .i64 (a),fun a b=>by simp [NN,B8,Ph,PH],fun a=>by simp [LC,B8,Ph],fun a=>rfl,fun a=>by simp [Instr.sameBits],fun ρ a=>rfl⟩
@[go_sem] theorem qM {hp:Hp}{b:Nat}{k:Value}{ok:Bool}:Ga tt.get hp 93 (.map (some b)) k ok=(match hp b with | some (.map es _)=>HL tt.get 3 wA.zero k es ok | _=>(undef,False)):=J2 Iv B8 LK
@[go_sem] theorem qL {hp:Hp}{b:Nat}{k x:Value}:E5 tt.get hp 93 (.map (some b)) k x=(match hp b with | some (.map es CC)=>F8 tt.get 3 b k x es CC | _=>none):=Ju Iv B8
@[go_sem] theorem pt {hp:Hp}{b:Nat}{k:Value}{ts:List TypeId}:Gh tt.get hp (93 :: ts) (.map (some b)) k=(match hp b with | some (.map es CC)=>Hm tt.get 3 b k es CC | _=>none):=MV Iv B8
def D7 (a:Bool):Value:= .bool (a)
abbrev Db:=List (Int×Bool×Nat)
def Br (m:Db):List MapEntry:=m.map (Jl WU.ek D7)
def F1 (l:List MapEntry):Db:=l.map fun e=>(intOf (e.key),Cg (e.val),e.born)
@[go_sem] theorem HI (m:Db):F1 (Br m)=m:=by simp only [F1,Br,List.map_map];exact (List.map_congr_left (fun _ _=>rfl)).trans (List.map_id m)
@[go_sem] theorem p8 {z:Value}{m:Db}{a0:Int}:HL tt.get 3 z (.int .i64 (a0)) (Br m) false=(((BV m a0).map D7).getD z,True):=TQ WU D7 m a0
@[go_sem] theorem pz {x:Option (Bool)}:(x.map D7).getD (.bool (false))=D7 (x.getD default):=by cases x <;> rfl
theorem C9 {ρ:Nat→Nat}{m:Db}:(Br m).map (RH ρ)=Br m:=YR (fun _=>rfl) (fun _=>rfl) m
@[go_sem] theorem qD {b CC:Nat}{m:Db}{a0:Int}{b0:Bool}:F8 tt.get 3 b (.int .i64 (a0)) (.bool (b0)) (Br m) CC=some [(b,some (.map (Br (Fs m a0 b0 CC)) (LD m a0 CC)))]:=NG WU D7 b m CC a0 b0
@[go_sem] theorem qB {b CC:Nat}{m:Db}{a0:Int}:Hm tt.get 3 b (.int .i64 (a0)) (Br m) CC=some [(b,some (.map (Br (Ix m a0)) CC))]:=Qa WU D7 b m CC a0
def Ku:KT tt.get 121 EK:=⟨fun a=> .agg ⟨Mt.enc a⟩,fun a b=>by
  obtain ⟨a0,a1,a2⟩:=a;obtain ⟨b0,b1,b2⟩:=b
  simp only [NN,Kg,TM,eqFields,Fo,Ph,B8,Ph,B8,Ph,B8,Jm,LS,PH,List.drop_zero,List.drop_succ_cons,EK.mk.injEq,if_true]
  by_cases h0:a0=b0 <;> by_cases h1:a1=b1 <;> by_cases h2:a2=b2 <;> simp [h0,h1,h2],fun a=>by
  simp [LC,G9,Fo,Kg,TM,Ph,B8,Ph,B8,Ph,B8,Jm,LS],fun a=>by simp [plain,LS],fun a=>Qz (fun v h=>by simp [LS] at h;rcases h with rfl | rfl | rfl <;> simp [Instr.sameBits]),fun ρ a=>rfl⟩
@[go_sem] theorem fJ {hp:Hp}{b:Nat}{k:Value}{ok:Bool}:Ga tt.get hp 117 (.map (some b)) k ok=(match hp b with | some (.map es _)=>HL tt.get 121 Wu.zero k es ok | _=>(undef,False)):=J2 Fh Kg MR
@[go_sem] theorem dG {hp:Hp}{b:Nat}{k x:Value}:E5 tt.get hp 117 (.map (some b)) k x=(match hp b with | some (.map es CC)=>F8 tt.get 121 b k x es CC | _=>none):=Ju Fh Kg
@[go_sem] theorem db {hp:Hp}{b:Nat}{k:Value}{ts:List TypeId}:Gh tt.get hp (117 :: ts) (.map (some b)) k=(match hp b with | some (.map es CC)=>Hm tt.get 121 b k es CC | _=>none):=MV Fh Kg
def Ck (a:A8):Value:= .agg ⟨Ap.enc a⟩
abbrev Cw:=List (EK×A8×Nat)
def BI (m:Cw):List MapEntry:=m.map (Jl Ku.ek Ck)
def E9 (l:List MapEntry):Cw:=l.map fun e=>(⟨intOf (((B0 e.key)[0]?).getD undef),intOf (((B0 e.key)[1]?).getD undef),intOf (((B0 e.key)[2]?).getD undef)⟩,⟨intOf (((B0 e.val)[0]?).getD undef),intOf (((B0 e.val)[1]?).getD undef),intOf (((B0 e.val)[2]?).getD undef),intOf (((B0 e.val)[3]?).getD undef),intOf (((B0 e.val)[4]?).getD undef)⟩,e.born)
@[go_sem] theorem FE (m:Cw):E9 (BI m)=m:=by simp only [E9,BI,List.map_map];exact (List.map_congr_left (fun _ _=>rfl)).trans (List.map_id m)
@[go_sem] theorem dD {z:Value}{m:Cw}{a0 a1 a2:Int}:HL tt.get 121 z (.agg ⟨[.int .i64 (a0), .int .i64 (a1), .int .i64 (a2)]⟩) (BI m) true=(.tuple ⟨[((BV m ⟨a0,a1,a2⟩).map Ck).getD z, .bool (BV m ⟨a0,a1,a2⟩).isSome]⟩,True):=Zl Ku Ck m ⟨a0,a1,a2⟩
@[go_sem] theorem fD {x:Option (A8)}:(x.map Ck).getD (.agg ⟨[(.int .i64 (0)),(.int .i64 (0)),(.int .i64 (0)),(.int .i64 (0)),(.int .i64 (0))]⟩)=Ck (x.getD default):=by cases x <;> rfl
theorem Ai {ρ:Nat→Nat}{m:Cw}:(BI m).map (RH ρ)=BI m:=YR (fun _=>rfl) (fun _=>rfl) m
@[go_sem] theorem fQ {b CC:Nat}{m:Cw}{a0 a1 a2:Int}{b0 b1 b2 b3 b4:Int}:F8 tt.get 121 b (.agg ⟨[.int .i64 (a0), .int .i64 (a1), .int .i64 (a2)]⟩) (.agg ⟨[.int .i64 (b0), .int .i64 (b1), .int .i64 (b2), .int .i64 (b3), .int .i64 (b4)]⟩) (BI m) CC=some [(b,some (.map (BI (Fs m ⟨a0,a1,a2⟩ ⟨b0,b1,b2,b3,b4⟩ CC)) (LD m ⟨a0,a1,a2⟩ CC)))]:=NG Ku Ck b m CC ⟨a0,a1,a2⟩ ⟨b0,b1,b2,b3,b4⟩
@[go_sem] theorem fH {b CC:Nat}{m:Cw}{a0 a1 a2:Int}:Hm tt.get 121 b (.agg ⟨[.int .i64 (a0), .int .i64 (a1), .int .i64 (a2)]⟩) (BI m) CC=some [(b,some (.map (BI (Ix m ⟨a0,a1,a2⟩)) CC))]:=Qa Ku Ck b m CC ⟨a0,a1,a2⟩
theorem Vz {s d:TypeId}{k1 k2:IntKind}{hp:Hp}{x:Value}(h1:BF tt.get s=some (.int k1))(h2:BF tt.get d=some (.int k2)):HO tt.get hp s d x=(.int k2 (BQ k2 (intOf x)),aQ x):=by
 unfold HO
 simp only [h1,h2,VS]
@[go_sem] theorem ACq {hp:Hp}{x:Value}:HO tt.get hp 3 32 x=(.int .u64 (BQ .u64 (intOf x)),aQ x):=Vz fK Zn
@[go_sem] theorem ACP {hp:Hp}{x:Value}:HO tt.get hp 3 146 x=(.int .u64 (BQ .u64 (intOf x)),aQ x):=Vz fK ae
@[go_sem] theorem ACh {hp:Hp}{x:Value}:HO tt.get hp 146 3 x=(.int .i64 (BQ .i64 (intOf x)),aQ x):=Vz ae fK
attribute [go_sem] CP
attribute [go_sem] Dd
attribute [go_sem] D7
attribute [go_sem] Ck
end Go.Proofs.Ytmppehipfpkepaa.Dm
