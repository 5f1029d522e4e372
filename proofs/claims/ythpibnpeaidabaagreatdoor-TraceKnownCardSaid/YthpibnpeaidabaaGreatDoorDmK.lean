/- IV on the types of this seat; how their data lie in memory. -/
import Derived.Test.YthpibnpeaidabaaGreatDoorDmTab
import Derived.Test.YthpibnpeaidabaaGreatDoorDmH
set_option linter.unusedSimpArgs false
namespace Go.Proofs.YthpibnpeaidabaaGreatDoor.Dm
open Go.Dm
attribute [go_sem] ry ZY pf oJ nU eN gC eZ Rs XK J8 I2 Tv Ma QC RN PW TR fP fS XQ Tz aR W0 gk VD Vu UZ Uo UW Uu V8 Vk Vh VA WB Vd V6 Ua Vg U9 VH UR R9 U7 VN Us Ub VS Up WJ
@[go_sem] theorem Hi:tt.get 3=some ZY:=by kernel_rfl
@[go_sem] theorem sk:Cp tt.get 3=0:=by kernel_rfl
@[go_sem] theorem Mr:kindOf tt.get 3=some (.int .i64):=by kernel_rfl
@[go_sem] theorem tD {op:BinOp}{xo yo:Operand}{x y:Value}:C7 tt.get op 3 xo yo x y=GN op .i64 x y:=EL Mr
@[go_sem] theorem sR:tt.get 4=some pf:=by kernel_rfl
@[go_sem] theorem ru:Cp tt.get 4=0:=by kernel_rfl
@[go_sem] theorem Ji:tt.get 5=some oJ:=by kernel_rfl
@[go_sem] theorem ee:kindOf tt.get 5=some (.int .u8):=by kernel_rfl
@[go_sem] theorem C6:tt.get 9=some nU:=by kernel_rfl
@[go_sem] theorem MU:kindOf tt.get 9=some (.string):=by kernel_rfl
@[go_sem] theorem rP {op:BinOp}{xo yo:Operand}{x y:Value}:C7 tt.get op 9 xo yo x y=MX op x y:=Xf MU
@[go_sem] theorem EY:tt.get 22=some Rs:=by kernel_rfl
@[go_sem] theorem Bm:kindOf tt.get 22=some (.slice 33):=by kernel_rfl
@[go_sem] theorem fH:tt.get 24=some XK:=by kernel_rfl
@[go_sem] theorem jK:kindOf tt.get 24=some (.int .i64):=by kernel_rfl
@[go_sem] theorem r6 {op:BinOp}{xo yo:Operand}{x y:Value}:C7 tt.get op 24 xo yo x y=GN op .i64 x y:=EL jK
@[go_sem] theorem Hk:tt.get 28=some J8:=by kernel_rfl
@[go_sem] theorem Hm:kindOf tt.get 28=some (.int .u64):=by kernel_rfl
@[go_sem] theorem pW {op:BinOp}{xo yo:Operand}{x y:Value}:C7 tt.get op 28 xo yo x y=GN op .u64 x y:=EL Hm
@[go_sem] theorem CU:tt.get 29=some I2:=by kernel_rfl
@[go_sem] theorem M1:kindOf tt.get 29=some (.int .u32):=by kernel_rfl
@[go_sem] theorem qc {op:BinOp}{xo yo:Operand}{x y:Value}:C7 tt.get op 29 xo yo x y=GN op .u32 x y:=EL M1
@[go_sem] theorem Zm:tt.get 31=some Tv:=by kernel_rfl
@[go_sem] theorem rr:Cp tt.get 31=0:=by kernel_rfl
@[go_sem] theorem sA:kindOf tt.get 31=some (.array 4 28):=by kernel_rfl
@[go_sem] theorem DX:tt.get 33=some Ma:=by kernel_rfl
@[go_sem] theorem ph:Cp tt.get 33=0:=by kernel_rfl
@[go_sem] theorem mb {b o:Nat}:Az tt.get 33 (.pointer (some ⟨b,o,none⟩)) 0=(.pointer (some ⟨b,o,none⟩),True):=by unfold Az;rw [show BL tt.get 33 (.pointer (some ⟨b,o,none⟩)) 0=some (.pointer (some ⟨b,o,none⟩)) from by kernel_rfl]
@[go_sem] theorem nK {b o:Nat}:Az tt.get 33 (.pointer (some ⟨b,o,none⟩)) 1=(.pointer (some ⟨b,o+1,none⟩),True):=by unfold Az;rw [show BL tt.get 33 (.pointer (some ⟨b,o,none⟩)) 1=some (.pointer (some ⟨b,o+1,none⟩)) from by kernel_rfl]
@[go_sem] theorem oD {b o:Nat}:Az tt.get 33 (.pointer (some ⟨b,o,none⟩)) 2=(.pointer (some ⟨b,o+2,none⟩),True):=by unfold Az;rw [show BL tt.get 33 (.pointer (some ⟨b,o,none⟩)) 2=some (.pointer (some ⟨b,o+2,none⟩)) from by kernel_rfl]
@[go_sem] theorem lV {b o:Nat}:Az tt.get 33 (.pointer (some ⟨b,o,none⟩)) 3=(.pointer (some ⟨b,o+3,none⟩),True):=by unfold Az;rw [show BL tt.get 33 (.pointer (some ⟨b,o,none⟩)) 3=some (.pointer (some ⟨b,o+3,none⟩)) from by kernel_rfl]
@[go_sem] theorem nn {b o:Nat}:Az tt.get 33 (.pointer (some ⟨b,o,none⟩)) 4=(.pointer (some ⟨b,o+4,none⟩),True):=by unfold Az;rw [show BL tt.get 33 (.pointer (some ⟨b,o,none⟩)) 4=some (.pointer (some ⟨b,o+4,none⟩)) from by kernel_rfl]
@[go_sem] theorem nu {b o:Nat}:Az tt.get 33 (.pointer (some ⟨b,o,none⟩)) 5=(.pointer (some ⟨b,o+5,none⟩),True):=by unfold Az;rw [show BL tt.get 33 (.pointer (some ⟨b,o,none⟩)) 5=some (.pointer (some ⟨b,o+5,none⟩)) from by kernel_rfl]
@[go_sem] theorem kx {b o:Nat}:Az tt.get 33 (.pointer (some ⟨b,o,none⟩)) 6=(.pointer (some ⟨b,o+6,none⟩),True):=by unfold Az;rw [show BL tt.get 33 (.pointer (some ⟨b,o,none⟩)) 6=some (.pointer (some ⟨b,o+6,none⟩)) from by kernel_rfl]
@[go_sem] theorem K5:tt.get 35=some QC:=by kernel_rfl
@[go_sem] theorem rm {op:BinOp}{xo yo:Operand}{x y:Value}:C7 tt.get op 35 xo yo x y=Kb (De tt.get op 35 xo yo x y):=OC (by kernel_rfl)
@[go_sem] theorem Dv:tt.get 51=some RN:=by kernel_rfl
@[go_sem] theorem Ct:kindOf tt.get 51=some (.slice 29):=by kernel_rfl
@[go_sem] theorem DW:tt.get 58=some PW:=by kernel_rfl
@[go_sem] theorem lx:Cp tt.get 58=0:=by kernel_rfl
@[go_sem] theorem B2:kindOf tt.get 58=some (.slice 9):=by kernel_rfl
@[go_sem] theorem GM:tt.get 60=some TR:=by kernel_rfl
@[go_sem] theorem FH:kindOf tt.get 60=some (.slice 5):=by kernel_rfl
@[go_sem] theorem Tq:tt.get 71=some XQ:=by kernel_rfl
@[go_sem] theorem kl:Cp tt.get 71=0:=by kernel_rfl
@[go_sem] theorem nb:kindOf tt.get 71=some (.array 9 9):=by kernel_rfl
@[go_sem] theorem Jw:tt.get 84=some Tz:=by kernel_rfl
@[go_sem] theorem dM:Cp tt.get 84=0:=by kernel_rfl
@[go_sem] theorem df {op:BinOp}{xo yo:Operand}{x y:Value}:C7 tt.get op 84 xo yo x y=Kb (De tt.get op 84 xo yo x y):=OC (by kernel_rfl)
@[go_sem] theorem WY {xo yo:Operand}{a:Option Addr}:De tt.get .eql 84 xo yo (.pointer a) (.pointer none)=some (.bool (a.isNone)):=by cases a <;> simp [De,Ih,Jw,Tz]
@[go_sem] theorem js:tt.get 85=some aR:=by kernel_rfl
@[go_sem] theorem YE {b o:Nat}:Az tt.get 85 (.pointer (some ⟨b,o,none⟩)) 1=(.pointer (some ⟨b,o+1,none⟩),True):=by unfold Az;rw [show BL tt.get 85 (.pointer (some ⟨b,o,none⟩)) 1=some (.pointer (some ⟨b,o+1,none⟩)) from by kernel_rfl]
@[go_sem] theorem NL:tt.get 89=some W0:=by kernel_rfl
@[go_sem] theorem QO:kindOf tt.get 121=some (.int .u64):=by kernel_rfl
@[go_sem] theorem sn {op:BinOp}{xo yo:Operand}{x y:Value}:C7 tt.get op 121 xo yo x y=GN op .u64 x y:=EL QO
@[go_sem] theorem QK:kindOf tt.get 162=some (.int .i64):=by kernel_rfl
@[go_sem] theorem jB {op:BinOp}{xo yo:Operand}{x y:Value}:C7 tt.get op 162 xo yo x y=GN op .i64 x y:=EL QK
@[go_sem] theorem lP:tt.get 185=some R9:=by kernel_rfl
@[go_sem] theorem kT:Cp tt.get 185=0:=by kernel_rfl
@[go_sem] theorem ME:kindOf tt.get 185=some (.int .u64):=by kernel_rfl
@[go_sem] theorem mZ {op:BinOp}{xo yo:Operand}{x y:Value}:C7 tt.get op 185 xo yo x y=GN op .u64 x y:=EL ME
def PR:Ax (Int):=⟨fun a=> [.int .i64 (a)],fun l=>intOf ((l[0]?).getD undef),1,fun _=>rfl,fun _=>rfl,fun _=>rfl⟩
instance:PR.Plain:=⟨fun _ _=>rfl⟩
@[go_sem] theorem qV (a:Int):PR.enc a= [.int .i64 (a)]:=rfl
@[go_sem] theorem qv (l:List Value):PR.dec l=intOf ((l[0]?).getD undef):=rfl
def Zq:Ax (Int):=⟨fun a=> [.int .i64 (a)],fun l=>intOf ((l[0]?).getD undef),1,fun _=>rfl,fun _=>rfl,fun _=>rfl⟩
instance:Zq.Plain:=⟨fun _ _=>rfl⟩
@[go_sem] theorem r8 (a:Int):Zq.enc a= [.int .i64 (a)]:=rfl
@[go_sem] theorem sO (l:List Value):Zq.dec l=intOf ((l[0]?).getD undef):=rfl
def UM:Ax (Bool):=⟨fun a=> [.bool (a)],fun l=>Cd ((l[0]?).getD undef),1,fun _=>rfl,fun _=>rfl,fun _=>rfl⟩
instance:UM.Plain:=⟨fun _ _=>rfl⟩
@[go_sem] theorem rl (a:Bool):UM.enc a= [.bool (a)]:=rfl
@[go_sem] theorem ri (l:List Value):UM.dec l=Cd ((l[0]?).getD undef):=rfl
def Bh:Ax (Int):=⟨fun a=> [.int .u8 (a)],fun l=>intOf ((l[0]?).getD undef),1,fun _=>rfl,fun _=>rfl,fun _=>rfl⟩
instance:Bh.Plain:=⟨fun _ _=>rfl⟩
@[go_sem] theorem qn (a:Int):Bh.enc a= [.int .u8 (a)]:=rfl
@[go_sem] theorem q9 (l:List Value):Bh.dec l=intOf ((l[0]?).getD undef):=rfl
def Ah:Ax (List UInt8):=⟨fun a=> [.string ⟨⟨a⟩⟩],fun l=>strOf ((l[0]?).getD undef),1,fun _=>rfl,fun _=>rfl,fun _=>rfl⟩
instance:Ah.Plain:=⟨fun _ _=>rfl⟩
@[go_sem] theorem oK (a:List UInt8):Ah.enc a= [.string ⟨⟨a⟩⟩]:=rfl
@[go_sem] theorem oR (l:List Value):Ah.dec l=strOf ((l[0]?).getD undef):=rfl
def QQ:Ax (Int):=⟨fun a=> [.int .i32 (a)],fun l=>intOf ((l[0]?).getD undef),1,fun _=>rfl,fun _=>rfl,fun _=>rfl⟩
instance:QQ.Plain:=⟨fun _ _=>rfl⟩
@[go_sem] theorem rJ (a:Int):QQ.enc a= [.int .i32 (a)]:=rfl
@[go_sem] theorem rM (l:List Value):QQ.dec l=intOf ((l[0]?).getD undef):=rfl
def Oe:Ax (Int):=⟨fun a=> [.int .i64 (a)],fun l=>intOf ((l[0]?).getD undef),1,fun _=>rfl,fun _=>rfl,fun _=>rfl⟩
instance:Oe.Plain:=⟨fun _ _=>rfl⟩
@[go_sem] theorem rA (a:Int):Oe.enc a= [.int .i64 (a)]:=rfl
@[go_sem] theorem pR (l:List Value):Oe.dec l=intOf ((l[0]?).getD undef):=rfl
def Me:Ax (Int):=⟨fun a=> [.int .u64 (a)],fun l=>intOf ((l[0]?).getD undef),1,fun _=>rfl,fun _=>rfl,fun _=>rfl⟩
instance:Me.Plain:=⟨fun _ _=>rfl⟩
@[go_sem] theorem oV (a:Int):Me.enc a= [.int .u64 (a)]:=rfl
@[go_sem] theorem oL (l:List Value):Me.dec l=intOf ((l[0]?).getD undef):=rfl
def Aj:Ax (Int):=⟨fun a=> [.int .u32 (a)],fun l=>intOf ((l[0]?).getD undef),1,fun _=>rfl,fun _=>rfl,fun _=>rfl⟩
instance:Aj.Plain:=⟨fun _ _=>rfl⟩
@[go_sem] theorem oI (a:Int):Aj.enc a= [.int .u32 (a)]:=rfl
@[go_sem] theorem oT (l:List Value):Aj.dec l=intOf ((l[0]?).getD undef):=rfl
structure Ak where
 x0:Int
 x1:Int
 x2:Int
 x3:Int
instance:Inhabited Ak:=⟨⟨0,0,0,0⟩⟩
instance:DecidableEq Ak:=fun a b=>decidable_of_iff (a.x0=b.x0∧a.x1=b.x1∧a.x2=b.x2∧a.x3=b.x3) (by cases a;cases b;simp)
def EI:Ax (Ak):=⟨fun a=> [.int .u64 (a.x0), .int .u64 (a.x1), .int .u64 (a.x2), .int .u64 (a.x3)],fun l=>⟨intOf ((l[0]?).getD undef),intOf ((l[1]?).getD undef),intOf ((l[2]?).getD undef),intOf ((l[3]?).getD undef)⟩,4,fun _=>rfl,fun _=>rfl,fun _=>rfl⟩
instance:EI.Plain:=⟨fun _ _=>rfl⟩
@[go_sem] theorem BR (a:Ak):EI.enc a= [.int .u64 (a.x0), .int .u64 (a.x1), .int .u64 (a.x2), .int .u64 (a.x3)]:=rfl
@[go_sem] theorem rz (a:Ak):Ak.mk a.x0 a.x1 a.x2 a.x3=a:=rfl
@[go_sem] theorem rZ (l:List Value):EI.dec l=⟨intOf ((l[0]?).getD undef),intOf ((l[1]?).getD undef),intOf ((l[2]?).getD undef),intOf ((l[3]?).getD undef)⟩:=rfl
structure Ac where
 At:Int
 Kind:Int
 CA:Int
 EO:Int
 Id:Int
 Set:Int
 Fc:Int
 Fk:Int
 Fp:Int
 Fb:Int
instance:Inhabited Ac:=⟨⟨0,0,0,0,0,0,0,0,0,0⟩⟩
instance:DecidableEq Ac:=fun a b=>decidable_of_iff (a.At=b.At∧a.Kind=b.Kind∧a.CA=b.CA∧a.EO=b.EO∧a.Id=b.Id∧a.Set=b.Set∧a.Fc=b.Fc∧a.Fk=b.Fk∧a.Fp=b.Fp∧a.Fb=b.Fb) (by cases a;cases b;simp)
def AU:Ax (Ac):=⟨fun a=> [.int .u64 (a.At), .int .i64 (a.Kind), .int .i64 (a.CA), .int .i64 (a.EO), .int .u32 (a.Id), .int .i64 (a.Set), .int .u64 (a.Fc), .int .u64 (a.Fk), .int .u64 (a.Fp), .int .u64 (a.Fb)],fun l=>⟨intOf ((l[0]?).getD undef),intOf ((l[1]?).getD undef),intOf ((l[2]?).getD undef),intOf ((l[3]?).getD undef),intOf ((l[4]?).getD undef),intOf ((l[5]?).getD undef),intOf ((l[6]?).getD undef),intOf ((l[7]?).getD undef),intOf ((l[8]?).getD undef),intOf ((l[9]?).getD undef)⟩,10,fun _=>rfl,fun _=>rfl,fun _=>rfl⟩
instance:AU.Plain:=⟨fun _ _=>rfl⟩
@[go_sem] theorem Cs (a:Ac):AU.enc a= [.int .u64 (a.At), .int .i64 (a.Kind), .int .i64 (a.CA), .int .i64 (a.EO), .int .u32 (a.Id), .int .i64 (a.Set), .int .u64 (a.Fc), .int .u64 (a.Fk), .int .u64 (a.Fp), .int .u64 (a.Fb)]:=rfl
@[go_sem] theorem pJ (a:Ac):Ac.mk a.At a.Kind a.CA a.EO a.Id a.Set a.Fc a.Fk a.Fp a.Fb=a:=rfl
@[go_sem] theorem p9 (l:List Value):AU.dec l=⟨intOf ((l[0]?).getD undef),intOf ((l[1]?).getD undef),intOf ((l[2]?).getD undef),intOf ((l[3]?).getD undef),intOf ((l[4]?).getD undef),intOf ((l[5]?).getD undef),intOf ((l[6]?).getD undef),intOf ((l[7]?).getD undef),intOf ((l[8]?).getD undef),intOf ((l[9]?).getD undef)⟩:=rfl
structure Dx where
 Code:Int
 At:Int
instance:Inhabited Dx:=⟨⟨0,0⟩⟩
instance:DecidableEq Dx:=fun a b=>decidable_of_iff (a.Code=b.Code∧a.At=b.At) (by cases a;cases b;simp)
def HY:Ax (Dx):=⟨fun a=> [.int .i64 (a.Code), .int .i64 (a.At)],fun l=>⟨intOf ((l[0]?).getD undef),intOf ((l[1]?).getD undef)⟩,2,fun _=>rfl,fun _=>rfl,fun _=>rfl⟩
instance:HY.Plain:=⟨fun _ _=>rfl⟩
@[go_sem] theorem fV (a:Dx):HY.enc a= [.int .i64 (a.Code), .int .i64 (a.At)]:=rfl
@[go_sem] theorem fq (a:Dx):Dx.mk a.Code a.At=a:=rfl
@[go_sem] theorem fk (l:List Value):HY.dec l=⟨intOf ((l[0]?).getD undef),intOf ((l[1]?).getD undef)⟩:=rfl
def TZ:Ax (Int):=⟨fun a=> [.int .u64 (a)],fun l=>intOf ((l[0]?).getD undef),1,fun _=>rfl,fun _=>rfl,fun _=>rfl⟩
instance:TZ.Plain:=⟨fun _ _=>rfl⟩
@[go_sem] theorem r5 (a:Int):TZ.enc a= [.int .u64 (a)]:=rfl
@[go_sem] theorem rR (l:List Value):TZ.dec l=intOf ((l[0]?).getD undef):=rfl
def Sq:Ax (Int):=⟨fun a=> [.int .u8 (a)],fun l=>intOf ((l[0]?).getD undef),1,fun _=>rfl,fun _=>rfl,fun _=>rfl⟩
instance:Sq.Plain:=⟨fun _ _=>rfl⟩
@[go_sem] theorem r4 (a:Int):Sq.enc a= [.int .u8 (a)]:=rfl
@[go_sem] theorem rX (l:List Value):Sq.dec l=intOf ((l[0]?).getD undef):=rfl
def Th:Ax (Int):=⟨fun a=> [.int .u64 (a)],fun l=>intOf ((l[0]?).getD undef),1,fun _=>rfl,fun _=>rfl,fun _=>rfl⟩
instance:Th.Plain:=⟨fun _ _=>rfl⟩
@[go_sem] theorem rb (a:Int):Th.enc a= [.int .u64 (a)]:=rfl
@[go_sem] theorem rj (l:List Value):Th.dec l=intOf ((l[0]?).getD undef):=rfl
def Oi:Ax (Int):=⟨fun a=> [.int .i64 (a)],fun l=>intOf ((l[0]?).getD undef),1,fun _=>rfl,fun _=>rfl,fun _=>rfl⟩
instance:Oi.Plain:=⟨fun _ _=>rfl⟩
@[go_sem] theorem pG (a:Int):Oi.enc a= [.int .i64 (a)]:=rfl
@[go_sem] theorem qB (l:List Value):Oi.dec l=intOf ((l[0]?).getD undef):=rfl
def Gf:Ax (Int):=⟨fun a=> [.int .i64 (a)],fun l=>intOf ((l[0]?).getD undef),1,fun _=>rfl,fun _=>rfl,fun _=>rfl⟩
instance:Gf.Plain:=⟨fun _ _=>rfl⟩
@[go_sem] theorem dE (a:Int):Gf.enc a= [.int .i64 (a)]:=rfl
@[go_sem] theorem dL (l:List Value):Gf.dec l=intOf ((l[0]?).getD undef):=rfl
def Iv:Ax (Int):=⟨fun a=> [.int .u64 (a)],fun l=>intOf ((l[0]?).getD undef),1,fun _=>rfl,fun _=>rfl,fun _=>rfl⟩
instance:Iv.Plain:=⟨fun _ _=>rfl⟩
@[go_sem] theorem kE (a:Int):Iv.enc a= [.int .u64 (a)]:=rfl
@[go_sem] theorem kK (l:List Value):Iv.dec l=intOf ((l[0]?).getD undef):=rfl
structure Bo where
 s:List UInt8
instance:Inhabited Bo:=⟨⟨[]⟩⟩
instance:DecidableEq Bo:=fun a b=>decidable_of_iff (a.s=b.s) (by cases a;cases b;simp)
def DT:Ax (Bo):=⟨fun a=> [.string ⟨⟨a.s⟩⟩],fun l=>⟨strOf ((l[0]?).getD undef)⟩,1,fun _=>rfl,fun _=>rfl,fun _=>rfl⟩
instance:DT.Plain:=⟨fun _ _=>rfl⟩
@[go_sem] theorem Qb (a:Bo):DT.enc a= [.string ⟨⟨a.s⟩⟩]:=rfl
@[go_sem] theorem Qe (a:Bo):Bo.mk a.s=a:=rfl
@[go_sem] theorem Qd (l:List Value):DT.dec l=⟨strOf ((l[0]?).getD undef)⟩:=rfl
structure C8 where
 lo:Int
 hi:Int
instance:Inhabited C8:=⟨⟨0,0⟩⟩
instance:DecidableEq C8:=fun a b=>decidable_of_iff (a.lo=b.lo∧a.hi=b.hi) (by cases a;cases b;simp)
def F3:Ax (C8):=⟨fun a=> [.int .u8 (a.lo), .int .u8 (a.hi)],fun l=>⟨intOf ((l[0]?).getD undef),intOf ((l[1]?).getD undef)⟩,2,fun _=>rfl,fun _=>rfl,fun _=>rfl⟩
instance:F3.Plain:=⟨fun _ _=>rfl⟩
@[go_sem] theorem X5 (a:C8):F3.enc a= [.int .u8 (a.lo), .int .u8 (a.hi)]:=rfl
@[go_sem] theorem dA (a:C8):C8.mk a.lo a.hi=a:=rfl
@[go_sem] theorem Z9 (l:List Value):F3.dec l=⟨intOf ((l[0]?).getD undef),intOf ((l[1]?).getD undef)⟩:=rfl
section
theorem Ck {hp:Hp}{v:Value}{l:List (Ac)}(h:Br AU hp v l){hp':Hp}:DY tt.get hp' 22 v=(.int .i64 (l.length:Int),True):=h.QU Bm
theorem Ci {hp:Hp}{v:Value}{l:List (Ac)}(h:Br AU hp v l){k:IntKind}{n:Int}(h0:0≤n)(h1:n < l.length):A1 tt.get 22 v (.int k n)=(BX v (n.toNat * 10),True):=h.idx Bm DX rfl h0 h1
theorem DB {hp:Hp}{v:Value}{l:List (Ac)}(h:Br AU hp v l){i:Nat}(hi:i < l.length):An tt.get hp 33 (BX v (i * 10))=(.agg ⟨AU.enc (at' l i)⟩,True):=h.load DX rfl rfl hi
theorem CN {hp:Hp}{v:Value}{l:List (Ac)}(h:Br AU hp v l){i:Nat}(hi:i < l.length):Az tt.get 33 (BX v (i * 10)) 0=(BX v (i * 10),True):=h.field hi (d:=0) (fun b o=>(by kernel_rfl:BL tt.get 33 (.pointer (some ⟨b,o,none⟩)) 0=some (.pointer (some ⟨b,o+0,none⟩))))
theorem CJ {hp:Hp}{v:Value}{l:List (Ac)}(h:Br AU hp v l){i:Nat}(hi:i < l.length):An tt.get hp 28 (BX v (i * 10))=(.int .u64 ((at' l i).At),True):=h.cell (f:=0) Hk rfl hi (by decide)
theorem CP {hp:Hp}{v:Value}{l:List (Ac)}(h:Br AU hp v l){i:Nat}(hi:i < l.length):Az tt.get 33 (BX v (i * 10)) 1=(BX v (i * 10+1),True):=h.field hi (d:=1) (fun b o=>(by kernel_rfl:BL tt.get 33 (.pointer (some ⟨b,o,none⟩)) 1=some (.pointer (some ⟨b,o+1,none⟩))))
theorem CL {hp:Hp}{v:Value}{l:List (Ac)}(h:Br AU hp v l){i:Nat}(hi:i < l.length):An tt.get hp 3 (BX v (i * 10+1))=(.int .i64 ((at' l i).Kind),True):=h.cell (f:=1) Hi rfl hi (by decide)
theorem CI {hp:Hp}{v:Value}{l:List (Ac)}(h:Br AU hp v l){i:Nat}(hi:i < l.length):Az tt.get 33 (BX v (i * 10)) 2=(BX v (i * 10+2),True):=h.field hi (d:=2) (fun b o=>(by kernel_rfl:BL tt.get 33 (.pointer (some ⟨b,o,none⟩)) 2=some (.pointer (some ⟨b,o+2,none⟩))))
theorem CO {hp:Hp}{v:Value}{l:List (Ac)}(h:Br AU hp v l){i:Nat}(hi:i < l.length):An tt.get hp 3 (BX v (i * 10+2))=(.int .i64 ((at' l i).CA),True):=h.cell (f:=2) Hi rfl hi (by decide)
theorem CH {hp:Hp}{v:Value}{l:List (Ac)}(h:Br AU hp v l){i:Nat}(hi:i < l.length):Az tt.get 33 (BX v (i * 10)) 3=(BX v (i * 10+3),True):=h.field hi (d:=3) (fun b o=>(by kernel_rfl:BL tt.get 33 (.pointer (some ⟨b,o,none⟩)) 3=some (.pointer (some ⟨b,o+3,none⟩))))
theorem CM {hp:Hp}{v:Value}{l:List (Ac)}(h:Br AU hp v l){i:Nat}(hi:i < l.length):An tt.get hp 3 (BX v (i * 10+3))=(.int .i64 ((at' l i).EO),True):=h.cell (f:=3) Hi rfl hi (by decide)
theorem CQ {hp:Hp}{v:Value}{l:List (Ac)}(h:Br AU hp v l){i:Nat}(hi:i < l.length):Az tt.get 33 (BX v (i * 10)) 4=(BX v (i * 10+4),True):=h.field hi (d:=4) (fun b o=>(by kernel_rfl:BL tt.get 33 (.pointer (some ⟨b,o,none⟩)) 4=some (.pointer (some ⟨b,o+4,none⟩))))
theorem CF {hp:Hp}{v:Value}{l:List (Ac)}(h:Br AU hp v l){i:Nat}(hi:i < l.length):An tt.get hp 29 (BX v (i * 10+4))=(.int .u32 ((at' l i).Id),True):=h.cell (f:=4) CU rfl hi (by decide)
theorem CG {hp:Hp}{v:Value}{l:List (Ac)}(h:Br AU hp v l){i:Nat}(hi:i < l.length):Az tt.get 33 (BX v (i * 10)) 5=(BX v (i * 10+5),True):=h.field hi (d:=5) (fun b o=>(by kernel_rfl:BL tt.get 33 (.pointer (some ⟨b,o,none⟩)) 5=some (.pointer (some ⟨b,o+5,none⟩))))
theorem CD {hp:Hp}{v:Value}{l:List (Ac)}(h:Br AU hp v l){i:Nat}(hi:i < l.length):An tt.get hp 3 (BX v (i * 10+5))=(.int .i64 ((at' l i).Set),True):=h.cell (f:=5) Hi rfl hi (by decide)
theorem CK {hp:Hp}{v:Value}{l:List (Ac)}(h:Br AU hp v l){i:Nat}(hi:i < l.length):Az tt.get 33 (BX v (i * 10)) 6=(BX v (i * 10+6),True):=h.field hi (d:=6) (fun b o=>(by kernel_rfl:BL tt.get 33 (.pointer (some ⟨b,o,none⟩)) 6=some (.pointer (some ⟨b,o+6,none⟩))))
theorem DD {hp:Hp}{v:Value}{l:List (Ac)}(h:Br AU hp v l){k:IntKind}{n:Int}(h0:0≤n)(h1:n≤l.length):Bk tt.get hp 22 v none (some (.int k n))=(R3 10 v 0 n.toNat,True):=h.ng Bm DX h0 h1
theorem DA {hp:Hp}{v:Value}{l:List (Ac)}(h:Br AU hp v l){k:IntKind}{n:Int}(h0:0≤n)(h1:n≤l.length):Bk tt.get hp 22 v (some (.int k n)) none=(Rq 10 v n.toNat,True):=h.nw Bm DX rfl h0 h1
@[go_sem] theorem oZ {hp:Hp}{x:Value}{b top:Nat}{l:List (Ac)}(h:hp b=Au AU l)(hx:K3 AU hp x)(hn:l.length+(AU.rd hp x).length≤16777216):A6 tt.get hp top [22,22] (A4 b l) x=some (A4 top (l ++ AU.rd hp x),FK b l top (Au AU (l ++ AU.rd hp x)),top+1):=E6 Bm EY rfl DX rfl rfl h hx hn
@[go_sem] theorem lu {hp:Hp}{x:Value}{top:Nat}(hx:K3 AU hp x)(hn:(AU.rd hp x).length≤16777216):A6 tt.get hp top [22,22] (.slice none 0 0) x=some (A4 top (AU.rd hp x), [(top,Au AU (AU.rd hp x))],top+1):=Ez Bm EY rfl DX rfl rfl hx hn
@[go_sem] theorem Ko {hp:Hp}{b top k:Nat}{l:List (Ac)}(h:hp b=Au AU l)(hk:hp k=some (.cells true 10 (cellsOf (hp k))))(hc:AU.enc (AU.dec (cellsOf (hp k)))=cellsOf (hp k))(hn:DR (l.length+1) Ma.bytes=true):A6 tt.get hp top [22,22] (A4 b l) (.slice (some ⟨k,0,none⟩) 1 1)=some (A4 top (l ++ [AU.dec (cellsOf (hp k))]),FK b l top (Au AU (l ++ [AU.dec (cellsOf (hp k))])),top+1):=IW Bm EY rfl DX rfl rfl h hk hc hn
@[go_sem] theorem ln {hp:Hp}{x:Value}{top:Nat}(hx:K3 AU hp x)(hn:DR (AU.rd hp x).length Ma.bytes=true):A6 tt.get hp top [22,22] (.slice none 0 0) x=some (A4 top (AU.rd hp x), [(top,Au AU (AU.rd hp x))],top+1):=ES Bm EY rfl DX rfl rfl hx hn
@[go_sem] theorem nA {hp:Hp}{top k:Nat}(hk:hp k=some (.cells true 10 (cellsOf (hp k))))(hc:AU.enc (AU.dec (cellsOf (hp k)))=cellsOf (hp k)):A6 tt.get hp top [22,22] (.slice none 0 0) (.slice (some ⟨k,0,none⟩) 1 1)=some (A4 top [AU.dec (cellsOf (hp k))], [(top,Au AU [AU.dec (cellsOf (hp k))])],top+1):=EU Bm EY rfl DX rfl rfl hk hc
@[go_sem] theorem oU {hp:Hp}{b top:Nat}{l l2:List (Ac)}(h:hp b=Au AU l):hp.A0 (FK b l top (Au AU l2))=(hp.set b none).set top (Au AU l2):=KN h
@[go_sem] theorem oW {hp:Hp}{b:Nat}{l:List (Ac)}{i:Nat}(h:hp b=Au AU l)(hi:i < l.length){a0:Int}{a1:Int}{a2:Int}{a3:Int}{a4:Int}{a5:Int}{a6:Int}{a7:Int}{a8:Int}{a9:Int}:Aw tt.get hp 33 (BX (A4 b l) (i * 10)) (.agg ⟨[.int .u64 (a0), .int .i64 (a1), .int .i64 (a2), .int .i64 (a3), .int .u32 (a4), .int .i64 (a5), .int .u64 (a6), .int .u64 (a7), .int .u64 (a8), .int .u64 (a9)]⟩)=([(b,Au AU (l.set i ⟨a0,a1,a2,a3,a4,a5,a6,a7,a8,a9⟩))],True):=Sx (E:=AU) (cs:=AU.enc ⟨a0,a1,a2,a3,a4,a5,a6,a7,a8,a9⟩) DX rfl h hi rfl rfl
@[go_sem] theorem jv {hp:Hp}{b:Nat}{l:List (Ac)}{i:Nat}(h:hp b=Au AU l)(hi:i < l.length){x:Int}:Aw tt.get hp 28 (BX (A4 b l) (i * 10)) (.int .u64 (x))=([(b,Au AU (l.set i {at' l i with At:=x}))],True):=C0 (f:=0) Hk h hi rfl (by decide) rfl rfl
@[go_sem] theorem jh {hp:Hp}{b:Nat}{l:List (Ac)}{i:Nat}(h:hp b=Au AU l)(hi:i < l.length){x:Int}:Aw tt.get hp 3 (BX (A4 b l) (i * 10+1)) (.int .i64 (x))=([(b,Au AU (l.set i {at' l i with Kind:=x}))],True):=C0 (f:=1) Hi h hi rfl (by decide) rfl rfl
@[go_sem] theorem jm {hp:Hp}{b:Nat}{l:List (Ac)}{i:Nat}(h:hp b=Au AU l)(hi:i < l.length){x:Int}:Aw tt.get hp 3 (BX (A4 b l) (i * 10+2)) (.int .i64 (x))=([(b,Au AU (l.set i {at' l i with CA:=x}))],True):=C0 (f:=2) Hi h hi rfl (by decide) rfl rfl
@[go_sem] theorem kH {hp:Hp}{b:Nat}{l:List (Ac)}{i:Nat}(h:hp b=Au AU l)(hi:i < l.length){x:Int}:Aw tt.get hp 3 (BX (A4 b l) (i * 10+3)) (.int .i64 (x))=([(b,Au AU (l.set i {at' l i with EO:=x}))],True):=C0 (f:=3) Hi h hi rfl (by decide) rfl rfl
@[go_sem] theorem jf {hp:Hp}{b:Nat}{l:List (Ac)}{i:Nat}(h:hp b=Au AU l)(hi:i < l.length){x:Int}:Aw tt.get hp 29 (BX (A4 b l) (i * 10+4)) (.int .u32 (x))=([(b,Au AU (l.set i {at' l i with Id:=x}))],True):=C0 (f:=4) CU h hi rfl (by decide) rfl rfl
@[go_sem] theorem j9 {hp:Hp}{b:Nat}{l:List (Ac)}{i:Nat}(h:hp b=Au AU l)(hi:i < l.length){x:Int}:Aw tt.get hp 3 (BX (A4 b l) (i * 10+5)) (.int .i64 (x))=([(b,Au AU (l.set i {at' l i with Set:=x}))],True):=C0 (f:=5) Hi h hi rfl (by decide) rfl rfl
@[go_sem] theorem oe {b:Nat}{l:List (Ac)}{hp2:Hp}:DY tt.get hp2 22 (A4 b l)=(.int .i64 (l.length:Int),True):=by cases l with | nil=>unfold DY A4;simp only [Bm,Fv,EY,Rs];rfl | cons a l=>unfold DY A4;simp only [Bm,Fv,EY,Rs];rfl
end
section
theorem Hj {hp:Hp}{v:Value}{l:List (Int)}(h:Br Aj hp v l){hp':Hp}:DY tt.get hp' 51 v=(.int .i64 (l.length:Int),True):=h.QU Ct
theorem Kq {hp:Hp}{v:Value}{l:List (Int)}(h:Br Aj hp v l){k:IntKind}{n:Int}(h0:0≤n)(h1:n < l.length):A1 tt.get 51 v (.int k n)=(BX v (n.toNat * 1),True):=h.idx Ct CU rfl h0 h1
theorem Sy {hp:Hp}{v:Value}{l:List (Int)}(h:Br Aj hp v l){i:Nat}(hi:i < l.length):An tt.get hp 29 (BX v (i * 1))=(.int .u32 (at' l i),True):=h.cell (f:=0) CU rfl hi (by decide)
theorem Tg {hp:Hp}{v:Value}{l:List (Int)}(h:Br Aj hp v l){k:IntKind}{n:Int}(h0:0≤n)(h1:n≤l.length):Bk tt.get hp 51 v none (some (.int k n))=(R3 1 v 0 n.toNat,True):=h.ng Ct CU h0 h1
theorem TJ {hp:Hp}{v:Value}{l:List (Int)}(h:Br Aj hp v l){k:IntKind}{n:Int}(h0:0≤n)(h1:n≤l.length):Bk tt.get hp 51 v (some (.int k n)) none=(Rq 1 v n.toNat,True):=h.nw Ct CU rfl h0 h1
@[go_sem] theorem mN {hp:Hp}{x:Value}{b top:Nat}{l:List (Int)}(h:hp b=Au Aj l)(hx:K3 Aj hp x)(hn:l.length+(Aj.rd hp x).length≤16777216):A6 tt.get hp top [51,51] (A4 b l) x=some (A4 top (l ++ Aj.rd hp x),FK b l top (Au Aj (l ++ Aj.rd hp x)),top+1):=E6 Ct Dv rfl CU rfl rfl h hx hn
@[go_sem] theorem kI {hp:Hp}{x:Value}{top:Nat}(hx:K3 Aj hp x)(hn:(Aj.rd hp x).length≤16777216):A6 tt.get hp top [51,51] (.slice none 0 0) x=some (A4 top (Aj.rd hp x), [(top,Au Aj (Aj.rd hp x))],top+1):=Ez Ct Dv rfl CU rfl rfl hx hn
@[go_sem] theorem O0 {hp:Hp}{b top k:Nat}{l:List (Int)}(h:hp b=Au Aj l)(hk:hp k=some (.cells true 1 (cellsOf (hp k))))(hc:Aj.enc (Aj.dec (cellsOf (hp k)))=cellsOf (hp k))(hn:DR (l.length+1) I2.bytes=true):A6 tt.get hp top [51,51] (A4 b l) (.slice (some ⟨k,0,none⟩) 1 1)=some (A4 top (l ++ [Aj.dec (cellsOf (hp k))]),FK b l top (Au Aj (l ++ [Aj.dec (cellsOf (hp k))])),top+1):=IW Ct Dv rfl CU rfl rfl h hk hc hn
@[go_sem] theorem kb {hp:Hp}{x:Value}{top:Nat}(hx:K3 Aj hp x)(hn:DR (Aj.rd hp x).length I2.bytes=true):A6 tt.get hp top [51,51] (.slice none 0 0) x=some (A4 top (Aj.rd hp x), [(top,Au Aj (Aj.rd hp x))],top+1):=ES Ct Dv rfl CU rfl rfl hx hn
@[go_sem] theorem jg {hp:Hp}{top k:Nat}(hk:hp k=some (.cells true 1 (cellsOf (hp k))))(hc:Aj.enc (Aj.dec (cellsOf (hp k)))=cellsOf (hp k)):A6 tt.get hp top [51,51] (.slice none 0 0) (.slice (some ⟨k,0,none⟩) 1 1)=some (A4 top [Aj.dec (cellsOf (hp k))], [(top,Au Aj [Aj.dec (cellsOf (hp k))])],top+1):=EU Ct Dv rfl CU rfl rfl hk hc
@[go_sem] theorem ma {hp:Hp}{b top:Nat}{l l2:List (Int)}(h:hp b=Au Aj l):hp.A0 (FK b l top (Au Aj l2))=(hp.set b none).set top (Au Aj l2):=KN h
@[go_sem] theorem Tp {hp:Hp}{b:Nat}{l:List (Int)}{i:Nat}(h:hp b=Au Aj l)(hi:i < l.length){x:Int}:Aw tt.get hp 29 (BX (A4 b l) (i * 1)) (.int .u32 (x))=([(b,Au Aj (l.set i x))],True):=C0 (f:=0) CU h hi rfl (by decide) rfl rfl
@[go_sem] theorem nc {b:Nat}{l:List (Int)}{hp2:Hp}:DY tt.get hp2 51 (A4 b l)=(.int .i64 (l.length:Int),True):=by cases l with | nil=>unfold DY A4;simp only [Ct,Fv,Dv,RN];rfl | cons a l=>unfold DY A4;simp only [Ct,Fv,Dv,RN];rfl
end
section
theorem Cx {hp:Hp}{v:Value}{l:List (List UInt8)}(h:Br Ah hp v l){hp':Hp}:DY tt.get hp' 58 v=(.int .i64 (l.length:Int),True):=h.QU B2
theorem Cf {hp:Hp}{v:Value}{l:List (List UInt8)}(h:Br Ah hp v l){k:IntKind}{n:Int}(h0:0≤n)(h1:n < l.length):A1 tt.get 58 v (.int k n)=(BX v (n.toNat * 1),True):=h.idx B2 C6 rfl h0 h1
theorem Cm {hp:Hp}{v:Value}{l:List (List UInt8)}(h:Br Ah hp v l){i:Nat}(hi:i < l.length):An tt.get hp 9 (BX v (i * 1))=(.string ⟨⟨at' l i⟩⟩,True):=h.cell (f:=0) C6 rfl hi (by decide)
theorem DQ {hp:Hp}{v:Value}{l:List (List UInt8)}(h:Br Ah hp v l){k:IntKind}{n:Int}(h0:0≤n)(h1:n≤l.length):Bk tt.get hp 58 v none (some (.int k n))=(R3 1 v 0 n.toNat,True):=h.ng B2 C6 h0 h1
theorem DU {hp:Hp}{v:Value}{l:List (List UInt8)}(h:Br Ah hp v l){k:IntKind}{n:Int}(h0:0≤n)(h1:n≤l.length):Bk tt.get hp 58 v (some (.int k n)) none=(Rq 1 v n.toNat,True):=h.nw B2 C6 rfl h0 h1
@[go_sem] theorem mD {hp:Hp}{x:Value}{b top:Nat}{l:List (List UInt8)}(h:hp b=Au Ah l)(hx:K3 Ah hp x)(hn:l.length+(Ah.rd hp x).length≤16777216):A6 tt.get hp top [58,58] (A4 b l) x=some (A4 top (l ++ Ah.rd hp x),FK b l top (Au Ah (l ++ Ah.rd hp x)),top+1):=E6 B2 DW rfl C6 rfl rfl h hx hn
@[go_sem] theorem jn {hp:Hp}{x:Value}{top:Nat}(hx:K3 Ah hp x)(hn:(Ah.rd hp x).length≤16777216):A6 tt.get hp top [58,58] (.slice none 0 0) x=some (A4 top (Ah.rd hp x), [(top,Au Ah (Ah.rd hp x))],top+1):=Ez B2 DW rfl C6 rfl rfl hx hn
@[go_sem] theorem jd {hp:Hp}{x:Value}{top:Nat}(hx:K3 Ah hp x)(hn:DR (Ah.rd hp x).length nU.bytes=true):A6 tt.get hp top [58,58] (.slice none 0 0) x=some (A4 top (Ah.rd hp x), [(top,Au Ah (Ah.rd hp x))],top+1):=ES B2 DW rfl C6 rfl rfl hx hn
@[go_sem] theorem kC {hp:Hp}{top k:Nat}(hk:hp k=some (.cells true 1 (cellsOf (hp k))))(hc:Ah.enc (Ah.dec (cellsOf (hp k)))=cellsOf (hp k)):A6 tt.get hp top [58,58] (.slice none 0 0) (.slice (some ⟨k,0,none⟩) 1 1)=some (A4 top [Ah.dec (cellsOf (hp k))], [(top,Au Ah [Ah.dec (cellsOf (hp k))])],top+1):=EU B2 DW rfl C6 rfl rfl hk hc
@[go_sem] theorem lJ {hp:Hp}{b top:Nat}{l l2:List (List UInt8)}(h:hp b=Au Ah l):hp.A0 (FK b l top (Au Ah l2))=(hp.set b none).set top (Au Ah l2):=KN h
@[go_sem] theorem mQ {hp:Hp}{b:Nat}{l:List (List UInt8)}{i:Nat}(h:hp b=Au Ah l)(hi:i < l.length){x:List UInt8}:Aw tt.get hp 9 (BX (A4 b l) (i * 1)) (.string ⟨⟨x⟩⟩)=([(b,Au Ah (l.set i x))],True):=C0 (f:=0) C6 h hi rfl (by decide) rfl rfl
@[go_sem] theorem nE {b:Nat}{l:List (List UInt8)}{hp2:Hp}:DY tt.get hp2 58 (A4 b l)=(.int .i64 (l.length:Int),True):=by cases l with | nil=>unfold DY A4;simp only [B2,Fv,DW,PW];rfl | cons a l=>unfold DY A4;simp only [B2,Fv,DW,PW];rfl
@[go_sem] theorem kO {hp:Hp}{b top k:Nat}{l:List (List UInt8)}(h:hp b=Au Ah l)(hk:hp k=some (.cells true 1 (cellsOf (hp k))))(hc:Ah.enc (Ah.dec (cellsOf (hp k)))=cellsOf (hp k))(hn:l.length < 16777216):A6 tt.get hp top [58,58] (A4 b l) (.slice (some ⟨k,0,none⟩) 1 1)=some (A4 top (l ++ [Ah.dec (cellsOf (hp k))]),FK b l top (Au Ah (l ++ [Ah.dec (cellsOf (hp k))])),top+1):=Oy B2 DW rfl C6 rfl rfl h hk hc hn
end
section
@[go_sem] theorem od {hp:Hp}{x:Value}{b top:Nat}{l:List (Int)}(h:hp b=Au Bh l)(hx:K3 Bh hp x)(hn:l.length+(Bh.rd hp x).length≤16777216):A6 tt.get hp top [60,60] (A4 b l) x=some (A4 top (l ++ Bh.rd hp x),FK b l top (Au Bh (l ++ Bh.rd hp x)),top+1):=E6 FH GM rfl Ji rfl rfl h hx hn
@[go_sem] theorem la {hp:Hp}{x:Value}{top:Nat}(hx:K3 Bh hp x)(hn:(Bh.rd hp x).length≤16777216):A6 tt.get hp top [60,60] (.slice none 0 0) x=some (A4 top (Bh.rd hp x), [(top,Au Bh (Bh.rd hp x))],top+1):=Ez FH GM rfl Ji rfl rfl hx hn
@[go_sem] theorem ky {hp:Hp}{x:Value}{top:Nat}(hx:K3 Bh hp x)(hn:DR (Bh.rd hp x).length oJ.bytes=true):A6 tt.get hp top [60,60] (.slice none 0 0) x=some (A4 top (Bh.rd hp x), [(top,Au Bh (Bh.rd hp x))],top+1):=ES FH GM rfl Ji rfl rfl hx hn
@[go_sem] theorem nt {hp:Hp}{top k:Nat}(hk:hp k=some (.cells true 1 (cellsOf (hp k))))(hc:Bh.enc (Bh.dec (cellsOf (hp k)))=cellsOf (hp k)):A6 tt.get hp top [60,60] (.slice none 0 0) (.slice (some ⟨k,0,none⟩) 1 1)=some (A4 top [Bh.dec (cellsOf (hp k))], [(top,Au Bh [Bh.dec (cellsOf (hp k))])],top+1):=EU FH GM rfl Ji rfl rfl hk hc
@[go_sem] theorem oP {hp:Hp}{b:Nat}{l:List (Int)}{i:Nat}(h:hp b=Au Bh l)(hi:i < l.length){x:Int}:Aw tt.get hp 5 (BX (A4 b l) (i * 1)) (.int .u8 (x))=([(b,Au Bh (l.set i x))],True):=C0 (f:=0) Ji h hi rfl (by decide) rfl rfl
@[go_sem] theorem oa {b:Nat}{l:List (Int)}{hp2:Hp}:DY tt.get hp2 60 (A4 b l)=(.int .i64 (l.length:Int),True):=by cases l with | nil=>unfold DY A4;simp only [FH,Fv,GM,TR];rfl | cons a l=>unfold DY A4;simp only [FH,Fv,GM,TR];rfl
end
theorem IE {s d:TypeId}{k1 k2:IntKind}{hp:Hp}{x:Value}(h1:kindOf tt.get s=some (.int k1))(h2:kindOf tt.get d=some (.int k2)):B0 tt.get hp s d x=(.int k2 (Ae k2 (intOf x)),M4 x):=by
 unfold B0
 simp only [h1,h2,MH]
@[go_sem] theorem ot {hp:Hp}{x:Value}:B0 tt.get hp 3 121 x=(.int .u64 (Ae .u64 (intOf x)),M4 x):=IE Mr QO
@[go_sem] theorem pk {hp:Hp}{x:Value}:B0 tt.get hp 3 185 x=(.int .u64 (Ae .u64 (intOf x)),M4 x):=IE Mr ME
@[go_sem] theorem rQ {hp:Hp}{x:Value}:B0 tt.get hp 28 3 x=(.int .i64 (Ae .i64 (intOf x)),M4 x):=IE Hm Mr
@[go_sem] theorem qa {hp:Hp}{x:Value}:B0 tt.get hp 28 29 x=(.int .u32 (Ae .u32 (intOf x)),M4 x):=IE Hm M1
@[go_sem] theorem qm {hp:Hp}{x:Value}:B0 tt.get hp 29 28 x=(.int .u64 (Ae .u64 (intOf x)),M4 x):=IE M1 Hm
@[go_sem] theorem qx {hp:Hp}{x:Value}:B0 tt.get hp 121 3 x=(.int .i64 (Ae .i64 (intOf x)),M4 x):=IE QO Mr
end Go.Proofs.YthpibnpeaidabaaGreatDoor.Dm
