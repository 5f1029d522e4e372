/- The types and the functions of this translation as the abstract machine has them, and that they are the program's own. -/
import Derived.Test.YthpibnpeaidabaaGreatDoorDmD
import Derived.Test.YthpibnpeaidabaaGreatDoorRows
namespace Go.Proofs.YthpibnpeaidabaaGreatDoor.Dm
open Go.Dm
noncomputable def qw:TI:= {ud:= .int .i64,size:=1,bytes:=8,zero:=(.int .i64 (0)),cmp:=false}
theorem oP:Bd Tryz.prog 2 qw:=Bd.of (by kernel_rfl) (by kernel_rfl) (by kernel_rfl) (by kernel_rfl) (by intro h;cases h)
noncomputable def aN:TI:= {ud:= .int .i64,size:=1,bytes:=8,zero:=(.int .i64 (0)),cmp:=true}
theorem mV:Bd Tryz.prog 3 aN:=Bd.of (by kernel_rfl) (by kernel_rfl) (by kernel_rfl) (by kernel_rfl) (fun _=>⟨by kernel_rfl,by kernel_rfl⟩)
noncomputable def sQ:TI:= {ud:= .bool,size:=1,bytes:=1,zero:=(.bool false),cmp:=false}
theorem nX:Bd Tryz.prog 4 sQ:=Bd.of (by kernel_rfl) (by kernel_rfl) (by kernel_rfl) (by kernel_rfl) (by intro h;cases h)
noncomputable def oh:TI:= {ud:= .int .u8,size:=1,bytes:=1,zero:=(.int .u8 (0)),cmp:=true}
theorem nu:Bd Tryz.prog 5 oh:=Bd.of (by kernel_rfl) (by kernel_rfl) (by kernel_rfl) (by kernel_rfl) (fun _=>⟨by kernel_rfl,by kernel_rfl⟩)
noncomputable def lA:TI:= {ud:= .string,size:=1,bytes:=16,zero:=(.string ⟨⟨[]⟩⟩),cmp:=true}
theorem od:Bd Tryz.prog 9 lA:=Bd.of (by kernel_rfl) (by kernel_rfl) (by kernel_rfl) (by kernel_rfl) (fun _=>⟨by kernel_rfl,by kernel_rfl⟩)
noncomputable def nw:TI:= {ud:= .pointer 216,size:=1,bytes:=8,zero:=(.pointer none),cmp:=false}
theorem eS:Bd Tryz.prog 17 nw:=Bd.of (by kernel_rfl) (by kernel_rfl) (by kernel_rfl) (by kernel_rfl) (by intro h;cases h)
noncomputable def Yz:TI:= {ud:= .interface #[],size:=1,bytes:=16,zero:= .nilIface,cmp:=true}
theorem fO:Bd Tryz.prog 20 Yz:=Bd.of (by kernel_rfl) (by kernel_rfl) (by kernel_rfl) (by kernel_rfl) (fun _=>⟨by kernel_rfl,by kernel_rfl⟩)
noncomputable def aP:TI:= {ud:= .int .i32,size:=1,bytes:=4,zero:=(.int .i32 (0)),cmp:=true}
theorem fj:Bd Tryz.prog 21 aP:=Bd.of (by kernel_rfl) (by kernel_rfl) (by kernel_rfl) (by kernel_rfl) (fun _=>⟨by kernel_rfl,by kernel_rfl⟩)
noncomputable def Pc:TI:= {ud:= .slice 33,size:=1,bytes:=24,zero:=(.slice none 0 0),cmp:=false}
theorem eL:Bd Tryz.prog 22 Pc:=Bd.of (by kernel_rfl) (by kernel_rfl) (by kernel_rfl) (by kernel_rfl) (by intro h;cases h)
noncomputable def bc:TI:= {ud:= .int .i64,size:=1,bytes:=8,zero:=(.int .i64 (0)),cmp:=true}
theorem dm:Bd Tryz.prog 24 bc:=Bd.of (by kernel_rfl) (by kernel_rfl) (by kernel_rfl) (by kernel_rfl) (fun _=>⟨by kernel_rfl,by kernel_rfl⟩)
noncomputable def JY:TI:= {ud:= .int .u64,size:=1,bytes:=8,zero:=(.int .u64 (0)),cmp:=true}
theorem gJ:Bd Tryz.prog 28 JY:=Bd.of (by kernel_rfl) (by kernel_rfl) (by kernel_rfl) (by kernel_rfl) (fun _=>⟨by kernel_rfl,by kernel_rfl⟩)
noncomputable def ID:TI:= {ud:= .int .u32,size:=1,bytes:=4,zero:=(.int .u32 (0)),cmp:=true}
theorem jV:Bd Tryz.prog 29 ID:=Bd.of (by kernel_rfl) (by kernel_rfl) (by kernel_rfl) (by kernel_rfl) (fun _=>⟨by kernel_rfl,by kernel_rfl⟩)
noncomputable def Sq:TI:= {ud:= .array 4 28,size:=4,bytes:=32,zero:=(.agg ⟨[(.int .u64 (0)),(.int .u64 (0)),(.int .u64 (0)),(.int .u64 (0))]⟩),cmp:=true}
theorem gw:Bd Tryz.prog 31 Sq:=Bd.of (by kernel_rfl) (by kernel_rfl) (by kernel_rfl) (by kernel_rfl) (fun _=>⟨by kernel_rfl,by kernel_rfl⟩)
noncomputable def KM:TI:= {ud:= .struct #[{name:= "At",type:=28,offset:=0,embedded:=false,tag:= "",pkgPath:= "",byteOffset:=0}, {name:= "Kind",type:=3,offset:=1,embedded:=false,tag:= "",pkgPath:= "",byteOffset:=8}, {name:= "Router",type:=3,offset:=2,embedded:=false,tag:= "",pkgPath:= "",byteOffset:=16}, {name:= "Peer",type:=3,offset:=3,embedded:=false,tag:= "",pkgPath:= "",byteOffset:=24}, {name:= "Id",type:=29,offset:=4,embedded:=false,tag:= "",pkgPath:= "",byteOffset:=32}, {name:= "Set",type:=3,offset:=5,embedded:=false,tag:= "",pkgPath:= "",byteOffset:=40}, {name:= "Bits",type:=31,offset:=6,embedded:=false,tag:= "",pkgPath:= "",byteOffset:=48}],size:=10,bytes:=80,zero:=(.agg ⟨[(.int .u64 (0)),(.int .i64 (0)),(.int .i64 (0)),(.int .i64 (0)),(.int .u32 (0)),(.int .i64 (0)),(.int .u64 (0)),(.int .u64 (0)),(.int .u64 (0)),(.int .u64 (0))]⟩),cmp:=true}
theorem dy:Bd Tryz.prog 33 KM:=Bd.of (by kernel_rfl) (by kernel_rfl) (by kernel_rfl) (by kernel_rfl) (fun _=>⟨by kernel_rfl,by kernel_rfl⟩)
noncomputable def Nn:TI:= {ud:= .interface #[("Error",69)],size:=1,bytes:=16,zero:= .nilIface,cmp:=false}
theorem jz:Bd Tryz.prog 35 Nn:=Bd.of (by kernel_rfl) (by kernel_rfl) (by kernel_rfl) (by kernel_rfl) (by intro h;cases h)
noncomputable def pS:TI:= {ud:= .struct #[{name:= "Code",type:=24,offset:=0,embedded:=false,tag:= "",pkgPath:= "",byteOffset:=0}, {name:= "At",type:=3,offset:=1,embedded:=false,tag:= "",pkgPath:= "",byteOffset:=8}],size:=2,bytes:=16,zero:=(.agg ⟨[(.int .i64 (0)),(.int .i64 (0))]⟩),cmp:=false}
theorem iY:Bd Tryz.prog 46 pS:=Bd.of (by kernel_rfl) (by kernel_rfl) (by kernel_rfl) (by kernel_rfl) (by intro h;cases h)
noncomputable def Mg:TI:= {ud:= .slice 29,size:=1,bytes:=24,zero:=(.slice none 0 0),cmp:=false}
theorem jA:Bd Tryz.prog 51 Mg:=Bd.of (by kernel_rfl) (by kernel_rfl) (by kernel_rfl) (by kernel_rfl) (by intro h;cases h)
noncomputable def LY:TI:= {ud:= .slice 9,size:=1,bytes:=24,zero:=(.slice none 0 0),cmp:=false}
theorem jI:Bd Tryz.prog 58 LY:=Bd.of (by kernel_rfl) (by kernel_rfl) (by kernel_rfl) (by kernel_rfl) (by intro h;cases h)
noncomputable def Ns:TI:= {ud:= .slice 5,size:=1,bytes:=24,zero:=(.slice none 0 0),cmp:=false}
theorem jG:Bd Tryz.prog 60 Ns:=Bd.of (by kernel_rfl) (by kernel_rfl) (by kernel_rfl) (by kernel_rfl) (by intro h;cases h)
noncomputable def TV:TI:= {ud:= .pointer 65,size:=1,bytes:=8,zero:=(.pointer none),cmp:=true}
theorem dQ:Bd Tryz.prog 63 TV:=Bd.of (by kernel_rfl) (by kernel_rfl) (by kernel_rfl) (by kernel_rfl) (fun _=>⟨by kernel_rfl,by kernel_rfl⟩)
noncomputable def bQ:TI:= {ud:= .struct #[{name:= "addr",type:=63,offset:=0,embedded:=false,tag:= "",pkgPath:= "strings",byteOffset:=0}, {name:= "buf",type:=60,offset:=1,embedded:=false,tag:= "",pkgPath:= "strings",byteOffset:=8}],size:=2,bytes:=32,zero:=(.agg ⟨[(.pointer none),(.slice none 0 0)]⟩),cmp:=false}
theorem eg:Bd Tryz.prog 65 bQ:=Bd.of (by kernel_rfl) (by kernel_rfl) (by kernel_rfl) (by kernel_rfl) (by intro h;cases h)
noncomputable def V6:TI:= {ud:= .array 9 9,size:=9,bytes:=144,zero:=(.agg ⟨[(.string ⟨⟨[]⟩⟩),(.string ⟨⟨[]⟩⟩),(.string ⟨⟨[]⟩⟩),(.string ⟨⟨[]⟩⟩),(.string ⟨⟨[]⟩⟩),(.string ⟨⟨[]⟩⟩),(.string ⟨⟨[]⟩⟩),(.string ⟨⟨[]⟩⟩),(.string ⟨⟨[]⟩⟩)]⟩),cmp:=false}
theorem fV:Bd Tryz.prog 71 V6:=Bd.of (by kernel_rfl) (by kernel_rfl) (by kernel_rfl) (by kernel_rfl) (by intro h;cases h)
noncomputable def QF:TI:= {ud:= .pointer 85,size:=1,bytes:=8,zero:=(.pointer none),cmp:=true}
theorem iw:Bd Tryz.prog 84 QF:=Bd.of (by kernel_rfl) (by kernel_rfl) (by kernel_rfl) (by kernel_rfl) (fun _=>⟨by kernel_rfl,by kernel_rfl⟩)
noncomputable def Xn:TI:= {ud:= .struct #[{name:= "Code",type:=24,offset:=0,embedded:=false,tag:= "",pkgPath:= "",byteOffset:=0}, {name:= "At",type:=3,offset:=1,embedded:=false,tag:= "",pkgPath:= "",byteOffset:=8}],size:=2,bytes:=16,zero:=(.agg ⟨[(.int .i64 (0)),(.int .i64 (0))]⟩),cmp:=false}
theorem eJ:Bd Tryz.prog 85 Xn:=Bd.of (by kernel_rfl) (by kernel_rfl) (by kernel_rfl) (by kernel_rfl) (by intro h;cases h)
noncomputable def pT:TI:= {ud:= .pointer 84,size:=1,bytes:=8,zero:=(.pointer none),cmp:=false}
theorem jr:Bd Tryz.prog 89 pT:=Bd.of (by kernel_rfl) (by kernel_rfl) (by kernel_rfl) (by kernel_rfl) (by intro h;cases h)
noncomputable def nx:TI:= {ud:= .interface #[("AssignableTo",118),("Comparable",23),("Elem",115),("Implements",118),("Kind",117),("Name",69),("PkgPath",69),("Size",217),("String",69),("internal/reflectlite.common",210),("internal/reflectlite.uncommon",218)],size:=1,bytes:=16,zero:= .nilIface,cmp:=false}
theorem de:Bd Tryz.prog 97 nx:=Bd.of (by kernel_rfl) (by kernel_rfl) (by kernel_rfl) (by kernel_rfl) (by intro h;cases h)
noncomputable def MU:TI:= {ud:= .pointer 5,size:=1,bytes:=8,zero:=(.pointer none),cmp:=false}
theorem Xu:Bd Tryz.prog 102 MU:=Bd.of (by kernel_rfl) (by kernel_rfl) (by kernel_rfl) (by kernel_rfl) (by intro h;cases h)
noncomputable def cA:TI:= {ud:= .int .u64,size:=1,bytes:=8,zero:=(.int .u64 (0)),cmp:=false}
theorem Yb:Bd Tryz.prog 111 cA:=Bd.of (by kernel_rfl) (by kernel_rfl) (by kernel_rfl) (by kernel_rfl) (by intro h;cases h)
noncomputable def Z7:TI:= {ud:= .struct #[{name:= "typ_",type:=17,offset:=0,embedded:=false,tag:= "",pkgPath:= "internal/reflectlite",byteOffset:=0}, {name:= "ptr",type:=110,offset:=1,embedded:=false,tag:= "",pkgPath:= "internal/reflectlite",byteOffset:=8}, {name:= "flag",type:=111,offset:=2,embedded:=true,tag:= "",pkgPath:= "internal/reflectlite",byteOffset:=16}],size:=3,bytes:=24,zero:=(.agg ⟨[(.pointer none),(.pointer none),(.int .u64 (0))]⟩),cmp:=false}
theorem ZE:Bd Tryz.prog 113 Z7:=Bd.of (by kernel_rfl) (by kernel_rfl) (by kernel_rfl) (by kernel_rfl) (by intro h;cases h)
noncomputable def Z9:TI:= {ud:= .int .u8,size:=1,bytes:=1,zero:=(.int .u8 (0)),cmp:=true}
theorem Zb:Bd Tryz.prog 116 Z9:=Bd.of (by kernel_rfl) (by kernel_rfl) (by kernel_rfl) (by kernel_rfl) (fun _=>⟨by kernel_rfl,by kernel_rfl⟩)
noncomputable def Rz:TI:= {ud:= .int .u64,size:=1,bytes:=8,zero:=(.int .u64 (0)),cmp:=false}
theorem aD:Bd Tryz.prog 121 Rz:=Bd.of (by kernel_rfl) (by kernel_rfl) (by kernel_rfl) (by kernel_rfl) (by intro h;cases h)
noncomputable def Xg:TI:= {ud:= .slice 3,size:=1,bytes:=24,zero:=(.slice none 0 0),cmp:=false}
theorem cT:Bd Tryz.prog 122 Xg:=Bd.of (by kernel_rfl) (by kernel_rfl) (by kernel_rfl) (by kernel_rfl) (by intro h;cases h)
noncomputable def Yl:TI:= {ud:= .interface #[("Is",131)],size:=1,bytes:=16,zero:= .nilIface,cmp:=false}
theorem aQ:Bd Tryz.prog 129 Yl:=Bd.of (by kernel_rfl) (by kernel_rfl) (by kernel_rfl) (by kernel_rfl) (by intro h;cases h)
noncomputable def Zm:TI:= {ud:= .interface #[("Unwrap",133)],size:=1,bytes:=16,zero:= .nilIface,cmp:=false}
theorem Y2:Bd Tryz.prog 132 Zm:=Bd.of (by kernel_rfl) (by kernel_rfl) (by kernel_rfl) (by kernel_rfl) (by intro h;cases h)
noncomputable def ZF:TI:= {ud:= .interface #[("Unwrap",136)],size:=1,bytes:=16,zero:= .nilIface,cmp:=false}
theorem YJ:Bd Tryz.prog 134 ZF:=Bd.of (by kernel_rfl) (by kernel_rfl) (by kernel_rfl) (by kernel_rfl) (by intro h;cases h)
noncomputable def Xo:TI:= {ud:= .slice 35,size:=1,bytes:=24,zero:=(.slice none 0 0),cmp:=false}
theorem bE:Bd Tryz.prog 135 Xo:=Bd.of (by kernel_rfl) (by kernel_rfl) (by kernel_rfl) (by kernel_rfl) (by intro h;cases h)
noncomputable def RG:TI:= {ud:= .array 24 5,size:=24,bytes:=24,zero:=(.agg ⟨(IV 24 (.int .u8 (0)))⟩),cmp:=false}
theorem cQ:Bd Tryz.prog 139 RG:=Bd.of (by kernel_rfl) (by kernel_rfl) (by kernel_rfl) (by kernel_rfl) (by intro h;cases h)
noncomputable def ZW:TI:= {ud:= .interface #[("As",152)],size:=1,bytes:=16,zero:= .nilIface,cmp:=false}
theorem Zo:Bd Tryz.prog 150 ZW:=Bd.of (by kernel_rfl) (by kernel_rfl) (by kernel_rfl) (by kernel_rfl) (by intro h;cases h)
noncomputable def Rr:TI:= {ud:= .int .i64,size:=1,bytes:=8,zero:=(.int .i64 (0)),cmp:=false}
theorem ZT:Bd Tryz.prog 153 Rr:=Bd.of (by kernel_rfl) (by kernel_rfl) (by kernel_rfl) (by kernel_rfl) (by intro h;cases h)
noncomputable def LC:TI:= {ud:= .pointer 183,size:=1,bytes:=8,zero:=(.pointer none),cmp:=false}
theorem cH:Bd Tryz.prog 155 LC:=Bd.of (by kernel_rfl) (by kernel_rfl) (by kernel_rfl) (by kernel_rfl) (by intro h;cases h)
noncomputable def R0:TI:= {ud:= .int .i64,size:=1,bytes:=8,zero:=(.int .i64 (0)),cmp:=true}
theorem Yn:Bd Tryz.prog 162 R0:=Bd.of (by kernel_rfl) (by kernel_rfl) (by kernel_rfl) (by kernel_rfl) (fun _=>⟨by kernel_rfl,by kernel_rfl⟩)
noncomputable def Q1:TI:= {ud:= .array 20 28,size:=20,bytes:=160,zero:=(.agg ⟨(IV 20 (.int .u64 (0)))⟩),cmp:=false}
theorem bg:Bd Tryz.prog 173 Q1:=Bd.of (by kernel_rfl) (by kernel_rfl) (by kernel_rfl) (by kernel_rfl) (by intro h;cases h)
noncomputable def RO:TI:= {ud:= .array 65 5,size:=65,bytes:=65,zero:=(.agg ⟨(IV 65 (.int .u8 (0)))⟩),cmp:=false}
theorem Yy:Bd Tryz.prog 174 RO:=Bd.of (by kernel_rfl) (by kernel_rfl) (by kernel_rfl) (by kernel_rfl) (by intro h;cases h)
noncomputable def RW:TI:= {ud:= .array 64 5,size:=64,bytes:=64,zero:=(.agg ⟨(IV 64 (.int .u8 (0)))⟩),cmp:=false}
theorem Y9:Bd Tryz.prog 175 RW:=Bd.of (by kernel_rfl) (by kernel_rfl) (by kernel_rfl) (by kernel_rfl) (by intro h;cases h)
noncomputable def SF:TI:= {ud:= .struct #[{name:= "Func",type:=9,offset:=0,embedded:=false,tag:= "",pkgPath:= "",byteOffset:=0}, {name:= "Num",type:=9,offset:=1,embedded:=false,tag:= "",pkgPath:= "",byteOffset:=16}, {name:= "Err",type:=35,offset:=2,embedded:=false,tag:= "",pkgPath:= "",byteOffset:=32}],size:=3,bytes:=48,zero:=(.agg ⟨[(.string ⟨⟨[]⟩⟩),(.string ⟨⟨[]⟩⟩), .nilIface]⟩),cmp:=false}
theorem Zu:Bd Tryz.prog 183 SF:=Bd.of (by kernel_rfl) (by kernel_rfl) (by kernel_rfl) (by kernel_rfl) (by intro h;cases h)
noncomputable def Qm:TI:= {ud:= .int .u64,size:=1,bytes:=8,zero:=(.int .u64 (0)),cmp:=false}
theorem Yf:Bd Tryz.prog 185 Qm:=Bd.of (by kernel_rfl) (by kernel_rfl) (by kernel_rfl) (by kernel_rfl) (by intro h;cases h)
noncomputable def K5:TI:= {ud:= .pointer 3,size:=1,bytes:=8,zero:=(.pointer none),cmp:=false}
theorem bf:Bd Tryz.prog 189 K5:=Bd.of (by kernel_rfl) (by kernel_rfl) (by kernel_rfl) (by kernel_rfl) (by intro h;cases h)
noncomputable def Le:TI:= {ud:= .pointer 196,size:=1,bytes:=8,zero:=(.pointer none),cmp:=false}
theorem X7:Bd Tryz.prog 194 Le:=Bd.of (by kernel_rfl) (by kernel_rfl) (by kernel_rfl) (by kernel_rfl) (by intro h;cases h)
noncomputable def RZ:TI:= {ud:= .struct #[{name:= "s",type:=9,offset:=0,embedded:=false,tag:= "",pkgPath:= "errors",byteOffset:=0}],size:=1,bytes:=16,zero:=(.agg ⟨[(.string ⟨⟨[]⟩⟩)]⟩),cmp:=false}
theorem ay:Bd Tryz.prog 196 RZ:=Bd.of (by kernel_rfl) (by kernel_rfl) (by kernel_rfl) (by kernel_rfl) (by intro h;cases h)
noncomputable def QY:TI:= {ud:= .array 32 5,size:=32,bytes:=32,zero:=(.agg ⟨(IV 32 (.int .u8 (0)))⟩),cmp:=false}
theorem Xt:Bd Tryz.prog 200 QY:=Bd.of (by kernel_rfl) (by kernel_rfl) (by kernel_rfl) (by kernel_rfl) (by intro h;cases h)
noncomputable def RY:TI:= {ud:= .array 256 5,size:=256,bytes:=256,zero:=(.agg ⟨(IV 256 (.int .u8 (0)))⟩),cmp:=false}
theorem bt:Bd Tryz.prog 201 RY:=Bd.of (by kernel_rfl) (by kernel_rfl) (by kernel_rfl) (by kernel_rfl) (by intro h;cases h)
noncomputable def R8:TI:= {ud:= .struct #[{name:= "lo",type:=5,offset:=0,embedded:=false,tag:= "",pkgPath:= "unicode/utf8",byteOffset:=0}, {name:= "hi",type:=5,offset:=1,embedded:=false,tag:= "",pkgPath:= "unicode/utf8",byteOffset:=1}],size:=2,bytes:=2,zero:=(.agg ⟨[(.int .u8 (0)),(.int .u8 (0))]⟩),cmp:=false}
theorem bm:Bd Tryz.prog 203 R8:=Bd.of (by kernel_rfl) (by kernel_rfl) (by kernel_rfl) (by kernel_rfl) (by intro h;cases h)
noncomputable def R4:TI:= {ud:= .array 16 203,size:=32,bytes:=32,zero:=(.agg ⟨(IV 32 (.int .u8 (0)))⟩),cmp:=false}
theorem YC:Bd Tryz.prog 204 R4:=Bd.of (by kernel_rfl) (by kernel_rfl) (by kernel_rfl) (by kernel_rfl) (by intro h;cases h)
noncomputable def tt:T TI:=(.node (.node (.node (.node (.node (.node (.node .nil (some TV) .nil) (some Sq) .nil) none (.node .nil none (.node (.node .nil (some RW) .nil) (some cA) .nil))) none (.node (.node (.node (.node .nil (some Xo) .nil) (some V6) .nil) none .nil) none (.node .nil none (.node (.node .nil (some SF) .nil) none .nil)))) (some aN) (.node (.node (.node .nil (some Nn) .nil) none (.node .nil (some Mg) .nil)) none (.node (.node (.node (.node .nil (some RG) .nil) none (.node .nil (some R8) .nil)) none .nil) none (.node (.node (.node .nil (some LC) .nil) none .nil) none .nil)))) none (.node (.node (.node (.node (.node (.node .nil (some Yl) .nil) (some bQ) .nil) (some KM) (.node .nil (some nx) .nil)) (some nw) (.node .nil none (.node .nil (some Z7) .nil))) (some lA) (.node (.node (.node .nil none (.node .nil (some RY) .nil)) none .nil) none (.node (.node (.node .nil (some Rr) .nil) (some pT) .nil) none (.node (.node .nil (some Qm) .nil) (some Rz) .nil)))) (some oh) (.node (.node .nil (some aP) (.node (.node .nil (some Xn) .nil) none .nil)) none (.node (.node .nil none (.node (.node .nil (some Q1) .nil) none .nil)) (some ID) (.node .nil none (.node (.node .nil (some K5) .nil) none .nil)))))) none (.node (.node (.node .nil none (.node (.node (.node .nil none (.node .nil (some QY) .nil)) none .nil) (some bc) .nil)) (some sQ) (.node (.node (.node (.node (.node .nil (some Zm) .nil) none (.node .nil (some RZ) .nil)) none .nil) (some Yz) (.node (.node .nil (some QF) .nil) none (.node .nil (some Z9) .nil))) none (.node (.node (.node .nil none (.node .nil (some R4) .nil)) none .nil) (some JY) (.node .nil (some Ns) .nil)))) (some qw) (.node (.node (.node (.node (.node .nil none (.node .nil (some Le) .nil)) none (.node (.node .nil (some R0) .nil) none .nil)) none .nil) none (.node .nil none (.node .nil (some LY) (.node .nil (some Xg) .nil)))) none (.node (.node (.node (.node (.node .nil (some ZF) .nil) none .nil) none (.node .nil (some MU) .nil)) (some Pc) (.node (.node (.node .nil (some ZW) .nil) none .nil) none .nil)) none (.node (.node .nil (some pS) (.node (.node .nil (some RO) .nil) none .nil)) none .nil)))))
noncomputable def tl:List (Nat×TI):= [(3,aN),(31,Sq),(63,TV),(111,cA),(175,RW),(71,V6),(135,Xo),(183,SF),(35,Nn),(51,Mg),(139,RG),(203,R8),(155,LC),(5,oh),(9,lA),(17,nw),(33,KM),(65,bQ),(129,Yl),(97,nx),(113,Z7),(201,RY),(89,pT),(153,Rr),(121,Rz),(185,Qm),(21,aP),(85,Xn),(29,ID),(173,Q1),(189,K5),(2,qw),(4,sQ),(24,bc),(200,QY),(20,Yz),(132,Zm),(196,RZ),(84,QF),(116,Z9),(28,JY),(204,R4),(60,Ns),(194,Le),(162,R0),(58,LY),(122,Xg),(22,Pc),(134,ZF),(102,MU),(150,ZW),(46,pS),(174,RO)]
theorem rF:tt.pM 1 0=tl:=by kernel_rfl
set_option maxRecDepth 100000 in
theorem q9:∀p∈tl,Bd Tryz.prog p.1 p.2:=List.forall_mem_cons.2 ⟨mV,List.forall_mem_cons.2 ⟨gw,List.forall_mem_cons.2 ⟨dQ,List.forall_mem_cons.2 ⟨Yb,List.forall_mem_cons.2 ⟨Y9,List.forall_mem_cons.2 ⟨fV,List.forall_mem_cons.2 ⟨bE,List.forall_mem_cons.2 ⟨Zu,List.forall_mem_cons.2 ⟨jz,List.forall_mem_cons.2 ⟨jA,List.forall_mem_cons.2 ⟨cQ,List.forall_mem_cons.2 ⟨bm,List.forall_mem_cons.2 ⟨cH,List.forall_mem_cons.2 ⟨nu,List.forall_mem_cons.2 ⟨od,List.forall_mem_cons.2 ⟨eS,List.forall_mem_cons.2 ⟨dy,List.forall_mem_cons.2 ⟨eg,List.forall_mem_cons.2 ⟨aQ,List.forall_mem_cons.2 ⟨de,List.forall_mem_cons.2 ⟨ZE,List.forall_mem_cons.2 ⟨bt,List.forall_mem_cons.2 ⟨jr,List.forall_mem_cons.2 ⟨ZT,List.forall_mem_cons.2 ⟨aD,List.forall_mem_cons.2 ⟨Yf,List.forall_mem_cons.2 ⟨fj,List.forall_mem_cons.2 ⟨eJ,List.forall_mem_cons.2 ⟨jV,List.forall_mem_cons.2 ⟨bg,List.forall_mem_cons.2 ⟨bf,List.forall_mem_cons.2 ⟨oP,List.forall_mem_cons.2 ⟨nX,List.forall_mem_cons.2 ⟨dm,List.forall_mem_cons.2 ⟨Xt,List.forall_mem_cons.2 ⟨fO,List.forall_mem_cons.2 ⟨Y2,List.forall_mem_cons.2 ⟨ay,List.forall_mem_cons.2 ⟨iw,List.forall_mem_cons.2 ⟨Zb,List.forall_mem_cons.2 ⟨gJ,List.forall_mem_cons.2 ⟨YC,List.forall_mem_cons.2 ⟨jG,List.forall_mem_cons.2 ⟨X7,List.forall_mem_cons.2 ⟨Yn,List.forall_mem_cons.2 ⟨jI,List.forall_mem_cons.2 ⟨cT,List.forall_mem_cons.2 ⟨eL,List.forall_mem_cons.2 ⟨YJ,List.forall_mem_cons.2 ⟨Xu,List.forall_mem_cons.2 ⟨Zo,List.forall_mem_cons.2 ⟨iY,List.forall_mem_cons.2 ⟨Yy,(fun _ h=>by cases h)⟩⟩⟩⟩⟩⟩⟩⟩⟩⟩⟩⟩⟩⟩⟩⟩⟩⟩⟩⟩⟩⟩⟩⟩⟩⟩⟩⟩⟩⟩⟩⟩⟩⟩⟩⟩⟩⟩⟩⟩⟩⟩⟩⟩⟩⟩⟩⟩⟩⟩⟩⟩⟩
theorem BC:B5 Tryz.prog tt.get:=fun k i h=>q9 (k,i) (rF ▸ T.T8 h)
theorem me:Ah Tryz.prog 3 Tryz.f3:=⟨⟨Tryz.func3,by kernel_rfl,by kernel_rfl⟩,Ah.AD (by kernel_rfl)⟩
theorem mg:Ah Tryz.prog 4 Tryz.f4:=⟨⟨Tryz.func4,by kernel_rfl,by kernel_rfl⟩,Ah.AD (by kernel_rfl)⟩
theorem nj:Ah Tryz.prog 5 Tryz.f5:=⟨⟨Tryz.func5,by kernel_rfl,by kernel_rfl⟩,Ah.AD (by kernel_rfl)⟩
theorem TA:Ah Tryz.prog 6 Tryz.f6:=⟨⟨Tryz.func6,by kernel_rfl,by kernel_rfl⟩,Ah.AD (by kernel_rfl)⟩
theorem nd:Ah Tryz.prog 7 Tryz.f7:=⟨⟨Tryz.func7,by kernel_rfl,by kernel_rfl⟩,Ah.AD (by kernel_rfl)⟩
theorem nL:Ah Tryz.prog 8 Tryz.f8:=⟨⟨Tryz.func8,by kernel_rfl,by kernel_rfl⟩,Ah.AD (by kernel_rfl)⟩
theorem TZ:Ah Tryz.prog 9 Tryz.f9:=⟨⟨Tryz.func9,by kernel_rfl,by kernel_rfl⟩,Ah.AD (by kernel_rfl)⟩
theorem il:Ah Tryz.prog 10 Tryz.f10:=⟨⟨Tryz.func10,by kernel_rfl,by kernel_rfl⟩,Ah.AD (by kernel_rfl)⟩
theorem O9:Ah Tryz.prog 11 Tryz.f11:=⟨⟨Tryz.func11,by kernel_rfl,by kernel_rfl⟩,Ah.AD (by kernel_rfl)⟩
theorem N1:Ah Tryz.prog 12 Tryz.f12:=⟨⟨Tryz.func12,by kernel_rfl,by kernel_rfl⟩,Ah.AD (by kernel_rfl)⟩
theorem ep:Ah Tryz.prog 13 Tryz.f13:=⟨⟨Tryz.func13,by kernel_rfl,by kernel_rfl⟩,Ah.AD (by kernel_rfl)⟩
theorem jd:Ah Tryz.prog 14 Tryz.f14:=⟨⟨Tryz.func14,by kernel_rfl,by kernel_rfl⟩,Ah.AD (by kernel_rfl)⟩
theorem gQ:Ah Tryz.prog 15 Tryz.f15:=⟨⟨Tryz.func15,by kernel_rfl,by kernel_rfl⟩,Ah.AD (by kernel_rfl)⟩
theorem gz:Ah Tryz.prog 16 Tryz.f16:=⟨⟨Tryz.func16,by kernel_rfl,by kernel_rfl⟩,Ah.AD (by kernel_rfl)⟩
theorem jW:Ah Tryz.prog 17 Tryz.f17:=⟨⟨Tryz.func17,by kernel_rfl,by kernel_rfl⟩,Ah.AD (by kernel_rfl)⟩
theorem gE:Ah Tryz.prog 18 Tryz.f18:=⟨⟨Tryz.func18,by kernel_rfl,by kernel_rfl⟩,Ah.AD (by kernel_rfl)⟩
theorem Pa:Ah Tryz.prog 19 Tryz.f19:=⟨⟨Tryz.func19,by kernel_rfl,by kernel_rfl⟩,Ah.AD (by kernel_rfl)⟩
theorem Nd:Ah Tryz.prog 20 Tryz.f20:=⟨⟨Tryz.func20,by kernel_rfl,by kernel_rfl⟩,Ah.AD (by kernel_rfl)⟩
theorem fT:Ah Tryz.prog 21 Tryz.f21:=⟨⟨Tryz.func21,by kernel_rfl,by kernel_rfl⟩,Ah.AD (by kernel_rfl)⟩
theorem eE:Ah Tryz.prog 22 Tryz.f22:=⟨⟨Tryz.func22,by kernel_rfl,by kernel_rfl⟩,Ah.AD (by kernel_rfl)⟩
theorem iJ:Ah Tryz.prog 23 Tryz.f23:=⟨⟨Tryz.func23,by kernel_rfl,by kernel_rfl⟩,Ah.AD (by kernel_rfl)⟩
theorem eK:Ah Tryz.prog 24 Tryz.f24:=⟨⟨Tryz.func24,by kernel_rfl,by kernel_rfl⟩,Ah.AD (by kernel_rfl)⟩
theorem fx:Ah Tryz.prog 25 Tryz.f25:=⟨⟨Tryz.func25,by kernel_rfl,by kernel_rfl⟩,Ah.AD (by kernel_rfl)⟩
theorem gh:Ah Tryz.prog 26 Tryz.f26:=⟨⟨Tryz.func26,by kernel_rfl,by kernel_rfl⟩,Ah.AD (by kernel_rfl)⟩
theorem ew:Ah Tryz.prog 27 Tryz.f27:=⟨⟨Tryz.func27,by kernel_rfl,by kernel_rfl⟩,Ah.AD (by kernel_rfl)⟩
theorem NW:Ah Tryz.prog 28 Tryz.f28:=⟨⟨Tryz.func28,by kernel_rfl,by kernel_rfl⟩,Ah.AD (by kernel_rfl)⟩
theorem OW:Ah Tryz.prog 29 Tryz.f29:=⟨⟨Tryz.func29,by kernel_rfl,by kernel_rfl⟩,Ah.AD (by kernel_rfl)⟩
theorem fp:Ah Tryz.prog 30 Tryz.f30:=⟨⟨Tryz.func30,by kernel_rfl,by kernel_rfl⟩,Ah.AD (by kernel_rfl)⟩
theorem jJ:Ah Tryz.prog 31 Tryz.f31:=⟨⟨Tryz.func31,by kernel_rfl,by kernel_rfl⟩,Ah.AD (by kernel_rfl)⟩
theorem iu:Ah Tryz.prog 32 Tryz.f32:=⟨⟨Tryz.func32,by kernel_rfl,by kernel_rfl⟩,Ah.AD (by kernel_rfl)⟩
theorem U2:Ah Tryz.prog 33 Tryz.f33:=⟨⟨Tryz.func33,by kernel_rfl,by kernel_rfl⟩,Ah.AD (by kernel_rfl)⟩
theorem PG:Ah Tryz.prog 34 Tryz.f34:=⟨⟨Tryz.func34,by kernel_rfl,by kernel_rfl⟩,Ah.AD (by kernel_rfl)⟩
theorem VZ:Ah Tryz.prog 35 Tryz.f35:=⟨⟨Tryz.func35,by kernel_rfl,by kernel_rfl⟩,Ah.AD (by kernel_rfl)⟩
theorem NY:Ah Tryz.prog 36 Tryz.f36:=⟨⟨Tryz.func36,by kernel_rfl,by kernel_rfl⟩,Ah.AD (by kernel_rfl)⟩
theorem UX:Ah Tryz.prog 37 Tryz.f37:=⟨⟨Tryz.func37,by kernel_rfl,by kernel_rfl⟩,Ah.AD (by kernel_rfl)⟩
theorem Vg:Ah Tryz.prog 38 Tryz.f38:=⟨⟨Tryz.func38,by kernel_rfl,by kernel_rfl⟩,Ah.AD (by kernel_rfl)⟩
theorem Ov:Ah Tryz.prog 39 Tryz.f39:=⟨⟨Tryz.func39,by kernel_rfl,by kernel_rfl⟩,Ah.AD (by kernel_rfl)⟩
theorem Pr:Ah Tryz.prog 40 Tryz.f40:=⟨⟨Tryz.func40,by kernel_rfl,by kernel_rfl⟩,Ah.AD (by kernel_rfl)⟩
theorem OJ:Ah Tryz.prog 41 Tryz.f41:=⟨⟨Tryz.func41,by kernel_rfl,by kernel_rfl⟩,Ah.AD (by kernel_rfl)⟩
theorem Pj:Ah Tryz.prog 42 Tryz.f42:=⟨⟨Tryz.func42,by kernel_rfl,by kernel_rfl⟩,Ah.AD (by kernel_rfl)⟩
theorem UU:Ah Tryz.prog 43 Tryz.f43:=⟨⟨Tryz.func43,by kernel_rfl,by kernel_rfl⟩,Ah.AD (by kernel_rfl)⟩
theorem ie:Ah Tryz.prog 44 Tryz.f44:=⟨⟨Tryz.func44,by kernel_rfl,by kernel_rfl⟩,Ah.AD (by kernel_rfl)⟩
theorem eW:Ah Tryz.prog 45 Tryz.f45:=⟨⟨Tryz.func45,by kernel_rfl,by kernel_rfl⟩,Ah.AD (by kernel_rfl)⟩
theorem UF:Ah Tryz.prog 46 Tryz.f46:=⟨⟨Tryz.func46,by kernel_rfl,by kernel_rfl⟩,Ah.AD (by kernel_rfl)⟩
theorem jg:Ah Tryz.prog 47 Tryz.f47:=⟨⟨Tryz.func47,by kernel_rfl,by kernel_rfl⟩,Ah.AD (by kernel_rfl)⟩
theorem Ui:Ah Tryz.prog 48 Tryz.f48:=⟨⟨Tryz.func48,by kernel_rfl,by kernel_rfl⟩,Ah.AD (by kernel_rfl)⟩
theorem gY:Ah Tryz.prog 49 Tryz.f49:=⟨⟨Tryz.func49,by kernel_rfl,by kernel_rfl⟩,Ah.AD (by kernel_rfl)⟩
theorem fQ:Ah Tryz.prog 50 Tryz.f50:=⟨⟨Tryz.func50,by kernel_rfl,by kernel_rfl⟩,Ah.AD (by kernel_rfl)⟩
theorem Ki:Ah Tryz.prog 51 Tryz.f51:=⟨⟨Tryz.func51,by kernel_rfl,by kernel_rfl⟩,Ah.AD (by kernel_rfl)⟩
theorem I3:Ah Tryz.prog 52 Tryz.f52:=⟨⟨Tryz.func52,by kernel_rfl,by kernel_rfl⟩,Ah.AD (by kernel_rfl)⟩
theorem dF:Ah Tryz.prog 54 Tryz.f54:=⟨⟨Tryz.func54,by kernel_rfl,by kernel_rfl⟩,Ah.AD (by kernel_rfl)⟩
theorem OU:Ah Tryz.prog 55 Tryz.f55:=⟨⟨Tryz.func55,by kernel_rfl,by kernel_rfl⟩,Ah.AD (by kernel_rfl)⟩
theorem PV:Ah Tryz.prog 56 Tryz.f56:=⟨⟨Tryz.func56,by kernel_rfl,by kernel_rfl⟩,Ah.AD (by kernel_rfl)⟩
theorem PA:Ah Tryz.prog 57 Tryz.f57:=⟨⟨Tryz.func57,by kernel_rfl,by kernel_rfl⟩,Ah.AD (by kernel_rfl)⟩
theorem iv:Ah Tryz.prog 58 Tryz.f58:=⟨⟨Tryz.func58,by kernel_rfl,by kernel_rfl⟩,Ah.AD (by kernel_rfl)⟩
theorem dq:Ah Tryz.prog 59 Tryz.f59:=⟨⟨Tryz.func59,by kernel_rfl,by kernel_rfl⟩,Ah.AD (by kernel_rfl)⟩
theorem iH:Ah Tryz.prog 60 Tryz.f60:=⟨⟨Tryz.func60,by kernel_rfl,by kernel_rfl⟩,Ah.AD (by kernel_rfl)⟩
theorem Oy:Ah Tryz.prog 61 Tryz.f61:=⟨⟨Tryz.func61,by kernel_rfl,by kernel_rfl⟩,Ah.AD (by kernel_rfl)⟩
theorem gq:Ah Tryz.prog 62 Tryz.f62:=⟨⟨Tryz.func62,by kernel_rfl,by kernel_rfl⟩,Ah.AD (by kernel_rfl)⟩
theorem eQ:Ah Tryz.prog 63 Tryz.f63:=⟨⟨Tryz.func63,by kernel_rfl,by kernel_rfl⟩,Ah.AD (by kernel_rfl)⟩
theorem PN:Ah Tryz.prog 64 Tryz.f64:=⟨⟨Tryz.func64,by kernel_rfl,by kernel_rfl⟩,Ah.AD (by kernel_rfl)⟩
theorem PM:Ah Tryz.prog 65 Tryz.f65:=⟨⟨Tryz.func65,by kernel_rfl,by kernel_rfl⟩,Ah.AD (by kernel_rfl)⟩
theorem Vf:Ah Tryz.prog 66 Tryz.f66:=⟨⟨Tryz.func66,by kernel_rfl,by kernel_rfl⟩,Ah.AD (by kernel_rfl)⟩
theorem N4:Ah Tryz.prog 67 Tryz.f67:=⟨⟨Tryz.func67,by kernel_rfl,by kernel_rfl⟩,Ah.AD (by kernel_rfl)⟩
theorem N9:Ah Tryz.prog 68 Tryz.f68:=⟨⟨Tryz.func68,by kernel_rfl,by kernel_rfl⟩,Ah.AD (by kernel_rfl)⟩
theorem dK:Ah Tryz.prog 69 Tryz.f69:=⟨⟨Tryz.func69,by kernel_rfl,by kernel_rfl⟩,Ah.AD (by kernel_rfl)⟩
theorem kB:Ah Tryz.prog 73 Tryz.f73:=⟨⟨Tryz.func73,by kernel_rfl,by kernel_rfl⟩,Ah.AD (by kernel_rfl)⟩
theorem eY:Ah Tryz.prog 74 Tryz.f74:=⟨⟨Tryz.func74,by kernel_rfl,by kernel_rfl⟩,Ah.AD (by kernel_rfl)⟩
theorem iS:Ah Tryz.prog 75 Tryz.f75:=⟨⟨Tryz.func75,by kernel_rfl,by kernel_rfl⟩,Ah.AD (by kernel_rfl)⟩
theorem fy:Ah Tryz.prog 76 Tryz.f76:=⟨⟨Tryz.func76,by kernel_rfl,by kernel_rfl⟩,Ah.AD (by kernel_rfl)⟩
theorem iZ:Ah Tryz.prog 77 Tryz.f77:=⟨⟨Tryz.func77,by kernel_rfl,by kernel_rfl⟩,Ah.AD (by kernel_rfl)⟩
theorem jT:Ah Tryz.prog 78 Tryz.f78:=⟨⟨Tryz.func78,by kernel_rfl,by kernel_rfl⟩,Ah.AD (by kernel_rfl)⟩
theorem I6:Ah Tryz.prog 79 Tryz.f79:=⟨⟨Tryz.func79,by kernel_rfl,by kernel_rfl⟩,Ah.AD (by kernel_rfl)⟩
theorem Ur:Ah Tryz.prog 80 Tryz.f80:=⟨⟨Tryz.func80,by kernel_rfl,by kernel_rfl⟩,Ah.AD (by kernel_rfl)⟩
theorem Oe:Ah Tryz.prog 81 Tryz.f81:=⟨⟨Tryz.func81,by kernel_rfl,by kernel_rfl⟩,Ah.AD (by kernel_rfl)⟩
theorem dR:Ah Tryz.prog 83 Tryz.f83:=⟨⟨Tryz.func83,by kernel_rfl,by kernel_rfl⟩,Ah.AD (by kernel_rfl)⟩
theorem fE:Ah Tryz.prog 84 Tryz.f84:=⟨⟨Tryz.func84,by kernel_rfl,by kernel_rfl⟩,Ah.AD (by kernel_rfl)⟩
theorem gn:Ah Tryz.prog 85 Tryz.f85:=⟨⟨Tryz.func85,by kernel_rfl,by kernel_rfl⟩,Ah.AD (by kernel_rfl)⟩
theorem jo:Ah Tryz.prog 86 Tryz.f86:=⟨⟨Tryz.func86,by kernel_rfl,by kernel_rfl⟩,Ah.AD (by kernel_rfl)⟩
theorem fG:Ah Tryz.prog 87 Tryz.f87:=⟨⟨Tryz.func87,by kernel_rfl,by kernel_rfl⟩,Ah.AD (by kernel_rfl)⟩
theorem OL:Ah Tryz.prog 88 Tryz.f88:=⟨⟨Tryz.func88,by kernel_rfl,by kernel_rfl⟩,Ah.AD (by kernel_rfl)⟩
theorem VS:Ah Tryz.prog 89 Tryz.f89:=⟨⟨Tryz.func89,by kernel_rfl,by kernel_rfl⟩,Ah.AD (by kernel_rfl)⟩
theorem df:Ah Tryz.prog 90 Tryz.f90:=⟨⟨Tryz.func90,by kernel_rfl,by kernel_rfl⟩,Ah.AD (by kernel_rfl)⟩
theorem gF:Ah Tryz.prog 91 Tryz.f91:=⟨⟨Tryz.func91,by kernel_rfl,by kernel_rfl⟩,Ah.AD (by kernel_rfl)⟩
theorem gG:Ah Tryz.prog 92 Tryz.f92:=⟨⟨Tryz.func92,by kernel_rfl,by kernel_rfl⟩,Ah.AD (by kernel_rfl)⟩
theorem fc:Ah Tryz.prog 93 Tryz.f93:=⟨⟨Tryz.func93,by kernel_rfl,by kernel_rfl⟩,Ah.AD (by kernel_rfl)⟩
theorem PY:Ah Tryz.prog 94 Tryz.f94:=⟨⟨Tryz.func94,by kernel_rfl,by kernel_rfl⟩,Ah.AD (by kernel_rfl)⟩
theorem gk:Ah Tryz.prog 95 Tryz.f95:=⟨⟨Tryz.func95,by kernel_rfl,by kernel_rfl⟩,Ah.AD (by kernel_rfl)⟩
theorem iW:Ah Tryz.prog 98 Tryz.f98:=⟨⟨Tryz.func98,by kernel_rfl,by kernel_rfl⟩,Ah.AD (by kernel_rfl)⟩
theorem jZ:Ah Tryz.prog 99 Tryz.f99:=⟨⟨Tryz.func99,by kernel_rfl,by kernel_rfl⟩,Ah.AD (by kernel_rfl)⟩
theorem ad:Ah Tryz.prog 100 Tryz.f100:=⟨⟨Tryz.func100,by kernel_rfl,by kernel_rfl⟩,Ah.AD (by kernel_rfl)⟩
theorem X4:Ah Tryz.prog 101 Tryz.f101:=⟨⟨Tryz.func101,by kernel_rfl,by kernel_rfl⟩,Ah.AD (by kernel_rfl)⟩
theorem Zi:Ah Tryz.prog 102 Tryz.f102:=⟨⟨Tryz.func102,by kernel_rfl,by kernel_rfl⟩,Ah.AD (by kernel_rfl)⟩
theorem bw:Ah Tryz.prog 103 Tryz.f103:=⟨⟨Tryz.func103,by kernel_rfl,by kernel_rfl⟩,Ah.AD (by kernel_rfl)⟩
theorem YP:Ah Tryz.prog 104 Tryz.f104:=⟨⟨Tryz.func104,by kernel_rfl,by kernel_rfl⟩,Ah.AD (by kernel_rfl)⟩
theorem bF:Ah Tryz.prog 105 Tryz.f105:=⟨⟨Tryz.func105,by kernel_rfl,by kernel_rfl⟩,Ah.AD (by kernel_rfl)⟩
theorem Zj:Ah Tryz.prog 106 Tryz.f106:=⟨⟨Tryz.func106,by kernel_rfl,by kernel_rfl⟩,Ah.AD (by kernel_rfl)⟩
theorem Ig:Ah Tryz.prog 107 Tryz.f107:=⟨⟨Tryz.func107,by kernel_rfl,by kernel_rfl⟩,Ah.AD (by kernel_rfl)⟩
theorem LS:Ah Tryz.prog 108 Tryz.f108:=⟨⟨Tryz.func108,by kernel_rfl,by kernel_rfl⟩,Ah.AD (by kernel_rfl)⟩
theorem Lu:Ah Tryz.prog 109 Tryz.f109:=⟨⟨Tryz.func109,by kernel_rfl,by kernel_rfl⟩,Ah.AD (by kernel_rfl)⟩
theorem Ls:Ah Tryz.prog 110 Tryz.f110:=⟨⟨Tryz.func110,by kernel_rfl,by kernel_rfl⟩,Ah.AD (by kernel_rfl)⟩
theorem Lw:Ah Tryz.prog 111 Tryz.f111:=⟨⟨Tryz.func111,by kernel_rfl,by kernel_rfl⟩,Ah.AD (by kernel_rfl)⟩
theorem LA:Ah Tryz.prog 112 Tryz.f112:=⟨⟨Tryz.func112,by kernel_rfl,by kernel_rfl⟩,Ah.AD (by kernel_rfl)⟩
theorem LB:Ah Tryz.prog 113 Tryz.f113:=⟨⟨Tryz.func113,by kernel_rfl,by kernel_rfl⟩,Ah.AD (by kernel_rfl)⟩
theorem MV:Ah Tryz.prog 114 Tryz.f114:=⟨⟨Tryz.func114,by kernel_rfl,by kernel_rfl⟩,Ah.AD (by kernel_rfl)⟩
theorem Lb:Ah Tryz.prog 115 Tryz.f115:=⟨⟨Tryz.func115,by kernel_rfl,by kernel_rfl⟩,Ah.AD (by kernel_rfl)⟩
theorem cE:Ah Tryz.prog 116 Tryz.f116:=⟨⟨Tryz.func116,by kernel_rfl,by kernel_rfl⟩,Ah.AD (by kernel_rfl)⟩
theorem Z5:Ah Tryz.prog 117 Tryz.f117:=⟨⟨Tryz.func117,by kernel_rfl,by kernel_rfl⟩,Ah.AD (by kernel_rfl)⟩
theorem Zg:Ah Tryz.prog 118 Tryz.f118:=⟨⟨Tryz.func118,by kernel_rfl,by kernel_rfl⟩,Ah.AD (by kernel_rfl)⟩
theorem aK:Ah Tryz.prog 119 Tryz.f119:=⟨⟨Tryz.func119,by kernel_rfl,by kernel_rfl⟩,Ah.AD (by kernel_rfl)⟩
theorem Zt:Ah Tryz.prog 120 Tryz.f120:=⟨⟨Tryz.func120,by kernel_rfl,by kernel_rfl⟩,Ah.AD (by kernel_rfl)⟩
theorem ZS:Ah Tryz.prog 121 Tryz.f121:=⟨⟨Tryz.func121,by kernel_rfl,by kernel_rfl⟩,Ah.AD (by kernel_rfl)⟩
theorem YH:Ah Tryz.prog 123 Tryz.f123:=⟨⟨Tryz.func123,by kernel_rfl,by kernel_rfl⟩,Ah.AD (by kernel_rfl)⟩
theorem YO:Ah Tryz.prog 124 Tryz.f124:=⟨⟨Tryz.func124,by kernel_rfl,by kernel_rfl⟩,Ah.AD (by kernel_rfl)⟩
theorem cN:Ah Tryz.prog 126 Tryz.f126:=⟨⟨Tryz.func126,by kernel_rfl,by kernel_rfl⟩,Ah.AD (by kernel_rfl)⟩
theorem cL:Ah Tryz.prog 128 Tryz.f128:=⟨⟨Tryz.func128,by kernel_rfl,by kernel_rfl⟩,Ah.AD (by kernel_rfl)⟩
theorem ZA:Ah Tryz.prog 129 Tryz.f129:=⟨⟨Tryz.func129,by kernel_rfl,by kernel_rfl⟩,Ah.AD (by kernel_rfl)⟩
theorem aq:Ah Tryz.prog 130 Tryz.f130:=⟨⟨Tryz.func130,by kernel_rfl,by kernel_rfl⟩,Ah.AD (by kernel_rfl)⟩
theorem cU:Ah Tryz.prog 131 Tryz.f131:=⟨⟨Tryz.func131,by kernel_rfl,by kernel_rfl⟩,Ah.AD (by kernel_rfl)⟩
theorem LQ:Ah Tryz.prog 132 Tryz.f132:=⟨⟨Tryz.func132,by kernel_rfl,by kernel_rfl⟩,Ah.AD (by kernel_rfl)⟩
theorem LM:Ah Tryz.prog 133 Tryz.f133:=⟨⟨Tryz.func133,by kernel_rfl,by kernel_rfl⟩,Ah.AD (by kernel_rfl)⟩
theorem Lh:Ah Tryz.prog 134 Tryz.f134:=⟨⟨Tryz.func134,by kernel_rfl,by kernel_rfl⟩,Ah.AD (by kernel_rfl)⟩
theorem Kq:Ah Tryz.prog 135 Tryz.f135:=⟨⟨Tryz.func135,by kernel_rfl,by kernel_rfl⟩,Ah.AD (by kernel_rfl)⟩
theorem MT:Ah Tryz.prog 136 Tryz.f136:=⟨⟨Tryz.func136,by kernel_rfl,by kernel_rfl⟩,Ah.AD (by kernel_rfl)⟩
theorem Lg:Ah Tryz.prog 137 Tryz.f137:=⟨⟨Tryz.func137,by kernel_rfl,by kernel_rfl⟩,Ah.AD (by kernel_rfl)⟩
theorem cJ:Ah Tryz.prog 138 Tryz.f138:=⟨⟨Tryz.func138,by kernel_rfl,by kernel_rfl⟩,Ah.AD (by kernel_rfl)⟩
theorem aF:Ah Tryz.prog 139 Tryz.f139:=⟨⟨Tryz.func139,by kernel_rfl,by kernel_rfl⟩,Ah.AD (by kernel_rfl)⟩
theorem Xk:Ah Tryz.prog 141 Tryz.f141:=⟨⟨Tryz.func141,by kernel_rfl,by kernel_rfl⟩,Ah.AD (by kernel_rfl)⟩
theorem MC:Ah Tryz.prog 142 Tryz.f142:=⟨⟨Tryz.func142,by kernel_rfl,by kernel_rfl⟩,Ah.AD (by kernel_rfl)⟩
theorem cG:Ah Tryz.prog 163 Tryz.f163:=⟨⟨Tryz.func163,by kernel_rfl,by kernel_rfl⟩,Ah.AD (by kernel_rfl)⟩
theorem bT:Ah Tryz.prog 180 Tryz.f180:=⟨⟨Tryz.func180,by kernel_rfl,by kernel_rfl⟩,Ah.AD (by kernel_rfl)⟩
noncomputable def ft:T Func:=(.node (.node (.node (.node (.node (.node (.node .nil (some Tryz.f63) .nil) (some Tryz.f31) (.node .nil (some Tryz.f95) .nil)) (some Tryz.f15) (.node (.node .nil (some Tryz.f79) .nil) (some Tryz.f47) (.node .nil (some Tryz.f111) .nil))) (some Tryz.f7) (.node (.node (.node (.node .nil (some Tryz.f135) .nil) none .nil) (some Tryz.f39) (.node .nil (some Tryz.f103) .nil)) (some Tryz.f23) (.node (.node .nil (some Tryz.f87) .nil) (some Tryz.f55) (.node .nil (some Tryz.f119) .nil)))) (some Tryz.f3) (.node (.node (.node (.node (.node .nil (some Tryz.f131) .nil) (some Tryz.f67) .nil) (some Tryz.f35) (.node (.node .nil (some Tryz.f163) .nil) (some Tryz.f99) .nil)) (some Tryz.f19) (.node (.node .nil (some Tryz.f83) .nil) (some Tryz.f51) (.node .nil (some Tryz.f115) .nil))) (some Tryz.f11) (.node (.node (.node (.node .nil (some Tryz.f139) .nil) (some Tryz.f75) .nil) (some Tryz.f43) (.node .nil (some Tryz.f107) .nil)) (some Tryz.f27) (.node (.node .nil (some Tryz.f91) .nil) (some Tryz.f59) (.node .nil (some Tryz.f123) .nil))))) none (.node (.node (.node (.node (.node (.node .nil (some Tryz.f129) .nil) (some Tryz.f65) .nil) (some Tryz.f33) .nil) (some Tryz.f17) (.node (.node .nil (some Tryz.f81) .nil) (some Tryz.f49) (.node .nil (some Tryz.f113) .nil))) (some Tryz.f9) (.node (.node (.node (.node .nil (some Tryz.f137) .nil) (some Tryz.f73) .nil) (some Tryz.f41) (.node .nil (some Tryz.f105) .nil)) (some Tryz.f25) (.node (.node .nil (some Tryz.f89) .nil) (some Tryz.f57) (.node .nil (some Tryz.f121) .nil)))) (some Tryz.f5) (.node (.node (.node (.node (.node .nil (some Tryz.f133) .nil) (some Tryz.f69) .nil) (some Tryz.f37) (.node .nil (some Tryz.f101) .nil)) (some Tryz.f21) (.node (.node .nil (some Tryz.f85) .nil) none (.node .nil (some Tryz.f117) .nil))) (some Tryz.f13) (.node (.node (.node (.node .nil (some Tryz.f141) .nil) (some Tryz.f77) .nil) (some Tryz.f45) (.node .nil (some Tryz.f109) .nil)) (some Tryz.f29) (.node (.node .nil (some Tryz.f93) .nil) (some Tryz.f61) .nil))))) none (.node (.node (.node (.node (.node (.node (.node .nil (some Tryz.f128) .nil) (some Tryz.f64) .nil) (some Tryz.f32) .nil) (some Tryz.f16) (.node (.node .nil (some Tryz.f80) .nil) (some Tryz.f48) (.node .nil (some Tryz.f112) .nil))) (some Tryz.f8) (.node (.node (.node (.node .nil (some Tryz.f136) .nil) none .nil) (some Tryz.f40) (.node .nil (some Tryz.f104) .nil)) (some Tryz.f24) (.node (.node .nil (some Tryz.f88) .nil) (some Tryz.f56) (.node .nil (some Tryz.f120) .nil)))) (some Tryz.f4) (.node (.node (.node (.node (.node .nil (some Tryz.f132) .nil) (some Tryz.f68) .nil) (some Tryz.f36) (.node .nil (some Tryz.f100) .nil)) (some Tryz.f20) (.node (.node .nil (some Tryz.f84) .nil) (some Tryz.f52) (.node (.node .nil (some Tryz.f180) .nil) (some Tryz.f116) .nil))) (some Tryz.f12) (.node (.node (.node .nil (some Tryz.f76) .nil) (some Tryz.f44) (.node .nil (some Tryz.f108) .nil)) (some Tryz.f28) (.node (.node .nil (some Tryz.f92) .nil) (some Tryz.f60) (.node .nil (some Tryz.f124) .nil))))) none (.node (.node (.node (.node (.node (.node .nil (some Tryz.f130) .nil) (some Tryz.f66) .nil) (some Tryz.f34) (.node .nil (some Tryz.f98) .nil)) (some Tryz.f18) (.node .nil (some Tryz.f50) (.node .nil (some Tryz.f114) .nil))) (some Tryz.f10) (.node (.node (.node (.node .nil (some Tryz.f138) .nil) (some Tryz.f74) .nil) (some Tryz.f42) (.node .nil (some Tryz.f106) .nil)) (some Tryz.f26) (.node (.node .nil (some Tryz.f90) .nil) (some Tryz.f58) .nil))) (some Tryz.f6) (.node (.node (.node (.node (.node .nil (some Tryz.f134) .nil) none .nil) (some Tryz.f38) (.node .nil (some Tryz.f102) .nil)) (some Tryz.f22) (.node (.node .nil (some Tryz.f86) .nil) (some Tryz.f54) (.node .nil (some Tryz.f118) .nil))) (some Tryz.f14) (.node (.node (.node (.node .nil (some Tryz.f142) .nil) (some Tryz.f78) .nil) (some Tryz.f46) (.node .nil (some Tryz.f110) .nil)) (some Tryz.f30) (.node (.node .nil (some Tryz.f94) .nil) (some Tryz.f62) (.node .nil (some Tryz.f126) .nil)))))))
noncomputable def fl:List (Nat×Func):= [(3,Tryz.f3),(7,Tryz.f7),(15,Tryz.f15),(31,Tryz.f31),(63,Tryz.f63),(95,Tryz.f95),(47,Tryz.f47),(79,Tryz.f79),(111,Tryz.f111),(23,Tryz.f23),(39,Tryz.f39),(135,Tryz.f135),(103,Tryz.f103),(55,Tryz.f55),(87,Tryz.f87),(119,Tryz.f119),(11,Tryz.f11),(19,Tryz.f19),(35,Tryz.f35),(67,Tryz.f67),(131,Tryz.f131),(99,Tryz.f99),(163,Tryz.f163),(51,Tryz.f51),(83,Tryz.f83),(115,Tryz.f115),(27,Tryz.f27),(43,Tryz.f43),(75,Tryz.f75),(139,Tryz.f139),(107,Tryz.f107),(59,Tryz.f59),(91,Tryz.f91),(123,Tryz.f123),(5,Tryz.f5),(9,Tryz.f9),(17,Tryz.f17),(33,Tryz.f33),(65,Tryz.f65),(129,Tryz.f129),(49,Tryz.f49),(81,Tryz.f81),(113,Tryz.f113),(25,Tryz.f25),(41,Tryz.f41),(73,Tryz.f73),(137,Tryz.f137),(105,Tryz.f105),(57,Tryz.f57),(89,Tryz.f89),(121,Tryz.f121),(13,Tryz.f13),(21,Tryz.f21),(37,Tryz.f37),(69,Tryz.f69),(133,Tryz.f133),(101,Tryz.f101),(85,Tryz.f85),(117,Tryz.f117),(29,Tryz.f29),(45,Tryz.f45),(77,Tryz.f77),(141,Tryz.f141),(109,Tryz.f109),(61,Tryz.f61),(93,Tryz.f93),(4,Tryz.f4),(8,Tryz.f8),(16,Tryz.f16),(32,Tryz.f32),(64,Tryz.f64),(128,Tryz.f128),(48,Tryz.f48),(80,Tryz.f80),(112,Tryz.f112),(24,Tryz.f24),(40,Tryz.f40),(136,Tryz.f136),(104,Tryz.f104),(56,Tryz.f56),(88,Tryz.f88),(120,Tryz.f120),(12,Tryz.f12),(20,Tryz.f20),(36,Tryz.f36),(68,Tryz.f68),(132,Tryz.f132),(100,Tryz.f100),(52,Tryz.f52),(84,Tryz.f84),(116,Tryz.f116),(180,Tryz.f180),(28,Tryz.f28),(44,Tryz.f44),(76,Tryz.f76),(108,Tryz.f108),(60,Tryz.f60),(92,Tryz.f92),(124,Tryz.f124),(6,Tryz.f6),(10,Tryz.f10),(18,Tryz.f18),(34,Tryz.f34),(66,Tryz.f66),(130,Tryz.f130),(98,Tryz.f98),(50,Tryz.f50),(114,Tryz.f114),(26,Tryz.f26),(42,Tryz.f42),(74,Tryz.f74),(138,Tryz.f138),(106,Tryz.f106),(58,Tryz.f58),(90,Tryz.f90),(14,Tryz.f14),(22,Tryz.f22),(38,Tryz.f38),(134,Tryz.f134),(102,Tryz.f102),(54,Tryz.f54),(86,Tryz.f86),(118,Tryz.f118),(30,Tryz.f30),(46,Tryz.f46),(78,Tryz.f78),(142,Tryz.f142),(110,Tryz.f110),(62,Tryz.f62),(94,Tryz.f94),(126,Tryz.f126)]
theorem qa:ft.pM 1 0=fl:=by kernel_rfl
set_option maxRecDepth 100000 in
theorem rT:∀p∈fl,Ah Tryz.prog p.1 p.2:=List.forall_mem_cons.2 ⟨me,List.forall_mem_cons.2 ⟨nd,List.forall_mem_cons.2 ⟨gQ,List.forall_mem_cons.2 ⟨jJ,List.forall_mem_cons.2 ⟨eQ,List.forall_mem_cons.2 ⟨gk,List.forall_mem_cons.2 ⟨jg,List.forall_mem_cons.2 ⟨I6,List.forall_mem_cons.2 ⟨Lw,List.forall_mem_cons.2 ⟨iJ,List.forall_mem_cons.2 ⟨Ov,List.forall_mem_cons.2 ⟨Kq,List.forall_mem_cons.2 ⟨bw,List.forall_mem_cons.2 ⟨OU,List.forall_mem_cons.2 ⟨fG,List.forall_mem_cons.2 ⟨aK,List.forall_mem_cons.2 ⟨O9,List.forall_mem_cons.2 ⟨Pa,List.forall_mem_cons.2 ⟨VZ,List.forall_mem_cons.2 ⟨N4,List.forall_mem_cons.2 ⟨cU,List.forall_mem_cons.2 ⟨jZ,List.forall_mem_cons.2 ⟨cG,List.forall_mem_cons.2 ⟨Ki,List.forall_mem_cons.2 ⟨dR,List.forall_mem_cons.2 ⟨Lb,List.forall_mem_cons.2 ⟨ew,List.forall_mem_cons.2 ⟨UU,List.forall_mem_cons.2 ⟨iS,List.forall_mem_cons.2 ⟨aF,List.forall_mem_cons.2 ⟨Ig,List.forall_mem_cons.2 ⟨dq,List.forall_mem_cons.2 ⟨gF,List.forall_mem_cons.2 ⟨YH,List.forall_mem_cons.2 ⟨nj,List.forall_mem_cons.2 ⟨TZ,List.forall_mem_cons.2 ⟨jW,List.forall_mem_cons.2 ⟨U2,List.forall_mem_cons.2 ⟨PM,List.forall_mem_cons.2 ⟨ZA,List.forall_mem_cons.2 ⟨gY,List.forall_mem_cons.2 ⟨Oe,List.forall_mem_cons.2 ⟨LB,List.forall_mem_cons.2 ⟨fx,List.forall_mem_cons.2 ⟨OJ,List.forall_mem_cons.2 ⟨kB,List.forall_mem_cons.2 ⟨Lg,List.forall_mem_cons.2 ⟨bF,List.forall_mem_cons.2 ⟨PA,List.forall_mem_cons.2 ⟨VS,List.forall_mem_cons.2 ⟨ZS,List.forall_mem_cons.2 ⟨ep,List.forall_mem_cons.2 ⟨fT,List.forall_mem_cons.2 ⟨UX,List.forall_mem_cons.2 ⟨dK,List.forall_mem_cons.2 ⟨LM,List.forall_mem_cons.2 ⟨X4,List.forall_mem_cons.2 ⟨gn,List.forall_mem_cons.2 ⟨Z5,List.forall_mem_cons.2 ⟨OW,List.forall_mem_cons.2 ⟨eW,List.forall_mem_cons.2 ⟨iZ,List.forall_mem_cons.2 ⟨Xk,List.forall_mem_cons.2 ⟨Lu,List.forall_mem_cons.2 ⟨Oy,List.forall_mem_cons.2 ⟨fc,List.forall_mem_cons.2 ⟨mg,List.forall_mem_cons.2 ⟨nL,List.forall_mem_cons.2 ⟨gz,List.forall_mem_cons.2 ⟨iu,List.forall_mem_cons.2 ⟨PN,List.forall_mem_cons.2 ⟨cL,List.forall_mem_cons.2 ⟨Ui,List.forall_mem_cons.2 ⟨Ur,List.forall_mem_cons.2 ⟨LA,List.forall_mem_cons.2 ⟨eK,List.forall_mem_cons.2 ⟨Pr,List.forall_mem_cons.2 ⟨MT,List.forall_mem_cons.2 ⟨YP,List.forall_mem_cons.2 ⟨PV,List.forall_mem_cons.2 ⟨OL,List.forall_mem_cons.2 ⟨Zt,List.forall_mem_cons.2 ⟨N1,List.forall_mem_cons.2 ⟨Nd,List.forall_mem_cons.2 ⟨NY,List.forall_mem_cons.2 ⟨N9,List.forall_mem_cons.2 ⟨LQ,List.forall_mem_cons.2 ⟨ad,List.forall_mem_cons.2 ⟨I3,List.forall_mem_cons.2 ⟨fE,List.forall_mem_cons.2 ⟨cE,List.forall_mem_cons.2 ⟨bT,List.forall_mem_cons.2 ⟨NW,List.forall_mem_cons.2 ⟨ie,List.forall_mem_cons.2 ⟨fy,List.forall_mem_cons.2 ⟨LS,List.forall_mem_cons.2 ⟨iH,List.forall_mem_cons.2 ⟨gG,List.forall_mem_cons.2 ⟨YO,List.forall_mem_cons.2 ⟨TA,List.forall_mem_cons.2 ⟨il,List.forall_mem_cons.2 ⟨gE,List.forall_mem_cons.2 ⟨PG,List.forall_mem_cons.2 ⟨Vf,List.forall_mem_cons.2 ⟨aq,List.forall_mem_cons.2 ⟨iW,List.forall_mem_cons.2 ⟨fQ,List.forall_mem_cons.2 ⟨MV,List.forall_mem_cons.2 ⟨gh,List.forall_mem_cons.2 ⟨Pj,List.forall_mem_cons.2 ⟨eY,List.forall_mem_cons.2 ⟨cJ,List.forall_mem_cons.2 ⟨Zj,List.forall_mem_cons.2 ⟨iv,List.forall_mem_cons.2 ⟨df,List.forall_mem_cons.2 ⟨jd,List.forall_mem_cons.2 ⟨eE,List.forall_mem_cons.2 ⟨Vg,List.forall_mem_cons.2 ⟨Lh,List.forall_mem_cons.2 ⟨Zi,List.forall_mem_cons.2 ⟨dF,List.forall_mem_cons.2 ⟨jo,List.forall_mem_cons.2 ⟨Zg,List.forall_mem_cons.2 ⟨fp,List.forall_mem_cons.2 ⟨UF,List.forall_mem_cons.2 ⟨jT,List.forall_mem_cons.2 ⟨MC,List.forall_mem_cons.2 ⟨Ls,List.forall_mem_cons.2 ⟨gq,List.forall_mem_cons.2 ⟨PY,List.forall_mem_cons.2 ⟨cN,(fun _ h=>by cases h)⟩⟩⟩⟩⟩⟩⟩⟩⟩⟩⟩⟩⟩⟩⟩⟩⟩⟩⟩⟩⟩⟩⟩⟩⟩⟩⟩⟩⟩⟩⟩⟩⟩⟩⟩⟩⟩⟩⟩⟩⟩⟩⟩⟩⟩⟩⟩⟩⟩⟩⟩⟩⟩⟩⟩⟩⟩⟩⟩⟩⟩⟩⟩⟩⟩⟩⟩⟩⟩⟩⟩⟩⟩⟩⟩⟩⟩⟩⟩⟩⟩⟩⟩⟩⟩⟩⟩⟩⟩⟩⟩⟩⟩⟩⟩⟩⟩⟩⟩⟩⟩⟩⟩⟩⟩⟩⟩⟩⟩⟩⟩⟩⟩⟩⟩⟩⟩⟩⟩⟩⟩⟩⟩⟩⟩⟩⟩⟩⟩⟩⟩
theorem ru:∀f fn,ft.get f=some fn→Ah Tryz.prog f fn:=fun k i h=>rT (k,i) (qa ▸ T.T8 h)
noncomputable def run (lf d:Nat):Go.Dm.Callee:=Ku tt.get ft.get (fun cl=>draw tt.get cl) lf d
theorem env (lf d:Nat):Env Tryz.prog tt.get (run lf d):=Yq BC ru (fun cl E=>jx cl E) lf d
end Go.Proofs.YthpibnpeaidabaaGreatDoor.Dm
