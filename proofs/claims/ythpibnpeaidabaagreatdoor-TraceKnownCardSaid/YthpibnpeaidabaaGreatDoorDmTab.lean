/- The types and the functions of this translation as the abstract machine has them, and that they are the program's own. -/
import Derived.Test.YthpibnpeaidabaaGreatDoorDmD
import Derived.Test.YthpibnpeaidabaaGreatDoorRows
namespace Go.Proofs.YthpibnpeaidabaaGreatDoor.Dm
open Go.Dm
noncomputable def ry:TI:= {ud:= .int .i64,size:=1,bytes:=8,zero:=(.int .i64 (0)),cmp:=false}
theorem mP:Bj Tryz.prog 2 ry:=Bj.of (by kernel_rfl) (by kernel_rfl) (by kernel_rfl) (by kernel_rfl) (by intro h;cases h)
noncomputable def ZY:TI:= {ud:= .int .i64,size:=1,bytes:=8,zero:=(.int .i64 (0)),cmp:=true}
theorem nO:Bj Tryz.prog 3 ZY:=Bj.of (by kernel_rfl) (by kernel_rfl) (by kernel_rfl) (by kernel_rfl) (fun _=>⟨by kernel_rfl,by kernel_rfl⟩)
noncomputable def pf:TI:= {ud:= .bool,size:=1,bytes:=1,zero:=(.bool false),cmp:=false}
theorem lj:Bj Tryz.prog 4 pf:=Bj.of (by kernel_rfl) (by kernel_rfl) (by kernel_rfl) (by kernel_rfl) (by intro h;cases h)
noncomputable def oJ:TI:= {ud:= .int .u8,size:=1,bytes:=1,zero:=(.int .u8 (0)),cmp:=true}
theorem lL:Bj Tryz.prog 5 oJ:=Bj.of (by kernel_rfl) (by kernel_rfl) (by kernel_rfl) (by kernel_rfl) (fun _=>⟨by kernel_rfl,by kernel_rfl⟩)
noncomputable def nU:TI:= {ud:= .string,size:=1,bytes:=16,zero:=(.string ⟨⟨[]⟩⟩),cmp:=true}
theorem nR:Bj Tryz.prog 9 nU:=Bj.of (by kernel_rfl) (by kernel_rfl) (by kernel_rfl) (by kernel_rfl) (fun _=>⟨by kernel_rfl,by kernel_rfl⟩)
noncomputable def eN:TI:= {ud:= .pointer 216,size:=1,bytes:=8,zero:=(.pointer none),cmp:=false}
theorem iX:Bj Tryz.prog 17 eN:=Bj.of (by kernel_rfl) (by kernel_rfl) (by kernel_rfl) (by kernel_rfl) (by intro h;cases h)
noncomputable def gC:TI:= {ud:= .interface #[],size:=1,bytes:=16,zero:= .nilIface,cmp:=true}
theorem dm:Bj Tryz.prog 20 gC:=Bj.of (by kernel_rfl) (by kernel_rfl) (by kernel_rfl) (by kernel_rfl) (fun _=>⟨by kernel_rfl,by kernel_rfl⟩)
noncomputable def eZ:TI:= {ud:= .int .i32,size:=1,bytes:=4,zero:=(.int .i32 (0)),cmp:=true}
theorem ie:Bj Tryz.prog 21 eZ:=Bj.of (by kernel_rfl) (by kernel_rfl) (by kernel_rfl) (by kernel_rfl) (fun _=>⟨by kernel_rfl,by kernel_rfl⟩)
noncomputable def Rs:TI:= {ud:= .slice 33,size:=1,bytes:=24,zero:=(.slice none 0 0),cmp:=false}
theorem fB:Bj Tryz.prog 22 Rs:=Bj.of (by kernel_rfl) (by kernel_rfl) (by kernel_rfl) (by kernel_rfl) (by intro h;cases h)
noncomputable def XK:TI:= {ud:= .int .i64,size:=1,bytes:=8,zero:=(.int .i64 (0)),cmp:=true}
theorem fx:Bj Tryz.prog 24 XK:=Bj.of (by kernel_rfl) (by kernel_rfl) (by kernel_rfl) (by kernel_rfl) (fun _=>⟨by kernel_rfl,by kernel_rfl⟩)
noncomputable def J8:TI:= {ud:= .int .u64,size:=1,bytes:=8,zero:=(.int .u64 (0)),cmp:=true}
theorem jY:Bj Tryz.prog 28 J8:=Bj.of (by kernel_rfl) (by kernel_rfl) (by kernel_rfl) (by kernel_rfl) (fun _=>⟨by kernel_rfl,by kernel_rfl⟩)
noncomputable def I2:TI:= {ud:= .int .u32,size:=1,bytes:=4,zero:=(.int .u32 (0)),cmp:=true}
theorem fQ:Bj Tryz.prog 29 I2:=Bj.of (by kernel_rfl) (by kernel_rfl) (by kernel_rfl) (by kernel_rfl) (fun _=>⟨by kernel_rfl,by kernel_rfl⟩)
noncomputable def Tv:TI:= {ud:= .array 4 28,size:=4,bytes:=32,zero:=(.agg ⟨[(.int .u64 (0)),(.int .u64 (0)),(.int .u64 (0)),(.int .u64 (0))]⟩),cmp:=true}
theorem jG:Bj Tryz.prog 31 Tv:=Bj.of (by kernel_rfl) (by kernel_rfl) (by kernel_rfl) (by kernel_rfl) (fun _=>⟨by kernel_rfl,by kernel_rfl⟩)
noncomputable def Ma:TI:= {ud:= .struct #[{name:= "At",type:=28,offset:=0,embedded:=false,tag:= "",pkgPath:= "",byteOffset:=0}, {name:= "Kind",type:=3,offset:=1,embedded:=false,tag:= "",pkgPath:= "",byteOffset:=8}, {name:= "Router",type:=3,offset:=2,embedded:=false,tag:= "",pkgPath:= "",byteOffset:=16}, {name:= "Peer",type:=3,offset:=3,embedded:=false,tag:= "",pkgPath:= "",byteOffset:=24}, {name:= "Id",type:=29,offset:=4,embedded:=false,tag:= "",pkgPath:= "",byteOffset:=32}, {name:= "Set",type:=3,offset:=5,embedded:=false,tag:= "",pkgPath:= "",byteOffset:=40}, {name:= "Bits",type:=31,offset:=6,embedded:=false,tag:= "",pkgPath:= "",byteOffset:=48}],size:=10,bytes:=80,zero:=(.agg ⟨[(.int .u64 (0)),(.int .i64 (0)),(.int .i64 (0)),(.int .i64 (0)),(.int .u32 (0)),(.int .i64 (0)),(.int .u64 (0)),(.int .u64 (0)),(.int .u64 (0)),(.int .u64 (0))]⟩),cmp:=true}
theorem il:Bj Tryz.prog 33 Ma:=Bj.of (by kernel_rfl) (by kernel_rfl) (by kernel_rfl) (by kernel_rfl) (fun _=>⟨by kernel_rfl,by kernel_rfl⟩)
noncomputable def QC:TI:= {ud:= .interface #[("Error",69)],size:=1,bytes:=16,zero:= .nilIface,cmp:=false}
theorem ep:Bj Tryz.prog 35 QC:=Bj.of (by kernel_rfl) (by kernel_rfl) (by kernel_rfl) (by kernel_rfl) (by intro h;cases h)
noncomputable def lr:TI:= {ud:= .struct #[{name:= "Code",type:=24,offset:=0,embedded:=false,tag:= "",pkgPath:= "",byteOffset:=0}, {name:= "At",type:=3,offset:=1,embedded:=false,tag:= "",pkgPath:= "",byteOffset:=8}],size:=2,bytes:=16,zero:=(.agg ⟨[(.int .i64 (0)),(.int .i64 (0))]⟩),cmp:=false}
theorem eR:Bj Tryz.prog 46 lr:=Bj.of (by kernel_rfl) (by kernel_rfl) (by kernel_rfl) (by kernel_rfl) (by intro h;cases h)
noncomputable def RN:TI:= {ud:= .slice 29,size:=1,bytes:=24,zero:=(.slice none 0 0),cmp:=false}
theorem eO:Bj Tryz.prog 51 RN:=Bj.of (by kernel_rfl) (by kernel_rfl) (by kernel_rfl) (by kernel_rfl) (by intro h;cases h)
noncomputable def PW:TI:= {ud:= .slice 9,size:=1,bytes:=24,zero:=(.slice none 0 0),cmp:=false}
theorem iW:Bj Tryz.prog 58 PW:=Bj.of (by kernel_rfl) (by kernel_rfl) (by kernel_rfl) (by kernel_rfl) (by intro h;cases h)
noncomputable def TR:TI:= {ud:= .slice 5,size:=1,bytes:=24,zero:=(.slice none 0 0),cmp:=false}
theorem iA:Bj Tryz.prog 60 TR:=Bj.of (by kernel_rfl) (by kernel_rfl) (by kernel_rfl) (by kernel_rfl) (by intro h;cases h)
noncomputable def fP:TI:= {ud:= .pointer 65,size:=1,bytes:=8,zero:=(.pointer none),cmp:=true}
theorem gH:Bj Tryz.prog 63 fP:=Bj.of (by kernel_rfl) (by kernel_rfl) (by kernel_rfl) (by kernel_rfl) (fun _=>⟨by kernel_rfl,by kernel_rfl⟩)
noncomputable def fS:TI:= {ud:= .struct #[{name:= "addr",type:=63,offset:=0,embedded:=false,tag:= "",pkgPath:= "strings",byteOffset:=0}, {name:= "buf",type:=60,offset:=1,embedded:=false,tag:= "",pkgPath:= "strings",byteOffset:=8}],size:=2,bytes:=32,zero:=(.agg ⟨[(.pointer none),(.slice none 0 0)]⟩),cmp:=false}
theorem iV:Bj Tryz.prog 65 fS:=Bj.of (by kernel_rfl) (by kernel_rfl) (by kernel_rfl) (by kernel_rfl) (by intro h;cases h)
noncomputable def XQ:TI:= {ud:= .array 9 9,size:=9,bytes:=144,zero:=(.agg ⟨[(.string ⟨⟨[]⟩⟩),(.string ⟨⟨[]⟩⟩),(.string ⟨⟨[]⟩⟩),(.string ⟨⟨[]⟩⟩),(.string ⟨⟨[]⟩⟩),(.string ⟨⟨[]⟩⟩),(.string ⟨⟨[]⟩⟩),(.string ⟨⟨[]⟩⟩),(.string ⟨⟨[]⟩⟩)]⟩),cmp:=false}
theorem eF:Bj Tryz.prog 71 XQ:=Bj.of (by kernel_rfl) (by kernel_rfl) (by kernel_rfl) (by kernel_rfl) (by intro h;cases h)
noncomputable def Tz:TI:= {ud:= .pointer 85,size:=1,bytes:=8,zero:=(.pointer none),cmp:=true}
theorem iR:Bj Tryz.prog 84 Tz:=Bj.of (by kernel_rfl) (by kernel_rfl) (by kernel_rfl) (by kernel_rfl) (fun _=>⟨by kernel_rfl,by kernel_rfl⟩)
noncomputable def aR:TI:= {ud:= .struct #[{name:= "Code",type:=24,offset:=0,embedded:=false,tag:= "",pkgPath:= "",byteOffset:=0}, {name:= "At",type:=3,offset:=1,embedded:=false,tag:= "",pkgPath:= "",byteOffset:=8}],size:=2,bytes:=16,zero:=(.agg ⟨[(.int .i64 (0)),(.int .i64 (0))]⟩),cmp:=false}
theorem jU:Bj Tryz.prog 85 aR:=Bj.of (by kernel_rfl) (by kernel_rfl) (by kernel_rfl) (by kernel_rfl) (by intro h;cases h)
noncomputable def W0:TI:= {ud:= .pointer 84,size:=1,bytes:=8,zero:=(.pointer none),cmp:=false}
theorem iz:Bj Tryz.prog 89 W0:=Bj.of (by kernel_rfl) (by kernel_rfl) (by kernel_rfl) (by kernel_rfl) (by intro h;cases h)
noncomputable def gk:TI:= {ud:= .interface #[("AssignableTo",118),("Comparable",23),("Elem",115),("Implements",118),("Kind",117),("Name",69),("PkgPath",69),("Size",217),("String",69),("internal/reflectlite.common",210),("internal/reflectlite.uncommon",218)],size:=1,bytes:=16,zero:= .nilIface,cmp:=false}
theorem gY:Bj Tryz.prog 97 gk:=Bj.of (by kernel_rfl) (by kernel_rfl) (by kernel_rfl) (by kernel_rfl) (by intro h;cases h)
noncomputable def VD:TI:= {ud:= .pointer 5,size:=1,bytes:=8,zero:=(.pointer none),cmp:=false}
theorem ZG:Bj Tryz.prog 102 VD:=Bj.of (by kernel_rfl) (by kernel_rfl) (by kernel_rfl) (by kernel_rfl) (by intro h;cases h)
noncomputable def Vu:TI:= {ud:= .int .u64,size:=1,bytes:=8,zero:=(.int .u64 (0)),cmp:=false}
theorem cZ:Bj Tryz.prog 111 Vu:=Bj.of (by kernel_rfl) (by kernel_rfl) (by kernel_rfl) (by kernel_rfl) (by intro h;cases h)
noncomputable def UZ:TI:= {ud:= .struct #[{name:= "typ_",type:=17,offset:=0,embedded:=false,tag:= "",pkgPath:= "internal/reflectlite",byteOffset:=0}, {name:= "ptr",type:=110,offset:=1,embedded:=false,tag:= "",pkgPath:= "internal/reflectlite",byteOffset:=8}, {name:= "flag",type:=111,offset:=2,embedded:=true,tag:= "",pkgPath:= "internal/reflectlite",byteOffset:=16}],size:=3,bytes:=24,zero:=(.agg ⟨[(.pointer none),(.pointer none),(.int .u64 (0))]⟩),cmp:=false}
theorem cM:Bj Tryz.prog 113 UZ:=Bj.of (by kernel_rfl) (by kernel_rfl) (by kernel_rfl) (by kernel_rfl) (by intro h;cases h)
noncomputable def Uo:TI:= {ud:= .int .u8,size:=1,bytes:=1,zero:=(.int .u8 (0)),cmp:=true}
theorem Zr:Bj Tryz.prog 116 Uo:=Bj.of (by kernel_rfl) (by kernel_rfl) (by kernel_rfl) (by kernel_rfl) (fun _=>⟨by kernel_rfl,by kernel_rfl⟩)
noncomputable def UW:TI:= {ud:= .int .u64,size:=1,bytes:=8,zero:=(.int .u64 (0)),cmp:=false}
theorem aF:Bj Tryz.prog 121 UW:=Bj.of (by kernel_rfl) (by kernel_rfl) (by kernel_rfl) (by kernel_rfl) (by intro h;cases h)
noncomputable def Yc:TI:= {ud:= .slice 3,size:=1,bytes:=24,zero:=(.slice none 0 0),cmp:=false}
theorem cP:Bj Tryz.prog 122 Yc:=Bj.of (by kernel_rfl) (by kernel_rfl) (by kernel_rfl) (by kernel_rfl) (by intro h;cases h)
noncomputable def Uu:TI:= {ud:= .interface #[("Is",131)],size:=1,bytes:=16,zero:= .nilIface,cmp:=false}
theorem cp:Bj Tryz.prog 129 Uu:=Bj.of (by kernel_rfl) (by kernel_rfl) (by kernel_rfl) (by kernel_rfl) (by intro h;cases h)
noncomputable def V8:TI:= {ud:= .interface #[("Unwrap",133)],size:=1,bytes:=16,zero:= .nilIface,cmp:=false}
theorem Zd:Bj Tryz.prog 132 V8:=Bj.of (by kernel_rfl) (by kernel_rfl) (by kernel_rfl) (by kernel_rfl) (by intro h;cases h)
noncomputable def Vk:TI:= {ud:= .interface #[("Unwrap",136)],size:=1,bytes:=16,zero:= .nilIface,cmp:=false}
theorem ZR:Bj Tryz.prog 134 Vk:=Bj.of (by kernel_rfl) (by kernel_rfl) (by kernel_rfl) (by kernel_rfl) (by intro h;cases h)
noncomputable def Vh:TI:= {ud:= .slice 35,size:=1,bytes:=24,zero:=(.slice none 0 0),cmp:=false}
theorem aB:Bj Tryz.prog 135 Vh:=Bj.of (by kernel_rfl) (by kernel_rfl) (by kernel_rfl) (by kernel_rfl) (by intro h;cases h)
noncomputable def VA:TI:= {ud:= .array 24 5,size:=24,bytes:=24,zero:=(.agg ⟨(E3 24 (.int .u8 (0)))⟩),cmp:=false}
theorem cQ:Bj Tryz.prog 139 VA:=Bj.of (by kernel_rfl) (by kernel_rfl) (by kernel_rfl) (by kernel_rfl) (by intro h;cases h)
noncomputable def WB:TI:= {ud:= .interface #[("As",152)],size:=1,bytes:=16,zero:= .nilIface,cmp:=false}
theorem Zy:Bj Tryz.prog 150 WB:=Bj.of (by kernel_rfl) (by kernel_rfl) (by kernel_rfl) (by kernel_rfl) (by intro h;cases h)
noncomputable def Vd:TI:= {ud:= .int .i64,size:=1,bytes:=8,zero:=(.int .i64 (0)),cmp:=false}
theorem bU:Bj Tryz.prog 153 Vd:=Bj.of (by kernel_rfl) (by kernel_rfl) (by kernel_rfl) (by kernel_rfl) (by intro h;cases h)
noncomputable def V6:TI:= {ud:= .pointer 183,size:=1,bytes:=8,zero:=(.pointer none),cmp:=false}
theorem bL:Bj Tryz.prog 155 V6:=Bj.of (by kernel_rfl) (by kernel_rfl) (by kernel_rfl) (by kernel_rfl) (by intro h;cases h)
noncomputable def Ua:TI:= {ud:= .int .i64,size:=1,bytes:=8,zero:=(.int .i64 (0)),cmp:=true}
theorem aJ:Bj Tryz.prog 162 Ua:=Bj.of (by kernel_rfl) (by kernel_rfl) (by kernel_rfl) (by kernel_rfl) (fun _=>⟨by kernel_rfl,by kernel_rfl⟩)
noncomputable def Vg:TI:= {ud:= .array 20 28,size:=20,bytes:=160,zero:=(.agg ⟨(E3 20 (.int .u64 (0)))⟩),cmp:=false}
theorem bF:Bj Tryz.prog 173 Vg:=Bj.of (by kernel_rfl) (by kernel_rfl) (by kernel_rfl) (by kernel_rfl) (by intro h;cases h)
noncomputable def U9:TI:= {ud:= .array 65 5,size:=65,bytes:=65,zero:=(.agg ⟨(E3 65 (.int .u8 (0)))⟩),cmp:=false}
theorem aA:Bj Tryz.prog 174 U9:=Bj.of (by kernel_rfl) (by kernel_rfl) (by kernel_rfl) (by kernel_rfl) (by intro h;cases h)
noncomputable def VH:TI:= {ud:= .array 64 5,size:=64,bytes:=64,zero:=(.agg ⟨(E3 64 (.int .u8 (0)))⟩),cmp:=false}
theorem ay:Bj Tryz.prog 175 VH:=Bj.of (by kernel_rfl) (by kernel_rfl) (by kernel_rfl) (by kernel_rfl) (by intro h;cases h)
noncomputable def UR:TI:= {ud:= .struct #[{name:= "Func",type:=9,offset:=0,embedded:=false,tag:= "",pkgPath:= "",byteOffset:=0}, {name:= "Num",type:=9,offset:=1,embedded:=false,tag:= "",pkgPath:= "",byteOffset:=16}, {name:= "Err",type:=35,offset:=2,embedded:=false,tag:= "",pkgPath:= "",byteOffset:=32}],size:=3,bytes:=48,zero:=(.agg ⟨[(.string ⟨⟨[]⟩⟩),(.string ⟨⟨[]⟩⟩), .nilIface]⟩),cmp:=false}
theorem ZE:Bj Tryz.prog 183 UR:=Bj.of (by kernel_rfl) (by kernel_rfl) (by kernel_rfl) (by kernel_rfl) (by intro h;cases h)
noncomputable def R9:TI:= {ud:= .int .u64,size:=1,bytes:=8,zero:=(.int .u64 (0)),cmp:=false}
theorem Yr:Bj Tryz.prog 185 R9:=Bj.of (by kernel_rfl) (by kernel_rfl) (by kernel_rfl) (by kernel_rfl) (by intro h;cases h)
noncomputable def U7:TI:= {ud:= .pointer 3,size:=1,bytes:=8,zero:=(.pointer none),cmp:=false}
theorem aC:Bj Tryz.prog 189 U7:=Bj.of (by kernel_rfl) (by kernel_rfl) (by kernel_rfl) (by kernel_rfl) (by intro h;cases h)
noncomputable def VN:TI:= {ud:= .pointer 196,size:=1,bytes:=8,zero:=(.pointer none),cmp:=false}
theorem Zl:Bj Tryz.prog 194 VN:=Bj.of (by kernel_rfl) (by kernel_rfl) (by kernel_rfl) (by kernel_rfl) (by intro h;cases h)
noncomputable def Us:TI:= {ud:= .struct #[{name:= "s",type:=9,offset:=0,embedded:=false,tag:= "",pkgPath:= "errors",byteOffset:=0}],size:=1,bytes:=16,zero:=(.agg ⟨[(.string ⟨⟨[]⟩⟩)]⟩),cmp:=false}
theorem Zo:Bj Tryz.prog 196 Us:=Bj.of (by kernel_rfl) (by kernel_rfl) (by kernel_rfl) (by kernel_rfl) (by intro h;cases h)
noncomputable def Ub:TI:= {ud:= .array 32 5,size:=32,bytes:=32,zero:=(.agg ⟨(E3 32 (.int .u8 (0)))⟩),cmp:=false}
theorem YM:Bj Tryz.prog 200 Ub:=Bj.of (by kernel_rfl) (by kernel_rfl) (by kernel_rfl) (by kernel_rfl) (by intro h;cases h)
noncomputable def VS:TI:= {ud:= .array 256 5,size:=256,bytes:=256,zero:=(.agg ⟨(E3 256 (.int .u8 (0)))⟩),cmp:=false}
theorem cO:Bj Tryz.prog 201 VS:=Bj.of (by kernel_rfl) (by kernel_rfl) (by kernel_rfl) (by kernel_rfl) (by intro h;cases h)
noncomputable def Up:TI:= {ud:= .struct #[{name:= "lo",type:=5,offset:=0,embedded:=false,tag:= "",pkgPath:= "unicode/utf8",byteOffset:=0}, {name:= "hi",type:=5,offset:=1,embedded:=false,tag:= "",pkgPath:= "unicode/utf8",byteOffset:=1}],size:=2,bytes:=2,zero:=(.agg ⟨[(.int .u8 (0)),(.int .u8 (0))]⟩),cmp:=false}
theorem aO:Bj Tryz.prog 203 Up:=Bj.of (by kernel_rfl) (by kernel_rfl) (by kernel_rfl) (by kernel_rfl) (by intro h;cases h)
noncomputable def WJ:TI:= {ud:= .array 16 203,size:=32,bytes:=32,zero:=(.agg ⟨(E3 32 (.int .u8 (0)))⟩),cmp:=false}
theorem ZL:Bj Tryz.prog 204 WJ:=Bj.of (by kernel_rfl) (by kernel_rfl) (by kernel_rfl) (by kernel_rfl) (by intro h;cases h)
noncomputable def tt:T TI:=(.node (.node (.node (.node (.node (.node (.node .nil (some fP) .nil) (some Tv) .nil) none (.node .nil none (.node (.node .nil (some VH) .nil) (some Vu) .nil))) none (.node (.node (.node (.node .nil (some Vh) .nil) (some XQ) .nil) none .nil) none (.node .nil none (.node (.node .nil (some UR) .nil) none .nil)))) (some ZY) (.node (.node (.node .nil (some QC) .nil) none (.node .nil (some RN) .nil)) none (.node (.node (.node (.node .nil (some VA) .nil) none (.node .nil (some Up) .nil)) none .nil) none (.node (.node (.node .nil (some V6) .nil) none .nil) none .nil)))) none (.node (.node (.node (.node (.node (.node .nil (some Uu) .nil) (some fS) .nil) (some Ma) (.node .nil (some gk) .nil)) (some eN) (.node .nil none (.node .nil (some UZ) .nil))) (some nU) (.node (.node (.node .nil none (.node .nil (some VS) .nil)) none .nil) none (.node (.node (.node .nil (some Vd) .nil) (some W0) .nil) none (.node (.node .nil (some R9) .nil) (some UW) .nil)))) (some oJ) (.node (.node .nil (some eZ) (.node (.node .nil (some aR) .nil) none .nil)) none (.node (.node .nil none (.node (.node .nil (some Vg) .nil) none .nil)) (some I2) (.node .nil none (.node (.node .nil (some U7) .nil) none .nil)))))) none (.node (.node (.node .nil none (.node (.node (.node .nil none (.node .nil (some Ub) .nil)) none .nil) (some XK) .nil)) (some pf) (.node (.node (.node (.node (.node .nil (some V8) .nil) none (.node .nil (some Us) .nil)) none .nil) (some gC) (.node (.node .nil (some Tz) .nil) none (.node .nil (some Uo) .nil))) none (.node (.node (.node .nil none (.node .nil (some WJ) .nil)) none .nil) (some J8) (.node .nil (some TR) .nil)))) (some ry) (.node (.node (.node (.node (.node .nil none (.node .nil (some VN) .nil)) none (.node (.node .nil (some Ua) .nil) none .nil)) none .nil) none (.node .nil none (.node .nil (some PW) (.node .nil (some Yc) .nil)))) none (.node (.node (.node (.node (.node .nil (some Vk) .nil) none .nil) none (.node .nil (some VD) .nil)) (some Rs) (.node (.node (.node .nil (some WB) .nil) none .nil) none .nil)) none (.node (.node .nil (some lr) (.node (.node .nil (some U9) .nil) none .nil)) none .nil)))))
noncomputable def tl:List (Nat×TI):= [(3,ZY),(31,Tv),(63,fP),(111,Vu),(175,VH),(71,XQ),(135,Vh),(183,UR),(35,QC),(51,RN),(139,VA),(203,Up),(155,V6),(5,oJ),(9,nU),(17,eN),(33,Ma),(65,fS),(129,Uu),(97,gk),(113,UZ),(201,VS),(89,W0),(153,Vd),(121,UW),(185,R9),(21,eZ),(85,aR),(29,I2),(173,Vg),(189,U7),(2,ry),(4,pf),(24,XK),(200,Ub),(20,gC),(132,V8),(196,Us),(84,Tz),(116,Uo),(28,J8),(204,WJ),(60,TR),(194,VN),(162,Ua),(58,PW),(122,Yc),(22,Rs),(134,Vk),(102,VD),(150,WB),(46,lr),(174,U9)]
theorem qU:tt.mz 1 0=tl:=by kernel_rfl
set_option maxRecDepth 100000 in
theorem qT:∀p∈tl,Bj Tryz.prog p.1 p.2:=List.forall_mem_cons.2 ⟨nO,List.forall_mem_cons.2 ⟨jG,List.forall_mem_cons.2 ⟨gH,List.forall_mem_cons.2 ⟨cZ,List.forall_mem_cons.2 ⟨ay,List.forall_mem_cons.2 ⟨eF,List.forall_mem_cons.2 ⟨aB,List.forall_mem_cons.2 ⟨ZE,List.forall_mem_cons.2 ⟨ep,List.forall_mem_cons.2 ⟨eO,List.forall_mem_cons.2 ⟨cQ,List.forall_mem_cons.2 ⟨aO,List.forall_mem_cons.2 ⟨bL,List.forall_mem_cons.2 ⟨lL,List.forall_mem_cons.2 ⟨nR,List.forall_mem_cons.2 ⟨iX,List.forall_mem_cons.2 ⟨il,List.forall_mem_cons.2 ⟨iV,List.forall_mem_cons.2 ⟨cp,List.forall_mem_cons.2 ⟨gY,List.forall_mem_cons.2 ⟨cM,List.forall_mem_cons.2 ⟨cO,List.forall_mem_cons.2 ⟨iz,List.forall_mem_cons.2 ⟨bU,List.forall_mem_cons.2 ⟨aF,List.forall_mem_cons.2 ⟨Yr,List.forall_mem_cons.2 ⟨ie,List.forall_mem_cons.2 ⟨jU,List.forall_mem_cons.2 ⟨fQ,List.forall_mem_cons.2 ⟨bF,List.forall_mem_cons.2 ⟨aC,List.forall_mem_cons.2 ⟨mP,List.forall_mem_cons.2 ⟨lj,List.forall_mem_cons.2 ⟨fx,List.forall_mem_cons.2 ⟨YM,List.forall_mem_cons.2 ⟨dm,List.forall_mem_cons.2 ⟨Zd,List.forall_mem_cons.2 ⟨Zo,List.forall_mem_cons.2 ⟨iR,List.forall_mem_cons.2 ⟨Zr,List.forall_mem_cons.2 ⟨jY,List.forall_mem_cons.2 ⟨ZL,List.forall_mem_cons.2 ⟨iA,List.forall_mem_cons.2 ⟨Zl,List.forall_mem_cons.2 ⟨aJ,List.forall_mem_cons.2 ⟨iW,List.forall_mem_cons.2 ⟨cP,List.forall_mem_cons.2 ⟨fB,List.forall_mem_cons.2 ⟨ZR,List.forall_mem_cons.2 ⟨ZG,List.forall_mem_cons.2 ⟨Zy,List.forall_mem_cons.2 ⟨eR,List.forall_mem_cons.2 ⟨aA,(fun _ h=>by cases h)⟩⟩⟩⟩⟩⟩⟩⟩⟩⟩⟩⟩⟩⟩⟩⟩⟩⟩⟩⟩⟩⟩⟩⟩⟩⟩⟩⟩⟩⟩⟩⟩⟩⟩⟩⟩⟩⟩⟩⟩⟩⟩⟩⟩⟩⟩⟩⟩⟩⟩⟩⟩⟩
theorem BN:CR Tryz.prog tt.get:=fun k i h=>qT (k,i) (qU ▸ T.Vf h)
theorem mm:Av Tryz.prog 3 Tryz.f3:=⟨⟨Tryz.func3,by kernel_rfl,by kernel_rfl⟩,Av.AR (by kernel_rfl)⟩
theorem nL:Av Tryz.prog 4 Tryz.f4:=⟨⟨Tryz.func4,by kernel_rfl,by kernel_rfl⟩,Av.AR (by kernel_rfl)⟩
theorem nd:Av Tryz.prog 5 Tryz.f5:=⟨⟨Tryz.func5,by kernel_rfl,by kernel_rfl⟩,Av.AR (by kernel_rfl)⟩
theorem nQ:Av Tryz.prog 6 Tryz.f6:=⟨⟨Tryz.func6,by kernel_rfl,by kernel_rfl⟩,Av.AR (by kernel_rfl)⟩
theorem lz:Av Tryz.prog 7 Tryz.f7:=⟨⟨Tryz.func7,by kernel_rfl,by kernel_rfl⟩,Av.AR (by kernel_rfl)⟩
theorem TA:Av Tryz.prog 8 Tryz.f8:=⟨⟨Tryz.func8,by kernel_rfl,by kernel_rfl⟩,Av.AR (by kernel_rfl)⟩
theorem Sv:Av Tryz.prog 9 Tryz.f9:=⟨⟨Tryz.func9,by kernel_rfl,by kernel_rfl⟩,Av.AR (by kernel_rfl)⟩
theorem fX:Av Tryz.prog 10 Tryz.f10:=⟨⟨Tryz.func10,by kernel_rfl,by kernel_rfl⟩,Av.AR (by kernel_rfl)⟩
theorem Ph:Av Tryz.prog 11 Tryz.f11:=⟨⟨Tryz.func11,by kernel_rfl,by kernel_rfl⟩,Av.AR (by kernel_rfl)⟩
theorem PQ:Av Tryz.prog 12 Tryz.f12:=⟨⟨Tryz.func12,by kernel_rfl,by kernel_rfl⟩,Av.AR (by kernel_rfl)⟩
theorem QE:Av Tryz.prog 13 Tryz.f13:=⟨⟨Tryz.func13,by kernel_rfl,by kernel_rfl⟩,Av.AR (by kernel_rfl)⟩
theorem LP:Av Tryz.prog 14 Tryz.f14:=⟨⟨Tryz.func14,by kernel_rfl,by kernel_rfl⟩,Av.AR (by kernel_rfl)⟩
theorem jN:Av Tryz.prog 15 Tryz.f15:=⟨⟨Tryz.func15,by kernel_rfl,by kernel_rfl⟩,Av.AR (by kernel_rfl)⟩
theorem hZ:Av Tryz.prog 16 Tryz.f16:=⟨⟨Tryz.func16,by kernel_rfl,by kernel_rfl⟩,Av.AR (by kernel_rfl)⟩
theorem fw:Av Tryz.prog 17 Tryz.f17:=⟨⟨Tryz.func17,by kernel_rfl,by kernel_rfl⟩,Av.AR (by kernel_rfl)⟩
theorem gV:Av Tryz.prog 18 Tryz.f18:=⟨⟨Tryz.func18,by kernel_rfl,by kernel_rfl⟩,Av.AR (by kernel_rfl)⟩
theorem OW:Av Tryz.prog 19 Tryz.f19:=⟨⟨Tryz.func19,by kernel_rfl,by kernel_rfl⟩,Av.AR (by kernel_rfl)⟩
theorem QB:Av Tryz.prog 20 Tryz.f20:=⟨⟨Tryz.func20,by kernel_rfl,by kernel_rfl⟩,Av.AR (by kernel_rfl)⟩
theorem iw:Av Tryz.prog 21 Tryz.f21:=⟨⟨Tryz.func21,by kernel_rfl,by kernel_rfl⟩,Av.AR (by kernel_rfl)⟩
theorem gd:Av Tryz.prog 22 Tryz.f22:=⟨⟨Tryz.func22,by kernel_rfl,by kernel_rfl⟩,Av.AR (by kernel_rfl)⟩
theorem da:Av Tryz.prog 23 Tryz.f23:=⟨⟨Tryz.func23,by kernel_rfl,by kernel_rfl⟩,Av.AR (by kernel_rfl)⟩
theorem iD:Av Tryz.prog 24 Tryz.f24:=⟨⟨Tryz.func24,by kernel_rfl,by kernel_rfl⟩,Av.AR (by kernel_rfl)⟩
theorem dt:Av Tryz.prog 25 Tryz.f25:=⟨⟨Tryz.func25,by kernel_rfl,by kernel_rfl⟩,Av.AR (by kernel_rfl)⟩
theorem jS:Av Tryz.prog 26 Tryz.f26:=⟨⟨Tryz.func26,by kernel_rfl,by kernel_rfl⟩,Av.AR (by kernel_rfl)⟩
theorem Vt:Av Tryz.prog 27 Tryz.f27:=⟨⟨Tryz.func27,by kernel_rfl,by kernel_rfl⟩,Av.AR (by kernel_rfl)⟩
theorem Pw:Av Tryz.prog 28 Tryz.f28:=⟨⟨Tryz.func28,by kernel_rfl,by kernel_rfl⟩,Av.AR (by kernel_rfl)⟩
theorem Pc:Av Tryz.prog 29 Tryz.f29:=⟨⟨Tryz.func29,by kernel_rfl,by kernel_rfl⟩,Av.AR (by kernel_rfl)⟩
theorem gZ:Av Tryz.prog 30 Tryz.f30:=⟨⟨Tryz.func30,by kernel_rfl,by kernel_rfl⟩,Av.AR (by kernel_rfl)⟩
theorem iy:Av Tryz.prog 31 Tryz.f31:=⟨⟨Tryz.func31,by kernel_rfl,by kernel_rfl⟩,Av.AR (by kernel_rfl)⟩
theorem eV:Av Tryz.prog 32 Tryz.f32:=⟨⟨Tryz.func32,by kernel_rfl,by kernel_rfl⟩,Av.AR (by kernel_rfl)⟩
theorem VY:Av Tryz.prog 33 Tryz.f33:=⟨⟨Tryz.func33,by kernel_rfl,by kernel_rfl⟩,Av.AR (by kernel_rfl)⟩
theorem Oa:Av Tryz.prog 34 Tryz.f34:=⟨⟨Tryz.func34,by kernel_rfl,by kernel_rfl⟩,Av.AR (by kernel_rfl)⟩
theorem Ut:Av Tryz.prog 35 Tryz.f35:=⟨⟨Tryz.func35,by kernel_rfl,by kernel_rfl⟩,Av.AR (by kernel_rfl)⟩
theorem Pz:Av Tryz.prog 36 Tryz.f36:=⟨⟨Tryz.func36,by kernel_rfl,by kernel_rfl⟩,Av.AR (by kernel_rfl)⟩
theorem Ue:Av Tryz.prog 37 Tryz.f37:=⟨⟨Tryz.func37,by kernel_rfl,by kernel_rfl⟩,Av.AR (by kernel_rfl)⟩
theorem VB:Av Tryz.prog 38 Tryz.f38:=⟨⟨Tryz.func38,by kernel_rfl,by kernel_rfl⟩,Av.AR (by kernel_rfl)⟩
theorem QP:Av Tryz.prog 39 Tryz.f39:=⟨⟨Tryz.func39,by kernel_rfl,by kernel_rfl⟩,Av.AR (by kernel_rfl)⟩
theorem PE:Av Tryz.prog 40 Tryz.f40:=⟨⟨Tryz.func40,by kernel_rfl,by kernel_rfl⟩,Av.AR (by kernel_rfl)⟩
theorem Ob:Av Tryz.prog 41 Tryz.f41:=⟨⟨Tryz.func41,by kernel_rfl,by kernel_rfl⟩,Av.AR (by kernel_rfl)⟩
theorem P2:Av Tryz.prog 42 Tryz.f42:=⟨⟨Tryz.func42,by kernel_rfl,by kernel_rfl⟩,Av.AR (by kernel_rfl)⟩
theorem VX:Av Tryz.prog 43 Tryz.f43:=⟨⟨Tryz.func43,by kernel_rfl,by kernel_rfl⟩,Av.AR (by kernel_rfl)⟩
theorem WE:Av Tryz.prog 44 Tryz.f44:=⟨⟨Tryz.func44,by kernel_rfl,by kernel_rfl⟩,Av.AR (by kernel_rfl)⟩
theorem fC:Av Tryz.prog 45 Tryz.f45:=⟨⟨Tryz.func45,by kernel_rfl,by kernel_rfl⟩,Av.AR (by kernel_rfl)⟩
theorem Uf:Av Tryz.prog 46 Tryz.f46:=⟨⟨Tryz.func46,by kernel_rfl,by kernel_rfl⟩,Av.AR (by kernel_rfl)⟩
theorem gN:Av Tryz.prog 47 Tryz.f47:=⟨⟨Tryz.func47,by kernel_rfl,by kernel_rfl⟩,Av.AR (by kernel_rfl)⟩
theorem VQ:Av Tryz.prog 48 Tryz.f48:=⟨⟨Tryz.func48,by kernel_rfl,by kernel_rfl⟩,Av.AR (by kernel_rfl)⟩
theorem di:Av Tryz.prog 49 Tryz.f49:=⟨⟨Tryz.func49,by kernel_rfl,by kernel_rfl⟩,Av.AR (by kernel_rfl)⟩
theorem fG:Av Tryz.prog 50 Tryz.f50:=⟨⟨Tryz.func50,by kernel_rfl,by kernel_rfl⟩,Av.AR (by kernel_rfl)⟩
theorem LF:Av Tryz.prog 51 Tryz.f51:=⟨⟨Tryz.func51,by kernel_rfl,by kernel_rfl⟩,Av.AR (by kernel_rfl)⟩
theorem JL:Av Tryz.prog 52 Tryz.f52:=⟨⟨Tryz.func52,by kernel_rfl,by kernel_rfl⟩,Av.AR (by kernel_rfl)⟩
theorem ey:Av Tryz.prog 54 Tryz.f54:=⟨⟨Tryz.func54,by kernel_rfl,by kernel_rfl⟩,Av.AR (by kernel_rfl)⟩
theorem PC:Av Tryz.prog 55 Tryz.f55:=⟨⟨Tryz.func55,by kernel_rfl,by kernel_rfl⟩,Av.AR (by kernel_rfl)⟩
theorem Ou:Av Tryz.prog 56 Tryz.f56:=⟨⟨Tryz.func56,by kernel_rfl,by kernel_rfl⟩,Av.AR (by kernel_rfl)⟩
theorem P6:Av Tryz.prog 57 Tryz.f57:=⟨⟨Tryz.func57,by kernel_rfl,by kernel_rfl⟩,Av.AR (by kernel_rfl)⟩
theorem dz:Av Tryz.prog 58 Tryz.f58:=⟨⟨Tryz.func58,by kernel_rfl,by kernel_rfl⟩,Av.AR (by kernel_rfl)⟩
theorem ez:Av Tryz.prog 59 Tryz.f59:=⟨⟨Tryz.func59,by kernel_rfl,by kernel_rfl⟩,Av.AR (by kernel_rfl)⟩
theorem gD:Av Tryz.prog 60 Tryz.f60:=⟨⟨Tryz.func60,by kernel_rfl,by kernel_rfl⟩,Av.AR (by kernel_rfl)⟩
theorem Pa:Av Tryz.prog 61 Tryz.f61:=⟨⟨Tryz.func61,by kernel_rfl,by kernel_rfl⟩,Av.AR (by kernel_rfl)⟩
theorem fu:Av Tryz.prog 62 Tryz.f62:=⟨⟨Tryz.func62,by kernel_rfl,by kernel_rfl⟩,Av.AR (by kernel_rfl)⟩
theorem dj:Av Tryz.prog 63 Tryz.f63:=⟨⟨Tryz.func63,by kernel_rfl,by kernel_rfl⟩,Av.AR (by kernel_rfl)⟩
theorem Og:Av Tryz.prog 64 Tryz.f64:=⟨⟨Tryz.func64,by kernel_rfl,by kernel_rfl⟩,Av.AR (by kernel_rfl)⟩
theorem QT:Av Tryz.prog 65 Tryz.f65:=⟨⟨Tryz.func65,by kernel_rfl,by kernel_rfl⟩,Av.AR (by kernel_rfl)⟩
theorem VM:Av Tryz.prog 66 Tryz.f66:=⟨⟨Tryz.func66,by kernel_rfl,by kernel_rfl⟩,Av.AR (by kernel_rfl)⟩
theorem P0:Av Tryz.prog 67 Tryz.f67:=⟨⟨Tryz.func67,by kernel_rfl,by kernel_rfl⟩,Av.AR (by kernel_rfl)⟩
theorem QM:Av Tryz.prog 68 Tryz.f68:=⟨⟨Tryz.func68,by kernel_rfl,by kernel_rfl⟩,Av.AR (by kernel_rfl)⟩
theorem jE:Av Tryz.prog 69 Tryz.f69:=⟨⟨Tryz.func69,by kernel_rfl,by kernel_rfl⟩,Av.AR (by kernel_rfl)⟩
theorem fD:Av Tryz.prog 73 Tryz.f73:=⟨⟨Tryz.func73,by kernel_rfl,by kernel_rfl⟩,Av.AR (by kernel_rfl)⟩
theorem eJ:Av Tryz.prog 74 Tryz.f74:=⟨⟨Tryz.func74,by kernel_rfl,by kernel_rfl⟩,Av.AR (by kernel_rfl)⟩
theorem fN:Av Tryz.prog 75 Tryz.f75:=⟨⟨Tryz.func75,by kernel_rfl,by kernel_rfl⟩,Av.AR (by kernel_rfl)⟩
theorem gn:Av Tryz.prog 76 Tryz.f76:=⟨⟨Tryz.func76,by kernel_rfl,by kernel_rfl⟩,Av.AR (by kernel_rfl)⟩
theorem eh:Av Tryz.prog 77 Tryz.f77:=⟨⟨Tryz.func77,by kernel_rfl,by kernel_rfl⟩,Av.AR (by kernel_rfl)⟩
theorem gK:Av Tryz.prog 78 Tryz.f78:=⟨⟨Tryz.func78,by kernel_rfl,by kernel_rfl⟩,Av.AR (by kernel_rfl)⟩
theorem JV:Av Tryz.prog 79 Tryz.f79:=⟨⟨Tryz.func79,by kernel_rfl,by kernel_rfl⟩,Av.AR (by kernel_rfl)⟩
theorem VV:Av Tryz.prog 80 Tryz.f80:=⟨⟨Tryz.func80,by kernel_rfl,by kernel_rfl⟩,Av.AR (by kernel_rfl)⟩
theorem PX:Av Tryz.prog 81 Tryz.f81:=⟨⟨Tryz.func81,by kernel_rfl,by kernel_rfl⟩,Av.AR (by kernel_rfl)⟩
theorem eL:Av Tryz.prog 83 Tryz.f83:=⟨⟨Tryz.func83,by kernel_rfl,by kernel_rfl⟩,Av.AR (by kernel_rfl)⟩
theorem ec:Av Tryz.prog 84 Tryz.f84:=⟨⟨Tryz.func84,by kernel_rfl,by kernel_rfl⟩,Av.AR (by kernel_rfl)⟩
theorem eA:Av Tryz.prog 85 Tryz.f85:=⟨⟨Tryz.func85,by kernel_rfl,by kernel_rfl⟩,Av.AR (by kernel_rfl)⟩
theorem fp:Av Tryz.prog 86 Tryz.f86:=⟨⟨Tryz.func86,by kernel_rfl,by kernel_rfl⟩,Av.AR (by kernel_rfl)⟩
theorem eS:Av Tryz.prog 87 Tryz.f87:=⟨⟨Tryz.func87,by kernel_rfl,by kernel_rfl⟩,Av.AR (by kernel_rfl)⟩
theorem PT:Av Tryz.prog 88 Tryz.f88:=⟨⟨Tryz.func88,by kernel_rfl,by kernel_rfl⟩,Av.AR (by kernel_rfl)⟩
theorem Vw:Av Tryz.prog 89 Tryz.f89:=⟨⟨Tryz.func89,by kernel_rfl,by kernel_rfl⟩,Av.AR (by kernel_rfl)⟩
theorem iY:Av Tryz.prog 90 Tryz.f90:=⟨⟨Tryz.func90,by kernel_rfl,by kernel_rfl⟩,Av.AR (by kernel_rfl)⟩
theorem dn:Av Tryz.prog 91 Tryz.f91:=⟨⟨Tryz.func91,by kernel_rfl,by kernel_rfl⟩,Av.AR (by kernel_rfl)⟩
theorem gA:Av Tryz.prog 92 Tryz.f92:=⟨⟨Tryz.func92,by kernel_rfl,by kernel_rfl⟩,Av.AR (by kernel_rfl)⟩
theorem gy:Av Tryz.prog 93 Tryz.f93:=⟨⟨Tryz.func93,by kernel_rfl,by kernel_rfl⟩,Av.AR (by kernel_rfl)⟩
theorem Pt:Av Tryz.prog 94 Tryz.f94:=⟨⟨Tryz.func94,by kernel_rfl,by kernel_rfl⟩,Av.AR (by kernel_rfl)⟩
theorem jQ:Av Tryz.prog 95 Tryz.f95:=⟨⟨Tryz.func95,by kernel_rfl,by kernel_rfl⟩,Av.AR (by kernel_rfl)⟩
theorem ij:Av Tryz.prog 98 Tryz.f98:=⟨⟨Tryz.func98,by kernel_rfl,by kernel_rfl⟩,Av.AR (by kernel_rfl)⟩
theorem gm:Av Tryz.prog 99 Tryz.f99:=⟨⟨Tryz.func99,by kernel_rfl,by kernel_rfl⟩,Av.AR (by kernel_rfl)⟩
theorem YF:Av Tryz.prog 100 Tryz.f100:=⟨⟨Tryz.func100,by kernel_rfl,by kernel_rfl⟩,Av.AR (by kernel_rfl)⟩
theorem cg:Av Tryz.prog 101 Tryz.f101:=⟨⟨Tryz.func101,by kernel_rfl,by kernel_rfl⟩,Av.AR (by kernel_rfl)⟩
theorem bN:Av Tryz.prog 102 Tryz.f102:=⟨⟨Tryz.func102,by kernel_rfl,by kernel_rfl⟩,Av.AR (by kernel_rfl)⟩
theorem Yk:Av Tryz.prog 103 Tryz.f103:=⟨⟨Tryz.func103,by kernel_rfl,by kernel_rfl⟩,Av.AR (by kernel_rfl)⟩
theorem bK:Av Tryz.prog 104 Tryz.f104:=⟨⟨Tryz.func104,by kernel_rfl,by kernel_rfl⟩,Av.AR (by kernel_rfl)⟩
theorem cd:Av Tryz.prog 105 Tryz.f105:=⟨⟨Tryz.func105,by kernel_rfl,by kernel_rfl⟩,Av.AR (by kernel_rfl)⟩
theorem bR:Av Tryz.prog 106 Tryz.f106:=⟨⟨Tryz.func106,by kernel_rfl,by kernel_rfl⟩,Av.AR (by kernel_rfl)⟩
theorem JO:Av Tryz.prog 107 Tryz.f107:=⟨⟨Tryz.func107,by kernel_rfl,by kernel_rfl⟩,Av.AR (by kernel_rfl)⟩
theorem Mn:Av Tryz.prog 108 Tryz.f108:=⟨⟨Tryz.func108,by kernel_rfl,by kernel_rfl⟩,Av.AR (by kernel_rfl)⟩
theorem MY:Av Tryz.prog 109 Tryz.f109:=⟨⟨Tryz.func109,by kernel_rfl,by kernel_rfl⟩,Av.AR (by kernel_rfl)⟩
theorem NB:Av Tryz.prog 110 Tryz.f110:=⟨⟨Tryz.func110,by kernel_rfl,by kernel_rfl⟩,Av.AR (by kernel_rfl)⟩
theorem L5:Av Tryz.prog 111 Tryz.f111:=⟨⟨Tryz.func111,by kernel_rfl,by kernel_rfl⟩,Av.AR (by kernel_rfl)⟩
theorem Lw:Av Tryz.prog 112 Tryz.f112:=⟨⟨Tryz.func112,by kernel_rfl,by kernel_rfl⟩,Av.AR (by kernel_rfl)⟩
theorem ND:Av Tryz.prog 113 Tryz.f113:=⟨⟨Tryz.func113,by kernel_rfl,by kernel_rfl⟩,Av.AR (by kernel_rfl)⟩
theorem MI:Av Tryz.prog 114 Tryz.f114:=⟨⟨Tryz.func114,by kernel_rfl,by kernel_rfl⟩,Av.AR (by kernel_rfl)⟩
theorem Mh:Av Tryz.prog 115 Tryz.f115:=⟨⟨Tryz.func115,by kernel_rfl,by kernel_rfl⟩,Av.AR (by kernel_rfl)⟩
theorem aQ:Av Tryz.prog 116 Tryz.f116:=⟨⟨Tryz.func116,by kernel_rfl,by kernel_rfl⟩,Av.AR (by kernel_rfl)⟩
theorem Zk:Av Tryz.prog 117 Tryz.f117:=⟨⟨Tryz.func117,by kernel_rfl,by kernel_rfl⟩,Av.AR (by kernel_rfl)⟩
theorem ch:Av Tryz.prog 118 Tryz.f118:=⟨⟨Tryz.func118,by kernel_rfl,by kernel_rfl⟩,Av.AR (by kernel_rfl)⟩
theorem YU:Av Tryz.prog 119 Tryz.f119:=⟨⟨Tryz.func119,by kernel_rfl,by kernel_rfl⟩,Av.AR (by kernel_rfl)⟩
theorem cU:Av Tryz.prog 120 Tryz.f120:=⟨⟨Tryz.func120,by kernel_rfl,by kernel_rfl⟩,Av.AR (by kernel_rfl)⟩
theorem YY:Av Tryz.prog 121 Tryz.f121:=⟨⟨Tryz.func121,by kernel_rfl,by kernel_rfl⟩,Av.AR (by kernel_rfl)⟩
theorem YJ:Av Tryz.prog 123 Tryz.f123:=⟨⟨Tryz.func123,by kernel_rfl,by kernel_rfl⟩,Av.AR (by kernel_rfl)⟩
theorem ZO:Av Tryz.prog 124 Tryz.f124:=⟨⟨Tryz.func124,by kernel_rfl,by kernel_rfl⟩,Av.AR (by kernel_rfl)⟩
theorem YX:Av Tryz.prog 126 Tryz.f126:=⟨⟨Tryz.func126,by kernel_rfl,by kernel_rfl⟩,Av.AR (by kernel_rfl)⟩
theorem aS:Av Tryz.prog 128 Tryz.f128:=⟨⟨Tryz.func128,by kernel_rfl,by kernel_rfl⟩,Av.AR (by kernel_rfl)⟩
theorem cN:Av Tryz.prog 129 Tryz.f129:=⟨⟨Tryz.func129,by kernel_rfl,by kernel_rfl⟩,Av.AR (by kernel_rfl)⟩
theorem aE:Av Tryz.prog 130 Tryz.f130:=⟨⟨Tryz.func130,by kernel_rfl,by kernel_rfl⟩,Av.AR (by kernel_rfl)⟩
theorem bZ:Av Tryz.prog 131 Tryz.f131:=⟨⟨Tryz.func131,by kernel_rfl,by kernel_rfl⟩,Av.AR (by kernel_rfl)⟩
theorem Mf:Av Tryz.prog 132 Tryz.f132:=⟨⟨Tryz.func132,by kernel_rfl,by kernel_rfl⟩,Av.AR (by kernel_rfl)⟩
theorem MG:Av Tryz.prog 133 Tryz.f133:=⟨⟨Tryz.func133,by kernel_rfl,by kernel_rfl⟩,Av.AR (by kernel_rfl)⟩
theorem La:Av Tryz.prog 134 Tryz.f134:=⟨⟨Tryz.func134,by kernel_rfl,by kernel_rfl⟩,Av.AR (by kernel_rfl)⟩
theorem LQ:Av Tryz.prog 135 Tryz.f135:=⟨⟨Tryz.func135,by kernel_rfl,by kernel_rfl⟩,Av.AR (by kernel_rfl)⟩
theorem Ly:Av Tryz.prog 136 Tryz.f136:=⟨⟨Tryz.func136,by kernel_rfl,by kernel_rfl⟩,Av.AR (by kernel_rfl)⟩
theorem Ls:Av Tryz.prog 137 Tryz.f137:=⟨⟨Tryz.func137,by kernel_rfl,by kernel_rfl⟩,Av.AR (by kernel_rfl)⟩
theorem Y8:Av Tryz.prog 138 Tryz.f138:=⟨⟨Tryz.func138,by kernel_rfl,by kernel_rfl⟩,Av.AR (by kernel_rfl)⟩
theorem dD:Av Tryz.prog 139 Tryz.f139:=⟨⟨Tryz.func139,by kernel_rfl,by kernel_rfl⟩,Av.AR (by kernel_rfl)⟩
theorem YC:Av Tryz.prog 141 Tryz.f141:=⟨⟨Tryz.func141,by kernel_rfl,by kernel_rfl⟩,Av.AR (by kernel_rfl)⟩
theorem NG:Av Tryz.prog 142 Tryz.f142:=⟨⟨Tryz.func142,by kernel_rfl,by kernel_rfl⟩,Av.AR (by kernel_rfl)⟩
theorem bQ:Av Tryz.prog 163 Tryz.f163:=⟨⟨Tryz.func163,by kernel_rfl,by kernel_rfl⟩,Av.AR (by kernel_rfl)⟩
theorem cq:Av Tryz.prog 180 Tryz.f180:=⟨⟨Tryz.func180,by kernel_rfl,by kernel_rfl⟩,Av.AR (by kernel_rfl)⟩
noncomputable def ft:T Func:=(.node (.node (.node (.node (.node (.node (.node .nil (some Tryz.f63) .nil) (some Tryz.f31) (.node .nil (some Tryz.f95) .nil)) (some Tryz.f15) (.node (.node .nil (some Tryz.f79) .nil) (some Tryz.f47) (.node .nil (some Tryz.f111) .nil))) (some Tryz.f7) (.node (.node (.node (.node .nil (some Tryz.f135) .nil) none .nil) (some Tryz.f39) (.node .nil (some Tryz.f103) .nil)) (some Tryz.f23) (.node (.node .nil (some Tryz.f87) .nil) (some Tryz.f55) (.node .nil (some Tryz.f119) .nil)))) (some Tryz.f3) (.node (.node (.node (.node (.node .nil (some Tryz.f131) .nil) (some Tryz.f67) .nil) (some Tryz.f35) (.node (.node .nil (some Tryz.f163) .nil) (some Tryz.f99) .nil)) (some Tryz.f19) (.node (.node .nil (some Tryz.f83) .nil) (some Tryz.f51) (.node .nil (some Tryz.f115) .nil))) (some Tryz.f11) (.node (.node (.node (.node .nil (some Tryz.f139) .nil) (some Tryz.f75) .nil) (some Tryz.f43) (.node .nil (some Tryz.f107) .nil)) (some Tryz.f27) (.node (.node .nil (some Tryz.f91) .nil) (some Tryz.f59) (.node .nil (some Tryz.f123) .nil))))) none (.node (.node (.node (.node (.node (.node .nil (some Tryz.f129) .nil) (some Tryz.f65) .nil) (some Tryz.f33) .nil) (some Tryz.f17) (.node (.node .nil (some Tryz.f81) .nil) (some Tryz.f49) (.node .nil (some Tryz.f113) .nil))) (some Tryz.f9) (.node (.node (.node (.node .nil (some Tryz.f137) .nil) (some Tryz.f73) .nil) (some Tryz.f41) (.node .nil (some Tryz.f105) .nil)) (some Tryz.f25) (.node (.node .nil (some Tryz.f89) .nil) (some Tryz.f57) (.node .nil (some Tryz.f121) .nil)))) (some Tryz.f5) (.node (.node (.node (.node (.node .nil (some Tryz.f133) .nil) (some Tryz.f69) .nil) (some Tryz.f37) (.node .nil (some Tryz.f101) .nil)) (some Tryz.f21) (.node (.node .nil (some Tryz.f85) .nil) none (.node .nil (some Tryz.f117) .nil))) (some Tryz.f13) (.node (.node (.node (.node .nil (some Tryz.f141) .nil) (some Tryz.f77) .nil) (some Tryz.f45) (.node .nil (some Tryz.f109) .nil)) (some Tryz.f29) (.node (.node .nil (some Tryz.f93) .nil) (some Tryz.f61) .nil))))) none (.node (.node (.node (.node (.node (.node (.node .nil (some Tryz.f128) .nil) (some Tryz.f64) .nil) (some Tryz.f32) .nil) (some Tryz.f16) (.node (.node .nil (some Tryz.f80) .nil) (some Tryz.f48) (.node .nil (some Tryz.f112) .nil))) (some Tryz.f8) (.node (.node (.node (.node .nil (some Tryz.f136) .nil) none .nil) (some Tryz.f40) (.node .nil (some Tryz.f104) .nil)) (some Tryz.f24) (.node (.node .nil (some Tryz.f88) .nil) (some Tryz.f56) (.node .nil (some Tryz.f120) .nil)))) (some Tryz.f4) (.node (.node (.node (.node (.node .nil (some Tryz.f132) .nil) (some Tryz.f68) .nil) (some Tryz.f36) (.node .nil (some Tryz.f100) .nil)) (some Tryz.f20) (.node (.node .nil (some Tryz.f84) .nil) (some Tryz.f52) (.node (.node .nil (some Tryz.f180) .nil) (some Tryz.f116) .nil))) (some Tryz.f12) (.node (.node (.node .nil (some Tryz.f76) .nil) (some Tryz.f44) (.node .nil (some Tryz.f108) .nil)) (some Tryz.f28) (.node (.node .nil (some Tryz.f92) .nil) (some Tryz.f60) (.node .nil (some Tryz.f124) .nil))))) none (.node (.node (.node (.node (.node (.node .nil (some Tryz.f130) .nil) (some Tryz.f66) .nil) (some Tryz.f34) (.node .nil (some Tryz.f98) .nil)) (some Tryz.f18) (.node .nil (some Tryz.f50) (.node .nil (some Tryz.f114) .nil))) (some Tryz.f10) (.node (.node (.node (.node .nil (some Tryz.f138) .nil) (some Tryz.f74) .nil) (some Tryz.f42) (.node .nil (some Tryz.f106) .nil)) (some Tryz.f26) (.node (.node .nil (some Tryz.f90) .nil) (some Tryz.f58) .nil))) (some Tryz.f6) (.node (.node (.node (.node (.node .nil (some Tryz.f134) .nil) none .nil) (some Tryz.f38) (.node .nil (some Tryz.f102) .nil)) (some Tryz.f22) (.node (.node .nil (some Tryz.f86) .nil) (some Tryz.f54) (.node .nil (some Tryz.f118) .nil))) (some Tryz.f14) (.node (.node (.node (.node .nil (some Tryz.f142) .nil) (some Tryz.f78) .nil) (some Tryz.f46) (.node .nil (some Tryz.f110) .nil)) (some Tryz.f30) (.node (.node .nil (some Tryz.f94) .nil) (some Tryz.f62) (.node .nil (some Tryz.f126) .nil)))))))
noncomputable def fl:List (Nat×Func):= [(3,Tryz.f3),(7,Tryz.f7),(15,Tryz.f15),(31,Tryz.f31),(63,Tryz.f63),(95,Tryz.f95),(47,Tryz.f47),(79,Tryz.f79),(111,Tryz.f111),(23,Tryz.f23),(39,Tryz.f39),(135,Tryz.f135),(103,Tryz.f103),(55,Tryz.f55),(87,Tryz.f87),(119,Tryz.f119),(11,Tryz.f11),(19,Tryz.f19),(35,Tryz.f35),(67,Tryz.f67),(131,Tryz.f131),(99,Tryz.f99),(163,Tryz.f163),(51,Tryz.f51),(83,Tryz.f83),(115,Tryz.f115),(27,Tryz.f27),(43,Tryz.f43),(75,Tryz.f75),(139,Tryz.f139),(107,Tryz.f107),(59,Tryz.f59),(91,Tryz.f91),(123,Tryz.f123),(5,Tryz.f5),(9,Tryz.f9),(17,Tryz.f17),(33,Tryz.f33),(65,Tryz.f65),(129,Tryz.f129),(49,Tryz.f49),(81,Tryz.f81),(113,Tryz.f113),(25,Tryz.f25),(41,Tryz.f41),(73,Tryz.f73),(137,Tryz.f137),(105,Tryz.f105),(57,Tryz.f57),(89,Tryz.f89),(121,Tryz.f121),(13,Tryz.f13),(21,Tryz.f21),(37,Tryz.f37),(69,Tryz.f69),(133,Tryz.f133),(101,Tryz.f101),(85,Tryz.f85),(117,Tryz.f117),(29,Tryz.f29),(45,Tryz.f45),(77,Tryz.f77),(141,Tryz.f141),(109,Tryz.f109),(61,Tryz.f61),(93,Tryz.f93),(4,Tryz.f4),(8,Tryz.f8),(16,Tryz.f16),(32,Tryz.f32),(64,Tryz.f64),(128,Tryz.f128),(48,Tryz.f48),(80,Tryz.f80),(112,Tryz.f112),(24,Tryz.f24),(40,Tryz.f40),(136,Tryz.f136),(104,Tryz.f104),(56,Tryz.f56),(88,Tryz.f88),(120,Tryz.f120),(12,Tryz.f12),(20,Tryz.f20),(36,Tryz.f36),(68,Tryz.f68),(132,Tryz.f132),(100,Tryz.f100),(52,Tryz.f52),(84,Tryz.f84),(116,Tryz.f116),(180,Tryz.f180),(28,Tryz.f28),(44,Tryz.f44),(76,Tryz.f76),(108,Tryz.f108),(60,Tryz.f60),(92,Tryz.f92),(124,Tryz.f124),(6,Tryz.f6),(10,Tryz.f10),(18,Tryz.f18),(34,Tryz.f34),(66,Tryz.f66),(130,Tryz.f130),(98,Tryz.f98),(50,Tryz.f50),(114,Tryz.f114),(26,Tryz.f26),(42,Tryz.f42),(74,Tryz.f74),(138,Tryz.f138),(106,Tryz.f106),(58,Tryz.f58),(90,Tryz.f90),(14,Tryz.f14),(22,Tryz.f22),(38,Tryz.f38),(134,Tryz.f134),(102,Tryz.f102),(54,Tryz.f54),(86,Tryz.f86),(118,Tryz.f118),(30,Tryz.f30),(46,Tryz.f46),(78,Tryz.f78),(142,Tryz.f142),(110,Tryz.f110),(62,Tryz.f62),(94,Tryz.f94),(126,Tryz.f126)]
theorem pw:ft.mz 1 0=fl:=by kernel_rfl
set_option maxRecDepth 100000 in
theorem pN:∀p∈fl,Av Tryz.prog p.1 p.2:=List.forall_mem_cons.2 ⟨mm,List.forall_mem_cons.2 ⟨lz,List.forall_mem_cons.2 ⟨jN,List.forall_mem_cons.2 ⟨iy,List.forall_mem_cons.2 ⟨dj,List.forall_mem_cons.2 ⟨jQ,List.forall_mem_cons.2 ⟨gN,List.forall_mem_cons.2 ⟨JV,List.forall_mem_cons.2 ⟨L5,List.forall_mem_cons.2 ⟨da,List.forall_mem_cons.2 ⟨QP,List.forall_mem_cons.2 ⟨LQ,List.forall_mem_cons.2 ⟨Yk,List.forall_mem_cons.2 ⟨PC,List.forall_mem_cons.2 ⟨eS,List.forall_mem_cons.2 ⟨YU,List.forall_mem_cons.2 ⟨Ph,List.forall_mem_cons.2 ⟨OW,List.forall_mem_cons.2 ⟨Ut,List.forall_mem_cons.2 ⟨P0,List.forall_mem_cons.2 ⟨bZ,List.forall_mem_cons.2 ⟨gm,List.forall_mem_cons.2 ⟨bQ,List.forall_mem_cons.2 ⟨LF,List.forall_mem_cons.2 ⟨eL,List.forall_mem_cons.2 ⟨Mh,List.forall_mem_cons.2 ⟨Vt,List.forall_mem_cons.2 ⟨VX,List.forall_mem_cons.2 ⟨fN,List.forall_mem_cons.2 ⟨dD,List.forall_mem_cons.2 ⟨JO,List.forall_mem_cons.2 ⟨ez,List.forall_mem_cons.2 ⟨dn,List.forall_mem_cons.2 ⟨YJ,List.forall_mem_cons.2 ⟨nd,List.forall_mem_cons.2 ⟨Sv,List.forall_mem_cons.2 ⟨fw,List.forall_mem_cons.2 ⟨VY,List.forall_mem_cons.2 ⟨QT,List.forall_mem_cons.2 ⟨cN,List.forall_mem_cons.2 ⟨di,List.forall_mem_cons.2 ⟨PX,List.forall_mem_cons.2 ⟨ND,List.forall_mem_cons.2 ⟨dt,List.forall_mem_cons.2 ⟨Ob,List.forall_mem_cons.2 ⟨fD,List.forall_mem_cons.2 ⟨Ls,List.forall_mem_cons.2 ⟨cd,List.forall_mem_cons.2 ⟨P6,List.forall_mem_cons.2 ⟨Vw,List.forall_mem_cons.2 ⟨YY,List.forall_mem_cons.2 ⟨QE,List.forall_mem_cons.2 ⟨iw,List.forall_mem_cons.2 ⟨Ue,List.forall_mem_cons.2 ⟨jE,List.forall_mem_cons.2 ⟨MG,List.forall_mem_cons.2 ⟨cg,List.forall_mem_cons.2 ⟨eA,List.forall_mem_cons.2 ⟨Zk,List.forall_mem_cons.2 ⟨Pc,List.forall_mem_cons.2 ⟨fC,List.forall_mem_cons.2 ⟨eh,List.forall_mem_cons.2 ⟨YC,List.forall_mem_cons.2 ⟨MY,List.forall_mem_cons.2 ⟨Pa,List.forall_mem_cons.2 ⟨gy,List.forall_mem_cons.2 ⟨nL,List.forall_mem_cons.2 ⟨TA,List.forall_mem_cons.2 ⟨hZ,List.forall_mem_cons.2 ⟨eV,List.forall_mem_cons.2 ⟨Og,List.forall_mem_cons.2 ⟨aS,List.forall_mem_cons.2 ⟨VQ,List.forall_mem_cons.2 ⟨VV,List.forall_mem_cons.2 ⟨Lw,List.forall_mem_cons.2 ⟨iD,List.forall_mem_cons.2 ⟨PE,List.forall_mem_cons.2 ⟨Ly,List.forall_mem_cons.2 ⟨bK,List.forall_mem_cons.2 ⟨Ou,List.forall_mem_cons.2 ⟨PT,List.forall_mem_cons.2 ⟨cU,List.forall_mem_cons.2 ⟨PQ,List.forall_mem_cons.2 ⟨QB,List.forall_mem_cons.2 ⟨Pz,List.forall_mem_cons.2 ⟨QM,List.forall_mem_cons.2 ⟨Mf,List.forall_mem_cons.2 ⟨YF,List.forall_mem_cons.2 ⟨JL,List.forall_mem_cons.2 ⟨ec,List.forall_mem_cons.2 ⟨aQ,List.forall_mem_cons.2 ⟨cq,List.forall_mem_cons.2 ⟨Pw,List.forall_mem_cons.2 ⟨WE,List.forall_mem_cons.2 ⟨gn,List.forall_mem_cons.2 ⟨Mn,List.forall_mem_cons.2 ⟨gD,List.forall_mem_cons.2 ⟨gA,List.forall_mem_cons.2 ⟨ZO,List.forall_mem_cons.2 ⟨nQ,List.forall_mem_cons.2 ⟨fX,List.forall_mem_cons.2 ⟨gV,List.forall_mem_cons.2 ⟨Oa,List.forall_mem_cons.2 ⟨VM,List.forall_mem_cons.2 ⟨aE,List.forall_mem_cons.2 ⟨ij,List.forall_mem_cons.2 ⟨fG,List.forall_mem_cons.2 ⟨MI,List.forall_mem_cons.2 ⟨jS,List.forall_mem_cons.2 ⟨P2,List.forall_mem_cons.2 ⟨eJ,List.forall_mem_cons.2 ⟨Y8,List.forall_mem_cons.2 ⟨bR,List.forall_mem_cons.2 ⟨dz,List.forall_mem_cons.2 ⟨iY,List.forall_mem_cons.2 ⟨LP,List.forall_mem_cons.2 ⟨gd,List.forall_mem_cons.2 ⟨VB,List.forall_mem_cons.2 ⟨La,List.forall_mem_cons.2 ⟨bN,List.forall_mem_cons.2 ⟨ey,List.forall_mem_cons.2 ⟨fp,List.forall_mem_cons.2 ⟨ch,List.forall_mem_cons.2 ⟨gZ,List.forall_mem_cons.2 ⟨Uf,List.forall_mem_cons.2 ⟨gK,List.forall_mem_cons.2 ⟨NG,List.forall_mem_cons.2 ⟨NB,List.forall_mem_cons.2 ⟨fu,List.forall_mem_cons.2 ⟨Pt,List.forall_mem_cons.2 ⟨YX,(fun _ h=>by cases h)⟩⟩⟩⟩⟩⟩⟩⟩⟩⟩⟩⟩⟩⟩⟩⟩⟩⟩⟩⟩⟩⟩⟩⟩⟩⟩⟩⟩⟩⟩⟩⟩⟩⟩⟩⟩⟩⟩⟩⟩⟩⟩⟩⟩⟩⟩⟩⟩⟩⟩⟩⟩⟩⟩⟩⟩⟩⟩⟩⟩⟩⟩⟩⟩⟩⟩⟩⟩⟩⟩⟩⟩⟩⟩⟩⟩⟩⟩⟩⟩⟩⟩⟩⟩⟩⟩⟩⟩⟩⟩⟩⟩⟩⟩⟩⟩⟩⟩⟩⟩⟩⟩⟩⟩⟩⟩⟩⟩⟩⟩⟩⟩⟩⟩⟩⟩⟩⟩⟩⟩⟩⟩⟩⟩⟩⟩⟩⟩⟩⟩⟩
theorem o9:∀f fn,ft.get f=some fn→Av Tryz.prog f fn:=fun k i h=>pN (k,i) (pw ▸ T.Vf h)
noncomputable def run (lf d:Nat):Go.Dm.Callee:=Mo tt.get ft.get (fun cl=>draw tt.get cl) lf d
theorem env (lf d:Nat):Env Tryz.prog tt.get (run lf d):=aL BN o9 (fun cl E=>eU cl E) lf d
end Go.Proofs.YthpibnpeaidabaaGreatDoor.Dm
