import Derived.Test.YthpibnpeaidabaaGreatDoorDmD
import Derived.Test.YthpibnpeaidabaaGreatDoorRows
namespace Go.Proofs.YthpibnpeaidabaaGreatDoor.Dm
open Go.Dm
noncomputable def yu:TI:= {ud:= .int .i64,size:=1,bytes:=8,zero:=(.int .i64 (0)),cmp:=false}
theorem tX:Bq Tryz.prog 2 yu:=Bq.of (by kernel_rfl) (by kernel_rfl) (by kernel_rfl) (by kernel_rfl) (by intro h;cases h)
noncomputable def Yg:TI:= {ud:= .int .i64,size:=1,bytes:=8,zero:=(.int .i64 (0)),cmp:=true}
theorem tx:Bq Tryz.prog 3 Yg:=Bq.of (by kernel_rfl) (by kernel_rfl) (by kernel_rfl) (by kernel_rfl) (fun _=>⟨by kernel_rfl,by kernel_rfl⟩)
noncomputable def xO:TI:= {ud:= .bool,size:=1,bytes:=1,zero:=(.bool false),cmp:=false}
theorem tM:Bq Tryz.prog 4 xO:=Bq.of (by kernel_rfl) (by kernel_rfl) (by kernel_rfl) (by kernel_rfl) (by intro h;cases h)
noncomputable def Z5:TI:= {ud:= .int .u8,size:=1,bytes:=1,zero:=(.int .u8 (0)),cmp:=true}
theorem tb:Bq Tryz.prog 5 Z5:=Bq.of (by kernel_rfl) (by kernel_rfl) (by kernel_rfl) (by kernel_rfl) (fun _=>⟨by kernel_rfl,by kernel_rfl⟩)
noncomputable def iy:TI:= {ud:= .string,size:=1,bytes:=16,zero:=(.string ⟨⟨[]⟩⟩),cmp:=true}
theorem uJ:Bq Tryz.prog 9 iy:=Bq.of (by kernel_rfl) (by kernel_rfl) (by kernel_rfl) (by kernel_rfl) (fun _=>⟨by kernel_rfl,by kernel_rfl⟩)
noncomputable def q7:TI:= {ud:= .pointer 216,size:=1,bytes:=8,zero:=(.pointer none),cmp:=false}
theorem ln:Bq Tryz.prog 17 q7:=Bq.of (by kernel_rfl) (by kernel_rfl) (by kernel_rfl) (by kernel_rfl) (by intro h;cases h)
noncomputable def fJ:TI:= {ud:= .interface #[],size:=1,bytes:=16,zero:= .nilIface,cmp:=true}
theorem mx:Bq Tryz.prog 20 fJ:=Bq.of (by kernel_rfl) (by kernel_rfl) (by kernel_rfl) (by kernel_rfl) (fun _=>⟨by kernel_rfl,by kernel_rfl⟩)
noncomputable def af:TI:= {ud:= .int .i32,size:=1,bytes:=4,zero:=(.int .i32 (0)),cmp:=true}
theorem lJ:Bq Tryz.prog 21 af:=Bq.of (by kernel_rfl) (by kernel_rfl) (by kernel_rfl) (by kernel_rfl) (fun _=>⟨by kernel_rfl,by kernel_rfl⟩)
noncomputable def RF:TI:= {ud:= .slice 33,size:=1,bytes:=24,zero:=(.slice none 0 0),cmp:=false}
theorem kW:Bq Tryz.prog 22 RF:=Bq.of (by kernel_rfl) (by kernel_rfl) (by kernel_rfl) (by kernel_rfl) (by intro h;cases h)
noncomputable def aI:TI:= {ud:= .int .i64,size:=1,bytes:=8,zero:=(.int .i64 (0)),cmp:=true}
theorem kL:Bq Tryz.prog 24 aI:=Bq.of (by kernel_rfl) (by kernel_rfl) (by kernel_rfl) (by kernel_rfl) (fun _=>⟨by kernel_rfl,by kernel_rfl⟩)
noncomputable def K6:TI:= {ud:= .int .u64,size:=1,bytes:=8,zero:=(.int .u64 (0)),cmp:=true}
theorem oB:Bq Tryz.prog 28 K6:=Bq.of (by kernel_rfl) (by kernel_rfl) (by kernel_rfl) (by kernel_rfl) (fun _=>⟨by kernel_rfl,by kernel_rfl⟩)
noncomputable def Jf:TI:= {ud:= .int .u32,size:=1,bytes:=4,zero:=(.int .u32 (0)),cmp:=true}
theorem nk:Bq Tryz.prog 29 Jf:=Bq.of (by kernel_rfl) (by kernel_rfl) (by kernel_rfl) (by kernel_rfl) (fun _=>⟨by kernel_rfl,by kernel_rfl⟩)
noncomputable def V4:TI:= {ud:= .array 4 28,size:=4,bytes:=32,zero:=(.agg ⟨[(.int .u64 (0)),(.int .u64 (0)),(.int .u64 (0)),(.int .u64 (0))]⟩),cmp:=true}
theorem mc:Bq Tryz.prog 31 V4:=Bq.of (by kernel_rfl) (by kernel_rfl) (by kernel_rfl) (by kernel_rfl) (fun _=>⟨by kernel_rfl,by kernel_rfl⟩)
noncomputable def Lg:TI:= {ud:= .struct #[{name:= "At",type:=28,offset:=0,embedded:=false,tag:= "",pkgPath:= "",byteOffset:=0}, {name:= "Kind",type:=3,offset:=1,embedded:=false,tag:= "",pkgPath:= "",byteOffset:=8}, {name:= "Router",type:=3,offset:=2,embedded:=false,tag:= "",pkgPath:= "",byteOffset:=16}, {name:= "Peer",type:=3,offset:=3,embedded:=false,tag:= "",pkgPath:= "",byteOffset:=24}, {name:= "Id",type:=29,offset:=4,embedded:=false,tag:= "",pkgPath:= "",byteOffset:=32}, {name:= "Set",type:=3,offset:=5,embedded:=false,tag:= "",pkgPath:= "",byteOffset:=40}, {name:= "Bits",type:=31,offset:=6,embedded:=false,tag:= "",pkgPath:= "",byteOffset:=48}],size:=10,bytes:=80,zero:=(.agg ⟨[(.int .u64 (0)),(.int .i64 (0)),(.int .i64 (0)),(.int .i64 (0)),(.int .u32 (0)),(.int .i64 (0)),(.int .u64 (0)),(.int .u64 (0)),(.int .u64 (0)),(.int .u64 (0))]⟩),cmp:=true}
theorem nT:Bq Tryz.prog 33 Lg:=Bq.of (by kernel_rfl) (by kernel_rfl) (by kernel_rfl) (by kernel_rfl) (fun _=>⟨by kernel_rfl,by kernel_rfl⟩)
noncomputable def Pq:TI:= {ud:= .interface #[("Error",69)],size:=1,bytes:=16,zero:= .nilIface,cmp:=false}
theorem oX:Bq Tryz.prog 35 Pq:=Bq.of (by kernel_rfl) (by kernel_rfl) (by kernel_rfl) (by kernel_rfl) (by intro h;cases h)
noncomputable def r4:TI:= {ud:= .struct #[{name:= "Code",type:=24,offset:=0,embedded:=false,tag:= "",pkgPath:= "",byteOffset:=0}, {name:= "At",type:=3,offset:=1,embedded:=false,tag:= "",pkgPath:= "",byteOffset:=8}],size:=2,bytes:=16,zero:=(.agg ⟨[(.int .i64 (0)),(.int .i64 (0))]⟩),cmp:=false}
theorem nC:Bq Tryz.prog 46 r4:=Bq.of (by kernel_rfl) (by kernel_rfl) (by kernel_rfl) (by kernel_rfl) (by intro h;cases h)
noncomputable def OI:TI:= {ud:= .slice 29,size:=1,bytes:=24,zero:=(.slice none 0 0),cmp:=false}
theorem nx:Bq Tryz.prog 51 OI:=Bq.of (by kernel_rfl) (by kernel_rfl) (by kernel_rfl) (by kernel_rfl) (by intro h;cases h)
noncomputable def Ll:TI:= {ud:= .slice 9,size:=1,bytes:=24,zero:=(.slice none 0 0),cmp:=false}
theorem nc:Bq Tryz.prog 58 Ll:=Bq.of (by kernel_rfl) (by kernel_rfl) (by kernel_rfl) (by kernel_rfl) (by intro h;cases h)
noncomputable def Ng:TI:= {ud:= .slice 5,size:=1,bytes:=24,zero:=(.slice none 0 0),cmp:=false}
theorem oU:Bq Tryz.prog 60 Ng:=Bq.of (by kernel_rfl) (by kernel_rfl) (by kernel_rfl) (by kernel_rfl) (by intro h;cases h)
noncomputable def U6:TI:= {ud:= .pointer 65,size:=1,bytes:=8,zero:=(.pointer none),cmp:=true}
theorem mR:Bq Tryz.prog 63 U6:=Bq.of (by kernel_rfl) (by kernel_rfl) (by kernel_rfl) (by kernel_rfl) (fun _=>⟨by kernel_rfl,by kernel_rfl⟩)
noncomputable def e7:TI:= {ud:= .struct #[{name:= "addr",type:=63,offset:=0,embedded:=false,tag:= "",pkgPath:= "strings",byteOffset:=0}, {name:= "buf",type:=60,offset:=1,embedded:=false,tag:= "",pkgPath:= "strings",byteOffset:=8}],size:=2,bytes:=32,zero:=(.agg ⟨[(.pointer none),(.slice none 0 0)]⟩),cmp:=false}
theorem jZ:Bq Tryz.prog 65 e7:=Bq.of (by kernel_rfl) (by kernel_rfl) (by kernel_rfl) (by kernel_rfl) (by intro h;cases h)
noncomputable def Zc:TI:= {ud:= .array 9 9,size:=9,bytes:=144,zero:=(.agg ⟨[(.string ⟨⟨[]⟩⟩),(.string ⟨⟨[]⟩⟩),(.string ⟨⟨[]⟩⟩),(.string ⟨⟨[]⟩⟩),(.string ⟨⟨[]⟩⟩),(.string ⟨⟨[]⟩⟩),(.string ⟨⟨[]⟩⟩),(.string ⟨⟨[]⟩⟩),(.string ⟨⟨[]⟩⟩)]⟩),cmp:=false}
theorem lT:Bq Tryz.prog 71 Zc:=Bq.of (by kernel_rfl) (by kernel_rfl) (by kernel_rfl) (by kernel_rfl) (by intro h;cases h)
noncomputable def Tv:TI:= {ud:= .pointer 85,size:=1,bytes:=8,zero:=(.pointer none),cmp:=true}
theorem my:Bq Tryz.prog 84 Tv:=Bq.of (by kernel_rfl) (by kernel_rfl) (by kernel_rfl) (by kernel_rfl) (fun _=>⟨by kernel_rfl,by kernel_rfl⟩)
noncomputable def fI:TI:= {ud:= .struct #[{name:= "Code",type:=24,offset:=0,embedded:=false,tag:= "",pkgPath:= "",byteOffset:=0}, {name:= "At",type:=3,offset:=1,embedded:=false,tag:= "",pkgPath:= "",byteOffset:=8}],size:=2,bytes:=16,zero:=(.agg ⟨[(.int .i64 (0)),(.int .i64 (0))]⟩),cmp:=false}
theorem kZ:Bq Tryz.prog 85 fI:=Bq.of (by kernel_rfl) (by kernel_rfl) (by kernel_rfl) (by kernel_rfl) (by intro h;cases h)
noncomputable def ru:TI:= {ud:= .pointer 84,size:=1,bytes:=8,zero:=(.pointer none),cmp:=false}
theorem kx:Bq Tryz.prog 89 ru:=Bq.of (by kernel_rfl) (by kernel_rfl) (by kernel_rfl) (by kernel_rfl) (by intro h;cases h)
noncomputable def tg:TI:= {ud:= .interface #[("AssignableTo",118),("Comparable",23),("Elem",115),("Implements",118),("Kind",117),("Name",69),("PkgPath",69),("Size",217),("String",69),("internal/reflectlite.common",210),("internal/reflectlite.uncommon",218)],size:=1,bytes:=16,zero:= .nilIface,cmp:=false}
theorem nR:Bq Tryz.prog 97 tg:=Bq.of (by kernel_rfl) (by kernel_rfl) (by kernel_rfl) (by kernel_rfl) (by intro h;cases h)
noncomputable def Mo:TI:= {ud:= .pointer 5,size:=1,bytes:=8,zero:=(.pointer none),cmp:=false}
theorem dp:Bq Tryz.prog 102 Mo:=Bq.of (by kernel_rfl) (by kernel_rfl) (by kernel_rfl) (by kernel_rfl) (by intro h;cases h)
noncomputable def bc:TI:= {ud:= .int .u64,size:=1,bytes:=8,zero:=(.int .u64 (0)),cmp:=false}
theorem aP:Bq Tryz.prog 111 bc:=Bq.of (by kernel_rfl) (by kernel_rfl) (by kernel_rfl) (by kernel_rfl) (by intro h;cases h)
noncomputable def dw:TI:= {ud:= .struct #[{name:= "typ_",type:=17,offset:=0,embedded:=false,tag:= "",pkgPath:= "internal/reflectlite",byteOffset:=0}, {name:= "ptr",type:=110,offset:=1,embedded:=false,tag:= "",pkgPath:= "internal/reflectlite",byteOffset:=8}, {name:= "flag",type:=111,offset:=2,embedded:=true,tag:= "",pkgPath:= "internal/reflectlite",byteOffset:=16}],size:=3,bytes:=24,zero:=(.agg ⟨[(.pointer none),(.pointer none),(.int .u64 (0))]⟩),cmp:=false}
theorem dU:Bq Tryz.prog 113 dw:=Bq.of (by kernel_rfl) (by kernel_rfl) (by kernel_rfl) (by kernel_rfl) (by intro h;cases h)
noncomputable def iB:TI:= {ud:= .int .u8,size:=1,bytes:=1,zero:=(.int .u8 (0)),cmp:=true}
theorem dh:Bq Tryz.prog 116 iB:=Bq.of (by kernel_rfl) (by kernel_rfl) (by kernel_rfl) (by kernel_rfl) (fun _=>⟨by kernel_rfl,by kernel_rfl⟩)
noncomputable def Uu:TI:= {ud:= .int .u64,size:=1,bytes:=8,zero:=(.int .u64 (0)),cmp:=false}
theorem fM:Bq Tryz.prog 121 Uu:=Bq.of (by kernel_rfl) (by kernel_rfl) (by kernel_rfl) (by kernel_rfl) (by intro h;cases h)
noncomputable def KO:TI:= {ud:= .slice 3,size:=1,bytes:=24,zero:=(.slice none 0 0),cmp:=false}
theorem gV:Bq Tryz.prog 122 KO:=Bq.of (by kernel_rfl) (by kernel_rfl) (by kernel_rfl) (by kernel_rfl) (by intro h;cases h)
noncomputable def bg:TI:= {ud:= .interface #[("Is",131)],size:=1,bytes:=16,zero:= .nilIface,cmp:=false}
theorem cd:Bq Tryz.prog 129 bg:=Bq.of (by kernel_rfl) (by kernel_rfl) (by kernel_rfl) (by kernel_rfl) (by intro h;cases h)
noncomputable def fy:TI:= {ud:= .interface #[("Unwrap",133)],size:=1,bytes:=16,zero:= .nilIface,cmp:=false}
theorem bJ:Bq Tryz.prog 132 fy:=Bq.of (by kernel_rfl) (by kernel_rfl) (by kernel_rfl) (by kernel_rfl) (by intro h;cases h)
noncomputable def cy:TI:= {ud:= .interface #[("Unwrap",136)],size:=1,bytes:=16,zero:= .nilIface,cmp:=false}
theorem cp:Bq Tryz.prog 134 cy:=Bq.of (by kernel_rfl) (by kernel_rfl) (by kernel_rfl) (by kernel_rfl) (by intro h;cases h)
noncomputable def fX:TI:= {ud:= .slice 35,size:=1,bytes:=24,zero:=(.slice none 0 0),cmp:=false}
theorem iC:Bq Tryz.prog 135 fX:=Bq.of (by kernel_rfl) (by kernel_rfl) (by kernel_rfl) (by kernel_rfl) (by intro h;cases h)
noncomputable def TS:TI:= {ud:= .array 24 5,size:=24,bytes:=24,zero:=(.agg ⟨(Jr 24 (.int .u8 (0)))⟩),cmp:=false}
theorem eD:Bq Tryz.prog 139 TS:=Bq.of (by kernel_rfl) (by kernel_rfl) (by kernel_rfl) (by kernel_rfl) (by intro h;cases h)
noncomputable def dZ:TI:= {ud:= .interface #[("As",152)],size:=1,bytes:=16,zero:= .nilIface,cmp:=false}
theorem fU:Bq Tryz.prog 150 dZ:=Bq.of (by kernel_rfl) (by kernel_rfl) (by kernel_rfl) (by kernel_rfl) (by intro h;cases h)
noncomputable def S8:TI:= {ud:= .int .i64,size:=1,bytes:=8,zero:=(.int .i64 (0)),cmp:=false}
theorem cA:Bq Tryz.prog 153 S8:=Bq.of (by kernel_rfl) (by kernel_rfl) (by kernel_rfl) (by kernel_rfl) (by intro h;cases h)
noncomputable def N9:TI:= {ud:= .pointer 183,size:=1,bytes:=8,zero:=(.pointer none),cmp:=false}
theorem gL:Bq Tryz.prog 155 N9:=Bq.of (by kernel_rfl) (by kernel_rfl) (by kernel_rfl) (by kernel_rfl) (by intro h;cases h)
noncomputable def Ux:TI:= {ud:= .int .i64,size:=1,bytes:=8,zero:=(.int .i64 (0)),cmp:=true}
theorem gX:Bq Tryz.prog 162 Ux:=Bq.of (by kernel_rfl) (by kernel_rfl) (by kernel_rfl) (by kernel_rfl) (fun _=>⟨by kernel_rfl,by kernel_rfl⟩)
noncomputable def Uv:TI:= {ud:= .array 20 28,size:=20,bytes:=160,zero:=(.agg ⟨(Jr 20 (.int .u64 (0)))⟩),cmp:=false}
theorem dc:Bq Tryz.prog 173 Uv:=Bq.of (by kernel_rfl) (by kernel_rfl) (by kernel_rfl) (by kernel_rfl) (by intro h;cases h)
noncomputable def Tc:TI:= {ud:= .array 65 5,size:=65,bytes:=65,zero:=(.agg ⟨(Jr 65 (.int .u8 (0)))⟩),cmp:=false}
theorem aO:Bq Tryz.prog 174 Tc:=Bq.of (by kernel_rfl) (by kernel_rfl) (by kernel_rfl) (by kernel_rfl) (by intro h;cases h)
noncomputable def UU:TI:= {ud:= .array 64 5,size:=64,bytes:=64,zero:=(.agg ⟨(Jr 64 (.int .u8 (0)))⟩),cmp:=false}
theorem gD:Bq Tryz.prog 175 UU:=Bq.of (by kernel_rfl) (by kernel_rfl) (by kernel_rfl) (by kernel_rfl) (by intro h;cases h)
noncomputable def Uo:TI:= {ud:= .struct #[{name:= "Func",type:=9,offset:=0,embedded:=false,tag:= "",pkgPath:= "",byteOffset:=0}, {name:= "Num",type:=9,offset:=1,embedded:=false,tag:= "",pkgPath:= "",byteOffset:=16}, {name:= "Err",type:=35,offset:=2,embedded:=false,tag:= "",pkgPath:= "",byteOffset:=32}],size:=3,bytes:=48,zero:=(.agg ⟨[(.string ⟨⟨[]⟩⟩),(.string ⟨⟨[]⟩⟩), .nilIface]⟩),cmp:=false}
theorem gu:Bq Tryz.prog 183 Uo:=Bq.of (by kernel_rfl) (by kernel_rfl) (by kernel_rfl) (by kernel_rfl) (by intro h;cases h)
noncomputable def UY:TI:= {ud:= .int .u64,size:=1,bytes:=8,zero:=(.int .u64 (0)),cmp:=false}
theorem ch:Bq Tryz.prog 185 UY:=Bq.of (by kernel_rfl) (by kernel_rfl) (by kernel_rfl) (by kernel_rfl) (by intro h;cases h)
noncomputable def ML:TI:= {ud:= .pointer 3,size:=1,bytes:=8,zero:=(.pointer none),cmp:=false}
theorem eQ:Bq Tryz.prog 189 ML:=Bq.of (by kernel_rfl) (by kernel_rfl) (by kernel_rfl) (by kernel_rfl) (by intro h;cases h)
noncomputable def Mj:TI:= {ud:= .pointer 196,size:=1,bytes:=8,zero:=(.pointer none),cmp:=false}
theorem gJ:Bq Tryz.prog 194 Mj:=Bq.of (by kernel_rfl) (by kernel_rfl) (by kernel_rfl) (by kernel_rfl) (by intro h;cases h)
noncomputable def Uq:TI:= {ud:= .struct #[{name:= "s",type:=9,offset:=0,embedded:=false,tag:= "",pkgPath:= "errors",byteOffset:=0}],size:=1,bytes:=16,zero:=(.agg ⟨[(.string ⟨⟨[]⟩⟩)]⟩),cmp:=false}
theorem cn:Bq Tryz.prog 196 Uq:=Bq.of (by kernel_rfl) (by kernel_rfl) (by kernel_rfl) (by kernel_rfl) (by intro h;cases h)
noncomputable def R4:TI:= {ud:= .array 32 5,size:=32,bytes:=32,zero:=(.agg ⟨(Jr 32 (.int .u8 (0)))⟩),cmp:=false}
theorem aK:Bq Tryz.prog 200 R4:=Bq.of (by kernel_rfl) (by kernel_rfl) (by kernel_rfl) (by kernel_rfl) (by intro h;cases h)
noncomputable def TW:TI:= {ud:= .array 256 5,size:=256,bytes:=256,zero:=(.agg ⟨(Jr 256 (.int .u8 (0)))⟩),cmp:=false}
theorem eu:Bq Tryz.prog 201 TW:=Bq.of (by kernel_rfl) (by kernel_rfl) (by kernel_rfl) (by kernel_rfl) (by intro h;cases h)
noncomputable def Ue:TI:= {ud:= .struct #[{name:= "lo",type:=5,offset:=0,embedded:=false,tag:= "",pkgPath:= "unicode/utf8",byteOffset:=0}, {name:= "hi",type:=5,offset:=1,embedded:=false,tag:= "",pkgPath:= "unicode/utf8",byteOffset:=1}],size:=2,bytes:=2,zero:=(.agg ⟨[(.int .u8 (0)),(.int .u8 (0))]⟩),cmp:=false}
theorem aV:Bq Tryz.prog 203 Ue:=Bq.of (by kernel_rfl) (by kernel_rfl) (by kernel_rfl) (by kernel_rfl) (by intro h;cases h)
noncomputable def UW:TI:= {ud:= .array 16 203,size:=32,bytes:=32,zero:=(.agg ⟨(Jr 32 (.int .u8 (0)))⟩),cmp:=false}
theorem cq:Bq Tryz.prog 204 UW:=Bq.of (by kernel_rfl) (by kernel_rfl) (by kernel_rfl) (by kernel_rfl) (by intro h;cases h)
noncomputable def tt:T TI:=(.node (.node (.node (.node (.node (.node (.node .nil (some U6) .nil) (some V4) .nil) none (.node .nil none (.node (.node .nil (some UU) .nil) (some bc) .nil))) none (.node (.node (.node (.node .nil (some fX) .nil) (some Zc) .nil) none .nil) none (.node .nil none (.node (.node .nil (some Uo) .nil) none .nil)))) (some Yg) (.node (.node (.node .nil (some Pq) .nil) none (.node .nil (some OI) .nil)) none (.node (.node (.node (.node .nil (some TS) .nil) none (.node .nil (some Ue) .nil)) none .nil) none (.node (.node (.node .nil (some N9) .nil) none .nil) none .nil)))) none (.node (.node (.node (.node (.node (.node .nil (some bg) .nil) (some e7) .nil) (some Lg) (.node .nil (some tg) .nil)) (some q7) (.node .nil none (.node .nil (some dw) .nil))) (some iy) (.node (.node (.node .nil none (.node .nil (some TW) .nil)) none .nil) none (.node (.node (.node .nil (some S8) .nil) (some ru) .nil) none (.node (.node .nil (some UY) .nil) (some Uu) .nil)))) (some Z5) (.node (.node .nil (some af) (.node (.node .nil (some fI) .nil) none .nil)) none (.node (.node .nil none (.node (.node .nil (some Uv) .nil) none .nil)) (some Jf) (.node .nil none (.node (.node .nil (some ML) .nil) none .nil)))))) none (.node (.node (.node .nil none (.node (.node (.node .nil none (.node .nil (some R4) .nil)) none .nil) (some aI) .nil)) (some xO) (.node (.node (.node (.node (.node .nil (some fy) .nil) none (.node .nil (some Uq) .nil)) none .nil) (some fJ) (.node (.node .nil (some Tv) .nil) none (.node .nil (some iB) .nil))) none (.node (.node (.node .nil none (.node .nil (some UW) .nil)) none .nil) (some K6) (.node .nil (some Ng) .nil)))) (some yu) (.node (.node (.node (.node (.node .nil none (.node .nil (some Mj) .nil)) none (.node (.node .nil (some Ux) .nil) none .nil)) none .nil) none (.node .nil none (.node .nil (some Ll) (.node .nil (some KO) .nil)))) none (.node (.node (.node (.node (.node .nil (some cy) .nil) none .nil) none (.node .nil (some Mo) .nil)) (some RF) (.node (.node (.node .nil (some dZ) .nil) none .nil) none .nil)) none (.node (.node .nil (some r4) (.node (.node .nil (some Tc) .nil) none .nil)) none .nil)))))
noncomputable def tl:List (Nat×TI):= [(3,Yg),(31,V4),(63,U6),(111,bc),(175,UU),(71,Zc),(135,fX),(183,Uo),(35,Pq),(51,OI),(139,TS),(203,Ue),(155,N9),(5,Z5),(9,iy),(17,q7),(33,Lg),(65,e7),(129,bg),(97,tg),(113,dw),(201,TW),(89,ru),(153,S8),(121,Uu),(185,UY),(21,af),(85,fI),(29,Jf),(173,Uv),(189,ML),(2,yu),(4,xO),(24,aI),(200,R4),(20,fJ),(132,fy),(196,Uq),(84,Tv),(116,iB),(28,K6),(204,UW),(60,Ng),(194,Mj),(162,Ux),(58,Ll),(122,KO),(22,RF),(134,cy),(102,Mo),(150,dZ),(46,r4),(174,Tc)]
theorem xE:tt.rG 1 0=tl:=by kernel_rfl
set_option maxRecDepth 100000 in
theorem xA:∀p∈tl,Bq Tryz.prog p.1 p.2:=List.forall_mem_cons.2 ⟨tx,List.forall_mem_cons.2 ⟨mc,List.forall_mem_cons.2 ⟨mR,List.forall_mem_cons.2 ⟨aP,List.forall_mem_cons.2 ⟨gD,List.forall_mem_cons.2 ⟨lT,List.forall_mem_cons.2 ⟨iC,List.forall_mem_cons.2 ⟨gu,List.forall_mem_cons.2 ⟨oX,List.forall_mem_cons.2 ⟨nx,List.forall_mem_cons.2 ⟨eD,List.forall_mem_cons.2 ⟨aV,List.forall_mem_cons.2 ⟨gL,List.forall_mem_cons.2 ⟨tb,List.forall_mem_cons.2 ⟨uJ,List.forall_mem_cons.2 ⟨ln,List.forall_mem_cons.2 ⟨nT,List.forall_mem_cons.2 ⟨jZ,List.forall_mem_cons.2 ⟨cd,List.forall_mem_cons.2 ⟨nR,List.forall_mem_cons.2 ⟨dU,List.forall_mem_cons.2 ⟨eu,List.forall_mem_cons.2 ⟨kx,List.forall_mem_cons.2 ⟨cA,List.forall_mem_cons.2 ⟨fM,List.forall_mem_cons.2 ⟨ch,List.forall_mem_cons.2 ⟨lJ,List.forall_mem_cons.2 ⟨kZ,List.forall_mem_cons.2 ⟨nk,List.forall_mem_cons.2 ⟨dc,List.forall_mem_cons.2 ⟨eQ,List.forall_mem_cons.2 ⟨tX,List.forall_mem_cons.2 ⟨tM,List.forall_mem_cons.2 ⟨kL,List.forall_mem_cons.2 ⟨aK,List.forall_mem_cons.2 ⟨mx,List.forall_mem_cons.2 ⟨bJ,List.forall_mem_cons.2 ⟨cn,List.forall_mem_cons.2 ⟨my,List.forall_mem_cons.2 ⟨dh,List.forall_mem_cons.2 ⟨oB,List.forall_mem_cons.2 ⟨cq,List.forall_mem_cons.2 ⟨oU,List.forall_mem_cons.2 ⟨gJ,List.forall_mem_cons.2 ⟨gX,List.forall_mem_cons.2 ⟨nc,List.forall_mem_cons.2 ⟨gV,List.forall_mem_cons.2 ⟨kW,List.forall_mem_cons.2 ⟨cp,List.forall_mem_cons.2 ⟨dp,List.forall_mem_cons.2 ⟨fU,List.forall_mem_cons.2 ⟨nC,List.forall_mem_cons.2 ⟨aO,(fun _ h=>by cases h)⟩⟩⟩⟩⟩⟩⟩⟩⟩⟩⟩⟩⟩⟩⟩⟩⟩⟩⟩⟩⟩⟩⟩⟩⟩⟩⟩⟩⟩⟩⟩⟩⟩⟩⟩⟩⟩⟩⟩⟩⟩⟩⟩⟩⟩⟩⟩⟩⟩⟩⟩⟩⟩
theorem A7:CO Tryz.prog tt.get:=fun k i h=>xA (k,i) (xE ▸ T.Xh h)
theorem ub:An Tryz.prog 3 Tryz.f3:=⟨⟨Tryz.func3,by kernel_rfl,by kernel_rfl⟩,An.AH (by kernel_rfl)⟩
theorem s8:An Tryz.prog 4 Tryz.f4:=⟨⟨Tryz.func4,by kernel_rfl,by kernel_rfl⟩,An.AH (by kernel_rfl)⟩
theorem rO:An Tryz.prog 5 Tryz.f5:=⟨⟨Tryz.func5,by kernel_rfl,by kernel_rfl⟩,An.AH (by kernel_rfl)⟩
theorem rm:An Tryz.prog 6 Tryz.f6:=⟨⟨Tryz.func6,by kernel_rfl,by kernel_rfl⟩,An.AH (by kernel_rfl)⟩
theorem WI:An Tryz.prog 7 Tryz.f7:=⟨⟨Tryz.func7,by kernel_rfl,by kernel_rfl⟩,An.AH (by kernel_rfl)⟩
theorem r6:An Tryz.prog 8 Tryz.f8:=⟨⟨Tryz.func8,by kernel_rfl,by kernel_rfl⟩,An.AH (by kernel_rfl)⟩
theorem Vd:An Tryz.prog 9 Tryz.f9:=⟨⟨Tryz.func9,by kernel_rfl,by kernel_rfl⟩,An.AH (by kernel_rfl)⟩
theorem P8:An Tryz.prog 10 Tryz.f10:=⟨⟨Tryz.func10,by kernel_rfl,by kernel_rfl⟩,An.AH (by kernel_rfl)⟩
theorem Ql:An Tryz.prog 11 Tryz.f11:=⟨⟨Tryz.func11,by kernel_rfl,by kernel_rfl⟩,An.AH (by kernel_rfl)⟩
theorem Q7:An Tryz.prog 12 Tryz.f12:=⟨⟨Tryz.func12,by kernel_rfl,by kernel_rfl⟩,An.AH (by kernel_rfl)⟩
theorem jW:An Tryz.prog 13 Tryz.f13:=⟨⟨Tryz.func13,by kernel_rfl,by kernel_rfl⟩,An.AH (by kernel_rfl)⟩
theorem je:An Tryz.prog 14 Tryz.f14:=⟨⟨Tryz.func14,by kernel_rfl,by kernel_rfl⟩,An.AH (by kernel_rfl)⟩
theorem mm:An Tryz.prog 15 Tryz.f15:=⟨⟨Tryz.func15,by kernel_rfl,by kernel_rfl⟩,An.AH (by kernel_rfl)⟩
theorem mM:An Tryz.prog 16 Tryz.f16:=⟨⟨Tryz.func16,by kernel_rfl,by kernel_rfl⟩,An.AH (by kernel_rfl)⟩
theorem na:An Tryz.prog 17 Tryz.f17:=⟨⟨Tryz.func17,by kernel_rfl,by kernel_rfl⟩,An.AH (by kernel_rfl)⟩
theorem PW:An Tryz.prog 18 Tryz.f18:=⟨⟨Tryz.func18,by kernel_rfl,by kernel_rfl⟩,An.AH (by kernel_rfl)⟩
theorem Pm:An Tryz.prog 19 Tryz.f19:=⟨⟨Tryz.func19,by kernel_rfl,by kernel_rfl⟩,An.AH (by kernel_rfl)⟩
theorem Pc:An Tryz.prog 20 Tryz.f20:=⟨⟨Tryz.func20,by kernel_rfl,by kernel_rfl⟩,An.AH (by kernel_rfl)⟩
theorem RM:An Tryz.prog 21 Tryz.f21:=⟨⟨Tryz.func21,by kernel_rfl,by kernel_rfl⟩,An.AH (by kernel_rfl)⟩
theorem QY:An Tryz.prog 22 Tryz.f22:=⟨⟨Tryz.func22,by kernel_rfl,by kernel_rfl⟩,An.AH (by kernel_rfl)⟩
theorem RB:An Tryz.prog 23 Tryz.f23:=⟨⟨Tryz.func23,by kernel_rfl,by kernel_rfl⟩,An.AH (by kernel_rfl)⟩
theorem Rq:An Tryz.prog 24 Tryz.f24:=⟨⟨Tryz.func24,by kernel_rfl,by kernel_rfl⟩,An.AH (by kernel_rfl)⟩
theorem QE:An Tryz.prog 25 Tryz.f25:=⟨⟨Tryz.func25,by kernel_rfl,by kernel_rfl⟩,An.AH (by kernel_rfl)⟩
theorem QS:An Tryz.prog 26 Tryz.f26:=⟨⟨Tryz.func26,by kernel_rfl,by kernel_rfl⟩,An.AH (by kernel_rfl)⟩
theorem nU:An Tryz.prog 27 Tryz.f27:=⟨⟨Tryz.func27,by kernel_rfl,by kernel_rfl⟩,An.AH (by kernel_rfl)⟩
theorem QT:An Tryz.prog 28 Tryz.f28:=⟨⟨Tryz.func28,by kernel_rfl,by kernel_rfl⟩,An.AH (by kernel_rfl)⟩
theorem Pj:An Tryz.prog 29 Tryz.f29:=⟨⟨Tryz.func29,by kernel_rfl,by kernel_rfl⟩,An.AH (by kernel_rfl)⟩
theorem Xt:An Tryz.prog 30 Tryz.f30:=⟨⟨Tryz.func30,by kernel_rfl,by kernel_rfl⟩,An.AH (by kernel_rfl)⟩
theorem Qs:An Tryz.prog 31 Tryz.f31:=⟨⟨Tryz.func31,by kernel_rfl,by kernel_rfl⟩,An.AH (by kernel_rfl)⟩
theorem Xm:An Tryz.prog 32 Tryz.f32:=⟨⟨Tryz.func32,by kernel_rfl,by kernel_rfl⟩,An.AH (by kernel_rfl)⟩
theorem XF:An Tryz.prog 33 Tryz.f33:=⟨⟨Tryz.func33,by kernel_rfl,by kernel_rfl⟩,An.AH (by kernel_rfl)⟩
theorem Py:An Tryz.prog 34 Tryz.f34:=⟨⟨Tryz.func34,by kernel_rfl,by kernel_rfl⟩,An.AH (by kernel_rfl)⟩
theorem Xa:An Tryz.prog 35 Tryz.f35:=⟨⟨Tryz.func35,by kernel_rfl,by kernel_rfl⟩,An.AH (by kernel_rfl)⟩
theorem RC:An Tryz.prog 36 Tryz.f36:=⟨⟨Tryz.func36,by kernel_rfl,by kernel_rfl⟩,An.AH (by kernel_rfl)⟩
theorem XO:An Tryz.prog 37 Tryz.f37:=⟨⟨Tryz.func37,by kernel_rfl,by kernel_rfl⟩,An.AH (by kernel_rfl)⟩
theorem Xy:An Tryz.prog 38 Tryz.f38:=⟨⟨Tryz.func38,by kernel_rfl,by kernel_rfl⟩,An.AH (by kernel_rfl)⟩
theorem QF:An Tryz.prog 39 Tryz.f39:=⟨⟨Tryz.func39,by kernel_rfl,by kernel_rfl⟩,An.AH (by kernel_rfl)⟩
theorem Rt:An Tryz.prog 40 Tryz.f40:=⟨⟨Tryz.func40,by kernel_rfl,by kernel_rfl⟩,An.AH (by kernel_rfl)⟩
theorem Q6:An Tryz.prog 41 Tryz.f41:=⟨⟨Tryz.func41,by kernel_rfl,by kernel_rfl⟩,An.AH (by kernel_rfl)⟩
theorem Qx:An Tryz.prog 42 Tryz.f42:=⟨⟨Tryz.func42,by kernel_rfl,by kernel_rfl⟩,An.AH (by kernel_rfl)⟩
theorem W2:An Tryz.prog 43 Tryz.f43:=⟨⟨Tryz.func43,by kernel_rfl,by kernel_rfl⟩,An.AH (by kernel_rfl)⟩
theorem ni:An Tryz.prog 44 Tryz.f44:=⟨⟨Tryz.func44,by kernel_rfl,by kernel_rfl⟩,An.AH (by kernel_rfl)⟩
theorem jY:An Tryz.prog 45 Tryz.f45:=⟨⟨Tryz.func45,by kernel_rfl,by kernel_rfl⟩,An.AH (by kernel_rfl)⟩
theorem X8:An Tryz.prog 46 Tryz.f46:=⟨⟨Tryz.func46,by kernel_rfl,by kernel_rfl⟩,An.AH (by kernel_rfl)⟩
theorem Rm:An Tryz.prog 47 Tryz.f47:=⟨⟨Tryz.func47,by kernel_rfl,by kernel_rfl⟩,An.AH (by kernel_rfl)⟩
theorem XX:An Tryz.prog 48 Tryz.f48:=⟨⟨Tryz.func48,by kernel_rfl,by kernel_rfl⟩,An.AH (by kernel_rfl)⟩
theorem kc:An Tryz.prog 49 Tryz.f49:=⟨⟨Tryz.func49,by kernel_rfl,by kernel_rfl⟩,An.AH (by kernel_rfl)⟩
theorem RS:An Tryz.prog 50 Tryz.f50:=⟨⟨Tryz.func50,by kernel_rfl,by kernel_rfl⟩,An.AH (by kernel_rfl)⟩
theorem L4:An Tryz.prog 51 Tryz.f51:=⟨⟨Tryz.func51,by kernel_rfl,by kernel_rfl⟩,An.AH (by kernel_rfl)⟩
theorem KH:An Tryz.prog 52 Tryz.f52:=⟨⟨Tryz.func52,by kernel_rfl,by kernel_rfl⟩,An.AH (by kernel_rfl)⟩
theorem kH:An Tryz.prog 54 Tryz.f54:=⟨⟨Tryz.func54,by kernel_rfl,by kernel_rfl⟩,An.AH (by kernel_rfl)⟩
theorem Rn:An Tryz.prog 55 Tryz.f55:=⟨⟨Tryz.func55,by kernel_rfl,by kernel_rfl⟩,An.AH (by kernel_rfl)⟩
theorem Qp:An Tryz.prog 56 Tryz.f56:=⟨⟨Tryz.func56,by kernel_rfl,by kernel_rfl⟩,An.AH (by kernel_rfl)⟩
theorem Qn:An Tryz.prog 57 Tryz.f57:=⟨⟨Tryz.func57,by kernel_rfl,by kernel_rfl⟩,An.AH (by kernel_rfl)⟩
theorem XV:An Tryz.prog 58 Tryz.f58:=⟨⟨Tryz.func58,by kernel_rfl,by kernel_rfl⟩,An.AH (by kernel_rfl)⟩
theorem jj:An Tryz.prog 59 Tryz.f59:=⟨⟨Tryz.func59,by kernel_rfl,by kernel_rfl⟩,An.AH (by kernel_rfl)⟩
theorem nQ:An Tryz.prog 60 Tryz.f60:=⟨⟨Tryz.func60,by kernel_rfl,by kernel_rfl⟩,An.AH (by kernel_rfl)⟩
theorem P6:An Tryz.prog 61 Tryz.f61:=⟨⟨Tryz.func61,by kernel_rfl,by kernel_rfl⟩,An.AH (by kernel_rfl)⟩
theorem mS:An Tryz.prog 62 Tryz.f62:=⟨⟨Tryz.func62,by kernel_rfl,by kernel_rfl⟩,An.AH (by kernel_rfl)⟩
theorem n7:An Tryz.prog 63 Tryz.f63:=⟨⟨Tryz.func63,by kernel_rfl,by kernel_rfl⟩,An.AH (by kernel_rfl)⟩
theorem QU:An Tryz.prog 64 Tryz.f64:=⟨⟨Tryz.func64,by kernel_rfl,by kernel_rfl⟩,An.AH (by kernel_rfl)⟩
theorem Qf:An Tryz.prog 65 Tryz.f65:=⟨⟨Tryz.func65,by kernel_rfl,by kernel_rfl⟩,An.AH (by kernel_rfl)⟩
theorem W8:An Tryz.prog 66 Tryz.f66:=⟨⟨Tryz.func66,by kernel_rfl,by kernel_rfl⟩,An.AH (by kernel_rfl)⟩
theorem Qm:An Tryz.prog 67 Tryz.f67:=⟨⟨Tryz.func67,by kernel_rfl,by kernel_rfl⟩,An.AH (by kernel_rfl)⟩
theorem P0:An Tryz.prog 68 Tryz.f68:=⟨⟨Tryz.func68,by kernel_rfl,by kernel_rfl⟩,An.AH (by kernel_rfl)⟩
theorem jb:An Tryz.prog 69 Tryz.f69:=⟨⟨Tryz.func69,by kernel_rfl,by kernel_rfl⟩,An.AH (by kernel_rfl)⟩
theorem mj:An Tryz.prog 73 Tryz.f73:=⟨⟨Tryz.func73,by kernel_rfl,by kernel_rfl⟩,An.AH (by kernel_rfl)⟩
theorem oR:An Tryz.prog 74 Tryz.f74:=⟨⟨Tryz.func74,by kernel_rfl,by kernel_rfl⟩,An.AH (by kernel_rfl)⟩
theorem nS:An Tryz.prog 75 Tryz.f75:=⟨⟨Tryz.func75,by kernel_rfl,by kernel_rfl⟩,An.AH (by kernel_rfl)⟩
theorem kA:An Tryz.prog 76 Tryz.f76:=⟨⟨Tryz.func76,by kernel_rfl,by kernel_rfl⟩,An.AH (by kernel_rfl)⟩
theorem Qv:An Tryz.prog 77 Tryz.f77:=⟨⟨Tryz.func77,by kernel_rfl,by kernel_rfl⟩,An.AH (by kernel_rfl)⟩
theorem Rj:An Tryz.prog 78 Tryz.f78:=⟨⟨Tryz.func78,by kernel_rfl,by kernel_rfl⟩,An.AH (by kernel_rfl)⟩
theorem KZ:An Tryz.prog 79 Tryz.f79:=⟨⟨Tryz.func79,by kernel_rfl,by kernel_rfl⟩,An.AH (by kernel_rfl)⟩
theorem XQ:An Tryz.prog 80 Tryz.f80:=⟨⟨Tryz.func80,by kernel_rfl,by kernel_rfl⟩,An.AH (by kernel_rfl)⟩
theorem RR:An Tryz.prog 81 Tryz.f81:=⟨⟨Tryz.func81,by kernel_rfl,by kernel_rfl⟩,An.AH (by kernel_rfl)⟩
theorem n9:An Tryz.prog 83 Tryz.f83:=⟨⟨Tryz.func83,by kernel_rfl,by kernel_rfl⟩,An.AH (by kernel_rfl)⟩
theorem kS:An Tryz.prog 84 Tryz.f84:=⟨⟨Tryz.func84,by kernel_rfl,by kernel_rfl⟩,An.AH (by kernel_rfl)⟩
theorem kq:An Tryz.prog 85 Tryz.f85:=⟨⟨Tryz.func85,by kernel_rfl,by kernel_rfl⟩,An.AH (by kernel_rfl)⟩
theorem lk:An Tryz.prog 86 Tryz.f86:=⟨⟨Tryz.func86,by kernel_rfl,by kernel_rfl⟩,An.AH (by kernel_rfl)⟩
theorem jv:An Tryz.prog 87 Tryz.f87:=⟨⟨Tryz.func87,by kernel_rfl,by kernel_rfl⟩,An.AH (by kernel_rfl)⟩
theorem QB:An Tryz.prog 88 Tryz.f88:=⟨⟨Tryz.func88,by kernel_rfl,by kernel_rfl⟩,An.AH (by kernel_rfl)⟩
theorem X2:An Tryz.prog 89 Tryz.f89:=⟨⟨Tryz.func89,by kernel_rfl,by kernel_rfl⟩,An.AH (by kernel_rfl)⟩
theorem l8:An Tryz.prog 90 Tryz.f90:=⟨⟨Tryz.func90,by kernel_rfl,by kernel_rfl⟩,An.AH (by kernel_rfl)⟩
theorem oV:An Tryz.prog 91 Tryz.f91:=⟨⟨Tryz.func91,by kernel_rfl,by kernel_rfl⟩,An.AH (by kernel_rfl)⟩
theorem nf:An Tryz.prog 92 Tryz.f92:=⟨⟨Tryz.func92,by kernel_rfl,by kernel_rfl⟩,An.AH (by kernel_rfl)⟩
theorem js:An Tryz.prog 93 Tryz.f93:=⟨⟨Tryz.func93,by kernel_rfl,by kernel_rfl⟩,An.AH (by kernel_rfl)⟩
theorem QR:An Tryz.prog 94 Tryz.f94:=⟨⟨Tryz.func94,by kernel_rfl,by kernel_rfl⟩,An.AH (by kernel_rfl)⟩
theorem jN:An Tryz.prog 95 Tryz.f95:=⟨⟨Tryz.func95,by kernel_rfl,by kernel_rfl⟩,An.AH (by kernel_rfl)⟩
theorem nd:An Tryz.prog 98 Tryz.f98:=⟨⟨Tryz.func98,by kernel_rfl,by kernel_rfl⟩,An.AH (by kernel_rfl)⟩
theorem jH:An Tryz.prog 99 Tryz.f99:=⟨⟨Tryz.func99,by kernel_rfl,by kernel_rfl⟩,An.AH (by kernel_rfl)⟩
theorem gd:An Tryz.prog 100 Tryz.f100:=⟨⟨Tryz.func100,by kernel_rfl,by kernel_rfl⟩,An.AH (by kernel_rfl)⟩
theorem aw:An Tryz.prog 101 Tryz.f101:=⟨⟨Tryz.func101,by kernel_rfl,by kernel_rfl⟩,An.AH (by kernel_rfl)⟩
theorem br:An Tryz.prog 102 Tryz.f102:=⟨⟨Tryz.func102,by kernel_rfl,by kernel_rfl⟩,An.AH (by kernel_rfl)⟩
theorem da:An Tryz.prog 103 Tryz.f103:=⟨⟨Tryz.func103,by kernel_rfl,by kernel_rfl⟩,An.AH (by kernel_rfl)⟩
theorem dx:An Tryz.prog 104 Tryz.f104:=⟨⟨Tryz.func104,by kernel_rfl,by kernel_rfl⟩,An.AH (by kernel_rfl)⟩
theorem M4:An Tryz.prog 105 Tryz.f105:=⟨⟨Tryz.func105,by kernel_rfl,by kernel_rfl⟩,An.AH (by kernel_rfl)⟩
theorem NN:An Tryz.prog 106 Tryz.f106:=⟨⟨Tryz.func106,by kernel_rfl,by kernel_rfl⟩,An.AH (by kernel_rfl)⟩
theorem Kc:An Tryz.prog 107 Tryz.f107:=⟨⟨Tryz.func107,by kernel_rfl,by kernel_rfl⟩,An.AH (by kernel_rfl)⟩
theorem Mt:An Tryz.prog 108 Tryz.f108:=⟨⟨Tryz.func108,by kernel_rfl,by kernel_rfl⟩,An.AH (by kernel_rfl)⟩
theorem Mw:An Tryz.prog 109 Tryz.f109:=⟨⟨Tryz.func109,by kernel_rfl,by kernel_rfl⟩,An.AH (by kernel_rfl)⟩
theorem NR:An Tryz.prog 110 Tryz.f110:=⟨⟨Tryz.func110,by kernel_rfl,by kernel_rfl⟩,An.AH (by kernel_rfl)⟩
theorem NX:An Tryz.prog 111 Tryz.f111:=⟨⟨Tryz.func111,by kernel_rfl,by kernel_rfl⟩,An.AH (by kernel_rfl)⟩
theorem Np:An Tryz.prog 112 Tryz.f112:=⟨⟨Tryz.func112,by kernel_rfl,by kernel_rfl⟩,An.AH (by kernel_rfl)⟩
theorem Ni:An Tryz.prog 113 Tryz.f113:=⟨⟨Tryz.func113,by kernel_rfl,by kernel_rfl⟩,An.AH (by kernel_rfl)⟩
theorem NM:An Tryz.prog 114 Tryz.f114:=⟨⟨Tryz.func114,by kernel_rfl,by kernel_rfl⟩,An.AH (by kernel_rfl)⟩
theorem MY:An Tryz.prog 115 Tryz.f115:=⟨⟨Tryz.func115,by kernel_rfl,by kernel_rfl⟩,An.AH (by kernel_rfl)⟩
theorem fK:An Tryz.prog 116 Tryz.f116:=⟨⟨Tryz.func116,by kernel_rfl,by kernel_rfl⟩,An.AH (by kernel_rfl)⟩
theorem eI:An Tryz.prog 117 Tryz.f117:=⟨⟨Tryz.func117,by kernel_rfl,by kernel_rfl⟩,An.AH (by kernel_rfl)⟩
theorem gI:An Tryz.prog 118 Tryz.f118:=⟨⟨Tryz.func118,by kernel_rfl,by kernel_rfl⟩,An.AH (by kernel_rfl)⟩
theorem bw:An Tryz.prog 119 Tryz.f119:=⟨⟨Tryz.func119,by kernel_rfl,by kernel_rfl⟩,An.AH (by kernel_rfl)⟩
theorem gE:An Tryz.prog 120 Tryz.f120:=⟨⟨Tryz.func120,by kernel_rfl,by kernel_rfl⟩,An.AH (by kernel_rfl)⟩
theorem aY:An Tryz.prog 121 Tryz.f121:=⟨⟨Tryz.func121,by kernel_rfl,by kernel_rfl⟩,An.AH (by kernel_rfl)⟩
theorem cB:An Tryz.prog 123 Tryz.f123:=⟨⟨Tryz.func123,by kernel_rfl,by kernel_rfl⟩,An.AH (by kernel_rfl)⟩
theorem fB:An Tryz.prog 124 Tryz.f124:=⟨⟨Tryz.func124,by kernel_rfl,by kernel_rfl⟩,An.AH (by kernel_rfl)⟩
theorem bM:An Tryz.prog 126 Tryz.f126:=⟨⟨Tryz.func126,by kernel_rfl,by kernel_rfl⟩,An.AH (by kernel_rfl)⟩
theorem fj:An Tryz.prog 128 Tryz.f128:=⟨⟨Tryz.func128,by kernel_rfl,by kernel_rfl⟩,An.AH (by kernel_rfl)⟩
theorem aU:An Tryz.prog 129 Tryz.f129:=⟨⟨Tryz.func129,by kernel_rfl,by kernel_rfl⟩,An.AH (by kernel_rfl)⟩
theorem dW:An Tryz.prog 130 Tryz.f130:=⟨⟨Tryz.func130,by kernel_rfl,by kernel_rfl⟩,An.AH (by kernel_rfl)⟩
theorem gO:An Tryz.prog 131 Tryz.f131:=⟨⟨Tryz.func131,by kernel_rfl,by kernel_rfl⟩,An.AH (by kernel_rfl)⟩
theorem N7:An Tryz.prog 132 Tryz.f132:=⟨⟨Tryz.func132,by kernel_rfl,by kernel_rfl⟩,An.AH (by kernel_rfl)⟩
theorem NZ:An Tryz.prog 133 Tryz.f133:=⟨⟨Tryz.func133,by kernel_rfl,by kernel_rfl⟩,An.AH (by kernel_rfl)⟩
theorem N3:An Tryz.prog 134 Tryz.f134:=⟨⟨Tryz.func134,by kernel_rfl,by kernel_rfl⟩,An.AH (by kernel_rfl)⟩
theorem MV:An Tryz.prog 135 Tryz.f135:=⟨⟨Tryz.func135,by kernel_rfl,by kernel_rfl⟩,An.AH (by kernel_rfl)⟩
theorem Nv:An Tryz.prog 136 Tryz.f136:=⟨⟨Tryz.func136,by kernel_rfl,by kernel_rfl⟩,An.AH (by kernel_rfl)⟩
theorem N4:An Tryz.prog 137 Tryz.f137:=⟨⟨Tryz.func137,by kernel_rfl,by kernel_rfl⟩,An.AH (by kernel_rfl)⟩
theorem bC:An Tryz.prog 138 Tryz.f138:=⟨⟨Tryz.func138,by kernel_rfl,by kernel_rfl⟩,An.AH (by kernel_rfl)⟩
theorem bT:An Tryz.prog 139 Tryz.f139:=⟨⟨Tryz.func139,by kernel_rfl,by kernel_rfl⟩,An.AH (by kernel_rfl)⟩
theorem ah:An Tryz.prog 141 Tryz.f141:=⟨⟨Tryz.func141,by kernel_rfl,by kernel_rfl⟩,An.AH (by kernel_rfl)⟩
theorem Nj:An Tryz.prog 142 Tryz.f142:=⟨⟨Tryz.func142,by kernel_rfl,by kernel_rfl⟩,An.AH (by kernel_rfl)⟩
theorem gY:An Tryz.prog 163 Tryz.f163:=⟨⟨Tryz.func163,by kernel_rfl,by kernel_rfl⟩,An.AH (by kernel_rfl)⟩
theorem bA:An Tryz.prog 180 Tryz.f180:=⟨⟨Tryz.func180,by kernel_rfl,by kernel_rfl⟩,An.AH (by kernel_rfl)⟩
noncomputable def ft:T Func:=(.node (.node (.node (.node (.node (.node (.node .nil (some Tryz.f63) .nil) (some Tryz.f31) (.node .nil (some Tryz.f95) .nil)) (some Tryz.f15) (.node (.node .nil (some Tryz.f79) .nil) (some Tryz.f47) (.node .nil (some Tryz.f111) .nil))) (some Tryz.f7) (.node (.node (.node (.node .nil (some Tryz.f135) .nil) none .nil) (some Tryz.f39) (.node .nil (some Tryz.f103) .nil)) (some Tryz.f23) (.node (.node .nil (some Tryz.f87) .nil) (some Tryz.f55) (.node .nil (some Tryz.f119) .nil)))) (some Tryz.f3) (.node (.node (.node (.node (.node .nil (some Tryz.f131) .nil) (some Tryz.f67) .nil) (some Tryz.f35) (.node (.node .nil (some Tryz.f163) .nil) (some Tryz.f99) .nil)) (some Tryz.f19) (.node (.node .nil (some Tryz.f83) .nil) (some Tryz.f51) (.node .nil (some Tryz.f115) .nil))) (some Tryz.f11) (.node (.node (.node (.node .nil (some Tryz.f139) .nil) (some Tryz.f75) .nil) (some Tryz.f43) (.node .nil (some Tryz.f107) .nil)) (some Tryz.f27) (.node (.node .nil (some Tryz.f91) .nil) (some Tryz.f59) (.node .nil (some Tryz.f123) .nil))))) none (.node (.node (.node (.node (.node (.node .nil (some Tryz.f129) .nil) (some Tryz.f65) .nil) (some Tryz.f33) .nil) (some Tryz.f17) (.node (.node .nil (some Tryz.f81) .nil) (some Tryz.f49) (.node .nil (some Tryz.f113) .nil))) (some Tryz.f9) (.node (.node (.node (.node .nil (some Tryz.f137) .nil) (some Tryz.f73) .nil) (some Tryz.f41) (.node .nil (some Tryz.f105) .nil)) (some Tryz.f25) (.node (.node .nil (some Tryz.f89) .nil) (some Tryz.f57) (.node .nil (some Tryz.f121) .nil)))) (some Tryz.f5) (.node (.node (.node (.node (.node .nil (some Tryz.f133) .nil) (some Tryz.f69) .nil) (some Tryz.f37) (.node .nil (some Tryz.f101) .nil)) (some Tryz.f21) (.node (.node .nil (some Tryz.f85) .nil) none (.node .nil (some Tryz.f117) .nil))) (some Tryz.f13) (.node (.node (.node (.node .nil (some Tryz.f141) .nil) (some Tryz.f77) .nil) (some Tryz.f45) (.node .nil (some Tryz.f109) .nil)) (some Tryz.f29) (.node (.node .nil (some Tryz.f93) .nil) (some Tryz.f61) .nil))))) none (.node (.node (.node (.node (.node (.node (.node .nil (some Tryz.f128) .nil) (some Tryz.f64) .nil) (some Tryz.f32) .nil) (some Tryz.f16) (.node (.node .nil (some Tryz.f80) .nil) (some Tryz.f48) (.node .nil (some Tryz.f112) .nil))) (some Tryz.f8) (.node (.node (.node (.node .nil (some Tryz.f136) .nil) none .nil) (some Tryz.f40) (.node .nil (some Tryz.f104) .nil)) (some Tryz.f24) (.node (.node .nil (some Tryz.f88) .nil) (some Tryz.f56) (.node .nil (some Tryz.f120) .nil)))) (some Tryz.f4) (.node (.node (.node (.node (.node .nil (some Tryz.f132) .nil) (some Tryz.f68) .nil) (some Tryz.f36) (.node .nil (some Tryz.f100) .nil)) (some Tryz.f20) (.node (.node .nil (some Tryz.f84) .nil) (some Tryz.f52) (.node (.node .nil (some Tryz.f180) .nil) (some Tryz.f116) .nil))) (some Tryz.f12) (.node (.node (.node .nil (some Tryz.f76) .nil) (some Tryz.f44) (.node .nil (some Tryz.f108) .nil)) (some Tryz.f28) (.node (.node .nil (some Tryz.f92) .nil) (some Tryz.f60) (.node .nil (some Tryz.f124) .nil))))) none (.node (.node (.node (.node (.node (.node .nil (some Tryz.f130) .nil) (some Tryz.f66) .nil) (some Tryz.f34) (.node .nil (some Tryz.f98) .nil)) (some Tryz.f18) (.node .nil (some Tryz.f50) (.node .nil (some Tryz.f114) .nil))) (some Tryz.f10) (.node (.node (.node (.node .nil (some Tryz.f138) .nil) (some Tryz.f74) .nil) (some Tryz.f42) (.node .nil (some Tryz.f106) .nil)) (some Tryz.f26) (.node (.node .nil (some Tryz.f90) .nil) (some Tryz.f58) .nil))) (some Tryz.f6) (.node (.node (.node (.node (.node .nil (some Tryz.f134) .nil) none .nil) (some Tryz.f38) (.node .nil (some Tryz.f102) .nil)) (some Tryz.f22) (.node (.node .nil (some Tryz.f86) .nil) (some Tryz.f54) (.node .nil (some Tryz.f118) .nil))) (some Tryz.f14) (.node (.node (.node (.node .nil (some Tryz.f142) .nil) (some Tryz.f78) .nil) (some Tryz.f46) (.node .nil (some Tryz.f110) .nil)) (some Tryz.f30) (.node (.node .nil (some Tryz.f94) .nil) (some Tryz.f62) (.node .nil (some Tryz.f126) .nil)))))))
noncomputable def fl:List (Nat×Func):= [(3,Tryz.f3),(7,Tryz.f7),(15,Tryz.f15),(31,Tryz.f31),(63,Tryz.f63),(95,Tryz.f95),(47,Tryz.f47),(79,Tryz.f79),(111,Tryz.f111),(23,Tryz.f23),(39,Tryz.f39),(135,Tryz.f135),(103,Tryz.f103),(55,Tryz.f55),(87,Tryz.f87),(119,Tryz.f119),(11,Tryz.f11),(19,Tryz.f19),(35,Tryz.f35),(67,Tryz.f67),(131,Tryz.f131),(99,Tryz.f99),(163,Tryz.f163),(51,Tryz.f51),(83,Tryz.f83),(115,Tryz.f115),(27,Tryz.f27),(43,Tryz.f43),(75,Tryz.f75),(139,Tryz.f139),(107,Tryz.f107),(59,Tryz.f59),(91,Tryz.f91),(123,Tryz.f123),(5,Tryz.f5),(9,Tryz.f9),(17,Tryz.f17),(33,Tryz.f33),(65,Tryz.f65),(129,Tryz.f129),(49,Tryz.f49),(81,Tryz.f81),(113,Tryz.f113),(25,Tryz.f25),(41,Tryz.f41),(73,Tryz.f73),(137,Tryz.f137),(105,Tryz.f105),(57,Tryz.f57),(89,Tryz.f89),(121,Tryz.f121),(13,Tryz.f13),(21,Tryz.f21),(37,Tryz.f37),(69,Tryz.f69),(133,Tryz.f133),(101,Tryz.f101),(85,Tryz.f85),(117,Tryz.f117),(29,Tryz.f29),(45,Tryz.f45),(77,Tryz.f77),(141,Tryz.f141),(109,Tryz.f109),(61,Tryz.f61),(93,Tryz.f93),(4,Tryz.f4),(8,Tryz.f8),(16,Tryz.f16),(32,Tryz.f32),(64,Tryz.f64),(128,Tryz.f128),(48,Tryz.f48),(80,Tryz.f80),(112,Tryz.f112),(24,Tryz.f24),(40,Tryz.f40),(136,Tryz.f136),(104,Tryz.f104),(56,Tryz.f56),(88,Tryz.f88),(120,Tryz.f120),(12,Tryz.f12),(20,Tryz.f20),(36,Tryz.f36),(68,Tryz.f68),(132,Tryz.f132),(100,Tryz.f100),(52,Tryz.f52),(84,Tryz.f84),(116,Tryz.f116),(180,Tryz.f180),(28,Tryz.f28),(44,Tryz.f44),(76,Tryz.f76),(108,Tryz.f108),(60,Tryz.f60),(92,Tryz.f92),(124,Tryz.f124),(6,Tryz.f6),(10,Tryz.f10),(18,Tryz.f18),(34,Tryz.f34),(66,Tryz.f66),(130,Tryz.f130),(98,Tryz.f98),(50,Tryz.f50),(114,Tryz.f114),(26,Tryz.f26),(42,Tryz.f42),(74,Tryz.f74),(138,Tryz.f138),(106,Tryz.f106),(58,Tryz.f58),(90,Tryz.f90),(14,Tryz.f14),(22,Tryz.f22),(38,Tryz.f38),(134,Tryz.f134),(102,Tryz.f102),(54,Tryz.f54),(86,Tryz.f86),(118,Tryz.f118),(30,Tryz.f30),(46,Tryz.f46),(78,Tryz.f78),(142,Tryz.f142),(110,Tryz.f110),(62,Tryz.f62),(94,Tryz.f94),(126,Tryz.f126)]
theorem xK:ft.rG 1 0=fl:=by kernel_rfl
set_option maxRecDepth 100000 in
theorem yt:∀p∈fl,An Tryz.prog p.1 p.2:=List.forall_mem_cons.2 ⟨ub,List.forall_mem_cons.2 ⟨WI,List.forall_mem_cons.2 ⟨mm,List.forall_mem_cons.2 ⟨Qs,List.forall_mem_cons.2 ⟨n7,List.forall_mem_cons.2 ⟨jN,List.forall_mem_cons.2 ⟨Rm,List.forall_mem_cons.2 ⟨KZ,List.forall_mem_cons.2 ⟨NX,List.forall_mem_cons.2 ⟨RB,List.forall_mem_cons.2 ⟨QF,List.forall_mem_cons.2 ⟨MV,List.forall_mem_cons.2 ⟨da,List.forall_mem_cons.2 ⟨Rn,List.forall_mem_cons.2 ⟨jv,List.forall_mem_cons.2 ⟨bw,List.forall_mem_cons.2 ⟨Ql,List.forall_mem_cons.2 ⟨Pm,List.forall_mem_cons.2 ⟨Xa,List.forall_mem_cons.2 ⟨Qm,List.forall_mem_cons.2 ⟨gO,List.forall_mem_cons.2 ⟨jH,List.forall_mem_cons.2 ⟨gY,List.forall_mem_cons.2 ⟨L4,List.forall_mem_cons.2 ⟨n9,List.forall_mem_cons.2 ⟨MY,List.forall_mem_cons.2 ⟨nU,List.forall_mem_cons.2 ⟨W2,List.forall_mem_cons.2 ⟨nS,List.forall_mem_cons.2 ⟨bT,List.forall_mem_cons.2 ⟨Kc,List.forall_mem_cons.2 ⟨jj,List.forall_mem_cons.2 ⟨oV,List.forall_mem_cons.2 ⟨cB,List.forall_mem_cons.2 ⟨rO,List.forall_mem_cons.2 ⟨Vd,List.forall_mem_cons.2 ⟨na,List.forall_mem_cons.2 ⟨XF,List.forall_mem_cons.2 ⟨Qf,List.forall_mem_cons.2 ⟨aU,List.forall_mem_cons.2 ⟨kc,List.forall_mem_cons.2 ⟨RR,List.forall_mem_cons.2 ⟨Ni,List.forall_mem_cons.2 ⟨QE,List.forall_mem_cons.2 ⟨Q6,List.forall_mem_cons.2 ⟨mj,List.forall_mem_cons.2 ⟨N4,List.forall_mem_cons.2 ⟨M4,List.forall_mem_cons.2 ⟨Qn,List.forall_mem_cons.2 ⟨X2,List.forall_mem_cons.2 ⟨aY,List.forall_mem_cons.2 ⟨jW,List.forall_mem_cons.2 ⟨RM,List.forall_mem_cons.2 ⟨XO,List.forall_mem_cons.2 ⟨jb,List.forall_mem_cons.2 ⟨NZ,List.forall_mem_cons.2 ⟨aw,List.forall_mem_cons.2 ⟨kq,List.forall_mem_cons.2 ⟨eI,List.forall_mem_cons.2 ⟨Pj,List.forall_mem_cons.2 ⟨jY,List.forall_mem_cons.2 ⟨Qv,List.forall_mem_cons.2 ⟨ah,List.forall_mem_cons.2 ⟨Mw,List.forall_mem_cons.2 ⟨P6,List.forall_mem_cons.2 ⟨js,List.forall_mem_cons.2 ⟨s8,List.forall_mem_cons.2 ⟨r6,List.forall_mem_cons.2 ⟨mM,List.forall_mem_cons.2 ⟨Xm,List.forall_mem_cons.2 ⟨QU,List.forall_mem_cons.2 ⟨fj,List.forall_mem_cons.2 ⟨XX,List.forall_mem_cons.2 ⟨XQ,List.forall_mem_cons.2 ⟨Np,List.forall_mem_cons.2 ⟨Rq,List.forall_mem_cons.2 ⟨Rt,List.forall_mem_cons.2 ⟨Nv,List.forall_mem_cons.2 ⟨dx,List.forall_mem_cons.2 ⟨Qp,List.forall_mem_cons.2 ⟨QB,List.forall_mem_cons.2 ⟨gE,List.forall_mem_cons.2 ⟨Q7,List.forall_mem_cons.2 ⟨Pc,List.forall_mem_cons.2 ⟨RC,List.forall_mem_cons.2 ⟨P0,List.forall_mem_cons.2 ⟨N7,List.forall_mem_cons.2 ⟨gd,List.forall_mem_cons.2 ⟨KH,List.forall_mem_cons.2 ⟨kS,List.forall_mem_cons.2 ⟨fK,List.forall_mem_cons.2 ⟨bA,List.forall_mem_cons.2 ⟨QT,List.forall_mem_cons.2 ⟨ni,List.forall_mem_cons.2 ⟨kA,List.forall_mem_cons.2 ⟨Mt,List.forall_mem_cons.2 ⟨nQ,List.forall_mem_cons.2 ⟨nf,List.forall_mem_cons.2 ⟨fB,List.forall_mem_cons.2 ⟨rm,List.forall_mem_cons.2 ⟨P8,List.forall_mem_cons.2 ⟨PW,List.forall_mem_cons.2 ⟨Py,List.forall_mem_cons.2 ⟨W8,List.forall_mem_cons.2 ⟨dW,List.forall_mem_cons.2 ⟨nd,List.forall_mem_cons.2 ⟨RS,List.forall_mem_cons.2 ⟨NM,List.forall_mem_cons.2 ⟨QS,List.forall_mem_cons.2 ⟨Qx,List.forall_mem_cons.2 ⟨oR,List.forall_mem_cons.2 ⟨bC,List.forall_mem_cons.2 ⟨NN,List.forall_mem_cons.2 ⟨XV,List.forall_mem_cons.2 ⟨l8,List.forall_mem_cons.2 ⟨je,List.forall_mem_cons.2 ⟨QY,List.forall_mem_cons.2 ⟨Xy,List.forall_mem_cons.2 ⟨N3,List.forall_mem_cons.2 ⟨br,List.forall_mem_cons.2 ⟨kH,List.forall_mem_cons.2 ⟨lk,List.forall_mem_cons.2 ⟨gI,List.forall_mem_cons.2 ⟨Xt,List.forall_mem_cons.2 ⟨X8,List.forall_mem_cons.2 ⟨Rj,List.forall_mem_cons.2 ⟨Nj,List.forall_mem_cons.2 ⟨NR,List.forall_mem_cons.2 ⟨mS,List.forall_mem_cons.2 ⟨QR,List.forall_mem_cons.2 ⟨bM,(fun _ h=>by cases h)⟩⟩⟩⟩⟩⟩⟩⟩⟩⟩⟩⟩⟩⟩⟩⟩⟩⟩⟩⟩⟩⟩⟩⟩⟩⟩⟩⟩⟩⟩⟩⟩⟩⟩⟩⟩⟩⟩⟩⟩⟩⟩⟩⟩⟩⟩⟩⟩⟩⟩⟩⟩⟩⟩⟩⟩⟩⟩⟩⟩⟩⟩⟩⟩⟩⟩⟩⟩⟩⟩⟩⟩⟩⟩⟩⟩⟩⟩⟩⟩⟩⟩⟩⟩⟩⟩⟩⟩⟩⟩⟩⟩⟩⟩⟩⟩⟩⟩⟩⟩⟩⟩⟩⟩⟩⟩⟩⟩⟩⟩⟩⟩⟩⟩⟩⟩⟩⟩⟩⟩⟩⟩⟩⟩⟩⟩⟩⟩⟩⟩⟩
theorem v7:∀f fn,ft.get f=some fn→An Tryz.prog f fn:=fun k i h=>yt (k,i) (xK ▸ T.Xh h)
noncomputable def run (lf d:Nat):Go.Dm.Callee:=NK tt.get ft.get (fun cl=>draw tt.get cl) lf d
theorem env (lf d:Nat):Env Tryz.prog tt.get (run lf d):=cE A7 v7 (fun cl E=>lL cl E) lf d
end Go.Proofs.YthpibnpeaidabaaGreatDoor.Dm
