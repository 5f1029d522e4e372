/- The types and the functions of this translation as the abstract machine has them, and that they are the program's own. -/
import Derived.Test.YthlhnangbinhoaaGreatDoorDmD
import Derived.Test.YthlhnangbinhoaaGreatDoorRows
namespace Go.Proofs.YthlhnangbinhoaaGreatDoor.Dm
open Go.Dm
noncomputable def ti2:TI:= {ud:= .int .i64,size:=1,bytes:=8,zero:=(.int .i64 (0)),cmp:=false}
theorem xS:BO Tryz.prog 2 ti2:=BO.of (by kernel_rfl) (by kernel_rfl) (by kernel_rfl) (by kernel_rfl) (by intro h;cases h)
noncomputable def Nb:TI:= {ud:= .int .i64,size:=1,bytes:=8,zero:=(.int .i64 (0)),cmp:=true}
theorem wZ:BO Tryz.prog 3 Nb:=BO.of (by kernel_rfl) (by kernel_rfl) (by kernel_rfl) (by kernel_rfl) (fun _=>⟨by kernel_rfl,by kernel_rfl⟩)
noncomputable def zv:TI:= {ud:= .bool,size:=1,bytes:=1,zero:=(.bool false),cmp:=true}
theorem x9:BO Tryz.prog 4 zv:=BO.of (by kernel_rfl) (by kernel_rfl) (by kernel_rfl) (by kernel_rfl) (fun _=>⟨by kernel_rfl,by kernel_rfl⟩)
noncomputable def xe:TI:= {ud:= .int .u8,size:=1,bytes:=1,zero:=(.int .u8 (0)),cmp:=true}
theorem vS:BO Tryz.prog 5 xe:=BO.of (by kernel_rfl) (by kernel_rfl) (by kernel_rfl) (by kernel_rfl) (fun _=>⟨by kernel_rfl,by kernel_rfl⟩)
noncomputable def rK:TI:= {ud:= .string,size:=1,bytes:=16,zero:=(.string ⟨⟨[]⟩⟩),cmp:=true}
theorem vG:BO Tryz.prog 9 rK:=BO.of (by kernel_rfl) (by kernel_rfl) (by kernel_rfl) (by kernel_rfl) (fun _=>⟨by kernel_rfl,by kernel_rfl⟩)
noncomputable def n9:TI:= {ud:= .pointer 274,size:=1,bytes:=8,zero:=(.pointer none),cmp:=false}
theorem oQ:BO Tryz.prog 17 n9:=BO.of (by kernel_rfl) (by kernel_rfl) (by kernel_rfl) (by kernel_rfl) (by intro h;cases h)
noncomputable def Yw:TI:= {ud:= .interface #[],size:=1,bytes:=16,zero:= .nilIface,cmp:=true}
theorem nf:BO Tryz.prog 20 Yw:=BO.of (by kernel_rfl) (by kernel_rfl) (by kernel_rfl) (by kernel_rfl) (fun _=>⟨by kernel_rfl,by kernel_rfl⟩)
noncomputable def qy:TI:= {ud:= .int .i32,size:=1,bytes:=4,zero:=(.int .i32 (0)),cmp:=true}
theorem qN:BO Tryz.prog 21 qy:=BO.of (by kernel_rfl) (by kernel_rfl) (by kernel_rfl) (by kernel_rfl) (fun _=>⟨by kernel_rfl,by kernel_rfl⟩)
noncomputable def Zg:TI:= {ud:= .slice 79,size:=1,bytes:=24,zero:=(.slice none 0 0),cmp:=false}
theorem rS:BO Tryz.prog 22 Zg:=BO.of (by kernel_rfl) (by kernel_rfl) (by kernel_rfl) (by kernel_rfl) (by intro h;cases h)
noncomputable def Y1:TI:= {ud:= .slice 81,size:=1,bytes:=24,zero:=(.slice none 0 0),cmp:=false}
theorem qL:BO Tryz.prog 23 Y1:=BO.of (by kernel_rfl) (by kernel_rfl) (by kernel_rfl) (by kernel_rfl) (by intro h;cases h)
noncomputable def Zc:TI:= {ud:= .slice 83,size:=1,bytes:=24,zero:=(.slice none 0 0),cmp:=false}
theorem oH:BO Tryz.prog 24 Zc:=BO.of (by kernel_rfl) (by kernel_rfl) (by kernel_rfl) (by kernel_rfl) (by intro h;cases h)
noncomputable def fp:TI:= {ud:= .struct #[{name:= "Width",type:=3,offset:=0,embedded:=false,tag:= "",pkgPath:= "",byteOffset:=0}, {name:= "Again",type:=3,offset:=1,embedded:=false,tag:= "",pkgPath:= "",byteOffset:=8}, {name:= "Wait",type:=3,offset:=2,embedded:=false,tag:= "",pkgPath:= "",byteOffset:=16}, {name:= "Late",type:=3,offset:=3,embedded:=false,tag:= "",pkgPath:= "",byteOffset:=24}, {name:= "Routers",type:=22,offset:=4,embedded:=false,tag:= "",pkgPath:= "",byteOffset:=32}, {name:= "Links",type:=23,offset:=5,embedded:=false,tag:= "",pkgPath:= "",byteOffset:=56}, {name:= "Rules",type:=24,offset:=6,embedded:=false,tag:= "",pkgPath:= "",byteOffset:=80}],size:=7,bytes:=104,zero:=(.agg ⟨[(.int .i64 (0)),(.int .i64 (0)),(.int .i64 (0)),(.int .i64 (0)),(.slice none 0 0),(.slice none 0 0),(.slice none 0 0)]⟩),cmp:=false}
theorem rr:BO Tryz.prog 26 fp:=BO.of (by kernel_rfl) (by kernel_rfl) (by kernel_rfl) (by kernel_rfl) (by intro h;cases h)
noncomputable def X3:TI:= {ud:= .slice 43,size:=1,bytes:=24,zero:=(.slice none 0 0),cmp:=false}
theorem qg:BO Tryz.prog 27 X3:=BO.of (by kernel_rfl) (by kernel_rfl) (by kernel_rfl) (by kernel_rfl) (by intro h;cases h)
noncomputable def mg:TI:= {ud:= .struct #[{name:= "Setup",type:=26,offset:=0,embedded:=false,tag:= "",pkgPath:= "",byteOffset:=0}, {name:= "Ops",type:=27,offset:=7,embedded:=false,tag:= "",pkgPath:= "",byteOffset:=104}],size:=8,bytes:=128,zero:=(.agg ⟨[(.int .i64 (0)),(.int .i64 (0)),(.int .i64 (0)),(.int .i64 (0)),(.slice none 0 0),(.slice none 0 0),(.slice none 0 0),(.slice none 0 0)]⟩),cmp:=false}
theorem qe:BO Tryz.prog 29 mg:=BO.of (by kernel_rfl) (by kernel_rfl) (by kernel_rfl) (by kernel_rfl) (by intro h;cases h)
noncomputable def cn:TI:= {ud:= .int .i64,size:=1,bytes:=8,zero:=(.int .i64 (0)),cmp:=true}
theorem rT:BO Tryz.prog 30 cn:=BO.of (by kernel_rfl) (by kernel_rfl) (by kernel_rfl) (by kernel_rfl) (fun _=>⟨by kernel_rfl,by kernel_rfl⟩)
noncomputable def xd:TI:= {ud:= .slice 47,size:=1,bytes:=24,zero:=(.slice none 0 0),cmp:=false}
theorem pz:BO Tryz.prog 36 xd:=BO.of (by kernel_rfl) (by kernel_rfl) (by kernel_rfl) (by kernel_rfl) (by intro h;cases h)
noncomputable def Vv:TI:= {ud:= .interface #[("Error",85)],size:=1,bytes:=16,zero:= .nilIface,cmp:=false}
theorem rq:BO Tryz.prog 38 Vv:=BO.of (by kernel_rfl) (by kernel_rfl) (by kernel_rfl) (by kernel_rfl) (by intro h;cases h)
noncomputable def ZY:TI:= {ud:= .int .u32,size:=1,bytes:=4,zero:=(.int .u32 (0)),cmp:=true}
theorem oa:BO Tryz.prog 41 ZY:=BO.of (by kernel_rfl) (by kernel_rfl) (by kernel_rfl) (by kernel_rfl) (fun _=>⟨by kernel_rfl,by kernel_rfl⟩)
noncomputable def Uj:TI:= {ud:= .struct #[{name:= "Kind",type:=3,offset:=0,embedded:=false,tag:= "",pkgPath:= "",byteOffset:=0}, {name:= "Router",type:=3,offset:=1,embedded:=false,tag:= "",pkgPath:= "",byteOffset:=8}, {name:= "Peer",type:=3,offset:=2,embedded:=false,tag:= "",pkgPath:= "",byteOffset:=16}, {name:= "Group",type:=3,offset:=3,embedded:=false,tag:= "",pkgPath:= "",byteOffset:=24}, {name:= "Entropy",type:=41,offset:=4,embedded:=false,tag:= "",pkgPath:= "",byteOffset:=32}, {name:= "Ticks",type:=3,offset:=5,embedded:=false,tag:= "",pkgPath:= "",byteOffset:=40}, {name:= "Bytes",type:=9,offset:=6,embedded:=false,tag:= "",pkgPath:= "",byteOffset:=48}],size:=7,bytes:=64,zero:=(.agg ⟨[(.int .i64 (0)),(.int .i64 (0)),(.int .i64 (0)),(.int .i64 (0)),(.int .u32 (0)),(.int .i64 (0)),(.string ⟨⟨[]⟩⟩)]⟩),cmp:=true}
theorem p9:BO Tryz.prog 43 Uj:=BO.of (by kernel_rfl) (by kernel_rfl) (by kernel_rfl) (by kernel_rfl) (fun _=>⟨by kernel_rfl,by kernel_rfl⟩)
noncomputable def xC:TI:= {ud:= .int .u16,size:=1,bytes:=2,zero:=(.int .u16 (0)),cmp:=false}
theorem pG:BO Tryz.prog 45 xC:=BO.of (by kernel_rfl) (by kernel_rfl) (by kernel_rfl) (by kernel_rfl) (by intro h;cases h)
noncomputable def uH:TI:= {ud:= .struct #[{name:= "Kind",type:=5,offset:=0,embedded:=false,tag:= "",pkgPath:= "",byteOffset:=0}, {name:= "Router",type:=5,offset:=1,embedded:=false,tag:= "",pkgPath:= "",byteOffset:=1}, {name:= "Peer",type:=5,offset:=2,embedded:=false,tag:= "",pkgPath:= "",byteOffset:=2}, {name:= "Group",type:=5,offset:=3,embedded:=false,tag:= "",pkgPath:= "",byteOffset:=3}, {name:= "Ticks",type:=45,offset:=4,embedded:=false,tag:= "",pkgPath:= "",byteOffset:=4}, {name:= "Entropy",type:=41,offset:=5,embedded:=false,tag:= "",pkgPath:= "",byteOffset:=8}, {name:= "Bytes",type:=9,offset:=6,embedded:=false,tag:= "",pkgPath:= "",byteOffset:=16}],size:=7,bytes:=32,zero:=(.agg ⟨[(.int .u8 (0)),(.int .u8 (0)),(.int .u8 (0)),(.int .u8 (0)),(.int .u16 (0)),(.int .u32 (0)),(.string ⟨⟨[]⟩⟩)]⟩),cmp:=false}
theorem rm:BO Tryz.prog 47 uH:=BO.of (by kernel_rfl) (by kernel_rfl) (by kernel_rfl) (by kernel_rfl) (by intro h;cases h)
noncomputable def Y3:TI:= {ud:= .pointer 55,size:=1,bytes:=8,zero:=(.pointer none),cmp:=true}
theorem pX:BO Tryz.prog 51 Y3:=BO.of (by kernel_rfl) (by kernel_rfl) (by kernel_rfl) (by kernel_rfl) (fun _=>⟨by kernel_rfl,by kernel_rfl⟩)
noncomputable def cM:TI:= {ud:= .pointer 51,size:=1,bytes:=8,zero:=(.pointer none),cmp:=false}
theorem pB:BO Tryz.prog 53 cM:=BO.of (by kernel_rfl) (by kernel_rfl) (by kernel_rfl) (by kernel_rfl) (by intro h;cases h)
noncomputable def lE:TI:= {ud:= .struct #[{name:= "Code",type:=30,offset:=0,embedded:=false,tag:= "",pkgPath:= "",byteOffset:=0}, {name:= "At",type:=3,offset:=1,embedded:=false,tag:= "",pkgPath:= "",byteOffset:=8}],size:=2,bytes:=16,zero:=(.agg ⟨[(.int .i64 (0)),(.int .i64 (0))]⟩),cmp:=false}
theorem q9:BO Tryz.prog 55 lE:=BO.of (by kernel_rfl) (by kernel_rfl) (by kernel_rfl) (by kernel_rfl) (by intro h;cases h)
noncomputable def kM:TI:= {ud:= .struct #[{name:= "Code",type:=30,offset:=0,embedded:=false,tag:= "",pkgPath:= "",byteOffset:=0}, {name:= "At",type:=3,offset:=1,embedded:=false,tag:= "",pkgPath:= "",byteOffset:=8}],size:=2,bytes:=16,zero:=(.agg ⟨[(.int .i64 (0)),(.int .i64 (0))]⟩),cmp:=false}
theorem pR:BO Tryz.prog 57 kM:=BO.of (by kernel_rfl) (by kernel_rfl) (by kernel_rfl) (by kernel_rfl) (by intro h;cases h)
noncomputable def W2:TI:= {ud:= .slice 9,size:=1,bytes:=24,zero:=(.slice none 0 0),cmp:=false}
theorem n6:BO Tryz.prog 67 W2:=BO.of (by kernel_rfl) (by kernel_rfl) (by kernel_rfl) (by kernel_rfl) (by intro h;cases h)
noncomputable def R8:TI:= {ud:= .slice 3,size:=1,bytes:=24,zero:=(.slice none 0 0),cmp:=true}
theorem rL:BO Tryz.prog 68 R8:=BO.of (by kernel_rfl) (by kernel_rfl) (by kernel_rfl) (by kernel_rfl) (fun _=>⟨by kernel_rfl,by kernel_rfl⟩)
noncomputable def T9:TI:= {ud:= .slice 5,size:=1,bytes:=24,zero:=(.slice none 0 0),cmp:=false}
theorem oW:BO Tryz.prog 69 T9:=BO.of (by kernel_rfl) (by kernel_rfl) (by kernel_rfl) (by kernel_rfl) (by intro h;cases h)
noncomputable def sB:TI:= {ud:= .pointer 73,size:=1,bytes:=8,zero:=(.pointer none),cmp:=true}
theorem nz:BO Tryz.prog 71 sB:=BO.of (by kernel_rfl) (by kernel_rfl) (by kernel_rfl) (by kernel_rfl) (fun _=>⟨by kernel_rfl,by kernel_rfl⟩)
noncomputable def kY:TI:= {ud:= .struct #[{name:= "addr",type:=71,offset:=0,embedded:=false,tag:= "",pkgPath:= "strings",byteOffset:=0}, {name:= "buf",type:=69,offset:=1,embedded:=false,tag:= "",pkgPath:= "strings",byteOffset:=8}],size:=2,bytes:=32,zero:=(.agg ⟨[(.pointer none),(.slice none 0 0)]⟩),cmp:=false}
theorem sY:BO Tryz.prog 73 kY:=BO.of (by kernel_rfl) (by kernel_rfl) (by kernel_rfl) (by kernel_rfl) (by intro h;cases h)
noncomputable def Yj:TI:= {ud:= .struct #[{name:= "Self",type:=3,offset:=0,embedded:=false,tag:= "",pkgPath:= "",byteOffset:=0}, {name:= "Claim",type:=3,offset:=1,embedded:=false,tag:= "",pkgPath:= "",byteOffset:=8}, {name:= "Ingress",type:=4,offset:=2,embedded:=false,tag:= "",pkgPath:= "",byteOffset:=16}],size:=3,bytes:=24,zero:=(.agg ⟨[(.int .i64 (0)),(.int .i64 (0)),(.bool false)]⟩),cmp:=true}
theorem sR:BO Tryz.prog 79 Yj:=BO.of (by kernel_rfl) (by kernel_rfl) (by kernel_rfl) (by kernel_rfl) (fun _=>⟨by kernel_rfl,by kernel_rfl⟩)
noncomputable def YC:TI:= {ud:= .struct #[{name:= "A",type:=3,offset:=0,embedded:=false,tag:= "",pkgPath:= "",byteOffset:=0}, {name:= "B",type:=3,offset:=1,embedded:=false,tag:= "",pkgPath:= "",byteOffset:=8}, {name:= "Cost",type:=3,offset:=2,embedded:=false,tag:= "",pkgPath:= "",byteOffset:=16}],size:=3,bytes:=24,zero:=(.agg ⟨[(.int .i64 (0)),(.int .i64 (0)),(.int .i64 (0))]⟩),cmp:=true}
theorem pc:BO Tryz.prog 81 YC:=BO.of (by kernel_rfl) (by kernel_rfl) (by kernel_rfl) (by kernel_rfl) (fun _=>⟨by kernel_rfl,by kernel_rfl⟩)
noncomputable def XC:TI:= {ud:= .struct #[{name:= "From",type:=3,offset:=0,embedded:=false,tag:= "",pkgPath:= "",byteOffset:=0}, {name:= "To",type:=3,offset:=1,embedded:=false,tag:= "",pkgPath:= "",byteOffset:=8}, {name:= "Nth",type:=3,offset:=2,embedded:=false,tag:= "",pkgPath:= "",byteOffset:=16}, {name:= "Kind",type:=3,offset:=3,embedded:=false,tag:= "",pkgPath:= "",byteOffset:=24}, {name:= "By",type:=3,offset:=4,embedded:=false,tag:= "",pkgPath:= "",byteOffset:=32}],size:=5,bytes:=40,zero:=(.agg ⟨[(.int .i64 (0)),(.int .i64 (0)),(.int .i64 (0)),(.int .i64 (0)),(.int .i64 (0))]⟩),cmp:=true}
theorem oX:BO Tryz.prog 83 XC:=BO.of (by kernel_rfl) (by kernel_rfl) (by kernel_rfl) (by kernel_rfl) (fun _=>⟨by kernel_rfl,by kernel_rfl⟩)
noncomputable def pN:TI:= {ud:= .pointer 26,size:=1,bytes:=8,zero:=(.pointer none),cmp:=false}
theorem sV:BO Tryz.prog 98 pN:=BO.of (by kernel_rfl) (by kernel_rfl) (by kernel_rfl) (by kernel_rfl) (by intro h;cases h)
noncomputable def X2:TI:= {ud:= .struct #[{name:= "kind",type:=3,offset:=0,embedded:=false,tag:= "",pkgPath:= "dandelion/script",byteOffset:=0}, {name:= "word",type:=9,offset:=1,embedded:=false,tag:= "",pkgPath:= "dandelion/script",byteOffset:=8}, {name:= "fields",type:=3,offset:=2,embedded:=false,tag:= "",pkgPath:= "dandelion/script",byteOffset:=24}],size:=3,bytes:=32,zero:=(.agg ⟨[(.int .i64 (0)),(.string ⟨⟨[]⟩⟩),(.int .i64 (0))]⟩),cmp:=false}
theorem lY:BO Tryz.prog 100 X2:=BO.of (by kernel_rfl) (by kernel_rfl) (by kernel_rfl) (by kernel_rfl) (by intro h;cases h)
noncomputable def Xj:TI:= {ud:= .array 12 100,size:=36,bytes:=384,zero:=(.agg ⟨([(.int .i64 (0))] ++ [(.string ⟨⟨[]⟩⟩)] ++ [(.int .i64 (0)),(.int .i64 (0))] ++ [(.string ⟨⟨[]⟩⟩)] ++ [(.int .i64 (0)),(.int .i64 (0))] ++ [(.string ⟨⟨[]⟩⟩)] ++ [(.int .i64 (0)),(.int .i64 (0))] ++ [(.string ⟨⟨[]⟩⟩)] ++ [(.int .i64 (0)),(.int .i64 (0))] ++ [(.string ⟨⟨[]⟩⟩)] ++ [(.int .i64 (0)),(.int .i64 (0))] ++ [(.string ⟨⟨[]⟩⟩)] ++ [(.int .i64 (0)),(.int .i64 (0))] ++ [(.string ⟨⟨[]⟩⟩)] ++ [(.int .i64 (0)),(.int .i64 (0))] ++ [(.string ⟨⟨[]⟩⟩)] ++ [(.int .i64 (0)),(.int .i64 (0))] ++ [(.string ⟨⟨[]⟩⟩)] ++ [(.int .i64 (0)),(.int .i64 (0))] ++ [(.string ⟨⟨[]⟩⟩)] ++ [(.int .i64 (0)),(.int .i64 (0))] ++ [(.string ⟨⟨[]⟩⟩)] ++ [(.int .i64 (0)),(.int .i64 (0))] ++ [(.string ⟨⟨[]⟩⟩)] ++ [(.int .i64 (0))])⟩),cmp:=false}
theorem gw:BO Tryz.prog 101 Xj:=BO.of (by kernel_rfl) (by kernel_rfl) (by kernel_rfl) (by kernel_rfl) (by intro h;cases h)
noncomputable def bg:TI:= {ud:= .int .u64,size:=1,bytes:=8,zero:=(.int .u64 (0)),cmp:=false}
theorem kE:BO Tryz.prog 104 bg:=BO.of (by kernel_rfl) (by kernel_rfl) (by kernel_rfl) (by kernel_rfl) (by intro h;cases h)
noncomputable def X1:TI:= {ud:= .int .u64,size:=1,bytes:=8,zero:=(.int .u64 (0)),cmp:=true}
theorem jO:BO Tryz.prog 106 X1:=BO.of (by kernel_rfl) (by kernel_rfl) (by kernel_rfl) (by kernel_rfl) (fun _=>⟨by kernel_rfl,by kernel_rfl⟩)
noncomputable def aS:TI:= {ud:= .int .u64,size:=1,bytes:=8,zero:=(.int .u64 (0)),cmp:=false}
theorem gu:BO Tryz.prog 110 aS:=BO.of (by kernel_rfl) (by kernel_rfl) (by kernel_rfl) (by kernel_rfl) (by intro h;cases h)
noncomputable def aC:TI:= {ud:= .struct #[{name:= "typ_",type:=17,offset:=0,embedded:=false,tag:= "",pkgPath:= "internal/reflectlite",byteOffset:=0}, {name:= "ptr",type:=109,offset:=1,embedded:=false,tag:= "",pkgPath:= "internal/reflectlite",byteOffset:=8}, {name:= "flag",type:=110,offset:=2,embedded:=true,tag:= "",pkgPath:= "internal/reflectlite",byteOffset:=16}],size:=3,bytes:=24,zero:=(.agg ⟨[(.pointer none),(.pointer none),(.int .u64 (0))]⟩),cmp:=false}
theorem iO:BO Tryz.prog 112 aC:=BO.of (by kernel_rfl) (by kernel_rfl) (by kernel_rfl) (by kernel_rfl) (by intro h;cases h)
noncomputable def Zw:TI:= {ud:= .interface #[("AssignableTo",119),("Comparable",34),("Elem",116),("Implements",119),("Kind",118),("Name",85),("PkgPath",85),("Size",275),("String",85),("internal/reflectlite.common",268),("internal/reflectlite.uncommon",276)],size:=1,bytes:=16,zero:= .nilIface,cmp:=false}
theorem je:BO Tryz.prog 115 Zw:=BO.of (by kernel_rfl) (by kernel_rfl) (by kernel_rfl) (by kernel_rfl) (by intro h;cases h)
noncomputable def Zp:TI:= {ud:= .int .u8,size:=1,bytes:=1,zero:=(.int .u8 (0)),cmp:=true}
theorem iA:BO Tryz.prog 117 Zp:=BO.of (by kernel_rfl) (by kernel_rfl) (by kernel_rfl) (by kernel_rfl) (fun _=>⟨by kernel_rfl,by kernel_rfl⟩)
noncomputable def Sx:TI:= {ud:= .map 3 3,size:=1,bytes:=8,zero:=(.map none),cmp:=false}
theorem mL:BO Tryz.prog 136 Sx:=BO.of (by kernel_rfl) (by kernel_rfl) (by kernel_rfl) (by kernel_rfl) (by intro h;cases h)
noncomputable def aN:TI:= {ud:= .pointer 5,size:=1,bytes:=8,zero:=(.pointer none),cmp:=false}
theorem lq:BO Tryz.prog 137 aN:=BO.of (by kernel_rfl) (by kernel_rfl) (by kernel_rfl) (by kernel_rfl) (by intro h;cases h)
noncomputable def Qz:TI:= {ud:= .struct #[{name:= "code",type:=30,offset:=0,embedded:=false,tag:= "",pkgPath:= "dandelion/script",byteOffset:=0}],size:=1,bytes:=8,zero:=(.agg ⟨[(.int .i64 (0))]⟩),cmp:=false}
theorem kz:BO Tryz.prog 143 Qz:=BO.of (by kernel_rfl) (by kernel_rfl) (by kernel_rfl) (by kernel_rfl) (by intro h;cases h)
noncomputable def Zq:TI:= {ud:= .interface #[("As",156)],size:=1,bytes:=16,zero:= .nilIface,cmp:=false}
theorem fe:BO Tryz.prog 154 Zq:=BO.of (by kernel_rfl) (by kernel_rfl) (by kernel_rfl) (by kernel_rfl) (by intro h;cases h)
noncomputable def bH:TI:= {ud:= .interface #[("Unwrap",158)],size:=1,bytes:=16,zero:= .nilIface,cmp:=false}
theorem jM:BO Tryz.prog 157 bH:=BO.of (by kernel_rfl) (by kernel_rfl) (by kernel_rfl) (by kernel_rfl) (by intro h;cases h)
noncomputable def bd:TI:= {ud:= .interface #[("Unwrap",161)],size:=1,bytes:=16,zero:= .nilIface,cmp:=false}
theorem l5:BO Tryz.prog 159 bd:=BO.of (by kernel_rfl) (by kernel_rfl) (by kernel_rfl) (by kernel_rfl) (by intro h;cases h)
noncomputable def aw:TI:= {ud:= .slice 38,size:=1,bytes:=24,zero:=(.slice none 0 0),cmp:=false}
theorem mB:BO Tryz.prog 160 aw:=BO.of (by kernel_rfl) (by kernel_rfl) (by kernel_rfl) (by kernel_rfl) (by intro h;cases h)
noncomputable def Zk:TI:= {ud:= .interface #[("Is",166)],size:=1,bytes:=16,zero:= .nilIface,cmp:=false}
theorem kx:BO Tryz.prog 164 Zk:=BO.of (by kernel_rfl) (by kernel_rfl) (by kernel_rfl) (by kernel_rfl) (by intro h;cases h)
noncomputable def aR:TI:= {ud:= .array 24 5,size:=24,bytes:=24,zero:=(.agg ⟨(DV 24 (.int .u8 (0)))⟩),cmp:=false}
theorem lV:BO Tryz.prog 177 aR:=BO.of (by kernel_rfl) (by kernel_rfl) (by kernel_rfl) (by kernel_rfl) (by intro h;cases h)
noncomputable def Qn:TI:= {ud:= .slice 233,size:=1,bytes:=24,zero:=(.slice none 0 0),cmp:=false}
theorem mH:BO Tryz.prog 183 Qn:=BO.of (by kernel_rfl) (by kernel_rfl) (by kernel_rfl) (by kernel_rfl) (by intro h;cases h)
noncomputable def Xc:TI:= {ud:= .struct #[{name:= "Nodes",type:=68,offset:=0,embedded:=false,tag:= "",pkgPath:= "",byteOffset:=0}, {name:= "Edges",type:=183,offset:=1,embedded:=false,tag:= "",pkgPath:= "",byteOffset:=24}],size:=2,bytes:=48,zero:=(.agg ⟨[(.slice none 0 0),(.slice none 0 0)]⟩),cmp:=false}
theorem kQ:BO Tryz.prog 185 Xc:=BO.of (by kernel_rfl) (by kernel_rfl) (by kernel_rfl) (by kernel_rfl) (by intro h;cases h)
noncomputable def Xh:TI:= {ud:= .pointer 227,size:=1,bytes:=8,zero:=(.pointer none),cmp:=false}
theorem iL:BO Tryz.prog 188 Xh:=BO.of (by kernel_rfl) (by kernel_rfl) (by kernel_rfl) (by kernel_rfl) (by intro h;cases h)
noncomputable def SO:TI:= {ud:= .map 202 3,size:=1,bytes:=8,zero:=(.map none),cmp:=false}
theorem fD:BO Tryz.prog 192 SO:=BO.of (by kernel_rfl) (by kernel_rfl) (by kernel_rfl) (by kernel_rfl) (by intro h;cases h)
noncomputable def Sz:TI:= {ud:= .map 202 4,size:=1,bytes:=8,zero:=(.map none),cmp:=false}
theorem kg:BO Tryz.prog 193 Sz:=BO.of (by kernel_rfl) (by kernel_rfl) (by kernel_rfl) (by kernel_rfl) (by intro h;cases h)
noncomputable def SP:TI:= {ud:= .map 3 4,size:=1,bytes:=8,zero:=(.map none),cmp:=false}
theorem jD:BO Tryz.prog 194 SP:=BO.of (by kernel_rfl) (by kernel_rfl) (by kernel_rfl) (by kernel_rfl) (by intro h;cases h)
noncomputable def Wl:TI:= {ud:= .pointer 230,size:=1,bytes:=8,zero:=(.pointer none),cmp:=false}
theorem jW:BO Tryz.prog 195 Wl:=BO.of (by kernel_rfl) (by kernel_rfl) (by kernel_rfl) (by kernel_rfl) (by intro h;cases h)
noncomputable def bj:TI:= {ud:= .struct #[{name:= "From",type:=3,offset:=0,embedded:=false,tag:= "",pkgPath:= "",byteOffset:=0}, {name:= "To",type:=3,offset:=1,embedded:=false,tag:= "",pkgPath:= "",byteOffset:=8}, {name:= "Bytes",type:=9,offset:=2,embedded:=false,tag:= "",pkgPath:= "",byteOffset:=16}],size:=3,bytes:=32,zero:=(.agg ⟨[(.int .i64 (0)),(.int .i64 (0)),(.string ⟨⟨[]⟩⟩)]⟩),cmp:=false}
theorem gI:BO Tryz.prog 198 bj:=BO.of (by kernel_rfl) (by kernel_rfl) (by kernel_rfl) (by kernel_rfl) (by intro h;cases h)
noncomputable def W7:TI:= {ud:= .struct #[{name:= "routers",type:=68,offset:=0,embedded:=false,tag:= "",pkgPath:= "dandelion/net",byteOffset:=0}, {name:= "links",type:=192,offset:=1,embedded:=false,tag:= "",pkgPath:= "dandelion/net",byteOffset:=24}, {name:= "cut",type:=193,offset:=2,embedded:=false,tag:= "",pkgPath:= "dandelion/net",byteOffset:=32}, {name:= "stopped",type:=194,offset:=3,embedded:=false,tag:= "",pkgPath:= "dandelion/net",byteOffset:=40}, {name:= "plan",type:=188,offset:=4,embedded:=false,tag:= "",pkgPath:= "dandelion/net",byteOffset:=48}, {name:= "late",type:=106,offset:=5,embedded:=false,tag:= "",pkgPath:= "dandelion/net",byteOffset:=56}, {name:= "now",type:=106,offset:=6,embedded:=false,tag:= "",pkgPath:= "dandelion/net",byteOffset:=64}, {name:= "ways",type:=195,offset:=7,embedded:=false,tag:= "",pkgPath:= "dandelion/net",byteOffset:=72}],size:=8,bytes:=80,zero:=(.agg ⟨[(.slice none 0 0),(.map none),(.map none),(.map none),(.pointer none),(.int .u64 (0)),(.int .u64 (0)),(.pointer none)]⟩),cmp:=false}
theorem km:BO Tryz.prog 200 W7:=BO.of (by kernel_rfl) (by kernel_rfl) (by kernel_rfl) (by kernel_rfl) (by intro h;cases h)
noncomputable def Qu:TI:= {ud:= .struct #[{name:= "a",type:=3,offset:=0,embedded:=false,tag:= "",pkgPath:= "dandelion/net",byteOffset:=0}, {name:= "b",type:=3,offset:=1,embedded:=false,tag:= "",pkgPath:= "dandelion/net",byteOffset:=8}],size:=2,bytes:=16,zero:=(.agg ⟨[(.int .i64 (0)),(.int .i64 (0))]⟩),cmp:=true}
theorem gU:BO Tryz.prog 202 Qu:=BO.of (by kernel_rfl) (by kernel_rfl) (by kernel_rfl) (by kernel_rfl) (fun _=>⟨by kernel_rfl,by kernel_rfl⟩)
noncomputable def kd:TI:= {ud:= .slice 4,size:=1,bytes:=24,zero:=(.slice none 0 0),cmp:=false}
theorem jd:BO Tryz.prog 206 kd:=BO.of (by kernel_rfl) (by kernel_rfl) (by kernel_rfl) (by kernel_rfl) (by intro h;cases h)
noncomputable def W9:TI:= {ud:= .array 25 4,size:=25,bytes:=25,zero:=(.agg ⟨(DV 25 (.bool false))⟩),cmp:=false}
theorem fx:BO Tryz.prog 207 W9:=BO.of (by kernel_rfl) (by kernel_rfl) (by kernel_rfl) (by kernel_rfl) (by intro h;cases h)
noncomputable def W6:TI:= {ud:= .array 25 3,size:=25,bytes:=200,zero:=(.agg ⟨(DV 25 (.int .i64 (0)))⟩),cmp:=false}
theorem gh:BO Tryz.prog 208 W6:=BO.of (by kernel_rfl) (by kernel_rfl) (by kernel_rfl) (by kernel_rfl) (by intro h;cases h)
noncomputable def Xn:TI:= {ud:= .array 25 208,size:=625,bytes:=5000,zero:=(.agg ⟨(DV 625 (.int .i64 (0)))⟩),cmp:=false}
theorem jQ:BO Tryz.prog 209 Xn:=BO.of (by kernel_rfl) (by kernel_rfl) (by kernel_rfl) (by kernel_rfl) (by intro h;cases h)
noncomputable def iw:TI:= {ud:= .slice 280,size:=1,bytes:=24,zero:=(.slice none 0 0),cmp:=false}
theorem ky:BO Tryz.prog 210 iw:=BO.of (by kernel_rfl) (by kernel_rfl) (by kernel_rfl) (by kernel_rfl) (by intro h;cases h)
noncomputable def jZ:TI:= {ud:= .struct #[{name:= "Routers",type:=68,offset:=0,embedded:=false,tag:= "",pkgPath:= "",byteOffset:=0}, {name:= "Links",type:=23,offset:=1,embedded:=false,tag:= "",pkgPath:= "",byteOffset:=24}, {name:= "Rules",type:=24,offset:=2,embedded:=false,tag:= "",pkgPath:= "",byteOffset:=48}, {name:= "Late",type:=3,offset:=3,embedded:=false,tag:= "",pkgPath:= "",byteOffset:=72}, {name:= "Now",type:=106,offset:=4,embedded:=false,tag:= "",pkgPath:= "",byteOffset:=80}, {name:= "IsCut",type:=206,offset:=5,embedded:=false,tag:= "",pkgPath:= "",byteOffset:=88}, {name:= "Stopped",type:=207,offset:=6,embedded:=false,tag:= "",pkgPath:= "",byteOffset:=112}, {name:= "Sent",type:=209,offset:=31,embedded:=false,tag:= "",pkgPath:= "",byteOffset:=144}, {name:= "Ways",type:=210,offset:=656,embedded:=false,tag:= "",pkgPath:= "",byteOffset:=5144}],size:=657,bytes:=5168,zero:=(.agg ⟨([(.slice none 0 0),(.slice none 0 0),(.slice none 0 0)] ++ [(.int .i64 (0))] ++ [(.int .u64 (0))] ++ [(.slice none 0 0)] ++ DV 25 (.bool false) ++ DV 625 (.int .i64 (0)) ++ [(.slice none 0 0)])⟩),cmp:=false}
theorem fX:BO Tryz.prog 212 jZ:=BO.of (by kernel_rfl) (by kernel_rfl) (by kernel_rfl) (by kernel_rfl) (by intro h;cases h)
noncomputable def aA:TI:= {ud:= .array 20 106,size:=20,bytes:=160,zero:=(.agg ⟨(DV 20 (.int .u64 (0)))⟩),cmp:=false}
theorem fU:BO Tryz.prog 217 aA:=BO.of (by kernel_rfl) (by kernel_rfl) (by kernel_rfl) (by kernel_rfl) (by intro h;cases h)
noncomputable def aJ:TI:= {ud:= .array 65 5,size:=65,bytes:=65,zero:=(.agg ⟨(DV 65 (.int .u8 (0)))⟩),cmp:=false}
theorem ly:BO Tryz.prog 218 aJ:=BO.of (by kernel_rfl) (by kernel_rfl) (by kernel_rfl) (by kernel_rfl) (by intro h;cases h)
noncomputable def WB:TI:= {ud:= .array 25 208,size:=625,bytes:=5000,zero:=(.agg ⟨(DV 625 (.int .i64 (0)))⟩),cmp:=false}
theorem fw:BO Tryz.prog 221 WB:=BO.of (by kernel_rfl) (by kernel_rfl) (by kernel_rfl) (by kernel_rfl) (by intro h;cases h)
noncomputable def Ta:TI:= {ud:= .map 248 83,size:=1,bytes:=8,zero:=(.map none),cmp:=false}
theorem jy:BO Tryz.prog 223 Ta:=BO.of (by kernel_rfl) (by kernel_rfl) (by kernel_rfl) (by kernel_rfl) (by intro h;cases h)
noncomputable def Xr:TI:= {ud:= .struct #[{name:= "rules",type:=223,offset:=0,embedded:=false,tag:= "",pkgPath:= "dandelion/fate",byteOffset:=0}, {name:= "asked",type:=209,offset:=1,embedded:=false,tag:= "",pkgPath:= "dandelion/fate",byteOffset:=8}],size:=626,bytes:=5008,zero:=(.agg ⟨([(.map none)] ++ DV 625 (.int .i64 (0)))⟩),cmp:=false}
theorem kI:BO Tryz.prog 227 Xr:=BO.of (by kernel_rfl) (by kernel_rfl) (by kernel_rfl) (by kernel_rfl) (by intro h;cases h)
noncomputable def Qc:TI:= {ud:= .slice 282,size:=1,bytes:=24,zero:=(.slice none 0 0),cmp:=false}
theorem iD:BO Tryz.prog 228 Qc:=BO.of (by kernel_rfl) (by kernel_rfl) (by kernel_rfl) (by kernel_rfl) (by intro h;cases h)
noncomputable def XU:TI:= {ud:= .struct #[{name:= "there",type:=4,offset:=0,embedded:=false,tag:= "",pkgPath:= "dandelion/calend",byteOffset:=0}, {name:= "last",type:=3,offset:=1,embedded:=false,tag:= "",pkgPath:= "dandelion/calend",byteOffset:=8}, {name:= "l",type:=228,offset:=2,embedded:=false,tag:= "",pkgPath:= "dandelion/calend",byteOffset:=16}],size:=3,bytes:=40,zero:=(.agg ⟨[(.bool false),(.int .i64 (0)),(.slice none 0 0)]⟩),cmp:=false}
theorem iQ:BO Tryz.prog 230 XU:=BO.of (by kernel_rfl) (by kernel_rfl) (by kernel_rfl) (by kernel_rfl) (by intro h;cases h)
noncomputable def TZ:TI:= {ud:= .struct #[{name:= "From",type:=3,offset:=0,embedded:=false,tag:= "",pkgPath:= "",byteOffset:=0}, {name:= "To",type:=3,offset:=1,embedded:=false,tag:= "",pkgPath:= "",byteOffset:=8}, {name:= "Cost",type:=3,offset:=2,embedded:=false,tag:= "",pkgPath:= "",byteOffset:=16}],size:=3,bytes:=24,zero:=(.agg ⟨[(.int .i64 (0)),(.int .i64 (0)),(.int .i64 (0))]⟩),cmp:=false}
theorem iR:BO Tryz.prog 233 TZ:=BO.of (by kernel_rfl) (by kernel_rfl) (by kernel_rfl) (by kernel_rfl) (by intro h;cases h)
noncomputable def bm:TI:= {ud:= .int .i64,size:=1,bytes:=8,zero:=(.int .i64 (0)),cmp:=false}
theorem lx:BO Tryz.prog 238 bm:=BO.of (by kernel_rfl) (by kernel_rfl) (by kernel_rfl) (by kernel_rfl) (by intro h;cases h)
noncomputable def Zv:TI:= {ud:= .pointer 251,size:=1,bytes:=8,zero:=(.pointer none),cmp:=false}
theorem iZ:BO Tryz.prog 241 Zv:=BO.of (by kernel_rfl) (by kernel_rfl) (by kernel_rfl) (by kernel_rfl) (by intro h;cases h)
noncomputable def QH:TI:= {ud:= .struct #[{name:= "from",type:=3,offset:=0,embedded:=false,tag:= "",pkgPath:= "dandelion/fate",byteOffset:=0}, {name:= "to",type:=3,offset:=1,embedded:=false,tag:= "",pkgPath:= "dandelion/fate",byteOffset:=8}, {name:= "nth",type:=3,offset:=2,embedded:=false,tag:= "",pkgPath:= "dandelion/fate",byteOffset:=16}],size:=3,bytes:=24,zero:=(.agg ⟨[(.int .i64 (0)),(.int .i64 (0)),(.int .i64 (0))]⟩),cmp:=true}
theorem lz:BO Tryz.prog 248 QH:=BO.of (by kernel_rfl) (by kernel_rfl) (by kernel_rfl) (by kernel_rfl) (fun _=>⟨by kernel_rfl,by kernel_rfl⟩)
noncomputable def Z7:TI:= {ud:= .struct #[{name:= "Func",type:=9,offset:=0,embedded:=false,tag:= "",pkgPath:= "",byteOffset:=0}, {name:= "Num",type:=9,offset:=1,embedded:=false,tag:= "",pkgPath:= "",byteOffset:=16}, {name:= "Err",type:=38,offset:=2,embedded:=false,tag:= "",pkgPath:= "",byteOffset:=32}],size:=3,bytes:=48,zero:=(.agg ⟨[(.string ⟨⟨[]⟩⟩),(.string ⟨⟨[]⟩⟩), .nilIface]⟩),cmp:=false}
theorem e8:BO Tryz.prog 251 Z7:=BO.of (by kernel_rfl) (by kernel_rfl) (by kernel_rfl) (by kernel_rfl) (by intro h;cases h)
noncomputable def aP:TI:= {ud:= .array 32 5,size:=32,bytes:=32,zero:=(.agg ⟨(DV 32 (.int .u8 (0)))⟩),cmp:=false}
theorem kP:BO Tryz.prog 253 aP:=BO.of (by kernel_rfl) (by kernel_rfl) (by kernel_rfl) (by kernel_rfl) (by intro h;cases h)
noncomputable def aY:TI:= {ud:= .array 64 5,size:=64,bytes:=64,zero:=(.agg ⟨(DV 64 (.int .u8 (0)))⟩),cmp:=false}
theorem ez:BO Tryz.prog 254 aY:=BO.of (by kernel_rfl) (by kernel_rfl) (by kernel_rfl) (by kernel_rfl) (by intro h;cases h)
noncomputable def bG:TI:= {ud:= .array 256 5,size:=256,bytes:=256,zero:=(.agg ⟨(DV 256 (.int .u8 (0)))⟩),cmp:=false}
theorem jz:BO Tryz.prog 256 bG:=BO.of (by kernel_rfl) (by kernel_rfl) (by kernel_rfl) (by kernel_rfl) (by intro h;cases h)
noncomputable def bB:TI:= {ud:= .struct #[{name:= "lo",type:=5,offset:=0,embedded:=false,tag:= "",pkgPath:= "unicode/utf8",byteOffset:=0}, {name:= "hi",type:=5,offset:=1,embedded:=false,tag:= "",pkgPath:= "unicode/utf8",byteOffset:=1}],size:=2,bytes:=2,zero:=(.agg ⟨[(.int .u8 (0)),(.int .u8 (0))]⟩),cmp:=false}
theorem mf:BO Tryz.prog 258 bB:=BO.of (by kernel_rfl) (by kernel_rfl) (by kernel_rfl) (by kernel_rfl) (by intro h;cases h)
noncomputable def Zx:TI:= {ud:= .array 16 258,size:=32,bytes:=32,zero:=(.agg ⟨(DV 32 (.int .u8 (0)))⟩),cmp:=false}
theorem l9:BO Tryz.prog 259 Zx:=BO.of (by kernel_rfl) (by kernel_rfl) (by kernel_rfl) (by kernel_rfl) (by intro h;cases h)
noncomputable def aZ:TI:= {ud:= .pointer 262,size:=1,bytes:=8,zero:=(.pointer none),cmp:=false}
theorem mO:BO Tryz.prog 260 aZ:=BO.of (by kernel_rfl) (by kernel_rfl) (by kernel_rfl) (by kernel_rfl) (by intro h;cases h)
noncomputable def bc:TI:= {ud:= .struct #[{name:= "s",type:=9,offset:=0,embedded:=false,tag:= "",pkgPath:= "errors",byteOffset:=0}],size:=1,bytes:=16,zero:=(.agg ⟨[(.string ⟨⟨[]⟩⟩)]⟩),cmp:=false}
theorem jI:BO Tryz.prog 262 bc:=BO.of (by kernel_rfl) (by kernel_rfl) (by kernel_rfl) (by kernel_rfl) (by intro h;cases h)
noncomputable def iE:TI:= {ud:= .struct #[{name:= "At",type:=106,offset:=0,embedded:=false,tag:= "",pkgPath:= "",byteOffset:=0}, {name:= "M",type:=198,offset:=1,embedded:=false,tag:= "",pkgPath:= "",byteOffset:=8}],size:=4,bytes:=40,zero:=(.agg ⟨[(.int .u64 (0)),(.int .i64 (0)),(.int .i64 (0)),(.string ⟨⟨[]⟩⟩)]⟩),cmp:=false}
theorem fv:BO Tryz.prog 280 iE:=BO.of (by kernel_rfl) (by kernel_rfl) (by kernel_rfl) (by kernel_rfl) (by intro h;cases h)
noncomputable def S7:TI:= {ud:= .struct #[{name:= "at",type:=106,offset:=0,embedded:=false,tag:= "",pkgPath:= "dandelion/calend",byteOffset:=0}, {name:= "ticket",type:=3,offset:=1,embedded:=false,tag:= "",pkgPath:= "dandelion/calend",byteOffset:=8}, {name:= "v",type:=198,offset:=2,embedded:=false,tag:= "",pkgPath:= "dandelion/calend",byteOffset:=16}],size:=5,bytes:=48,zero:=(.agg ⟨[(.int .u64 (0)),(.int .i64 (0)),(.int .i64 (0)),(.int .i64 (0)),(.string ⟨⟨[]⟩⟩)]⟩),cmp:=false}
theorem jC:BO Tryz.prog 282 S7:=BO.of (by kernel_rfl) (by kernel_rfl) (by kernel_rfl) (by kernel_rfl) (by intro h;cases h)
noncomputable def tt:T TI:=(.node (.node (.node (.node (.node (.node .nil none (.node (.node .nil (some bd) .nil) none (.node .nil (some Ta) .nil))) none (.node (.node (.node .nil (some Qz) .nil) (some Yj) (.node .nil (some W9) .nil)) (some uH) .nil)) none (.node (.node (.node .nil (some sB) .nil) none .nil) (some Y1) (.node .nil (some lE) (.node (.node .nil (some Qn) .nil) none .nil)))) (some Nb) (.node (.node (.node (.node (.node (.node .nil (some Zx) .nil) none .nil) (some W2) (.node .nil (some Wl) .nil)) none (.node .nil none (.node .nil (some Xr) .nil))) none (.node (.node .nil (some XC) .nil) (some Y3) (.node .nil (some Zw) .nil))) none (.node (.node .nil (some Uj) .nil) (some X3) (.node .nil none (.node .nil none (.node .nil (some Z7) .nil)))))) none (.node (.node (.node (.node (.node .nil none (.node .nil (some Sz) .nil)) none .nil) (some n9) (.node (.node .nil (some YC) (.node .nil (some Xn) .nil)) none (.node (.node .nil (some aR) .nil) none (.node .nil (some Zv) .nil)))) (some rK) (.node (.node (.node (.node .nil (some aN) .nil) (some kY) .nil) (some ZY) (.node .nil none (.node .nil (some TZ) .nil))) none (.node (.node .nil none (.node .nil (some aA) .nil)) (some kM) (.node (.node .nil (some Xc) .nil) none .nil)))) (some xe) (.node (.node (.node (.node .nil (some T9) .nil) none (.node .nil (some Xj) .nil)) (some qy) (.node .nil (some cM) (.node .nil (some Zp) .nil))) none (.node (.node .nil (some xC) .nil) (some mg) (.node (.node (.node .nil (some bH) .nil) none (.node .nil (some WB) .nil)) none (.node .nil none (.node .nil (some aP) .nil))))))) none (.node (.node (.node (.node (.node (.node (.node (.node .nil (some bG) .nil) none .nil) none (.node .nil (some SO) .nil)) none (.node (.node .nil (some aw) .nil) none .nil)) none (.node (.node .nil none (.node .nil (some W6) .nil)) none (.node .nil (some aC) .nil))) none (.node (.node (.node (.node .nil (some Sx) .nil) none (.node .nil (some W7) .nil)) none (.node .nil (some bg) .nil)) (some Zc) (.node (.node (.node (.node .nil (some iE) .nil) none .nil) none .nil) none (.node .nil none (.node .nil (some QH) .nil))))) (some zv) (.node (.node (.node (.node (.node (.node .nil (some aZ) .nil) none .nil) (some R8) .nil) (some xd) (.node (.node .nil (some Zk) .nil) (some X2) (.node .nil (some Qc) .nil))) (some Yw) (.node (.node .nil none (.node .nil (some jZ) .nil)) none .nil)) none (.node .nil none (.node .nil none (.node (.node .nil (some Xh) .nil) none .nil))))) (some ti2) (.node (.node (.node (.node (.node (.node (.node .nil (some bB) .nil) none .nil) none (.node .nil (some SP) .nil)) none (.node .nil (some pN) .nil)) none (.node (.node .nil none (.node .nil (some iw) .nil)) none .nil)) none (.node (.node (.node .nil none (.node .nil (some Qu) .nil)) none (.node .nil (some X1) .nil)) (some fp) (.node (.node (.node (.node .nil (some S7) .nil) (some Zq) .nil) none (.node .nil (some aJ) .nil)) none .nil))) none (.node (.node (.node (.node (.node (.node .nil (some bc) .nil) none .nil) none (.node .nil (some bj) .nil)) (some Vv) (.node .nil none (.node .nil (some XU) .nil))) (some Zg) .nil) none (.node (.node (.node .nil none (.node .nil (some kd) .nil)) none (.node .nil (some aS) (.node .nil (some bm) .nil))) (some cn) (.node .nil none (.node .nil none (.node .nil (some aY) .nil))))))))
noncomputable def tl:List (Nat×TI):= [(3,Nb),(159,bd),(223,Ta),(47,uH),(79,Yj),(143,Qz),(207,W9),(23,Y1),(71,sB),(55,lE),(183,Qn),(67,W2),(259,Zx),(195,Wl),(227,Xr),(51,Y3),(83,XC),(115,Zw),(27,X3),(43,Uj),(251,Z7),(5,xe),(9,rK),(17,n9),(193,Sz),(81,YC),(209,Xn),(177,aR),(241,Zv),(41,ZY),(73,kY),(137,aN),(233,TZ),(57,kM),(217,aA),(185,Xc),(21,qy),(69,T9),(101,Xj),(53,cM),(117,Zp),(29,mg),(45,xC),(157,bH),(221,WB),(253,aP),(2,ti2),(4,zv),(256,bG),(192,SO),(160,aw),(208,W6),(112,aC),(24,Zc),(136,Sx),(200,W7),(104,bg),(280,iE),(248,QH),(20,Yw),(36,xd),(68,R8),(260,aZ),(100,X2),(164,Zk),(228,Qc),(212,jZ),(188,Xh),(258,bB),(194,SP),(98,pN),(210,iw),(26,fp),(202,Qu),(106,X1),(154,Zq),(282,S7),(218,aJ),(22,Zg),(38,Vv),(262,bc),(198,bj),(230,XU),(30,cn),(206,kd),(110,aS),(238,bm),(254,aY)]
theorem zK:tt.wN 1 0=tl:=by kernel_rfl
set_option maxRecDepth 100000 in
theorem zQ:∀p∈tl,BO Tryz.prog p.1 p.2:=List.forall_mem_cons.2 ⟨wZ,List.forall_mem_cons.2 ⟨l5,List.forall_mem_cons.2 ⟨jy,List.forall_mem_cons.2 ⟨rm,List.forall_mem_cons.2 ⟨sR,List.forall_mem_cons.2 ⟨kz,List.forall_mem_cons.2 ⟨fx,List.forall_mem_cons.2 ⟨qL,List.forall_mem_cons.2 ⟨nz,List.forall_mem_cons.2 ⟨q9,List.forall_mem_cons.2 ⟨mH,List.forall_mem_cons.2 ⟨n6,List.forall_mem_cons.2 ⟨l9,List.forall_mem_cons.2 ⟨jW,List.forall_mem_cons.2 ⟨kI,List.forall_mem_cons.2 ⟨pX,List.forall_mem_cons.2 ⟨oX,List.forall_mem_cons.2 ⟨je,List.forall_mem_cons.2 ⟨qg,List.forall_mem_cons.2 ⟨p9,List.forall_mem_cons.2 ⟨e8,List.forall_mem_cons.2 ⟨vS,List.forall_mem_cons.2 ⟨vG,List.forall_mem_cons.2 ⟨oQ,List.forall_mem_cons.2 ⟨kg,List.forall_mem_cons.2 ⟨pc,List.forall_mem_cons.2 ⟨jQ,List.forall_mem_cons.2 ⟨lV,List.forall_mem_cons.2 ⟨iZ,List.forall_mem_cons.2 ⟨oa,List.forall_mem_cons.2 ⟨sY,List.forall_mem_cons.2 ⟨lq,List.forall_mem_cons.2 ⟨iR,List.forall_mem_cons.2 ⟨pR,List.forall_mem_cons.2 ⟨fU,List.forall_mem_cons.2 ⟨kQ,List.forall_mem_cons.2 ⟨qN,List.forall_mem_cons.2 ⟨oW,List.forall_mem_cons.2 ⟨gw,List.forall_mem_cons.2 ⟨pB,List.forall_mem_cons.2 ⟨iA,List.forall_mem_cons.2 ⟨qe,List.forall_mem_cons.2 ⟨pG,List.forall_mem_cons.2 ⟨jM,List.forall_mem_cons.2 ⟨fw,List.forall_mem_cons.2 ⟨kP,List.forall_mem_cons.2 ⟨xS,List.forall_mem_cons.2 ⟨x9,List.forall_mem_cons.2 ⟨jz,List.forall_mem_cons.2 ⟨fD,List.forall_mem_cons.2 ⟨mB,List.forall_mem_cons.2 ⟨gh,List.forall_mem_cons.2 ⟨iO,List.forall_mem_cons.2 ⟨oH,List.forall_mem_cons.2 ⟨mL,List.forall_mem_cons.2 ⟨km,List.forall_mem_cons.2 ⟨kE,List.forall_mem_cons.2 ⟨fv,List.forall_mem_cons.2 ⟨lz,List.forall_mem_cons.2 ⟨nf,List.forall_mem_cons.2 ⟨pz,List.forall_mem_cons.2 ⟨rL,List.forall_mem_cons.2 ⟨mO,List.forall_mem_cons.2 ⟨lY,List.forall_mem_cons.2 ⟨kx,List.forall_mem_cons.2 ⟨iD,List.forall_mem_cons.2 ⟨fX,List.forall_mem_cons.2 ⟨iL,List.forall_mem_cons.2 ⟨mf,List.forall_mem_cons.2 ⟨jD,List.forall_mem_cons.2 ⟨sV,List.forall_mem_cons.2 ⟨ky,List.forall_mem_cons.2 ⟨rr,List.forall_mem_cons.2 ⟨gU,List.forall_mem_cons.2 ⟨jO,List.forall_mem_cons.2 ⟨fe,List.forall_mem_cons.2 ⟨jC,List.forall_mem_cons.2 ⟨ly,List.forall_mem_cons.2 ⟨rS,List.forall_mem_cons.2 ⟨rq,List.forall_mem_cons.2 ⟨jI,List.forall_mem_cons.2 ⟨gI,List.forall_mem_cons.2 ⟨iQ,List.forall_mem_cons.2 ⟨rT,List.forall_mem_cons.2 ⟨jd,List.forall_mem_cons.2 ⟨gu,List.forall_mem_cons.2 ⟨lx,List.forall_mem_cons.2 ⟨ez,(fun _ h=>by cases h)⟩⟩⟩⟩⟩⟩⟩⟩⟩⟩⟩⟩⟩⟩⟩⟩⟩⟩⟩⟩⟩⟩⟩⟩⟩⟩⟩⟩⟩⟩⟩⟩⟩⟩⟩⟩⟩⟩⟩⟩⟩⟩⟩⟩⟩⟩⟩⟩⟩⟩⟩⟩⟩⟩⟩⟩⟩⟩⟩⟩⟩⟩⟩⟩⟩⟩⟩⟩⟩⟩⟩⟩⟩⟩⟩⟩⟩⟩⟩⟩⟩⟩⟩⟩⟩⟩⟩⟩
theorem BA:Ck Tryz.prog tt.get:=fun k i h=>zQ (k,i) (zK ▸ T.af h)
theorem uY:Aq Tryz.prog 3 Tryz.f3:=⟨⟨Tryz.func3,by kernel_rfl,by kernel_rfl⟩,Aq.AK (by kernel_rfl)⟩
theorem wb:Aq Tryz.prog 4 Tryz.f4:=⟨⟨Tryz.func4,by kernel_rfl,by kernel_rfl⟩,Aq.AK (by kernel_rfl)⟩
theorem uh:Aq Tryz.prog 5 Tryz.f5:=⟨⟨Tryz.func5,by kernel_rfl,by kernel_rfl⟩,Aq.AK (by kernel_rfl)⟩
theorem wH:Aq Tryz.prog 6 Tryz.f6:=⟨⟨Tryz.func6,by kernel_rfl,by kernel_rfl⟩,Aq.AK (by kernel_rfl)⟩
theorem ZK:Aq Tryz.prog 7 Tryz.f7:=⟨⟨Tryz.func7,by kernel_rfl,by kernel_rfl⟩,Aq.AK (by kernel_rfl)⟩
theorem vd:Aq Tryz.prog 8 Tryz.f8:=⟨⟨Tryz.func8,by kernel_rfl,by kernel_rfl⟩,Aq.AK (by kernel_rfl)⟩
theorem Ym:Aq Tryz.prog 9 Tryz.f9:=⟨⟨Tryz.func9,by kernel_rfl,by kernel_rfl⟩,Aq.AK (by kernel_rfl)⟩
theorem qk:Aq Tryz.prog 10 Tryz.f10:=⟨⟨Tryz.func10,by kernel_rfl,by kernel_rfl⟩,Aq.AK (by kernel_rfl)⟩
theorem rH:Aq Tryz.prog 11 Tryz.f11:=⟨⟨Tryz.func11,by kernel_rfl,by kernel_rfl⟩,Aq.AK (by kernel_rfl)⟩
theorem UR:Aq Tryz.prog 12 Tryz.f12:=⟨⟨Tryz.func12,by kernel_rfl,by kernel_rfl⟩,Aq.AK (by kernel_rfl)⟩
theorem pj:Aq Tryz.prog 14 Tryz.f14:=⟨⟨Tryz.func14,by kernel_rfl,by kernel_rfl⟩,Aq.AK (by kernel_rfl)⟩
theorem VD:Aq Tryz.prog 15 Tryz.f15:=⟨⟨Tryz.func15,by kernel_rfl,by kernel_rfl⟩,Aq.AK (by kernel_rfl)⟩
theorem bK:Aq Tryz.prog 17 Tryz.f17:=⟨⟨Tryz.func17,by kernel_rfl,by kernel_rfl⟩,Aq.AK (by kernel_rfl)⟩
theorem sI:Aq Tryz.prog 18 Tryz.f18:=⟨⟨Tryz.func18,by kernel_rfl,by kernel_rfl⟩,Aq.AK (by kernel_rfl)⟩
theorem P1:Aq Tryz.prog 19 Tryz.f19:=⟨⟨Tryz.func19,by kernel_rfl,by kernel_rfl⟩,Aq.AK (by kernel_rfl)⟩
theorem aq:Aq Tryz.prog 20 Tryz.f20:=⟨⟨Tryz.func20,by kernel_rfl,by kernel_rfl⟩,Aq.AK (by kernel_rfl)⟩
theorem Uk:Aq Tryz.prog 21 Tryz.f21:=⟨⟨Tryz.func21,by kernel_rfl,by kernel_rfl⟩,Aq.AK (by kernel_rfl)⟩
theorem Uh:Aq Tryz.prog 22 Tryz.f22:=⟨⟨Tryz.func22,by kernel_rfl,by kernel_rfl⟩,Aq.AK (by kernel_rfl)⟩
theorem UI:Aq Tryz.prog 23 Tryz.f23:=⟨⟨Tryz.func23,by kernel_rfl,by kernel_rfl⟩,Aq.AK (by kernel_rfl)⟩
theorem VK:Aq Tryz.prog 24 Tryz.f24:=⟨⟨Tryz.func24,by kernel_rfl,by kernel_rfl⟩,Aq.AK (by kernel_rfl)⟩
theorem bZ:Aq Tryz.prog 25 Tryz.f25:=⟨⟨Tryz.func25,by kernel_rfl,by kernel_rfl⟩,Aq.AK (by kernel_rfl)⟩
theorem bE:Aq Tryz.prog 26 Tryz.f26:=⟨⟨Tryz.func26,by kernel_rfl,by kernel_rfl⟩,Aq.AK (by kernel_rfl)⟩
theorem U6:Aq Tryz.prog 27 Tryz.f27:=⟨⟨Tryz.func27,by kernel_rfl,by kernel_rfl⟩,Aq.AK (by kernel_rfl)⟩
theorem a8:Aq Tryz.prog 28 Tryz.f28:=⟨⟨Tryz.func28,by kernel_rfl,by kernel_rfl⟩,Aq.AK (by kernel_rfl)⟩
theorem nu:Aq Tryz.prog 29 Tryz.f29:=⟨⟨Tryz.func29,by kernel_rfl,by kernel_rfl⟩,Aq.AK (by kernel_rfl)⟩
theorem VF:Aq Tryz.prog 30 Tryz.f30:=⟨⟨Tryz.func30,by kernel_rfl,by kernel_rfl⟩,Aq.AK (by kernel_rfl)⟩
theorem sM:Aq Tryz.prog 31 Tryz.f31:=⟨⟨Tryz.func31,by kernel_rfl,by kernel_rfl⟩,Aq.AK (by kernel_rfl)⟩
theorem pw:Aq Tryz.prog 32 Tryz.f32:=⟨⟨Tryz.func32,by kernel_rfl,by kernel_rfl⟩,Aq.AK (by kernel_rfl)⟩
theorem P2:Aq Tryz.prog 33 Tryz.f33:=⟨⟨Tryz.func33,by kernel_rfl,by kernel_rfl⟩,Aq.AK (by kernel_rfl)⟩
theorem Px:Aq Tryz.prog 34 Tryz.f34:=⟨⟨Tryz.func34,by kernel_rfl,by kernel_rfl⟩,Aq.AK (by kernel_rfl)⟩
theorem VO:Aq Tryz.prog 35 Tryz.f35:=⟨⟨Tryz.func35,by kernel_rfl,by kernel_rfl⟩,Aq.AK (by kernel_rfl)⟩
theorem bD:Aq Tryz.prog 36 Tryz.f36:=⟨⟨Tryz.func36,by kernel_rfl,by kernel_rfl⟩,Aq.AK (by kernel_rfl)⟩
theorem VY:Aq Tryz.prog 37 Tryz.f37:=⟨⟨Tryz.func37,by kernel_rfl,by kernel_rfl⟩,Aq.AK (by kernel_rfl)⟩
theorem Vw:Aq Tryz.prog 38 Tryz.f38:=⟨⟨Tryz.func38,by kernel_rfl,by kernel_rfl⟩,Aq.AK (by kernel_rfl)⟩
theorem Vx:Aq Tryz.prog 39 Tryz.f39:=⟨⟨Tryz.func39,by kernel_rfl,by kernel_rfl⟩,Aq.AK (by kernel_rfl)⟩
theorem Uw:Aq Tryz.prog 40 Tryz.f40:=⟨⟨Tryz.func40,by kernel_rfl,by kernel_rfl⟩,Aq.AK (by kernel_rfl)⟩
theorem Ug:Aq Tryz.prog 41 Tryz.f41:=⟨⟨Tryz.func41,by kernel_rfl,by kernel_rfl⟩,Aq.AK (by kernel_rfl)⟩
theorem bV:Aq Tryz.prog 42 Tryz.f42:=⟨⟨Tryz.func42,by kernel_rfl,by kernel_rfl⟩,Aq.AK (by kernel_rfl)⟩
theorem VG:Aq Tryz.prog 43 Tryz.f43:=⟨⟨Tryz.func43,by kernel_rfl,by kernel_rfl⟩,Aq.AK (by kernel_rfl)⟩
theorem bS:Aq Tryz.prog 44 Tryz.f44:=⟨⟨Tryz.func44,by kernel_rfl,by kernel_rfl⟩,Aq.AK (by kernel_rfl)⟩
theorem Pu:Aq Tryz.prog 45 Tryz.f45:=⟨⟨Tryz.func45,by kernel_rfl,by kernel_rfl⟩,Aq.AK (by kernel_rfl)⟩
theorem sW:Aq Tryz.prog 49 Tryz.f49:=⟨⟨Tryz.func49,by kernel_rfl,by kernel_rfl⟩,Aq.AK (by kernel_rfl)⟩
theorem sa:Aq Tryz.prog 50 Tryz.f50:=⟨⟨Tryz.func50,by kernel_rfl,by kernel_rfl⟩,Aq.AK (by kernel_rfl)⟩
theorem UP:Aq Tryz.prog 51 Tryz.f51:=⟨⟨Tryz.func51,by kernel_rfl,by kernel_rfl⟩,Aq.AK (by kernel_rfl)⟩
theorem qH:Aq Tryz.prog 52 Tryz.f52:=⟨⟨Tryz.func52,by kernel_rfl,by kernel_rfl⟩,Aq.AK (by kernel_rfl)⟩
theorem qT:Aq Tryz.prog 53 Tryz.f53:=⟨⟨Tryz.func53,by kernel_rfl,by kernel_rfl⟩,Aq.AK (by kernel_rfl)⟩
theorem nh:Aq Tryz.prog 55 Tryz.f55:=⟨⟨Tryz.func55,by kernel_rfl,by kernel_rfl⟩,Aq.AK (by kernel_rfl)⟩
theorem VR:Aq Tryz.prog 56 Tryz.f56:=⟨⟨Tryz.func56,by kernel_rfl,by kernel_rfl⟩,Aq.AK (by kernel_rfl)⟩
theorem UE:Aq Tryz.prog 57 Tryz.f57:=⟨⟨Tryz.func57,by kernel_rfl,by kernel_rfl⟩,Aq.AK (by kernel_rfl)⟩
theorem JW:Aq Tryz.prog 58 Tryz.f58:=⟨⟨Tryz.func58,by kernel_rfl,by kernel_rfl⟩,Aq.AK (by kernel_rfl)⟩
theorem Vh:Aq Tryz.prog 59 Tryz.f59:=⟨⟨Tryz.func59,by kernel_rfl,by kernel_rfl⟩,Aq.AK (by kernel_rfl)⟩
theorem UQ:Aq Tryz.prog 60 Tryz.f60:=⟨⟨Tryz.func60,by kernel_rfl,by kernel_rfl⟩,Aq.AK (by kernel_rfl)⟩
theorem UU:Aq Tryz.prog 61 Tryz.f61:=⟨⟨Tryz.func61,by kernel_rfl,by kernel_rfl⟩,Aq.AK (by kernel_rfl)⟩
theorem Vd:Aq Tryz.prog 62 Tryz.f62:=⟨⟨Tryz.func62,by kernel_rfl,by kernel_rfl⟩,Aq.AK (by kernel_rfl)⟩
theorem UK:Aq Tryz.prog 63 Tryz.f63:=⟨⟨Tryz.func63,by kernel_rfl,by kernel_rfl⟩,Aq.AK (by kernel_rfl)⟩
theorem Ux:Aq Tryz.prog 64 Tryz.f64:=⟨⟨Tryz.func64,by kernel_rfl,by kernel_rfl⟩,Aq.AK (by kernel_rfl)⟩
theorem Tg:Aq Tryz.prog 65 Tryz.f65:=⟨⟨Tryz.func65,by kernel_rfl,by kernel_rfl⟩,Aq.AK (by kernel_rfl)⟩
theorem ba:Aq Tryz.prog 66 Tryz.f66:=⟨⟨Tryz.func66,by kernel_rfl,by kernel_rfl⟩,Aq.AK (by kernel_rfl)⟩
theorem oy:Aq Tryz.prog 67 Tryz.f67:=⟨⟨Tryz.func67,by kernel_rfl,by kernel_rfl⟩,Aq.AK (by kernel_rfl)⟩
theorem rZ:Aq Tryz.prog 68 Tryz.f68:=⟨⟨Tryz.func68,by kernel_rfl,by kernel_rfl⟩,Aq.AK (by kernel_rfl)⟩
theorem M7:Aq Tryz.prog 69 Tryz.f69:=⟨⟨Tryz.func69,by kernel_rfl,by kernel_rfl⟩,Aq.AK (by kernel_rfl)⟩
theorem qS:Aq Tryz.prog 70 Tryz.f70:=⟨⟨Tryz.func70,by kernel_rfl,by kernel_rfl⟩,Aq.AK (by kernel_rfl)⟩
theorem qE:Aq Tryz.prog 71 Tryz.f71:=⟨⟨Tryz.func71,by kernel_rfl,by kernel_rfl⟩,Aq.AK (by kernel_rfl)⟩
theorem qF:Aq Tryz.prog 72 Tryz.f72:=⟨⟨Tryz.func72,by kernel_rfl,by kernel_rfl⟩,Aq.AK (by kernel_rfl)⟩
theorem bI:Aq Tryz.prog 73 Tryz.f73:=⟨⟨Tryz.func73,by kernel_rfl,by kernel_rfl⟩,Aq.AK (by kernel_rfl)⟩
theorem Tz:Aq Tryz.prog 74 Tryz.f74:=⟨⟨Tryz.func74,by kernel_rfl,by kernel_rfl⟩,Aq.AK (by kernel_rfl)⟩
theorem VH:Aq Tryz.prog 75 Tryz.f75:=⟨⟨Tryz.func75,by kernel_rfl,by kernel_rfl⟩,Aq.AK (by kernel_rfl)⟩
theorem Tt:Aq Tryz.prog 76 Tryz.f76:=⟨⟨Tryz.func76,by kernel_rfl,by kernel_rfl⟩,Aq.AK (by kernel_rfl)⟩
theorem VA:Aq Tryz.prog 77 Tryz.f77:=⟨⟨Tryz.func77,by kernel_rfl,by kernel_rfl⟩,Aq.AK (by kernel_rfl)⟩
theorem UO:Aq Tryz.prog 78 Tryz.f78:=⟨⟨Tryz.func78,by kernel_rfl,by kernel_rfl⟩,Aq.AK (by kernel_rfl)⟩
theorem Us:Aq Tryz.prog 79 Tryz.f79:=⟨⟨Tryz.func79,by kernel_rfl,by kernel_rfl⟩,Aq.AK (by kernel_rfl)⟩
theorem pg:Aq Tryz.prog 80 Tryz.f80:=⟨⟨Tryz.func80,by kernel_rfl,by kernel_rfl⟩,Aq.AK (by kernel_rfl)⟩
theorem Vr:Aq Tryz.prog 81 Tryz.f81:=⟨⟨Tryz.func81,by kernel_rfl,by kernel_rfl⟩,Aq.AK (by kernel_rfl)⟩
theorem pn:Aq Tryz.prog 82 Tryz.f82:=⟨⟨Tryz.func82,by kernel_rfl,by kernel_rfl⟩,Aq.AK (by kernel_rfl)⟩
theorem ru:Aq Tryz.prog 85 Tryz.f85:=⟨⟨Tryz.func85,by kernel_rfl,by kernel_rfl⟩,Aq.AK (by kernel_rfl)⟩
theorem U2:Aq Tryz.prog 86 Tryz.f86:=⟨⟨Tryz.func86,by kernel_rfl,by kernel_rfl⟩,Aq.AK (by kernel_rfl)⟩
theorem Ty:Aq Tryz.prog 87 Tryz.f87:=⟨⟨Tryz.func87,by kernel_rfl,by kernel_rfl⟩,Aq.AK (by kernel_rfl)⟩
theorem oz:Aq Tryz.prog 89 Tryz.f89:=⟨⟨Tryz.func89,by kernel_rfl,by kernel_rfl⟩,Aq.AK (by kernel_rfl)⟩
theorem pM:Aq Tryz.prog 90 Tryz.f90:=⟨⟨Tryz.func90,by kernel_rfl,by kernel_rfl⟩,Aq.AK (by kernel_rfl)⟩
theorem oY:Aq Tryz.prog 91 Tryz.f91:=⟨⟨Tryz.func91,by kernel_rfl,by kernel_rfl⟩,Aq.AK (by kernel_rfl)⟩
theorem sF:Aq Tryz.prog 92 Tryz.f92:=⟨⟨Tryz.func92,by kernel_rfl,by kernel_rfl⟩,Aq.AK (by kernel_rfl)⟩
theorem qw:Aq Tryz.prog 93 Tryz.f93:=⟨⟨Tryz.func93,by kernel_rfl,by kernel_rfl⟩,Aq.AK (by kernel_rfl)⟩
theorem aL:Aq Tryz.prog 94 Tryz.f94:=⟨⟨Tryz.func94,by kernel_rfl,by kernel_rfl⟩,Aq.AK (by kernel_rfl)⟩
theorem bn:Aq Tryz.prog 95 Tryz.f95:=⟨⟨Tryz.func95,by kernel_rfl,by kernel_rfl⟩,Aq.AK (by kernel_rfl)⟩
theorem VM:Aq Tryz.prog 96 Tryz.f96:=⟨⟨Tryz.func96,by kernel_rfl,by kernel_rfl⟩,Aq.AK (by kernel_rfl)⟩
theorem pT:Aq Tryz.prog 97 Tryz.f97:=⟨⟨Tryz.func97,by kernel_rfl,by kernel_rfl⟩,Aq.AK (by kernel_rfl)⟩
theorem qU:Aq Tryz.prog 98 Tryz.f98:=⟨⟨Tryz.func98,by kernel_rfl,by kernel_rfl⟩,Aq.AK (by kernel_rfl)⟩
theorem rD:Aq Tryz.prog 99 Tryz.f99:=⟨⟨Tryz.func99,by kernel_rfl,by kernel_rfl⟩,Aq.AK (by kernel_rfl)⟩
theorem j0:Aq Tryz.prog 100 Tryz.f100:=⟨⟨Tryz.func100,by kernel_rfl,by kernel_rfl⟩,Aq.AK (by kernel_rfl)⟩
theorem Xx:Aq Tryz.prog 101 Tryz.f101:=⟨⟨Tryz.func101,by kernel_rfl,by kernel_rfl⟩,Aq.AK (by kernel_rfl)⟩
theorem ik:Aq Tryz.prog 102 Tryz.f102:=⟨⟨Tryz.func102,by kernel_rfl,by kernel_rfl⟩,Aq.AK (by kernel_rfl)⟩
theorem QJ:Aq Tryz.prog 103 Tryz.f103:=⟨⟨Tryz.func103,by kernel_rfl,by kernel_rfl⟩,Aq.AK (by kernel_rfl)⟩
theorem Q3:Aq Tryz.prog 104 Tryz.f104:=⟨⟨Tryz.func104,by kernel_rfl,by kernel_rfl⟩,Aq.AK (by kernel_rfl)⟩
theorem QS:Aq Tryz.prog 105 Tryz.f105:=⟨⟨Tryz.func105,by kernel_rfl,by kernel_rfl⟩,Aq.AK (by kernel_rfl)⟩
theorem Q6:Aq Tryz.prog 106 Tryz.f106:=⟨⟨Tryz.func106,by kernel_rfl,by kernel_rfl⟩,Aq.AK (by kernel_rfl)⟩
theorem QO:Aq Tryz.prog 107 Tryz.f107:=⟨⟨Tryz.func107,by kernel_rfl,by kernel_rfl⟩,Aq.AK (by kernel_rfl)⟩
theorem jK:Aq Tryz.prog 108 Tryz.f108:=⟨⟨Tryz.func108,by kernel_rfl,by kernel_rfl⟩,Aq.AK (by kernel_rfl)⟩
theorem lu:Aq Tryz.prog 109 Tryz.f109:=⟨⟨Tryz.func109,by kernel_rfl,by kernel_rfl⟩,Aq.AK (by kernel_rfl)⟩
theorem jG:Aq Tryz.prog 110 Tryz.f110:=⟨⟨Tryz.func110,by kernel_rfl,by kernel_rfl⟩,Aq.AK (by kernel_rfl)⟩
theorem fm:Aq Tryz.prog 112 Tryz.f112:=⟨⟨Tryz.func112,by kernel_rfl,by kernel_rfl⟩,Aq.AK (by kernel_rfl)⟩
theorem jx:Aq Tryz.prog 113 Tryz.f113:=⟨⟨Tryz.func113,by kernel_rfl,by kernel_rfl⟩,Aq.AK (by kernel_rfl)⟩
theorem fH:Aq Tryz.prog 114 Tryz.f114:=⟨⟨Tryz.func114,by kernel_rfl,by kernel_rfl⟩,Aq.AK (by kernel_rfl)⟩
theorem jl:Aq Tryz.prog 115 Tryz.f115:=⟨⟨Tryz.func115,by kernel_rfl,by kernel_rfl⟩,Aq.AK (by kernel_rfl)⟩
theorem fM:Aq Tryz.prog 116 Tryz.f116:=⟨⟨Tryz.func116,by kernel_rfl,by kernel_rfl⟩,Aq.AK (by kernel_rfl)⟩
theorem jR:Aq Tryz.prog 117 Tryz.f117:=⟨⟨Tryz.func117,by kernel_rfl,by kernel_rfl⟩,Aq.AK (by kernel_rfl)⟩
theorem jf:Aq Tryz.prog 118 Tryz.f118:=⟨⟨Tryz.func118,by kernel_rfl,by kernel_rfl⟩,Aq.AK (by kernel_rfl)⟩
theorem Xp:Aq Tryz.prog 119 Tryz.f119:=⟨⟨Tryz.func119,by kernel_rfl,by kernel_rfl⟩,Aq.AK (by kernel_rfl)⟩
theorem iU:Aq Tryz.prog 120 Tryz.f120:=⟨⟨Tryz.func120,by kernel_rfl,by kernel_rfl⟩,Aq.AK (by kernel_rfl)⟩
theorem gL:Aq Tryz.prog 121 Tryz.f121:=⟨⟨Tryz.func121,by kernel_rfl,by kernel_rfl⟩,Aq.AK (by kernel_rfl)⟩
theorem gH:Aq Tryz.prog 122 Tryz.f122:=⟨⟨Tryz.func122,by kernel_rfl,by kernel_rfl⟩,Aq.AK (by kernel_rfl)⟩
theorem kp:Aq Tryz.prog 123 Tryz.f123:=⟨⟨Tryz.func123,by kernel_rfl,by kernel_rfl⟩,Aq.AK (by kernel_rfl)⟩
theorem la:Aq Tryz.prog 124 Tryz.f124:=⟨⟨Tryz.func124,by kernel_rfl,by kernel_rfl⟩,Aq.AK (by kernel_rfl)⟩
theorem QT:Aq Tryz.prog 126 Tryz.f126:=⟨⟨Tryz.func126,by kernel_rfl,by kernel_rfl⟩,Aq.AK (by kernel_rfl)⟩
theorem Qg:Aq Tryz.prog 127 Tryz.f127:=⟨⟨Tryz.func127,by kernel_rfl,by kernel_rfl⟩,Aq.AK (by kernel_rfl)⟩
theorem Qr:Aq Tryz.prog 128 Tryz.f128:=⟨⟨Tryz.func128,by kernel_rfl,by kernel_rfl⟩,Aq.AK (by kernel_rfl)⟩
theorem Qp:Aq Tryz.prog 129 Tryz.f129:=⟨⟨Tryz.func129,by kernel_rfl,by kernel_rfl⟩,Aq.AK (by kernel_rfl)⟩
theorem jS:Aq Tryz.prog 130 Tryz.f130:=⟨⟨Tryz.func130,by kernel_rfl,by kernel_rfl⟩,Aq.AK (by kernel_rfl)⟩
theorem lL:Aq Tryz.prog 132 Tryz.f132:=⟨⟨Tryz.func132,by kernel_rfl,by kernel_rfl⟩,Aq.AK (by kernel_rfl)⟩
theorem jT:Aq Tryz.prog 133 Tryz.f133:=⟨⟨Tryz.func133,by kernel_rfl,by kernel_rfl⟩,Aq.AK (by kernel_rfl)⟩
theorem fk:Aq Tryz.prog 134 Tryz.f134:=⟨⟨Tryz.func134,by kernel_rfl,by kernel_rfl⟩,Aq.AK (by kernel_rfl)⟩
theorem lr:Aq Tryz.prog 136 Tryz.f136:=⟨⟨Tryz.func136,by kernel_rfl,by kernel_rfl⟩,Aq.AK (by kernel_rfl)⟩
theorem jc:Aq Tryz.prog 137 Tryz.f137:=⟨⟨Tryz.func137,by kernel_rfl,by kernel_rfl⟩,Aq.AK (by kernel_rfl)⟩
theorem lI:Aq Tryz.prog 138 Tryz.f138:=⟨⟨Tryz.func138,by kernel_rfl,by kernel_rfl⟩,Aq.AK (by kernel_rfl)⟩
theorem iW:Aq Tryz.prog 139 Tryz.f139:=⟨⟨Tryz.func139,by kernel_rfl,by kernel_rfl⟩,Aq.AK (by kernel_rfl)⟩
theorem gK:Aq Tryz.prog 140 Tryz.f140:=⟨⟨Tryz.func140,by kernel_rfl,by kernel_rfl⟩,Aq.AK (by kernel_rfl)⟩
theorem fS:Aq Tryz.prog 141 Tryz.f141:=⟨⟨Tryz.func141,by kernel_rfl,by kernel_rfl⟩,Aq.AK (by kernel_rfl)⟩
theorem gy:Aq Tryz.prog 142 Tryz.f142:=⟨⟨Tryz.func142,by kernel_rfl,by kernel_rfl⟩,Aq.AK (by kernel_rfl)⟩
theorem RP:Aq Tryz.prog 143 Tryz.f143:=⟨⟨Tryz.func143,by kernel_rfl,by kernel_rfl⟩,Aq.AK (by kernel_rfl)⟩
theorem j7:Aq Tryz.prog 144 Tryz.f144:=⟨⟨Tryz.func144,by kernel_rfl,by kernel_rfl⟩,Aq.AK (by kernel_rfl)⟩
theorem lD:Aq Tryz.prog 145 Tryz.f145:=⟨⟨Tryz.func145,by kernel_rfl,by kernel_rfl⟩,Aq.AK (by kernel_rfl)⟩
theorem mF:Aq Tryz.prog 146 Tryz.f146:=⟨⟨Tryz.func146,by kernel_rfl,by kernel_rfl⟩,Aq.AK (by kernel_rfl)⟩
theorem ie:Aq Tryz.prog 147 Tryz.f147:=⟨⟨Tryz.func147,by kernel_rfl,by kernel_rfl⟩,Aq.AK (by kernel_rfl)⟩
theorem gx:Aq Tryz.prog 148 Tryz.f148:=⟨⟨Tryz.func148,by kernel_rfl,by kernel_rfl⟩,Aq.AK (by kernel_rfl)⟩
theorem RR:Aq Tryz.prog 149 Tryz.f149:=⟨⟨Tryz.func149,by kernel_rfl,by kernel_rfl⟩,Aq.AK (by kernel_rfl)⟩
theorem jF:Aq Tryz.prog 169 Tryz.f169:=⟨⟨Tryz.func169,by kernel_rfl,by kernel_rfl⟩,Aq.AK (by kernel_rfl)⟩
theorem js:Aq Tryz.prog 191 Tryz.f191:=⟨⟨Tryz.func191,by kernel_rfl,by kernel_rfl⟩,Aq.AK (by kernel_rfl)⟩
theorem aM:FTOk Tryz.prog 13 Tryz.f13:=⟨Tryz.func13,by kernel_rfl,by kernel_rfl⟩
theorem bh:FTOk Tryz.prog 16 Tryz.f16:=⟨Tryz.func16,by kernel_rfl,by kernel_rfl⟩
noncomputable def ft:T Func:=(.node (.node (.node (.node (.node (.node (.node (.node .nil (some Tryz.f127) .nil) (some Tryz.f63) (.node .nil (some Tryz.f191) .nil)) (some Tryz.f31) (.node .nil (some Tryz.f95) .nil)) (some Tryz.f15) (.node (.node (.node .nil (some Tryz.f143) .nil) (some Tryz.f79) .nil) none .nil)) (some Tryz.f7) (.node (.node (.node .nil (some Tryz.f71) .nil) (some Tryz.f39) (.node .nil (some Tryz.f103) .nil)) (some Tryz.f23) (.node (.node .nil (some Tryz.f87) .nil) (some Tryz.f55) (.node .nil (some Tryz.f119) .nil)))) (some Tryz.f3) (.node (.node (.node (.node .nil (some Tryz.f67) .nil) (some Tryz.f35) (.node .nil (some Tryz.f99) .nil)) (some Tryz.f19) (.node (.node (.node .nil (some Tryz.f147) .nil) none .nil) (some Tryz.f51) (.node .nil (some Tryz.f115) .nil))) (some Tryz.f11) (.node (.node (.node (.node .nil (some Tryz.f139) .nil) (some Tryz.f75) .nil) (some Tryz.f43) (.node .nil (some Tryz.f107) .nil)) (some Tryz.f27) (.node (.node .nil (some Tryz.f91) .nil) (some Tryz.f59) (.node .nil (some Tryz.f123) .nil))))) none (.node (.node (.node (.node (.node (.node .nil (some Tryz.f129) .nil) (some Tryz.f65) .nil) (some Tryz.f33) (.node .nil (some Tryz.f97) .nil)) (some Tryz.f17) (.node (.node (.node .nil (some Tryz.f145) .nil) (some Tryz.f81) .nil) (some Tryz.f49) (.node .nil (some Tryz.f113) .nil))) (some Tryz.f9) (.node (.node (.node (.node .nil (some Tryz.f137) .nil) (some Tryz.f73) .nil) (some Tryz.f41) (.node (.node .nil (some Tryz.f169) .nil) (some Tryz.f105) .nil)) (some Tryz.f25) (.node (.node .nil (some Tryz.f89) .nil) (some Tryz.f57) (.node .nil (some Tryz.f121) .nil)))) (some Tryz.f5) (.node (.node (.node (.node (.node .nil (some Tryz.f133) .nil) (some Tryz.f69) .nil) (some Tryz.f37) (.node .nil (some Tryz.f101) .nil)) (some Tryz.f21) (.node (.node (.node .nil (some Tryz.f149) .nil) (some Tryz.f85) .nil) (some Tryz.f53) (.node .nil (some Tryz.f117) .nil))) none (.node (.node (.node (.node .nil (some Tryz.f141) .nil) (some Tryz.f77) .nil) (some Tryz.f45) (.node .nil (some Tryz.f109) .nil)) (some Tryz.f29) (.node (.node .nil (some Tryz.f93) .nil) (some Tryz.f61) .nil))))) none (.node (.node (.node (.node (.node (.node (.node .nil (some Tryz.f128) .nil) (some Tryz.f64) .nil) (some Tryz.f32) (.node .nil (some Tryz.f96) .nil)) none (.node (.node (.node .nil (some Tryz.f144) .nil) (some Tryz.f80) .nil) none (.node .nil (some Tryz.f112) .nil))) (some Tryz.f8) (.node (.node (.node (.node .nil (some Tryz.f136) .nil) (some Tryz.f72) .nil) (some Tryz.f40) (.node .nil (some Tryz.f104) .nil)) (some Tryz.f24) (.node .nil (some Tryz.f56) (.node .nil (some Tryz.f120) .nil)))) (some Tryz.f4) (.node (.node (.node (.node (.node .nil (some Tryz.f132) .nil) (some Tryz.f68) .nil) (some Tryz.f36) (.node .nil (some Tryz.f100) .nil)) (some Tryz.f20) (.node (.node (.node .nil (some Tryz.f148) .nil) none .nil) (some Tryz.f52) (.node .nil (some Tryz.f116) .nil))) (some Tryz.f12) (.node (.node (.node (.node .nil (some Tryz.f140) .nil) (some Tryz.f76) .nil) (some Tryz.f44) (.node .nil (some Tryz.f108) .nil)) (some Tryz.f28) (.node (.node .nil (some Tryz.f92) .nil) (some Tryz.f60) (.node .nil (some Tryz.f124) .nil))))) none (.node (.node (.node (.node (.node (.node .nil (some Tryz.f130) .nil) (some Tryz.f66) .nil) (some Tryz.f34) (.node .nil (some Tryz.f98) .nil)) (some Tryz.f18) (.node (.node (.node .nil (some Tryz.f146) .nil) (some Tryz.f82) .nil) (some Tryz.f50) (.node .nil (some Tryz.f114) .nil))) (some Tryz.f10) (.node (.node (.node (.node .nil (some Tryz.f138) .nil) (some Tryz.f74) .nil) (some Tryz.f42) (.node .nil (some Tryz.f106) .nil)) (some Tryz.f26) (.node (.node .nil (some Tryz.f90) .nil) (some Tryz.f58) (.node .nil (some Tryz.f122) .nil)))) (some Tryz.f6) (.node (.node (.node (.node (.node .nil (some Tryz.f134) .nil) (some Tryz.f70) .nil) (some Tryz.f38) (.node .nil (some Tryz.f102) .nil)) (some Tryz.f22) (.node (.node .nil (some Tryz.f86) .nil) none (.node .nil (some Tryz.f118) .nil))) (some Tryz.f14) (.node (.node (.node (.node .nil (some Tryz.f142) .nil) (some Tryz.f78) .nil) none (.node .nil (some Tryz.f110) .nil)) (some Tryz.f30) (.node (.node .nil (some Tryz.f94) .nil) (some Tryz.f62) (.node .nil (some Tryz.f126) .nil)))))))
noncomputable def fl:List (Nat×Func):= [(3,Tryz.f3),(7,Tryz.f7),(15,Tryz.f15),(31,Tryz.f31),(63,Tryz.f63),(127,Tryz.f127),(191,Tryz.f191),(95,Tryz.f95),(79,Tryz.f79),(143,Tryz.f143),(23,Tryz.f23),(39,Tryz.f39),(71,Tryz.f71),(103,Tryz.f103),(55,Tryz.f55),(87,Tryz.f87),(119,Tryz.f119),(11,Tryz.f11),(19,Tryz.f19),(35,Tryz.f35),(67,Tryz.f67),(99,Tryz.f99),(51,Tryz.f51),(147,Tryz.f147),(115,Tryz.f115),(27,Tryz.f27),(43,Tryz.f43),(75,Tryz.f75),(139,Tryz.f139),(107,Tryz.f107),(59,Tryz.f59),(91,Tryz.f91),(123,Tryz.f123),(5,Tryz.f5),(9,Tryz.f9),(17,Tryz.f17),(33,Tryz.f33),(65,Tryz.f65),(129,Tryz.f129),(97,Tryz.f97),(49,Tryz.f49),(81,Tryz.f81),(145,Tryz.f145),(113,Tryz.f113),(25,Tryz.f25),(41,Tryz.f41),(73,Tryz.f73),(137,Tryz.f137),(105,Tryz.f105),(169,Tryz.f169),(57,Tryz.f57),(89,Tryz.f89),(121,Tryz.f121),(21,Tryz.f21),(37,Tryz.f37),(69,Tryz.f69),(133,Tryz.f133),(101,Tryz.f101),(53,Tryz.f53),(85,Tryz.f85),(149,Tryz.f149),(117,Tryz.f117),(29,Tryz.f29),(45,Tryz.f45),(77,Tryz.f77),(141,Tryz.f141),(109,Tryz.f109),(61,Tryz.f61),(93,Tryz.f93),(4,Tryz.f4),(8,Tryz.f8),(32,Tryz.f32),(64,Tryz.f64),(128,Tryz.f128),(96,Tryz.f96),(80,Tryz.f80),(144,Tryz.f144),(112,Tryz.f112),(24,Tryz.f24),(40,Tryz.f40),(72,Tryz.f72),(136,Tryz.f136),(104,Tryz.f104),(56,Tryz.f56),(120,Tryz.f120),(12,Tryz.f12),(20,Tryz.f20),(36,Tryz.f36),(68,Tryz.f68),(132,Tryz.f132),(100,Tryz.f100),(52,Tryz.f52),(148,Tryz.f148),(116,Tryz.f116),(28,Tryz.f28),(44,Tryz.f44),(76,Tryz.f76),(140,Tryz.f140),(108,Tryz.f108),(60,Tryz.f60),(92,Tryz.f92),(124,Tryz.f124),(6,Tryz.f6),(10,Tryz.f10),(18,Tryz.f18),(34,Tryz.f34),(66,Tryz.f66),(130,Tryz.f130),(98,Tryz.f98),(50,Tryz.f50),(82,Tryz.f82),(146,Tryz.f146),(114,Tryz.f114),(26,Tryz.f26),(42,Tryz.f42),(74,Tryz.f74),(138,Tryz.f138),(106,Tryz.f106),(58,Tryz.f58),(90,Tryz.f90),(122,Tryz.f122),(14,Tryz.f14),(22,Tryz.f22),(38,Tryz.f38),(70,Tryz.f70),(134,Tryz.f134),(102,Tryz.f102),(86,Tryz.f86),(118,Tryz.f118),(30,Tryz.f30),(78,Tryz.f78),(142,Tryz.f142),(110,Tryz.f110),(62,Tryz.f62),(94,Tryz.f94),(126,Tryz.f126)]
theorem AB2:ft.wN 1 0=fl:=by kernel_rfl
set_option maxRecDepth 100000 in
theorem ABR:∀p∈fl,Aq Tryz.prog p.1 p.2:=List.forall_mem_cons.2 ⟨uY,List.forall_mem_cons.2 ⟨ZK,List.forall_mem_cons.2 ⟨VD,List.forall_mem_cons.2 ⟨sM,List.forall_mem_cons.2 ⟨UK,List.forall_mem_cons.2 ⟨Qg,List.forall_mem_cons.2 ⟨js,List.forall_mem_cons.2 ⟨bn,List.forall_mem_cons.2 ⟨Us,List.forall_mem_cons.2 ⟨RP,List.forall_mem_cons.2 ⟨UI,List.forall_mem_cons.2 ⟨Vx,List.forall_mem_cons.2 ⟨qE,List.forall_mem_cons.2 ⟨QJ,List.forall_mem_cons.2 ⟨nh,List.forall_mem_cons.2 ⟨Ty,List.forall_mem_cons.2 ⟨Xp,List.forall_mem_cons.2 ⟨rH,List.forall_mem_cons.2 ⟨P1,List.forall_mem_cons.2 ⟨VO,List.forall_mem_cons.2 ⟨oy,List.forall_mem_cons.2 ⟨rD,List.forall_mem_cons.2 ⟨UP,List.forall_mem_cons.2 ⟨ie,List.forall_mem_cons.2 ⟨jl,List.forall_mem_cons.2 ⟨U6,List.forall_mem_cons.2 ⟨VG,List.forall_mem_cons.2 ⟨VH,List.forall_mem_cons.2 ⟨iW,List.forall_mem_cons.2 ⟨QO,List.forall_mem_cons.2 ⟨Vh,List.forall_mem_cons.2 ⟨oY,List.forall_mem_cons.2 ⟨kp,List.forall_mem_cons.2 ⟨uh,List.forall_mem_cons.2 ⟨Ym,List.forall_mem_cons.2 ⟨bK,List.forall_mem_cons.2 ⟨P2,List.forall_mem_cons.2 ⟨Tg,List.forall_mem_cons.2 ⟨Qp,List.forall_mem_cons.2 ⟨pT,List.forall_mem_cons.2 ⟨sW,List.forall_mem_cons.2 ⟨Vr,List.forall_mem_cons.2 ⟨lD,List.forall_mem_cons.2 ⟨jx,List.forall_mem_cons.2 ⟨bZ,List.forall_mem_cons.2 ⟨Ug,List.forall_mem_cons.2 ⟨bI,List.forall_mem_cons.2 ⟨jc,List.forall_mem_cons.2 ⟨QS,List.forall_mem_cons.2 ⟨jF,List.forall_mem_cons.2 ⟨UE,List.forall_mem_cons.2 ⟨oz,List.forall_mem_cons.2 ⟨gL,List.forall_mem_cons.2 ⟨Uk,List.forall_mem_cons.2 ⟨VY,List.forall_mem_cons.2 ⟨M7,List.forall_mem_cons.2 ⟨jT,List.forall_mem_cons.2 ⟨Xx,List.forall_mem_cons.2 ⟨qT,List.forall_mem_cons.2 ⟨ru,List.forall_mem_cons.2 ⟨RR,List.forall_mem_cons.2 ⟨jR,List.forall_mem_cons.2 ⟨nu,List.forall_mem_cons.2 ⟨Pu,List.forall_mem_cons.2 ⟨VA,List.forall_mem_cons.2 ⟨fS,List.forall_mem_cons.2 ⟨lu,List.forall_mem_cons.2 ⟨UU,List.forall_mem_cons.2 ⟨qw,List.forall_mem_cons.2 ⟨wb,List.forall_mem_cons.2 ⟨vd,List.forall_mem_cons.2 ⟨pw,List.forall_mem_cons.2 ⟨Ux,List.forall_mem_cons.2 ⟨Qr,List.forall_mem_cons.2 ⟨VM,List.forall_mem_cons.2 ⟨pg,List.forall_mem_cons.2 ⟨j7,List.forall_mem_cons.2 ⟨fm,List.forall_mem_cons.2 ⟨VK,List.forall_mem_cons.2 ⟨Uw,List.forall_mem_cons.2 ⟨qF,List.forall_mem_cons.2 ⟨lr,List.forall_mem_cons.2 ⟨Q3,List.forall_mem_cons.2 ⟨VR,List.forall_mem_cons.2 ⟨iU,List.forall_mem_cons.2 ⟨UR,List.forall_mem_cons.2 ⟨aq,List.forall_mem_cons.2 ⟨bD,List.forall_mem_cons.2 ⟨rZ,List.forall_mem_cons.2 ⟨lL,List.forall_mem_cons.2 ⟨j0,List.forall_mem_cons.2 ⟨qH,List.forall_mem_cons.2 ⟨gx,List.forall_mem_cons.2 ⟨fM,List.forall_mem_cons.2 ⟨a8,List.forall_mem_cons.2 ⟨bS,List.forall_mem_cons.2 ⟨Tt,List.forall_mem_cons.2 ⟨gK,List.forall_mem_cons.2 ⟨jK,List.forall_mem_cons.2 ⟨UQ,List.forall_mem_cons.2 ⟨sF,List.forall_mem_cons.2 ⟨la,List.forall_mem_cons.2 ⟨wH,List.forall_mem_cons.2 ⟨qk,List.forall_mem_cons.2 ⟨sI,List.forall_mem_cons.2 ⟨Px,List.forall_mem_cons.2 ⟨ba,List.forall_mem_cons.2 ⟨jS,List.forall_mem_cons.2 ⟨qU,List.forall_mem_cons.2 ⟨sa,List.forall_mem_cons.2 ⟨pn,List.forall_mem_cons.2 ⟨mF,List.forall_mem_cons.2 ⟨fH,List.forall_mem_cons.2 ⟨bE,List.forall_mem_cons.2 ⟨bV,List.forall_mem_cons.2 ⟨Tz,List.forall_mem_cons.2 ⟨lI,List.forall_mem_cons.2 ⟨Q6,List.forall_mem_cons.2 ⟨JW,List.forall_mem_cons.2 ⟨pM,List.forall_mem_cons.2 ⟨gH,List.forall_mem_cons.2 ⟨pj,List.forall_mem_cons.2 ⟨Uh,List.forall_mem_cons.2 ⟨Vw,List.forall_mem_cons.2 ⟨qS,List.forall_mem_cons.2 ⟨fk,List.forall_mem_cons.2 ⟨ik,List.forall_mem_cons.2 ⟨U2,List.forall_mem_cons.2 ⟨jf,List.forall_mem_cons.2 ⟨VF,List.forall_mem_cons.2 ⟨UO,List.forall_mem_cons.2 ⟨gy,List.forall_mem_cons.2 ⟨jG,List.forall_mem_cons.2 ⟨Vd,List.forall_mem_cons.2 ⟨aL,List.forall_mem_cons.2 ⟨QT,(fun _ h=>by cases h)⟩⟩⟩⟩⟩⟩⟩⟩⟩⟩⟩⟩⟩⟩⟩⟩⟩⟩⟩⟩⟩⟩⟩⟩⟩⟩⟩⟩⟩⟩⟩⟩⟩⟩⟩⟩⟩⟩⟩⟩⟩⟩⟩⟩⟩⟩⟩⟩⟩⟩⟩⟩⟩⟩⟩⟩⟩⟩⟩⟩⟩⟩⟩⟩⟩⟩⟩⟩⟩⟩⟩⟩⟩⟩⟩⟩⟩⟩⟩⟩⟩⟩⟩⟩⟩⟩⟩⟩⟩⟩⟩⟩⟩⟩⟩⟩⟩⟩⟩⟩⟩⟩⟩⟩⟩⟩⟩⟩⟩⟩⟩⟩⟩⟩⟩⟩⟩⟩⟩⟩⟩⟩⟩⟩⟩⟩⟩⟩⟩⟩⟩⟩⟩⟩⟩⟩
theorem ABH:∀f fn,ft.get f=some fn→Aq Tryz.prog f fn:=fun k i h=>ABR (k,i) (AB2 ▸ T.af h)
noncomputable def run (lf d:Nat):Go.Dm.Callee:=Rp tt.get ft.get (fun cl=>draw tt.get cl) lf d
theorem env (lf d:Nat):Env Tryz.prog tt.get (run lf d):=nH BA ABH (fun cl E=>sd cl E) lf d
end Go.Proofs.YthlhnangbinhoaaGreatDoor.Dm
