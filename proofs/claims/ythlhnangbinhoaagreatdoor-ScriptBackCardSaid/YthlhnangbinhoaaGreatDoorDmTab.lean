/- The types and the functions of this translation as the abstract machine has them, and that they are the program's own. -/
import Derived.Test.YthlhnangbinhoaaGreatDoorDmD
import Derived.Test.YthlhnangbinhoaaGreatDoorRows
namespace Go.Proofs.YthlhnangbinhoaaGreatDoor.Dm
open Go.Dm
noncomputable def ti2:TI:= {ud:= .int .i64,size:=1,bytes:=8,zero:=(.int .i64 (0)),cmp:=false}
theorem vX:Be Tryz.prog 2 ti2:=Be.of (by kernel_rfl) (by kernel_rfl) (by kernel_rfl) (by kernel_rfl) (by intro h;cases h)
noncomputable def NQ:TI:= {ud:= .int .i64,size:=1,bytes:=8,zero:=(.int .i64 (0)),cmp:=true}
theorem vx:Be Tryz.prog 3 NQ:=Be.of (by kernel_rfl) (by kernel_rfl) (by kernel_rfl) (by kernel_rfl) (fun _=>⟨by kernel_rfl,by kernel_rfl⟩)
noncomputable def yh:TI:= {ud:= .bool,size:=1,bytes:=1,zero:=(.bool false),cmp:=true}
theorem xU:Be Tryz.prog 4 yh:=Be.of (by kernel_rfl) (by kernel_rfl) (by kernel_rfl) (by kernel_rfl) (fun _=>⟨by kernel_rfl,by kernel_rfl⟩)
noncomputable def uM:TI:= {ud:= .int .u8,size:=1,bytes:=1,zero:=(.int .u8 (0)),cmp:=true}
theorem ve:Be Tryz.prog 5 uM:=Be.of (by kernel_rfl) (by kernel_rfl) (by kernel_rfl) (by kernel_rfl) (fun _=>⟨by kernel_rfl,by kernel_rfl⟩)
noncomputable def rU:TI:= {ud:= .string,size:=1,bytes:=16,zero:=(.string ⟨⟨[]⟩⟩),cmp:=true}
theorem um:Be Tryz.prog 9 rU:=Be.of (by kernel_rfl) (by kernel_rfl) (by kernel_rfl) (by kernel_rfl) (fun _=>⟨by kernel_rfl,by kernel_rfl⟩)
noncomputable def qm:TI:= {ud:= .pointer 274,size:=1,bytes:=8,zero:=(.pointer none),cmp:=false}
theorem sQ:Be Tryz.prog 17 qm:=Be.of (by kernel_rfl) (by kernel_rfl) (by kernel_rfl) (by kernel_rfl) (by intro h;cases h)
noncomputable def Zb:TI:= {ud:= .interface #[],size:=1,bytes:=16,zero:= .nilIface,cmp:=true}
theorem pg:Be Tryz.prog 20 Zb:=Be.of (by kernel_rfl) (by kernel_rfl) (by kernel_rfl) (by kernel_rfl) (fun _=>⟨by kernel_rfl,by kernel_rfl⟩)
noncomputable def qL:TI:= {ud:= .int .i32,size:=1,bytes:=4,zero:=(.int .i32 (0)),cmp:=true}
theorem nc:Be Tryz.prog 21 qL:=Be.of (by kernel_rfl) (by kernel_rfl) (by kernel_rfl) (by kernel_rfl) (fun _=>⟨by kernel_rfl,by kernel_rfl⟩)
noncomputable def Yk:TI:= {ud:= .slice 79,size:=1,bytes:=24,zero:=(.slice none 0 0),cmp:=false}
theorem oh:Be Tryz.prog 22 Yk:=Be.of (by kernel_rfl) (by kernel_rfl) (by kernel_rfl) (by kernel_rfl) (by intro h;cases h)
noncomputable def Yz:TI:= {ud:= .slice 81,size:=1,bytes:=24,zero:=(.slice none 0 0),cmp:=false}
theorem sM:Be Tryz.prog 23 Yz:=Be.of (by kernel_rfl) (by kernel_rfl) (by kernel_rfl) (by kernel_rfl) (by intro h;cases h)
noncomputable def Yh:TI:= {ud:= .slice 83,size:=1,bytes:=24,zero:=(.slice none 0 0),cmp:=false}
theorem rK:Be Tryz.prog 24 Yh:=Be.of (by kernel_rfl) (by kernel_rfl) (by kernel_rfl) (by kernel_rfl) (by intro h;cases h)
noncomputable def ma:TI:= {ud:= .struct #[{name:= "Width",type:=3,offset:=0,embedded:=false,tag:= "",pkgPath:= "",byteOffset:=0}, {name:= "Again",type:=3,offset:=1,embedded:=false,tag:= "",pkgPath:= "",byteOffset:=8}, {name:= "Wait",type:=3,offset:=2,embedded:=false,tag:= "",pkgPath:= "",byteOffset:=16}, {name:= "Late",type:=3,offset:=3,embedded:=false,tag:= "",pkgPath:= "",byteOffset:=24}, {name:= "Routers",type:=22,offset:=4,embedded:=false,tag:= "",pkgPath:= "",byteOffset:=32}, {name:= "Links",type:=23,offset:=5,embedded:=false,tag:= "",pkgPath:= "",byteOffset:=56}, {name:= "Rules",type:=24,offset:=6,embedded:=false,tag:= "",pkgPath:= "",byteOffset:=80}],size:=7,bytes:=104,zero:=(.agg ⟨[(.int .i64 (0)),(.int .i64 (0)),(.int .i64 (0)),(.int .i64 (0)),(.slice none 0 0),(.slice none 0 0),(.slice none 0 0)]⟩),cmp:=false}
theorem p7:Be Tryz.prog 26 ma:=Be.of (by kernel_rfl) (by kernel_rfl) (by kernel_rfl) (by kernel_rfl) (by intro h;cases h)
noncomputable def YE:TI:= {ud:= .slice 43,size:=1,bytes:=24,zero:=(.slice none 0 0),cmp:=false}
theorem nr:Be Tryz.prog 27 YE:=Be.of (by kernel_rfl) (by kernel_rfl) (by kernel_rfl) (by kernel_rfl) (by intro h;cases h)
noncomputable def kP:TI:= {ud:= .struct #[{name:= "Setup",type:=26,offset:=0,embedded:=false,tag:= "",pkgPath:= "",byteOffset:=0}, {name:= "Ops",type:=27,offset:=7,embedded:=false,tag:= "",pkgPath:= "",byteOffset:=104}],size:=8,bytes:=128,zero:=(.agg ⟨[(.int .i64 (0)),(.int .i64 (0)),(.int .i64 (0)),(.int .i64 (0)),(.slice none 0 0),(.slice none 0 0),(.slice none 0 0),(.slice none 0 0)]⟩),cmp:=false}
theorem qo:Be Tryz.prog 29 kP:=Be.of (by kernel_rfl) (by kernel_rfl) (by kernel_rfl) (by kernel_rfl) (by intro h;cases h)
noncomputable def dE:TI:= {ud:= .int .i64,size:=1,bytes:=8,zero:=(.int .i64 (0)),cmp:=true}
theorem oW:Be Tryz.prog 30 dE:=Be.of (by kernel_rfl) (by kernel_rfl) (by kernel_rfl) (by kernel_rfl) (fun _=>⟨by kernel_rfl,by kernel_rfl⟩)
noncomputable def Zt:TI:= {ud:= .slice 47,size:=1,bytes:=24,zero:=(.slice none 0 0),cmp:=false}
theorem sU:Be Tryz.prog 36 Zt:=Be.of (by kernel_rfl) (by kernel_rfl) (by kernel_rfl) (by kernel_rfl) (by intro h;cases h)
noncomputable def Ur:TI:= {ud:= .interface #[("Error",85)],size:=1,bytes:=16,zero:= .nilIface,cmp:=false}
theorem oI:Be Tryz.prog 38 Ur:=Be.of (by kernel_rfl) (by kernel_rfl) (by kernel_rfl) (by kernel_rfl) (by intro h;cases h)
noncomputable def ZO:TI:= {ud:= .int .u32,size:=1,bytes:=4,zero:=(.int .u32 (0)),cmp:=true}
theorem ss:Be Tryz.prog 41 ZO:=Be.of (by kernel_rfl) (by kernel_rfl) (by kernel_rfl) (by kernel_rfl) (fun _=>⟨by kernel_rfl,by kernel_rfl⟩)
noncomputable def S8:TI:= {ud:= .struct #[{name:= "Kind",type:=3,offset:=0,embedded:=false,tag:= "",pkgPath:= "",byteOffset:=0}, {name:= "Router",type:=3,offset:=1,embedded:=false,tag:= "",pkgPath:= "",byteOffset:=8}, {name:= "Peer",type:=3,offset:=2,embedded:=false,tag:= "",pkgPath:= "",byteOffset:=16}, {name:= "Group",type:=3,offset:=3,embedded:=false,tag:= "",pkgPath:= "",byteOffset:=24}, {name:= "Entropy",type:=41,offset:=4,embedded:=false,tag:= "",pkgPath:= "",byteOffset:=32}, {name:= "Ticks",type:=3,offset:=5,embedded:=false,tag:= "",pkgPath:= "",byteOffset:=40}, {name:= "Bytes",type:=9,offset:=6,embedded:=false,tag:= "",pkgPath:= "",byteOffset:=48}],size:=7,bytes:=64,zero:=(.agg ⟨[(.int .i64 (0)),(.int .i64 (0)),(.int .i64 (0)),(.int .i64 (0)),(.int .u32 (0)),(.int .i64 (0)),(.string ⟨⟨[]⟩⟩)]⟩),cmp:=true}
theorem ot:Be Tryz.prog 43 S8:=Be.of (by kernel_rfl) (by kernel_rfl) (by kernel_rfl) (by kernel_rfl) (fun _=>⟨by kernel_rfl,by kernel_rfl⟩)
noncomputable def mC:TI:= {ud:= .int .u16,size:=1,bytes:=2,zero:=(.int .u16 (0)),cmp:=false}
theorem sX:Be Tryz.prog 45 mC:=Be.of (by kernel_rfl) (by kernel_rfl) (by kernel_rfl) (by kernel_rfl) (by intro h;cases h)
noncomputable def dN:TI:= {ud:= .struct #[{name:= "Kind",type:=5,offset:=0,embedded:=false,tag:= "",pkgPath:= "",byteOffset:=0}, {name:= "Router",type:=5,offset:=1,embedded:=false,tag:= "",pkgPath:= "",byteOffset:=1}, {name:= "Peer",type:=5,offset:=2,embedded:=false,tag:= "",pkgPath:= "",byteOffset:=2}, {name:= "Group",type:=5,offset:=3,embedded:=false,tag:= "",pkgPath:= "",byteOffset:=3}, {name:= "Ticks",type:=45,offset:=4,embedded:=false,tag:= "",pkgPath:= "",byteOffset:=4}, {name:= "Entropy",type:=41,offset:=5,embedded:=false,tag:= "",pkgPath:= "",byteOffset:=8}, {name:= "Bytes",type:=9,offset:=6,embedded:=false,tag:= "",pkgPath:= "",byteOffset:=16}],size:=7,bytes:=32,zero:=(.agg ⟨[(.int .u8 (0)),(.int .u8 (0)),(.int .u8 (0)),(.int .u8 (0)),(.int .u16 (0)),(.int .u32 (0)),(.string ⟨⟨[]⟩⟩)]⟩),cmp:=false}
theorem qi:Be Tryz.prog 47 dN:=Be.of (by kernel_rfl) (by kernel_rfl) (by kernel_rfl) (by kernel_rfl) (by intro h;cases h)
noncomputable def Wz:TI:= {ud:= .pointer 55,size:=1,bytes:=8,zero:=(.pointer none),cmp:=true}
theorem pM:Be Tryz.prog 51 Wz:=Be.of (by kernel_rfl) (by kernel_rfl) (by kernel_rfl) (by kernel_rfl) (fun _=>⟨by kernel_rfl,by kernel_rfl⟩)
noncomputable def di:TI:= {ud:= .pointer 51,size:=1,bytes:=8,zero:=(.pointer none),cmp:=false}
theorem ou:Be Tryz.prog 53 di:=Be.of (by kernel_rfl) (by kernel_rfl) (by kernel_rfl) (by kernel_rfl) (by intro h;cases h)
noncomputable def la:TI:= {ud:= .struct #[{name:= "Code",type:=30,offset:=0,embedded:=false,tag:= "",pkgPath:= "",byteOffset:=0}, {name:= "At",type:=3,offset:=1,embedded:=false,tag:= "",pkgPath:= "",byteOffset:=8}],size:=2,bytes:=16,zero:=(.agg ⟨[(.int .i64 (0)),(.int .i64 (0))]⟩),cmp:=false}
theorem sn:Be Tryz.prog 55 la:=Be.of (by kernel_rfl) (by kernel_rfl) (by kernel_rfl) (by kernel_rfl) (by intro h;cases h)
noncomputable def vk:TI:= {ud:= .struct #[{name:= "Code",type:=30,offset:=0,embedded:=false,tag:= "",pkgPath:= "",byteOffset:=0}, {name:= "At",type:=3,offset:=1,embedded:=false,tag:= "",pkgPath:= "",byteOffset:=8}],size:=2,bytes:=16,zero:=(.agg ⟨[(.int .i64 (0)),(.int .i64 (0))]⟩),cmp:=false}
theorem pq:Be Tryz.prog 57 vk:=Be.of (by kernel_rfl) (by kernel_rfl) (by kernel_rfl) (by kernel_rfl) (by intro h;cases h)
noncomputable def Xz:TI:= {ud:= .slice 9,size:=1,bytes:=24,zero:=(.slice none 0 0),cmp:=false}
theorem qD:Be Tryz.prog 67 Xz:=Be.of (by kernel_rfl) (by kernel_rfl) (by kernel_rfl) (by kernel_rfl) (by intro h;cases h)
noncomputable def VI:TI:= {ud:= .slice 3,size:=1,bytes:=24,zero:=(.slice none 0 0),cmp:=true}
theorem rI:Be Tryz.prog 68 VI:=Be.of (by kernel_rfl) (by kernel_rfl) (by kernel_rfl) (by kernel_rfl) (fun _=>⟨by kernel_rfl,by kernel_rfl⟩)
noncomputable def Ud:TI:= {ud:= .slice 5,size:=1,bytes:=24,zero:=(.slice none 0 0),cmp:=false}
theorem qB:Be Tryz.prog 69 Ud:=Be.of (by kernel_rfl) (by kernel_rfl) (by kernel_rfl) (by kernel_rfl) (by intro h;cases h)
noncomputable def pD:TI:= {ud:= .pointer 73,size:=1,bytes:=8,zero:=(.pointer none),cmp:=true}
theorem pK:Be Tryz.prog 71 pD:=Be.of (by kernel_rfl) (by kernel_rfl) (by kernel_rfl) (by kernel_rfl) (fun _=>⟨by kernel_rfl,by kernel_rfl⟩)
noncomputable def lS:TI:= {ud:= .struct #[{name:= "addr",type:=71,offset:=0,embedded:=false,tag:= "",pkgPath:= "strings",byteOffset:=0}, {name:= "buf",type:=69,offset:=1,embedded:=false,tag:= "",pkgPath:= "strings",byteOffset:=8}],size:=2,bytes:=32,zero:=(.agg ⟨[(.pointer none),(.slice none 0 0)]⟩),cmp:=false}
theorem pJ:Be Tryz.prog 73 lS:=Be.of (by kernel_rfl) (by kernel_rfl) (by kernel_rfl) (by kernel_rfl) (by intro h;cases h)
noncomputable def Ym:TI:= {ud:= .struct #[{name:= "Self",type:=3,offset:=0,embedded:=false,tag:= "",pkgPath:= "",byteOffset:=0}, {name:= "Claim",type:=3,offset:=1,embedded:=false,tag:= "",pkgPath:= "",byteOffset:=8}, {name:= "Ingress",type:=4,offset:=2,embedded:=false,tag:= "",pkgPath:= "",byteOffset:=16}],size:=3,bytes:=24,zero:=(.agg ⟨[(.int .i64 (0)),(.int .i64 (0)),(.bool false)]⟩),cmp:=true}
theorem oa:Be Tryz.prog 79 Ym:=Be.of (by kernel_rfl) (by kernel_rfl) (by kernel_rfl) (by kernel_rfl) (fun _=>⟨by kernel_rfl,by kernel_rfl⟩)
noncomputable def ZD:TI:= {ud:= .struct #[{name:= "A",type:=3,offset:=0,embedded:=false,tag:= "",pkgPath:= "",byteOffset:=0}, {name:= "B",type:=3,offset:=1,embedded:=false,tag:= "",pkgPath:= "",byteOffset:=8}, {name:= "Cost",type:=3,offset:=2,embedded:=false,tag:= "",pkgPath:= "",byteOffset:=16}],size:=3,bytes:=24,zero:=(.agg ⟨[(.int .i64 (0)),(.int .i64 (0)),(.int .i64 (0))]⟩),cmp:=true}
theorem r9:Be Tryz.prog 81 ZD:=Be.of (by kernel_rfl) (by kernel_rfl) (by kernel_rfl) (by kernel_rfl) (fun _=>⟨by kernel_rfl,by kernel_rfl⟩)
noncomputable def Wy:TI:= {ud:= .struct #[{name:= "From",type:=3,offset:=0,embedded:=false,tag:= "",pkgPath:= "",byteOffset:=0}, {name:= "To",type:=3,offset:=1,embedded:=false,tag:= "",pkgPath:= "",byteOffset:=8}, {name:= "Nth",type:=3,offset:=2,embedded:=false,tag:= "",pkgPath:= "",byteOffset:=16}, {name:= "Kind",type:=3,offset:=3,embedded:=false,tag:= "",pkgPath:= "",byteOffset:=24}, {name:= "By",type:=3,offset:=4,embedded:=false,tag:= "",pkgPath:= "",byteOffset:=32}],size:=5,bytes:=40,zero:=(.agg ⟨[(.int .i64 (0)),(.int .i64 (0)),(.int .i64 (0)),(.int .i64 (0)),(.int .i64 (0))]⟩),cmp:=true}
theorem rY:Be Tryz.prog 83 Wy:=Be.of (by kernel_rfl) (by kernel_rfl) (by kernel_rfl) (by kernel_rfl) (fun _=>⟨by kernel_rfl,by kernel_rfl⟩)
noncomputable def sG:TI:= {ud:= .pointer 26,size:=1,bytes:=8,zero:=(.pointer none),cmp:=false}
theorem sr:Be Tryz.prog 98 sG:=Be.of (by kernel_rfl) (by kernel_rfl) (by kernel_rfl) (by kernel_rfl) (by intro h;cases h)
noncomputable def Xw:TI:= {ud:= .struct #[{name:= "kind",type:=3,offset:=0,embedded:=false,tag:= "",pkgPath:= "dandelion/script",byteOffset:=0}, {name:= "word",type:=9,offset:=1,embedded:=false,tag:= "",pkgPath:= "dandelion/script",byteOffset:=8}, {name:= "fields",type:=3,offset:=2,embedded:=false,tag:= "",pkgPath:= "dandelion/script",byteOffset:=24}],size:=3,bytes:=32,zero:=(.agg ⟨[(.int .i64 (0)),(.string ⟨⟨[]⟩⟩),(.int .i64 (0))]⟩),cmp:=false}
theorem jD:Be Tryz.prog 100 Xw:=Be.of (by kernel_rfl) (by kernel_rfl) (by kernel_rfl) (by kernel_rfl) (by intro h;cases h)
noncomputable def YL:TI:= {ud:= .array 12 100,size:=36,bytes:=384,zero:=(.agg ⟨([(.int .i64 (0))] ++ [(.string ⟨⟨[]⟩⟩)] ++ [(.int .i64 (0)),(.int .i64 (0))] ++ [(.string ⟨⟨[]⟩⟩)] ++ [(.int .i64 (0)),(.int .i64 (0))] ++ [(.string ⟨⟨[]⟩⟩)] ++ [(.int .i64 (0)),(.int .i64 (0))] ++ [(.string ⟨⟨[]⟩⟩)] ++ [(.int .i64 (0)),(.int .i64 (0))] ++ [(.string ⟨⟨[]⟩⟩)] ++ [(.int .i64 (0)),(.int .i64 (0))] ++ [(.string ⟨⟨[]⟩⟩)] ++ [(.int .i64 (0)),(.int .i64 (0))] ++ [(.string ⟨⟨[]⟩⟩)] ++ [(.int .i64 (0)),(.int .i64 (0))] ++ [(.string ⟨⟨[]⟩⟩)] ++ [(.int .i64 (0)),(.int .i64 (0))] ++ [(.string ⟨⟨[]⟩⟩)] ++ [(.int .i64 (0)),(.int .i64 (0))] ++ [(.string ⟨⟨[]⟩⟩)] ++ [(.int .i64 (0)),(.int .i64 (0))] ++ [(.string ⟨⟨[]⟩⟩)] ++ [(.int .i64 (0)),(.int .i64 (0))] ++ [(.string ⟨⟨[]⟩⟩)] ++ [(.int .i64 (0))])⟩),cmp:=false}
theorem hJ:Be Tryz.prog 101 YL:=Be.of (by kernel_rfl) (by kernel_rfl) (by kernel_rfl) (by kernel_rfl) (by intro h;cases h)
noncomputable def bB:TI:= {ud:= .int .u64,size:=1,bytes:=8,zero:=(.int .u64 (0)),cmp:=false}
theorem kL:Be Tryz.prog 104 bB:=Be.of (by kernel_rfl) (by kernel_rfl) (by kernel_rfl) (by kernel_rfl) (by intro h;cases h)
noncomputable def XN:TI:= {ud:= .int .u64,size:=1,bytes:=8,zero:=(.int .u64 (0)),cmp:=true}
theorem ka:Be Tryz.prog 106 XN:=Be.of (by kernel_rfl) (by kernel_rfl) (by kernel_rfl) (by kernel_rfl) (fun _=>⟨by kernel_rfl,by kernel_rfl⟩)
noncomputable def aJ:TI:= {ud:= .int .u64,size:=1,bytes:=8,zero:=(.int .u64 (0)),cmp:=false}
theorem gm:Be Tryz.prog 110 aJ:=Be.of (by kernel_rfl) (by kernel_rfl) (by kernel_rfl) (by kernel_rfl) (by intro h;cases h)
noncomputable def ba:TI:= {ud:= .struct #[{name:= "typ_",type:=17,offset:=0,embedded:=false,tag:= "",pkgPath:= "internal/reflectlite",byteOffset:=0}, {name:= "ptr",type:=109,offset:=1,embedded:=false,tag:= "",pkgPath:= "internal/reflectlite",byteOffset:=8}, {name:= "flag",type:=110,offset:=2,embedded:=true,tag:= "",pkgPath:= "internal/reflectlite",byteOffset:=16}],size:=3,bytes:=24,zero:=(.agg ⟨[(.pointer none),(.pointer none),(.int .u64 (0))]⟩),cmp:=false}
theorem me:Be Tryz.prog 112 ba:=Be.of (by kernel_rfl) (by kernel_rfl) (by kernel_rfl) (by kernel_rfl) (by intro h;cases h)
noncomputable def aG:TI:= {ud:= .interface #[("AssignableTo",119),("Comparable",34),("Elem",116),("Implements",119),("Kind",118),("Name",85),("PkgPath",85),("Size",275),("String",85),("internal/reflectlite.common",268),("internal/reflectlite.uncommon",276)],size:=1,bytes:=16,zero:= .nilIface,cmp:=false}
theorem l7:Be Tryz.prog 115 aG:=Be.of (by kernel_rfl) (by kernel_rfl) (by kernel_rfl) (by kernel_rfl) (by intro h;cases h)
noncomputable def bx:TI:= {ud:= .int .u8,size:=1,bytes:=1,zero:=(.int .u8 (0)),cmp:=true}
theorem ij:Be Tryz.prog 117 bx:=Be.of (by kernel_rfl) (by kernel_rfl) (by kernel_rfl) (by kernel_rfl) (fun _=>⟨by kernel_rfl,by kernel_rfl⟩)
noncomputable def UC:TI:= {ud:= .map 3 3,size:=1,bytes:=8,zero:=(.map none),cmp:=false}
theorem mv:Be Tryz.prog 136 UC:=Be.of (by kernel_rfl) (by kernel_rfl) (by kernel_rfl) (by kernel_rfl) (by intro h;cases h)
noncomputable def a7:TI:= {ud:= .pointer 5,size:=1,bytes:=8,zero:=(.pointer none),cmp:=false}
theorem lu:Be Tryz.prog 137 a7:=Be.of (by kernel_rfl) (by kernel_rfl) (by kernel_rfl) (by kernel_rfl) (by intro h;cases h)
noncomputable def R8:TI:= {ud:= .struct #[{name:= "code",type:=30,offset:=0,embedded:=false,tag:= "",pkgPath:= "dandelion/script",byteOffset:=0}],size:=1,bytes:=8,zero:=(.agg ⟨[(.int .i64 (0))]⟩),cmp:=false}
theorem gb:Be Tryz.prog 143 R8:=Be.of (by kernel_rfl) (by kernel_rfl) (by kernel_rfl) (by kernel_rfl) (by intro h;cases h)
noncomputable def bZ:TI:= {ud:= .interface #[("As",156)],size:=1,bytes:=16,zero:= .nilIface,cmp:=false}
theorem mg:Be Tryz.prog 154 bZ:=Be.of (by kernel_rfl) (by kernel_rfl) (by kernel_rfl) (by kernel_rfl) (by intro h;cases h)
noncomputable def bb:TI:= {ud:= .interface #[("Unwrap",158)],size:=1,bytes:=16,zero:= .nilIface,cmp:=false}
theorem hZ:Be Tryz.prog 157 bb:=Be.of (by kernel_rfl) (by kernel_rfl) (by kernel_rfl) (by kernel_rfl) (by intro h;cases h)
noncomputable def aZ:TI:= {ud:= .interface #[("Unwrap",161)],size:=1,bytes:=16,zero:= .nilIface,cmp:=false}
theorem kM:Be Tryz.prog 159 aZ:=Be.of (by kernel_rfl) (by kernel_rfl) (by kernel_rfl) (by kernel_rfl) (by intro h;cases h)
noncomputable def ae:TI:= {ud:= .slice 38,size:=1,bytes:=24,zero:=(.slice none 0 0),cmp:=false}
theorem jR:Be Tryz.prog 160 ae:=Be.of (by kernel_rfl) (by kernel_rfl) (by kernel_rfl) (by kernel_rfl) (by intro h;cases h)
noncomputable def bm:TI:= {ud:= .interface #[("Is",166)],size:=1,bytes:=16,zero:= .nilIface,cmp:=false}
theorem i7:Be Tryz.prog 164 bm:=Be.of (by kernel_rfl) (by kernel_rfl) (by kernel_rfl) (by kernel_rfl) (by intro h;cases h)
noncomputable def cE:TI:= {ud:= .array 24 5,size:=24,bytes:=24,zero:=(.agg ⟨(Dp 24 (.int .u8 (0)))⟩),cmp:=false}
theorem jS:Be Tryz.prog 177 cE:=Be.of (by kernel_rfl) (by kernel_rfl) (by kernel_rfl) (by kernel_rfl) (by intro h;cases h)
noncomputable def R1:TI:= {ud:= .slice 233,size:=1,bytes:=24,zero:=(.slice none 0 0),cmp:=false}
theorem kY:Be Tryz.prog 183 R1:=Be.of (by kernel_rfl) (by kernel_rfl) (by kernel_rfl) (by kernel_rfl) (by intro h;cases h)
noncomputable def Wv:TI:= {ud:= .struct #[{name:= "Nodes",type:=68,offset:=0,embedded:=false,tag:= "",pkgPath:= "",byteOffset:=0}, {name:= "Edges",type:=183,offset:=1,embedded:=false,tag:= "",pkgPath:= "",byteOffset:=24}],size:=2,bytes:=48,zero:=(.agg ⟨[(.slice none 0 0),(.slice none 0 0)]⟩),cmp:=false}
theorem nE:Be Tryz.prog 185 Wv:=Be.of (by kernel_rfl) (by kernel_rfl) (by kernel_rfl) (by kernel_rfl) (by intro h;cases h)
noncomputable def Wx:TI:= {ud:= .pointer 227,size:=1,bytes:=8,zero:=(.pointer none),cmp:=false}
theorem jy:Be Tryz.prog 188 Wx:=Be.of (by kernel_rfl) (by kernel_rfl) (by kernel_rfl) (by kernel_rfl) (by intro h;cases h)
noncomputable def T3:TI:= {ud:= .map 202 3,size:=1,bytes:=8,zero:=(.map none),cmp:=false}
theorem iq:Be Tryz.prog 192 T3:=Be.of (by kernel_rfl) (by kernel_rfl) (by kernel_rfl) (by kernel_rfl) (by intro h;cases h)
noncomputable def TA:TI:= {ud:= .map 202 4,size:=1,bytes:=8,zero:=(.map none),cmp:=false}
theorem lE:Be Tryz.prog 193 TA:=Be.of (by kernel_rfl) (by kernel_rfl) (by kernel_rfl) (by kernel_rfl) (by intro h;cases h)
noncomputable def TW:TI:= {ud:= .map 3 4,size:=1,bytes:=8,zero:=(.map none),cmp:=false}
theorem fY:Be Tryz.prog 194 TW:=Be.of (by kernel_rfl) (by kernel_rfl) (by kernel_rfl) (by kernel_rfl) (by intro h;cases h)
noncomputable def W1:TI:= {ud:= .pointer 230,size:=1,bytes:=8,zero:=(.pointer none),cmp:=false}
theorem lM:Be Tryz.prog 195 W1:=Be.of (by kernel_rfl) (by kernel_rfl) (by kernel_rfl) (by kernel_rfl) (by intro h;cases h)
noncomputable def bE:TI:= {ud:= .struct #[{name:= "From",type:=3,offset:=0,embedded:=false,tag:= "",pkgPath:= "",byteOffset:=0}, {name:= "To",type:=3,offset:=1,embedded:=false,tag:= "",pkgPath:= "",byteOffset:=8}, {name:= "Bytes",type:=9,offset:=2,embedded:=false,tag:= "",pkgPath:= "",byteOffset:=16}],size:=3,bytes:=32,zero:=(.agg ⟨[(.int .i64 (0)),(.int .i64 (0)),(.string ⟨⟨[]⟩⟩)]⟩),cmp:=false}
theorem nC:Be Tryz.prog 198 bE:=Be.of (by kernel_rfl) (by kernel_rfl) (by kernel_rfl) (by kernel_rfl) (by intro h;cases h)
noncomputable def X3:TI:= {ud:= .struct #[{name:= "routers",type:=68,offset:=0,embedded:=false,tag:= "",pkgPath:= "dandelion/net",byteOffset:=0}, {name:= "links",type:=192,offset:=1,embedded:=false,tag:= "",pkgPath:= "dandelion/net",byteOffset:=24}, {name:= "cut",type:=193,offset:=2,embedded:=false,tag:= "",pkgPath:= "dandelion/net",byteOffset:=32}, {name:= "stopped",type:=194,offset:=3,embedded:=false,tag:= "",pkgPath:= "dandelion/net",byteOffset:=40}, {name:= "plan",type:=188,offset:=4,embedded:=false,tag:= "",pkgPath:= "dandelion/net",byteOffset:=48}, {name:= "late",type:=106,offset:=5,embedded:=false,tag:= "",pkgPath:= "dandelion/net",byteOffset:=56}, {name:= "now",type:=106,offset:=6,embedded:=false,tag:= "",pkgPath:= "dandelion/net",byteOffset:=64}, {name:= "ways",type:=195,offset:=7,embedded:=false,tag:= "",pkgPath:= "dandelion/net",byteOffset:=72}],size:=8,bytes:=80,zero:=(.agg ⟨[(.slice none 0 0),(.map none),(.map none),(.map none),(.pointer none),(.int .u64 (0)),(.int .u64 (0)),(.pointer none)]⟩),cmp:=false}
theorem nL:Be Tryz.prog 200 X3:=Be.of (by kernel_rfl) (by kernel_rfl) (by kernel_rfl) (by kernel_rfl) (by intro h;cases h)
noncomputable def RN:TI:= {ud:= .struct #[{name:= "a",type:=3,offset:=0,embedded:=false,tag:= "",pkgPath:= "dandelion/net",byteOffset:=0}, {name:= "b",type:=3,offset:=1,embedded:=false,tag:= "",pkgPath:= "dandelion/net",byteOffset:=8}],size:=2,bytes:=16,zero:=(.agg ⟨[(.int .i64 (0)),(.int .i64 (0))]⟩),cmp:=true}
theorem nD:Be Tryz.prog 202 RN:=Be.of (by kernel_rfl) (by kernel_rfl) (by kernel_rfl) (by kernel_rfl) (fun _=>⟨by kernel_rfl,by kernel_rfl⟩)
noncomputable def kU:TI:= {ud:= .slice 4,size:=1,bytes:=24,zero:=(.slice none 0 0),cmp:=false}
theorem jU:Be Tryz.prog 206 kU:=Be.of (by kernel_rfl) (by kernel_rfl) (by kernel_rfl) (by kernel_rfl) (by intro h;cases h)
noncomputable def Wh:TI:= {ud:= .array 25 4,size:=25,bytes:=25,zero:=(.agg ⟨(Dp 25 (.bool false))⟩),cmp:=false}
theorem kO:Be Tryz.prog 207 Wh:=Be.of (by kernel_rfl) (by kernel_rfl) (by kernel_rfl) (by kernel_rfl) (by intro h;cases h)
noncomputable def XI:TI:= {ud:= .array 25 3,size:=25,bytes:=200,zero:=(.agg ⟨(Dp 25 (.int .i64 (0)))⟩),cmp:=false}
theorem fa:Be Tryz.prog 208 XI:=Be.of (by kernel_rfl) (by kernel_rfl) (by kernel_rfl) (by kernel_rfl) (by intro h;cases h)
noncomputable def W0:TI:= {ud:= .array 25 208,size:=625,bytes:=5000,zero:=(.agg ⟨(Dp 625 (.int .i64 (0)))⟩),cmp:=false}
theorem kG:Be Tryz.prog 209 W0:=Be.of (by kernel_rfl) (by kernel_rfl) (by kernel_rfl) (by kernel_rfl) (by intro h;cases h)
noncomputable def lQ:TI:= {ud:= .slice 280,size:=1,bytes:=24,zero:=(.slice none 0 0),cmp:=false}
theorem fE:Be Tryz.prog 210 lQ:=Be.of (by kernel_rfl) (by kernel_rfl) (by kernel_rfl) (by kernel_rfl) (by intro h;cases h)
noncomputable def gY:TI:= {ud:= .struct #[{name:= "Routers",type:=68,offset:=0,embedded:=false,tag:= "",pkgPath:= "",byteOffset:=0}, {name:= "Links",type:=23,offset:=1,embedded:=false,tag:= "",pkgPath:= "",byteOffset:=24}, {name:= "Rules",type:=24,offset:=2,embedded:=false,tag:= "",pkgPath:= "",byteOffset:=48}, {name:= "Late",type:=3,offset:=3,embedded:=false,tag:= "",pkgPath:= "",byteOffset:=72}, {name:= "Now",type:=106,offset:=4,embedded:=false,tag:= "",pkgPath:= "",byteOffset:=80}, {name:= "IsCut",type:=206,offset:=5,embedded:=false,tag:= "",pkgPath:= "",byteOffset:=88}, {name:= "Stopped",type:=207,offset:=6,embedded:=false,tag:= "",pkgPath:= "",byteOffset:=112}, {name:= "Sent",type:=209,offset:=31,embedded:=false,tag:= "",pkgPath:= "",byteOffset:=144}, {name:= "Ways",type:=210,offset:=656,embedded:=false,tag:= "",pkgPath:= "",byteOffset:=5144}],size:=657,bytes:=5168,zero:=(.agg ⟨([(.slice none 0 0),(.slice none 0 0),(.slice none 0 0)] ++ [(.int .i64 (0))] ++ [(.int .u64 (0))] ++ [(.slice none 0 0)] ++ Dp 25 (.bool false) ++ Dp 625 (.int .i64 (0)) ++ [(.slice none 0 0)])⟩),cmp:=false}
theorem jx:Be Tryz.prog 212 gY:=Be.of (by kernel_rfl) (by kernel_rfl) (by kernel_rfl) (by kernel_rfl) (by intro h;cases h)
noncomputable def bd:TI:= {ud:= .array 20 106,size:=20,bytes:=160,zero:=(.agg ⟨(Dp 20 (.int .u64 (0)))⟩),cmp:=false}
theorem jX:Be Tryz.prog 217 bd:=Be.of (by kernel_rfl) (by kernel_rfl) (by kernel_rfl) (by kernel_rfl) (by intro h;cases h)
noncomputable def ah:TI:= {ud:= .array 65 5,size:=65,bytes:=65,zero:=(.agg ⟨(Dp 65 (.int .u8 (0)))⟩),cmp:=false}
theorem lq:Be Tryz.prog 218 ah:=Be.of (by kernel_rfl) (by kernel_rfl) (by kernel_rfl) (by kernel_rfl) (by intro h;cases h)
noncomputable def Xn:TI:= {ud:= .array 25 208,size:=625,bytes:=5000,zero:=(.agg ⟨(Dp 625 (.int .i64 (0)))⟩),cmp:=false}
theorem mZ:Be Tryz.prog 221 Xn:=Be.of (by kernel_rfl) (by kernel_rfl) (by kernel_rfl) (by kernel_rfl) (by intro h;cases h)
noncomputable def TD:TI:= {ud:= .map 248 83,size:=1,bytes:=8,zero:=(.map none),cmp:=false}
theorem jC:Be Tryz.prog 223 TD:=Be.of (by kernel_rfl) (by kernel_rfl) (by kernel_rfl) (by kernel_rfl) (by intro h;cases h)
noncomputable def XZ:TI:= {ud:= .struct #[{name:= "rules",type:=223,offset:=0,embedded:=false,tag:= "",pkgPath:= "dandelion/fate",byteOffset:=0}, {name:= "asked",type:=209,offset:=1,embedded:=false,tag:= "",pkgPath:= "dandelion/fate",byteOffset:=8}],size:=626,bytes:=5008,zero:=(.agg ⟨([(.map none)] ++ Dp 625 (.int .i64 (0)))⟩),cmp:=false}
theorem iW:Be Tryz.prog 227 XZ:=Be.of (by kernel_rfl) (by kernel_rfl) (by kernel_rfl) (by kernel_rfl) (by intro h;cases h)
noncomputable def RJ:TI:= {ud:= .slice 282,size:=1,bytes:=24,zero:=(.slice none 0 0),cmp:=false}
theorem lL:Be Tryz.prog 228 RJ:=Be.of (by kernel_rfl) (by kernel_rfl) (by kernel_rfl) (by kernel_rfl) (by intro h;cases h)
noncomputable def XC:TI:= {ud:= .struct #[{name:= "there",type:=4,offset:=0,embedded:=false,tag:= "",pkgPath:= "dandelion/calend",byteOffset:=0}, {name:= "last",type:=3,offset:=1,embedded:=false,tag:= "",pkgPath:= "dandelion/calend",byteOffset:=8}, {name:= "l",type:=228,offset:=2,embedded:=false,tag:= "",pkgPath:= "dandelion/calend",byteOffset:=16}],size:=3,bytes:=40,zero:=(.agg ⟨[(.bool false),(.int .i64 (0)),(.slice none 0 0)]⟩),cmp:=false}
theorem i6:Be Tryz.prog 230 XC:=Be.of (by kernel_rfl) (by kernel_rfl) (by kernel_rfl) (by kernel_rfl) (by intro h;cases h)
noncomputable def T4:TI:= {ud:= .struct #[{name:= "From",type:=3,offset:=0,embedded:=false,tag:= "",pkgPath:= "",byteOffset:=0}, {name:= "To",type:=3,offset:=1,embedded:=false,tag:= "",pkgPath:= "",byteOffset:=8}, {name:= "Cost",type:=3,offset:=2,embedded:=false,tag:= "",pkgPath:= "",byteOffset:=16}],size:=3,bytes:=24,zero:=(.agg ⟨[(.int .i64 (0)),(.int .i64 (0)),(.int .i64 (0))]⟩),cmp:=false}
theorem gF:Be Tryz.prog 233 T4:=Be.of (by kernel_rfl) (by kernel_rfl) (by kernel_rfl) (by kernel_rfl) (by intro h;cases h)
noncomputable def bj:TI:= {ud:= .int .i64,size:=1,bytes:=8,zero:=(.int .i64 (0)),cmp:=false}
theorem jr:Be Tryz.prog 238 bj:=Be.of (by kernel_rfl) (by kernel_rfl) (by kernel_rfl) (by kernel_rfl) (by intro h;cases h)
noncomputable def b8:TI:= {ud:= .pointer 251,size:=1,bytes:=8,zero:=(.pointer none),cmp:=false}
theorem iK:Be Tryz.prog 241 b8:=Be.of (by kernel_rfl) (by kernel_rfl) (by kernel_rfl) (by kernel_rfl) (by intro h;cases h)
noncomputable def Q0:TI:= {ud:= .struct #[{name:= "from",type:=3,offset:=0,embedded:=false,tag:= "",pkgPath:= "dandelion/fate",byteOffset:=0}, {name:= "to",type:=3,offset:=1,embedded:=false,tag:= "",pkgPath:= "dandelion/fate",byteOffset:=8}, {name:= "nth",type:=3,offset:=2,embedded:=false,tag:= "",pkgPath:= "dandelion/fate",byteOffset:=16}],size:=3,bytes:=24,zero:=(.agg ⟨[(.int .i64 (0)),(.int .i64 (0)),(.int .i64 (0))]⟩),cmp:=true}
theorem hY:Be Tryz.prog 248 Q0:=Be.of (by kernel_rfl) (by kernel_rfl) (by kernel_rfl) (by kernel_rfl) (fun _=>⟨by kernel_rfl,by kernel_rfl⟩)
noncomputable def az:TI:= {ud:= .struct #[{name:= "Func",type:=9,offset:=0,embedded:=false,tag:= "",pkgPath:= "",byteOffset:=0}, {name:= "Num",type:=9,offset:=1,embedded:=false,tag:= "",pkgPath:= "",byteOffset:=16}, {name:= "Err",type:=38,offset:=2,embedded:=false,tag:= "",pkgPath:= "",byteOffset:=32}],size:=3,bytes:=48,zero:=(.agg ⟨[(.string ⟨⟨[]⟩⟩),(.string ⟨⟨[]⟩⟩), .nilIface]⟩),cmp:=false}
theorem jA:Be Tryz.prog 251 az:=Be.of (by kernel_rfl) (by kernel_rfl) (by kernel_rfl) (by kernel_rfl) (by intro h;cases h)
noncomputable def bf:TI:= {ud:= .array 32 5,size:=32,bytes:=32,zero:=(.agg ⟨(Dp 32 (.int .u8 (0)))⟩),cmp:=false}
theorem ir:Be Tryz.prog 253 bf:=Be.of (by kernel_rfl) (by kernel_rfl) (by kernel_rfl) (by kernel_rfl) (by intro h;cases h)
noncomputable def aL:TI:= {ud:= .array 64 5,size:=64,bytes:=64,zero:=(.agg ⟨(Dp 64 (.int .u8 (0)))⟩),cmp:=false}
theorem mO:Be Tryz.prog 254 aL:=Be.of (by kernel_rfl) (by kernel_rfl) (by kernel_rfl) (by kernel_rfl) (by intro h;cases h)
noncomputable def ai:TI:= {ud:= .array 256 5,size:=256,bytes:=256,zero:=(.agg ⟨(Dp 256 (.int .u8 (0)))⟩),cmp:=false}
theorem l8:Be Tryz.prog 256 ai:=Be.of (by kernel_rfl) (by kernel_rfl) (by kernel_rfl) (by kernel_rfl) (by intro h;cases h)
noncomputable def ay:TI:= {ud:= .struct #[{name:= "lo",type:=5,offset:=0,embedded:=false,tag:= "",pkgPath:= "unicode/utf8",byteOffset:=0}, {name:= "hi",type:=5,offset:=1,embedded:=false,tag:= "",pkgPath:= "unicode/utf8",byteOffset:=1}],size:=2,bytes:=2,zero:=(.agg ⟨[(.int .u8 (0)),(.int .u8 (0))]⟩),cmp:=false}
theorem kV:Be Tryz.prog 258 ay:=Be.of (by kernel_rfl) (by kernel_rfl) (by kernel_rfl) (by kernel_rfl) (by intro h;cases h)
noncomputable def aw:TI:= {ud:= .array 16 258,size:=32,bytes:=32,zero:=(.agg ⟨(Dp 32 (.int .u8 (0)))⟩),cmp:=false}
theorem gC:Be Tryz.prog 259 aw:=Be.of (by kernel_rfl) (by kernel_rfl) (by kernel_rfl) (by kernel_rfl) (by intro h;cases h)
noncomputable def aa:TI:= {ud:= .pointer 262,size:=1,bytes:=8,zero:=(.pointer none),cmp:=false}
theorem fx:Be Tryz.prog 260 aa:=Be.of (by kernel_rfl) (by kernel_rfl) (by kernel_rfl) (by kernel_rfl) (by intro h;cases h)
noncomputable def aH:TI:= {ud:= .struct #[{name:= "s",type:=9,offset:=0,embedded:=false,tag:= "",pkgPath:= "errors",byteOffset:=0}],size:=1,bytes:=16,zero:=(.agg ⟨[(.string ⟨⟨[]⟩⟩)]⟩),cmp:=false}
theorem gx:Be Tryz.prog 262 aH:=Be.of (by kernel_rfl) (by kernel_rfl) (by kernel_rfl) (by kernel_rfl) (by intro h;cases h)
noncomputable def ll:TI:= {ud:= .struct #[{name:= "At",type:=106,offset:=0,embedded:=false,tag:= "",pkgPath:= "",byteOffset:=0}, {name:= "M",type:=198,offset:=1,embedded:=false,tag:= "",pkgPath:= "",byteOffset:=8}],size:=4,bytes:=40,zero:=(.agg ⟨[(.int .u64 (0)),(.int .i64 (0)),(.int .i64 (0)),(.string ⟨⟨[]⟩⟩)]⟩),cmp:=false}
theorem lW:Be Tryz.prog 280 ll:=Be.of (by kernel_rfl) (by kernel_rfl) (by kernel_rfl) (by kernel_rfl) (by intro h;cases h)
noncomputable def T8:TI:= {ud:= .struct #[{name:= "at",type:=106,offset:=0,embedded:=false,tag:= "",pkgPath:= "dandelion/calend",byteOffset:=0}, {name:= "ticket",type:=3,offset:=1,embedded:=false,tag:= "",pkgPath:= "dandelion/calend",byteOffset:=8}, {name:= "v",type:=198,offset:=2,embedded:=false,tag:= "",pkgPath:= "dandelion/calend",byteOffset:=16}],size:=5,bytes:=48,zero:=(.agg ⟨[(.int .u64 (0)),(.int .i64 (0)),(.int .i64 (0)),(.int .i64 (0)),(.string ⟨⟨[]⟩⟩)]⟩),cmp:=false}
theorem gu:Be Tryz.prog 282 T8:=Be.of (by kernel_rfl) (by kernel_rfl) (by kernel_rfl) (by kernel_rfl) (by intro h;cases h)
noncomputable def tt:T TI:=(.node (.node (.node (.node (.node (.node .nil none (.node (.node .nil (some aZ) .nil) none (.node .nil (some TD) .nil))) none (.node (.node (.node .nil (some R8) .nil) (some Ym) (.node .nil (some Wh) .nil)) (some dN) .nil)) none (.node (.node (.node .nil (some pD) .nil) none .nil) (some Yz) (.node .nil (some la) (.node (.node .nil (some R1) .nil) none .nil)))) (some NQ) (.node (.node (.node (.node (.node (.node .nil (some aw) .nil) none .nil) (some Xz) (.node .nil (some W1) .nil)) none (.node .nil none (.node .nil (some XZ) .nil))) none (.node (.node .nil (some Wy) .nil) (some Wz) (.node .nil (some aG) .nil))) none (.node (.node .nil (some S8) .nil) (some YE) (.node .nil none (.node .nil none (.node .nil (some az) .nil)))))) none (.node (.node (.node (.node (.node .nil none (.node .nil (some TA) .nil)) none .nil) (some qm) (.node (.node .nil (some ZD) (.node .nil (some W0) .nil)) none (.node (.node .nil (some cE) .nil) none (.node .nil (some b8) .nil)))) (some rU) (.node (.node (.node (.node .nil (some a7) .nil) (some lS) .nil) (some ZO) (.node .nil none (.node .nil (some T4) .nil))) none (.node (.node .nil none (.node .nil (some bd) .nil)) (some vk) (.node (.node .nil (some Wv) .nil) none .nil)))) (some uM) (.node (.node (.node (.node .nil (some Ud) .nil) none (.node .nil (some YL) .nil)) (some qL) (.node .nil (some di) (.node .nil (some bx) .nil))) none (.node (.node .nil (some mC) .nil) (some kP) (.node (.node (.node .nil (some bb) .nil) none (.node .nil (some Xn) .nil)) none (.node .nil none (.node .nil (some bf) .nil))))))) none (.node (.node (.node (.node (.node (.node (.node (.node .nil (some ai) .nil) none .nil) none (.node .nil (some T3) .nil)) none (.node (.node .nil (some ae) .nil) none .nil)) none (.node (.node .nil none (.node .nil (some XI) .nil)) none (.node .nil (some ba) .nil))) none (.node (.node (.node (.node .nil (some UC) .nil) none (.node .nil (some X3) .nil)) none (.node .nil (some bB) .nil)) (some Yh) (.node (.node (.node (.node .nil (some ll) .nil) none .nil) none .nil) none (.node .nil none (.node .nil (some Q0) .nil))))) (some yh) (.node (.node (.node (.node (.node (.node .nil (some aa) .nil) none .nil) (some VI) .nil) (some Zt) (.node (.node .nil (some bm) .nil) (some Xw) (.node .nil (some RJ) .nil))) (some Zb) (.node (.node .nil none (.node .nil (some gY) .nil)) none .nil)) none (.node .nil none (.node .nil none (.node (.node .nil (some Wx) .nil) none .nil))))) (some ti2) (.node (.node (.node (.node (.node (.node (.node .nil (some ay) .nil) none .nil) none (.node .nil (some TW) .nil)) none (.node .nil (some sG) .nil)) none (.node (.node .nil none (.node .nil (some lQ) .nil)) none .nil)) none (.node (.node (.node .nil none (.node .nil (some RN) .nil)) none (.node .nil (some XN) .nil)) (some ma) (.node (.node (.node (.node .nil (some T8) .nil) (some bZ) .nil) none (.node .nil (some ah) .nil)) none .nil))) none (.node (.node (.node (.node (.node (.node .nil (some aH) .nil) none .nil) none (.node .nil (some bE) .nil)) (some Ur) (.node .nil none (.node .nil (some XC) .nil))) (some Yk) .nil) none (.node (.node (.node .nil none (.node .nil (some kU) .nil)) none (.node .nil (some aJ) (.node .nil (some bj) .nil))) (some dE) (.node .nil none (.node .nil none (.node .nil (some aL) .nil))))))))
noncomputable def tl:List (Nat×TI):= [(3,NQ),(159,aZ),(223,TD),(47,dN),(79,Ym),(143,R8),(207,Wh),(23,Yz),(71,pD),(55,la),(183,R1),(67,Xz),(259,aw),(195,W1),(227,XZ),(51,Wz),(83,Wy),(115,aG),(27,YE),(43,S8),(251,az),(5,uM),(9,rU),(17,qm),(193,TA),(81,ZD),(209,W0),(177,cE),(241,b8),(41,ZO),(73,lS),(137,a7),(233,T4),(57,vk),(217,bd),(185,Wv),(21,qL),(69,Ud),(101,YL),(53,di),(117,bx),(29,kP),(45,mC),(157,bb),(221,Xn),(253,bf),(2,ti2),(4,yh),(256,ai),(192,T3),(160,ae),(208,XI),(112,ba),(24,Yh),(136,UC),(200,X3),(104,bB),(280,ll),(248,Q0),(20,Zb),(36,Zt),(68,VI),(260,aa),(100,Xw),(164,bm),(228,RJ),(212,gY),(188,Wx),(258,ay),(194,TW),(98,sG),(210,lQ),(26,ma),(202,RN),(106,XN),(154,bZ),(282,T8),(218,ah),(22,Yk),(38,Ur),(262,aH),(198,bE),(230,XC),(30,dE),(206,kU),(110,aJ),(238,bj),(254,aL)]
theorem y9:tt.vB 1 0=tl:=by kernel_rfl
set_option maxRecDepth 100000 in
theorem yx:∀p∈tl,Be Tryz.prog p.1 p.2:=List.forall_mem_cons.2 ⟨vx,List.forall_mem_cons.2 ⟨kM,List.forall_mem_cons.2 ⟨jC,List.forall_mem_cons.2 ⟨qi,List.forall_mem_cons.2 ⟨oa,List.forall_mem_cons.2 ⟨gb,List.forall_mem_cons.2 ⟨kO,List.forall_mem_cons.2 ⟨sM,List.forall_mem_cons.2 ⟨pK,List.forall_mem_cons.2 ⟨sn,List.forall_mem_cons.2 ⟨kY,List.forall_mem_cons.2 ⟨qD,List.forall_mem_cons.2 ⟨gC,List.forall_mem_cons.2 ⟨lM,List.forall_mem_cons.2 ⟨iW,List.forall_mem_cons.2 ⟨pM,List.forall_mem_cons.2 ⟨rY,List.forall_mem_cons.2 ⟨l7,List.forall_mem_cons.2 ⟨nr,List.forall_mem_cons.2 ⟨ot,List.forall_mem_cons.2 ⟨jA,List.forall_mem_cons.2 ⟨ve,List.forall_mem_cons.2 ⟨um,List.forall_mem_cons.2 ⟨sQ,List.forall_mem_cons.2 ⟨lE,List.forall_mem_cons.2 ⟨r9,List.forall_mem_cons.2 ⟨kG,List.forall_mem_cons.2 ⟨jS,List.forall_mem_cons.2 ⟨iK,List.forall_mem_cons.2 ⟨ss,List.forall_mem_cons.2 ⟨pJ,List.forall_mem_cons.2 ⟨lu,List.forall_mem_cons.2 ⟨gF,List.forall_mem_cons.2 ⟨pq,List.forall_mem_cons.2 ⟨jX,List.forall_mem_cons.2 ⟨nE,List.forall_mem_cons.2 ⟨nc,List.forall_mem_cons.2 ⟨qB,List.forall_mem_cons.2 ⟨hJ,List.forall_mem_cons.2 ⟨ou,List.forall_mem_cons.2 ⟨ij,List.forall_mem_cons.2 ⟨qo,List.forall_mem_cons.2 ⟨sX,List.forall_mem_cons.2 ⟨hZ,List.forall_mem_cons.2 ⟨mZ,List.forall_mem_cons.2 ⟨ir,List.forall_mem_cons.2 ⟨vX,List.forall_mem_cons.2 ⟨xU,List.forall_mem_cons.2 ⟨l8,List.forall_mem_cons.2 ⟨iq,List.forall_mem_cons.2 ⟨jR,List.forall_mem_cons.2 ⟨fa,List.forall_mem_cons.2 ⟨me,List.forall_mem_cons.2 ⟨rK,List.forall_mem_cons.2 ⟨mv,List.forall_mem_cons.2 ⟨nL,List.forall_mem_cons.2 ⟨kL,List.forall_mem_cons.2 ⟨lW,List.forall_mem_cons.2 ⟨hY,List.forall_mem_cons.2 ⟨pg,List.forall_mem_cons.2 ⟨sU,List.forall_mem_cons.2 ⟨rI,List.forall_mem_cons.2 ⟨fx,List.forall_mem_cons.2 ⟨jD,List.forall_mem_cons.2 ⟨i7,List.forall_mem_cons.2 ⟨lL,List.forall_mem_cons.2 ⟨jx,List.forall_mem_cons.2 ⟨jy,List.forall_mem_cons.2 ⟨kV,List.forall_mem_cons.2 ⟨fY,List.forall_mem_cons.2 ⟨sr,List.forall_mem_cons.2 ⟨fE,List.forall_mem_cons.2 ⟨p7,List.forall_mem_cons.2 ⟨nD,List.forall_mem_cons.2 ⟨ka,List.forall_mem_cons.2 ⟨mg,List.forall_mem_cons.2 ⟨gu,List.forall_mem_cons.2 ⟨lq,List.forall_mem_cons.2 ⟨oh,List.forall_mem_cons.2 ⟨oI,List.forall_mem_cons.2 ⟨gx,List.forall_mem_cons.2 ⟨nC,List.forall_mem_cons.2 ⟨i6,List.forall_mem_cons.2 ⟨oW,List.forall_mem_cons.2 ⟨jU,List.forall_mem_cons.2 ⟨gm,List.forall_mem_cons.2 ⟨jr,List.forall_mem_cons.2 ⟨mO,(fun _ h=>by cases h)⟩⟩⟩⟩⟩⟩⟩⟩⟩⟩⟩⟩⟩⟩⟩⟩⟩⟩⟩⟩⟩⟩⟩⟩⟩⟩⟩⟩⟩⟩⟩⟩⟩⟩⟩⟩⟩⟩⟩⟩⟩⟩⟩⟩⟩⟩⟩⟩⟩⟩⟩⟩⟩⟩⟩⟩⟩⟩⟩⟩⟩⟩⟩⟩⟩⟩⟩⟩⟩⟩⟩⟩⟩⟩⟩⟩⟩⟩⟩⟩⟩⟩⟩⟩⟩⟩⟩⟩
theorem Bu:C7 Tryz.prog tt.get:=fun k i h=>yx (k,i) (y9 ▸ T.aO h)
theorem wY:A0 Tryz.prog 3 Tryz.f3:=⟨⟨Tryz.func3,by kernel_rfl,by kernel_rfl⟩,A0.AK (by kernel_rfl)⟩
theorem Zk:A0 Tryz.prog 4 Tryz.f4:=⟨⟨Tryz.func4,by kernel_rfl,by kernel_rfl⟩,A0.AK (by kernel_rfl)⟩
theorem xX:A0 Tryz.prog 5 Tryz.f5:=⟨⟨Tryz.func5,by kernel_rfl,by kernel_rfl⟩,A0.AK (by kernel_rfl)⟩
theorem ZV:A0 Tryz.prog 6 Tryz.f6:=⟨⟨Tryz.func6,by kernel_rfl,by kernel_rfl⟩,A0.AK (by kernel_rfl)⟩
theorem uK:A0 Tryz.prog 7 Tryz.f7:=⟨⟨Tryz.func7,by kernel_rfl,by kernel_rfl⟩,A0.AK (by kernel_rfl)⟩
theorem ZY:A0 Tryz.prog 8 Tryz.f8:=⟨⟨Tryz.func8,by kernel_rfl,by kernel_rfl⟩,A0.AK (by kernel_rfl)⟩
theorem aA:A0 Tryz.prog 9 Tryz.f9:=⟨⟨Tryz.func9,by kernel_rfl,by kernel_rfl⟩,A0.AK (by kernel_rfl)⟩
theorem ph:A0 Tryz.prog 10 Tryz.f10:=⟨⟨Tryz.func10,by kernel_rfl,by kernel_rfl⟩,A0.AK (by kernel_rfl)⟩
theorem rB:A0 Tryz.prog 11 Tryz.f11:=⟨⟨Tryz.func11,by kernel_rfl,by kernel_rfl⟩,A0.AK (by kernel_rfl)⟩
theorem U0:A0 Tryz.prog 12 Tryz.f12:=⟨⟨Tryz.func12,by kernel_rfl,by kernel_rfl⟩,A0.AK (by kernel_rfl)⟩
theorem VK:A0 Tryz.prog 14 Tryz.f14:=⟨⟨Tryz.func14,by kernel_rfl,by kernel_rfl⟩,A0.AK (by kernel_rfl)⟩
theorem V4:A0 Tryz.prog 15 Tryz.f15:=⟨⟨Tryz.func15,by kernel_rfl,by kernel_rfl⟩,A0.AK (by kernel_rfl)⟩
theorem bQ:A0 Tryz.prog 17 Tryz.f17:=⟨⟨Tryz.func17,by kernel_rfl,by kernel_rfl⟩,A0.AK (by kernel_rfl)⟩
theorem pT:A0 Tryz.prog 18 Tryz.f18:=⟨⟨Tryz.func18,by kernel_rfl,by kernel_rfl⟩,A0.AK (by kernel_rfl)⟩
theorem oz:A0 Tryz.prog 19 Tryz.f19:=⟨⟨Tryz.func19,by kernel_rfl,by kernel_rfl⟩,A0.AK (by kernel_rfl)⟩
theorem ag:A0 Tryz.prog 20 Tryz.f20:=⟨⟨Tryz.func20,by kernel_rfl,by kernel_rfl⟩,A0.AK (by kernel_rfl)⟩
theorem rq:A0 Tryz.prog 21 Tryz.f21:=⟨⟨Tryz.func21,by kernel_rfl,by kernel_rfl⟩,A0.AK (by kernel_rfl)⟩
theorem rF:A0 Tryz.prog 22 Tryz.f22:=⟨⟨Tryz.func22,by kernel_rfl,by kernel_rfl⟩,A0.AK (by kernel_rfl)⟩
theorem VA:A0 Tryz.prog 23 Tryz.f23:=⟨⟨Tryz.func23,by kernel_rfl,by kernel_rfl⟩,A0.AK (by kernel_rfl)⟩
theorem Ut:A0 Tryz.prog 24 Tryz.f24:=⟨⟨Tryz.func24,by kernel_rfl,by kernel_rfl⟩,A0.AK (by kernel_rfl)⟩
theorem bH:A0 Tryz.prog 25 Tryz.f25:=⟨⟨Tryz.func25,by kernel_rfl,by kernel_rfl⟩,A0.AK (by kernel_rfl)⟩
theorem bu:A0 Tryz.prog 26 Tryz.f26:=⟨⟨Tryz.func26,by kernel_rfl,by kernel_rfl⟩,A0.AK (by kernel_rfl)⟩
theorem Uo:A0 Tryz.prog 27 Tryz.f27:=⟨⟨Tryz.func27,by kernel_rfl,by kernel_rfl⟩,A0.AK (by kernel_rfl)⟩
theorem aE:A0 Tryz.prog 28 Tryz.f28:=⟨⟨Tryz.func28,by kernel_rfl,by kernel_rfl⟩,A0.AK (by kernel_rfl)⟩
theorem ng:A0 Tryz.prog 29 Tryz.f29:=⟨⟨Tryz.func29,by kernel_rfl,by kernel_rfl⟩,A0.AK (by kernel_rfl)⟩
theorem oQ:A0 Tryz.prog 30 Tryz.f30:=⟨⟨Tryz.func30,by kernel_rfl,by kernel_rfl⟩,A0.AK (by kernel_rfl)⟩
theorem pX:A0 Tryz.prog 31 Tryz.f31:=⟨⟨Tryz.func31,by kernel_rfl,by kernel_rfl⟩,A0.AK (by kernel_rfl)⟩
theorem qF:A0 Tryz.prog 32 Tryz.f32:=⟨⟨Tryz.func32,by kernel_rfl,by kernel_rfl⟩,A0.AK (by kernel_rfl)⟩
theorem Qf:A0 Tryz.prog 33 Tryz.f33:=⟨⟨Tryz.func33,by kernel_rfl,by kernel_rfl⟩,A0.AK (by kernel_rfl)⟩
theorem QW:A0 Tryz.prog 34 Tryz.f34:=⟨⟨Tryz.func34,by kernel_rfl,by kernel_rfl⟩,A0.AK (by kernel_rfl)⟩
theorem WH:A0 Tryz.prog 35 Tryz.f35:=⟨⟨Tryz.func35,by kernel_rfl,by kernel_rfl⟩,A0.AK (by kernel_rfl)⟩
theorem cF:A0 Tryz.prog 36 Tryz.f36:=⟨⟨Tryz.func36,by kernel_rfl,by kernel_rfl⟩,A0.AK (by kernel_rfl)⟩
theorem Uy:A0 Tryz.prog 37 Tryz.f37:=⟨⟨Tryz.func37,by kernel_rfl,by kernel_rfl⟩,A0.AK (by kernel_rfl)⟩
theorem Vi:A0 Tryz.prog 38 Tryz.f38:=⟨⟨Tryz.func38,by kernel_rfl,by kernel_rfl⟩,A0.AK (by kernel_rfl)⟩
theorem Ui:A0 Tryz.prog 39 Tryz.f39:=⟨⟨Tryz.func39,by kernel_rfl,by kernel_rfl⟩,A0.AK (by kernel_rfl)⟩
theorem VN:A0 Tryz.prog 40 Tryz.f40:=⟨⟨Tryz.func40,by kernel_rfl,by kernel_rfl⟩,A0.AK (by kernel_rfl)⟩
theorem Uw:A0 Tryz.prog 41 Tryz.f41:=⟨⟨Tryz.func41,by kernel_rfl,by kernel_rfl⟩,A0.AK (by kernel_rfl)⟩
theorem ak:A0 Tryz.prog 42 Tryz.f42:=⟨⟨Tryz.func42,by kernel_rfl,by kernel_rfl⟩,A0.AK (by kernel_rfl)⟩
theorem WD:A0 Tryz.prog 43 Tryz.f43:=⟨⟨Tryz.func43,by kernel_rfl,by kernel_rfl⟩,A0.AK (by kernel_rfl)⟩
theorem bU:A0 Tryz.prog 44 Tryz.f44:=⟨⟨Tryz.func44,by kernel_rfl,by kernel_rfl⟩,A0.AK (by kernel_rfl)⟩
theorem QY:A0 Tryz.prog 45 Tryz.f45:=⟨⟨Tryz.func45,by kernel_rfl,by kernel_rfl⟩,A0.AK (by kernel_rfl)⟩
theorem pR:A0 Tryz.prog 49 Tryz.f49:=⟨⟨Tryz.func49,by kernel_rfl,by kernel_rfl⟩,A0.AK (by kernel_rfl)⟩
theorem oE:A0 Tryz.prog 50 Tryz.f50:=⟨⟨Tryz.func50,by kernel_rfl,by kernel_rfl⟩,A0.AK (by kernel_rfl)⟩
theorem si:A0 Tryz.prog 51 Tryz.f51:=⟨⟨Tryz.func51,by kernel_rfl,by kernel_rfl⟩,A0.AK (by kernel_rfl)⟩
theorem oT:A0 Tryz.prog 52 Tryz.f52:=⟨⟨Tryz.func52,by kernel_rfl,by kernel_rfl⟩,A0.AK (by kernel_rfl)⟩
theorem qp:A0 Tryz.prog 53 Tryz.f53:=⟨⟨Tryz.func53,by kernel_rfl,by kernel_rfl⟩,A0.AK (by kernel_rfl)⟩
theorem rN:A0 Tryz.prog 55 Tryz.f55:=⟨⟨Tryz.func55,by kernel_rfl,by kernel_rfl⟩,A0.AK (by kernel_rfl)⟩
theorem qP:A0 Tryz.prog 56 Tryz.f56:=⟨⟨Tryz.func56,by kernel_rfl,by kernel_rfl⟩,A0.AK (by kernel_rfl)⟩
theorem qN:A0 Tryz.prog 57 Tryz.f57:=⟨⟨Tryz.func57,by kernel_rfl,by kernel_rfl⟩,A0.AK (by kernel_rfl)⟩
theorem sZ:A0 Tryz.prog 58 Tryz.f58:=⟨⟨Tryz.func58,by kernel_rfl,by kernel_rfl⟩,A0.AK (by kernel_rfl)⟩
theorem n5:A0 Tryz.prog 59 Tryz.f59:=⟨⟨Tryz.func59,by kernel_rfl,by kernel_rfl⟩,A0.AK (by kernel_rfl)⟩
theorem qE:A0 Tryz.prog 60 Tryz.f60:=⟨⟨Tryz.func60,by kernel_rfl,by kernel_rfl⟩,A0.AK (by kernel_rfl)⟩
theorem rh:A0 Tryz.prog 61 Tryz.f61:=⟨⟨Tryz.func61,by kernel_rfl,by kernel_rfl⟩,A0.AK (by kernel_rfl)⟩
theorem pU:A0 Tryz.prog 62 Tryz.f62:=⟨⟨Tryz.func62,by kernel_rfl,by kernel_rfl⟩,A0.AK (by kernel_rfl)⟩
theorem sK:A0 Tryz.prog 63 Tryz.f63:=⟨⟨Tryz.func63,by kernel_rfl,by kernel_rfl⟩,A0.AK (by kernel_rfl)⟩
theorem VZ:A0 Tryz.prog 64 Tryz.f64:=⟨⟨Tryz.func64,by kernel_rfl,by kernel_rfl⟩,A0.AK (by kernel_rfl)⟩
theorem WI:A0 Tryz.prog 65 Tryz.f65:=⟨⟨Tryz.func65,by kernel_rfl,by kernel_rfl⟩,A0.AK (by kernel_rfl)⟩
theorem bN:A0 Tryz.prog 66 Tryz.f66:=⟨⟨Tryz.func66,by kernel_rfl,by kernel_rfl⟩,A0.AK (by kernel_rfl)⟩
theorem pS:A0 Tryz.prog 67 Tryz.f67:=⟨⟨Tryz.func67,by kernel_rfl,by kernel_rfl⟩,A0.AK (by kernel_rfl)⟩
theorem sF:A0 Tryz.prog 68 Tryz.f68:=⟨⟨Tryz.func68,by kernel_rfl,by kernel_rfl⟩,A0.AK (by kernel_rfl)⟩
theorem Uv:A0 Tryz.prog 69 Tryz.f69:=⟨⟨Tryz.func69,by kernel_rfl,by kernel_rfl⟩,A0.AK (by kernel_rfl)⟩
theorem rr:A0 Tryz.prog 70 Tryz.f70:=⟨⟨Tryz.func70,by kernel_rfl,by kernel_rfl⟩,A0.AK (by kernel_rfl)⟩
theorem qX:A0 Tryz.prog 71 Tryz.f71:=⟨⟨Tryz.func71,by kernel_rfl,by kernel_rfl⟩,A0.AK (by kernel_rfl)⟩
theorem rE:A0 Tryz.prog 72 Tryz.f72:=⟨⟨Tryz.func72,by kernel_rfl,by kernel_rfl⟩,A0.AK (by kernel_rfl)⟩
theorem bz:A0 Tryz.prog 73 Tryz.f73:=⟨⟨Tryz.func73,by kernel_rfl,by kernel_rfl⟩,A0.AK (by kernel_rfl)⟩
theorem Vk:A0 Tryz.prog 74 Tryz.f74:=⟨⟨Tryz.func74,by kernel_rfl,by kernel_rfl⟩,A0.AK (by kernel_rfl)⟩
theorem Uf:A0 Tryz.prog 75 Tryz.f75:=⟨⟨Tryz.func75,by kernel_rfl,by kernel_rfl⟩,A0.AK (by kernel_rfl)⟩
theorem Vm:A0 Tryz.prog 76 Tryz.f76:=⟨⟨Tryz.func76,by kernel_rfl,by kernel_rfl⟩,A0.AK (by kernel_rfl)⟩
theorem VL:A0 Tryz.prog 77 Tryz.f77:=⟨⟨Tryz.func77,by kernel_rfl,by kernel_rfl⟩,A0.AK (by kernel_rfl)⟩
theorem VB:A0 Tryz.prog 78 Tryz.f78:=⟨⟨Tryz.func78,by kernel_rfl,by kernel_rfl⟩,A0.AK (by kernel_rfl)⟩
theorem WU:A0 Tryz.prog 79 Tryz.f79:=⟨⟨Tryz.func79,by kernel_rfl,by kernel_rfl⟩,A0.AK (by kernel_rfl)⟩
theorem om:A0 Tryz.prog 80 Tryz.f80:=⟨⟨Tryz.func80,by kernel_rfl,by kernel_rfl⟩,A0.AK (by kernel_rfl)⟩
theorem VD:A0 Tryz.prog 81 Tryz.f81:=⟨⟨Tryz.func81,by kernel_rfl,by kernel_rfl⟩,A0.AK (by kernel_rfl)⟩
theorem qK:A0 Tryz.prog 82 Tryz.f82:=⟨⟨Tryz.func82,by kernel_rfl,by kernel_rfl⟩,A0.AK (by kernel_rfl)⟩
theorem rL:A0 Tryz.prog 85 Tryz.f85:=⟨⟨Tryz.func85,by kernel_rfl,by kernel_rfl⟩,A0.AK (by kernel_rfl)⟩
theorem q8:A0 Tryz.prog 86 Tryz.f86:=⟨⟨Tryz.func86,by kernel_rfl,by kernel_rfl⟩,A0.AK (by kernel_rfl)⟩
theorem V6:A0 Tryz.prog 87 Tryz.f87:=⟨⟨Tryz.func87,by kernel_rfl,by kernel_rfl⟩,A0.AK (by kernel_rfl)⟩
theorem qC:A0 Tryz.prog 89 Tryz.f89:=⟨⟨Tryz.func89,by kernel_rfl,by kernel_rfl⟩,A0.AK (by kernel_rfl)⟩
theorem rX:A0 Tryz.prog 90 Tryz.f90:=⟨⟨Tryz.func90,by kernel_rfl,by kernel_rfl⟩,A0.AK (by kernel_rfl)⟩
theorem sY:A0 Tryz.prog 91 Tryz.f91:=⟨⟨Tryz.func91,by kernel_rfl,by kernel_rfl⟩,A0.AK (by kernel_rfl)⟩
theorem q7:A0 Tryz.prog 92 Tryz.f92:=⟨⟨Tryz.func92,by kernel_rfl,by kernel_rfl⟩,A0.AK (by kernel_rfl)⟩
theorem oV:A0 Tryz.prog 93 Tryz.f93:=⟨⟨Tryz.func93,by kernel_rfl,by kernel_rfl⟩,A0.AK (by kernel_rfl)⟩
theorem aC:A0 Tryz.prog 94 Tryz.f94:=⟨⟨Tryz.func94,by kernel_rfl,by kernel_rfl⟩,A0.AK (by kernel_rfl)⟩
theorem cD:A0 Tryz.prog 95 Tryz.f95:=⟨⟨Tryz.func95,by kernel_rfl,by kernel_rfl⟩,A0.AK (by kernel_rfl)⟩
theorem U1:A0 Tryz.prog 96 Tryz.f96:=⟨⟨Tryz.func96,by kernel_rfl,by kernel_rfl⟩,A0.AK (by kernel_rfl)⟩
theorem sI:A0 Tryz.prog 97 Tryz.f97:=⟨⟨Tryz.func97,by kernel_rfl,by kernel_rfl⟩,A0.AK (by kernel_rfl)⟩
theorem qR:A0 Tryz.prog 98 Tryz.f98:=⟨⟨Tryz.func98,by kernel_rfl,by kernel_rfl⟩,A0.AK (by kernel_rfl)⟩
theorem sg:A0 Tryz.prog 99 Tryz.f99:=⟨⟨Tryz.func99,by kernel_rfl,by kernel_rfl⟩,A0.AK (by kernel_rfl)⟩
theorem ln:A0 Tryz.prog 100 Tryz.f100:=⟨⟨Tryz.func100,by kernel_rfl,by kernel_rfl⟩,A0.AK (by kernel_rfl)⟩
theorem XF:A0 Tryz.prog 101 Tryz.f101:=⟨⟨Tryz.func101,by kernel_rfl,by kernel_rfl⟩,A0.AK (by kernel_rfl)⟩
theorem ly:A0 Tryz.prog 102 Tryz.f102:=⟨⟨Tryz.func102,by kernel_rfl,by kernel_rfl⟩,A0.AK (by kernel_rfl)⟩
theorem Qy:A0 Tryz.prog 103 Tryz.f103:=⟨⟨Tryz.func103,by kernel_rfl,by kernel_rfl⟩,A0.AK (by kernel_rfl)⟩
theorem SL:A0 Tryz.prog 104 Tryz.f104:=⟨⟨Tryz.func104,by kernel_rfl,by kernel_rfl⟩,A0.AK (by kernel_rfl)⟩
theorem Q8:A0 Tryz.prog 105 Tryz.f105:=⟨⟨Tryz.func105,by kernel_rfl,by kernel_rfl⟩,A0.AK (by kernel_rfl)⟩
theorem SB:A0 Tryz.prog 106 Tryz.f106:=⟨⟨Tryz.func106,by kernel_rfl,by kernel_rfl⟩,A0.AK (by kernel_rfl)⟩
theorem Rf:A0 Tryz.prog 107 Tryz.f107:=⟨⟨Tryz.func107,by kernel_rfl,by kernel_rfl⟩,A0.AK (by kernel_rfl)⟩
theorem nB:A0 Tryz.prog 108 Tryz.f108:=⟨⟨Tryz.func108,by kernel_rfl,by kernel_rfl⟩,A0.AK (by kernel_rfl)⟩
theorem ik:A0 Tryz.prog 109 Tryz.f109:=⟨⟨Tryz.func109,by kernel_rfl,by kernel_rfl⟩,A0.AK (by kernel_rfl)⟩
theorem nA:A0 Tryz.prog 110 Tryz.f110:=⟨⟨Tryz.func110,by kernel_rfl,by kernel_rfl⟩,A0.AK (by kernel_rfl)⟩
theorem jT:A0 Tryz.prog 112 Tryz.f112:=⟨⟨Tryz.func112,by kernel_rfl,by kernel_rfl⟩,A0.AK (by kernel_rfl)⟩
theorem jP:A0 Tryz.prog 113 Tryz.f113:=⟨⟨Tryz.func113,by kernel_rfl,by kernel_rfl⟩,A0.AK (by kernel_rfl)⟩
theorem lI:A0 Tryz.prog 114 Tryz.f114:=⟨⟨Tryz.func114,by kernel_rfl,by kernel_rfl⟩,A0.AK (by kernel_rfl)⟩
theorem fv:A0 Tryz.prog 115 Tryz.f115:=⟨⟨Tryz.func115,by kernel_rfl,by kernel_rfl⟩,A0.AK (by kernel_rfl)⟩
theorem fy:A0 Tryz.prog 116 Tryz.f116:=⟨⟨Tryz.func116,by kernel_rfl,by kernel_rfl⟩,A0.AK (by kernel_rfl)⟩
theorem iO:A0 Tryz.prog 117 Tryz.f117:=⟨⟨Tryz.func117,by kernel_rfl,by kernel_rfl⟩,A0.AK (by kernel_rfl)⟩
theorem mw:A0 Tryz.prog 118 Tryz.f118:=⟨⟨Tryz.func118,by kernel_rfl,by kernel_rfl⟩,A0.AK (by kernel_rfl)⟩
theorem Xk:A0 Tryz.prog 119 Tryz.f119:=⟨⟨Tryz.func119,by kernel_rfl,by kernel_rfl⟩,A0.AK (by kernel_rfl)⟩
theorem gZ:A0 Tryz.prog 120 Tryz.f120:=⟨⟨Tryz.func120,by kernel_rfl,by kernel_rfl⟩,A0.AK (by kernel_rfl)⟩
theorem kA:A0 Tryz.prog 121 Tryz.f121:=⟨⟨Tryz.func121,by kernel_rfl,by kernel_rfl⟩,A0.AK (by kernel_rfl)⟩
theorem lj:A0 Tryz.prog 122 Tryz.f122:=⟨⟨Tryz.func122,by kernel_rfl,by kernel_rfl⟩,A0.AK (by kernel_rfl)⟩
theorem fm:A0 Tryz.prog 123 Tryz.f123:=⟨⟨Tryz.func123,by kernel_rfl,by kernel_rfl⟩,A0.AK (by kernel_rfl)⟩
theorem mT:A0 Tryz.prog 124 Tryz.f124:=⟨⟨Tryz.func124,by kernel_rfl,by kernel_rfl⟩,A0.AK (by kernel_rfl)⟩
theorem R0:A0 Tryz.prog 126 Tryz.f126:=⟨⟨Tryz.func126,by kernel_rfl,by kernel_rfl⟩,A0.AK (by kernel_rfl)⟩
theorem RI:A0 Tryz.prog 127 Tryz.f127:=⟨⟨Tryz.func127,by kernel_rfl,by kernel_rfl⟩,A0.AK (by kernel_rfl)⟩
theorem RB:A0 Tryz.prog 128 Tryz.f128:=⟨⟨Tryz.func128,by kernel_rfl,by kernel_rfl⟩,A0.AK (by kernel_rfl)⟩
theorem SE:A0 Tryz.prog 129 Tryz.f129:=⟨⟨Tryz.func129,by kernel_rfl,by kernel_rfl⟩,A0.AK (by kernel_rfl)⟩
theorem kz:A0 Tryz.prog 130 Tryz.f130:=⟨⟨Tryz.func130,by kernel_rfl,by kernel_rfl⟩,A0.AK (by kernel_rfl)⟩
theorem kH:A0 Tryz.prog 132 Tryz.f132:=⟨⟨Tryz.func132,by kernel_rfl,by kernel_rfl⟩,A0.AK (by kernel_rfl)⟩
theorem gD:A0 Tryz.prog 133 Tryz.f133:=⟨⟨Tryz.func133,by kernel_rfl,by kernel_rfl⟩,A0.AK (by kernel_rfl)⟩
theorem fj:A0 Tryz.prog 134 Tryz.f134:=⟨⟨Tryz.func134,by kernel_rfl,by kernel_rfl⟩,A0.AK (by kernel_rfl)⟩
theorem ku:A0 Tryz.prog 136 Tryz.f136:=⟨⟨Tryz.func136,by kernel_rfl,by kernel_rfl⟩,A0.AK (by kernel_rfl)⟩
theorem gP:A0 Tryz.prog 137 Tryz.f137:=⟨⟨Tryz.func137,by kernel_rfl,by kernel_rfl⟩,A0.AK (by kernel_rfl)⟩
theorem iB:A0 Tryz.prog 138 Tryz.f138:=⟨⟨Tryz.func138,by kernel_rfl,by kernel_rfl⟩,A0.AK (by kernel_rfl)⟩
theorem gG:A0 Tryz.prog 139 Tryz.f139:=⟨⟨Tryz.func139,by kernel_rfl,by kernel_rfl⟩,A0.AK (by kernel_rfl)⟩
theorem gJ:A0 Tryz.prog 140 Tryz.f140:=⟨⟨Tryz.func140,by kernel_rfl,by kernel_rfl⟩,A0.AK (by kernel_rfl)⟩
theorem mH:A0 Tryz.prog 141 Tryz.f141:=⟨⟨Tryz.func141,by kernel_rfl,by kernel_rfl⟩,A0.AK (by kernel_rfl)⟩
theorem fc:A0 Tryz.prog 142 Tryz.f142:=⟨⟨Tryz.func142,by kernel_rfl,by kernel_rfl⟩,A0.AK (by kernel_rfl)⟩
theorem Rl:A0 Tryz.prog 143 Tryz.f143:=⟨⟨Tryz.func143,by kernel_rfl,by kernel_rfl⟩,A0.AK (by kernel_rfl)⟩
theorem iE:A0 Tryz.prog 144 Tryz.f144:=⟨⟨Tryz.func144,by kernel_rfl,by kernel_rfl⟩,A0.AK (by kernel_rfl)⟩
theorem gy:A0 Tryz.prog 145 Tryz.f145:=⟨⟨Tryz.func145,by kernel_rfl,by kernel_rfl⟩,A0.AK (by kernel_rfl)⟩
theorem gX:A0 Tryz.prog 146 Tryz.f146:=⟨⟨Tryz.func146,by kernel_rfl,by kernel_rfl⟩,A0.AK (by kernel_rfl)⟩
theorem ky:A0 Tryz.prog 147 Tryz.f147:=⟨⟨Tryz.func147,by kernel_rfl,by kernel_rfl⟩,A0.AK (by kernel_rfl)⟩
theorem iU:A0 Tryz.prog 148 Tryz.f148:=⟨⟨Tryz.func148,by kernel_rfl,by kernel_rfl⟩,A0.AK (by kernel_rfl)⟩
theorem Rh:A0 Tryz.prog 149 Tryz.f149:=⟨⟨Tryz.func149,by kernel_rfl,by kernel_rfl⟩,A0.AK (by kernel_rfl)⟩
theorem j0:A0 Tryz.prog 169 Tryz.f169:=⟨⟨Tryz.func169,by kernel_rfl,by kernel_rfl⟩,A0.AK (by kernel_rfl)⟩
theorem kB:A0 Tryz.prog 191 Tryz.f191:=⟨⟨Tryz.func191,by kernel_rfl,by kernel_rfl⟩,A0.AK (by kernel_rfl)⟩
theorem cC:FTOk Tryz.prog 13 Tryz.f13:=⟨Tryz.func13,by kernel_rfl,by kernel_rfl⟩
theorem bp:FTOk Tryz.prog 16 Tryz.f16:=⟨Tryz.func16,by kernel_rfl,by kernel_rfl⟩
noncomputable def ft:T Func:=(.node (.node (.node (.node (.node (.node (.node (.node .nil (some Tryz.f127) .nil) (some Tryz.f63) (.node .nil (some Tryz.f191) .nil)) (some Tryz.f31) (.node .nil (some Tryz.f95) .nil)) (some Tryz.f15) (.node (.node (.node .nil (some Tryz.f143) .nil) (some Tryz.f79) .nil) none .nil)) (some Tryz.f7) (.node (.node (.node .nil (some Tryz.f71) .nil) (some Tryz.f39) (.node .nil (some Tryz.f103) .nil)) (some Tryz.f23) (.node (.node .nil (some Tryz.f87) .nil) (some Tryz.f55) (.node .nil (some Tryz.f119) .nil)))) (some Tryz.f3) (.node (.node (.node (.node .nil (some Tryz.f67) .nil) (some Tryz.f35) (.node .nil (some Tryz.f99) .nil)) (some Tryz.f19) (.node (.node (.node .nil (some Tryz.f147) .nil) none .nil) (some Tryz.f51) (.node .nil (some Tryz.f115) .nil))) (some Tryz.f11) (.node (.node (.node (.node .nil (some Tryz.f139) .nil) (some Tryz.f75) .nil) (some Tryz.f43) (.node .nil (some Tryz.f107) .nil)) (some Tryz.f27) (.node (.node .nil (some Tryz.f91) .nil) (some Tryz.f59) (.node .nil (some Tryz.f123) .nil))))) none (.node (.node (.node (.node (.node (.node .nil (some Tryz.f129) .nil) (some Tryz.f65) .nil) (some Tryz.f33) (.node .nil (some Tryz.f97) .nil)) (some Tryz.f17) (.node (.node (.node .nil (some Tryz.f145) .nil) (some Tryz.f81) .nil) (some Tryz.f49) (.node .nil (some Tryz.f113) .nil))) (some Tryz.f9) (.node (.node (.node (.node .nil (some Tryz.f137) .nil) (some Tryz.f73) .nil) (some Tryz.f41) (.node (.node .nil (some Tryz.f169) .nil) (some Tryz.f105) .nil)) (some Tryz.f25) (.node (.node .nil (some Tryz.f89) .nil) (some Tryz.f57) (.node .nil (some Tryz.f121) .nil)))) (some Tryz.f5) (.node (.node (.node (.node (.node .nil (some Tryz.f133) .nil) (some Tryz.f69) .nil) (some Tryz.f37) (.node .nil (some Tryz.f101) .nil)) (some Tryz.f21) (.node (.node (.node .nil (some Tryz.f149) .nil) (some Tryz.f85) .nil) (some Tryz.f53) (.node .nil (some Tryz.f117) .nil))) none (.node (.node (.node (.node .nil (some Tryz.f141) .nil) (some Tryz.f77) .nil) (some Tryz.f45) (.node .nil (some Tryz.f109) .nil)) (some Tryz.f29) (.node (.node .nil (some Tryz.f93) .nil) (some Tryz.f61) .nil))))) none (.node (.node (.node (.node (.node (.node (.node .nil (some Tryz.f128) .nil) (some Tryz.f64) .nil) (some Tryz.f32) (.node .nil (some Tryz.f96) .nil)) none (.node (.node (.node .nil (some Tryz.f144) .nil) (some Tryz.f80) .nil) none (.node .nil (some Tryz.f112) .nil))) (some Tryz.f8) (.node (.node (.node (.node .nil (some Tryz.f136) .nil) (some Tryz.f72) .nil) (some Tryz.f40) (.node .nil (some Tryz.f104) .nil)) (some Tryz.f24) (.node .nil (some Tryz.f56) (.node .nil (some Tryz.f120) .nil)))) (some Tryz.f4) (.node (.node (.node (.node (.node .nil (some Tryz.f132) .nil) (some Tryz.f68) .nil) (some Tryz.f36) (.node .nil (some Tryz.f100) .nil)) (some Tryz.f20) (.node (.node (.node .nil (some Tryz.f148) .nil) none .nil) (some Tryz.f52) (.node .nil (some Tryz.f116) .nil))) (some Tryz.f12) (.node (.node (.node (.node .nil (some Tryz.f140) .nil) (some Tryz.f76) .nil) (some Tryz.f44) (.node .nil (some Tryz.f108) .nil)) (some Tryz.f28) (.node (.node .nil (some Tryz.f92) .nil) (some Tryz.f60) (.node .nil (some Tryz.f124) .nil))))) none (.node (.node (.node (.node (.node (.node .nil (some Tryz.f130) .nil) (some Tryz.f66) .nil) (some Tryz.f34) (.node .nil (some Tryz.f98) .nil)) (some Tryz.f18) (.node (.node (.node .nil (some Tryz.f146) .nil) (some Tryz.f82) .nil) (some Tryz.f50) (.node .nil (some Tryz.f114) .nil))) (some Tryz.f10) (.node (.node (.node (.node .nil (some Tryz.f138) .nil) (some Tryz.f74) .nil) (some Tryz.f42) (.node .nil (some Tryz.f106) .nil)) (some Tryz.f26) (.node (.node .nil (some Tryz.f90) .nil) (some Tryz.f58) (.node .nil (some Tryz.f122) .nil)))) (some Tryz.f6) (.node (.node (.node (.node (.node .nil (some Tryz.f134) .nil) (some Tryz.f70) .nil) (some Tryz.f38) (.node .nil (some Tryz.f102) .nil)) (some Tryz.f22) (.node (.node .nil (some Tryz.f86) .nil) none (.node .nil (some Tryz.f118) .nil))) (some Tryz.f14) (.node (.node (.node (.node .nil (some Tryz.f142) .nil) (some Tryz.f78) .nil) none (.node .nil (some Tryz.f110) .nil)) (some Tryz.f30) (.node (.node .nil (some Tryz.f94) .nil) (some Tryz.f62) (.node .nil (some Tryz.f126) .nil)))))))
noncomputable def fl:List (Nat×Func):= [(3,Tryz.f3),(7,Tryz.f7),(15,Tryz.f15),(31,Tryz.f31),(63,Tryz.f63),(127,Tryz.f127),(191,Tryz.f191),(95,Tryz.f95),(79,Tryz.f79),(143,Tryz.f143),(23,Tryz.f23),(39,Tryz.f39),(71,Tryz.f71),(103,Tryz.f103),(55,Tryz.f55),(87,Tryz.f87),(119,Tryz.f119),(11,Tryz.f11),(19,Tryz.f19),(35,Tryz.f35),(67,Tryz.f67),(99,Tryz.f99),(51,Tryz.f51),(147,Tryz.f147),(115,Tryz.f115),(27,Tryz.f27),(43,Tryz.f43),(75,Tryz.f75),(139,Tryz.f139),(107,Tryz.f107),(59,Tryz.f59),(91,Tryz.f91),(123,Tryz.f123),(5,Tryz.f5),(9,Tryz.f9),(17,Tryz.f17),(33,Tryz.f33),(65,Tryz.f65),(129,Tryz.f129),(97,Tryz.f97),(49,Tryz.f49),(81,Tryz.f81),(145,Tryz.f145),(113,Tryz.f113),(25,Tryz.f25),(41,Tryz.f41),(73,Tryz.f73),(137,Tryz.f137),(105,Tryz.f105),(169,Tryz.f169),(57,Tryz.f57),(89,Tryz.f89),(121,Tryz.f121),(21,Tryz.f21),(37,Tryz.f37),(69,Tryz.f69),(133,Tryz.f133),(101,Tryz.f101),(53,Tryz.f53),(85,Tryz.f85),(149,Tryz.f149),(117,Tryz.f117),(29,Tryz.f29),(45,Tryz.f45),(77,Tryz.f77),(141,Tryz.f141),(109,Tryz.f109),(61,Tryz.f61),(93,Tryz.f93),(4,Tryz.f4),(8,Tryz.f8),(32,Tryz.f32),(64,Tryz.f64),(128,Tryz.f128),(96,Tryz.f96),(80,Tryz.f80),(144,Tryz.f144),(112,Tryz.f112),(24,Tryz.f24),(40,Tryz.f40),(72,Tryz.f72),(136,Tryz.f136),(104,Tryz.f104),(56,Tryz.f56),(120,Tryz.f120),(12,Tryz.f12),(20,Tryz.f20),(36,Tryz.f36),(68,Tryz.f68),(132,Tryz.f132),(100,Tryz.f100),(52,Tryz.f52),(148,Tryz.f148),(116,Tryz.f116),(28,Tryz.f28),(44,Tryz.f44),(76,Tryz.f76),(140,Tryz.f140),(108,Tryz.f108),(60,Tryz.f60),(92,Tryz.f92),(124,Tryz.f124),(6,Tryz.f6),(10,Tryz.f10),(18,Tryz.f18),(34,Tryz.f34),(66,Tryz.f66),(130,Tryz.f130),(98,Tryz.f98),(50,Tryz.f50),(82,Tryz.f82),(146,Tryz.f146),(114,Tryz.f114),(26,Tryz.f26),(42,Tryz.f42),(74,Tryz.f74),(138,Tryz.f138),(106,Tryz.f106),(58,Tryz.f58),(90,Tryz.f90),(122,Tryz.f122),(14,Tryz.f14),(22,Tryz.f22),(38,Tryz.f38),(70,Tryz.f70),(134,Tryz.f134),(102,Tryz.f102),(86,Tryz.f86),(118,Tryz.f118),(30,Tryz.f30),(78,Tryz.f78),(142,Tryz.f142),(110,Tryz.f110),(62,Tryz.f62),(94,Tryz.f94),(126,Tryz.f126)]
theorem zg:ft.vB 1 0=fl:=by kernel_rfl
set_option maxRecDepth 100000 in
theorem AA7:∀p∈fl,A0 Tryz.prog p.1 p.2:=List.forall_mem_cons.2 ⟨wY,List.forall_mem_cons.2 ⟨uK,List.forall_mem_cons.2 ⟨V4,List.forall_mem_cons.2 ⟨pX,List.forall_mem_cons.2 ⟨sK,List.forall_mem_cons.2 ⟨RI,List.forall_mem_cons.2 ⟨kB,List.forall_mem_cons.2 ⟨cD,List.forall_mem_cons.2 ⟨WU,List.forall_mem_cons.2 ⟨Rl,List.forall_mem_cons.2 ⟨VA,List.forall_mem_cons.2 ⟨Ui,List.forall_mem_cons.2 ⟨qX,List.forall_mem_cons.2 ⟨Qy,List.forall_mem_cons.2 ⟨rN,List.forall_mem_cons.2 ⟨V6,List.forall_mem_cons.2 ⟨Xk,List.forall_mem_cons.2 ⟨rB,List.forall_mem_cons.2 ⟨oz,List.forall_mem_cons.2 ⟨WH,List.forall_mem_cons.2 ⟨pS,List.forall_mem_cons.2 ⟨sg,List.forall_mem_cons.2 ⟨si,List.forall_mem_cons.2 ⟨ky,List.forall_mem_cons.2 ⟨fv,List.forall_mem_cons.2 ⟨Uo,List.forall_mem_cons.2 ⟨WD,List.forall_mem_cons.2 ⟨Uf,List.forall_mem_cons.2 ⟨gG,List.forall_mem_cons.2 ⟨Rf,List.forall_mem_cons.2 ⟨n5,List.forall_mem_cons.2 ⟨sY,List.forall_mem_cons.2 ⟨fm,List.forall_mem_cons.2 ⟨xX,List.forall_mem_cons.2 ⟨aA,List.forall_mem_cons.2 ⟨bQ,List.forall_mem_cons.2 ⟨Qf,List.forall_mem_cons.2 ⟨WI,List.forall_mem_cons.2 ⟨SE,List.forall_mem_cons.2 ⟨sI,List.forall_mem_cons.2 ⟨pR,List.forall_mem_cons.2 ⟨VD,List.forall_mem_cons.2 ⟨gy,List.forall_mem_cons.2 ⟨jP,List.forall_mem_cons.2 ⟨bH,List.forall_mem_cons.2 ⟨Uw,List.forall_mem_cons.2 ⟨bz,List.forall_mem_cons.2 ⟨gP,List.forall_mem_cons.2 ⟨Q8,List.forall_mem_cons.2 ⟨j0,List.forall_mem_cons.2 ⟨qN,List.forall_mem_cons.2 ⟨qC,List.forall_mem_cons.2 ⟨kA,List.forall_mem_cons.2 ⟨rq,List.forall_mem_cons.2 ⟨Uy,List.forall_mem_cons.2 ⟨Uv,List.forall_mem_cons.2 ⟨gD,List.forall_mem_cons.2 ⟨XF,List.forall_mem_cons.2 ⟨qp,List.forall_mem_cons.2 ⟨rL,List.forall_mem_cons.2 ⟨Rh,List.forall_mem_cons.2 ⟨iO,List.forall_mem_cons.2 ⟨ng,List.forall_mem_cons.2 ⟨QY,List.forall_mem_cons.2 ⟨VL,List.forall_mem_cons.2 ⟨mH,List.forall_mem_cons.2 ⟨ik,List.forall_mem_cons.2 ⟨rh,List.forall_mem_cons.2 ⟨oV,List.forall_mem_cons.2 ⟨Zk,List.forall_mem_cons.2 ⟨ZY,List.forall_mem_cons.2 ⟨qF,List.forall_mem_cons.2 ⟨VZ,List.forall_mem_cons.2 ⟨RB,List.forall_mem_cons.2 ⟨U1,List.forall_mem_cons.2 ⟨om,List.forall_mem_cons.2 ⟨iE,List.forall_mem_cons.2 ⟨jT,List.forall_mem_cons.2 ⟨Ut,List.forall_mem_cons.2 ⟨VN,List.forall_mem_cons.2 ⟨rE,List.forall_mem_cons.2 ⟨ku,List.forall_mem_cons.2 ⟨SL,List.forall_mem_cons.2 ⟨qP,List.forall_mem_cons.2 ⟨gZ,List.forall_mem_cons.2 ⟨U0,List.forall_mem_cons.2 ⟨ag,List.forall_mem_cons.2 ⟨cF,List.forall_mem_cons.2 ⟨sF,List.forall_mem_cons.2 ⟨kH,List.forall_mem_cons.2 ⟨ln,List.forall_mem_cons.2 ⟨oT,List.forall_mem_cons.2 ⟨iU,List.forall_mem_cons.2 ⟨fy,List.forall_mem_cons.2 ⟨aE,List.forall_mem_cons.2 ⟨bU,List.forall_mem_cons.2 ⟨Vm,List.forall_mem_cons.2 ⟨gJ,List.forall_mem_cons.2 ⟨nB,List.forall_mem_cons.2 ⟨qE,List.forall_mem_cons.2 ⟨q7,List.forall_mem_cons.2 ⟨mT,List.forall_mem_cons.2 ⟨ZV,List.forall_mem_cons.2 ⟨ph,List.forall_mem_cons.2 ⟨pT,List.forall_mem_cons.2 ⟨QW,List.forall_mem_cons.2 ⟨bN,List.forall_mem_cons.2 ⟨kz,List.forall_mem_cons.2 ⟨qR,List.forall_mem_cons.2 ⟨oE,List.forall_mem_cons.2 ⟨qK,List.forall_mem_cons.2 ⟨gX,List.forall_mem_cons.2 ⟨lI,List.forall_mem_cons.2 ⟨bu,List.forall_mem_cons.2 ⟨ak,List.forall_mem_cons.2 ⟨Vk,List.forall_mem_cons.2 ⟨iB,List.forall_mem_cons.2 ⟨SB,List.forall_mem_cons.2 ⟨sZ,List.forall_mem_cons.2 ⟨rX,List.forall_mem_cons.2 ⟨lj,List.forall_mem_cons.2 ⟨VK,List.forall_mem_cons.2 ⟨rF,List.forall_mem_cons.2 ⟨Vi,List.forall_mem_cons.2 ⟨rr,List.forall_mem_cons.2 ⟨fj,List.forall_mem_cons.2 ⟨ly,List.forall_mem_cons.2 ⟨q8,List.forall_mem_cons.2 ⟨mw,List.forall_mem_cons.2 ⟨oQ,List.forall_mem_cons.2 ⟨VB,List.forall_mem_cons.2 ⟨fc,List.forall_mem_cons.2 ⟨nA,List.forall_mem_cons.2 ⟨pU,List.forall_mem_cons.2 ⟨aC,List.forall_mem_cons.2 ⟨R0,(fun _ h=>by cases h)⟩⟩⟩⟩⟩⟩⟩⟩⟩⟩⟩⟩⟩⟩⟩⟩⟩⟩⟩⟩⟩⟩⟩⟩⟩⟩⟩⟩⟩⟩⟩⟩⟩⟩⟩⟩⟩⟩⟩⟩⟩⟩⟩⟩⟩⟩⟩⟩⟩⟩⟩⟩⟩⟩⟩⟩⟩⟩⟩⟩⟩⟩⟩⟩⟩⟩⟩⟩⟩⟩⟩⟩⟩⟩⟩⟩⟩⟩⟩⟩⟩⟩⟩⟩⟩⟩⟩⟩⟩⟩⟩⟩⟩⟩⟩⟩⟩⟩⟩⟩⟩⟩⟩⟩⟩⟩⟩⟩⟩⟩⟩⟩⟩⟩⟩⟩⟩⟩⟩⟩⟩⟩⟩⟩⟩⟩⟩⟩⟩⟩⟩⟩⟩⟩⟩⟩
theorem yl:∀f fn,ft.get f=some fn→A0 Tryz.prog f fn:=fun k i h=>AA7 (k,i) (zg ▸ T.aO h)
noncomputable def run (lf d:Nat):Go.Dm.Callee:=Rw tt.get ft.get (fun cl=>draw tt.get cl) lf d
theorem env (lf d:Nat):Env Tryz.prog tt.get (run lf d):=kJ Bu yl (fun cl E=>rD cl E) lf d
end Go.Proofs.YthlhnangbinhoaaGreatDoor.Dm
