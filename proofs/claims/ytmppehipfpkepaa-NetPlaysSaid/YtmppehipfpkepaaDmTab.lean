/- The types and the functions of this translation as the abstract machine has them, and that they are the program's own. -/
import Derived.Test.YtmppehipfpkepaaDmD
import Derived.Test.YtmppehipfpkepaaRows
namespace Go.Proofs.Ytmppehipfpkepaa.Dm
open Go.Dm
noncomputable def Ph:TI:= {ud:= .int .i64,size:=1,bytes:=8,zero:=(.int .i64 (0)),cmp:=true}
theorem xl:Ct Try.prog 3 Ph:=Ct.of (by kernel_rfl) (by kernel_rfl) (by kernel_rfl) (by kernel_rfl) (fun _=>⟨by kernel_rfl,by kernel_rfl⟩)
noncomputable def wA:TI:= {ud:= .bool,size:=1,bytes:=1,zero:=(.bool false),cmp:=true}
theorem za:Ct Try.prog 4 wA:=Ct.of (by kernel_rfl) (by kernel_rfl) (by kernel_rfl) (by kernel_rfl) (fun _=>⟨by kernel_rfl,by kernel_rfl⟩)
noncomputable def ti5:TI:= {ud:= .int .u8,size:=1,bytes:=1,zero:=(.int .u8 (0)),cmp:=true}
theorem xF:Ct Try.prog 5 ti5:=Ct.of (by kernel_rfl) (by kernel_rfl) (by kernel_rfl) (by kernel_rfl) (fun _=>⟨by kernel_rfl,by kernel_rfl⟩)
noncomputable def yY:TI:= {ud:= .string,size:=1,bytes:=16,zero:=(.string ⟨⟨[]⟩⟩),cmp:=true}
theorem yV:Ct Try.prog 9 yY:=Ct.of (by kernel_rfl) (by kernel_rfl) (by kernel_rfl) (by kernel_rfl) (fun _=>⟨by kernel_rfl,by kernel_rfl⟩)
noncomputable def zV:TI:= {ud:= .slice 5,size:=1,bytes:=24,zero:=(.slice none 0 0),cmp:=false}
theorem rT:Ct Try.prog 22 zV:=Ct.of (by kernel_rfl) (by kernel_rfl) (by kernel_rfl) (by kernel_rfl) (by intro h;cases h)
noncomputable def jL:TI:= {ud:= .pointer 97,size:=1,bytes:=8,zero:=(.pointer none),cmp:=true}
theorem sy:Ct Try.prog 24 jL:=Ct.of (by kernel_rfl) (by kernel_rfl) (by kernel_rfl) (by kernel_rfl) (fun _=>⟨by kernel_rfl,by kernel_rfl⟩)
noncomputable def xS:TI:= {ud:= .slice 32,size:=1,bytes:=24,zero:=(.slice none 0 0),cmp:=false}
theorem sH:Ct Try.prog 26 xS:=Ct.of (by kernel_rfl) (by kernel_rfl) (by kernel_rfl) (by kernel_rfl) (by intro h;cases h)
noncomputable def po:TI:= {ud:= .struct #[{name:= "Copies",type:=3,offset:=0,embedded:=false,tag:= "",pkgPath:= "",byteOffset:=0}, {name:= "Late",type:=3,offset:=1,embedded:=false,tag:= "",pkgPath:= "",byteOffset:=8}, {name:= "Second",type:=3,offset:=2,embedded:=false,tag:= "",pkgPath:= "",byteOffset:=16}],size:=3,bytes:=24,zero:=(.agg ⟨[(.int .i64 (0)),(.int .i64 (0)),(.int .i64 (0))]⟩),cmp:=true}
theorem qb:Ct Try.prog 28 po:=Ct.of (by kernel_rfl) (by kernel_rfl) (by kernel_rfl) (by kernel_rfl) (fun _=>⟨by kernel_rfl,by kernel_rfl⟩)
noncomputable def tF:TI:= {ud:= .int .i64,size:=1,bytes:=8,zero:=(.int .i64 (0)),cmp:=true}
theorem vF:Ct Try.prog 29 tF:=Ct.of (by kernel_rfl) (by kernel_rfl) (by kernel_rfl) (by kernel_rfl) (fun _=>⟨by kernel_rfl,by kernel_rfl⟩)
noncomputable def pM:TI:= {ud:= .int .u64,size:=1,bytes:=8,zero:=(.int .u64 (0)),cmp:=true}
theorem tA:Ct Try.prog 32 pM:=Ct.of (by kernel_rfl) (by kernel_rfl) (by kernel_rfl) (by kernel_rfl) (fun _=>⟨by kernel_rfl,by kernel_rfl⟩)
noncomputable def cp:TI:= {ud:= .slice 37,size:=1,bytes:=24,zero:=(.slice none 0 0),cmp:=false}
theorem q8:Ct Try.prog 34 cp:=Ct.of (by kernel_rfl) (by kernel_rfl) (by kernel_rfl) (by kernel_rfl) (by intro h;cases h)
noncomputable def WW:TI:= {ud:= .struct #[{name:= "From",type:=3,offset:=0,embedded:=false,tag:= "",pkgPath:= "",byteOffset:=0}, {name:= "To",type:=3,offset:=1,embedded:=false,tag:= "",pkgPath:= "",byteOffset:=8}, {name:= "Bytes",type:=9,offset:=2,embedded:=false,tag:= "",pkgPath:= "",byteOffset:=16}],size:=3,bytes:=32,zero:=(.agg ⟨[(.int .i64 (0)),(.int .i64 (0)),(.string ⟨⟨[]⟩⟩)]⟩),cmp:=true}
theorem qk:Ct Try.prog 37 WW:=Ct.of (by kernel_rfl) (by kernel_rfl) (by kernel_rfl) (by kernel_rfl) (fun _=>⟨by kernel_rfl,by kernel_rfl⟩)
noncomputable def cR:TI:= {ud:= .slice 63,size:=1,bytes:=24,zero:=(.slice none 0 0),cmp:=false}
theorem vh:Ct Try.prog 39 cR:=Ct.of (by kernel_rfl) (by kernel_rfl) (by kernel_rfl) (by kernel_rfl) (by intro h;cases h)
noncomputable def Xb:TI:= {ud:= .slice 3,size:=1,bytes:=24,zero:=(.slice none 0 0),cmp:=true}
theorem qO:Ct Try.prog 40 Xb:=Ct.of (by kernel_rfl) (by kernel_rfl) (by kernel_rfl) (by kernel_rfl) (fun _=>⟨by kernel_rfl,by kernel_rfl⟩)
noncomputable def cZ:TI:= {ud:= .slice 61,size:=1,bytes:=24,zero:=(.slice none 0 0),cmp:=false}
theorem tS:Ct Try.prog 50 cZ:=Ct.of (by kernel_rfl) (by kernel_rfl) (by kernel_rfl) (by kernel_rfl) (by intro h;cases h)
noncomputable def nC:TI:= {ud:= .struct #[{name:= "Routers",type:=40,offset:=0,embedded:=false,tag:= "",pkgPath:= "",byteOffset:=0}, {name:= "Links",type:=50,offset:=1,embedded:=false,tag:= "",pkgPath:= "",byteOffset:=24}, {name:= "Rules",type:=39,offset:=2,embedded:=false,tag:= "",pkgPath:= "",byteOffset:=48}, {name:= "Late",type:=3,offset:=3,embedded:=false,tag:= "",pkgPath:= "",byteOffset:=72}],size:=4,bytes:=80,zero:=(.agg ⟨[(.slice none 0 0),(.slice none 0 0),(.slice none 0 0),(.int .i64 (0))]⟩),cmp:=false}
theorem tv:Ct Try.prog 52 nC:=Ct.of (by kernel_rfl) (by kernel_rfl) (by kernel_rfl) (by kernel_rfl) (by intro h;cases h)
noncomputable def bR:TI:= {ud:= .slice 66,size:=1,bytes:=24,zero:=(.slice none 0 0),cmp:=false}
theorem qi:Ct Try.prog 53 bR:=Ct.of (by kernel_rfl) (by kernel_rfl) (by kernel_rfl) (by kernel_rfl) (by intro h;cases h)
noncomputable def re:TI:= {ud:= .pointer 73,size:=1,bytes:=8,zero:=(.pointer none),cmp:=false}
theorem td:Ct Try.prog 57 re:=Ct.of (by kernel_rfl) (by kernel_rfl) (by kernel_rfl) (by kernel_rfl) (by intro h;cases h)
noncomputable def ZY:TI:= {ud:= .struct #[{name:= "A",type:=3,offset:=0,embedded:=false,tag:= "",pkgPath:= "",byteOffset:=0}, {name:= "B",type:=3,offset:=1,embedded:=false,tag:= "",pkgPath:= "",byteOffset:=8}, {name:= "Cost",type:=3,offset:=2,embedded:=false,tag:= "",pkgPath:= "",byteOffset:=16}],size:=3,bytes:=24,zero:=(.agg ⟨[(.int .i64 (0)),(.int .i64 (0)),(.int .i64 (0))]⟩),cmp:=false}
theorem vb:Ct Try.prog 61 ZY:=Ct.of (by kernel_rfl) (by kernel_rfl) (by kernel_rfl) (by kernel_rfl) (by intro h;cases h)
noncomputable def Wu:TI:= {ud:= .struct #[{name:= "From",type:=3,offset:=0,embedded:=false,tag:= "",pkgPath:= "",byteOffset:=0}, {name:= "To",type:=3,offset:=1,embedded:=false,tag:= "",pkgPath:= "",byteOffset:=8}, {name:= "Nth",type:=3,offset:=2,embedded:=false,tag:= "",pkgPath:= "",byteOffset:=16}, {name:= "Kind",type:=3,offset:=3,embedded:=false,tag:= "",pkgPath:= "",byteOffset:=24}, {name:= "By",type:=3,offset:=4,embedded:=false,tag:= "",pkgPath:= "",byteOffset:=32}],size:=5,bytes:=40,zero:=(.agg ⟨[(.int .i64 (0)),(.int .i64 (0)),(.int .i64 (0)),(.int .i64 (0)),(.int .i64 (0))]⟩),cmp:=false}
theorem sJ:Ct Try.prog 63 Wu:=Ct.of (by kernel_rfl) (by kernel_rfl) (by kernel_rfl) (by kernel_rfl) (by intro h;cases h)
noncomputable def iz:TI:= {ud:= .struct #[{name:= "Kind",type:=3,offset:=0,embedded:=false,tag:= "",pkgPath:= "",byteOffset:=0}, {name:= "A",type:=3,offset:=1,embedded:=false,tag:= "",pkgPath:= "",byteOffset:=8}, {name:= "B",type:=3,offset:=2,embedded:=false,tag:= "",pkgPath:= "",byteOffset:=16}, {name:= "Bytes",type:=9,offset:=3,embedded:=false,tag:= "",pkgPath:= "",byteOffset:=24}],size:=4,bytes:=40,zero:=(.agg ⟨[(.int .i64 (0)),(.int .i64 (0)),(.int .i64 (0)),(.string ⟨⟨[]⟩⟩)]⟩),cmp:=false}
theorem va:Ct Try.prog 66 iz:=Ct.of (by kernel_rfl) (by kernel_rfl) (by kernel_rfl) (by kernel_rfl) (by intro h;cases h)
noncomputable def bM:TI:= {ud:= .slice 4,size:=1,bytes:=24,zero:=(.slice none 0 0),cmp:=false}
theorem tR:Ct Try.prog 67 bM:=Ct.of (by kernel_rfl) (by kernel_rfl) (by kernel_rfl) (by kernel_rfl) (by intro h;cases h)
noncomputable def mK:TI:= {ud:= .array 25 4,size:=25,bytes:=25,zero:=(.agg ⟨(Gw 25 (.bool false))⟩),cmp:=false}
theorem uC:Ct Try.prog 68 mK:=Ct.of (by kernel_rfl) (by kernel_rfl) (by kernel_rfl) (by kernel_rfl) (by intro h;cases h)
noncomputable def m9:TI:= {ud:= .array 25 3,size:=25,bytes:=200,zero:=(.agg ⟨(Gw 25 (.int .i64 (0)))⟩),cmp:=false}
theorem rS:Ct Try.prog 69 m9:=Ct.of (by kernel_rfl) (by kernel_rfl) (by kernel_rfl) (by kernel_rfl) (by intro h;cases h)
noncomputable def mG:TI:= {ud:= .array 25 69,size:=625,bytes:=5000,zero:=(.agg ⟨(Gw 625 (.int .i64 (0)))⟩),cmp:=false}
theorem vg:Ct Try.prog 70 mG:=Ct.of (by kernel_rfl) (by kernel_rfl) (by kernel_rfl) (by kernel_rfl) (by intro h;cases h)
noncomputable def aX:TI:= {ud:= .slice 144,size:=1,bytes:=24,zero:=(.slice none 0 0),cmp:=false}
theorem sg:Ct Try.prog 71 aX:=Ct.of (by kernel_rfl) (by kernel_rfl) (by kernel_rfl) (by kernel_rfl) (by intro h;cases h)
noncomputable def pc:TI:= {ud:= .struct #[{name:= "Routers",type:=40,offset:=0,embedded:=false,tag:= "",pkgPath:= "",byteOffset:=0}, {name:= "Links",type:=50,offset:=1,embedded:=false,tag:= "",pkgPath:= "",byteOffset:=24}, {name:= "Rules",type:=39,offset:=2,embedded:=false,tag:= "",pkgPath:= "",byteOffset:=48}, {name:= "Late",type:=3,offset:=3,embedded:=false,tag:= "",pkgPath:= "",byteOffset:=72}, {name:= "Now",type:=32,offset:=4,embedded:=false,tag:= "",pkgPath:= "",byteOffset:=80}, {name:= "IsCut",type:=67,offset:=5,embedded:=false,tag:= "",pkgPath:= "",byteOffset:=88}, {name:= "Stopped",type:=68,offset:=6,embedded:=false,tag:= "",pkgPath:= "",byteOffset:=112}, {name:= "Sent",type:=70,offset:=31,embedded:=false,tag:= "",pkgPath:= "",byteOffset:=144}, {name:= "Ways",type:=71,offset:=656,embedded:=false,tag:= "",pkgPath:= "",byteOffset:=5144}],size:=657,bytes:=5168,zero:=(.agg ⟨([(.slice none 0 0),(.slice none 0 0),(.slice none 0 0)] ++ [(.int .i64 (0))] ++ [(.int .u64 (0))] ++ [(.slice none 0 0)] ++ Gw 25 (.bool false) ++ Gw 625 (.int .i64 (0)) ++ [(.slice none 0 0)])⟩),cmp:=false}
theorem sP:Ct Try.prog 73 pc:=Ct.of (by kernel_rfl) (by kernel_rfl) (by kernel_rfl) (by kernel_rfl) (by intro h;cases h)
noncomputable def cI:TI:= {ud:= .slice 86,size:=1,bytes:=24,zero:=(.slice none 0 0),cmp:=false}
theorem sW:Ct Try.prog 74 cI:=Ct.of (by kernel_rfl) (by kernel_rfl) (by kernel_rfl) (by kernel_rfl) (by intro h;cases h)
noncomputable def nK:TI:= {ud:= .struct #[{name:= "Nodes",type:=40,offset:=0,embedded:=false,tag:= "",pkgPath:= "",byteOffset:=0}, {name:= "Edges",type:=74,offset:=1,embedded:=false,tag:= "",pkgPath:= "",byteOffset:=24}],size:=2,bytes:=48,zero:=(.agg ⟨[(.slice none 0 0),(.slice none 0 0)]⟩),cmp:=false}
theorem tP:Ct Try.prog 76 nK:=Ct.of (by kernel_rfl) (by kernel_rfl) (by kernel_rfl) (by kernel_rfl) (by intro h;cases h)
noncomputable def bS:TI:= {ud:= .slice 90,size:=1,bytes:=24,zero:=(.slice none 0 0),cmp:=false}
theorem tx:Ct Try.prog 82 bS:=Ct.of (by kernel_rfl) (by kernel_rfl) (by kernel_rfl) (by kernel_rfl) (by intro h;cases h)
noncomputable def gJ:TI:= {ud:= .struct #[{name:= "From",type:=3,offset:=0,embedded:=false,tag:= "",pkgPath:= "",byteOffset:=0}, {name:= "To",type:=3,offset:=1,embedded:=false,tag:= "",pkgPath:= "",byteOffset:=8}, {name:= "Cost",type:=3,offset:=2,embedded:=false,tag:= "",pkgPath:= "",byteOffset:=16}],size:=3,bytes:=24,zero:=(.agg ⟨[(.int .i64 (0)),(.int .i64 (0)),(.int .i64 (0))]⟩),cmp:=true}
theorem sN:Ct Try.prog 86 gJ:=Ct.of (by kernel_rfl) (by kernel_rfl) (by kernel_rfl) (by kernel_rfl) (fun _=>⟨by kernel_rfl,by kernel_rfl⟩)
noncomputable def jY:TI:= {ud:= .struct #[{name:= "To",type:=3,offset:=0,embedded:=false,tag:= "",pkgPath:= "",byteOffset:=0}, {name:= "Cost",type:=3,offset:=1,embedded:=false,tag:= "",pkgPath:= "",byteOffset:=8}],size:=2,bytes:=16,zero:=(.agg ⟨[(.int .i64 (0)),(.int .i64 (0))]⟩),cmp:=true}
theorem sG:Ct Try.prog 90 jY:=Ct.of (by kernel_rfl) (by kernel_rfl) (by kernel_rfl) (by kernel_rfl) (fun _=>⟨by kernel_rfl,by kernel_rfl⟩)
noncomputable def ad:TI:= {ud:= .map 99 3,size:=1,bytes:=8,zero:=(.map none),cmp:=true}
theorem uK:Ct Try.prog 91 ad:=Ct.of (by kernel_rfl) (by kernel_rfl) (by kernel_rfl) (by kernel_rfl) (fun _=>⟨by kernel_rfl,by kernel_rfl⟩)
noncomputable def iY:TI:= {ud:= .map 99 4,size:=1,bytes:=8,zero:=(.map none),cmp:=false}
theorem tQ:Ct Try.prog 92 iY:=Ct.of (by kernel_rfl) (by kernel_rfl) (by kernel_rfl) (by kernel_rfl) (by intro h;cases h)
noncomputable def iM:TI:= {ud:= .map 3 4,size:=1,bytes:=8,zero:=(.map none),cmp:=false}
theorem rz:Ct Try.prog 93 iM:=Ct.of (by kernel_rfl) (by kernel_rfl) (by kernel_rfl) (by kernel_rfl) (by intro h;cases h)
noncomputable def iU:TI:= {ud:= .pointer 119,size:=1,bytes:=8,zero:=(.pointer none),cmp:=true}
theorem sU:Ct Try.prog 94 iU:=Ct.of (by kernel_rfl) (by kernel_rfl) (by kernel_rfl) (by kernel_rfl) (fun _=>⟨by kernel_rfl,by kernel_rfl⟩)
noncomputable def fY:TI:= {ud:= .pointer 116,size:=1,bytes:=8,zero:=(.pointer none),cmp:=true}
theorem rF:Ct Try.prog 95 fY:=Ct.of (by kernel_rfl) (by kernel_rfl) (by kernel_rfl) (by kernel_rfl) (fun _=>⟨by kernel_rfl,by kernel_rfl⟩)
noncomputable def nV:TI:= {ud:= .struct #[{name:= "routers",type:=40,offset:=0,embedded:=false,tag:= "",pkgPath:= "dandelion/net",byteOffset:=0}, {name:= "links",type:=91,offset:=1,embedded:=false,tag:= "",pkgPath:= "dandelion/net",byteOffset:=24}, {name:= "cut",type:=92,offset:=2,embedded:=false,tag:= "",pkgPath:= "dandelion/net",byteOffset:=32}, {name:= "stopped",type:=93,offset:=3,embedded:=false,tag:= "",pkgPath:= "dandelion/net",byteOffset:=40}, {name:= "plan",type:=94,offset:=4,embedded:=false,tag:= "",pkgPath:= "dandelion/net",byteOffset:=48}, {name:= "late",type:=32,offset:=5,embedded:=false,tag:= "",pkgPath:= "dandelion/net",byteOffset:=56}, {name:= "now",type:=32,offset:=6,embedded:=false,tag:= "",pkgPath:= "dandelion/net",byteOffset:=64}, {name:= "ways",type:=95,offset:=7,embedded:=false,tag:= "",pkgPath:= "dandelion/net",byteOffset:=72}],size:=8,bytes:=80,zero:=(.agg ⟨[(.slice none 0 0),(.map none),(.map none),(.map none),(.pointer none),(.int .u64 (0)),(.int .u64 (0)),(.pointer none)]⟩),cmp:=false}
theorem s7:Ct Try.prog 97 nV:=Ct.of (by kernel_rfl) (by kernel_rfl) (by kernel_rfl) (by kernel_rfl) (by intro h;cases h)
noncomputable def bP:TI:= {ud:= .struct #[{name:= "a",type:=3,offset:=0,embedded:=false,tag:= "",pkgPath:= "dandelion/net",byteOffset:=0}, {name:= "b",type:=3,offset:=1,embedded:=false,tag:= "",pkgPath:= "dandelion/net",byteOffset:=8}],size:=2,bytes:=16,zero:=(.agg ⟨[(.int .i64 (0)),(.int .i64 (0))]⟩),cmp:=true}
theorem ub:Ct Try.prog 99 bP:=Ct.of (by kernel_rfl) (by kernel_rfl) (by kernel_rfl) (by kernel_rfl) (fun _=>⟨by kernel_rfl,by kernel_rfl⟩)
noncomputable def OZ:TI:= {ud:= .slice 124,size:=1,bytes:=24,zero:=(.slice none 0 0),cmp:=false}
theorem lu:Ct Try.prog 114 OZ:=Ct.of (by kernel_rfl) (by kernel_rfl) (by kernel_rfl) (by kernel_rfl) (by intro h;cases h)
noncomputable def aF:TI:= {ud:= .struct #[{name:= "there",type:=4,offset:=0,embedded:=false,tag:= "",pkgPath:= "dandelion/calend",byteOffset:=0}, {name:= "last",type:=3,offset:=1,embedded:=false,tag:= "",pkgPath:= "dandelion/calend",byteOffset:=8}, {name:= "l",type:=114,offset:=2,embedded:=false,tag:= "",pkgPath:= "dandelion/calend",byteOffset:=16}],size:=3,bytes:=40,zero:=(.agg ⟨[(.bool false),(.int .i64 (0)),(.slice none 0 0)]⟩),cmp:=false}
theorem oD:Ct Try.prog 116 aF:=Ct.of (by kernel_rfl) (by kernel_rfl) (by kernel_rfl) (by kernel_rfl) (by intro h;cases h)
noncomputable def Td:TI:= {ud:= .map 121 63,size:=1,bytes:=8,zero:=(.map none),cmp:=true}
theorem kV:Ct Try.prog 117 Td:=Ct.of (by kernel_rfl) (by kernel_rfl) (by kernel_rfl) (by kernel_rfl) (fun _=>⟨by kernel_rfl,by kernel_rfl⟩)
noncomputable def Yw:TI:= {ud:= .struct #[{name:= "rules",type:=117,offset:=0,embedded:=false,tag:= "",pkgPath:= "dandelion/fate",byteOffset:=0}, {name:= "asked",type:=70,offset:=1,embedded:=false,tag:= "",pkgPath:= "dandelion/fate",byteOffset:=8}],size:=626,bytes:=5008,zero:=(.agg ⟨([(.map none)] ++ Gw 625 (.int .i64 (0)))⟩),cmp:=false}
theorem ko:Ct Try.prog 119 Yw:=Ct.of (by kernel_rfl) (by kernel_rfl) (by kernel_rfl) (by kernel_rfl) (by intro h;cases h)
noncomputable def TM:TI:= {ud:= .struct #[{name:= "from",type:=3,offset:=0,embedded:=false,tag:= "",pkgPath:= "dandelion/fate",byteOffset:=0}, {name:= "to",type:=3,offset:=1,embedded:=false,tag:= "",pkgPath:= "dandelion/fate",byteOffset:=8}, {name:= "nth",type:=3,offset:=2,embedded:=false,tag:= "",pkgPath:= "dandelion/fate",byteOffset:=16}],size:=3,bytes:=24,zero:=(.agg ⟨[(.int .i64 (0)),(.int .i64 (0)),(.int .i64 (0))]⟩),cmp:=true}
theorem oo:Ct Try.prog 121 TM:=Ct.of (by kernel_rfl) (by kernel_rfl) (by kernel_rfl) (by kernel_rfl) (fun _=>⟨by kernel_rfl,by kernel_rfl⟩)
noncomputable def EA:TI:= {ud:= .struct #[{name:= "at",type:=32,offset:=0,embedded:=false,tag:= "",pkgPath:= "dandelion/calend",byteOffset:=0}, {name:= "ticket",type:=3,offset:=1,embedded:=false,tag:= "",pkgPath:= "dandelion/calend",byteOffset:=8}, {name:= "v",type:=37,offset:=2,embedded:=false,tag:= "",pkgPath:= "dandelion/calend",byteOffset:=16}],size:=5,bytes:=48,zero:=(.agg ⟨[(.int .u64 (0)),(.int .i64 (0)),(.int .i64 (0)),(.int .i64 (0)),(.string ⟨⟨[]⟩⟩)]⟩),cmp:=false}
theorem pR:Ct Try.prog 124 EA:=Ct.of (by kernel_rfl) (by kernel_rfl) (by kernel_rfl) (by kernel_rfl) (by intro h;cases h)
noncomputable def eX:TI:= {ud:= .func #[124,124] #[3] false,size:=1,bytes:=8,zero:= .nilFunc,cmp:=false}
theorem mJ:Ct Try.prog 130 eX:=Ct.of (by kernel_rfl) (by kernel_rfl) (by kernel_rfl) (by kernel_rfl) (by intro h;cases h)
noncomputable def UZ:TI:= {ud:= .func #[37] #[4] false,size:=1,bytes:=8,zero:= .nilFunc,cmp:=true}
theorem na:Ct Try.prog 134 UZ:=Ct.of (by kernel_rfl) (by kernel_rfl) (by kernel_rfl) (by kernel_rfl) (fun _=>⟨by kernel_rfl,by kernel_rfl⟩)
noncomputable def Z0:TI:= {ud:= .array 25 69,size:=625,bytes:=5000,zero:=(.agg ⟨(Gw 625 (.int .i64 (0)))⟩),cmp:=false}
theorem nr:Ct Try.prog 136 Z0:=Ct.of (by kernel_rfl) (by kernel_rfl) (by kernel_rfl) (by kernel_rfl) (by intro h;cases h)
noncomputable def UR:TI:= {ud:= .struct #[{name:= "At",type:=32,offset:=0,embedded:=false,tag:= "",pkgPath:= "",byteOffset:=0}, {name:= "M",type:=37,offset:=1,embedded:=false,tag:= "",pkgPath:= "",byteOffset:=8}],size:=4,bytes:=40,zero:=(.agg ⟨[(.int .u64 (0)),(.int .i64 (0)),(.int .i64 (0)),(.string ⟨⟨[]⟩⟩)]⟩),cmp:=false}
theorem mP:Ct Try.prog 144 UR:=Ct.of (by kernel_rfl) (by kernel_rfl) (by kernel_rfl) (by kernel_rfl) (by intro h;cases h)
noncomputable def dZ:TI:= {ud:= .int .u64,size:=1,bytes:=8,zero:=(.int .u64 (0)),cmp:=false}
theorem nj:Ct Try.prog 146 dZ:=Ct.of (by kernel_rfl) (by kernel_rfl) (by kernel_rfl) (by kernel_rfl) (by intro h;cases h)
noncomputable def eZ:TI:= {ud:= .func #[124] #[4] false,size:=1,bytes:=8,zero:= .nilFunc,cmp:=false}
theorem nf:Ct Try.prog 151 eZ:=Ct.of (by kernel_rfl) (by kernel_rfl) (by kernel_rfl) (by kernel_rfl) (by intro h;cases h)
noncomputable def tt:T TI:=(.node (.node (.node (.node (.node (.node (.node .nil (some Wu) .nil) none (.node .nil (some fY) .nil)) none .nil) none (.node (.node (.node .nil (some aX) .nil) (some cR) .nil) none (.node (.node (.node .nil (some eZ) .nil) none .nil) none (.node .nil (some Yw) .nil)))) (some Ph) (.node (.node (.node (.node .nil (some bM) .nil) none (.node .nil (some bP) .nil)) none .nil) none (.node .nil none (.node (.node .nil (some ad) .nil) none .nil)))) none (.node (.node (.node (.node .nil none (.node .nil (some nV) .nil)) none .nil) (some yY) (.node (.node (.node .nil (some pc) .nil) none .nil) none (.node .nil (some re) (.node .nil (some TM) .nil)))) (some ti5) (.node (.node (.node (.node .nil (some m9) .nil) (some WW) .nil) none (.node .nil (some bR) (.node .nil (some Td) .nil))) none (.node .nil (some tF) (.node (.node .nil (some iM) .nil) (some ZY) .nil))))) none (.node (.node (.node (.node (.node .nil (some pM) .nil) none (.node (.node (.node .nil (some UR) .nil) none .nil) none .nil)) none (.node (.node (.node (.node .nil (some Z0) .nil) none .nil) (some Xb) .nil) (some jL) .nil)) (some wA) (.node (.node (.node (.node .nil (some mK) .nil) none .nil) none (.node .nil (some nC) (.node .nil (some aF) .nil))) none (.node (.node (.node .nil (some nK) .nil) none .nil) (some po) (.node (.node .nil (some iY) .nil) none (.node .nil (some EA) .nil))))) none (.node (.node (.node (.node (.node (.node .nil (some eX) .nil) (some iz) .nil) (some cp) .nil) none (.node (.node (.node .nil (some dZ) .nil) (some bS) .nil) (some cZ) (.node .nil (some OZ) .nil))) none (.node (.node (.node .nil (some cI) .nil) none .nil) (some xS) (.node (.node .nil (some jY) .nil) none .nil))) none (.node (.node (.node (.node (.node .nil (some UZ) .nil) (some mG) .nil) none .nil) (some zV) (.node (.node .nil (some gJ) .nil) none .nil)) none (.node .nil none (.node (.node .nil (some iU) .nil) none .nil))))))
noncomputable def tl:List (Nat×TI):= [(3,Ph),(63,Wu),(95,fY),(39,cR),(71,aX),(151,eZ),(119,Yw),(67,bM),(99,bP),(91,ad),(5,ti5),(9,yY),(97,nV),(73,pc),(57,re),(121,TM),(37,WW),(69,m9),(53,bR),(117,Td),(29,tF),(61,ZY),(93,iM),(4,wA),(32,pM),(144,UR),(24,jL),(40,Xb),(136,Z0),(68,mK),(52,nC),(116,aF),(28,po),(76,nK),(92,iY),(124,EA),(34,cp),(66,iz),(130,eX),(50,cZ),(82,bS),(146,dZ),(114,OZ),(26,xS),(74,cI),(90,jY),(22,zV),(70,mG),(134,UZ),(86,gJ),(94,iU)]
theorem ABI:tt.zO 1 0=tl:=by kernel_rfl
set_option maxRecDepth 100000 in
theorem ABB:∀p∈tl,Ct Try.prog p.1 p.2:=List.forall_mem_cons.2 ⟨xl,List.forall_mem_cons.2 ⟨sJ,List.forall_mem_cons.2 ⟨rF,List.forall_mem_cons.2 ⟨vh,List.forall_mem_cons.2 ⟨sg,List.forall_mem_cons.2 ⟨nf,List.forall_mem_cons.2 ⟨ko,List.forall_mem_cons.2 ⟨tR,List.forall_mem_cons.2 ⟨ub,List.forall_mem_cons.2 ⟨uK,List.forall_mem_cons.2 ⟨xF,List.forall_mem_cons.2 ⟨yV,List.forall_mem_cons.2 ⟨s7,List.forall_mem_cons.2 ⟨sP,List.forall_mem_cons.2 ⟨td,List.forall_mem_cons.2 ⟨oo,List.forall_mem_cons.2 ⟨qk,List.forall_mem_cons.2 ⟨rS,List.forall_mem_cons.2 ⟨qi,List.forall_mem_cons.2 ⟨kV,List.forall_mem_cons.2 ⟨vF,List.forall_mem_cons.2 ⟨vb,List.forall_mem_cons.2 ⟨rz,List.forall_mem_cons.2 ⟨za,List.forall_mem_cons.2 ⟨tA,List.forall_mem_cons.2 ⟨mP,List.forall_mem_cons.2 ⟨sy,List.forall_mem_cons.2 ⟨qO,List.forall_mem_cons.2 ⟨nr,List.forall_mem_cons.2 ⟨uC,List.forall_mem_cons.2 ⟨tv,List.forall_mem_cons.2 ⟨oD,List.forall_mem_cons.2 ⟨qb,List.forall_mem_cons.2 ⟨tP,List.forall_mem_cons.2 ⟨tQ,List.forall_mem_cons.2 ⟨pR,List.forall_mem_cons.2 ⟨q8,List.forall_mem_cons.2 ⟨va,List.forall_mem_cons.2 ⟨mJ,List.forall_mem_cons.2 ⟨tS,List.forall_mem_cons.2 ⟨tx,List.forall_mem_cons.2 ⟨nj,List.forall_mem_cons.2 ⟨lu,List.forall_mem_cons.2 ⟨sH,List.forall_mem_cons.2 ⟨sW,List.forall_mem_cons.2 ⟨sG,List.forall_mem_cons.2 ⟨rT,List.forall_mem_cons.2 ⟨vg,List.forall_mem_cons.2 ⟨na,List.forall_mem_cons.2 ⟨sN,List.forall_mem_cons.2 ⟨sU,(fun _ h=>by cases h)⟩⟩⟩⟩⟩⟩⟩⟩⟩⟩⟩⟩⟩⟩⟩⟩⟩⟩⟩⟩⟩⟩⟩⟩⟩⟩⟩⟩⟩⟩⟩⟩⟩⟩⟩⟩⟩⟩⟩⟩⟩⟩⟩⟩⟩⟩⟩⟩⟩⟩⟩
theorem BE:EE Try.prog tt.get:=fun k i h=>ABB (k,i) (ABI ▸ T.dX h)
theorem zM:Bz Try.prog 3 Try.f3:=⟨⟨Try.func3,by kernel_rfl,by kernel_rfl⟩,Bz.Al (by kernel_rfl)⟩
theorem wy:Bz Try.prog 4 Try.f4:=⟨⟨Try.func4,by kernel_rfl,by kernel_rfl⟩,Bz.Al (by kernel_rfl)⟩
theorem cr:Bz Try.prog 5 Try.f5:=⟨⟨Try.func5,by kernel_rfl,by kernel_rfl⟩,Bz.Al (by kernel_rfl)⟩
theorem xO:Bz Try.prog 6 Try.f6:=⟨⟨Try.func6,by kernel_rfl,by kernel_rfl⟩,Bz.Al (by kernel_rfl)⟩
theorem yu:Bz Try.prog 7 Try.f7:=⟨⟨Try.func7,by kernel_rfl,by kernel_rfl⟩,Bz.Al (by kernel_rfl)⟩
theorem bu:Bz Try.prog 8 Try.f8:=⟨⟨Try.func8,by kernel_rfl,by kernel_rfl⟩,Bz.Al (by kernel_rfl)⟩
theorem bE:Bz Try.prog 9 Try.f9:=⟨⟨Try.func9,by kernel_rfl,by kernel_rfl⟩,Bz.Al (by kernel_rfl)⟩
theorem WA:Bz Try.prog 10 Try.f10:=⟨⟨Try.func10,by kernel_rfl,by kernel_rfl⟩,Bz.Al (by kernel_rfl)⟩
theorem Wc:Bz Try.prog 11 Try.f11:=⟨⟨Try.func11,by kernel_rfl,by kernel_rfl⟩,Bz.Al (by kernel_rfl)⟩
theorem Xv:Bz Try.prog 12 Try.f12:=⟨⟨Try.func12,by kernel_rfl,by kernel_rfl⟩,Bz.Al (by kernel_rfl)⟩
theorem tf:Bz Try.prog 13 Try.f13:=⟨⟨Try.func13,by kernel_rfl,by kernel_rfl⟩,Bz.Al (by kernel_rfl)⟩
theorem X6:Bz Try.prog 14 Try.f14:=⟨⟨Try.func14,by kernel_rfl,by kernel_rfl⟩,Bz.Al (by kernel_rfl)⟩
theorem Wo:Bz Try.prog 15 Try.f15:=⟨⟨Try.func15,by kernel_rfl,by kernel_rfl⟩,Bz.Al (by kernel_rfl)⟩
theorem Vi:Bz Try.prog 16 Try.f16:=⟨⟨Try.func16,by kernel_rfl,by kernel_rfl⟩,Bz.Al (by kernel_rfl)⟩
theorem X5:Bz Try.prog 17 Try.f17:=⟨⟨Try.func17,by kernel_rfl,by kernel_rfl⟩,Bz.Al (by kernel_rfl)⟩
theorem WD:Bz Try.prog 18 Try.f18:=⟨⟨Try.func18,by kernel_rfl,by kernel_rfl⟩,Bz.Al (by kernel_rfl)⟩
theorem XP:Bz Try.prog 19 Try.f19:=⟨⟨Try.func19,by kernel_rfl,by kernel_rfl⟩,Bz.Al (by kernel_rfl)⟩
theorem WZ:Bz Try.prog 20 Try.f20:=⟨⟨Try.func20,by kernel_rfl,by kernel_rfl⟩,Bz.Al (by kernel_rfl)⟩
theorem PI:Bz Try.prog 21 Try.f21:=⟨⟨Try.func21,by kernel_rfl,by kernel_rfl⟩,Bz.Al (by kernel_rfl)⟩
theorem Xl:Bz Try.prog 22 Try.f22:=⟨⟨Try.func22,by kernel_rfl,by kernel_rfl⟩,Bz.Al (by kernel_rfl)⟩
theorem Iz:Bz Try.prog 23 Try.f23:=⟨⟨Try.func23,by kernel_rfl,by kernel_rfl⟩,Bz.Al (by kernel_rfl)⟩
theorem Vg:Bz Try.prog 24 Try.f24:=⟨⟨Try.func24,by kernel_rfl,by kernel_rfl⟩,Bz.Al (by kernel_rfl)⟩
theorem Xn:Bz Try.prog 25 Try.f25:=⟨⟨Try.func25,by kernel_rfl,by kernel_rfl⟩,Bz.Al (by kernel_rfl)⟩
theorem XB:Bz Try.prog 26 Try.f26:=⟨⟨Try.func26,by kernel_rfl,by kernel_rfl⟩,Bz.Al (by kernel_rfl)⟩
theorem YV:Bz Try.prog 27 Try.f27:=⟨⟨Try.func27,by kernel_rfl,by kernel_rfl⟩,Bz.Al (by kernel_rfl)⟩
theorem Vx:Bz Try.prog 28 Try.f28:=⟨⟨Try.func28,by kernel_rfl,by kernel_rfl⟩,Bz.Al (by kernel_rfl)⟩
theorem Ru:Bz Try.prog 29 Try.f29:=⟨⟨Try.func29,by kernel_rfl,by kernel_rfl⟩,Bz.Al (by kernel_rfl)⟩
theorem Wd:Bz Try.prog 30 Try.f30:=⟨⟨Try.func30,by kernel_rfl,by kernel_rfl⟩,Bz.Al (by kernel_rfl)⟩
theorem Ok:Bz Try.prog 31 Try.f31:=⟨⟨Try.func31,by kernel_rfl,by kernel_rfl⟩,Bz.Al (by kernel_rfl)⟩
theorem Xi:Bz Try.prog 32 Try.f32:=⟨⟨Try.func32,by kernel_rfl,by kernel_rfl⟩,Bz.Al (by kernel_rfl)⟩
theorem WC:Bz Try.prog 33 Try.f33:=⟨⟨Try.func33,by kernel_rfl,by kernel_rfl⟩,Bz.Al (by kernel_rfl)⟩
theorem W3:Bz Try.prog 34 Try.f34:=⟨⟨Try.func34,by kernel_rfl,by kernel_rfl⟩,Bz.Al (by kernel_rfl)⟩
theorem XZ:Bz Try.prog 35 Try.f35:=⟨⟨Try.func35,by kernel_rfl,by kernel_rfl⟩,Bz.Al (by kernel_rfl)⟩
theorem Ol:Bz Try.prog 36 Try.f36:=⟨⟨Try.func36,by kernel_rfl,by kernel_rfl⟩,Bz.Al (by kernel_rfl)⟩
theorem YJ:Bz Try.prog 37 Try.f37:=⟨⟨Try.func37,by kernel_rfl,by kernel_rfl⟩,Bz.Al (by kernel_rfl)⟩
theorem Xu:Bz Try.prog 38 Try.f38:=⟨⟨Try.func38,by kernel_rfl,by kernel_rfl⟩,Bz.Al (by kernel_rfl)⟩
theorem Xo:Bz Try.prog 39 Try.f39:=⟨⟨Try.func39,by kernel_rfl,by kernel_rfl⟩,Bz.Al (by kernel_rfl)⟩
theorem O6:Bz Try.prog 40 Try.f40:=⟨⟨Try.func40,by kernel_rfl,by kernel_rfl⟩,Bz.Al (by kernel_rfl)⟩
theorem Ws:Bz Try.prog 41 Try.f41:=⟨⟨Try.func41,by kernel_rfl,by kernel_rfl⟩,Bz.Al (by kernel_rfl)⟩
theorem X3:Bz Try.prog 42 Try.f42:=⟨⟨Try.func42,by kernel_rfl,by kernel_rfl⟩,Bz.Al (by kernel_rfl)⟩
theorem Wf:Bz Try.prog 43 Try.f43:=⟨⟨Try.func43,by kernel_rfl,by kernel_rfl⟩,Bz.Al (by kernel_rfl)⟩
theorem XQ:Bz Try.prog 44 Try.f44:=⟨⟨Try.func44,by kernel_rfl,by kernel_rfl⟩,Bz.Al (by kernel_rfl)⟩
theorem Xj:Bz Try.prog 45 Try.f45:=⟨⟨Try.func45,by kernel_rfl,by kernel_rfl⟩,Bz.Al (by kernel_rfl)⟩
theorem V8:Bz Try.prog 46 Try.f46:=⟨⟨Try.func46,by kernel_rfl,by kernel_rfl⟩,Bz.Al (by kernel_rfl)⟩
theorem YG:Bz Try.prog 47 Try.f47:=⟨⟨Try.func47,by kernel_rfl,by kernel_rfl⟩,Bz.Al (by kernel_rfl)⟩
theorem XN:Bz Try.prog 48 Try.f48:=⟨⟨Try.func48,by kernel_rfl,by kernel_rfl⟩,Bz.Al (by kernel_rfl)⟩
theorem YP:Bz Try.prog 49 Try.f49:=⟨⟨Try.func49,by kernel_rfl,by kernel_rfl⟩,Bz.Al (by kernel_rfl)⟩
theorem Xa:Bz Try.prog 50 Try.f50:=⟨⟨Try.func50,by kernel_rfl,by kernel_rfl⟩,Bz.Al (by kernel_rfl)⟩
theorem WK:Bz Try.prog 51 Try.f51:=⟨⟨Try.func51,by kernel_rfl,by kernel_rfl⟩,Bz.Al (by kernel_rfl)⟩
theorem YK:Bz Try.prog 52 Try.f52:=⟨⟨Try.func52,by kernel_rfl,by kernel_rfl⟩,Bz.Al (by kernel_rfl)⟩
theorem X2:Bz Try.prog 53 Try.f53:=⟨⟨Try.func53,by kernel_rfl,by kernel_rfl⟩,Bz.Al (by kernel_rfl)⟩
theorem Rg:Bz Try.prog 54 Try.f54:=⟨⟨Try.func54,by kernel_rfl,by kernel_rfl⟩,Bz.Al (by kernel_rfl)⟩
theorem Wh:Bz Try.prog 55 Try.f55:=⟨⟨Try.func55,by kernel_rfl,by kernel_rfl⟩,Bz.Al (by kernel_rfl)⟩
theorem XW:Bz Try.prog 56 Try.f56:=⟨⟨Try.func56,by kernel_rfl,by kernel_rfl⟩,Bz.Al (by kernel_rfl)⟩
theorem WG:Bz Try.prog 57 Try.f57:=⟨⟨Try.func57,by kernel_rfl,by kernel_rfl⟩,Bz.Al (by kernel_rfl)⟩
theorem V7:Bz Try.prog 58 Try.f58:=⟨⟨Try.func58,by kernel_rfl,by kernel_rfl⟩,Bz.Al (by kernel_rfl)⟩
theorem YE:Bz Try.prog 59 Try.f59:=⟨⟨Try.func59,by kernel_rfl,by kernel_rfl⟩,Bz.Al (by kernel_rfl)⟩
theorem YA:Bz Try.prog 60 Try.f60:=⟨⟨Try.func60,by kernel_rfl,by kernel_rfl⟩,Bz.Al (by kernel_rfl)⟩
theorem WS:Bz Try.prog 61 Try.f61:=⟨⟨Try.func61,by kernel_rfl,by kernel_rfl⟩,Bz.Al (by kernel_rfl)⟩
theorem XF:Bz Try.prog 62 Try.f62:=⟨⟨Try.func62,by kernel_rfl,by kernel_rfl⟩,Bz.Al (by kernel_rfl)⟩
theorem dw:Bz Try.prog 63 Try.f63:=⟨⟨Try.func63,by kernel_rfl,by kernel_rfl⟩,Bz.Al (by kernel_rfl)⟩
theorem PE:Bz Try.prog 64 Try.f64:=⟨⟨Try.func64,by kernel_rfl,by kernel_rfl⟩,Bz.Al (by kernel_rfl)⟩
theorem YU:Bz Try.prog 65 Try.f65:=⟨⟨Try.func65,by kernel_rfl,by kernel_rfl⟩,Bz.Al (by kernel_rfl)⟩
theorem XV:Bz Try.prog 66 Try.f66:=⟨⟨Try.func66,by kernel_rfl,by kernel_rfl⟩,Bz.Al (by kernel_rfl)⟩
theorem YO:Bz Try.prog 67 Try.f67:=⟨⟨Try.func67,by kernel_rfl,by kernel_rfl⟩,Bz.Al (by kernel_rfl)⟩
theorem V4:Bz Try.prog 68 Try.f68:=⟨⟨Try.func68,by kernel_rfl,by kernel_rfl⟩,Bz.Al (by kernel_rfl)⟩
theorem Xd:Bz Try.prog 69 Try.f69:=⟨⟨Try.func69,by kernel_rfl,by kernel_rfl⟩,Bz.Al (by kernel_rfl)⟩
theorem W4:Bz Try.prog 70 Try.f70:=⟨⟨Try.func70,by kernel_rfl,by kernel_rfl⟩,Bz.Al (by kernel_rfl)⟩
theorem Vu:Bz Try.prog 71 Try.f71:=⟨⟨Try.func71,by kernel_rfl,by kernel_rfl⟩,Bz.Al (by kernel_rfl)⟩
theorem Vo:Bz Try.prog 72 Try.f72:=⟨⟨Try.func72,by kernel_rfl,by kernel_rfl⟩,Bz.Al (by kernel_rfl)⟩
theorem Wv:Bz Try.prog 73 Try.f73:=⟨⟨Try.func73,by kernel_rfl,by kernel_rfl⟩,Bz.Al (by kernel_rfl)⟩
theorem YS:Bz Try.prog 74 Try.f74:=⟨⟨Try.func74,by kernel_rfl,by kernel_rfl⟩,Bz.Al (by kernel_rfl)⟩
theorem Xr:Bz Try.prog 75 Try.f75:=⟨⟨Try.func75,by kernel_rfl,by kernel_rfl⟩,Bz.Al (by kernel_rfl)⟩
theorem V5:Bz Try.prog 76 Try.f76:=⟨⟨Try.func76,by kernel_rfl,by kernel_rfl⟩,Bz.Al (by kernel_rfl)⟩
theorem Vt:Bz Try.prog 77 Try.f77:=⟨⟨Try.func77,by kernel_rfl,by kernel_rfl⟩,Bz.Al (by kernel_rfl)⟩
theorem YB:Bz Try.prog 78 Try.f78:=⟨⟨Try.func78,by kernel_rfl,by kernel_rfl⟩,Bz.Al (by kernel_rfl)⟩
theorem XD:Bz Try.prog 79 Try.f79:=⟨⟨Try.func79,by kernel_rfl,by kernel_rfl⟩,Bz.Al (by kernel_rfl)⟩
theorem Xz:Bz Try.prog 80 Try.f80:=⟨⟨Try.func80,by kernel_rfl,by kernel_rfl⟩,Bz.Al (by kernel_rfl)⟩
theorem WM:Bz Try.prog 81 Try.f81:=⟨⟨Try.func81,by kernel_rfl,by kernel_rfl⟩,Bz.Al (by kernel_rfl)⟩
theorem uY:Bz Try.prog 83 Try.f83:=⟨⟨Try.func83,by kernel_rfl,by kernel_rfl⟩,Bz.Al (by kernel_rfl)⟩
theorem RP:Bz Try.prog 84 Try.f84:=⟨⟨Try.func84,by kernel_rfl,by kernel_rfl⟩,Bz.Al (by kernel_rfl)⟩
theorem XU:Bz Try.prog 85 Try.f85:=⟨⟨Try.func85,by kernel_rfl,by kernel_rfl⟩,Bz.Al (by kernel_rfl)⟩
theorem WX:Bz Try.prog 86 Try.f86:=⟨⟨Try.func86,by kernel_rfl,by kernel_rfl⟩,Bz.Al (by kernel_rfl)⟩
theorem WV:Bz Try.prog 87 Try.f87:=⟨⟨Try.func87,by kernel_rfl,by kernel_rfl⟩,Bz.Al (by kernel_rfl)⟩
theorem rJ:Bz Try.prog 88 Try.f88:=⟨⟨Try.func88,by kernel_rfl,by kernel_rfl⟩,Bz.Al (by kernel_rfl)⟩
theorem WN:Bz Try.prog 89 Try.f89:=⟨⟨Try.func89,by kernel_rfl,by kernel_rfl⟩,Bz.Al (by kernel_rfl)⟩
theorem rj:Bz Try.prog 90 Try.f90:=⟨⟨Try.func90,by kernel_rfl,by kernel_rfl⟩,Bz.Al (by kernel_rfl)⟩
noncomputable def ft:T Func:=(.node (.node (.node (.node (.node (.node (.node .nil (some Try.f63) .nil) (some Try.f31) .nil) (some Try.f15) (.node (.node .nil (some Try.f79) .nil) (some Try.f47) .nil)) (some Try.f7) (.node (.node (.node .nil (some Try.f71) .nil) (some Try.f39) .nil) (some Try.f23) (.node (.node .nil (some Try.f87) .nil) (some Try.f55) .nil))) (some Try.f3) (.node (.node (.node (.node .nil (some Try.f67) .nil) (some Try.f35) .nil) (some Try.f19) (.node (.node .nil (some Try.f83) .nil) (some Try.f51) .nil)) (some Try.f11) (.node (.node (.node .nil (some Try.f75) .nil) (some Try.f43) .nil) (some Try.f27) (.node .nil (some Try.f59) .nil)))) none (.node (.node (.node (.node (.node .nil (some Try.f65) .nil) (some Try.f33) .nil) (some Try.f17) (.node (.node .nil (some Try.f81) .nil) (some Try.f49) .nil)) (some Try.f9) (.node (.node (.node .nil (some Try.f73) .nil) (some Try.f41) .nil) (some Try.f25) (.node (.node .nil (some Try.f89) .nil) (some Try.f57) .nil))) (some Try.f5) (.node (.node (.node (.node .nil (some Try.f69) .nil) (some Try.f37) .nil) (some Try.f21) (.node (.node .nil (some Try.f85) .nil) (some Try.f53) .nil)) (some Try.f13) (.node (.node (.node .nil (some Try.f77) .nil) (some Try.f45) .nil) (some Try.f29) (.node .nil (some Try.f61) .nil))))) none (.node (.node (.node (.node (.node (.node .nil (some Try.f64) .nil) (some Try.f32) .nil) (some Try.f16) (.node (.node .nil (some Try.f80) .nil) (some Try.f48) .nil)) (some Try.f8) (.node (.node (.node .nil (some Try.f72) .nil) (some Try.f40) .nil) (some Try.f24) (.node (.node .nil (some Try.f88) .nil) (some Try.f56) .nil))) (some Try.f4) (.node (.node (.node (.node .nil (some Try.f68) .nil) (some Try.f36) .nil) (some Try.f20) (.node (.node .nil (some Try.f84) .nil) (some Try.f52) .nil)) (some Try.f12) (.node (.node (.node .nil (some Try.f76) .nil) (some Try.f44) .nil) (some Try.f28) (.node .nil (some Try.f60) .nil)))) none (.node (.node (.node (.node (.node .nil (some Try.f66) .nil) (some Try.f34) .nil) (some Try.f18) (.node .nil (some Try.f50) .nil)) (some Try.f10) (.node (.node (.node .nil (some Try.f74) .nil) (some Try.f42) .nil) (some Try.f26) (.node (.node .nil (some Try.f90) .nil) (some Try.f58) .nil))) (some Try.f6) (.node (.node (.node (.node .nil (some Try.f70) .nil) (some Try.f38) .nil) (some Try.f22) (.node (.node .nil (some Try.f86) .nil) (some Try.f54) .nil)) (some Try.f14) (.node (.node (.node .nil (some Try.f78) .nil) (some Try.f46) .nil) (some Try.f30) (.node .nil (some Try.f62) .nil))))))
noncomputable def fl:List (Nat×Func):= [(3,Try.f3),(7,Try.f7),(15,Try.f15),(31,Try.f31),(63,Try.f63),(47,Try.f47),(79,Try.f79),(23,Try.f23),(39,Try.f39),(71,Try.f71),(55,Try.f55),(87,Try.f87),(11,Try.f11),(19,Try.f19),(35,Try.f35),(67,Try.f67),(51,Try.f51),(83,Try.f83),(27,Try.f27),(43,Try.f43),(75,Try.f75),(59,Try.f59),(5,Try.f5),(9,Try.f9),(17,Try.f17),(33,Try.f33),(65,Try.f65),(49,Try.f49),(81,Try.f81),(25,Try.f25),(41,Try.f41),(73,Try.f73),(57,Try.f57),(89,Try.f89),(13,Try.f13),(21,Try.f21),(37,Try.f37),(69,Try.f69),(53,Try.f53),(85,Try.f85),(29,Try.f29),(45,Try.f45),(77,Try.f77),(61,Try.f61),(4,Try.f4),(8,Try.f8),(16,Try.f16),(32,Try.f32),(64,Try.f64),(48,Try.f48),(80,Try.f80),(24,Try.f24),(40,Try.f40),(72,Try.f72),(56,Try.f56),(88,Try.f88),(12,Try.f12),(20,Try.f20),(36,Try.f36),(68,Try.f68),(52,Try.f52),(84,Try.f84),(28,Try.f28),(44,Try.f44),(76,Try.f76),(60,Try.f60),(6,Try.f6),(10,Try.f10),(18,Try.f18),(34,Try.f34),(66,Try.f66),(50,Try.f50),(26,Try.f26),(42,Try.f42),(74,Try.f74),(58,Try.f58),(90,Try.f90),(14,Try.f14),(22,Try.f22),(38,Try.f38),(70,Try.f70),(54,Try.f54),(86,Try.f86),(30,Try.f30),(46,Try.f46),(78,Try.f78),(62,Try.f62)]
theorem ABP:ft.zO 1 0=fl:=by kernel_rfl
set_option maxRecDepth 100000 in
theorem ACY:∀p∈fl,Bz Try.prog p.1 p.2:=List.forall_mem_cons.2 ⟨zM,List.forall_mem_cons.2 ⟨yu,List.forall_mem_cons.2 ⟨Wo,List.forall_mem_cons.2 ⟨Ok,List.forall_mem_cons.2 ⟨dw,List.forall_mem_cons.2 ⟨YG,List.forall_mem_cons.2 ⟨XD,List.forall_mem_cons.2 ⟨Iz,List.forall_mem_cons.2 ⟨Xo,List.forall_mem_cons.2 ⟨Vu,List.forall_mem_cons.2 ⟨Wh,List.forall_mem_cons.2 ⟨WV,List.forall_mem_cons.2 ⟨Wc,List.forall_mem_cons.2 ⟨XP,List.forall_mem_cons.2 ⟨XZ,List.forall_mem_cons.2 ⟨YO,List.forall_mem_cons.2 ⟨WK,List.forall_mem_cons.2 ⟨uY,List.forall_mem_cons.2 ⟨YV,List.forall_mem_cons.2 ⟨Wf,List.forall_mem_cons.2 ⟨Xr,List.forall_mem_cons.2 ⟨YE,List.forall_mem_cons.2 ⟨cr,List.forall_mem_cons.2 ⟨bE,List.forall_mem_cons.2 ⟨X5,List.forall_mem_cons.2 ⟨WC,List.forall_mem_cons.2 ⟨YU,List.forall_mem_cons.2 ⟨YP,List.forall_mem_cons.2 ⟨WM,List.forall_mem_cons.2 ⟨Xn,List.forall_mem_cons.2 ⟨Ws,List.forall_mem_cons.2 ⟨Wv,List.forall_mem_cons.2 ⟨WG,List.forall_mem_cons.2 ⟨WN,List.forall_mem_cons.2 ⟨tf,List.forall_mem_cons.2 ⟨PI,List.forall_mem_cons.2 ⟨YJ,List.forall_mem_cons.2 ⟨Xd,List.forall_mem_cons.2 ⟨X2,List.forall_mem_cons.2 ⟨XU,List.forall_mem_cons.2 ⟨Ru,List.forall_mem_cons.2 ⟨Xj,List.forall_mem_cons.2 ⟨Vt,List.forall_mem_cons.2 ⟨WS,List.forall_mem_cons.2 ⟨wy,List.forall_mem_cons.2 ⟨bu,List.forall_mem_cons.2 ⟨Vi,List.forall_mem_cons.2 ⟨Xi,List.forall_mem_cons.2 ⟨PE,List.forall_mem_cons.2 ⟨XN,List.forall_mem_cons.2 ⟨Xz,List.forall_mem_cons.2 ⟨Vg,List.forall_mem_cons.2 ⟨O6,List.forall_mem_cons.2 ⟨Vo,List.forall_mem_cons.2 ⟨XW,List.forall_mem_cons.2 ⟨rJ,List.forall_mem_cons.2 ⟨Xv,List.forall_mem_cons.2 ⟨WZ,List.forall_mem_cons.2 ⟨Ol,List.forall_mem_cons.2 ⟨V4,List.forall_mem_cons.2 ⟨YK,List.forall_mem_cons.2 ⟨RP,List.forall_mem_cons.2 ⟨Vx,List.forall_mem_cons.2 ⟨XQ,List.forall_mem_cons.2 ⟨V5,List.forall_mem_cons.2 ⟨YA,List.forall_mem_cons.2 ⟨xO,List.forall_mem_cons.2 ⟨WA,List.forall_mem_cons.2 ⟨WD,List.forall_mem_cons.2 ⟨W3,List.forall_mem_cons.2 ⟨XV,List.forall_mem_cons.2 ⟨Xa,List.forall_mem_cons.2 ⟨XB,List.forall_mem_cons.2 ⟨X3,List.forall_mem_cons.2 ⟨YS,List.forall_mem_cons.2 ⟨V7,List.forall_mem_cons.2 ⟨rj,List.forall_mem_cons.2 ⟨X6,List.forall_mem_cons.2 ⟨Xl,List.forall_mem_cons.2 ⟨Xu,List.forall_mem_cons.2 ⟨W4,List.forall_mem_cons.2 ⟨Rg,List.forall_mem_cons.2 ⟨WX,List.forall_mem_cons.2 ⟨Wd,List.forall_mem_cons.2 ⟨V8,List.forall_mem_cons.2 ⟨YB,List.forall_mem_cons.2 ⟨XF,(fun _ h=>by cases h)⟩⟩⟩⟩⟩⟩⟩⟩⟩⟩⟩⟩⟩⟩⟩⟩⟩⟩⟩⟩⟩⟩⟩⟩⟩⟩⟩⟩⟩⟩⟩⟩⟩⟩⟩⟩⟩⟩⟩⟩⟩⟩⟩⟩⟩⟩⟩⟩⟩⟩⟩⟩⟩⟩⟩⟩⟩⟩⟩⟩⟩⟩⟩⟩⟩⟩⟩⟩⟩⟩⟩⟩⟩⟩⟩⟩⟩⟩⟩⟩⟩⟩⟩⟩⟩⟩⟩
theorem ABd:∀f fn,ft.get f=some fn→Bz Try.prog f fn:=fun k i h=>ACY (k,i) (ABP ▸ T.dX h)
noncomputable def run (lf d:Nat):Go.Dm.Callee:=TV tt.get ft.get (fun cl=>draw tt.get cl) lf d
theorem env (lf d:Nat):Env Try.prog tt.get (run lf d):=mX BE ABd (fun cl E=>u7 cl E) lf d
end Go.Proofs.Ytmppehipfpkepaa.Dm
