/- errors.Is of a fault and its number (after the kit's worked example). -/
import Derived.Test.YthlhnangbinhoaaGreatDoorSA
import Derived.WalkKit
import Derived.LaidEql
import Derived.Stop.Asserts
import Derived.RowKitTokens
import Derived.Test.YthlhnangbinhoaaGreatDoorSY
import Derived.Test.YthlhnangbinhoaaGreatDoorTAS
import Derived.KernelRfl
set_option linter.unusedSimpArgs false
set_option linter.unusedVariables false
namespace Go.Proofs.YthlhnangbinhoaaGreatDoor.Dm
open Go.RowKit Go.Extern.Stop Go.Stop Go.Extern
set_option maxRecDepth 100000
set_option maxHeartbeats 4000000
theorem Yw (v:Value)(w:World):(Extern.ReflectliteType.typeOf #[.iface 30 v]).run Tryz.prog w= .ok (.iface 150 (.agg #[.pointer (some ⟨9,30,none⟩)])) w:=by kernel_rfl
theorem R5 (w:World):((Extern.ReflectliteType.method fun t=>do Rtype.noPackHeld "Comparable" t;(fun a=>Value.bool a.comparable) <$> typeInfo t) #[.agg #[.pointer (some ⟨9,30,none⟩)]]).run Tryz.prog w= .ok (.bool true) w:=by kernel_rfl
theorem Lf (v:Value)(w:World):(Go.method 391 150 v "Comparable").run Tryz.prog w= .ok (178,v) w:=by kernel_rfl
theorem jl:(Tryz.prog.info? 30).map (·.comparable)=some true:=by kernel_rfl
theorem dL (v:Value)(xT:TypeId)(w:World):(Instr.typeAssert (.iface 51 v) xT 164 true).run Tryz.prog w= .ok (.tuple #[.nilIface, .bool false]) w:=run_typeAssert_lacksB Tryz.underlying164 (by kernel_rfl) (by kernel_rfl) v xT w
theorem RT (v:Value)(xT:TypeId)(w:World):(Instr.typeAssert (.iface 51 v) xT 157 true).run Tryz.prog w= .ok (.tuple #[.iface 51 v, .bool true]) w:=run_typeAssert_hasB Tryz.underlying157 (by kernel_rfl) v xT w
theorem Ou (v:Value)(w:World):(Go.method 391 51 v "Unwrap").run Tryz.prog w= .ok (169,v) w:=by kernel_rfl
theorem run_eql_iface_int {P:Program}{ti tp:TypeId}{ms:Array (String×TypeId)}{i:TypeInfo}{k:IntKind}(w:World)(n:Int)
  (hi:P.underlying ti=some (.interface ms)) (hp:P.underlying tp=some (.int k)) (hinfo:P.info? tp=some i) (hcomp:i.comparable=true) :
  (binOp .eql ti (.iface tp (.int k n)) (.iface tp (.int k n))).run P w= .ok (.bool true) w:=by
 have h:∀d:Nat,(Op.equalIn (d+2) ti (.iface tp (.int k n)) (.iface tp (.int k n))).run P w= .ok true w:=fun d=>by
  simp [Op.equalIn,run_underlying hi,run_underlying hp,typeInfo,hinfo,hcomp]
 simp only [binOp]
 simp [Op.equal,Op.maxDepth,h 9998]
theorem gW (pb po:Nat)(c:Int)(w:World)(h1:w.cell? ⟨pb,po,none⟩=some (.int .i64 c)) :
  Calls Tryz.prog 20 #[.iface 51 (.pointer (some ⟨pb,po,none⟩)), .iface 30 (.int .i64 c)] w fun e w'=>e= .returned (.bool true)∧w' = w:=by
 obtain ⟨i,hi,hcmp⟩:=Option.map_eq_some_iff.1 jl
 have h8:= @run_callFunc_extern Tryz.prog 54 _ Extern.ReflectliteType.typeOf Tryz.func54 (by kernel_rfl) (by kernel_rfl) (by kernel_rfl) (by kernel_rfl)
 have h32:= @run_callFunc_extern Tryz.prog 178 _ (Extern.ReflectliteType.method fun t=>do Rtype.noPackHeld "Comparable" t;pure (.bool (←typeInfo t).comparable)) Tryz.func178 (by kernel_rfl) (by kernel_rfl) (by kernel_rfl) (by kernel_rfl)
 have tT:=Yw
 have cT:=R5
 have mR:=Lf
 have nF:=dL
 have uF:=RT
 have mU:=Ou
 have heq:=fun W=>run_eql_iface_int (P:=Tryz.prog) W c Tryz.underlying38 Tryz.underlying30 hi hcmp
 have hty:=fun W=>run_eql_iface_types (P:=Tryz.prog) 51 30 (.pointer (some ⟨pb,po,none⟩)) (.int .i64 c) Tryz.underlying38 (by decide) W
 go_enter Tryz.func20,Tryz.ntmps20
 go_wp2
 refine wp_loop_rounds 2 ?_
 rw [rounds_succ]
 go_wp2
 rw [rounds_succ]
 go_wp2
 go_ret
 exact ⟨rfl,rfl⟩
end Go.Proofs.YthlhnangbinhoaaGreatDoor.Dm
set_option linter.unusedSimpArgs false
set_option linter.unusedVariables false
namespace Go.Proofs.YthlhnangbinhoaaGreatDoor.Dm
open Go.Dm
set_option maxHeartbeats 64000000
set_option maxRecDepth 20000
noncomputable def rW:FuncId→Bz:=Cx Yl 9 Nx
theorem iV:DU Tryz.prog tt.get rW:=FP.add zR
theorem qk:rW 9=Nx:=rfl
theorem sH:rW 13=Hu (fun _=>True) Fl:=rfl
def EI:CR:=⟨8,4,2,1, [⟨1,1,true⟩,⟨2,2,false⟩], [⟨1,2,5⟩], [⟨1,2,3,1,0⟩]⟩
def uw:List Aq:= [⟨1,0,0,0,0,9, []⟩,⟨8,1,0,0,77,0, []⟩]
def wkT:List UInt8:= [119,111,114,108,100,32,56,32,52,32,50,32,49,10,114,111,117,116,101,114,32,49,32,49,32,105,110,103,114,101,115,115,10,114,111,117,116,101,114,32,50,32,50,10,108,105,110,107,32,49,32,50,32,53,10,100,114,111,112,32,49,32,50,32,51,10,112,108,97,121,10,116,105,99,107,32,57,10,115,101,110,100,32,49,32,48,32,55,55,10]
theorem zP:Md Fl wkT= .inl (EI,uw):=by kernel_rfl
theorem z7:e9 EI uw=(wkT,0):=by kernel_rfl
def oR:Option BI:=some (.cells true 3 [.int .i64 1, .int .i64 1, .bool true, .int .i64 2, .int .i64 2, .bool false])
def oK:Option BI:=some (.cells true 3 [.int .i64 1, .int .i64 2, .int .i64 5])
def oU:Option BI:=some (.cells true 5 [.int .i64 1, .int .i64 2, .int .i64 3, .int .i64 1, .int .i64 0])
def oO:Option BI:=some (.cells true 7 [.int .i64 1, .int .i64 0, .int .i64 0, .int .i64 0, .int .u32 0, .int .i64 9, .string ⟨⟨[]⟩⟩, .int .i64 8, .int .i64 1, .int .i64 0, .int .i64 0, .int .u32 77, .int .i64 0, .string ⟨⟨[]⟩⟩])
theorem wm:List.append [119,111,114,108,100,32,56,32,52,32,50,32,49,10,114,111,117,116,101,114,32,49,32,49,32,105,110,103,114,101,115,115,10,114,111,117,116,101,114,32,50,32,50,10,108] [105,110,107,32,49,32,50,32,53,10,100,114,111,112,32,49,32,50,32,51,10,112,108,97,121,10,116,105,99,107,32,57,10,115,101,110,100,32,49,32,48,32,55,55,10] = wkT:=rfl
theorem w8:(wkT.length < 4294967281)=True:=eq_true (by decide)
theorem ACr {t:Nat}:sW (Md Fl wkT) t=(.tuple ⟨[.agg ⟨[.int .i64 8, .int .i64 4, .int .i64 2, .int .i64 1, .slice (some ⟨t,0,none⟩) 2 2, .slice (some ⟨t+1,0,none⟩) 1 1, .slice (some ⟨t+2,0,none⟩) 1 1, .slice (some ⟨t+3,0,none⟩) 2 2]⟩, .nilIface]⟩, [(t,oR),(t+1,oK),(t+2,oU),(t+3,oO)],t+4):=by
 rw [zP];rfl
theorem T7:rG EI:=⟨by constructor <;> decide,by constructor <;> decide,by constructor <;> decide,by constructor <;> decide,by simp [EI,IE],by simp [EI,IE],by simp [EI,IE]⟩
theorem q9:∀o∈uw,Gy o:=by
 intro o h
 simp only [uw,List.mem_cons,List.not_mem_nil,or_false] at h
 rcases h with rfl | rfl <;> exact ⟨by constructor <;> decide,by constructor <;> decide,by constructor <;> decide,by constructor <;> decide,by decide,by decide,by constructor <;> decide,by decide⟩
theorem jL {h:Hp}{t:Nat}(a:h t=oR)(b:h (t+1)=oK)(c:h (t+2)=oU)(d:h (t+3)=oO):Zs h (.agg ⟨[.int .i64 8, .int .i64 4, .int .i64 2, .int .i64 1, .slice (some ⟨t,0,none⟩) 2 2, .slice (some ⟨t+1,0,none⟩) 1 1, .slice (some ⟨t+2,0,none⟩) 1 1, .slice (some ⟨t+3,0,none⟩) 2 2]⟩) EI uw:=
 ⟨⟨_,_,_,_,rfl,BJ.IP (l:=EI.R) a (by decide),BJ.IP (l:=EI.K) b (by decide),BJ.IP (l:=EI.U) c (by decide),BJ.IP (l:=uw) d (by decide)⟩,by decide,by decide,by decide,by decide⟩
theorem V7 {hp:Hp}{a:Option Addr}{n c:Nat}:CQ tt.get hp 27 (.slice a n c)=(.int .i64 (n:Int),True):=by
 unfold CQ;simp only [Hd,Eb,Px,YE];rfl
def Dw:Bz:= .pure (fun args hp=>args= []∧Cp hp) (fun _ _=> .bool true)
theorem gT:BR Tryz.prog 12 Dw:=by
 refine .LN U0 (fun _ _ _=>rfl) ?_
 intro args hp hpre top hcl hsc
 obtain ⟨rfl,hv⟩:=hpre
 have ht5:=FE hcl hv
 have hE:∀ {h:Hp},h top=oR→h (top+1)=oK→h (top+2)=oU→h (top+3)=oO→(∃S ops,Zs h (.agg ⟨[.int .i64 8, .int .i64 4, .int .i64 2, .int .i64 1, .slice (some ⟨top,0,none⟩) 2 2, .slice (some ⟨top+1,0,none⟩) 1 1, .slice (some ⟨top+2,0,none⟩) 1 1, .slice (some ⟨top+3,0,none⟩) 2 2]⟩) S ops∧rG S∧∀o∈ops,Gy o)=True:=fun a b c d=>eq_true ⟨_,_,jL a b c d,T7,q9⟩
 have hD:∀ {h:Hp},h top=oR→h (top+1)=oK→h (top+2)=oU→h (top+3)=oO→Tm h (.agg ⟨[.int .i64 8, .int .i64 4, .int .i64 2, .int .i64 1, .slice (some ⟨top,0,none⟩) 2 2, .slice (some ⟨top+1,0,none⟩) 1 1, .slice (some ⟨top+2,0,none⟩) 1 1, .slice (some ⟨top+3,0,none⟩) 2 2]⟩)=(EI,uw):=fun a b c d=>(jL a b c d).d
 refine Ae.Bn Bu U0 rfl 63 rfl [.tmp 0] rfl (show 0≤63 by decide) ?_
 refine CW.vc iV [0,1,2,3,4] (by kernel_rfl) ?_
 (repeat ((try refine Vc.mk' ?_);simp (maxSteps:=6000000) only [go_sem,sH,Hu,ACr,AU,hv,AO ht5,AP ht5,qk,Nx,hE,hD,z7,tJ,wm,w8,OE,mL,V7]))
 simp [oR,oO]
 (repeat ((try refine Vc.mk' ?_);simp (maxSteps:=6000000) only [go_sem]))
end Go.Proofs.YthlhnangbinhoaaGreatDoor.Dm
