/- errors.Is of a fault and its number (after the kit's worked example). -/
import Derived.Test.YthlhnangbinhoaaGreatDoorSA
import Derived.WalkKit
import Derived.LaidEql
import Derived.Stop.Asserts
import Derived.RowKitTokens
import Derived.Test.YthlhnangbinhoaaGreatDoorSY
import Derived.Test.YthlhnangbinhoaaGreatDoorTAS
import Derived.KernelRfl
set_option linter.unusedVariables false
namespace Go.Proofs.YthlhnangbinhoaaGreatDoor.Dm
open Go.RowKit Go.Extern.Stop Go.Stop Go.Extern
set_option maxRecDepth 100000
set_option maxHeartbeats 4000000
theorem ZA (v:Value)(w:World):(Extern.ReflectliteType.typeOf #[.iface 30 v]).run Tryz.prog w= .ok (.iface 150 (.agg #[.pointer (some ⟨9,30,none⟩)])) w:=by kernel_rfl
theorem QE (w:World):((Extern.ReflectliteType.method fun t=>do Rtype.noPackHeld "Comparable" t;(fun a=>Value.bool a.comparable) <$> typeInfo t) #[.agg #[.pointer (some ⟨9,30,none⟩)]]).run Tryz.prog w= .ok (.bool true) w:=by kernel_rfl
theorem Jy (v:Value)(w:World):(Go.method 391 150 v "Comparable").run Tryz.prog w= .ok (178,v) w:=by kernel_rfl
theorem iq:(Tryz.prog.info? 30).map (·.comparable)=some true:=by kernel_rfl
theorem eQ (v:Value)(xT:TypeId)(w:World):(Instr.typeAssert (.iface 51 v) xT 164 true).run Tryz.prog w= .ok (.tuple #[.nilIface, .bool false]) w:=run_typeAssert_lacksB Tryz.underlying164 (by kernel_rfl) (by kernel_rfl) v xT w
theorem RF (v:Value)(xT:TypeId)(w:World):(Instr.typeAssert (.iface 51 v) xT 157 true).run Tryz.prog w= .ok (.tuple #[.iface 51 v, .bool true]) w:=run_typeAssert_hasB Tryz.underlying157 (by kernel_rfl) v xT w
theorem N4 (v:Value)(w:World):(Go.method 391 51 v "Unwrap").run Tryz.prog w= .ok (169,v) w:=by kernel_rfl
theorem run_eql_iface_int {P:Program}{ti tp:TypeId}{ms:Array (String×TypeId)}{i:TypeInfo}{k:IntKind}(w:World)(n:Int)
  (hi:P.underlying ti=some (.interface ms)) (hp:P.underlying tp=some (.int k)) (hinfo:P.info? tp=some i) (hcomp:i.comparable=true) :
  (binOp .eql ti (.iface tp (.int k n)) (.iface tp (.int k n))).run P w= .ok (.bool true) w:=by
 have h:∀d:Nat,(Op.equalIn (d+2) ti (.iface tp (.int k n)) (.iface tp (.int k n))).run P w= .ok true w:=fun d=>by
  simp [Op.equalIn,run_underlying hi,run_underlying hp,typeInfo,hinfo,hcomp]
 simp only [binOp]
 simp [Op.equal,Op.maxDepth,h 9998]
theorem nD (pb po:Nat)(c:Int)(w:World)(h1:w.cell? ⟨pb,po,none⟩=some (.int .i64 c)) :
  Calls Tryz.prog 20 #[.iface 51 (.pointer (some ⟨pb,po,none⟩)), .iface 30 (.int .i64 c)] w fun e w'=>e= .returned (.bool true)∧w' = w:=by
 obtain ⟨i,hi,hcmp⟩:=Option.map_eq_some_iff.1 iq
 have h8:= @run_callFunc_extern Tryz.prog 54 _ Extern.ReflectliteType.typeOf Tryz.func54 (by kernel_rfl) (by kernel_rfl) (by kernel_rfl) (by kernel_rfl)
 have h32:= @run_callFunc_extern Tryz.prog 178 _ (Extern.ReflectliteType.method fun t=>do Rtype.noPackHeld "Comparable" t;pure (.bool (←typeInfo t).comparable)) Tryz.func178 (by kernel_rfl) (by kernel_rfl) (by kernel_rfl) (by kernel_rfl)
 have tT:=ZA
 have cT:=QE
 have mR:=Jy
 have nF:=eQ
 have uF:=RF
 have mU:=N4
 have heq:=fun W=>run_eql_iface_int (P:=Tryz.prog) W c Tryz.underlying38 Tryz.underlying30 hi hcmp
 have hty:=fun W=>run_eql_iface_types (P:=Tryz.prog) 51 30 (.pointer (some ⟨pb,po,none⟩)) (.int .i64 c) Tryz.underlying38 (by decide) W
 go_enter Tryz.func20,Tryz.ntmps20
 go_wp2
 refine wp_loop_rounds 2 ?_
 rw [rounds_succ]
 go_wp2
 rw [rounds_succ]
 go_wp2
 go_ret
 exact ⟨rfl,rfl⟩
end Go.Proofs.YthlhnangbinhoaaGreatDoor.Dm
set_option linter.unusedVariables false
namespace Go.Proofs.YthlhnangbinhoaaGreatDoor.Dm
open Go.Dm
set_option maxHeartbeats 64000000
set_option maxRecDepth 20000
noncomputable def rj:FuncId→Bb:=Bw Yu 9 Z8
theorem mh:CQ Tryz.prog tt.get rj:=EW.add ACa
theorem oP:rj 9=Z8:=rfl
theorem oM:rj 13=bb (fun _=>True) Ia:=rfl
def KD:CK:=⟨8,4,2,1, [⟨1,1,true⟩,⟨2,2,false⟩], [⟨1,2,5⟩], [⟨1,2,3,1,0⟩]⟩
def wW:List Ax:= [⟨1,0,0,0,0,9, []⟩,⟨8,1,0,0,77,0, []⟩]
def wkT:List UInt8:= [119,111,114,108,100,32,56,32,52,32,50,32,49,10,114,111,117,116,101,114,32,49,32,49,32,105,110,103,114,101,115,115,10,114,111,117,116,101,114,32,50,32,50,10,108,105,110,107,32,49,32,50,32,53,10,100,114,111,112,32,49,32,50,32,51,10,112,108,97,121,10,116,105,99,107,32,57,10,115,101,110,100,32,49,32,48,32,55,55,10]
theorem zo:S9 Ia wkT= .inl (KD,wW):=by kernel_rfl
theorem AA7:nc KD wW=(wkT,0):=by kernel_rfl
def oR:Option A7:=some (.cells true 3 [.int .i64 1, .int .i64 1, .bool true, .int .i64 2, .int .i64 2, .bool false])
def oK:Option A7:=some (.cells true 3 [.int .i64 1, .int .i64 2, .int .i64 5])
def oU:Option A7:=some (.cells true 5 [.int .i64 1, .int .i64 2, .int .i64 3, .int .i64 1, .int .i64 0])
def oO:Option A7:=some (.cells true 7 [.int .i64 1, .int .i64 0, .int .i64 0, .int .i64 0, .int .u32 0, .int .i64 9, .string ⟨⟨[]⟩⟩, .int .i64 8, .int .i64 1, .int .i64 0, .int .i64 0, .int .u32 77, .int .i64 0, .string ⟨⟨[]⟩⟩])
theorem xP:List.append [119,111,114,108,100,32,56,32,52,32,50,32,49,10,114,111,117,116,101,114,32,49,32,49,32,105,110,103,114,101,115,115,10,114,111,117,116,101,114,32,50,32,50,10,108] [105,110,107,32,49,32,50,32,53,10,100,114,111,112,32,49,32,50,32,51,10,112,108,97,121,10,116,105,99,107,32,57,10,115,101,110,100,32,49,32,48,32,55,55,10] = wkT:=rfl
theorem wa:(wkT.length < 4294967281)=True:=eq_true (by decide)
theorem AD7 {t:Nat}:yn (S9 Ia wkT) t=(.tuple ⟨[.agg ⟨[.int .i64 8, .int .i64 4, .int .i64 2, .int .i64 1, .slice (some ⟨t,0,none⟩) 2 2, .slice (some ⟨t+1,0,none⟩) 1 1, .slice (some ⟨t+2,0,none⟩) 1 1, .slice (some ⟨t+3,0,none⟩) 2 2]⟩, .nilIface]⟩, [(t,oR),(t+1,oK),(t+2,oU),(t+3,oO)],t+4):=by
 rw [zo];rfl
theorem dX:vU KD:=⟨by constructor <;> decide,by constructor <;> decide,by constructor <;> decide,by constructor <;> decide,by simp [KD,Fh],by simp [KD,Fh],by simp [KD,Fh]⟩
theorem oJ:∀o∈wW,GZ o:=by
 intro o h
 simp only [wW,List.mem_cons,List.not_mem_nil,or_false] at h
 rcases h with rfl | rfl <;> exact ⟨by constructor <;> decide,by constructor <;> decide,by constructor <;> decide,by constructor <;> decide,by decide,by decide,by constructor <;> decide,by decide⟩
theorem fK {h:Hp}{t:Nat}(a:h t=oR)(b:h (t+1)=oK)(c:h (t+2)=oU)(d:h (t+3)=oO):mm h (.agg ⟨[.int .i64 8, .int .i64 4, .int .i64 2, .int .i64 1, .slice (some ⟨t,0,none⟩) 2 2, .slice (some ⟨t+1,0,none⟩) 1 1, .slice (some ⟨t+2,0,none⟩) 1 1, .slice (some ⟨t+3,0,none⟩) 2 2]⟩) KD wW:=
 ⟨⟨_,_,_,_,rfl,BP.JF (l:=KD.R) a (by decide),BP.JF (l:=KD.K) b (by decide),BP.JF (l:=KD.U) c (by decide),BP.JF (l:=wW) d (by decide)⟩,by decide,by decide,by decide,by decide⟩
theorem qj {hp:Hp}{a:Option Addr}{n c:Nat}:CF tt.get hp 27 (.slice a n c)=(.int .i64 (n:Int),True):=by
 unfold CF;simp only [Jh,D9,PE,X3];rfl
def Kl:Bb:= .pure (fun args hp=>args= []∧C7 hp) (fun _ _=> .bool true)
theorem mj:A0 Tryz.prog 12 Kl:=by
 refine .Fm UR (fun _ _ _=>rfl) ?_
 intro args hp hpre top hcl hsc
 obtain ⟨rfl,hv⟩:=hpre
 have ht5:=Fc hcl hv
 have hE:∀ {h:Hp},h top=oR→h (top+1)=oK→h (top+2)=oU→h (top+3)=oO→(∃S ops,mm h (.agg ⟨[.int .i64 8, .int .i64 4, .int .i64 2, .int .i64 1, .slice (some ⟨top,0,none⟩) 2 2, .slice (some ⟨top+1,0,none⟩) 1 1, .slice (some ⟨top+2,0,none⟩) 1 1, .slice (some ⟨top+3,0,none⟩) 2 2]⟩) S ops∧vU S∧∀o∈ops,GZ o)=True:=fun a b c d=>eq_true ⟨_,_,fK a b c d,dX,oJ⟩
 have hD:∀ {h:Hp},h top=oR→h (top+1)=oK→h (top+2)=oU→h (top+3)=oO→Ws h (.agg ⟨[.int .i64 8, .int .i64 4, .int .i64 2, .int .i64 1, .slice (some ⟨top,0,none⟩) 2 2, .slice (some ⟨top+1,0,none⟩) 1 1, .slice (some ⟨top+2,0,none⟩) 1 1, .slice (some ⟨top+3,0,none⟩) 2 2]⟩)=(KD,wW):=fun a b c d=>(fK a b c d).d
 refine AR.A5 BA UR rfl 63 rfl [.tmp 0] rfl (show 0≤63 by decide) ?_
 refine CW.vc mh [0,1,2,3,4] (by kernel_rfl) ?_
 (repeat ((try refine Vc.mk' ?_);simp (maxSteps:=6000000) only [go_sem,oM,bb,AD7,AH,hv,AQ ht5,BW ht5,oP,Z8,hE,hD,AA7,w5,xP,wa,Ko,Xe,qj]))
 simp [oR,oO]
 (repeat ((try refine Vc.mk' ?_);simp (maxSteps:=6000000) only [go_sem]))
end Go.Proofs.YthlhnangbinhoaaGreatDoor.Dm
set_option linter.unusedVariables false
namespace Go.Proofs.YthlhnangbinhoaaGreatDoor.Dm
open Go.Dm Go.RowKit
set_option maxHeartbeats 16000000
set_option maxRecDepth 20000
def bF:Bb:= .pure (fun args hp=>match args with
  | [.iface t (.pointer (some ⟨e,0,none⟩)), .iface u (.int .i64 c)]=>t=51∧u=30∧∃n,hp e=OT c n
  |_=>False) (fun _ _=> .bool true)
theorem zz:A0 Tryz.prog 20 bF:=by
 refine ⟨⟨_,aq.toFTOk⟩,fun args hp hpre top=> ?_⟩
 match args,hpre with
 | [.iface t (.pointer (some ⟨e,0,none⟩)), .iface u (.int .i64 c)],⟨ht,hu,n,he⟩=>
 subst ht hu
 intro φ own w args' hargs H htop
 cases hargs with
 |cons _ _ _ _ hx hl=>
 cases hl with
 |cons _ _ _ _ hy hl=>
 cases hl
 cases hx with
 |iface _ _ xv hx=>
 cases hy with
 |iface _ _ yv hy=>
 cases hy
 cases hx with
 |ptr _ _ L hL=>
 obtain ⟨L',hL',hok⟩:=H.obj e _ he
 rw [hL] at hL';cases hL'
 obtain ⟨_,cs,ct,fz,hh,hsz,hlim,hvs,_⟩:=hok
 have hoff:L.off < cs.size:=by simp at hlim;omega
 have h1:w.cell? ⟨L.Bi,L.off+0,none⟩=some (.int .i64 c):=by
  rw [List.drop_eq_getElem_cons (by simpa using hoff)] at hvs
  cases hvs with
  |cons _ _ _ _ h0 _=>
  have h0':=h0
  generalize hq:cs.toList[L.off] = q at h0'
  cases h0'
  simp [World.cell?,hh,hoff]
  simpa using hq
 refine Calls.mono (nD L.Bi (L.off+0) c w h1) ?_
 rintro ev w' ⟨rfl,rfl⟩
 exact ⟨_,_,_,_,φ,rfl,⟨rfl,rfl,rfl⟩,⟨Dm.Ren.le_refl _, .bool _,H,Dm.K.refl _ _,htop⟩⟩
theorem mX {n:Int}:H8 tt.get 30 (.int .i64 n)=some (.iface 30 (.int .i64 n)):=by simp [H8,pL,cn]
noncomputable def AAI:FuncId→Bb:=Bw (Bw (Bw rj 17 aj) 20 bF) 12 Kl
theorem HF:CQ Tryz.prog tt.get AAI:=((mh.add ACd).add zz).add mj
end Go.Proofs.YthlhnangbinhoaaGreatDoor.Dm
