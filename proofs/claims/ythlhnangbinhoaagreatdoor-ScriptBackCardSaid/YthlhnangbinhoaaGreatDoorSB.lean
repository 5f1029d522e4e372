/- strconv.FormatUint at base 10: the number's numeral. -/
import Derived.Test.YthlhnangbinhoaaGreatDoorSA
import Derived.Lib.AppendIntMem
import Derived.WalkKit
import Derived.Lib.ParseIntBTie
set_option linter.unusedSimpArgs false
set_option linter.unusedVariables false
namespace Go.Proofs.YthlhnangbinhoaaGreatDoor.Dm
open Go.Dm Go.Shelf Go.Sort
set_option maxHeartbeats 16000000
set_option maxRecDepth 100000
theorem uV (u:Nat)(hu64:u < 18446744073709551616)(w:World)(htab:Lib.TabIs Tryz.prog w "internal/strconv.uint64pow10" .u64 Lib.pow10Tab) :
  Calls Tryz.prog 80 #[.int .u64 u, .int .i64 10] w fun e w'=>e= .returned (.string ⟨(Lib.itoa u).toArray⟩)∧Go.RowKit.Below w.heap.size w w':=by
 by_cases hs:u < 100
 ·go_enter Tryz.func80,Tryz.ntmps80
  go_wp2_with (first | (go_at_call 97;refine (Tryz.internal_strconv_small u hs _).mono ?_;rintro e w' ⟨rfl,rfl⟩) | go_in)
  go_ret
  refine ⟨?_,Go.RowKit.Below.refl _ _⟩
  rw [Lib.itoa_nonneg];rfl
 ·have hu1:1≤u:=by omega
  have hnd20:Lib.nDigits u≤20:=by have:=Lib.numDigits_eq u hu1 hu64;split at this <;> omega
  have hal:Tryz.prog.arrayLen 177=24:=by kernel_rfl
  have hsl1:∀W,(Instr.sliceAt 177 (.pointer (some ⟨w.heap.size,0,none⟩)) none (some (.int .i64 ((Lib.nDigits u:Nat):Int))) none).run Tryz.prog W= .ok (.slice (some ⟨w.heap.size,0,none⟩) (Lib.nDigits u) 24) W:=fun W=>by
   rw [run_sliceAt_array_h W 177 ⟨w.heap.size,0,none⟩ Tryz.underlying177 .i64 ((Lib.nDigits u:Nat):Int) (by omega) (by rw [hal];omega)]
   go_simp
  have hH0:=Lib.holds_zero0 w 177 (Lib.nDigits u) (by omega)
  have hfmt:=Tryz.internal_strconv_formatBase10 w.heap.size 0 24 u (Array.replicate (Lib.nDigits u) 0) (w.alloc (.cells Lib.zeros24 177)) hH0 (by rw [Array.size_replicate];exact Lib.lt_pow_nDigits u) hu64 (by rw [Array.size_replicate];omega)
  rw [Array.size_replicate] at hfmt
  have HH0:=Lib.hid hH0
  clear hH0 hal
  go_enter Tryz.func80,Tryz.ntmps80
  go_wp2_with (first
   | (go_at_call 98;refine (Tryz.internal_strconv_numDigits u hu1 hu64 _ (Lib.tabIs_alloc htab _)).mono ?_;rintro e w' ⟨rfl,rfl⟩))
  refine hfmt.mono ?_
  rintro e w' ⟨rfl,k,v',dk,rfl,hF⟩
  have hcv:(convert 69 9 (.slice (some ⟨w.heap.size,0,none⟩) (Lib.nDigits u) 24)).run Tryz.prog ((putRow (fun (b:UInt8)=>Value.int .u8 (b.toNat:Int)) (w.alloc (.cells Lib.zeros24 177)) w.heap.size 0 dk).drewN k)= .ok (.string ⟨(Lib.decDigits u).toArray⟩) ((putRow (fun (b:UInt8)=>Value.int .u8 (b.toNat:Int)) (w.alloc (.cells Lib.zeros24 177)) w.heap.size 0 dk).drewN k):=by
   have h:=run_convert_bytes_back (P:=Tryz.prog) ((putRow (fun (b:UInt8)=>Value.int .u8 (b.toNat:Int)) (w.alloc (.cells Lib.zeros24 177)) w.heap.size 0 dk).drewN k) 69 9 5 ⟨w.heap.size,0,none⟩ 24 (Lib.decDigits u) Tryz.underlying69 Tryz.underlying5 Tryz.underlying9 (fun j hj=>by
    rw [Lib.row_is_numeral hF j hj,Lib.add_plain,World.cell?_drewN]
    exact cell?_putRow (fun (b:UInt8)=>Value.int .u8 (b.toNat:Int)) _ w.heap.size 0 _ dk HH0.out (by rw [hF.size,Array.size_replicate]) j (by rw [hF.size];rw [Lib.decDigits_length] at hj;exact hj))
   rw [Lib.decDigits_length] at h
   exact h
  go_wp2
  go_ret
  obtain ⟨os,eo⟩:=Lib.fin_at w (.cells Lib.zeros24 177) dk k 0
  refine ⟨?_,by rw [show ((putRow (fun (b:UInt8)=>Value.int .u8 (b.toNat:Int)) (w.alloc (.cells Lib.zeros24 177)) w.heap.size 0 dk).drewN k)=_ from eo];exact Lib.below_grow _ _ (Nat.le_refl _) _ _⟩
  rw [Lib.itoa_nonneg]
  rfl
theorem qQ (u:Nat)(hu64:u < 18446744073709551616)(w:World)(htab:Lib.TabIs Tryz.prog w "internal/strconv.uint64pow10" .u64 Lib.pow10Tab) :
  Calls Tryz.prog 42 #[.int .u64 u, .int .i64 10] w fun e w'=>e= .returned (.string ⟨(Lib.itoa u).toArray⟩)∧Go.RowKit.Below w.heap.size w w':=by
 go_enter Tryz.func42,Tryz.ntmps42
 go_wp2_with (first | (go_at_call 80;refine (uV u hu64 _ htab).mono ?_;rintro e w' ⟨rfl,hb⟩))
 go_ret
 exact ⟨rfl,hb⟩
def Vq:Bz:= .pure (fun args hp=>match args with | [.int .u64 x, .int .i64 y]=>y=10∧U64 x∧hp 1=some Sm | _=>False) (fun args _=>match args with | [n,_]=> .string ⟨⟨Lib.itoa (intOf n)⟩⟩ | _=>undef)
theorem xP:BR Tryz.prog 42 Vq:=by
 refine ⟨⟨_,ak.toFTOk⟩,fun args hp hpre top=> ?_⟩
 match args,hpre with
 | [.int .u64 x, .int .i64 y],⟨hy,⟨h0,h1⟩,ht⟩=>
 subst hy
 refine Ae.Ox rfl fun φ own w args' ha H=> ?_
 cases ha with
 |cons _ _ _ _ hx hl=>
 cases hx
 cases hl with
 |cons _ _ _ _ hy hl=>
 cases hy
 cases hl
 obtain ⟨u,rfl⟩:=Int.eq_ofNat_of_zero_le h0
 refine (qQ u (by omega) w (Vv H ht)).mono ?_
 rintro e w' ⟨rfl,hb⟩
 exact ⟨rfl,hb⟩
end Go.Proofs.YthlhnangbinhoaaGreatDoor.Dm
set_option linter.unusedSimpArgs false
set_option linter.unusedVariables false
namespace Go.Proofs.YthlhnangbinhoaaGreatDoor.Dm
open Go.Dm
set_option maxHeartbeats 16000000
set_option maxRecDepth 20000
def IE (n:Int):Prop:= -9223372036854775808≤n∧n≤9223372036854775807
def Ns:Bz:= .pure (fun args hp=>match args with | [.int .i64 n]=>IE n∧hp 1=some Sm | _=>False) (fun args _=>match args with | [n]=> .string ⟨⟨Lib.itoa (intOf n)⟩⟩ | _=>undef)
theorem zr:BR Tryz.prog 26 Ns:=by
 refine ⟨⟨_,bu.toFTOk⟩,fun args hp hpre top=> ?_⟩
 match args,hpre with
 | [.int .i64 x],⟨⟨h0,h1⟩,ht⟩=>
 refine Ae.Ox rfl fun φ own w args' ha H=> ?_
 cases ha with
 |cons _ _ _ _ hx hl=>
 cases hx
 cases hl
 refine (Tryz.strconv_Itoa x h0 h1 w (Vv H ht)).mono ?_
 rintro e w' ⟨rfl,k,os,rfl⟩
 exact ⟨rfl,⟨rfl,rfl,rfl,by simp [Go.Sort.grow,World.drewN],fun i hi=>by simp [Go.Sort.grow,World.drewN,Array.getElem?_append,hi]⟩⟩
def Wb:Bz:= .pure (fun args hp=>match args with | [.int .i64 n, .int .i64 b]=>b=10∧IE n∧hp 1=some Sm | _=>False) (fun args _=>match args with | [n,_]=> .string ⟨⟨Lib.itoa (intOf n)⟩⟩ | _=>undef)
theorem ABQ:BR Tryz.prog 95 Wb:=by
 refine ⟨⟨_,cD.toFTOk⟩,fun args hp hpre top=> ?_⟩
 match args,hpre with
 | [.int .i64 x, .int .i64 b],⟨hb,⟨h0,h1⟩,ht⟩=>
 subst hb
 refine Ae.Ox rfl fun φ own w args' ha H=> ?_
 cases ha with
 |cons _ _ _ _ hx hl=>
 cases hx
 cases hl with
 |cons _ _ _ _ hx hl=>
 cases hx
 cases hl
 refine (Tryz.strconv_FormatInt_10 x h0 h1 w (Vv H ht)).mono ?_
 rintro e w' ⟨rfl,k,os,rfl⟩
 exact ⟨rfl,⟨rfl,rfl,rfl,by simp [Go.Sort.grow,World.drewN],fun i hi=>by simp [Go.Sort.grow,World.drewN,Array.getElem?_append,hi]⟩⟩
def fg (s:List UInt8):Bool:=match Lib.atoiAll s with
 | .ok _=>true
 |_=>false
def bT (s:List UInt8):Int:=match Lib.atoiAll s with
 | .ok v=>v
 | .range=>Lib.intSat 64 s
 |_=>0
def mD (s:List UInt8)(top:Nat):Value×BV×Nat:=
 (.tuple ⟨[.int .i64 (bT s),if fg s then .nilIface else .iface 241 (.pointer (some ⟨top,0,none⟩))]⟩, [],if fg s then top else top+1)
def Tc:Bz:= .det (fun args hp _=>match args with | [.string ⟨⟨s⟩⟩, .int .i64 b, .int .i64 B]=>b=10∧B=64∧s.length≤281474976710656∧(∃t a,hp 4=some (QB 3 (.iface t a)))∧(∃t a,hp 6=some (QB 4 (.iface t a))) | _=>False)
 (fun args _ top=>match args with | [s,_,_]=>mD (strOf s) top | _=>(undef, [],top))
theorem lN {φ:Dm.Ren}{own:Nat→Prop}{hp:Hp}{w w':World}{top N:Nat}{n:Int}{t:TypeId}(H:HR φ own hp w)(htop:∀j,top≤j→φ j=none)(hb:Go.RowKit.Below w.heap.size w w')(hN:N < w'.heap.size) :
  GP φ own w (.tuple ⟨[.int .i64 n, .iface t (.pointer (some ⟨top,0,none⟩))]⟩) hp (top+1) (.tuple ⟨[.int .i64 n, .iface t (.pointer (some ⟨N,0,none⟩))]⟩) w' (φ.ext top ⟨N,0,1,1⟩):=by
 have W:=GP.named (n:=n) (t:=t) H htop hb hN
 exact ⟨W.le, .tuple _ _ (.cons _ _ _ _ (.int _ _) (.cons _ _ _ _ (.iface _ _ _ (.ptr top 0 ⟨N,0,1,1⟩ (Ren.BN ..))) .nil)),W.hr,W.k,W.top⟩
theorem yu:BR Tryz.prog 94 Tc:=by
 refine ⟨⟨_,aC.toFTOk⟩,fun args hp top hpre=> ?_⟩
 match args,hpre with
 | [.string ⟨⟨s⟩⟩, .int .i64 b, .int .i64 B],⟨hb,hB,hs,⟨t1,a1,hp3⟩,⟨t2,a2,hp4⟩⟩=>
 subst hb;subst hB
 simp only [AU]
 intro φ own w args' ha H htop
 cases ha with
 |cons _ _ _ _ hx hl=>
 cases hx
 cases hl with
 |cons _ _ _ _ hx hl=>
 cases hx
 cases hl with
 |cons _ _ _ _ hx hl=>
 cases hx
 cases hl
 obtain ⟨v1,V1,c1⟩:=WQ H (by omega) hp3
 obtain ⟨v2,V2,c2⟩:=WQ H (by omega) hp4
 have i1:v1= .nilIface∨∃te pe,v1= .iface te pe:=by cases V1;exact .inr ⟨_,_,rfl⟩
 have i2:v2= .nilIface∨∃te pe,v2= .iface te pe:=by cases V2;exact .inr ⟨_,_,rfl⟩
 cases hr:Lib.atoiAll s with
 |ok v=>
  have ea:mD s top=(.tuple ⟨[.int .i64 v, .nilIface]⟩, [],top):=by simp only [mD,bT,fg,hr,if_true]
  rw [ea]
  refine (Tryz.strconv_ParseInt_10_at64_ok ⟨⟨s⟩⟩ (by show s.length≤_;omega) v (by rw [Lib.parseIntB_64];exact hr) w).mono ?_
  rintro e w' ⟨rfl,hw⟩
  have hb:Go.RowKit.Below w.heap.size w w':=by
   rcases hw with rfl | ⟨t,rfl⟩
   ·exact Go.RowKit.Below.refl _ _
   ·exact Lib.bytesWorld_below _ _ _
  have k:=K.Qs hb
  exact ⟨_,_,_,_,φ,rfl,⟨rfl,rfl,rfl⟩,⟨Ren.le_refl _, .tuple _ _ (.cons _ _ _ _ (.int _ _) (.cons _ _ _ _ .nili .nil)),H.stay k,K.UP H.fresh k,htop⟩⟩
 |range=>
  have ea:mD s top=(.tuple ⟨[.int .i64 (Lib.intSat 64 s), .iface 241 (.pointer (some ⟨top,0,none⟩))]⟩, [],top+1):=by simp [mD,bT,fg,hr]
  rw [ea]
  refine (Tryz.strconv_ParseInt_10_at64_range ⟨⟨s⟩⟩ hs (by rw [Lib.parseIntB_64];exact hr) v2 w c2 i2).mono ?_
  rintro e w' ⟨N,rfl,h1,h2,hb⟩
  exact ⟨_,_,_,_,φ.ext top ⟨N,0,1,1⟩,rfl,⟨rfl,rfl,rfl⟩,lN H htop hb (Array.getElem?_eq_some_iff.1 h2).1⟩
 |_=>
  have ea:mD s top=(.tuple ⟨[.int .i64 0, .iface 241 (.pointer (some ⟨top,0,none⟩))]⟩, [],top+1):=by simp [mD,bT,fg,hr]
  rw [ea]
  refine (Tryz.strconv_ParseInt_10_at64_syntax ⟨⟨s⟩⟩ hs (by rw [Lib.parseIntB_64];exact hr) v1 w c1 i1).mono ?_
  rintro e w' ⟨N,rfl,h1,h2,hb⟩
  exact ⟨_,_,_,_,φ.ext top ⟨N,0,1,1⟩,rfl,⟨rfl,rfl,rfl⟩,lN H htop hb (Array.getElem?_eq_some_iff.1 h2).1⟩
def Fp (c:Int):Value:= .iface 143 (.agg ⟨[.int .i64 c]⟩)
theorem jz {c:Int}:JP tt.get 143 (.agg ⟨[.int .i64 c]⟩)=some (.iface 143 (.agg ⟨[.int .i64 c]⟩)):=by simp [JP,bO,R8]
def F7:Bz:= .pan (fun args _ _=>match args with | [.int .i64 _]=>True | _=>False) (fun args _ top=> .inr (Fp (match args with | [c]=>intOf c | _=>0), [],top))
def GS1:FuncId→Bz:=Cx (Cx (Cx (Cx (Cx (Cx (Cx G0 26 Ns) 95 Wb) 94 Tc) 42 Vq) 44 QT) 73 Ao) 36 Ew
theorem tI:DU Tryz.prog tt.get GS1:=((((((Ss.add zr).add ABQ).add yu).add xP).add ru).add fQ).add vT
theorem qJ:BR Tryz.prog 35 F7:=by
 refine .Pr WH ?_
 intro args hp top hpre hcl hsc
 match args,hpre with
 | [.int .i64 c],_=>
 refine Ey.Bn Bu WH rfl 5 rfl [] rfl (show 1≤5 by decide) ?_
 refine CW.vc tI [0] (by kernel_rfl) ?_
 (repeat ((try refine Vc.mk' ?_);simp (maxSteps:=6000000) only [go_sem,jz,Fp]))
 (refine ⟨[],by simp,by simp,by simp, ?_, ?_, ?_⟩ <;> simp [])
def GS2:FuncId→Bz:=Cx GS1 35 F7
theorem fR:DU Tryz.prog tt.get GS2:=tI.add qJ
theorem zy:GS2 35=F7:=rfl
def j7 (b:Bool)(top:Nat):(Value×BV×Nat) ⊕ (Value×BV×Nat):=if b then .inl (.tuple ⟨[]⟩, [],top) else .inr (Fp 12, [],top)
def Ab:Bz:= .pan (fun args _ _=>match args with | [.bool _]=>True | _=>False) (fun args _ top=>j7 (match args with | [b]=>CH b | _=>false) top)
theorem Bi {top:Nat}:j7 true top= .inl (.tuple ⟨[]⟩, [],top):=rfl
theorem BT {top:Nat}:j7 false top= .inr (Fp 12, [],top):=rfl
theorem sN:BR Tryz.prog 37 Ab:=by
 refine .Pr Uy ?_
 intro args hp top hpre hcl hsc
 match args,hpre with
 | [.bool b],_=>
 simp only [Lc]
 refine Ey.Bn Bu Uy rfl 5 rfl [] rfl (show 1≤5 by decide) ?_
 cases b with
 |true=>
  simp only [Bi]
  refine CW.vc fR [0,3] (by kernel_rfl) ?_
  (repeat ((try refine Vc.mk' ?_);simp (maxSteps:=6000000) only [go_sem]))
  (refine ⟨[],by simp,by simp,by simp, ?_, ?_, ?_⟩ <;> simp [])
 |false=>
  simp only [BT]
  refine CW.vc fR [0,3] (by kernel_rfl) ?_
  (repeat ((try refine Vc.mk' ?_);simp (maxSteps:=6000000) only [go_sem,zy,F7]))
  (refine ⟨[],by simp,by simp,by simp, ?_, ?_, ?_⟩ <;> simp [])
def zM:FuncId→Bz:=Cx GS2 37 Ab
theorem Qx:DU Tryz.prog tt.get zM:=fR.add sN
theorem il:zM 37=Ab:=rfl
theorem lX:zM 95=Wb:=rfl
theorem Ye:zM 94=Tc:=rfl
def Fj (s:List UInt8):Option Int:=if fg s∧Lib.itoa (bT s)=s then some (bT s) else none
def GA (s:List UInt8)(top:Nat):(Value×BV×Nat) ⊕ (Value×BV×Nat):=match Fj s with
 |some n=> .inl (.int .i64 n, [],top)
 |none=> .inr (Fp 12, [],top)
theorem ad {s:List UInt8}(h:fg s=true):IE (bT s):=by
 unfold fg at h
 unfold bT
 split at h
 ·rename_i v hv;rw [hv];exact Lib.atoiAll_bounds hv
 ·cases h
theorem UB {s:List UInt8}{n:Int}:Fj s=some n ↔ (fg s=true∧bT s=n∧Lib.itoa n=s):=by
 unfold Fj
 constructor
 ·intro h
  split at h
  ·rename_i c;cases h;exact ⟨c.1,rfl,c.2⟩
  ·cases h
 ·rintro ⟨h1,rfl,h2⟩
  rw [if_pos ⟨h1,h2⟩]
def FH:Bz:= .pan (fun args hp _=>match args with | [.string ⟨⟨s⟩⟩]=>s.length≤281474976710656∧Cp hp | _=>False) (fun args _ top=>match args with | [s]=>GA (strOf s) top | _=> .inr (undef, [],top))
theorem wg:BR Tryz.prog 75 FH:=by
 refine .Pr Uf ?_
 intro args hp top hpre hcl hsc
 match args,hpre with
 | [.string ⟨⟨s⟩⟩],⟨hs,hv⟩=>
 obtain ⟨hp1,_,hv3,hv4⟩:=hv
 simp only [AU]
 refine Ey.Bn Bu Uf rfl 20 rfl [.tmp 2] rfl (show 1≤20 by decide) ?_
 cases hE:fg s with
 |false=>
  have e:GA s top= .inr (Fp 12, [],top):=by unfold GA Fj;rw [hE];rfl
  have eV:∀T,mD s T=(.tuple ⟨[.int .i64 (bT s), .iface 241 (.pointer (some ⟨T,0,none⟩))]⟩, [],T+1):=fun T=>by unfold mD;rw [hE];rfl
  rw [e]
  refine CW.vc Qx [0,2,3,4] (by kernel_rfl) ?_
  (repeat ((try refine Vc.mk' ?_);simp (maxSteps:=6000000) only [go_sem,il,Ab,BT,Ye,Tc,hs,hv3,hv4,eV,XS]))
  (refine ⟨[],by simp,by simp,by simp, ?_, ?_, ?_⟩ <;> simp [])
 |true=>
  have eV:∀T,mD s T=(.tuple ⟨[.int .i64 (bT s), .nilIface]⟩, [],T):=fun T=>by unfold mD;rw [hE];rfl
  have hI:=ad hE
  by_cases c:Lib.itoa (bT s)=s
  ·have e:GA s top= .inl (.int .i64 (bT s), [],top):=by unfold GA Fj;rw [if_pos ⟨hE,c⟩]
   rw [e]
   refine CW.vc Qx [0,2,3,4] (by kernel_rfl) ?_
   (repeat ((try refine Vc.mk' ?_);simp (maxSteps:=6000000) only [go_sem,il,Ab,Ye,Tc,hs,hv3,hv4,eV,mL,lX,Wb,hI,hp1,Ah,c,decide_true,Bi]))
   (refine ⟨[],by simp,by simp,by simp, ?_, ?_, ?_⟩ <;> simp [])
  ·have e:GA s top= .inr (Fp 12, [],top):=by unfold GA Fj;rw [if_neg (fun h=>c h.2)]
   rw [e]
   refine CW.vc Qx [0,2,3,4] (by kernel_rfl) ?_
   (repeat ((try refine Vc.mk' ?_);simp (maxSteps:=6000000) only [go_sem,il,Ab,Ye,Tc,hs,hv3,hv4,eV,mL,lX,Wb,hI,hp1,Ah,c,decide_false,BT]))
   (refine ⟨[],by simp,by simp,by simp, ?_, ?_, ?_⟩ <;> simp [])
end Go.Proofs.YthlhnangbinhoaaGreatDoor.Dm
