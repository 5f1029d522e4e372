/- strconv.FormatUint at base 10: the number's numeral. -/
import Derived.Test.YthlhnangbinhoaaGreatDoorSA
import Derived.Lib.AppendIntMem
import Derived.WalkKit
import Derived.Lib.ParseIntBTie
set_option linter.unusedVariables false
namespace Go.Proofs.YthlhnangbinhoaaGreatDoor.Dm
open Go.Dm Go.Shelf Go.Sort
set_option maxHeartbeats 16000000
set_option maxRecDepth 100000
theorem u2 (u:Nat)(hu64:u < 18446744073709551616)(w:World)(htab:Lib.TabIs Tryz.prog w "internal/strconv.uint64pow10" .u64 Lib.pow10Tab) :
  Calls Tryz.prog 80 #[.int .u64 u, .int .i64 10] w fun e w'=>e= .returned (.string ⟨(Lib.itoa u).toArray⟩)∧Go.RowKit.Below w.heap.size w w':=by
 by_cases hs:u < 100
 ·go_enter Tryz.func80,Tryz.ntmps80
  go_wp2_with (first | (go_at_call 97;refine (Tryz.internal_strconv_small u hs _).mono ?_;rintro e w' ⟨rfl,rfl⟩) | go_in)
  go_ret
  refine ⟨?_,Go.RowKit.Below.refl _ _⟩
  rw [Lib.itoa_nonneg];rfl
 ·have hu1:1≤u:=by omega
  have hnd20:Lib.nDigits u≤20:=by have:=Lib.numDigits_eq u hu1 hu64;split at this <;> omega
  have hal:Tryz.prog.arrayLen 177=24:=by kernel_rfl
  have hsl1:∀W,(Instr.sliceAt 177 (.pointer (some ⟨w.heap.size,0,none⟩)) none (some (.int .i64 ((Lib.nDigits u:Nat):Int))) none).run Tryz.prog W= .ok (.slice (some ⟨w.heap.size,0,none⟩) (Lib.nDigits u) 24) W:=fun W=>by
   rw [run_sliceAt_array_h W 177 ⟨w.heap.size,0,none⟩ Tryz.underlying177 .i64 ((Lib.nDigits u:Nat):Int) (by omega) (by rw [hal];omega)]
   go_simp
  have hH0:=Lib.holds_zero0 w 177 (Lib.nDigits u) (by omega)
  have hfmt:=Tryz.internal_strconv_formatBase10 w.heap.size 0 24 u (Array.replicate (Lib.nDigits u) 0) (w.alloc (.cells Lib.zeros24 177)) hH0 (by rw [Array.size_replicate];exact Lib.lt_pow_nDigits u) hu64 (by rw [Array.size_replicate];omega)
  rw [Array.size_replicate] at hfmt
  have HH0:=Lib.hid hH0
  clear hH0 hal
  go_enter Tryz.func80,Tryz.ntmps80
  go_wp2_with (first
   | (go_at_call 98;refine (Tryz.internal_strconv_numDigits u hu1 hu64 _ (Lib.tabIs_alloc htab _)).mono ?_;rintro e w' ⟨rfl,rfl⟩))
  refine hfmt.mono ?_
  rintro e w' ⟨rfl,k,v',dk,rfl,hF⟩
  have hcv:(convert 69 9 (.slice (some ⟨w.heap.size,0,none⟩) (Lib.nDigits u) 24)).run Tryz.prog ((putRow (fun (b:UInt8)=>Value.int .u8 (b.toNat:Int)) (w.alloc (.cells Lib.zeros24 177)) w.heap.size 0 dk).drewN k)= .ok (.string ⟨(Lib.decDigits u).toArray⟩) ((putRow (fun (b:UInt8)=>Value.int .u8 (b.toNat:Int)) (w.alloc (.cells Lib.zeros24 177)) w.heap.size 0 dk).drewN k):=by
   have h:=run_convert_bytes_back (P:=Tryz.prog) ((putRow (fun (b:UInt8)=>Value.int .u8 (b.toNat:Int)) (w.alloc (.cells Lib.zeros24 177)) w.heap.size 0 dk).drewN k) 69 9 5 ⟨w.heap.size,0,none⟩ 24 (Lib.decDigits u) Tryz.underlying69 Tryz.underlying5 Tryz.underlying9 (fun j hj=>by
    rw [Lib.row_is_numeral hF j hj,Lib.add_plain,World.cell?_drewN]
    exact cell?_putRow (fun (b:UInt8)=>Value.int .u8 (b.toNat:Int)) _ w.heap.size 0 _ dk HH0.out (by rw [hF.size,Array.size_replicate]) j (by rw [hF.size];rw [Lib.decDigits_length] at hj;exact hj))
   rw [Lib.decDigits_length] at h
   exact h
  go_wp2
  go_ret
  obtain ⟨os,eo⟩:=Lib.fin_at w (.cells Lib.zeros24 177) dk k 0
  refine ⟨?_,by rw [show ((putRow (fun (b:UInt8)=>Value.int .u8 (b.toNat:Int)) (w.alloc (.cells Lib.zeros24 177)) w.heap.size 0 dk).drewN k)=_ from eo];exact Lib.below_grow _ _ (Nat.le_refl _) _ _⟩
  rw [Lib.itoa_nonneg]
  rfl
theorem oB (u:Nat)(hu64:u < 18446744073709551616)(w:World)(htab:Lib.TabIs Tryz.prog w "internal/strconv.uint64pow10" .u64 Lib.pow10Tab) :
  Calls Tryz.prog 42 #[.int .u64 u, .int .i64 10] w fun e w'=>e= .returned (.string ⟨(Lib.itoa u).toArray⟩)∧Go.RowKit.Below w.heap.size w w':=by
 go_enter Tryz.func42,Tryz.ntmps42
 go_wp2_with (first | (go_at_call 80;refine (u2 u hu64 _ htab).mono ?_;rintro e w' ⟨rfl,hb⟩))
 go_ret
 exact ⟨rfl,hb⟩
def UI:BE:= .pure (fun args hp=>match args with | [.int .u64 x, .int .i64 y]=>y=10∧U64 x∧hp 1=some VH | _=>False) (fun args _=>match args with | [n,_]=> .string ⟨⟨Lib.itoa (intOf n)⟩⟩ | _=>undef)
theorem u3:Ag Tryz.prog 42 UI:=by
 refine ⟨⟨_,oJ.toFTOk⟩,fun args hp hpre top=> ?_⟩
 match args,hpre with
 | [.int .u64 x, .int .i64 y],⟨hy,⟨h0,h1⟩,ht⟩=>
 subst hy
 refine AJ.OM rfl fun φ own w args' ha H=> ?_
 cases ha with
 |cons _ _ _ _ hx hl=>
 cases hx
 cases hl with
 |cons _ _ _ _ hy hl=>
 cases hy
 cases hl
 obtain ⟨u,rfl⟩:=Int.eq_ofNat_of_zero_le h0
 refine (oB u (by omega) w (VI H ht)).mono ?_
 rintro e w' ⟨rfl,hb⟩
 exact ⟨rfl,hb⟩
end Go.Proofs.YthlhnangbinhoaaGreatDoor.Dm
set_option linter.unusedVariables false
namespace Go.Proofs.YthlhnangbinhoaaGreatDoor.Dm
open Go.Dm
set_option maxHeartbeats 16000000
set_option maxRecDepth 20000
def Ev(n:Int):Prop:= -9223372036854775808≤n∧n≤9223372036854775807
def Mc:BE:= .pure (fun args hp=>match args with | [.int .i64 n]=>Ev n∧hp 1=some VH | _=>False) (fun args _=>match args with | [n]=> .string ⟨⟨Lib.itoa (intOf n)⟩⟩ | _=>undef)
theorem AAh:Ag Tryz.prog 26 Mc:=by
 refine ⟨⟨_,oG.toFTOk⟩,fun args hp hpre top=> ?_⟩
 match args,hpre with
 | [.int .i64 x],⟨⟨h0,h1⟩,ht⟩=>
 refine AJ.OM rfl fun φ own w args' ha H=> ?_
 cases ha with
 |cons _ _ _ _ hx hl=>
 cases hx
 cases hl
 refine (Tryz.strconv_Itoa x h0 h1 w (VI H ht)).mono ?_
 rintro e w' ⟨rfl,k,os,rfl⟩
 exact ⟨rfl,⟨rfl,rfl,rfl,by simp [Go.Sort.grow,World.drewN],fun i hi=>by simp [Go.Sort.grow,World.drewN,Array.getElem?_append,hi]⟩⟩
def WH:BE:= .pure (fun args hp=>match args with | [.int .i64 n, .int .i64 b]=>b=10∧Ev n∧hp 1=some VH | _=>False) (fun args _=>match args with | [n,_]=> .string ⟨⟨Lib.itoa (intOf n)⟩⟩ | _=>undef)
theorem AAU:Ag Tryz.prog 95 WH:=by
 refine ⟨⟨_,oQ.toFTOk⟩,fun args hp hpre top=> ?_⟩
 match args,hpre with
 | [.int .i64 x, .int .i64 b],⟨hb,⟨h0,h1⟩,ht⟩=>
 subst hb
 refine AJ.OM rfl fun φ own w args' ha H=> ?_
 cases ha with
 |cons _ _ _ _ hx hl=>
 cases hx
 cases hl with
 |cons _ _ _ _ hx hl=>
 cases hx
 cases hl
 refine (Tryz.strconv_FormatInt_10 x h0 h1 w (VI H ht)).mono ?_
 rintro e w' ⟨rfl,k,os,rfl⟩
 exact ⟨rfl,⟨rfl,rfl,rfl,by simp [Go.Sort.grow,World.drewN],fun i hi=>by simp [Go.Sort.grow,World.drewN,Array.getElem?_append,hi]⟩⟩
def fh(s:List UInt8):Bool:=match Lib.atoiAll s with
 | .ok _=>true
 |_=>false
def Y1(s:List UInt8):Int:=match Lib.atoiAll s with
 | .ok v=>v
 | .range=>Lib.intSat 64 s
 |_=>0
def kB (s:List UInt8)(top:Nat):Value×A6×Nat:=
 (.tuple ⟨[.int .i64 (Y1 s),if fh s then .nilIface else .iface 241 (.pointer (some ⟨top,0,none⟩))]⟩, [],if fh s then top else top+1)
def Sq:BE:= .det (fun args hp _=>match args with | [.string ⟨⟨s⟩⟩, .int .i64 b, .int .i64 B]=>b=10∧B=64∧s.length≤281474976710656∧(∃t a,hp 4=some (Pc 3 (.iface t a)))∧(∃t a,hp 6=some (Pc 4 (.iface t a))) | _=>False)
 (fun args _ top=>match args with | [s,_,_]=>kB (strOf s) top | _=>(undef, [],top))
theorem jd {φ:Dm.Ren}{own:Nat→Prop}{hp:Hp}{w w':World}{top N:Nat}{n:Int}{t:TypeId}(H:HR φ own hp w)(htop:∀j,top≤j→φ j=none)(hb:Go.RowKit.Below w.heap.size w w')(hN:N < w'.heap.size) :
  E8 φ own w (.tuple ⟨[.int .i64 n, .iface t (.pointer (some ⟨top,0,none⟩))]⟩) hp (top+1) (.tuple ⟨[.int .i64 n, .iface t (.pointer (some ⟨N,0,none⟩))]⟩) w' (φ.ext top ⟨N,0,1,1⟩):=by
 have W:=E8.named (n:=n) (t:=t) H htop hb hN
 exact ⟨W.le, .tuple _ _ (.cons _ _ _ _ (.int _ _) (.cons _ _ _ _ (.iface _ _ _ (.ptr top 0 ⟨N,0,1,1⟩ (Ren.A9 ..))) .nil)),W.hr,W.k,W.top⟩
theorem ABk:Ag Tryz.prog 94 Sq:=by
 refine ⟨⟨_,oP.toFTOk⟩,fun args hp top hpre=> ?_⟩
 match args,hpre with
 | [.string ⟨⟨s⟩⟩, .int .i64 b, .int .i64 B],⟨hb,hB,hs,⟨t1,a1,hp3⟩,⟨t2,a2,hp4⟩⟩=>
 subst hb;subst hB
 simp only [AH]
 intro φ own w args' ha H htop
 cases ha with
 |cons _ _ _ _ hx hl=>
 cases hx
 cases hl with
 |cons _ _ _ _ hx hl=>
 cases hx
 cases hl with
 |cons _ _ _ _ hx hl=>
 cases hx
 cases hl
 obtain ⟨v1,V1,c1⟩:=VZ H (by omega) hp3
 obtain ⟨v2,V2,c2⟩:=VZ H (by omega) hp4
 have i1:v1= .nilIface∨∃te pe,v1= .iface te pe:=by cases V1;exact .inr ⟨_,_,rfl⟩
 have i2:v2= .nilIface∨∃te pe,v2= .iface te pe:=by cases V2;exact .inr ⟨_,_,rfl⟩
 cases hr:Lib.atoiAll s with
 |ok v=>
  have ea:kB s top=(.tuple ⟨[.int .i64 v, .nilIface]⟩, [],top):=by simp only [kB,Y1,fh,hr,if_true]
  rw [ea]
  refine (Tryz.strconv_ParseInt_10_at64_ok ⟨⟨s⟩⟩ (by show s.length≤_;omega) v (by rw [Lib.parseIntB_64];exact hr) w).mono ?_
  rintro e w' ⟨rfl,hw⟩
  have hb:Go.RowKit.Below w.heap.size w w':=by
   rcases hw with rfl | ⟨t,rfl⟩
   ·exact Go.RowKit.Below.refl _ _
   ·exact Lib.bytesWorld_below _ _ _
  have k:=K.RG hb
  exact ⟨_,_,_,_,φ,rfl,⟨rfl,rfl,rfl⟩,⟨Ren.le_refl _, .tuple _ _ (.cons _ _ _ _ (.int _ _) (.cons _ _ _ _ .nili .nil)),H.stay k,K.VB H.fresh k,htop⟩⟩
 |range=>
  have ea:kB s top=(.tuple ⟨[.int .i64 (Lib.intSat 64 s), .iface 241 (.pointer (some ⟨top,0,none⟩))]⟩, [],top+1):=by simp [kB,Y1,fh,hr]
  rw [ea]
  refine (Tryz.strconv_ParseInt_10_at64_range ⟨⟨s⟩⟩ hs (by rw [Lib.parseIntB_64];exact hr) v2 w c2 i2).mono ?_
  rintro e w' ⟨N,rfl,h1,h2,hb⟩
  exact ⟨_,_,_,_,φ.ext top ⟨N,0,1,1⟩,rfl,⟨rfl,rfl,rfl⟩,jd H htop hb (Array.getElem?_eq_some_iff.1 h2).1⟩
 |_=>
  have ea:kB s top=(.tuple ⟨[.int .i64 0, .iface 241 (.pointer (some ⟨top,0,none⟩))]⟩, [],top+1):=by simp [kB,Y1,fh,hr]
  rw [ea]
  refine (Tryz.strconv_ParseInt_10_at64_syntax ⟨⟨s⟩⟩ hs (by rw [Lib.parseIntB_64];exact hr) v1 w c1 i1).mono ?_
  rintro e w' ⟨N,rfl,h1,h2,hb⟩
  exact ⟨_,_,_,_,φ.ext top ⟨N,0,1,1⟩,rfl,⟨rfl,rfl,rfl⟩,jd H htop hb (Array.getElem?_eq_some_iff.1 h2).1⟩
def QA (c:Int):Value:= .iface 143 (.agg ⟨[.int .i64 c]⟩)
theorem jG {c:Int}:Hl tt.get 143 (.agg ⟨[.int .i64 c]⟩)=some (.iface 143 (.agg ⟨[.int .i64 c]⟩)):=by simp [Hl,cD,Tl]
def GW:BE:= .pan (fun args _ _=>match args with | [.int .i64 _]=>True | _=>False) (fun args _ top=> .inr (QA (match args with | [c]=>intOf c | _=>0), [],top))
def GS1:FuncId→BE:=BV (BV (BV (BV (BV (BV (BV G0 26 Mc) 95 WH) 94 Sq) 42 UI) 44 Ph) 73 EE) 36 UH
theorem sY:Bp Tryz.prog tt.get GS1:=((((((SD.add AAh).add AAU).add ABk).add u3).add oe).add kx).add uX
theorem oT:Ag Tryz.prog 35 GW:=by
 refine .PD aP ?_
 intro args hp top hpre hcl hsc
 match args,hpre with
 | [.int .i64 c],_=>
 refine D4.Af Am aP rfl 5 rfl [] rfl (show 1≤5 by decide) ?_
 refine CW.vc sY [0] (by kernel_rfl) ?_
 (repeat ((try refine Vc.mk' ?_);simp (maxSteps:=6000000) only [go_sem,jG,QA]))
 (refine ⟨[],by simp,by simp,by simp, ?_, ?_, ?_⟩ <;> simp [])
def GS2:FuncId→BE:=BV GS1 35 GW
theorem iK:Bp Tryz.prog tt.get GS2:=sY.add oT
theorem zC:GS2 35=GW:=rfl
def jc (b:Bool)(top:Nat):(Value×A6×Nat) ⊕ (Value×A6×Nat):=if b then .inl (.tuple ⟨[]⟩, [],top) else .inr (QA 12, [],top)
def Bx:BE:= .pan (fun args _ _=>match args with | [.bool _]=>True | _=>False) (fun args _ top=>jc (match args with | [b]=>Bs b | _=>false) top)
theorem Fs {top:Nat}:jc true top= .inl (.tuple ⟨[]⟩, [],top):=rfl
theorem EU {top:Nat}:jc false top= .inr (QA 12, [],top):=rfl
theorem pH:Ag Tryz.prog 37 Bx:=by
 refine .PD aQ ?_
 intro args hp top hpre hcl hsc
 match args,hpre with
 | [.bool b],_=>
 simp only [Jo]
 refine D4.Af Am aQ rfl 5 rfl [] rfl (show 1≤5 by decide) ?_
 cases b with
 |true=>
  simp only [Fs]
  refine CW.vc iK [0,3] (by kernel_rfl) ?_
  (repeat ((try refine Vc.mk' ?_);simp (maxSteps:=6000000) only [go_sem]))
  (refine ⟨[],by simp,by simp,by simp, ?_, ?_, ?_⟩ <;> simp [])
 |false=>
  simp only [EU]
  refine CW.vc iK [0,3] (by kernel_rfl) ?_
  (repeat ((try refine Vc.mk' ?_);simp (maxSteps:=6000000) only [go_sem,zC,GW]))
  (refine ⟨[],by simp,by simp,by simp, ?_, ?_, ?_⟩ <;> simp [])
def zD:FuncId→BE:=BV GS2 37 Bx
theorem Qo:Bp Tryz.prog tt.get zD:=iK.add pH
theorem gB:zD 37=Bx:=rfl
theorem gA:zD 95=WH:=rfl
theorem X8:zD 94=Sq:=rfl
def HC (s:List UInt8):Option Int:=if fh s∧Lib.itoa (Y1 s)=s then some (Y1 s) else none
def Pb (s:List UInt8)(top:Nat):(Value×A6×Nat) ⊕ (Value×A6×Nat):=match HC s with
 |some n=> .inl (.int .i64 n, [],top)
 |none=> .inr (QA 12, [],top)
theorem VE {s:List UInt8}(h:fh s=true):Ev (Y1 s):=by
 unfold fh at h
 unfold Y1
 split at h
 ·rename_i v hv;rw [hv];exact Lib.atoiAll_bounds hv
 ·cases h
theorem EW {s:List UInt8}{n:Int}:HC s=some n ↔ (fh s=true∧Y1 s=n∧Lib.itoa n=s):=by
 unfold HC
 constructor
 ·intro h
  split at h
  ·rename_i c;cases h;exact ⟨c.1,rfl,c.2⟩
  ·cases h
 ·rintro ⟨h1,rfl,h2⟩
  rw [if_pos ⟨h1,h2⟩]
def L3:BE:= .pan (fun args hp _=>match args with | [.string ⟨⟨s⟩⟩]=>s.length≤281474976710656∧C8 hp | _=>False) (fun args _ top=>match args with | [s]=>Pb (strOf s) top | _=> .inr (undef, [],top))
theorem vQ:Ag Tryz.prog 75 L3:=by
 refine .PD ax ?_
 intro args hp top hpre hcl hsc
 match args,hpre with
 | [.string ⟨⟨s⟩⟩],⟨hs,hv⟩=>
 obtain ⟨hp1,_,hv3,hv4⟩:=hv
 simp only [AH]
 refine D4.Af Am ax rfl 20 rfl [.tmp 2] rfl (show 1≤20 by decide) ?_
 cases hE:fh s with
 |false=>
  have e:Pb s top= .inr (QA 12, [],top):=by unfold Pb HC;rw [hE];rfl
  have eV:∀T,kB s T=(.tuple ⟨[.int .i64 (Y1 s), .iface 241 (.pointer (some ⟨T,0,none⟩))]⟩, [],T+1):=fun T=>by unfold kB;rw [hE];rfl
  rw [e]
  refine CW.vc Qo [0,2,3,4] (by kernel_rfl) ?_
  (repeat ((try refine Vc.mk' ?_);simp (maxSteps:=6000000) only [go_sem,gB,Bx,EU,X8,Sq,hs,hv3,hv4,eV,AAQ]))
  (refine ⟨[],by simp,by simp,by simp, ?_, ?_, ?_⟩ <;> simp [])
 |true=>
  have eV:∀T,kB s T=(.tuple ⟨[.int .i64 (Y1 s), .nilIface]⟩, [],T):=fun T=>by unfold kB;rw [hE];rfl
  have hI:=VE hE
  by_cases c:Lib.itoa (Y1 s)=s
  ·have e:Pb s top= .inl (.int .i64 (Y1 s), [],top):=by unfold Pb HC;rw [if_pos ⟨hE,c⟩]
   rw [e]
   refine CW.vc Qo [0,2,3,4] (by kernel_rfl) ?_
   (repeat ((try refine Vc.mk' ?_);simp (maxSteps:=6000000) only [go_sem,gB,Bx,X8,Sq,hs,hv3,hv4,eV,aA,gA,WH,hI,hp1,Ay,c,decide_true,Fs]))
   (refine ⟨[],by simp,by simp,by simp, ?_, ?_, ?_⟩ <;> simp [])
  ·have e:Pb s top= .inr (QA 12, [],top):=by unfold Pb HC;rw [if_neg (fun h=>c h.2)]
   rw [e]
   refine CW.vc Qo [0,2,3,4] (by kernel_rfl) ?_
   (repeat ((try refine Vc.mk' ?_);simp (maxSteps:=6000000) only [go_sem,gB,Bx,X8,Sq,hs,hv3,hv4,eV,aA,gA,WH,hI,hp1,Ay,c,decide_false,EU]))
   (refine ⟨[],by simp,by simp,by simp, ?_, ?_, ?_⟩ <;> simp [])
end Go.Proofs.YthlhnangbinhoaaGreatDoor.Dm
