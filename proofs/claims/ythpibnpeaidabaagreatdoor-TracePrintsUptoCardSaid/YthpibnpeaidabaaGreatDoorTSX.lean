import Derived.Test.YthpibnpeaidabaaGreatDoorTSP
import Derived.Test.YthpibnpeaidabaaGreatDoorShelf
set_option linter.unusedVariables false
namespace Go.Proofs.YthpibnpeaidabaaGreatDoor.Dm
open Go.Dm
open Go.Sort (ltInt swp)
set_option maxHeartbeats 16000000
set_option maxRecDepth 20000
def aC (r:UInt64):Option Ay:=some (.cells true 0 [.int .u64 (r.toNat:Int)])
def fO (hp:Hp)(s:Nat):UInt64:=match hp s with | some (.cells _ _ [.int _ n])=>UInt64.ofNat n.toNat | _=>0
theorem Xc {hp:Hp}{s:Nat}{r:UInt64}(h:hp s=aC r):fO hp s=r:=by unfold fO;rw [h];simp [aC]
def po (hp:Hp)(s:Nat):Prop:= ∃r,hp s=aC r
def Ss:BG:= .det (fun args hp _=>match args with | [.pointer (some ⟨s,0,none⟩)]=>po hp s | _=>False)
 (fun args hp top=>match args with | [.pointer (some ⟨s,_,_⟩)]=>(.int .u64 ((Go.Sort.xorNext (fO hp s)).toNat:Int), [(s,aC (Go.Sort.xorNext (fO hp s)))],top) | _=>(undef, [],top))
theorem Rr {ρ:Nat→Nat}{r:UInt64}:IZ ρ (aC r)=aC r:=rfl
theorem cZ {n:Int}(h:0≤n):AP .u64 n=n % 18446744073709551616:=by
 rw [CS]
 simp [IntKind.wrap,IntKind.signed,IntKind.bits]
theorem xc {r:UInt64}:AP .u64 ((r.toNat:Int) * Int.ofNat (Nat.pow 2 ((Int.toNat 13).min 64)))=(((r <<< 13).toNat:Nat):Int):=by
 have e:Int.ofNat (Nat.pow 2 ((Int.toNat 13).min 64))=8192:=by decide
 have h:(r <<< 13).toNat=r.toNat * 8192 % 18446744073709551616:=by
  rw [UInt64.toNat_shiftLeft,show (13:UInt64).toNat % 64=13 from rfl,Nat.shiftLeft_eq]
 rw [e,cZ (by omega),h];omega
theorem wq {r:UInt64}:AP .u64 ((r.toNat:Int) * Int.ofNat (Nat.pow 2 ((Int.toNat 17).min 64)))=(((r <<< 17).toNat:Nat):Int):=by
 have e:Int.ofNat (Nat.pow 2 ((Int.toNat 17).min 64))=131072:=by decide
 have h:(r <<< 17).toNat=r.toNat * 131072 % 18446744073709551616:=by
  rw [UInt64.toNat_shiftLeft,show (17:UInt64).toNat % 64=17 from rfl,Nat.shiftLeft_eq]
 rw [e,cZ (by omega),h];omega
theorem AAk {r:UInt64}:((r.toNat:Int)).fdiv (Int.ofNat (Nat.pow 2 ((Int.toNat 7).min 64)))=(((r >>> 7).toNat:Nat):Int):=by
 have e:Int.ofNat (Nat.pow 2 ((Int.toNat 7).min 64))=128:=by decide
 have h:(r >>> 7).toNat=r.toNat / 128:=by
  rw [UInt64.toNat_shiftRight,show (7:UInt64).toNat % 64=7 from rfl,Nat.shiftRight_eq_div_pow]
 rw [e,h,Int.fdiv_eq_ediv_of_nonneg _ (by omega)];omega
theorem lu {x y:Nat}(hx:x < 18446744073709551616)(hy:y < 18446744073709551616):EH .xor .u64 (x:Int) (y:Int)=((x ^^^ y:Nat):Int):=by
 have h1:x ^^^ y < 18446744073709551616:=Nat.xor_lt_two_pow (n:=64) hx hy
 have e:(BitVec.ofInt 64 (x:Int) ^^^ BitVec.ofInt 64 (y:Int)).toNat=x ^^^ y:=by rw [BitVec.toNat_xor,Jp hx,Jp hy]
 show IntKind.u64.wrap ((BitVec.ofInt 64 (x:Int) ^^^ BitVec.ofInt 64 (y:Int)).toNat:Int)=_
 rw [e]
 have:=VC (x:=x ^^^ y)
 rwa [Nat.mod_eq_of_lt h1] at this
theorem zp {a b:UInt64}:EH .xor .u64 (a.toNat:Int) (b.toNat:Int)=(((a ^^^ b).toNat:Nat):Int):=by
 rw [UInt64.toNat_xor]
 exact lu (UInt64.toNat_lt a) (UInt64.toNat_lt b)
theorem WQ {r:UInt64}:Go.Sort.xorNext r=((r ^^^ (r <<< 13)) ^^^ ((r ^^^ (r <<< 13)) >>> 7)) ^^^ (((r ^^^ (r <<< 13)) ^^^ ((r ^^^ (r <<< 13)) >>> 7)) <<< 17):=rfl
theorem vV:Aw Tryz.prog 134 Ss:=by
 refine .Cg N3 ?_
 intro args hp top hpre hcl hsc
 match args,hpre with
 | [.pointer (some ⟨s,0,none⟩)],hpre=>
 obtain ⟨r,hs⟩:=hpre
 have hst:s < top:=hcl.lt s _ hs
 simp only [Xc hs]
 have hs':hp s=some (.cells true 0 [.int .u64 (r.toNat:Int)]):=hs
 refine AK.Ar A7 N3 rfl 33 rfl [.tmp 2] rfl (show 1≤33 by decide) ?_
 refine CW.vc A0 [0,2] (by kernel_rfl) ?_
 (repeat ((try refine Vc.mk' ?_);simp (maxSteps:=6000000) only [go_sem,Int.reduceLE,hs',xc,zp,AAk,wq]))
 rw [←WQ]
 (refine ⟨[],by simp,by simp,by simp, ?_, ?_, ?_⟩ <;> simp [Ax,Bt,AB.nil,AB.cons,A9,BA,AD,AJ.A5,AJ.refl,AM hst,aC])
theorem jm (x:Nat)(h:x < 2 ^ 64):Lib.bitLen x=Go.Sort.bitsLen x:=by
 induction x using Nat.strongRecOn with
 |ind x ih=>
  by_cases h0:x=0
  ·subst h0;decide
  ·rw [Lib.bitLen_half x h0 h,ih (x / 2) (by omega) (by omega)]
   unfold Go.Sort.bitsLen
   rw [if_neg h0]
   by_cases h1:x / 2=0
   ·have:x=1:=by omega
    subst this;decide
   ·rw [if_neg h1,Nat.log2_def x,if_pos (by omega)];omega
def La:BG:= .pure (fun args _=>match args with | [.int .u64 x]=>0≤x∧x≤18446744073709551615 | _=>False) (fun args _=>match args with | [.int _ x]=> .int .i64 (Go.Sort.bitsLen x.toNat:Int) | _=>undef)
theorem pf:Aw Tryz.prog 80 La:=by
 refine ⟨⟨_,XQ.toFTOk⟩,fun args hp hpre top=> ?_⟩
 match args,hpre with
 | [.int .u64 x],⟨h0,h1⟩=>
 intro φ own w args' hargs H htop
 cases hargs with
 |cons _ _ _ _ hx hl=>
 cases hl
 cases hx
 refine Calls.mono (Tryz.bits_Len x w h0 h1) ?_
 rintro e w' ⟨rfl,rfl⟩
 rw [jm _ (by omega)]
 exact ⟨_,_,_,_,φ,rfl,⟨rfl,rfl,rfl⟩,⟨Dm.Ren.le_refl _, .int _ _,H,Dm.K.refl _ _,htop⟩⟩
def GS6:FuncId→BG:=BQ (BQ vJ 80 La) 134 Ss
theorem qY:B4 Tryz.prog tt.get GS6:=(A0.add pf).add vV
theorem wT:GS6 80=La:=rfl
def Wf:BG:= .pure (fun args _=>match args with | [.int .i64 x]=>0≤x∧x≤35184372088832 | _=>False) (fun args _=>match args with | [.int _ x]=> .int .u64 ((1 <<< Go.Sort.bitsLen x.toNat:Nat):Int) | _=>undef)
theorem qa {n:Nat}(h:n≤35184372088832):Go.Sort.bitsLen n≤46:=(Go.Sort.bitsLen_le_iff n 46).2 (by omega)
theorem xg:Aw Tryz.prog 133 Wf:=by
 refine .Ep NZ ?_ ?_
 ·rintro args hp h
  match args,h with
  | [.int .i64 x],_=>rfl
 intro args hp hpre top hcl hsc
 match args,hpre with
 | [.int .i64 x],⟨h0,h1⟩=>
 obtain ⟨x,rfl⟩:=Int.eq_ofNat_of_zero_le h0
 have hb:=qa (n:=x) (by omega)
 have w1:AP .u64 (x:Int)=(x:Int):=wrap_u64 (by omega) (by omega)
 have p1:((0:Int)≤(x:Int))=True:=eq_true (by omega)
 have p2:((x:Int)≤18446744073709551615)=True:=eq_true (by omega)
 simp only [Int.toNat_natCast]
 refine AK.Ar A7 NZ rfl 7 rfl [.tmp 2] rfl (show 1≤7 by decide) ?_
 refine CW.vc qY [0,2] (by kernel_rfl) ?_
 (repeat ((try refine Vc.mk' ?_);simp (maxSteps:=6000000) only [go_sem,w1,wT,La,p1,p2,Int.toNat_natCast]))
 have e1:(Go.Sort.bitsLen x).min 64=Go.Sort.bitsLen x:=Nat.min_eq_left (by omega)
 have e2:2 ^ Go.Sort.bitsLen x≤2 ^ 46:=Nat.pow_le_pow_right (by decide) hb
 rw [e1,Nat.one_shiftLeft,Int.one_mul,wrap_u64 (by exact Int.natCast_nonneg _) (by show ((2 ^ Go.Sort.bitsLen x:Nat):Int) < _;omega)]
 rfl
def aA (d:Array Int)(a l m i0:Nat):Nat→UInt64×Array Int
 |0=>(UInt64.ofNat l,d)
 |k+1=>Go.Sort.breakStep a l m (aA d a l m i0 k) (i0+k)
theorem Wd {d:Array Int}{a l m i0:Nat}:∀k,(aA d a l m i0 k).2.size=d.size
 |0=>rfl
 |k+1=>by
  rw [aA,Go.Sort.breakStep]
  dsimp only
  rw [swp_size,Wd k]
theorem Jc {d:Array Int}{a b:Nat}:(Go.Sort.breakPatterns d a b).size=d.size:=by
 unfold Go.Sort.breakPatterns
 dsimp only
 split
 ·simp only [Go.Sort.breakStep,swp_size]
 ·rfl
def GS7:FuncId→BG:=BQ GS6 133 Wf
theorem SZ:B4 Tryz.prog tt.get GS7:=qY.add xg
theorem wK:GS7 133=Wf:=rfl
theorem pA:GS7 134=Ss:=rfl
def jQ (hp:Hp)(top:Nat)(q n a l m i0:Nat)(d:Array Int)(k:Nat):SS:=⟨[(0, .slice (some ⟨q,0,none⟩) n n,true),(1, .int .i64 (a:Int),true),(6, .int .i64 (l:Int),true),(7, .pointer (some ⟨top,0,none⟩),true),(8, .int .u64 (m:Int),true),(9, .int .i64 ((i0+k:Nat):Int),true)],hp.Al [(top,aC (aA d a l m i0 k).1),(q,AQ (aA d a l m i0 k).2)],top+1⟩
theorem yO:Aw Tryz.prog 109 (Hl Go.Sort.breakPatterns):=by
 refine .Cg Mw ?_
 intro args hp top hpre hcl hsc
 match args,hpre with
 | [v, .int .i64 a, .int .i64 b],hpre=>
 obtain ⟨q,d,hrow,h1,h2,h3⟩:=hpre
 obtain ⟨a,rfl⟩:=Int.eq_ofNat_of_zero_le h1
 obtain ⟨b,rfl⟩:=Int.eq_ofNat_of_zero_le (show 0≤b by omega)
 have hn:d.size≤35184372088832:=hrow.le
 have hqt:=hrow.Z4 hcl
 have h0:0 < d.size:=hrow.pos
 simp only [hrow.D5,hrow.MR,intOf_int,Int.toNat_natCast]
 obtain ⟨rfl,ho,_,_⟩:=hrow
 have hab:a < b:=by omega
 have hbn:b≤d.size:=by omega
 obtain ⟨l,hl⟩:∃m:Nat,m=b - a:=⟨_,rfl⟩
 have w1:AP .i64 ((b:Int) - (a:Int))=((l:Nat):Int):=by rw [wrap64 (by omega) (by omega)];omega
 have hq1:¬top=q:=by omega
 refine AK.Ar A7 Mw rfl 65 rfl [] rfl (show 3≤65 by decide) ?_
 by_cases c8:l≥8
 ·have c8':((l:Int) < 8)=False:=eq_false (by omega)
  obtain ⟨m,hm⟩:∃m:Nat,m=l / 4:=⟨_,rfl⟩
  obtain ⟨m2,hm2⟩:∃m:Nat,m=l / 4 * 2:=⟨_,rfl⟩
  obtain ⟨j0,hj0⟩:∃m:Nat,m=a+l / 4 * 2:=⟨_,rfl⟩
  obtain ⟨i0,hi0⟩:∃m:Nat,m=a+l / 4 * 2 - 1:=⟨_,rfl⟩
  obtain ⟨j1,hj1⟩:∃m:Nat,m=a+l / 4 * 2+1:=⟨_,rfl⟩
  have w2:IntKind.i64.wrap ((l:Int).tdiv 4)=((m:Nat):Int):=by rw [show (l:Int).tdiv 4=((l / 4:Nat):Int) from rfl,←CS,wrap64 (by omega) (by omega)];omega
  have w3:AP .i64 ((m:Int) * 2)=((m2:Nat):Int):=by rw [wrap64 (by omega) (by omega)];omega
  have w4:AP .i64 ((a:Int)+(m2:Int))=((j0:Nat):Int):=by rw [wrap64 (by omega) (by omega)];omega
  have w5:AP .i64 ((j0:Int) - 1)=((i0:Nat):Int):=by rw [wrap64 (by omega) (by omega)];omega
  have w6:AP .i64 ((j0:Int)+1)=((j1:Nat):Int):=by rw [wrap64 (by omega) (by omega)];omega
  have w7:AP .u64 (l:Int)=(l:Int):=wrap_u64 (by omega) (by omega)
  have hM:=Go.Sort.two_pow_bitsLen_le (n:=l) (by omega)
  obtain ⟨M,hMd⟩:∃M:Nat,M=1 <<< Go.Sort.bitsLen l:=⟨_,rfl⟩
  have hM1:M=2 ^ Go.Sort.bitsLen l:=by rw [hMd,Nat.one_shiftLeft]
  have hM2:0 < M:=by rw [hM1];exact Nat.two_pow_pos _
  have hl0:some (Ay.cells true 0 [.int .u64 (l:Int)])=aC (UInt64.ofNat l):=by
   unfold aC
   rw [UInt64.toNat_ofNat',Nat.mod_eq_of_lt (by omega)]
  have p1:((0:Int)≤(l:Int))=True:=eq_true (by omega)
  have p2:((l:Int)≤35184372088832)=True:=eq_true (by omega)
  have eB:Go.Sort.breakPatterns d a b=(aA d a l M i0 3).2:=by
   unfold Go.Sort.breakPatterns
   rw [←hl,if_pos c8,←hMd,←hi0];rfl
  rw [eB]
  refine CW.vc SZ [0,1,2,6,7,8,9,10,15,33,43] (by kernel_rfl) ?_
  (repeat ((try refine Vc.mk' ?_);simp (maxSteps:=6000000) only [go_sem,Nat.reduceAdd,Int.reduceEq,w1,c8',decide_false,Bool.not_false,w2,w3,w4,w5,w7,hl0,wK,Wf,p1,p2,Int.toNat_natCast,←hMd]))
  have hqn:¬q=top:=by omega
  refine CW.Bs (jQ hp top q d.size a l M i0 d) (fun k=>k≤3) (fun k=>3 - k) 0 (by omega) ?_ ?_
  ·exact (by refine Ao.mk' [top] hcl (by simp) (by simp) rfl (AG ?_) ?_ ?_ <;> simp [Ac,BU,Ax,AB.nil,AB.cons,Ap,AD,BF,AJ.set,AJ.refl,aA,AM hqt,AL,Rr,ho,hqn])
  ·intro k hk
   have hfs:=Wd (d:=d) (a:=a) (l:=l) (m:=M) (i0:=i0) k
   have rq:∀ {h':Hp} {o:Option Ay},(h'.set top o) q=h' q:=fun {h'} {o}=>by simp only [Hp.set,if_neg hqn]
   obtain ⟨J,hJ⟩:∃m:Nat,m=i0+k:=⟨_,rfl⟩
   by_cases c3:k < 3
   ·have cj:((j1:Int) < ((i0+k:Nat):Int))=False:=eq_false (by omega)
    obtain ⟨r,f,hrf⟩:∃r f,aA d a l M i0 k=(r,f):=⟨_,_,rfl⟩
    rw [hrf] at hfs
    dsimp only at hfs
    have p3:∀ {h':Hp},h' top=aC r→po h' top=True:=fun e=>eq_true ⟨r,e⟩
    have p4:∀ {h':Hp},h' top=aC r→fO h' top=r:=fun e=>Xc e
    obtain ⟨m1,hm1⟩:∃m:Nat,m=M - 1:=⟨_,rfl⟩
    have w8:AP .u64 ((M:Int) - 1)=(m1:Int):=by rw [wrap_u64 (by omega) (by omega)];omega
    obtain ⟨o1,ho1⟩:∃o1,o1=(Go.Sort.xorNext r).toNat &&& m1:=⟨_,rfl⟩
    have ho2:o1≤m1:=by rw [ho1];exact Nat.and_le_right
    have and1:EH .and .u64 ((Go.Sort.xorNext r).toNat:Int) (m1:Int)=(o1:Int):=by rw [Fl (UInt64.toNat_lt _) (by omega),ho1]
    have w9:AP .i64 (o1:Int)=(o1:Int):=wrap64 (by omega) (by omega)
    have w11:AP .i64 (((i0+k:Nat):Int)+1)=((i0+(k+1):Nat):Int):=by rw [wrap64 (by omega) (by omega)];omega
    rw [←hJ] at w11 cj
    by_cases co:o1≥l
    ·have co':((o1:Int) < (l:Int))=False:=eq_false (by omega)
     obtain ⟨o2,ho2⟩:∃m:Nat,m=o1 - l:=⟨_,rfl⟩
     have w12:AP .i64 ((o1:Int) - (l:Int))=((o2:Nat):Int):=by rw [wrap64 (by omega) (by omega)];omega
     obtain ⟨pp,hpp⟩:∃m:Nat,m=a+o2:=⟨_,rfl⟩
     have w10:AP .i64 ((a:Int)+(o2:Int))=((pp:Nat):Int):=by rw [wrap64 (by omega) (by omega)];omega
     have x0:=fun (bb:Nat)=>Am (b:=bb) hn (show J < d.size by omega)
     have l0:∀ {h':Hp},h' q=AQ f→Ad tt.get h' 29 (.pointer (some ⟨q,J,none⟩))=(.int .u32 f[J]!,True):=fun hee=>Aj hee (by omega) (by omega)
     have x1:=fun (bb:Nat)=>Am (b:=bb) hn (show pp < d.size by omega)
     have l1:∀ {h':Hp},h' q=AQ f→Ad tt.get h' 29 (.pointer (some ⟨q,pp,none⟩))=(.int .u32 f[pp]!,True):=fun hee=>Aj hee (by omega) (by omega)
     have s1a:∀ {h':Hp},h' q=AQ f→Ai tt.get h' 29 (.pointer (some ⟨q,J,none⟩)) (.int .u32 f[pp]!)=([(q,AQ (f.setIfInBounds J f[pp]!))],True):=fun hee=>BC hee (by omega)
     have s1b:∀ {h':Hp},h' q=AQ (f.setIfInBounds J f[pp]!)→Ai tt.get h' 29 (.pointer (some ⟨q,pp,none⟩)) (.int .u32 f[J]!)=([(q,AQ (swp f J pp))],True):=fun hee=>BC hee (by rw [Array.size_setIfInBounds];omega)
     have es:aA d a l M i0 (k+1)=(Go.Sort.xorNext r,swp f J pp):=by
      rw [aA,hrf]
      unfold Go.Sort.breakStep
      dsimp only
      rw [←hm1,←ho1,if_pos co,←ho2,←hJ,hpp]
     refine CW.vc SZ [0,1,2,6,7,8,9,10,15,33,43] (by kernel_rfl) ?_
     (repeat ((try refine Vc.mk' ?_);simp (maxSteps:=6000000) only [go_sem,Int.reduceEq,jQ,hrf,w2,w3,w4,w6,w11,cj,decide_false,Bool.not_false,pA,Ss,p3,p4,w8,and1,w9,co',w12,←hJ,w10,x0,l0,x1,l1,s1a,s1b,rq,hq1]))
     refine .mk (k+1) (by omega) (by omega) ((by refine Ao.mk' [top] hcl (by simp) (by simp) rfl (AG ?_) ?_ ?_ <;> simp [Ac,BU,Ax,AB.nil,AB.cons,Ap,AD,BF,AJ.set,AJ.A5,AJ.refl,es,AM hqt,AL,Rr,hq1,hqn]))
    ·have co':((o1:Int) < (l:Int))=True:=eq_true (by omega)
     obtain ⟨pp,hpp⟩:∃m:Nat,m=a+o1:=⟨_,rfl⟩
     have w10:AP .i64 ((a:Int)+(o1:Int))=((pp:Nat):Int):=by rw [wrap64 (by omega) (by omega)];omega
     have x0:=fun (bb:Nat)=>Am (b:=bb) hn (show J < d.size by omega)
     have l0:∀ {h':Hp},h' q=AQ f→Ad tt.get h' 29 (.pointer (some ⟨q,J,none⟩))=(.int .u32 f[J]!,True):=fun hee=>Aj hee (by omega) (by omega)
     have x1:=fun (bb:Nat)=>Am (b:=bb) hn (show pp < d.size by omega)
     have l1:∀ {h':Hp},h' q=AQ f→Ad tt.get h' 29 (.pointer (some ⟨q,pp,none⟩))=(.int .u32 f[pp]!,True):=fun hee=>Aj hee (by omega) (by omega)
     have s1a:∀ {h':Hp},h' q=AQ f→Ai tt.get h' 29 (.pointer (some ⟨q,J,none⟩)) (.int .u32 f[pp]!)=([(q,AQ (f.setIfInBounds J f[pp]!))],True):=fun hee=>BC hee (by omega)
     have s1b:∀ {h':Hp},h' q=AQ (f.setIfInBounds J f[pp]!)→Ai tt.get h' 29 (.pointer (some ⟨q,pp,none⟩)) (.int .u32 f[J]!)=([(q,AQ (swp f J pp))],True):=fun hee=>BC hee (by rw [Array.size_setIfInBounds];omega)
     have es:aA d a l M i0 (k+1)=(Go.Sort.xorNext r,swp f J pp):=by
      rw [aA,hrf]
      unfold Go.Sort.breakStep
      dsimp only
      rw [←hm1,←ho1,if_neg co,←hJ,hpp]
     refine CW.vc SZ [0,1,2,6,7,8,9,10,15,33,43] (by kernel_rfl) ?_
     (repeat ((try refine Vc.mk' ?_);simp (maxSteps:=6000000) only [go_sem,Int.reduceEq,jQ,hrf,w2,w3,w4,w6,w11,cj,decide_false,decide_true,Bool.not_false,Bool.not_true,pA,Ss,p3,p4,w8,and1,w9,co',←hJ,w10,x0,l0,x1,l1,s1a,s1b,rq,hq1]))
     refine .mk (k+1) (by omega) (by omega) ((by refine Ao.mk' [top] hcl (by simp) (by simp) rfl (AG ?_) ?_ ?_ <;> simp [Ac,BU,Ax,AB.nil,AB.cons,Ap,AD,BF,AJ.set,AJ.A5,AJ.refl,es,AM hqt,AL,Rr,hq1,hqn]))
   ·have hk3:k=3:=by omega
    subst hk3
    have cj:((j1:Int) < (J:Int))=True:=eq_true (by omega)
    refine CW.vc SZ [0,1,2,6,7,8,9,10,15,33,43] (by kernel_rfl) ?_
    (repeat ((try refine Vc.mk' ?_);simp (maxSteps:=6000000) only [go_sem,Int.reduceEq,jQ,w2,w3,w4,w6,←hJ,cj,decide_true,Bool.not_true]))
    (refine ⟨[],by simp,by simp,by simp, ?_, ?_, ?_⟩ <;> simp [Ax,Bt,AB.nil,AB.cons,AD,AJ.set,AJ.A5,AJ.refl,AM hqt,AL])
 ·have c8':((l:Int) < 8)=True:=eq_true (by omega)
  have eB:Go.Sort.breakPatterns d a b=d:=by
   unfold Go.Sort.breakPatterns
   rw [←hl,if_neg c8]
  rw [eB]
  refine CW.vc SZ [0,1,2,6,7,8,9,10,15,33,43] (by kernel_rfl) ?_
  (repeat ((try refine Vc.mk' ?_);simp (maxSteps:=6000000) only [go_sem,Nat.reduceAdd,w1,c8',decide_true,Bool.not_true]))
  (refine ⟨[],by simp,by simp,by simp, ?_, ?_, ?_⟩ <;> simp [Ax,Bt,AB.nil,AB.cons,AJ.refl,AM hqt,AL,ho])
end Go.Proofs.YthpibnpeaidabaaGreatDoor.Dm
