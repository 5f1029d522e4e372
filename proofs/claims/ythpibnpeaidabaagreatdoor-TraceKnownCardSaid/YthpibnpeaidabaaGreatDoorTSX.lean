/- slices.Sort of []uint32: breakPatterns and what it leans on. -/
import Derived.Test.YthpibnpeaidabaaGreatDoorTSP
import Derived.Test.YthpibnpeaidabaaGreatDoorShelf
set_option linter.unusedSimpArgs false
set_option linter.unusedVariables false
namespace Go.Proofs.YthpibnpeaidabaaGreatDoor.Dm
open Go.Dm
open Go.Sort (ltInt swp)
set_option maxHeartbeats 16000000
set_option maxRecDepth 20000
def Xu (r:UInt64):Option A5:=some (.cells true 0 [.int .u64 (r.toNat:Int)])
def ab (hp:Hp)(s:Nat):UInt64:=match hp s with | some (.cells _ _ [.int _ n])=>UInt64.ofNat n.toNat | _=>0
theorem UU {hp:Hp}{s:Nat}{r:UInt64}(h:hp s=Xu r):ab hp s=r:=by unfold ab;rw [h];simp [Xu]
def ke (hp:Hp)(s:Nat):Prop:= ∃r,hp s=Xu r
def RU:BO:= .det (fun args hp _=>match args with | [.pointer (some ⟨s,0,none⟩)]=>ke hp s | _=>False)
 (fun args hp top=>match args with | [.pointer (some ⟨s,_,_⟩)]=>(.int .u64 ((Go.Sort.xorNext (ab hp s)).toNat:Int), [(s,Xu (Go.Sort.xorNext (ab hp s)))],top) | _=>(undef, [],top))
theorem K6 {ρ:Nat→Nat}{r:UInt64}:Ku ρ (Xu r)=Xu r:=rfl
theorem Z4 {n:Int}(h:0≤n):Ae .u64 n=n % 18446744073709551616:=by
 rw [Cg]
 simp [IntKind.wrap,IntKind.signed,IntKind.bits]
theorem o5 {r:UInt64}:Ae .u64 ((r.toNat:Int) * Int.ofNat (Nat.pow 2 ((Int.toNat 13).min 64)))=(((r <<< 13).toNat:Nat):Int):=by
 have e:Int.ofNat (Nat.pow 2 ((Int.toNat 13).min 64))=8192:=by decide
 have h:(r <<< 13).toNat=r.toNat * 8192 % 18446744073709551616:=by
  rw [UInt64.toNat_shiftLeft,show (13:UInt64).toNat % 64=13 from rfl,Nat.shiftLeft_eq]
 rw [e,Z4 (by omega),h];omega
theorem qw {r:UInt64}:Ae .u64 ((r.toNat:Int) * Int.ofNat (Nat.pow 2 ((Int.toNat 17).min 64)))=(((r <<< 17).toNat:Nat):Int):=by
 have e:Int.ofNat (Nat.pow 2 ((Int.toNat 17).min 64))=131072:=by decide
 have h:(r <<< 17).toNat=r.toNat * 131072 % 18446744073709551616:=by
  rw [UInt64.toNat_shiftLeft,show (17:UInt64).toNat % 64=17 from rfl,Nat.shiftLeft_eq]
 rw [e,Z4 (by omega),h];omega
theorem sD {r:UInt64}:((r.toNat:Int)).fdiv (Int.ofNat (Nat.pow 2 ((Int.toNat 7).min 64)))=(((r >>> 7).toNat:Nat):Int):=by
 have e:Int.ofNat (Nat.pow 2 ((Int.toNat 7).min 64))=128:=by decide
 have h:(r >>> 7).toNat=r.toNat / 128:=by
  rw [UInt64.toNat_shiftRight,show (7:UInt64).toNat % 64=7 from rfl,Nat.shiftRight_eq_div_pow]
 rw [e,h,Int.fdiv_eq_ediv_of_nonneg _ (by omega)];omega
theorem eD {x y:Nat}(hx:x < 18446744073709551616)(hy:y < 18446744073709551616):Ek .xor .u64 (x:Int) (y:Int)=((x ^^^ y:Nat):Int):=by
 have h1:x ^^^ y < 18446744073709551616:=Nat.xor_lt_two_pow (n:=64) hx hy
 have e:(BitVec.ofInt 64 (x:Int) ^^^ BitVec.ofInt 64 (y:Int)).toNat=x ^^^ y:=by rw [BitVec.toNat_xor,KA hx,KA hy]
 show IntKind.u64.wrap ((BitVec.ofInt 64 (x:Int) ^^^ BitVec.ofInt 64 (y:Int)).toNat:Int)=_
 rw [e]
 have:=TH (x:=x ^^^ y)
 rwa [Nat.mod_eq_of_lt h1] at this
theorem sJ {a b:UInt64}:Ek .xor .u64 (a.toNat:Int) (b.toNat:Int)=(((a ^^^ b).toNat:Nat):Int):=by
 rw [UInt64.toNat_xor]
 exact eD (UInt64.toNat_lt a) (UInt64.toNat_lt b)
theorem Tt {r:UInt64}:Go.Sort.xorNext r=((r ^^^ (r <<< 13)) ^^^ ((r ^^^ (r <<< 13)) >>> 7)) ^^^ (((r ^^^ (r <<< 13)) ^^^ ((r ^^^ (r <<< 13)) >>> 7)) <<< 17):=rfl
theorem qj:BG Tryz.prog 134 RU:=by
 refine .Cy La ?_
 intro args hp top hpre hcl hsc
 match args,hpre with
 | [.pointer (some ⟨s,0,none⟩)],hpre=>
 obtain ⟨r,hs⟩:=hpre
 have hst:s < top:=hcl.lt s _ hs
 simp only [UU hs]
 have hs':hp s=some (.cells true 0 [.int .u64 (r.toNat:Int)]):=hs
 refine Ab.BF BN La rfl 33 rfl [.tmp 2] rfl (show 1≤33 by decide) ?_
 refine CW.vc A3 [0,2] (by kernel_rfl) ?_
 (repeat ((try refine Vc.mk' ?_);simp (maxSteps:=6000000) only [go_sem,reduceIte,reduceCtorEq,Nat.reduceAdd,Nat.reduceMul,Nat.reduceSub,Nat.reduceLT,Nat.reduceLeDiff,Nat.reduceEqDiff,Int.reduceEq,Int.reduceLT,Int.reduceLE,Int.reduceNe,hs',o5,sJ,sD,qw]))
 rw [←Tt]
 (refine ⟨[],by simp,by simp,by simp, ?_, ?_, ?_⟩ <;> simp [Ag,BJ,BH,Am,AP,AF,AJ.nil,AJ.cons,AB,AD,AM,AA,AQ,AX,AO,Ax.AL,AG,AV,AE,AH,AK.set,AK.Ao,AK.refl,Af hst,K6,Xu])
theorem jH (x:Nat)(h:x < 2 ^ 64):Lib.bitLen x=Go.Sort.bitsLen x:=by
 induction x using Nat.strongRecOn with
 |ind x ih=>
  by_cases h0:x=0
  ·subst h0;decide
  ·rw [Lib.bitLen_half x h0 h,ih (x / 2) (by omega) (by omega)]
   unfold Go.Sort.bitsLen
   rw [if_neg h0]
   by_cases h1:x / 2=0
   ·have:x=1:=by omega
    subst this;decide
   ·rw [if_neg h1,Nat.log2_def x,if_pos (by omega)];omega
def Kp:BO:= .pure (fun args _=>match args with | [.int .u64 x]=>0≤x∧x≤18446744073709551615 | _=>False) (fun args _=>match args with | [.int _ x]=> .int .i64 (Go.Sort.bitsLen x.toNat:Int) | _=>undef)
theorem kV:BG Tryz.prog 80 Kp:=by
 refine ⟨⟨_,VV.toFTOk⟩,fun args hp hpre top=> ?_⟩
 match args,hpre with
 | [.int .u64 x],⟨h0,h1⟩=>
 intro φ own w args' hargs H htop
 cases hargs with
 |cons _ _ _ _ hx hl=>
 cases hl
 cases hx
 refine Calls.mono (Tryz.bits_Len x w h0 h1) ?_
 rintro e w' ⟨rfl,rfl⟩
 rw [jH _ (by omega)]
 exact ⟨_,_,_,_,φ,rfl,⟨rfl,rfl,rfl⟩,⟨Dm.Ren.le_refl _, .int _ _,H,Dm.K.refl _ _,htop⟩⟩
def sS:FuncId→BO:=Bd (Bd oQ 80 Kp) 134 RU
theorem kn:B9 Tryz.prog tt.get sS:=(A3.add kV).add qj
theorem pS:sS 80=Kp:=rfl
def US:BO:= .pure (fun args _=>match args with | [.int .i64 x]=>0≤x∧x≤35184372088832 | _=>False) (fun args _=>match args with | [.int _ x]=> .int .u64 ((1 <<< Go.Sort.bitsLen x.toNat:Nat):Int) | _=>undef)
theorem jy {n:Nat}(h:n≤35184372088832):Go.Sort.bitsLen n≤46:=(Go.Sort.bitsLen_le_iff n 46).2 (by omega)
theorem qY:BG Tryz.prog 133 US:=by
 refine .HS MG ?_ ?_
 ·rintro args hp h
  match args,h with
  | [.int .i64 x],_=>rfl
 intro args hp hpre top hcl hsc
 match args,hpre with
 | [.int .i64 x],⟨h0,h1⟩=>
 obtain ⟨x,rfl⟩:=Int.eq_ofNat_of_zero_le h0
 have hb:=jy (n:=x) (by omega)
 have w1:Ae .u64 (x:Int)=(x:Int):=wrap_u64 (by omega) (by omega)
 have p1:((0:Int)≤(x:Int))=True:=eq_true (by omega)
 have p2:((x:Int)≤18446744073709551615)=True:=eq_true (by omega)
 simp only [Int.toNat_natCast]
 refine Ab.BF BN MG rfl 7 rfl [.tmp 2] rfl (show 1≤7 by decide) ?_
 refine CW.vc kn [0,2] (by kernel_rfl) ?_
 (repeat ((try refine Vc.mk' ?_);simp (maxSteps:=6000000) only [go_sem,reduceIte,reduceCtorEq,Nat.reduceAdd,Nat.reduceMul,Nat.reduceSub,Nat.reduceLT,Nat.reduceLeDiff,Nat.reduceEqDiff,Int.reduceEq,Int.reduceLT,Int.reduceLE,Int.reduceNe,w1,pS,Kp,p1,p2,Int.toNat_natCast]))
 have e1:(Go.Sort.bitsLen x).min 64=Go.Sort.bitsLen x:=Nat.min_eq_left (by omega)
 have e2:2 ^ Go.Sort.bitsLen x≤2 ^ 46:=Nat.pow_le_pow_right (by decide) hb
 rw [e1,Nat.one_shiftLeft,Int.one_mul,wrap_u64 (by exact Int.natCast_nonneg _) (by show ((2 ^ Go.Sort.bitsLen x:Nat):Int) < _;omega)]
 rfl
def Xx (d:Array Int)(a l m i0:Nat):Nat→UInt64×Array Int
 |0=>(UInt64.ofNat l,d)
 |k+1=>Go.Sort.breakStep a l m (Xx d a l m i0 k) (i0+k)
theorem Ur {d:Array Int}{a l m i0:Nat}:∀k,(Xx d a l m i0 k).2.size=d.size
 |0=>rfl
 |k+1=>by
  rw [Xx,Go.Sort.breakStep]
  dsimp only
  rw [swp_size,Ur k]
theorem I7 {d:Array Int}{a b:Nat}:(Go.Sort.breakPatterns d a b).size=d.size:=by
 unfold Go.Sort.breakPatterns
 dsimp only
 split
 ·simp only [Go.Sort.breakStep,swp_size]
 ·rfl
def sP:FuncId→BO:=Bd sS 133 US
theorem SU:B9 Tryz.prog tt.get sP:=kn.add qY
theorem pI:sP 133=US:=rfl
theorem jq:sP 134=RU:=rfl
def Tj (hp:Hp)(top:Nat)(q n a l m i0:Nat)(d:Array Int)(k:Nat):SS:=⟨[(0, .slice (some ⟨q,0,none⟩) n n,true),(1, .int .i64 (a:Int),true),(6, .int .i64 (l:Int),true),(7, .pointer (some ⟨top,0,none⟩),true),(8, .int .u64 (m:Int),true),(9, .int .i64 ((i0+k:Nat):Int),true)],hp.A0 [(top,Xu (Xx d a l m i0 k).1),(q,Ad (Xx d a l m i0 k).2)],top+1⟩
theorem pB:BG Tryz.prog 109 (Gz Go.Sort.breakPatterns):=by
 refine .Cy MY ?_
 intro args hp top hpre hcl hsc
 match args,hpre with
 | [v, .int .i64 a, .int .i64 b],hpre=>
 obtain ⟨q,d,hrow,h1,h2,h3⟩:=hpre
 obtain ⟨a,rfl⟩:=Int.eq_ofNat_of_zero_le h1
 obtain ⟨b,rfl⟩:=Int.eq_ofNat_of_zero_le (show 0≤b by omega)
 have hn:d.size≤35184372088832:=hrow.le
 have hqt:=hrow.Xw hcl
 have h0:0 < d.size:=hrow.pos
 simp only [hrow.D5,hrow.MZ,intOf_int,Int.toNat_natCast]
 obtain ⟨rfl,ho,_,_⟩:=hrow
 have hab:a < b:=by omega
 have hbn:b≤d.size:=by omega
 obtain ⟨l,hl⟩:∃m:Nat,m=b - a:=⟨_,rfl⟩
 have w1:Ae .i64 ((b:Int) - (a:Int))=((l:Nat):Int):=by rw [wrap64 (by omega) (by omega)];omega
 have hq1:¬top=q:=by omega
 refine Ab.BF BN MY rfl 65 rfl [] rfl (show 3≤65 by decide) ?_
 by_cases c8:l≥8
 ·have c8':((l:Int) < 8)=False:=eq_false (by omega)
  obtain ⟨m,hm⟩:∃m:Nat,m=l / 4:=⟨_,rfl⟩
  obtain ⟨m2,hm2⟩:∃m:Nat,m=l / 4 * 2:=⟨_,rfl⟩
  obtain ⟨j0,hj0⟩:∃m:Nat,m=a+l / 4 * 2:=⟨_,rfl⟩
  obtain ⟨i0,hi0⟩:∃m:Nat,m=a+l / 4 * 2 - 1:=⟨_,rfl⟩
  obtain ⟨j1,hj1⟩:∃m:Nat,m=a+l / 4 * 2+1:=⟨_,rfl⟩
  have w2:IntKind.i64.wrap ((l:Int).tdiv 4)=((m:Nat):Int):=by rw [show (l:Int).tdiv 4=((l / 4:Nat):Int) from rfl,←Cg,wrap64 (by omega) (by omega)];omega
  have w3:Ae .i64 ((m:Int) * 2)=((m2:Nat):Int):=by rw [wrap64 (by omega) (by omega)];omega
  have w4:Ae .i64 ((a:Int)+(m2:Int))=((j0:Nat):Int):=by rw [wrap64 (by omega) (by omega)];omega
  have w5:Ae .i64 ((j0:Int) - 1)=((i0:Nat):Int):=by rw [wrap64 (by omega) (by omega)];omega
  have w6:Ae .i64 ((j0:Int)+1)=((j1:Nat):Int):=by rw [wrap64 (by omega) (by omega)];omega
  have w7:Ae .u64 (l:Int)=(l:Int):=wrap_u64 (by omega) (by omega)
  have hM:=Go.Sort.two_pow_bitsLen_le (n:=l) (by omega)
  obtain ⟨M,hMd⟩:∃M:Nat,M=1 <<< Go.Sort.bitsLen l:=⟨_,rfl⟩
  have hM1:M=2 ^ Go.Sort.bitsLen l:=by rw [hMd,Nat.one_shiftLeft]
  have hM2:0 < M:=by rw [hM1];exact Nat.two_pow_pos _
  have hl0:some (A5.cells true 0 [.int .u64 (l:Int)])=Xu (UInt64.ofNat l):=by
   unfold Xu
   rw [UInt64.toNat_ofNat',Nat.mod_eq_of_lt (by omega)]
  have p1:((0:Int)≤(l:Int))=True:=eq_true (by omega)
  have p2:((l:Int)≤35184372088832)=True:=eq_true (by omega)
  have eB:Go.Sort.breakPatterns d a b=(Xx d a l M i0 3).2:=by
   unfold Go.Sort.breakPatterns
   rw [←hl,if_pos c8,←hMd,←hi0];rfl
  rw [eB]
  refine CW.vc SU [0,1,2,6,7,8,9,10,15,33,43] (by kernel_rfl) ?_
  (repeat ((try refine Vc.mk' ?_);simp (maxSteps:=6000000) only [go_sem,reduceIte,reduceCtorEq,Nat.reduceAdd,Nat.reduceMul,Nat.reduceSub,Nat.reduceLT,Nat.reduceLeDiff,Nat.reduceEqDiff,Int.reduceEq,Int.reduceLT,Int.reduceLE,Int.reduceNe,w1,c8',decide_false,Bool.not_false,w2,w3,w4,w5,w7,hl0,pI,US,p1,p2,Int.toNat_natCast,←hMd]))
  have hqn:¬q=top:=by omega
  refine CW.Bx (Tj hp top q d.size a l M i0 d) (fun k=>k≤3) (fun k=>3 - k) 0 (by omega) ?_ ?_
  ·exact (by refine A9.mk' [top] hcl (by simp) (by simp) rfl (AZ ?_) ?_ ?_ <;> simp [Ag,BJ,BH,Am,AP,AF,AJ.nil,AJ.cons,AB,AD,AM,AA,AQ,AX,AO,Ax.AL,AG,AV,AE,AH,AK.set,AK.Ao,AK.refl,Tj,Xx,Af hqt,AY,K6,ho,hq1,hqn])
  ·intro k hk
   have hfs:=Ur (d:=d) (a:=a) (l:=l) (m:=M) (i0:=i0) k
   have rq:∀ {h':Hp} {o:Option A5},(h'.set top o) q=h' q:=fun {h'} {o}=>by simp only [Hp.set,if_neg hqn]
   obtain ⟨J,hJ⟩:∃m:Nat,m=i0+k:=⟨_,rfl⟩
   by_cases c3:k < 3
   ·have cj:((j1:Int) < ((i0+k:Nat):Int))=False:=eq_false (by omega)
    obtain ⟨r,f,hrf⟩:∃r f,Xx d a l M i0 k=(r,f):=⟨_,_,rfl⟩
    rw [hrf] at hfs
    dsimp only at hfs
    have p3:∀ {h':Hp},h' top=Xu r→ke h' top=True:=fun e=>eq_true ⟨r,e⟩
    have p4:∀ {h':Hp},h' top=Xu r→ab h' top=r:=fun e=>UU e
    obtain ⟨m1,hm1⟩:∃m:Nat,m=M - 1:=⟨_,rfl⟩
    have w8:Ae .u64 ((M:Int) - 1)=(m1:Int):=by rw [wrap_u64 (by omega) (by omega)];omega
    obtain ⟨o1,ho1⟩:∃o1,o1=(Go.Sort.xorNext r).toNat &&& m1:=⟨_,rfl⟩
    have ho2:o1≤m1:=by rw [ho1];exact Nat.and_le_right
    have and1:Ek .and .u64 ((Go.Sort.xorNext r).toNat:Int) (m1:Int)=(o1:Int):=by rw [Vp (UInt64.toNat_lt _) (by omega),ho1]
    have w9:Ae .i64 (o1:Int)=(o1:Int):=wrap64 (by omega) (by omega)
    have w11:Ae .i64 (((i0+k:Nat):Int)+1)=((i0+(k+1):Nat):Int):=by rw [wrap64 (by omega) (by omega)];omega
    rw [←hJ] at w11 cj
    by_cases co:o1≥l
    ·have co':((o1:Int) < (l:Int))=False:=eq_false (by omega)
     obtain ⟨o2,ho2⟩:∃m:Nat,m=o1 - l:=⟨_,rfl⟩
     have w12:Ae .i64 ((o1:Int) - (l:Int))=((o2:Nat):Int):=by rw [wrap64 (by omega) (by omega)];omega
     obtain ⟨pp,hpp⟩:∃m:Nat,m=a+o2:=⟨_,rfl⟩
     have w10:Ae .i64 ((a:Int)+(o2:Int))=((pp:Nat):Int):=by rw [wrap64 (by omega) (by omega)];omega
     have x0:=fun (bb:Nat)=>Ar (b:=bb) hn (show J < d.size by omega)
     have l0:∀ {h':Hp},h' q=Ad f→An tt.get h' 29 (.pointer (some ⟨q,J,none⟩))=(.int .u32 f[J]!,True):=fun hee=>Ap hee (by omega) (by omega)
     have x1:=fun (bb:Nat)=>Ar (b:=bb) hn (show pp < d.size by omega)
     have l1:∀ {h':Hp},h' q=Ad f→An tt.get h' 29 (.pointer (some ⟨q,pp,none⟩))=(.int .u32 f[pp]!,True):=fun hee=>Ap hee (by omega) (by omega)
     have s1a:∀ {h':Hp},h' q=Ad f→Aw tt.get h' 29 (.pointer (some ⟨q,J,none⟩)) (.int .u32 f[pp]!)=([(q,Ad (f.setIfInBounds J f[pp]!))],True):=fun hee=>BK hee (by omega)
     have s1b:∀ {h':Hp},h' q=Ad (f.setIfInBounds J f[pp]!)→Aw tt.get h' 29 (.pointer (some ⟨q,pp,none⟩)) (.int .u32 f[J]!)=([(q,Ad (swp f J pp))],True):=fun hee=>BK hee (by rw [Array.size_setIfInBounds];omega)
     have es:Xx d a l M i0 (k+1)=(Go.Sort.xorNext r,swp f J pp):=by
      rw [Xx,hrf]
      unfold Go.Sort.breakStep
      dsimp only
      rw [←hm1,←ho1,if_pos co,←ho2,←hJ,hpp]
     refine CW.vc SU [0,1,2,6,7,8,9,10,15,33,43] (by kernel_rfl) ?_
     (repeat ((try refine Vc.mk' ?_);simp (maxSteps:=6000000) only [go_sem,reduceIte,reduceCtorEq,Nat.reduceAdd,Nat.reduceMul,Nat.reduceSub,Nat.reduceLT,Nat.reduceLeDiff,Nat.reduceEqDiff,Int.reduceEq,Int.reduceLT,Int.reduceLE,Int.reduceNe,Tj,hrf,w2,w3,w4,w6,w11,cj,decide_false,decide_true,Bool.not_false,Bool.not_true,jq,RU,p3,p4,w8,and1,w9,co',w12,←hJ,w10,x0,l0,x1,l1,s1a,s1b,rq,hqn,hq1]))
     refine .mk (k+1) (by omega) (by omega) ((by refine A9.mk' [top] hcl (by simp) (by simp) rfl (AZ ?_) ?_ ?_ <;> simp [Ag,BJ,BH,Am,AP,AF,AJ.nil,AJ.cons,AB,AD,AM,AA,AQ,AX,AO,Ax.AL,AG,AV,AE,AH,AK.set,AK.Ao,AK.refl,Tj,es,Af hqt,AY,K6,hq1,hqn]))
    ·have co':((o1:Int) < (l:Int))=True:=eq_true (by omega)
     obtain ⟨pp,hpp⟩:∃m:Nat,m=a+o1:=⟨_,rfl⟩
     have w10:Ae .i64 ((a:Int)+(o1:Int))=((pp:Nat):Int):=by rw [wrap64 (by omega) (by omega)];omega
     have x0:=fun (bb:Nat)=>Ar (b:=bb) hn (show J < d.size by omega)
     have l0:∀ {h':Hp},h' q=Ad f→An tt.get h' 29 (.pointer (some ⟨q,J,none⟩))=(.int .u32 f[J]!,True):=fun hee=>Ap hee (by omega) (by omega)
     have x1:=fun (bb:Nat)=>Ar (b:=bb) hn (show pp < d.size by omega)
     have l1:∀ {h':Hp},h' q=Ad f→An tt.get h' 29 (.pointer (some ⟨q,pp,none⟩))=(.int .u32 f[pp]!,True):=fun hee=>Ap hee (by omega) (by omega)
     have s1a:∀ {h':Hp},h' q=Ad f→Aw tt.get h' 29 (.pointer (some ⟨q,J,none⟩)) (.int .u32 f[pp]!)=([(q,Ad (f.setIfInBounds J f[pp]!))],True):=fun hee=>BK hee (by omega)
     have s1b:∀ {h':Hp},h' q=Ad (f.setIfInBounds J f[pp]!)→Aw tt.get h' 29 (.pointer (some ⟨q,pp,none⟩)) (.int .u32 f[J]!)=([(q,Ad (swp f J pp))],True):=fun hee=>BK hee (by rw [Array.size_setIfInBounds];omega)
     have es:Xx d a l M i0 (k+1)=(Go.Sort.xorNext r,swp f J pp):=by
      rw [Xx,hrf]
      unfold Go.Sort.breakStep
      dsimp only
      rw [←hm1,←ho1,if_neg co,←hJ,hpp]
     refine CW.vc SU [0,1,2,6,7,8,9,10,15,33,43] (by kernel_rfl) ?_
     (repeat ((try refine Vc.mk' ?_);simp (maxSteps:=6000000) only [go_sem,reduceIte,reduceCtorEq,Nat.reduceAdd,Nat.reduceMul,Nat.reduceSub,Nat.reduceLT,Nat.reduceLeDiff,Nat.reduceEqDiff,Int.reduceEq,Int.reduceLT,Int.reduceLE,Int.reduceNe,Tj,hrf,w2,w3,w4,w6,w11,cj,decide_false,decide_true,Bool.not_false,Bool.not_true,jq,RU,p3,p4,w8,and1,w9,co',←hJ,w10,x0,l0,x1,l1,s1a,s1b,rq,hqn,hq1]))
     refine .mk (k+1) (by omega) (by omega) ((by refine A9.mk' [top] hcl (by simp) (by simp) rfl (AZ ?_) ?_ ?_ <;> simp [Ag,BJ,BH,Am,AP,AF,AJ.nil,AJ.cons,AB,AD,AM,AA,AQ,AX,AO,Ax.AL,AG,AV,AE,AH,AK.set,AK.Ao,AK.refl,Tj,es,Af hqt,AY,K6,hq1,hqn]))
   ·have hk3:k=3:=by omega
    subst hk3
    have cj:((j1:Int) < (J:Int))=True:=eq_true (by omega)
    refine CW.vc SU [0,1,2,6,7,8,9,10,15,33,43] (by kernel_rfl) ?_
    (repeat ((try refine Vc.mk' ?_);simp (maxSteps:=6000000) only [go_sem,reduceIte,reduceCtorEq,Nat.reduceAdd,Nat.reduceMul,Nat.reduceSub,Nat.reduceLT,Nat.reduceLeDiff,Nat.reduceEqDiff,Int.reduceEq,Int.reduceLT,Int.reduceLE,Int.reduceNe,Tj,w2,w3,w4,w6,←hJ,cj,decide_true,Bool.not_true]))
    (refine ⟨[],by simp,by simp,by simp, ?_, ?_, ?_⟩ <;> simp [Ag,BJ,BH,Am,AP,AF,AJ.nil,AJ.cons,AB,AD,AM,AA,AQ,AX,AO,Ax.AL,AG,AV,AE,AH,AK.set,AK.Ao,AK.refl,Af hqt,AY,hq1,hqn,rq])
 ·have c8':((l:Int) < 8)=True:=eq_true (by omega)
  have eB:Go.Sort.breakPatterns d a b=d:=by
   unfold Go.Sort.breakPatterns
   rw [←hl,if_neg c8]
  rw [eB]
  refine CW.vc SU [0,1,2,6,7,8,9,10,15,33,43] (by kernel_rfl) ?_
  (repeat ((try refine Vc.mk' ?_);simp (maxSteps:=6000000) only [go_sem,reduceIte,reduceCtorEq,Nat.reduceAdd,Nat.reduceMul,Nat.reduceSub,Nat.reduceLT,Nat.reduceLeDiff,Nat.reduceEqDiff,Int.reduceEq,Int.reduceLT,Int.reduceLE,Int.reduceNe,w1,c8',decide_true,Bool.not_true]))
  (refine ⟨[],by simp,by simp,by simp, ?_, ?_, ?_⟩ <;> simp [Ag,BJ,BH,Am,AP,AF,AJ.nil,AJ.cons,AB,AD,AM,AA,AQ,AX,AO,Ax.AL,AG,AV,AE,AH,AK.set,AK.Ao,AK.refl,Af hqt,AY,ho])
end Go.Proofs.YthpibnpeaidabaaGreatDoor.Dm
