/- slices.Sort of []uint32: medianAdjacent, choosePivot. -/
import Derived.Test.YthpibnpeaidabaaGreatDoorTSO
set_option linter.unusedSimpArgs false
set_option linter.unusedVariables false
namespace Go.Proofs.YthpibnpeaidabaaGreatDoor.Dm
open Go.Dm
open Go.Sort (ltInt swp)
set_option maxHeartbeats 16000000
set_option maxRecDepth 20000
def sq:FuncId→BO:=Bd sE 136 Ht
theorem ka:B9 Tryz.prog tt.get sq:=kB.add pV
theorem rK:sq 136=Ht:=rfl
def VJ (hp:Hp)(v:Value)(a:Int)(s:Nat):Prop:= ∃q d k,Db hp v q d∧1≤a∧a+1 < (d.size:Int)∧hp s=Hx k∧k≤800
def Nj:BO:= .det (fun args hp _=>match args with | [v, .int .i64 a, .pointer (some ⟨s,0,none⟩)]=>VJ hp v a s | _=>False)
 (fun args hp top=>match args with
  | [v,a, .pointer (some ⟨s,_,_⟩)]=>(.int .i64 (Go.Sort.medianAdjacent ltInt (Gy hp v) (intOf a).toNat (Qf hp s)).1, [(s,Hx (Go.Sort.medianAdjacent ltInt (Gy hp v) (intOf a).toNat (Qf hp s)).2)],top)
  |_=>(undef, [],top))
theorem rI:BG Tryz.prog 135 Nj:=by
 refine .Cy LQ ?_
 intro args hp top hpre hcl hsc
 match args,hpre with
 | [v, .int .i64 a, .pointer (some ⟨s,0,none⟩)],hpre=>
 obtain ⟨q,d,k,hrow,h1,h2,hs,hk⟩:=hpre
 obtain ⟨a,rfl⟩:=Int.eq_ofNat_of_zero_le (show 0≤a by omega)
 have hn:d.size≤35184372088832:=hrow.le
 have h0:0 < d.size:=hrow.pos
 have hst:=Tm hcl hs
 simp only [hrow.D5,Et hs,intOf_int,Int.toNat_natCast]
 have hd:=hrow.D5
 obtain ⟨rfl,ho,_,_⟩:=hrow
 obtain ⟨a1,ha1⟩:∃m:Nat,m=a - 1:=⟨_,rfl⟩
 obtain ⟨a2,ha2⟩:∃m:Nat,m=a+1:=⟨_,rfl⟩
 have w1:Ae .i64 ((a:Int) - 1)=((a1:Nat):Int):=by rw [wrap64 (by omega) (by omega)];omega
 have w2:Ae .i64 ((a:Int)+1)=((a2:Nat):Int):=by rw [wrap64 (by omega) (by omega)];omega
 have e:Go.Sort.medianAdjacent ltInt d a k=Go.Sort.median ltInt d a1 a a2 k:=by rw [ha1,ha2];rfl
 rw [e]
 have p1:U1 hp (.slice (some ⟨q,0,none⟩) d.size d.size) (a1:Int) (a:Int) (a2:Int) s=True:=eq_true ⟨q,d,k,Co ho rfl h0 hn,by omega,by omega,by omega,by omega,by omega,by omega,hs,by omega⟩
 have k0:Qf hp s=k:=Et hs
 refine Ab.BF BN LQ rfl 15 rfl [.tmp 6] rfl (show 3≤15 by decide) ?_
 refine CW.vc ka [0,1,2,6] (by kernel_rfl) ?_
 (repeat ((try refine Vc.mk' ?_);simp (maxSteps:=6000000) only [go_sem,reduceIte,reduceCtorEq,Nat.reduceAdd,Nat.reduceMul,Nat.reduceSub,Nat.reduceLT,Nat.reduceLeDiff,Nat.reduceEqDiff,Int.reduceEq,Int.reduceLT,Int.reduceLE,Int.reduceNe,w1,w2,rK,Ht,p1,hd,k0,Int.toNat_natCast]))
 (refine ⟨[],by simp,by simp,by simp, ?_, ?_, ?_⟩ <;> simp [Ag,BJ,BH,Am,AP,AF,AJ.nil,AJ.cons,AB,AD,AM,AA,AQ,AX,AO,Ax.AL,AG,AV,AE,AH,AK.set,AK.Ao,AK.refl,Af hst,LB])
theorem YB {d:Array Int}{a k n:Nat}(h1:1≤a)(h2:a+1 < n):(Go.Sort.medianAdjacent ltInt d a k).1 < n∧(Go.Sort.medianAdjacent ltInt d a k).2≤k+3:=Zw (show a - 1 < n by omega) (show a < n by omega) h2
def HU:Go.Sort.Hint→Int
 | .unknown=>0
 | .increasing=>1
 | .decreasing=>2
def sX:FuncId→BO:=Bd sq 135 Nj
theorem M3:B9 Tryz.prog tt.get sX:=ka.add rI
theorem bV:sX 135=Nj:=rfl
theorem NY:sX 136=Ht:=rfl
def Ni:BO:= .pure (fun args hp=>match args with | [v, .int .i64 a, .int .i64 b]=>NX hp v a b | _=>False)
 (fun args hp=>match args with | [v,a,b]=> .tuple ⟨[.int .i64 (Go.Sort.choosePivot ltInt (Gy hp v) (intOf a).toNat (intOf b).toNat).1, .int .i64 (HU (Go.Sort.choosePivot ltInt (Gy hp v) (intOf a).toNat (intOf b).toNat).2)]⟩ | _=>undef)
theorem qF:BG Tryz.prog 110 Ni:=by
 refine .HS NB ?_ ?_
 ·rintro args hp h
  match args,h with
  | [v, .int .i64 a, .int .i64 b],_=>rfl
 intro args hp hpre top hcl hsc
 match args,hpre with
 | [v, .int .i64 a, .int .i64 b],hpre=>
 obtain ⟨q,d,hrow,h1,h2,h3⟩:=hpre
 obtain ⟨a,rfl⟩:=Int.eq_ofNat_of_zero_le h1
 obtain ⟨b,rfl⟩:=Int.eq_ofNat_of_zero_le (show 0≤b by omega)
 have hn:d.size≤35184372088832:=hrow.le
 have h0:0 < d.size:=hrow.pos
 have hqt:=hrow.Xw hcl
 simp only [hrow.D5,intOf_int,Int.toNat_natCast]
 obtain ⟨rfl,ho,_,_⟩:=hrow
 obtain ⟨l,hl⟩:∃m:Nat,m=b - a:=⟨_,rfl⟩
 obtain ⟨m,hm⟩:∃m:Nat,m=l / 4:=⟨_,rfl⟩
 obtain ⟨i,hi⟩:∃m:Nat,m=a+l / 4 * 1:=⟨_,rfl⟩
 obtain ⟨j,hj⟩:∃m:Nat,m=a+l / 4 * 2:=⟨_,rfl⟩
 obtain ⟨k,hk⟩:∃m:Nat,m=a+l / 4 * 3:=⟨_,rfl⟩
 obtain ⟨m2,hm2⟩:∃m:Nat,m=l / 4 * 2:=⟨_,rfl⟩
 obtain ⟨m3,hm3⟩:∃m:Nat,m=l / 4 * 3:=⟨_,rfl⟩
 have w1:Ae .i64 ((b:Int) - (a:Int))=((l:Nat):Int):=by rw [wrap64 (by omega) (by omega)];omega
 have w2:IntKind.i64.wrap ((l:Int).tdiv 4)=((m:Nat):Int):=by rw [show (l:Int).tdiv 4=((l / 4:Nat):Int) from rfl,←Cg,wrap64 (by omega) (by omega)];omega
 have w3:Ae .i64 ((m:Int) * 2)=((m2:Nat):Int):=by rw [wrap64 (by omega) (by omega)];omega
 have w4:Ae .i64 ((m:Int) * 3)=((m3:Nat):Int):=by rw [wrap64 (by omega) (by omega)];omega
 have w5:Ae .i64 ((m:Int) * 1)=(m:Int):=by rw [wrap64 (by omega) (by omega)];omega
 have w6:Ae .i64 ((a:Int)+(m:Int))=((i:Nat):Int):=by rw [wrap64 (by omega) (by omega)];omega
 have w7:Ae .i64 ((a:Int)+(m2:Int))=((j:Nat):Int):=by rw [wrap64 (by omega) (by omega)];omega
 have w8:Ae .i64 ((a:Int)+(m3:Int))=((k:Nat):Int):=by rw [wrap64 (by omega) (by omega)];omega
 refine Ab.BF BN NB rfl 57 rfl [.tmp 6, .tmp 7] rfl (show 3≤57 by decide) ?_
 have hcp:Go.Sort.choosePivot ltInt d a b=((if l≥8 then (if l≥50 then Go.Sort.median ltInt d (Go.Sort.medianAdjacent ltInt d i 0).1 (Go.Sort.medianAdjacent ltInt d j (Go.Sort.medianAdjacent ltInt d i 0).2).1 (Go.Sort.medianAdjacent ltInt d k (Go.Sort.medianAdjacent ltInt d j (Go.Sort.medianAdjacent ltInt d i 0).2).2).1 (Go.Sort.medianAdjacent ltInt d k (Go.Sort.medianAdjacent ltInt d j (Go.Sort.medianAdjacent ltInt d i 0).2).2).2 else Go.Sort.median ltInt d i j k 0) else (j,0):Nat×Nat).1,if (if l≥8 then (if l≥50 then Go.Sort.median ltInt d (Go.Sort.medianAdjacent ltInt d i 0).1 (Go.Sort.medianAdjacent ltInt d j (Go.Sort.medianAdjacent ltInt d i 0).2).1 (Go.Sort.medianAdjacent ltInt d k (Go.Sort.medianAdjacent ltInt d j (Go.Sort.medianAdjacent ltInt d i 0).2).2).1 (Go.Sort.medianAdjacent ltInt d k (Go.Sort.medianAdjacent ltInt d j (Go.Sort.medianAdjacent ltInt d i 0).2).2).2 else Go.Sort.median ltInt d i j k 0) else (j,0):Nat×Nat).2=0 then Go.Sort.Hint.increasing else if (if l≥8 then (if l≥50 then Go.Sort.median ltInt d (Go.Sort.medianAdjacent ltInt d i 0).1 (Go.Sort.medianAdjacent ltInt d j (Go.Sort.medianAdjacent ltInt d i 0).2).1 (Go.Sort.medianAdjacent ltInt d k (Go.Sort.medianAdjacent ltInt d j (Go.Sort.medianAdjacent ltInt d i 0).2).2).1 (Go.Sort.medianAdjacent ltInt d k (Go.Sort.medianAdjacent ltInt d j (Go.Sort.medianAdjacent ltInt d i 0).2).2).2 else Go.Sort.median ltInt d i j k 0) else (j,0):Nat×Nat).2=12 then Go.Sort.Hint.decreasing else Go.Sort.Hint.unknown):=by
  rw [hi,hj,hk,hl];rfl
 have hD:∀ {h':Hp},h' q=Ad d→Gy h' (.slice (some ⟨q,0,none⟩) d.size d.size)=d:=fun e=>(Co e rfl h0 hn).D5
 have rq:∀ {h':Hp} {o:Option A5},(h'.set top o) q=h' q:=fun {h'} {o}=>by simp only [Hp.set,if_neg (show ¬q=top by omega)]
 have rs:∀ {h':Hp} {o:Option A5},(h'.set top o) top=o:=fun {h'} {o}=>by simp only [Hp.set,if_true]
 have z0:some (A5.cells true 0 [.int .i64 0])=Hx 0:=rfl
 have zl:∀ {h':Hp} {n:Nat},h' top=Hx n→An tt.get h' 3 (.pointer (some ⟨top,0,none⟩))=(.int .i64 (n:Int),True):=fun {h'} {n} e=>by
  have e':h' top=some (.cells true 0 [.int .i64 (n:Int)]):=e
  unfold An
  simp [Hi,ZY,e',HC]
 by_cases c8:l≥8
 ·have c8':((l:Int) < 8)=False:=eq_false (by omega)
  by_cases c50:l≥50
  ·have c50':((l:Int) < 50)=False:=eq_false (by omega)
   simp only [if_pos c8,if_pos c50] at hcp
   have g1:=YB (d:=d) (a:=i) (k:=0) (n:=d.size) (by omega) (by omega)
   generalize e1:Go.Sort.medianAdjacent ltInt d i 0=r1 at g1 hcp
   have g2:=YB (d:=d) (a:=j) (k:=r1.2) (n:=d.size) (by omega) (by omega)
   generalize e2:Go.Sort.medianAdjacent ltInt d j r1.2=r2 at g2 hcp
   have g3:=YB (d:=d) (a:=k) (k:=r2.2) (n:=d.size) (by omega) (by omega)
   generalize e3:Go.Sort.medianAdjacent ltInt d k r2.2=r3 at g3 hcp
   have g4:=Zw (d:=d) (a:=r1.1) (b:=r2.1) (c:=r3.1) (k:=r3.2) (n:=d.size) g1.1 g2.1 g3.1
   generalize e4:Go.Sort.median ltInt d r1.1 r2.1 r3.1 r3.2=r at g4 hcp
   have hE:Go.Sort.choosePivot ltInt d a b=(r.1,if r.2=0 then Go.Sort.Hint.increasing else if r.2=12 then Go.Sort.Hint.decreasing else Go.Sort.Hint.unknown):=hcp
   have p1:∀ {h':Hp},h' q=Ad d→h' top=Hx 0→VJ h' (.slice (some ⟨q,0,none⟩) d.size d.size) (i:Int) top=True:=fun e f=>eq_true ⟨q,d,0,Co e rfl h0 hn,by omega,by omega,f,by omega⟩
   have p2:∀ {h':Hp},h' q=Ad d→h' top=Hx r1.2→VJ h' (.slice (some ⟨q,0,none⟩) d.size d.size) (j:Int) top=True:=fun e f=>eq_true ⟨q,d,_,Co e rfl h0 hn,by omega,by omega,f,by omega⟩
   have p3:∀ {h':Hp},h' q=Ad d→h' top=Hx r2.2→VJ h' (.slice (some ⟨q,0,none⟩) d.size d.size) (k:Int) top=True:=fun e f=>eq_true ⟨q,d,_,Co e rfl h0 hn,by omega,by omega,f,by omega⟩
   have p4:∀ {h':Hp},h' q=Ad d→h' top=Hx r3.2→U1 h' (.slice (some ⟨q,0,none⟩) d.size d.size) (r1.1:Int) (r2.1:Int) (r3.1:Int) top=True:=fun e f=>eq_true ⟨q,d,_,Co e rfl h0 hn,by omega,by omega,by omega,by omega,by omega,by omega,f,by omega⟩
   have k0:∀ {h':Hp},h' top=Hx 0→Qf h' top=0:=fun e=>Et e
   have k1:∀ {h':Hp},h' top=Hx r1.2→Qf h' top=r1.2:=fun e=>Et e
   have k2:∀ {h':Hp},h' top=Hx r2.2→Qf h' top=r2.2:=fun e=>Et e
   have k3:∀ {h':Hp},h' top=Hx r3.2→Qf h' top=r3.2:=fun e=>Et e
   have zr:∀ {h':Hp},h' top=Hx r.2→An tt.get h' 3 (.pointer (some ⟨top,0,none⟩))=(.int .i64 (r.2:Int),True):=zl
   by_cases c0:r.2=0
   ·have q0:(((r.2:Nat):Int)=0)=True:=eq_true (by omega)
    rw [hE,if_pos c0]
    refine CW.vc M3 [0,1,2,6,7,8,9,10,11,12,32,34,49,51,54] (by kernel_rfl) ?_
    (repeat ((try refine Vc.mk' ?_);simp (maxSteps:=6000000) only [go_sem,reduceIte,reduceCtorEq,Nat.reduceAdd,Nat.reduceMul,Nat.reduceSub,Nat.reduceLT,Nat.reduceLeDiff,Nat.reduceEqDiff,Int.reduceEq,Int.reduceLT,Int.reduceLE,Int.reduceNe,w1,w2,w3,w4,w5,w6,w7,w8,c8',c50',decide_false,Bool.not_false,z0,rq,rs,ho,hD,p1,p2,p3,p4,k0,k1,k2,k3,bV,NY,Nj,Ht,Int.toNat_natCast,e1,e2,e3,e4,zr,q0,decide_true,HU]))
   ·have q0:(((r.2:Nat):Int)=0)=False:=eq_false (by omega)
    by_cases c12:r.2=12
    ·have q12:(((r.2:Nat):Int)=12)=True:=eq_true (by omega)
     rw [hE,if_neg c0,if_pos c12]
     refine CW.vc M3 [0,1,2,6,7,8,9,10,11,12,32,34,49,51,54] (by kernel_rfl) ?_
     (repeat ((try refine Vc.mk' ?_);simp (maxSteps:=6000000) only [go_sem,reduceIte,reduceCtorEq,Nat.reduceAdd,Nat.reduceMul,Nat.reduceSub,Nat.reduceLT,Nat.reduceLeDiff,Nat.reduceEqDiff,Int.reduceEq,Int.reduceLT,Int.reduceLE,Int.reduceNe,w1,w2,w3,w4,w5,w6,w7,w8,c8',c50',decide_false,Bool.not_false,z0,rq,rs,ho,hD,p1,p2,p3,p4,k0,k1,k2,k3,bV,NY,Nj,Ht,Int.toNat_natCast,e1,e2,e3,e4,zr,q0,q12,decide_true,decide_false,HU]))
    ·have q12:(((r.2:Nat):Int)=12)=False:=eq_false (by omega)
     rw [hE,if_neg c0,if_neg c12]
     refine CW.vc M3 [0,1,2,6,7,8,9,10,11,12,32,34,49,51,54] (by kernel_rfl) ?_
     (repeat ((try refine Vc.mk' ?_);simp (maxSteps:=6000000) only [go_sem,reduceIte,reduceCtorEq,Nat.reduceAdd,Nat.reduceMul,Nat.reduceSub,Nat.reduceLT,Nat.reduceLeDiff,Nat.reduceEqDiff,Int.reduceEq,Int.reduceLT,Int.reduceLE,Int.reduceNe,w1,w2,w3,w4,w5,w6,w7,w8,c8',c50',decide_false,Bool.not_false,z0,rq,rs,ho,hD,p1,p2,p3,p4,k0,k1,k2,k3,bV,NY,Nj,Ht,Int.toNat_natCast,e1,e2,e3,e4,zr,q0,q12,decide_true,decide_false,HU]))
  ·have c50':((l:Int) < 50)=True:=eq_true (by omega)
   simp only [if_pos c8,if_neg c50] at hcp
   have g4:=Zw (d:=d) (a:=i) (b:=j) (c:=k) (k:=0) (n:=d.size) (by omega) (by omega) (by omega)
   generalize e4:Go.Sort.median ltInt d i j k 0=r at g4 hcp
   have hE:Go.Sort.choosePivot ltInt d a b=(r.1,if r.2=0 then Go.Sort.Hint.increasing else if r.2=12 then Go.Sort.Hint.decreasing else Go.Sort.Hint.unknown):=hcp
   have p4:∀ {h':Hp},h' q=Ad d→h' top=Hx 0→U1 h' (.slice (some ⟨q,0,none⟩) d.size d.size) (i:Int) (j:Int) (k:Int) top=True:=fun e f=>eq_true ⟨q,d,_,Co e rfl h0 hn,by omega,by omega,by omega,by omega,by omega,by omega,f,by omega⟩
   have k0:∀ {h':Hp},h' top=Hx 0→Qf h' top=0:=fun e=>Et e
   have zr:∀ {h':Hp},h' top=Hx r.2→An tt.get h' 3 (.pointer (some ⟨top,0,none⟩))=(.int .i64 (r.2:Int),True):=zl
   by_cases c0:r.2=0
   ·have q0:(((r.2:Nat):Int)=0)=True:=eq_true (by omega)
    rw [hE,if_pos c0]
    refine CW.vc M3 [0,1,2,6,7,8,9,10,11,12,32,34,49,51,54] (by kernel_rfl) ?_
    (repeat ((try refine Vc.mk' ?_);simp (maxSteps:=6000000) only [go_sem,reduceIte,reduceCtorEq,Nat.reduceAdd,Nat.reduceMul,Nat.reduceSub,Nat.reduceLT,Nat.reduceLeDiff,Nat.reduceEqDiff,Int.reduceEq,Int.reduceLT,Int.reduceLE,Int.reduceNe,w1,w2,w3,w4,w5,w6,w7,w8,c8',c50',decide_false,decide_true,Bool.not_false,Bool.not_true,z0,rq,rs,ho,hD,p4,k0,NY,Ht,Int.toNat_natCast,e4,zr,q0,decide_true,HU]))
   ·have q0:(((r.2:Nat):Int)=0)=False:=eq_false (by omega)
    by_cases c12:r.2=12
    ·have q12:(((r.2:Nat):Int)=12)=True:=eq_true (by omega)
     rw [hE,if_neg c0,if_pos c12]
     refine CW.vc M3 [0,1,2,6,7,8,9,10,11,12,32,34,49,51,54] (by kernel_rfl) ?_
     (repeat ((try refine Vc.mk' ?_);simp (maxSteps:=6000000) only [go_sem,reduceIte,reduceCtorEq,Nat.reduceAdd,Nat.reduceMul,Nat.reduceSub,Nat.reduceLT,Nat.reduceLeDiff,Nat.reduceEqDiff,Int.reduceEq,Int.reduceLT,Int.reduceLE,Int.reduceNe,w1,w2,w3,w4,w5,w6,w7,w8,c8',c50',decide_false,decide_true,Bool.not_false,Bool.not_true,z0,rq,rs,ho,hD,p4,k0,NY,Ht,Int.toNat_natCast,e4,zr,q0,q12,decide_true,decide_false,HU]))
    ·have q12:(((r.2:Nat):Int)=12)=False:=eq_false (by omega)
     rw [hE,if_neg c0,if_neg c12]
     refine CW.vc M3 [0,1,2,6,7,8,9,10,11,12,32,34,49,51,54] (by kernel_rfl) ?_
     (repeat ((try refine Vc.mk' ?_);simp (maxSteps:=6000000) only [go_sem,reduceIte,reduceCtorEq,Nat.reduceAdd,Nat.reduceMul,Nat.reduceSub,Nat.reduceLT,Nat.reduceLeDiff,Nat.reduceEqDiff,Int.reduceEq,Int.reduceLT,Int.reduceLE,Int.reduceNe,w1,w2,w3,w4,w5,w6,w7,w8,c8',c50',decide_false,decide_true,Bool.not_false,Bool.not_true,z0,rq,rs,ho,hD,p4,k0,NY,Ht,Int.toNat_natCast,e4,zr,q0,q12,decide_true,decide_false,HU]))
 ·have c8':((l:Int) < 8)=True:=eq_true (by omega)
  simp only [if_neg c8] at hcp
  rw [hcp]
  refine CW.vc M3 [0,1,2,6,7,8,9,10,11,12,32,34,49,51,54] (by kernel_rfl) ?_
  (repeat ((try refine Vc.mk' ?_);simp (maxSteps:=6000000) only [go_sem,reduceIte,reduceCtorEq,Nat.reduceAdd,Nat.reduceMul,Nat.reduceSub,Nat.reduceLT,Nat.reduceLeDiff,Nat.reduceEqDiff,Int.reduceEq,Int.reduceLT,Int.reduceLE,Int.reduceNe,w1,w2,w3,w4,w5,w6,w7,w8,c8',decide_true,Bool.not_true,if_true,HU]))
end Go.Proofs.YthpibnpeaidabaaGreatDoor.Dm
