/- The document's op of a line, walked. -/
import Derived.Test.YthlhnangbinhoaaGreatDoorSRE
set_option linter.unusedSimpArgs false
set_option linter.unusedVariables false
namespace Go.Proofs.YthlhnangbinhoaaGreatDoor.Dm
open Go.Dm
set_option maxHeartbeats 64000000
set_option maxRecDepth 20000
noncomputable def nZ:FuncId→Bb:=Bw qb 21 G9
theorem Lu:CQ Tryz.prog tt.get nZ:=HU.add vF
theorem zg:nZ 51=LX:=rfl
theorem tx:nZ 56=EG:=rfl
theorem jJ:nZ 62=Sm:=rfl
theorem WC:nZ 57=I3 Gw:=rfl
theorem Xt:nZ 59=I3 HH:=rfl
theorem Ww:nZ 60=I3 HV:=rfl
theorem Wm:nZ 63=Kc:=rfl
theorem Wy:nZ 21=G9:=rfl
def MO (s:List UInt8):Value:=match Ul s with
 |some o=> .tuple ⟨[.agg ⟨Aw.enc o⟩, .bool true]⟩
 |none=> .tuple ⟨[.agg ⟨Aw.enc KQ⟩, .bool false]⟩
def QI:Bb:= .pure (fun args _=>match args with | [.string ⟨⟨s⟩⟩]=>s.length≤100000000 | _=>False) (fun args _=>match args with | [s]=>MO (strOf s) | _=>undef)
theorem o8 {w:List UInt8}{i:Nat}:kA w (i+1)=if w=Cc ((i+1:Nat):Int) then ((i+1:Nat):Int) else kA w i:=rfl
theorem kcl {w:List UInt8}:let K:=kA w 12;(Gw K=true∧HH K=false∧HV K=false∧¬K=8∧¬K=9)∨(Gw K=false∧HH K=true∧HV K=false∧¬K=8∧K=9)∨(Gw K=false∧HH K=true∧HV K=false∧¬K=8∧¬K=9)∨(Gw K=false∧HH K=false∧HV K=true∧K=8∧¬K=9)∨(Gw K=false∧HH K=false∧HV K=true∧¬K=8∧¬K=9)∨(Gw K=false∧HH K=false∧HV K=false∧¬K=8∧¬K=9):=by
 obtain ⟨h0,h1⟩:=mu w 12
 have hk:kA w 12=0∨kA w 12=1∨kA w 12=2∨kA w 12=3∨kA w 12=4∨kA w 12=5∨kA w 12=6∨kA w 12=7∨kA w 12=8∨kA w 12=9∨kA w 12=10∨kA w 12=11∨kA w 12=12:=by omega
 dsimp only
 rcases hk with h | h | h | h | h | h | h | h | h | h | h | h | h <;> rw [h] <;> decide
theorem AAV {w:List UInt8}(h:w= []∨20 < w.length):eZ w= .tuple ⟨[.int .i64 0, .bool false]⟩∧Ry w=0:=by
 refine ⟨by unfold eZ;rw [if_pos h], ?_⟩
 unfold Ry
 rw [if_neg]
 intro hc
 unfold nJ at hc
 rcases h with rfl | h
 ·cases hc
 ·simp at hc;omega
theorem AB3 {w:List UInt8}(h:¬(w= []∨20 < w.length))(e:Lib.itoa (Ic w)=w):eZ w= .tuple ⟨[.int .i64 (Ic w), .bool true]⟩∧Ry w=Ic w:=by
 refine ⟨by unfold eZ;rw [if_neg h,decide_eq_true e], ?_⟩
 unfold Ry
 rw [if_pos]
 unfold nJ
 rw [decide_eq_true e,decide_eq_true (show w.length≤20 by omega)]
 cases w with
 |nil=>exact absurd (.inl rfl) h
 |cons a l=>rfl
theorem ABe {w:List UInt8}(h:¬(w= []∨20 < w.length))(e:¬Lib.itoa (Ic w)=w):eZ w= .tuple ⟨[.int .i64 (Ic w), .bool false]⟩∧Ry w=0:=by
 refine ⟨by unfold eZ;rw [if_neg h,decide_eq_false e], ?_⟩
 unfold Ry
 rw [if_neg]
 intro hc
 unfold nJ at hc
 rw [decide_eq_false e,Bool.and_false] at hc
 cases hc
theorem zp {hp:Hp}{a:Option Addr}{n c:Nat}:CF tt.get hp 68 (.slice a n c)=(.int .i64 (n:Int),True):=by
 unfold CF;simp only [Fs,D9,HP,R8];rfl
theorem RE {k r p g e t:Int}{b:List UInt8}:Y0 (.agg ⟨[.int .i64 k, .int .i64 r, .int .i64 p, .int .i64 g, .int .u32 e, .int .i64 t, .string ⟨⟨b⟩⟩]⟩)=⟨k,r,p,g,e,t,b⟩:=Br (x:=⟨k,r,p,g,e,t,b⟩)
def zO:Option A7:=some (.cells true 0 (Aw.enc KQ))
def qM (hp:Hp)(top:Nat)(s:List UInt8)(W:Ha)(i:Nat):SS:=⟨[(0, .string ⟨⟨s⟩⟩,true),(2, .pointer (some ⟨top,0,none⟩),true),(4,AA (top+1) W,true),(5, .pointer (some ⟨top+2,0,none⟩),true),(6, .int .i64 ((i+1:Nat):Int),true)],
 hp.Av [(top,zO),(top+1,AD AE W),(top+2,some (.cells true 0 (Aw.enc (I2 (kA (at' W 0) i)))))],top+3⟩
def di (hp:Hp)(top:Nat)(s:List UInt8)(W:Ha)(NS:List Int)(i:Nat):SS:=⟨[(0, .string ⟨⟨s⟩⟩,true),(2, .pointer (some ⟨top,0,none⟩),true),(4,AA (top+1) W,true),(5, .pointer (some ⟨top+2,0,none⟩),true),(7,AA (top+3) (NS.take i),true),(8, .int .i64 ((i+1:Nat):Int),true)],
 hp.Av [(top,zO),(top+1,AD AE W),(top+2,some (.cells true 0 (Aw.enc (I2 (kA (at' W 0) 12))))),(top+3,AD AY (NS.take i))],top+4⟩

theorem xh:A0 Tryz.prog 22 QI:=by
 refine .Fm Uh ?_ ?_
 ·rintro args hp h
  match args,h with
  | [.string ⟨⟨s⟩⟩],_=>
   simp only [AH]
   unfold MO
   split <;> rfl
 intro args hp hpre top hcl hsc
 match args,hpre with
 | [.string ⟨⟨s⟩⟩],hs=>
 simp only [AH]
 refine AR.A5 BA Uh rfl 152 rfl [.cell 2 43, .tmp 3] rfl (show 1≤152 by decide) ?_
 by_cases c:1064 < s.length
 ·have e:Ul s=none:=by unfold Ul;rw [if_pos c]
  have e2:MO s= .tuple ⟨[.agg ⟨Aw.enc KQ⟩, .bool false]⟩:=by unfold MO;rw [e]
  rw [e2]
  have c':((1064:Int) < (s.length:Int))=True:=eq_true (by omega)
  refine CW.vc Lu [0,2,3,4,5,6,7,8,9,10,11,12,15,21,29,35,47,54,58,74,86,110,129,149] (by kernel_rfl) ?_
  (repeat ((try refine Vc.mk' ?_);simp (maxSteps:=6000000) only [go_sem,A8,c,c']))
  rfl
 have c':((1064:Int) < (s.length:Int))=False:=eq_false (by omega)
 have c2:(1064 < s.length)=False:=eq_false c
 have sl:(s.length≤16000000)=True:=eq_true (by omega)
 refine CW.vc Lu [0,2,3,4,5,6,7,8,9,10,11,12,15,21,29,35,47,54,58,74,86,110,129,149] (by kernel_rfl) ?_
 (repeat ((try refine Vc.mk' ?_);simp (maxSteps:=6000000) only [go_sem,A8,c',c2,zg,LX,sl,AH,decide_false]))
 have hWne:=Md s
 have hWl:=NC s
 have hWm:=LL s
 have hRef:Ul s=if (Bm s).drop 1= [] then none else if IH (KF (Bm s))=some s then some (KF (Bm s)) else none:=by unfold Ul;rw [if_neg c]
 generalize hW:Bm s=W at hWne hWl hWm hRef
 have hW1:0 < W.length:=List.length_pos_iff.2 hWne
 have hWs:∀ {h':Hp} {b:Nat},h' b=AD AE W→BP AE h' (AA b W) W:=fun e=>BP.JF e (by omega)
 have ixj:∀ {b j:Nat},j < W.length→Aa tt.get 67 (AA b W) (.int .i64 (j:Int))=(Ag (AA b W) (j * 1),True):=fun {b} {j} hj=>by
  have h0:BP AE (fun i=>if i=b then AD AE W else none) (AA b W) W:=hWs (by simp)
  have:=DM h0 (k:= .i64) (n:=(j:Int)) (by omega) (by omega)
  simpa using this
 have ldj:∀ {h':Hp} {b j:Nat},h' b=AD AE W→j < W.length→A4 tt.get h' 9 (Ag (AA b W) (j * 1))=(.string ⟨⟨at' W j⟩⟩,True):=fun e hj=>Dw (hWs e) hj
 have ix0:∀ {b:Nat},Aa tt.get 67 (AA b W) (.int .i64 0)=(Ag (AA b W) 0,True):=fun {b}=>ixj (b:=b) (j:=0) hW1
 have ld0:∀ {h':Hp} {b:Nat},h' b=AD AE W→A4 tt.get h' 9 (Ag (AA b W) 0)=(.string ⟨⟨at' W 0⟩⟩,True):=fun e=>ldj (j:=0) e hW1
 refine CW.DC (qM hp top s W) (fun i=>i≤12) (fun i=>12 - i) 0 (Nat.zero_le _) ?_ ?_
 ·exact (by refine BR.mk' [top,top+1,top+2] hcl (by simp) (by simp) rfl (AU ?_) ?_ ?_ <;> simp [zO,KQ,Ai,I2,show kA (at' W 0) 0=0 from rfl,Ab,B8.FO,AP])
 intro i hi
 by_cases hlt:i < 12
 ·have ii:((12:Int) < ((i+1:Nat):Int))=False:=eq_false (by omega)
  have ij:(12 < i+1)=False:=eq_false (by omega)
  have kk:Ap .i64 (((i+1:Nat):Int)+1)=((i+1+1:Nat):Int):=Bf (n:=4294967281) (by omega) (by omega)
  have hst:=o8 (w:=at' W 0) (i:=i)
  by_cases hq:at' W 0=Cc ((i+1:Nat):Int)
  ·rw [if_pos hq] at hst
   have hq':=eq_true hq
   refine CW.vc Lu [0,2,3,4,5,6,7,8,9,10,11,12,15,21,29,35,47,54,58,74,86,110,129,149] (by kernel_rfl) ?_
   (repeat ((try refine Vc.mk' ?_);simp (maxSteps:=6000000) only [go_sem,qM,zO,KQ,Ai,I2,tx,EG,ix0,ld0,ii,ij,kk,decide_false,Bool.not_false,hq',AV,decide_true]))
   refine .mk (i+1) hlt (by omega) ((by refine BR.mk' [top,top+1,top+2] hcl (by simp) (by simp) rfl (AU ?_) ?_ ?_ <;> simp [zO,KQ,Ai,I2,hst,show ((i:Int)+1+1)=(i:Int)+2 from by omega,Ab,B8.FO,AP]))
  ·rw [if_neg hq] at hst
   have hq':=eq_false hq
   refine CW.vc Lu [0,2,3,4,5,6,7,8,9,10,11,12,15,21,29,35,47,54,58,74,86,110,129,149] (by kernel_rfl) ?_
   (repeat ((try refine Vc.mk' ?_);simp (maxSteps:=6000000) only [go_sem,qM,zO,KQ,Ai,I2,tx,EG,ix0,ld0,ii,ij,kk,decide_false,Bool.not_false,hq',AV,decide_false]))
   refine .mk (i+1) hlt (by omega) ((by refine BR.mk' [top,top+1,top+2] hcl (by simp) (by simp) rfl (AU ?_) ?_ ?_ <;> simp [zO,KQ,Ai,I2,hst,show ((i:Int)+1+1)=(i:Int)+2 from by omega,Ab,B8.FO,AP]))
 have hi2:i=12:=by omega
 subst hi2
 refine CW.vc Lu [0,2,3,4,5,6,7,8,9,10,11,12,15,21,29,35,47,54,58,74,86,110,129,149] (by kernel_rfl) ?_
 (repeat ((try refine Vc.mk' ?_);simp (maxSteps:=6000000) only [go_sem,qM,zO,KQ,Ai,I2,show ((12:Int) < ((13:Nat):Int))=True from by decide,decide_true,Bool.not_true]))
 obtain ⟨NS,hNS⟩:∃NS,NS=(W.drop 1).map Ry:=⟨_,rfl⟩
 have hNl:NS.length=W.length - 1:=by rw [hNS,List.length_map,List.length_drop]
 have hNa:∀i,i+1 < W.length→at' NS i=Ry (at' W (i+1)):=fun i hi=>by
  rw [CO _ _ (by omega),CO _ _ hi]
  subst hNS
  simp [Nat.add_comm]
 refine CW.DC (di hp top s W NS) (fun i=>i+1≤W.length) (fun i=>W.length - i) 0 hW1 ?_ ?_
 ·exact (by refine BR.mk' [top,top+1,top+2,top+3] hcl (by simp) (by simp) rfl (AU ?_) ?_ ?_ <;> simp [zO,KQ,Ai,I2,List.take_zero,Ex,GL,Ab,B8.FO,AP])
 intro i hi
 by_cases hlt:i+1 < W.length
 ·have ii:(((i+1:Nat):Int) < (W.length:Int))=True:=eq_true (by omega)
  have kk:Ap .i64 (((i+1:Nat):Int)+1)=((i+1+1:Nat):Int):=Bf (n:=4294967281) (by omega) (by omega)
  have wl:((at' W (i+1)).length≤100000000)=True:=eq_true (by have:=ZX (ws:=W) (j:=i+1) hWm;omega)
  have htk:NS.take (i+1)=NS.take i ++ [Ry (at' W (i+1))]:=by rw [DN (by omega),hNa i hlt]
  have ix1:=fun (b:Nat)=>ixj (b:=b) hlt
  have ld1:∀ {h':Hp} {b:Nat},h' b=AD AE W→A4 tt.get h' 9 (Ag (AA b W) ((i+1) * 1))=(.string ⟨⟨at' W (i+1)⟩⟩,True):=fun e=>ldj e hlt
  have hap:∀ {h':Hp} {q t:Nat},h' (top+3)=AD AY (NS.take i)→h' q=some (.cells true 1 [.int .i64 (Ry (at' W (i+1)))])→AM tt.get h' t [68,68] (AA (top+3) (NS.take i)) (.slice (some ⟨q,0,none⟩) 1 1)=some (AA t (NS.take (i+1)),CC (top+3) (NS.take i) t (AD AY (NS.take (i+1))),t+1):=fun {h'} {q} {t} a1 a2=>by
   have e3:cellsOf (h' q)=AY.enc (Ry (at' W (i+1))):=by rw [a2];rfl
   have:=N1 (hp:=h') (b:=top+3) (top:=t) (k:=q) a1 (by rw [e3];exact a2) (by rw [e3,AY.h]) (CL (by rw [List.length_take];omega) (by decide))
   rw [e3,AY.h,←htk] at this
   exact this
  by_cases v:at' W (i+1)= []∨20 < (at' W (i+1)).length
  ·obtain ⟨v1,v2⟩:=AAV v
   rw [v2] at hap
   refine CW.vc Lu [0,2,3,4,5,6,7,8,9,10,11,12,15,21,29,35,47,54,58,74,86,110,129,149] (by kernel_rfl) ?_
   (repeat ((try refine Vc.mk' ?_);simp (maxSteps:=6000000) only [go_sem,di,zO,KQ,Ai,I2,jJ,Sm,AH,DR,ix1,ld1,ii,hlt,wl,v1,kk,hap,decide_true]))
   refine .mk (i+1) hlt (by omega) ((by refine BR.mk' [top,top+1,top+2,top+5] hcl (by simp) (by simp) rfl (AU ?_) ?_ ?_ <;> simp [zO,KQ,Ai,I2,show ((i:Int)+1+1)=(i:Int)+2 from by omega,Ab,B8.FO,AP]))
  ·by_cases v3:Lib.itoa (Ic (at' W (i+1)))=at' W (i+1)
   ·obtain ⟨v1,v2⟩:=AB3 v v3
    rw [v2] at hap
    refine CW.vc Lu [0,2,3,4,5,6,7,8,9,10,11,12,15,21,29,35,47,54,58,74,86,110,129,149] (by kernel_rfl) ?_
    (repeat ((try refine Vc.mk' ?_);simp (maxSteps:=6000000) only [go_sem,di,zO,KQ,Ai,I2,jJ,Sm,AH,DR,ix1,ld1,ii,hlt,wl,v1,kk,hap,decide_true]))
    refine .mk (i+1) hlt (by omega) ((by refine BR.mk' [top,top+1,top+2,top+5] hcl (by simp) (by simp) rfl (AU ?_) ?_ ?_ <;> simp [zO,KQ,Ai,I2,show ((i:Int)+1+1)=(i:Int)+2 from by omega,Ab,B8.FO,AP]))
   ·obtain ⟨v1,v2⟩:=ABe v v3
    rw [v2] at hap
    refine CW.vc Lu [0,2,3,4,5,6,7,8,9,10,11,12,15,21,29,35,47,54,58,74,86,110,129,149] (by kernel_rfl) ?_
    (repeat ((try refine Vc.mk' ?_);simp (maxSteps:=6000000) only [go_sem,di,zO,KQ,Ai,I2,jJ,Sm,AH,DR,ix1,ld1,ii,hlt,wl,v1,kk,hap,decide_true]))
    refine .mk (i+1) hlt (by omega) ((by refine BR.mk' [top,top+1,top+2,top+5] hcl (by simp) (by simp) rfl (AU ?_) ?_ ?_ <;> simp [zO,KQ,Ai,I2,show ((i:Int)+1+1)=(i:Int)+2 from by omega,Ab,B8.FO,AP]))
 have hNt:NS.take i=NS:=List.take_of_length_le (by omega)
 have hi2:((i+1:Nat):Int)=(W.length:Int):=by omega
 have ii:(((i+1:Nat):Int) < (W.length:Int))=False:=eq_false (by omega)
 have hd:(W.drop 1= [])=(NS= []):=propext ⟨fun h=>by rw [hNS,h];rfl,fun h=>List.eq_nil_of_length_eq_zero (by rw [List.length_drop,←hNl,h];rfl)⟩
 refine CW.vc Lu [0,2,3,4,5,6,7,8,9,10,11,12,15,21,29,35,47,54,58,74,86,110,129,149] (by kernel_rfl) ?_
 by_cases hN:NS= []
 ·have e2:MO s= .tuple ⟨[.agg ⟨Aw.enc KQ⟩, .bool false]⟩:=by unfold MO;rw [hRef,if_pos (by rw [hd];exact hN)]
  rw [e2]
  (repeat ((try refine Vc.mk' ?_);simp (maxSteps:=6000000) only [go_sem,di,hNt,hN,Ex,zO,KQ,Ai,I2,DR,ii,hlt,zp,show (((0:Nat):Int)=0)=True from by decide,decide_false,decide_true]))
 have hN1:1≤NS.length:=List.length_pos_iff.2 hN
 rw [if_neg (by rw [hd];exact hN)] at hRef
 have hN0:((NS.length:Int)=0)=False:=eq_false (by omega)
 have hNs:∀ {h':Hp} {b:Nat},h' b=AD AY NS→BP AY h' (AA b NS) NS:=fun e=>BP.JF e (by omega)
 have ixn:∀ {b j:Nat},j < NS.length→Aa tt.get 68 (AA b NS) (.int .i64 (j:Int))=(Ag (AA b NS) (j * 1),True):=fun {b} {j} hj=>by
  have h0:BP AY (fun i=>if i=b then AD AY NS else none) (AA b NS) NS:=hNs (by simp)
  have:=Ib h0 (k:= .i64) (n:=(j:Int)) (by omega) (by omega)
  simpa using this
 have ldn:∀ {h':Hp} {b j:Nat},h' b=AD AY NS→j < NS.length→A4 tt.get h' 3 (Ag (AA b NS) (j * 1))=(.int .i64 (at' NS j),True):=fun e hj=>M6 (hNs e) hj
 have in0:∀ {b:Nat},Aa tt.get 68 (AA b NS) (.int .i64 0)=(Ag (AA b NS) 0,True):=fun {b}=>ixn (b:=b) (j:=0) (by omega)
 have ln0:∀ {h':Hp} {b:Nat},h' b=AD AY NS→A4 tt.get h' 3 (Ag (AA b NS) 0)=(.int .i64 (at' NS 0),True):=fun e=>ldn (j:=0) e (by omega)
 have in1:∀ {b:Nat},1 < NS.length→Aa tt.get 68 (AA b NS) (.int .i64 1)=(Ag (AA b NS) 1,True):=fun {b} h=>ixn (b:=b) (j:=1) h
 have ln1:∀ {h':Hp} {b:Nat},1 < NS.length→h' b=AD AY NS→A4 tt.get h' 3 (Ag (AA b NS) 1)=(.int .i64 (at' NS 1),True):=fun h e=>ldn (j:=1) e h
 have in2:∀ {b:Nat},2 < NS.length→Aa tt.get 68 (AA b NS) (.int .i64 2)=(Ag (AA b NS) 2,True):=fun {b} h=>ixn (b:=b) (j:=2) h
 have ln2:∀ {h':Hp} {b:Nat},2 < NS.length→h' b=AD AY NS→A4 tt.get h' 3 (Ag (AA b NS) 2)=(.int .i64 (at' NS 2),True):=fun h e=>ldn (j:=2) e h
 have ix3:∀ {b:Nat},3 < W.length→Aa tt.get 67 (AA b W) (.int .i64 3)=(Ag (AA b W) 3,True):=fun {b} h=>ixj (b:=b) (j:=3) h
 have ld3:∀ {h':Hp} {b:Nat},3 < W.length→h' b=AD AE W→A4 tt.get h' 9 (Ag (AA b W) 3)=(.string ⟨⟨at' W 3⟩⟩,True):=fun h e=>ldj (j:=3) e h
 have hw3:((at' W 3).length≤2000)=True:=eq_true (by have:=ZX (ws:=W) (j:=3) hWm;omega)
 have hR:=XO (ws:=W) (fun w hw=>by have:=hWm w hw;omega)
 have hcand:KF W=L3 (kA (at' W 0) 12) NS (KR W (kA (at' W 0) 12)):=by unfold KF;rw [←hNS]
 have hk:=kcl (w:=at' W 0)
 dsimp only at hk
 rw [hcand] at hR hRef
 clear hcand
 (repeat ((try refine Vc.mk' ?_);simp (maxSteps:=6000000) only [go_sem,di,hNt,zO,KQ,Ai,I2,DR,LB,ii,hlt,hN,hN0,decide_false]))
 generalize kA (at' W 0) 12=K at hR hRef hk ⊢
 obtain ⟨o,ho⟩:∃o,o=L3 K NS (KR W K):=⟨_,rfl⟩
 rw [←ho] at hR hRef
 obtain ⟨t,e,b,f1,hb,fA,fN⟩:∃t e b,fO o= .tuple ⟨[.string ⟨⟨t⟩⟩, .int .i64 e]⟩∧(!decide (e=0) || !decide (t=s))=b∧(b=false→MO s= .tuple ⟨[.agg ⟨Aw.enc o⟩, .bool true]⟩)∧(b=true→MO s= .tuple ⟨[.agg ⟨Aw.enc KQ⟩, .bool false]⟩):=by
  cases hq:IH o with
  |none=>
   rw [hq] at hRef
   exact ⟨[],2,true,Sb hq,rfl,fun h=>by (cases h),fun _=>by unfold MO;rw [hRef];rfl⟩
  |some t=>
   rw [hq] at hRef
   by_cases ht:t=s
   ·rw [if_pos (by rw [ht])] at hRef
    exact ⟨t,0,false,S5 hq,by simp [ht],fun _=>by unfold MO;rw [hRef],fun h=>by (cases h)⟩
   ·rw [if_neg (fun h=>ht (Option.some.inj h))] at hRef
    exact ⟨t,0,true,S5 hq,by simp [ht],fun h=>by (cases h),fun _=>by unfold MO;rw [hRef]⟩
 clear hRef
 have hlen:((1 < NS.length)=True∧(2 < NS.length)=True∧(3 < W.length)=True∧((1:Int) < (NS.length:Int))=True∧((2:Int) < (NS.length:Int))=True∧((3:Int) < (W.length:Int))=True)∨((1 < NS.length)=True∧(2 < NS.length)=False∧(3 < W.length)=False∧((1:Int) < (NS.length:Int))=True∧((2:Int) < (NS.length:Int))=False∧((3:Int) < (W.length:Int))=False)∨((1 < NS.length)=False∧(2 < NS.length)=False∧(3 < W.length)=False∧((1:Int) < (NS.length:Int))=False∧((2:Int) < (NS.length:Int))=False∧((3:Int) < (W.length:Int))=False):=by
  by_cases l1:1 < NS.length
  ·by_cases l2:2 < NS.length
   ·exact .inl ⟨eq_true l1,eq_true l2,eq_true (by omega),eq_true (by omega),eq_true (by omega),eq_true (by omega)⟩
   ·exact .inr (.inl ⟨eq_true l1,eq_false l2,eq_false (by omega),eq_true (by omega),eq_false (by omega),eq_false (by omega)⟩)
  ·exact .inr (.inr ⟨eq_false l1,eq_false (by omega),eq_false (by omega),eq_false (by omega),eq_false (by omega),eq_false (by omega)⟩)
 have hk:(Gw K=false∧HH K=false∧HV K=true∧(K=8)=True∧(K=9)=False)∨(Gw K=false∧HH K=true∧HV K=false∧(K=8)=False∧(K=9)=True)∨(Gw K=true∧HH K=false∧HV K=false∧(K=8)=False∧(K=9)=False)∨(Gw K=false∧HH K=true∧HV K=false∧(K=8)=False∧(K=9)=False)∨(Gw K=false∧HH K=false∧HV K=true∧(K=8)=False∧(K=9)=False)∨(Gw K=false∧HH K=false∧HV K=false∧(K=8)=False∧(K=9)=False):=by
  rcases hk with ⟨a,b,c,d,e⟩ | ⟨a,b,c,d,e⟩ | ⟨a,b,c,d,e⟩ | ⟨a,b,c,d,e⟩ | ⟨a,b,c,d,e⟩ | ⟨a,b,c,d,e⟩ <;> first | exact .inl ⟨a,b,c,eq_true d,eq_false e⟩ | exact .inr (.inl ⟨a,b,c,eq_false d,eq_true e⟩) | exact .inr (.inr (.inl ⟨a,b,c,eq_false d,eq_false e⟩)) | exact .inr (.inr (.inr (.inl ⟨a,b,c,eq_false d,eq_false e⟩))) | exact .inr (.inr (.inr (.inr (.inl ⟨a,b,c,eq_false d,eq_false e⟩)))) | exact .inr (.inr (.inr (.inr (.inr ⟨a,b,c,eq_false d,eq_false e⟩))))
 have hn2:((0≤at' NS 2)=True∧(at' NS 2 < 4294967296)=True∧(at' NS 2 < 0)=False∧Ap .u32 (at' NS 2)=at' NS 2)∨((0≤at' NS 2)=True∧(at' NS 2 < 4294967296)=False∧(at' NS 2 < 0)=False∧(at' NS 2 < 0)=False)∨((0≤at' NS 2)=False∧(at' NS 2 < 0)=True∧(at' NS 2 < 0)=True∧(at' NS 2 < 0)=True):=by
  by_cases q0:0≤at' NS 2
  ·by_cases q1:at' NS 2 < 4294967296
   ·exact .inl ⟨eq_true q0,eq_true q1,eq_false (by omega),AAb (by simp [Gk];omega)⟩
   ·exact .inr (.inl ⟨eq_true q0,eq_false q1,eq_false (by omega),eq_false (by omega)⟩)
  ·exact .inr (.inr ⟨eq_false q0,eq_true (by omega),eq_true (by omega),eq_true (by omega)⟩)
 have hw9:((at' W 3= [45])=True)∨((at' W 3= [45])=False):=by
  by_cases q:at' W 3= [45]
  ·exact .inl (eq_true q)
  ·exact .inr (eq_false q)
 rcases hk with ⟨hT,hP,hG,b8,b9⟩ | ⟨hT,hP,hG,b8,b9⟩ | hk
 ·rcases hlen with ⟨l1,l2,l3,m1',m2',m3'⟩ | hlen
  ·rcases hn2 with ⟨q0,q1,q2,w2⟩ | ⟨q0,q1,q2,w2⟩ | ⟨q0,q1,q2,w2⟩
   all_goals (
    simp only [L3,KR,hT,hP,hG,b8,b9,l1,l2,l3,q0,q1,q2,w2,if_true,if_false,Bool.false_eq_true,and_true,true_and,and_false,false_and,not_true,not_false_eq_true,ne_eq] at ho
    subst ho
    have hI:=R5 hR
    simp only [Ai] at hI fA
    (repeat ((try refine Vc.mk' ?_);simp (maxSteps:=6000000) only [go_sem,WC,Xt,Ww,Wm,Wy,I3,Kc,G9,RE,DR,LB,in0,ln0,in1,ln1,in2,ln2,ix3,ld3,hw3,AH,AV,Gt,hT,hP,hG,b8,b9,l1,l2,l3,m1',m2',m3',f1,if_true,if_false,Bool.false_eq_true,and_true,true_and,and_false,false_and,not_true,not_false_eq_true,decide_true,decide_false,q0,q1,q2,w2,hI]))
    cases b
    ·rw [fA rfl];(repeat ((try refine Vc.mk' ?_);simp (maxSteps:=6000000) only [go_sem,hb]))
    ·rw [fN rfl];(repeat ((try refine Vc.mk' ?_);simp (maxSteps:=6000000) only [go_sem,hb,Ai,KQ])))
  ·rcases hlen with ⟨l1,l2,l3,m1',m2',m3'⟩ | ⟨l1,l2,l3,m1',m2',m3'⟩ <;> (
    simp only [L3,KR,hT,hP,hG,b8,b9,l1,l2,l3,if_true,if_false,Bool.false_eq_true,and_true,true_and,and_false,false_and,not_true,not_false_eq_true,ne_eq] at ho
    subst ho
    have hI:=R5 hR
    simp only [Ai] at hI fA
    (repeat ((try refine Vc.mk' ?_);simp (maxSteps:=6000000) only [go_sem,WC,Xt,Ww,Wm,Wy,I3,Kc,G9,RE,DR,LB,in0,ln0,in1,ln1,in2,ln2,ix3,ld3,hw3,AH,AV,Gt,hT,hP,hG,b8,b9,l1,l2,l3,m1',m2',m3',f1,if_true,if_false,Bool.false_eq_true,and_true,true_and,and_false,false_and,not_true,not_false_eq_true,decide_true,decide_false,hI]))
    cases b
    ·rw [fA rfl];(repeat ((try refine Vc.mk' ?_);simp (maxSteps:=6000000) only [go_sem,hb]))
    ·rw [fN rfl];(repeat ((try refine Vc.mk' ?_);simp (maxSteps:=6000000) only [go_sem,hb,Ai,KQ])))
 ·rcases hlen with ⟨l1,l2,l3,m1',m2',m3'⟩ | hlen
  ·rcases hw9 with q0 | q0 <;> (
    simp only [L3,KR,hT,hP,hG,b8,b9,l1,l2,l3,q0,if_true,if_false,Bool.false_eq_true,and_true,true_and,and_false,false_and,not_true,not_false_eq_true,ne_eq] at ho
    subst ho
    have hI:=R5 hR
    simp only [Ai] at hI fA
    (repeat ((try refine Vc.mk' ?_);simp (maxSteps:=6000000) only [go_sem,WC,Xt,Ww,Wm,Wy,I3,Kc,G9,RE,DR,LB,in0,ln0,in1,ln1,in2,ln2,ix3,ld3,hw3,AH,AV,Gt,hT,hP,hG,b8,b9,l1,l2,l3,m1',m2',m3',f1,if_true,if_false,Bool.false_eq_true,and_true,true_and,and_false,false_and,not_true,not_false_eq_true,decide_true,decide_false,q0,hI]))
    cases b
    ·rw [fA rfl];(repeat ((try refine Vc.mk' ?_);simp (maxSteps:=6000000) only [go_sem,hb]))
    ·rw [fN rfl];(repeat ((try refine Vc.mk' ?_);simp (maxSteps:=6000000) only [go_sem,hb,Ai,KQ])))
  ·rcases hlen with ⟨l1,l2,l3,m1',m2',m3'⟩ | ⟨l1,l2,l3,m1',m2',m3'⟩ <;> (
    simp only [L3,KR,hT,hP,hG,b8,b9,l1,l2,l3,if_true,if_false,Bool.false_eq_true,and_true,true_and,and_false,false_and,not_true,not_false_eq_true,ne_eq] at ho
    subst ho
    have hI:=R5 hR
    simp only [Ai] at hI fA
    (repeat ((try refine Vc.mk' ?_);simp (maxSteps:=6000000) only [go_sem,WC,Xt,Ww,Wm,Wy,I3,Kc,G9,RE,DR,LB,in0,ln0,in1,ln1,in2,ln2,ix3,ld3,hw3,AH,AV,Gt,hT,hP,hG,b8,b9,l1,l2,l3,m1',m2',m3',f1,if_true,if_false,Bool.false_eq_true,and_true,true_and,and_false,false_and,not_true,not_false_eq_true,decide_true,decide_false,hI]))
    cases b
    ·rw [fA rfl];(repeat ((try refine Vc.mk' ?_);simp (maxSteps:=6000000) only [go_sem,hb]))
    ·rw [fN rfl];(repeat ((try refine Vc.mk' ?_);simp (maxSteps:=6000000) only [go_sem,hb,Ai,KQ])))
 ·rcases hk with ⟨hT,hP,hG,b8,b9⟩ | ⟨hT,hP,hG,b8,b9⟩ | ⟨hT,hP,hG,b8,b9⟩ | ⟨hT,hP,hG,b8,b9⟩ <;> rcases hlen with ⟨l1,l2,l3,m1',m2',m3'⟩ | ⟨l1,l2,l3,m1',m2',m3'⟩ | ⟨l1,l2,l3,m1',m2',m3'⟩ <;> (
   simp only [L3,KR,hT,hP,hG,b8,b9,l1,l2,l3,if_true,if_false,Bool.false_eq_true,and_true,true_and,and_false,false_and,not_true,not_false_eq_true,ne_eq] at ho
   subst ho
   have hI:=R5 hR
   simp only [Ai] at hI fA
   (repeat ((try refine Vc.mk' ?_);simp (maxSteps:=6000000) only [go_sem,WC,Xt,Ww,Wm,Wy,I3,Kc,G9,RE,DR,LB,in0,ln0,in1,ln1,in2,ln2,ix3,ld3,hw3,AH,AV,Gt,hT,hP,hG,b8,b9,l1,l2,l3,m1',m2',m3',f1,if_true,if_false,Bool.false_eq_true,and_true,true_and,and_false,false_and,not_true,not_false_eq_true,decide_true,decide_false,hI]))
   cases b
   ·rw [fA rfl];(repeat ((try refine Vc.mk' ?_);simp (maxSteps:=6000000) only [go_sem,hb]))
   ·rw [fN rfl];(repeat ((try refine Vc.mk' ?_);simp (maxSteps:=6000000) only [go_sem,hb,Ai,KQ])))
end Go.Proofs.YthlhnangbinhoaaGreatDoor.Dm
