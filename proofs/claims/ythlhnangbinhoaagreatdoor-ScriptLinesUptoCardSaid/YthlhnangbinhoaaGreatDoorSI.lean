/- The line of an op, as the code writes it. -/
import Derived.Test.YthlhnangbinhoaaGreatDoorSH
set_option linter.unusedVariables false
namespace Go.Proofs.YthlhnangbinhoaaGreatDoor.Dm
open Go.Dm
set_option maxHeartbeats 16000000
set_option maxRecDepth 20000
def Bu (j:Nat)(o:Ax):List UInt8:=match j with
 |0=>Lib.itoa o.Bj
 |1=>Lib.itoa o.C8
 |2=>Lib.itoa o.B1
 |3=>Lib.itoa o.Bd
 |4=>Pg o.Bytes
 |_=>Lib.itoa o.CJ
def CE (F:Int)(o:Ax):Nat→Nat→Ha→Ha
 |0,_,ws=>ws
 |n+1,j,ws=>CE F o n (j+1) (if Ay F (p2 j)=true then ws ++ [Bu j o] else ws)
def FP (k:Int):List De→Option De
 | []=>none
 |r :: l=>if r.kind=k then some r else FP k l
def IH (o:Ax):Option (List UInt8):=match FP o.Kind BV with
 |some r=>if Ct o r.fields=true then some (Lib.join (CE r.fields o 6 0 [r.word]) [32]) else none
 |none=>none
theorem ZS {k:Int}{i:Nat}(h:i < 12):FP k (BV.drop i)=if (at' BV i).kind=k then some (at' BV i) else FP k (BV.drop (i+1)):=by
 rw [Pv (l:=BV) (k:=i) h];rfl
def fO (o:Ax):Value:=match IH o with
 |some s=> .tuple ⟨[.string ⟨⟨s⟩⟩, .int .i64 0]⟩
 |none=> .tuple ⟨[.string ⟨⟨[]⟩⟩, .int .i64 2]⟩
theorem S5 {o:Ax}{s:List UInt8}(h:IH o=some s):fO o= .tuple ⟨[.string ⟨⟨s⟩⟩, .int .i64 0]⟩:=by unfold fO;rw [h]
theorem Sb {o:Ax}(h:IH o=none):fO o= .tuple ⟨[.string ⟨⟨[]⟩⟩, .int .i64 2]⟩:=by unfold fO;rw [h]
def Ow:Bb:= .pure (fun args hp=>match args with | [v]=>dT v∧hp 1=some Tw | _=>False) (fun args _=>match args with | [v]=>fO (Y0 v) | _=>undef)
theorem rM {i:Nat}(h:i < 12):(at' BV i).word.length≤6:=by
 have:∀i:Fin 12,(at' BV i.val).word.length≤6:=by decide
 exact this ⟨i,h⟩
theorem uw {n:Int}(h0:0≤n)(h1:n < 4294967296):Ap .u64 n=n:=wrap_u64 h0 (by omega)
theorem ABT {hp:Hp}{x:Value}:CU tt.get hp 41 106 x=(.int .u64 (Ap .u64 (intOf x)),SD x):=ZT Nd XT
def XY:FuncId→Bb:=Bw (Bw wO 16 RU) 45 .none
theorem Di:CQ Tryz.prog tt.get XY:=(F1.add vr).add trivial
theorem xW:XY 40=K5:=rfl
theorem iy:XY 41=Fv:=rfl
theorem U3:XY 26=Nf:=rfl
theorem wP:XY 42=Uc:=rfl
theorem wY:XY 43=bW:=rfl
theorem wK:XY 44=Pz:=rfl
def mV (hp:Hp)(top:Nat)(o:Ax)(i:Nat):SS:=⟨[(1, .pointer (some ⟨top,0,none⟩),true),(8, .agg ⟨QY⟩,true),(9, .int .i64 (i:Int),true)],hp.Av [(top,some (.cells true 0 (Aw.enc o)))],top+1⟩
def Nk (hp:Hp)(top:Nat)(o:Ax)(r:De)(x:Nat×Ha):SS:=⟨[(1, .pointer (some ⟨top,0,none⟩),true),(5, .pointer (some ⟨top+1,0,none⟩),true),(6,AA (top+2) x.2,true),(7, .int .i64 (p2 x.1),true)],
 hp.Av [(top,some (.cells true 0 (Aw.enc o))),(top+1,some (.cells true 0 (RC.enc r))),(top+2,AD AE x.2)],top+3⟩
structure na (j:Nat) (ws:Ha):Prop where
 one:1≤ws.length
 le:ws.length≤j+1
 jn:(Lib.join ws [32]).length≤1100 * ws.length
theorem na.app {j:Nat}{ws:Ha}{w:List UInt8}(h:na j ws)(hw:w.length≤1024):na (j+1) (ws ++ [w]):=by
 refine ⟨by simp,by simp;exact h.le, ?_⟩
 rw [TV,if_neg (by have:=h.one;omega)]
 have:=h.jn
 simp only [List.length_append,List.length_cons,List.length_nil]
 omega
theorem AAJ {w:List UInt8}(h:w.length≤6):na 0 [w]:=by
 refine ⟨by simp,by simp, ?_⟩
 have e:Lib.join [w] [32] = w:=by simp [Lib.join]
 rw [e];simp;omega
theorem na.stay {j:Nat}{ws:Ha}(h:na j ws):na (j+1) ws:=⟨h.one,by have:=h.le;omega,h.jn⟩
theorem UD {b:List UInt8}(h:b.length≤512):(Pg b).length≤1024:=by
 unfold Pg
 split
 ·decide
 ·rw [Ea];omega
theorem VN {o:Ax}{F:Int}(h:Ct o F=true)(h5:Ay F 16=true):o.Bytes.length≤512:=by
 simp only [Ct,Bool.and_eq_true] at h
 have:=h.1.2
 simp only [m5,h5,if_true,Bool.not_eq_true',decide_eq_false_iff_not] at this
 omega
theorem ID {n:Int}(h:Fh n):(Lib.itoa n).length≤1024:=by have:=Lib.itoa_length_le n h.1 h.2;omega
theorem zy:A0 Tryz.prog 15 Ow:=by
 refine .Fm VD ?_ ?_
 ·rintro args hp h
  match args,h with
  | [_],⟨⟨x,rfl,_⟩,_⟩=>
   show plain 3 (fO (Y0 (.agg ⟨Aw.enc x⟩)))=true
   unfold fO
   split <;> rfl
 intro args hp hpre top hcl hsc
 match args,hpre with
 | [_],⟨⟨o,rfl,hO⟩,hp1⟩=>
 have ht1:=hcl.lt _ _ hp1
 simp only [Br]
 have hI:=R5 hO
 have hE:=Br (x:=o)
 simp only [Ai] at hI hE
 refine AR.A5 BA VD rfl 87 rfl [.tmp 2, .tmp 3] rfl (show 1≤87 by decide) ?_
 refine CW.vc Di [0,1,2,3,5,6,7,8,9,10,16,21,26,33,34,35,43,51,59,68,76] (by kernel_rfl) ?_
 (repeat ((try refine Vc.mk' ?_);simp (maxSteps:=6000000) only [go_sem,xW,K5]))
 refine CW.DC (mV hp top o) (fun i=>i≤12∧FP o.Kind BV=FP o.Kind (BV.drop i)) (fun i=>12 - i) 0 ⟨by decide,rfl⟩ ?_ ?_
 ·exact (by refine BR.mk' [top] hcl (by simp) (by simp) rfl (AU ?_) ?_ ?_ <;> simp [Ai,LJ])
 ·rintro i ⟨hi,hf⟩
  by_cases hlt:i < 12
  ·have l1:((i:Int) < 12):=by omega
   have kk:Ap .i64 ((i:Int)+1)=((i+1:Nat):Int):=Bf hlt (by omega)
   have hix:=Wo hlt
   have hrl:=rM hlt
   rw [ZS hlt] at hf
   generalize hr:at' BV i=r at hf hix hrl
   by_cases c:r.kind=o.Kind
   ·rw [if_pos c] at hf
    cases hm:Ct o r.fields with
    |false=>
     have e:IH o=none:=by unfold IH;rw [hf];dsimp only;rw [if_neg (by rw [hm];simp)]
     rw [Sb e]
     refine CW.vc Di [0,1,2,3,5,6,7,8,9,10,16,21,26,33,34,35,43,51,59,68,76] (by kernel_rfl) ?_
     (repeat ((try refine Vc.mk' ?_);simp (maxSteps:=6000000) only [go_sem,mV,l1,hlt,hix,Am,Ai,c,decide_true,iy,Fv,hI,hE,hm]))
     try rfl
    |true=>
     have e:IH o=some (Lib.join (CE r.fields o 6 0 [r.word]) [32]):=by unfold IH;rw [hf];dsimp only;rw [if_pos hm]
     rw [S5 e]
     refine CW.vc Di [0,1,2,3,5,6,7,8,9,10,16,21,26,33,34,35,43,51,59,68,76] (by kernel_rfl) ?_
     (repeat ((try refine Vc.mk' ?_);simp (maxSteps:=6000000) only [go_sem,mV,l1,hlt,hix,Am,Ai,c,decide_true,iy,Fv,hI,hE,hm]))
     refine CW.DC (Nk hp top o r) (fun x=>x.1≤6∧na x.1 x.2∧CE r.fields o (6 - x.1) x.1 x.2=CE r.fields o 6 0 [r.word]) (fun x=>6 - x.1) (0, [r.word]) ⟨Nat.zero_le _,AAJ hrl,rfl⟩ ?_ ?_
     ·exact (by refine BR.mk' [top,top+1,top+2] hcl (by simp) (by simp) rfl (AU ?_) ?_ ?_ <;> simp [Ai,Am,p2,c,AA,AD,B8.flat,eN,show AE.size=1 from rfl])
     ·rintro ⟨j,ws⟩ ⟨hj,hW,hrun⟩
      have hap:∀ {h':Hp} {q t:Nat} {x:List UInt8},h' (top+2)=AD AE ws→h' q=some (.cells true 1 [.string ⟨⟨x⟩⟩])→AM tt.get h' t [67,67] (AA (top+2) ws) (.slice (some ⟨q,0,none⟩) 1 1)=some (AA t (ws ++ [x]),CC (top+2) ws t (AD AE (ws ++ [x])),t+1):=fun {h'} {q} {t} {x} a1 a2=>by
       have e3:cellsOf (h' q)=AE.enc x:=by rw [a2];rfl
       have:=JZ (hp:=h') (b:=top+2) (top:=t) (k:=q) a1 (by rw [e3];exact a2) (by rw [e3,AE.h]) (CL (by have h1:ws.length≤j+1:=hW.le;have h2:j≤6:=hj;omega) (by decide))
       rwa [e3,AE.h] at this
      have hcase:j=0∨j=1∨j=2∨j=3∨j=4∨j=5∨j=6:=by have:j≤6:=hj;omega
      rcases hcase with rfl | rfl | rfl | rfl | rfl | rfl | rfl
      ·-- Bj
       have sh:Ap .i64 ((1:Int) * Int.ofNat (Nat.pow 2 ((Int.toNat 1).min 64)))=2:=by decide
       cases hh:Ay r.fields 1 with
       |false=>
        have hb:CZ .and .i64 r.fields 1=0:=by simpa [Ay] using hh
        have hs1:CE r.fields o (6 - 0) 0 ws=CE r.fields o (6 - 1) 1 ws:=by show CE r.fields o (6 - 1) 1 (if Ay r.fields 1=true then _ else ws)=_;rw [if_neg (by rw [hh];simp)]
        refine CW.vc Di [0,1,2,3,5,6,7,8,9,10,16,21,26,33,34,35,43,51,59,68,76] (by kernel_rfl) ?_
        (repeat ((try refine Vc.mk' ?_);simp (maxSteps:=6000000) only [go_sem,Nk,Ai,Am,p2,hb,decide_true,sh]))
        refine .mk (1,ws) ⟨Nat.le_of_ble_eq_true rfl,hW.stay,hs1.symm.trans hrun⟩ (by show 6 - 1 < 6 - 0;decide) ((by refine BR.mk' [top,top+1,top+2] hcl (by simp) (by simp) rfl (AU ?_) ?_ ?_ <;> simp [Ai,Am,p2,Ab,AP]))
       |true=>
        have hb:¬CZ .and .i64 r.fields 1=0:=by simpa [Ay] using hh
        have hs1:CE r.fields o (6 - 0) 0 ws=CE r.fields o (6 - 1) 1 (ws ++ [Bu 0 o]):=by show CE r.fields o (6 - 1) 1 (if Ay r.fields 1=true then _ else ws)=_;rw [if_pos hh]
        have hi6:Fh o.Bj=True:=eq_true hO.r
        have hwl:(Bu 0 o).length≤1024:=ID hO.r
        have hwj:Bu 0 o=Lib.itoa o.Bj:=rfl
        rw [hwj] at hs1 hwl
        have hap1:∀ {h':Hp} {q t:Nat},h' (top+2)=AD AE ws→h' q=some (.cells true 1 [.string ⟨⟨Lib.itoa o.Bj⟩⟩])→AM tt.get h' t [67,67] (AA (top+2) ws) (.slice (some ⟨q,0,none⟩) 1 1)=some (AA t (ws ++ [Lib.itoa o.Bj]),CC (top+2) ws t (AD AE (ws ++ [Lib.itoa o.Bj])),t+1):=hap
        refine CW.vc Di [0,1,2,3,5,6,7,8,9,10,16,21,26,33,34,35,43,51,59,68,76] (by kernel_rfl) ?_
        (repeat ((try refine Vc.mk' ?_);simp (maxSteps:=6000000) only [go_sem,Nk,Ai,Am,p2,hb,decide_false,sh,hp1,Ae ht1,U3,Nf,hi6,hap1]))
        refine .mk (1,ws ++ [Lib.itoa o.Bj]) ⟨Nat.le_of_ble_eq_true rfl,hW.app hwl,hs1.symm.trans hrun⟩ (by show 6 - 1 < 6 - 0;decide) ((by refine BR.mk' [top,top+1,top+4] hcl (by simp) (by simp) rfl (AU ?_) ?_ ?_ <;> simp [Ai,Am,p2,Ab,AP]))
      ·-- C8
       have sh:Ap .i64 ((2:Int) * Int.ofNat (Nat.pow 2 ((Int.toNat 1).min 64)))=4:=by decide
       cases hh:Ay r.fields 2 with
       |false=>
        have hb:CZ .and .i64 r.fields 2=0:=by simpa [Ay] using hh
        have hs1:CE r.fields o (6 - 1) 1 ws=CE r.fields o (6 - 2) 2 ws:=by show CE r.fields o (6 - 2) 2 (if Ay r.fields 2=true then _ else ws)=_;rw [if_neg (by rw [hh];simp)]
        refine CW.vc Di [0,1,2,3,5,6,7,8,9,10,16,21,26,33,34,35,43,51,59,68,76] (by kernel_rfl) ?_
        (repeat ((try refine Vc.mk' ?_);simp (maxSteps:=6000000) only [go_sem,Nk,Ai,Am,p2,hb,decide_true,sh]))
        refine .mk (2,ws) ⟨Nat.le_of_ble_eq_true rfl,hW.stay,hs1.symm.trans hrun⟩ (by show 6 - 2 < 6 - 1;decide) ((by refine BR.mk' [top,top+1,top+2] hcl (by simp) (by simp) rfl (AU ?_) ?_ ?_ <;> simp [Ai,Am,p2,Ab,AP]))
       |true=>
        have hb:¬CZ .and .i64 r.fields 2=0:=by simpa [Ay] using hh
        have hs1:CE r.fields o (6 - 1) 1 ws=CE r.fields o (6 - 2) 2 (ws ++ [Bu 1 o]):=by show CE r.fields o (6 - 2) 2 (if Ay r.fields 2=true then _ else ws)=_;rw [if_pos hh]
        have hi6:Fh o.C8=True:=eq_true hO.p
        have hwl:(Bu 1 o).length≤1024:=ID hO.p
        have hwj:Bu 1 o=Lib.itoa o.C8:=rfl
        rw [hwj] at hs1 hwl
        have hap1:∀ {h':Hp} {q t:Nat},h' (top+2)=AD AE ws→h' q=some (.cells true 1 [.string ⟨⟨Lib.itoa o.C8⟩⟩])→AM tt.get h' t [67,67] (AA (top+2) ws) (.slice (some ⟨q,0,none⟩) 1 1)=some (AA t (ws ++ [Lib.itoa o.C8]),CC (top+2) ws t (AD AE (ws ++ [Lib.itoa o.C8])),t+1):=hap
        refine CW.vc Di [0,1,2,3,5,6,7,8,9,10,16,21,26,33,34,35,43,51,59,68,76] (by kernel_rfl) ?_
        (repeat ((try refine Vc.mk' ?_);simp (maxSteps:=6000000) only [go_sem,Nk,Ai,Am,p2,hb,decide_false,sh,hp1,Ae ht1,U3,Nf,hi6,hap1]))
        refine .mk (2,ws ++ [Lib.itoa o.C8]) ⟨Nat.le_of_ble_eq_true rfl,hW.app hwl,hs1.symm.trans hrun⟩ (by show 6 - 2 < 6 - 1;decide) ((by refine BR.mk' [top,top+1,top+4] hcl (by simp) (by simp) rfl (AU ?_) ?_ ?_ <;> simp [Ai,Am,p2,Ab,AP]))
      ·-- B1
       have sh:Ap .i64 ((4:Int) * Int.ofNat (Nat.pow 2 ((Int.toNat 1).min 64)))=8:=by decide
       cases hh:Ay r.fields 4 with
       |false=>
        have hb:CZ .and .i64 r.fields 4=0:=by simpa [Ay] using hh
        have hs1:CE r.fields o (6 - 2) 2 ws=CE r.fields o (6 - 3) 3 ws:=by show CE r.fields o (6 - 3) 3 (if Ay r.fields 4=true then _ else ws)=_;rw [if_neg (by rw [hh];simp)]
        refine CW.vc Di [0,1,2,3,5,6,7,8,9,10,16,21,26,33,34,35,43,51,59,68,76] (by kernel_rfl) ?_
        (repeat ((try refine Vc.mk' ?_);simp (maxSteps:=6000000) only [go_sem,Nk,Ai,Am,p2,hb,decide_true,sh]))
        refine .mk (3,ws) ⟨Nat.le_of_ble_eq_true rfl,hW.stay,hs1.symm.trans hrun⟩ (by show 6 - 3 < 6 - 2;decide) ((by refine BR.mk' [top,top+1,top+2] hcl (by simp) (by simp) rfl (AU ?_) ?_ ?_ <;> simp [Ai,Am,p2,Ab,AP]))
       |true=>
        have hb:¬CZ .and .i64 r.fields 4=0:=by simpa [Ay] using hh
        have hs1:CE r.fields o (6 - 2) 2 ws=CE r.fields o (6 - 3) 3 (ws ++ [Bu 2 o]):=by show CE r.fields o (6 - 3) 3 (if Ay r.fields 4=true then _ else ws)=_;rw [if_pos hh]
        have hi6:Fh o.B1=True:=eq_true hO.g
        have hwl:(Bu 2 o).length≤1024:=ID hO.g
        have hwj:Bu 2 o=Lib.itoa o.B1:=rfl
        rw [hwj] at hs1 hwl
        have hap1:∀ {h':Hp} {q t:Nat},h' (top+2)=AD AE ws→h' q=some (.cells true 1 [.string ⟨⟨Lib.itoa o.B1⟩⟩])→AM tt.get h' t [67,67] (AA (top+2) ws) (.slice (some ⟨q,0,none⟩) 1 1)=some (AA t (ws ++ [Lib.itoa o.B1]),CC (top+2) ws t (AD AE (ws ++ [Lib.itoa o.B1])),t+1):=hap
        refine CW.vc Di [0,1,2,3,5,6,7,8,9,10,16,21,26,33,34,35,43,51,59,68,76] (by kernel_rfl) ?_
        (repeat ((try refine Vc.mk' ?_);simp (maxSteps:=6000000) only [go_sem,Nk,Ai,Am,p2,hb,decide_false,sh,hp1,Ae ht1,U3,Nf,hi6,hap1]))
        refine .mk (3,ws ++ [Lib.itoa o.B1]) ⟨Nat.le_of_ble_eq_true rfl,hW.app hwl,hs1.symm.trans hrun⟩ (by show 6 - 3 < 6 - 2;decide) ((by refine BR.mk' [top,top+1,top+4] hcl (by simp) (by simp) rfl (AU ?_) ?_ ?_ <;> simp [Ai,Am,p2,Ab,AP]))
      ·-- Bd
       have sh:Ap .i64 ((8:Int) * Int.ofNat (Nat.pow 2 ((Int.toNat 1).min 64)))=16:=by decide
       cases hh:Ay r.fields 8 with
       |false=>
        have hb:CZ .and .i64 r.fields 8=0:=by simpa [Ay] using hh
        have hs1:CE r.fields o (6 - 3) 3 ws=CE r.fields o (6 - 4) 4 ws:=by show CE r.fields o (6 - 4) 4 (if Ay r.fields 8=true then _ else ws)=_;rw [if_neg (by rw [hh];simp)]
        refine CW.vc Di [0,1,2,3,5,6,7,8,9,10,16,21,26,33,34,35,43,51,59,68,76] (by kernel_rfl) ?_
        (repeat ((try refine Vc.mk' ?_);simp (maxSteps:=6000000) only [go_sem,Nk,Ai,Am,p2,hb,decide_true,sh]))
        refine .mk (4,ws) ⟨Nat.le_of_ble_eq_true rfl,hW.stay,hs1.symm.trans hrun⟩ (by show 6 - 4 < 6 - 3;decide) ((by refine BR.mk' [top,top+1,top+2] hcl (by simp) (by simp) rfl (AU ?_) ?_ ?_ <;> simp [Ai,Am,p2,Ab,AP]))
       |true=>
        have hb:¬CZ .and .i64 r.fields 8=0:=by simpa [Ay] using hh
        have hs1:CE r.fields o (6 - 3) 3 ws=CE r.fields o (6 - 4) 4 (ws ++ [Bu 3 o]):=by show CE r.fields o (6 - 4) 4 (if Ay r.fields 8=true then _ else ws)=_;rw [if_pos hh]
        have hu0:=hO.e0
        have hu1:=hO.e1
        have hU:U64 o.Bd=True:=eq_true ⟨hu0,by omega⟩
        have hwr:=uw hu0 hu1
        have hwl:(Bu 3 o).length≤1024:=ID ⟨by omega,by omega⟩
        have hwj:Bu 3 o=Lib.itoa o.Bd:=rfl
        rw [hwj] at hs1 hwl
        have hap1:∀ {h':Hp} {q t:Nat},h' (top+2)=AD AE ws→h' q=some (.cells true 1 [.string ⟨⟨Lib.itoa o.Bd⟩⟩])→AM tt.get h' t [67,67] (AA (top+2) ws) (.slice (some ⟨q,0,none⟩) 1 1)=some (AA t (ws ++ [Lib.itoa o.Bd]),CC (top+2) ws t (AD AE (ws ++ [Lib.itoa o.Bd])),t+1):=hap
        refine CW.vc Di [0,1,2,3,5,6,7,8,9,10,16,21,26,33,34,35,43,51,59,68,76] (by kernel_rfl) ?_
        (repeat ((try refine Vc.mk' ?_);simp (maxSteps:=6000000) only [go_sem,Nk,Ai,Am,p2,hb,decide_false,sh,hp1,Ae ht1,wP,Uc,hU,hwr,ABT,hap1]))
        refine .mk (4,ws ++ [Lib.itoa o.Bd]) ⟨Nat.le_of_ble_eq_true rfl,hW.app hwl,hs1.symm.trans hrun⟩ (by show 6 - 4 < 6 - 3;decide) ((by refine BR.mk' [top,top+1,top+4] hcl (by simp) (by simp) rfl (AU ?_) ?_ ?_ <;> simp [Ai,Am,p2,Ab,AP]))
      ·-- Bytes
       have sh:Ap .i64 ((16:Int) * Int.ofNat (Nat.pow 2 ((Int.toNat 1).min 64)))=32:=by decide
       cases hh:Ay r.fields 16 with
       |false=>
        have hb:CZ .and .i64 r.fields 16=0:=by simpa [Ay] using hh
        have hs1:CE r.fields o (6 - 4) 4 ws=CE r.fields o (6 - 5) 5 ws:=by show CE r.fields o (6 - 5) 5 (if Ay r.fields 16=true then _ else ws)=_;rw [if_neg (by rw [hh];simp)]
        refine CW.vc Di [0,1,2,3,5,6,7,8,9,10,16,21,26,33,34,35,43,51,59,68,76] (by kernel_rfl) ?_
        (repeat ((try refine Vc.mk' ?_);simp (maxSteps:=6000000) only [go_sem,Nk,Ai,Am,p2,hb,decide_true,sh]))
        refine .mk (5,ws) ⟨Nat.le_of_ble_eq_true rfl,hW.stay,hs1.symm.trans hrun⟩ (by show 6 - 5 < 6 - 4;decide) ((by refine BR.mk' [top,top+1,top+2] hcl (by simp) (by simp) rfl (AU ?_) ?_ ?_ <;> simp [Ai,Am,p2,Ab,AP]))
       |true=>
        have hb:¬CZ .and .i64 r.fields 16=0:=by simpa [Ay] using hh
        have hs1:CE r.fields o (6 - 4) 4 ws=CE r.fields o (6 - 5) 5 (ws ++ [Bu 4 o]):=by show CE r.fields o (6 - 5) 5 (if Ay r.fields 16=true then _ else ws)=_;rw [if_pos hh]
        have hbl:=VN hm hh
        have hwl:(Bu 4 o).length≤1024:=UD hbl
        have hwj:Bu 4 o=Pg o.Bytes:=rfl
        rw [hwj] at hs1 hwl
        have hap1:∀ {h':Hp} {q t:Nat},h' (top+2)=AD AE ws→h' q=some (.cells true 1 [.string ⟨⟨Pg o.Bytes⟩⟩])→AM tt.get h' t [67,67] (AA (top+2) ws) (.slice (some ⟨q,0,none⟩) 1 1)=some (AA t (ws ++ [Pg o.Bytes]),CC (top+2) ws t (AD AE (ws ++ [Pg o.Bytes])),t+1):=hap
        refine CW.vc Di [0,1,2,3,5,6,7,8,9,10,16,21,26,33,34,35,43,51,59,68,76] (by kernel_rfl) ?_
        (repeat ((try refine Vc.mk' ?_);simp (maxSteps:=6000000) only [go_sem,Nk,Ai,Am,p2,hb,decide_false,sh,wY,bW,hbl,hap1]))
        refine .mk (5,ws ++ [Pg o.Bytes]) ⟨Nat.le_of_ble_eq_true rfl,hW.app hwl,hs1.symm.trans hrun⟩ (by show 6 - 5 < 6 - 4;decide) ((by refine BR.mk' [top,top+1,top+4] hcl (by simp) (by simp) rfl (AU ?_) ?_ ?_ <;> simp [Ai,Am,p2,Ab,AP]))
      ·-- CJ
       have sh:Ap .i64 ((32:Int) * Int.ofNat (Nat.pow 2 ((Int.toNat 1).min 64)))=64:=by decide
       cases hh:Ay r.fields 32 with
       |false=>
        have hb:CZ .and .i64 r.fields 32=0:=by simpa [Ay] using hh
        have hs1:CE r.fields o (6 - 5) 5 ws=CE r.fields o (6 - 6) 6 ws:=by show CE r.fields o (6 - 6) 6 (if Ay r.fields 32=true then _ else ws)=_;rw [if_neg (by rw [hh];simp)]
        refine CW.vc Di [0,1,2,3,5,6,7,8,9,10,16,21,26,33,34,35,43,51,59,68,76] (by kernel_rfl) ?_
        (repeat ((try refine Vc.mk' ?_);simp (maxSteps:=6000000) only [go_sem,Nk,Ai,Am,p2,hb,decide_true,sh]))
        refine .mk (6,ws) ⟨Nat.le_of_ble_eq_true rfl,hW.stay,hs1.symm.trans hrun⟩ (by show 6 - 6 < 6 - 5;decide) ((by refine BR.mk' [top,top+1,top+2] hcl (by simp) (by simp) rfl (AU ?_) ?_ ?_ <;> simp [Ai,Am,p2,Ab,AP]))
       |true=>
        have hb:¬CZ .and .i64 r.fields 32=0:=by simpa [Ay] using hh
        have hs1:CE r.fields o (6 - 5) 5 ws=CE r.fields o (6 - 6) 6 (ws ++ [Bu 5 o]):=by show CE r.fields o (6 - 6) 6 (if Ay r.fields 32=true then _ else ws)=_;rw [if_pos hh]
        have hi6:Fh o.CJ=True:=eq_true hO.t
        have hwl:(Bu 5 o).length≤1024:=ID hO.t
        have hwj:Bu 5 o=Lib.itoa o.CJ:=rfl
        rw [hwj] at hs1 hwl
        have hap1:∀ {h':Hp} {q t:Nat},h' (top+2)=AD AE ws→h' q=some (.cells true 1 [.string ⟨⟨Lib.itoa o.CJ⟩⟩])→AM tt.get h' t [67,67] (AA (top+2) ws) (.slice (some ⟨q,0,none⟩) 1 1)=some (AA t (ws ++ [Lib.itoa o.CJ]),CC (top+2) ws t (AD AE (ws ++ [Lib.itoa o.CJ])),t+1):=hap
        refine CW.vc Di [0,1,2,3,5,6,7,8,9,10,16,21,26,33,34,35,43,51,59,68,76] (by kernel_rfl) ?_
        (repeat ((try refine Vc.mk' ?_);simp (maxSteps:=6000000) only [go_sem,Nk,Ai,Am,p2,hb,decide_false,sh,hp1,Ae ht1,U3,Nf,hi6,hap1]))
        refine .mk (6,ws ++ [Lib.itoa o.CJ]) ⟨Nat.le_of_ble_eq_true rfl,hW.app hwl,hs1.symm.trans hrun⟩ (by show 6 - 6 < 6 - 5;decide) ((by refine BR.mk' [top,top+1,top+4] hcl (by simp) (by simp) rfl (AU ?_) ?_ ?_ <;> simp [Ai,Am,p2,Ab,AP]))
      ·have hrun':ws=CE r.fields o 6 0 [r.word]:=hrun
       rw [←hrun']
       have hj1:(Lib.join ws [32]).length≤1100 * ws.length:=hW.jn
       have hl1:ws.length≤6+1:=hW.le
       have j1:∀ {h':Hp},h' (top+2)=AD AE ws→GQ AE h' (AA (top+2) ws)=True:=fun e=>tK e (by omega)
       have j2:∀ {h':Hp},h' (top+2)=AD AE ws→AE.rd h' (AA (top+2) ws)=ws:=fun e=>MJ e (by omega)
       have j3:(ws.length≤140737488355328)=True:=eq_true (by omega)
       have j4:((Lib.join ws [32]).length≤140737488355328)=True:=eq_true (by omega)
       refine CW.vc Di [0,1,2,3,5,6,7,8,9,10,16,21,26,33,34,35,43,51,59,68,76] (by kernel_rfl) ?_
       (repeat ((try refine Vc.mk' ?_);simp (maxSteps:=6000000) only [go_sem,Nk,Ai,Am,p2,wK,Pz,j1,j2,j3,j4]))
   ·rw [if_neg c] at hf
    refine CW.vc Di [0,1,2,3,5,6,7,8,9,10,16,21,26,33,34,35,43,51,59,68,76] (by kernel_rfl) ?_
    (repeat ((try refine Vc.mk' ?_);simp (maxSteps:=6000000) only [go_sem,mV,l1,hlt,hix,Am,Ai,c,decide_false,kk]))
    refine .mk (i+1) ⟨hlt,hf⟩ (by omega) ((by refine BR.mk' [top] hcl (by simp) (by simp) rfl (AU ?_) ?_ ?_ <;> simp [Ai,LJ]))
  ·have hi2:i=12:=by omega
   subst hi2
   have e:IH o=none:=by
    have:FP o.Kind BV=none:=by rw [hf];rfl
    unfold IH;rw [this]
   rw [Sb e]
   refine CW.vc Di [0,1,2,3,5,6,7,8,9,10,16,21,26,33,34,35,43,51,59,68,76] (by kernel_rfl) ?_
   (repeat ((try refine Vc.mk' ?_);simp (maxSteps:=6000000) only [go_sem,mV,show decide (((12:Nat):Int) < 12)=false from rfl]))
   try rfl
end Go.Proofs.YthlhnangbinhoaaGreatDoor.Dm
