/- The line of an op, as the code writes it. -/
import Derived.Test.YthlhnangbinhoaaGreatDoorSH
set_option linter.unusedVariables false
namespace Go.Proofs.YthlhnangbinhoaaGreatDoor.Dm
open Go.Dm
set_option maxHeartbeats 16000000
set_option maxRecDepth 20000
def Bk(j:Nat)(o:A0):List UInt8:=match j with
 |0=>Lib.itoa o.Bg
 |1=>Lib.itoa o.DQ
 |2=>Lib.itoa o.CH
 |3=>Lib.itoa o.Be
 |4=>Pu o.Bytes
 |_=>Lib.itoa o.Cj
def B8 (F:Int)(o:A0):Nat→Nat→Ec→Ec
 |0,_,ws=>ws
 |n+1,j,ws=>B8 F o n (j+1) (if A3 F (p2 j)=true then ws ++ [Bk j o] else ws)
def FG(k:Int):List Da→Option Da
 | []=>none
 |r :: l=>if r.kind=k then some r else FG k l
def Ik (o:A0):Option (List UInt8):=match FG o.Kind BI with
 |some r=>if CX o r.fields=true then some (Lib.join (B8 r.fields o 6 0 [r.word]) [32]) else none
 |none=>none
theorem Ye {k:Int}{i:Nat}(h:i < 12):FG k (BI.drop i)=if (at' BI i).kind=k then some (at' BI i) else FG k (BI.drop (i+1)):=by
 rw [Kk (l:=BI) (k:=i) h];rfl
def mx (o:A0):Value:=match Ik o with
 |some s=> .tuple ⟨[.string ⟨⟨s⟩⟩, .int .i64 0]⟩
 |none=> .tuple ⟨[.string ⟨⟨[]⟩⟩, .int .i64 2]⟩
theorem W1 {o:A0}{s:List UInt8}(h:Ik o=some s):mx o= .tuple ⟨[.string ⟨⟨s⟩⟩, .int .i64 0]⟩:=by unfold mx;rw [h]
theorem W0 {o:A0}(h:Ik o=none):mx o= .tuple ⟨[.string ⟨⟨[]⟩⟩, .int .i64 2]⟩:=by unfold mx;rw [h]
def WI:BE:= .pure (fun args hp=>match args with | [v]=>gH v∧hp 1=some VH | _=>False) (fun args _=>match args with | [v]=>mx (Yz v) | _=>undef)
theorem qD {i:Nat}(h:i < 12):(at' BI i).word.length≤6:=by
 have:∀i:Fin 12,(at' BI i.val).word.length≤6:=by decide
 exact this ⟨i,h⟩
theorem xK {n:Int}(h0:0≤n)(h1:n < 4294967296):Ad .u64 n=n:=wrap_u64 h0 (by omega)
theorem zt {hp:Hp}{x:Value}:CQ tt.get hp 41 106 x=(.int .u64 (Ad .u64 (intOf x)),R3 x):=ZL M7 Wt
def Vq:FuncId→BE:=BV (BV tS 16 gp) 45 .none
theorem Df:Bp Tryz.prog tt.get Vq:=(FW.add vu).add trivial
theorem tX:Vq 40=Ko:=rfl
theorem ft:Vq 41=GF:=rfl
theorem Tx:Vq 26=Mc:=rfl
theorem tU:Vq 42=UI:=rfl
theorem tV:Vq 43=Zw:=rfl
theorem tW:Vq 44=Ph:=rfl
def lC (hp:Hp)(top:Nat)(o:A0)(i:Nat):SS:=⟨[(1, .pointer (some ⟨top,0,none⟩),true),(8, .agg ⟨RW⟩,true),(9, .int .i64 (i:Int),true)],hp.Ac [(top,some (.cells true 0 (Aw.enc o)))],top+1⟩
def NY (hp:Hp)(top:Nat)(o:A0)(r:Da)(x:Nat×Ec):SS:=⟨[(1, .pointer (some ⟨top,0,none⟩),true),(5, .pointer (some ⟨top+1,0,none⟩),true),(6,AA (top+2) x.2,true),(7, .int .i64 (p2 x.1),true)],
 hp.Ac [(top,some (.cells true 0 (Aw.enc o))),(top+1,some (.cells true 0 (Qi.enc r))),(top+2,AD AB x.2)],top+3⟩
structure mi(j:Nat)(ws:Ec):Prop where
 one:1≤ws.length
 le:ws.length≤j+1
 jn:(Lib.join ws [32]).length≤1100 * ws.length
theorem mi.app {j:Nat}{ws:Ec}{w:List UInt8}(h:mi j ws)(hw:w.length≤1024):mi (j+1) (ws ++ [w]):=by
 refine ⟨by simp,by simp;exact h.le, ?_⟩
 rw [TG,if_neg (by have:=h.one;omega)]
 have:=h.jn
 simp only [List.length_append,List.length_cons,List.length_nil]
 omega
theorem ABM{w:List UInt8}(h:w.length≤6):mi 0 [w]:=by
 refine⟨by simp,by simp, ?_⟩
 have e:Lib.join [w] [32] = w:=by simp[Lib.join]
 rw[e];simp;omega
theorem mi.stay {j:Nat}{ws:Ec}(h:mi j ws):mi (j+1) ws:=⟨h.one,by have:=h.le;omega,h.jn⟩
theorem Up{b:List UInt8}(h:b.length≤512):(Pu b).length≤1024:=by
 unfold Pu
 split
 ·decide
 ·rw[EI];omega
theorem U6{o:A0}{F:Int}(h:CX o F=true)(h5:A3 F 16=true):o.Bytes.length≤512:=by
 simp only[CX,Bool.and_eq_true]at h
 have:=h.1.2
 simp only[m5,h5,if_true,Bool.not_eq_true',decide_eq_false_iff_not]at this
 omega
theorem Hm{n:Int}(h:Ev n):(Lib.itoa n).length≤1024:=by have:=Lib.itoa_length_le n h.1 h.2;omega
theorem AAp:Ag Tryz.prog 15 WI:=by
 refine .EK aE ?_ ?_
 ·rintro args hp h
  match args,h with
  | [_],⟨⟨x,rfl,_⟩,_⟩=>
   show plain 3 (mx (Yz (.agg ⟨Aw.enc x⟩)))=true
   unfold mx
   split <;> rfl
 intro args hp hpre top hcl hsc
 match args,hpre with
 | [_],⟨⟨o,rfl,hO⟩,hp1⟩=>
 have ht1:=hcl.lt _ _ hp1
 simp only [Ej]
 have hI:=Ut hO
 have hE:=Ej (x:=o)
 simp only [Az] at hI hE
 refine AJ.Af Am aE rfl 87 rfl [.tmp 2, .tmp 3] rfl (show 1≤87 by decide) ?_
 refine CW.vc Df [0,1,2,3,5,6,7,8,9,10,16,21,26,33,34,35,43,51,59,68,76] (by kernel_rfl) ?_
 (repeat ((try refine Vc.mk' ?_);simp (maxSteps:=6000000) only [go_sem,tX,Ko]))
 refine CW.Bc (lC hp top o) (fun i=>i≤12∧FG o.Kind BI=FG o.Kind (BI.drop i)) (fun i=>12 - i) 0 ⟨by decide,rfl⟩ ?_ ?_
 ·exact (by refine Al.mk' [top] hcl (by simp) (by simp) rfl (AF ?_) ?_ ?_ <;> simp [Az,K4])
 ·rintro i ⟨hi,hf⟩
  by_cases hlt:i < 12
  ·have l1:((i:Int) < 12):=by omega
   have kk:Ad .i64 ((i:Int)+1)=((i+1:Nat):Int):=Ae hlt (by omega)
   have hix:=XI hlt
   have hrl:=qD hlt
   rw [Ye hlt] at hf
   generalize hr:at' BI i=r at hf hix hrl
   by_cases c:r.kind=o.Kind
   ·rw [if_pos c] at hf
    cases hm:CX o r.fields with
    |false=>
     have e:Ik o=none:=by unfold Ik;rw [hf];dsimp only;rw [if_neg (by rw [hm];simp)]
     rw [W0 e]
     refine CW.vc Df [0,1,2,3,5,6,7,8,9,10,16,21,26,33,34,35,43,51,59,68,76] (by kernel_rfl) ?_
     (repeat ((try refine Vc.mk' ?_);simp (maxSteps:=6000000) only [go_sem,lC,l1,hlt,hix,Bb,Az,c,decide_true,ft,GF,hI,hE,hm]))
     try rfl
    |true=>
     have e:Ik o=some (Lib.join (B8 r.fields o 6 0 [r.word]) [32]):=by unfold Ik;rw [hf];dsimp only;rw [if_pos hm]
     rw [W1 e]
     refine CW.vc Df [0,1,2,3,5,6,7,8,9,10,16,21,26,33,34,35,43,51,59,68,76] (by kernel_rfl) ?_
     (repeat ((try refine Vc.mk' ?_);simp (maxSteps:=6000000) only [go_sem,lC,l1,hlt,hix,Bb,Az,c,decide_true,ft,GF,hI,hE,hm]))
     refine CW.Bc (NY hp top o r) (fun x=>x.1≤6∧mi x.1 x.2∧B8 r.fields o (6 - x.1) x.1 x.2=B8 r.fields o 6 0 [r.word]) (fun x=>6 - x.1) (0, [r.word]) ⟨Nat.zero_le _,ABM hrl,rfl⟩ ?_ ?_
     ·exact (by refine Al.mk' [top,top+1,top+2] hcl (by simp) (by simp) rfl (AF ?_) ?_ ?_ <;> simp [Az,Bb,p2,c,AA,AD,B6.flat,dU,show AB.size=1 from rfl])
     ·rintro ⟨j,ws⟩ ⟨hj,hW,hrun⟩
      have hap:∀ {h':Hp} {q t:Nat} {x:List UInt8},h' (top+2)=AD AB ws→h' q=some (.cells true 1 [.string ⟨⟨x⟩⟩])→AK tt.get h' t [67,67] (AA (top+2) ws) (.slice (some ⟨q,0,none⟩) 1 1)=some (AA t (ws ++ [x]),Bu (top+2) ws t (AD AB (ws ++ [x])),t+1):=fun {h'} {q} {t} {x} a1 a2=>by
       have e3:cellsOf (h' q)=AB.enc x:=by rw [a2];rfl
       have:=GU (hp:=h') (b:=top+2) (top:=t) (k:=q) a1 (by rw [e3];exact a2) (by rw [e3,AB.h]) (CO (by have h1:ws.length≤j+1:=hW.le;have h2:j≤6:=hj;omega) (by decide))
       rwa [e3,AB.h] at this
      have hcase:j=0∨j=1∨j=2∨j=3∨j=4∨j=5∨j=6:=by have:j≤6:=hj;omega
      rcases hcase with rfl | rfl | rfl | rfl | rfl | rfl | rfl
      ·-- Bg
       have sh:Ad .i64 ((1:Int) * Int.ofNat (Nat.pow 2 ((Int.toNat 1).min 64)))=2:=by decide
       cases hh:A3 r.fields 1 with
       |false=>
        have hb:DS .and .i64 r.fields 1=0:=by simpa [A3] using hh
        have hs1:B8 r.fields o (6 - 0) 0 ws=B8 r.fields o (6 - 1) 1 ws:=by show B8 r.fields o (6 - 1) 1 (if A3 r.fields 1=true then _ else ws)=_;rw [if_neg (by rw [hh];simp)]
        refine CW.vc Df [0,1,2,3,5,6,7,8,9,10,16,21,26,33,34,35,43,51,59,68,76] (by kernel_rfl) ?_
        (repeat ((try refine Vc.mk' ?_);simp (maxSteps:=6000000) only [go_sem,NY,Az,Bb,p2,hb,decide_true,sh]))
        refine .mk (1,ws) ⟨Nat.le_of_ble_eq_true rfl,hW.stay,hs1.symm.trans hrun⟩ (by show 6 - 1 < 6 - 0;decide) ((by refine Al.mk' [top,top+1,top+2] hcl (by simp) (by simp) rfl (AF ?_) ?_ ?_ <;> simp [Az,Bb,p2,Av,Ai]))
       |true=>
        have hb:¬DS .and .i64 r.fields 1=0:=by simpa [A3] using hh
        have hs1:B8 r.fields o (6 - 0) 0 ws=B8 r.fields o (6 - 1) 1 (ws ++ [Bk 0 o]):=by show B8 r.fields o (6 - 1) 1 (if A3 r.fields 1=true then _ else ws)=_;rw [if_pos hh]
        have hi6:Ev o.Bg=True:=eq_true hO.r
        have hwl:(Bk 0 o).length≤1024:=Hm hO.r
        have hwj:Bk 0 o=Lib.itoa o.Bg:=rfl
        rw [hwj] at hs1 hwl
        have hap1:∀ {h':Hp} {q t:Nat},h' (top+2)=AD AB ws→h' q=some (.cells true 1 [.string ⟨⟨Lib.itoa o.Bg⟩⟩])→AK tt.get h' t [67,67] (AA (top+2) ws) (.slice (some ⟨q,0,none⟩) 1 1)=some (AA t (ws ++ [Lib.itoa o.Bg]),Bu (top+2) ws t (AD AB (ws ++ [Lib.itoa o.Bg])),t+1):=hap
        refine CW.vc Df [0,1,2,3,5,6,7,8,9,10,16,21,26,33,34,35,43,51,59,68,76] (by kernel_rfl) ?_
        (repeat ((try refine Vc.mk' ?_);simp (maxSteps:=6000000) only [go_sem,NY,Az,Bb,p2,hb,decide_false,sh,hp1,Bw ht1,Tx,Mc,hi6,hap1]))
        refine .mk (1,ws ++ [Lib.itoa o.Bg]) ⟨Nat.le_of_ble_eq_true rfl,hW.app hwl,hs1.symm.trans hrun⟩ (by show 6 - 1 < 6 - 0;decide) ((by refine Al.mk' [top,top+1,top+4] hcl (by simp) (by simp) rfl (AF ?_) ?_ ?_ <;> simp [Az,Bb,p2,Av,Ai]))
      ·-- DQ
       have sh:Ad .i64 ((2:Int) * Int.ofNat (Nat.pow 2 ((Int.toNat 1).min 64)))=4:=by decide
       cases hh:A3 r.fields 2 with
       |false=>
        have hb:DS .and .i64 r.fields 2=0:=by simpa [A3] using hh
        have hs1:B8 r.fields o (6 - 1) 1 ws=B8 r.fields o (6 - 2) 2 ws:=by show B8 r.fields o (6 - 2) 2 (if A3 r.fields 2=true then _ else ws)=_;rw [if_neg (by rw [hh];simp)]
        refine CW.vc Df [0,1,2,3,5,6,7,8,9,10,16,21,26,33,34,35,43,51,59,68,76] (by kernel_rfl) ?_
        (repeat ((try refine Vc.mk' ?_);simp (maxSteps:=6000000) only [go_sem,NY,Az,Bb,p2,hb,decide_true,sh]))
        refine .mk (2,ws) ⟨Nat.le_of_ble_eq_true rfl,hW.stay,hs1.symm.trans hrun⟩ (by show 6 - 2 < 6 - 1;decide) ((by refine Al.mk' [top,top+1,top+2] hcl (by simp) (by simp) rfl (AF ?_) ?_ ?_ <;> simp [Az,Bb,p2,Av,Ai]))
       |true=>
        have hb:¬DS .and .i64 r.fields 2=0:=by simpa [A3] using hh
        have hs1:B8 r.fields o (6 - 1) 1 ws=B8 r.fields o (6 - 2) 2 (ws ++ [Bk 1 o]):=by show B8 r.fields o (6 - 2) 2 (if A3 r.fields 2=true then _ else ws)=_;rw [if_pos hh]
        have hi6:Ev o.DQ=True:=eq_true hO.p
        have hwl:(Bk 1 o).length≤1024:=Hm hO.p
        have hwj:Bk 1 o=Lib.itoa o.DQ:=rfl
        rw [hwj] at hs1 hwl
        have hap1:∀ {h':Hp} {q t:Nat},h' (top+2)=AD AB ws→h' q=some (.cells true 1 [.string ⟨⟨Lib.itoa o.DQ⟩⟩])→AK tt.get h' t [67,67] (AA (top+2) ws) (.slice (some ⟨q,0,none⟩) 1 1)=some (AA t (ws ++ [Lib.itoa o.DQ]),Bu (top+2) ws t (AD AB (ws ++ [Lib.itoa o.DQ])),t+1):=hap
        refine CW.vc Df [0,1,2,3,5,6,7,8,9,10,16,21,26,33,34,35,43,51,59,68,76] (by kernel_rfl) ?_
        (repeat ((try refine Vc.mk' ?_);simp (maxSteps:=6000000) only [go_sem,NY,Az,Bb,p2,hb,decide_false,sh,hp1,Bw ht1,Tx,Mc,hi6,hap1]))
        refine .mk (2,ws ++ [Lib.itoa o.DQ]) ⟨Nat.le_of_ble_eq_true rfl,hW.app hwl,hs1.symm.trans hrun⟩ (by show 6 - 2 < 6 - 1;decide) ((by refine Al.mk' [top,top+1,top+4] hcl (by simp) (by simp) rfl (AF ?_) ?_ ?_ <;> simp [Az,Bb,p2,Av,Ai]))
      ·-- CH
       have sh:Ad .i64 ((4:Int) * Int.ofNat (Nat.pow 2 ((Int.toNat 1).min 64)))=8:=by decide
       cases hh:A3 r.fields 4 with
       |false=>
        have hb:DS .and .i64 r.fields 4=0:=by simpa [A3] using hh
        have hs1:B8 r.fields o (6 - 2) 2 ws=B8 r.fields o (6 - 3) 3 ws:=by show B8 r.fields o (6 - 3) 3 (if A3 r.fields 4=true then _ else ws)=_;rw [if_neg (by rw [hh];simp)]
        refine CW.vc Df [0,1,2,3,5,6,7,8,9,10,16,21,26,33,34,35,43,51,59,68,76] (by kernel_rfl) ?_
        (repeat ((try refine Vc.mk' ?_);simp (maxSteps:=6000000) only [go_sem,NY,Az,Bb,p2,hb,decide_true,sh]))
        refine .mk (3,ws) ⟨Nat.le_of_ble_eq_true rfl,hW.stay,hs1.symm.trans hrun⟩ (by show 6 - 3 < 6 - 2;decide) ((by refine Al.mk' [top,top+1,top+2] hcl (by simp) (by simp) rfl (AF ?_) ?_ ?_ <;> simp [Az,Bb,p2,Av,Ai]))
       |true=>
        have hb:¬DS .and .i64 r.fields 4=0:=by simpa [A3] using hh
        have hs1:B8 r.fields o (6 - 2) 2 ws=B8 r.fields o (6 - 3) 3 (ws ++ [Bk 2 o]):=by show B8 r.fields o (6 - 3) 3 (if A3 r.fields 4=true then _ else ws)=_;rw [if_pos hh]
        have hi6:Ev o.CH=True:=eq_true hO.g
        have hwl:(Bk 2 o).length≤1024:=Hm hO.g
        have hwj:Bk 2 o=Lib.itoa o.CH:=rfl
        rw [hwj] at hs1 hwl
        have hap1:∀ {h':Hp} {q t:Nat},h' (top+2)=AD AB ws→h' q=some (.cells true 1 [.string ⟨⟨Lib.itoa o.CH⟩⟩])→AK tt.get h' t [67,67] (AA (top+2) ws) (.slice (some ⟨q,0,none⟩) 1 1)=some (AA t (ws ++ [Lib.itoa o.CH]),Bu (top+2) ws t (AD AB (ws ++ [Lib.itoa o.CH])),t+1):=hap
        refine CW.vc Df [0,1,2,3,5,6,7,8,9,10,16,21,26,33,34,35,43,51,59,68,76] (by kernel_rfl) ?_
        (repeat ((try refine Vc.mk' ?_);simp (maxSteps:=6000000) only [go_sem,NY,Az,Bb,p2,hb,decide_false,sh,hp1,Bw ht1,Tx,Mc,hi6,hap1]))
        refine .mk (3,ws ++ [Lib.itoa o.CH]) ⟨Nat.le_of_ble_eq_true rfl,hW.app hwl,hs1.symm.trans hrun⟩ (by show 6 - 3 < 6 - 2;decide) ((by refine Al.mk' [top,top+1,top+4] hcl (by simp) (by simp) rfl (AF ?_) ?_ ?_ <;> simp [Az,Bb,p2,Av,Ai]))
      ·-- Be
       have sh:Ad .i64 ((8:Int) * Int.ofNat (Nat.pow 2 ((Int.toNat 1).min 64)))=16:=by decide
       cases hh:A3 r.fields 8 with
       |false=>
        have hb:DS .and .i64 r.fields 8=0:=by simpa [A3] using hh
        have hs1:B8 r.fields o (6 - 3) 3 ws=B8 r.fields o (6 - 4) 4 ws:=by show B8 r.fields o (6 - 4) 4 (if A3 r.fields 8=true then _ else ws)=_;rw [if_neg (by rw [hh];simp)]
        refine CW.vc Df [0,1,2,3,5,6,7,8,9,10,16,21,26,33,34,35,43,51,59,68,76] (by kernel_rfl) ?_
        (repeat ((try refine Vc.mk' ?_);simp (maxSteps:=6000000) only [go_sem,NY,Az,Bb,p2,hb,decide_true,sh]))
        refine .mk (4,ws) ⟨Nat.le_of_ble_eq_true rfl,hW.stay,hs1.symm.trans hrun⟩ (by show 6 - 4 < 6 - 3;decide) ((by refine Al.mk' [top,top+1,top+2] hcl (by simp) (by simp) rfl (AF ?_) ?_ ?_ <;> simp [Az,Bb,p2,Av,Ai]))
       |true=>
        have hb:¬DS .and .i64 r.fields 8=0:=by simpa [A3] using hh
        have hs1:B8 r.fields o (6 - 3) 3 ws=B8 r.fields o (6 - 4) 4 (ws ++ [Bk 3 o]):=by show B8 r.fields o (6 - 4) 4 (if A3 r.fields 8=true then _ else ws)=_;rw [if_pos hh]
        have hu0:=hO.e0
        have hu1:=hO.e1
        have hU:U64 o.Be=True:=eq_true ⟨hu0,by omega⟩
        have hwr:=xK hu0 hu1
        have hwl:(Bk 3 o).length≤1024:=Hm ⟨by omega,by omega⟩
        have hwj:Bk 3 o=Lib.itoa o.Be:=rfl
        rw [hwj] at hs1 hwl
        have hap1:∀ {h':Hp} {q t:Nat},h' (top+2)=AD AB ws→h' q=some (.cells true 1 [.string ⟨⟨Lib.itoa o.Be⟩⟩])→AK tt.get h' t [67,67] (AA (top+2) ws) (.slice (some ⟨q,0,none⟩) 1 1)=some (AA t (ws ++ [Lib.itoa o.Be]),Bu (top+2) ws t (AD AB (ws ++ [Lib.itoa o.Be])),t+1):=hap
        refine CW.vc Df [0,1,2,3,5,6,7,8,9,10,16,21,26,33,34,35,43,51,59,68,76] (by kernel_rfl) ?_
        (repeat ((try refine Vc.mk' ?_);simp (maxSteps:=6000000) only [go_sem,NY,Az,Bb,p2,hb,decide_false,sh,hp1,Bw ht1,tU,UI,hU,hwr,zt,hap1]))
        refine .mk (4,ws ++ [Lib.itoa o.Be]) ⟨Nat.le_of_ble_eq_true rfl,hW.app hwl,hs1.symm.trans hrun⟩ (by show 6 - 4 < 6 - 3;decide) ((by refine Al.mk' [top,top+1,top+4] hcl (by simp) (by simp) rfl (AF ?_) ?_ ?_ <;> simp [Az,Bb,p2,Av,Ai]))
      ·-- Bytes
       have sh:Ad .i64 ((16:Int) * Int.ofNat (Nat.pow 2 ((Int.toNat 1).min 64)))=32:=by decide
       cases hh:A3 r.fields 16 with
       |false=>
        have hb:DS .and .i64 r.fields 16=0:=by simpa [A3] using hh
        have hs1:B8 r.fields o (6 - 4) 4 ws=B8 r.fields o (6 - 5) 5 ws:=by show B8 r.fields o (6 - 5) 5 (if A3 r.fields 16=true then _ else ws)=_;rw [if_neg (by rw [hh];simp)]
        refine CW.vc Df [0,1,2,3,5,6,7,8,9,10,16,21,26,33,34,35,43,51,59,68,76] (by kernel_rfl) ?_
        (repeat ((try refine Vc.mk' ?_);simp (maxSteps:=6000000) only [go_sem,NY,Az,Bb,p2,hb,decide_true,sh]))
        refine .mk (5,ws) ⟨Nat.le_of_ble_eq_true rfl,hW.stay,hs1.symm.trans hrun⟩ (by show 6 - 5 < 6 - 4;decide) ((by refine Al.mk' [top,top+1,top+2] hcl (by simp) (by simp) rfl (AF ?_) ?_ ?_ <;> simp [Az,Bb,p2,Av,Ai]))
       |true=>
        have hb:¬DS .and .i64 r.fields 16=0:=by simpa [A3] using hh
        have hs1:B8 r.fields o (6 - 4) 4 ws=B8 r.fields o (6 - 5) 5 (ws ++ [Bk 4 o]):=by show B8 r.fields o (6 - 5) 5 (if A3 r.fields 16=true then _ else ws)=_;rw [if_pos hh]
        have hbl:=U6 hm hh
        have hwl:(Bk 4 o).length≤1024:=Up hbl
        have hwj:Bk 4 o=Pu o.Bytes:=rfl
        rw [hwj] at hs1 hwl
        have hap1:∀ {h':Hp} {q t:Nat},h' (top+2)=AD AB ws→h' q=some (.cells true 1 [.string ⟨⟨Pu o.Bytes⟩⟩])→AK tt.get h' t [67,67] (AA (top+2) ws) (.slice (some ⟨q,0,none⟩) 1 1)=some (AA t (ws ++ [Pu o.Bytes]),Bu (top+2) ws t (AD AB (ws ++ [Pu o.Bytes])),t+1):=hap
        refine CW.vc Df [0,1,2,3,5,6,7,8,9,10,16,21,26,33,34,35,43,51,59,68,76] (by kernel_rfl) ?_
        (repeat ((try refine Vc.mk' ?_);simp (maxSteps:=6000000) only [go_sem,NY,Az,Bb,p2,hb,decide_false,sh,tV,Zw,hbl,hap1]))
        refine .mk (5,ws ++ [Pu o.Bytes]) ⟨Nat.le_of_ble_eq_true rfl,hW.app hwl,hs1.symm.trans hrun⟩ (by show 6 - 5 < 6 - 4;decide) ((by refine Al.mk' [top,top+1,top+4] hcl (by simp) (by simp) rfl (AF ?_) ?_ ?_ <;> simp [Az,Bb,p2,Av,Ai]))
      ·-- Cj
       have sh:Ad .i64 ((32:Int) * Int.ofNat (Nat.pow 2 ((Int.toNat 1).min 64)))=64:=by decide
       cases hh:A3 r.fields 32 with
       |false=>
        have hb:DS .and .i64 r.fields 32=0:=by simpa [A3] using hh
        have hs1:B8 r.fields o (6 - 5) 5 ws=B8 r.fields o (6 - 6) 6 ws:=by show B8 r.fields o (6 - 6) 6 (if A3 r.fields 32=true then _ else ws)=_;rw [if_neg (by rw [hh];simp)]
        refine CW.vc Df [0,1,2,3,5,6,7,8,9,10,16,21,26,33,34,35,43,51,59,68,76] (by kernel_rfl) ?_
        (repeat ((try refine Vc.mk' ?_);simp (maxSteps:=6000000) only [go_sem,NY,Az,Bb,p2,hb,decide_true,sh]))
        refine .mk (6,ws) ⟨Nat.le_of_ble_eq_true rfl,hW.stay,hs1.symm.trans hrun⟩ (by show 6 - 6 < 6 - 5;decide) ((by refine Al.mk' [top,top+1,top+2] hcl (by simp) (by simp) rfl (AF ?_) ?_ ?_ <;> simp [Az,Bb,p2,Av,Ai]))
       |true=>
        have hb:¬DS .and .i64 r.fields 32=0:=by simpa [A3] using hh
        have hs1:B8 r.fields o (6 - 5) 5 ws=B8 r.fields o (6 - 6) 6 (ws ++ [Bk 5 o]):=by show B8 r.fields o (6 - 6) 6 (if A3 r.fields 32=true then _ else ws)=_;rw [if_pos hh]
        have hi6:Ev o.Cj=True:=eq_true hO.t
        have hwl:(Bk 5 o).length≤1024:=Hm hO.t
        have hwj:Bk 5 o=Lib.itoa o.Cj:=rfl
        rw [hwj] at hs1 hwl
        have hap1:∀ {h':Hp} {q t:Nat},h' (top+2)=AD AB ws→h' q=some (.cells true 1 [.string ⟨⟨Lib.itoa o.Cj⟩⟩])→AK tt.get h' t [67,67] (AA (top+2) ws) (.slice (some ⟨q,0,none⟩) 1 1)=some (AA t (ws ++ [Lib.itoa o.Cj]),Bu (top+2) ws t (AD AB (ws ++ [Lib.itoa o.Cj])),t+1):=hap
        refine CW.vc Df [0,1,2,3,5,6,7,8,9,10,16,21,26,33,34,35,43,51,59,68,76] (by kernel_rfl) ?_
        (repeat ((try refine Vc.mk' ?_);simp (maxSteps:=6000000) only [go_sem,NY,Az,Bb,p2,hb,decide_false,sh,hp1,Bw ht1,Tx,Mc,hi6,hap1]))
        refine .mk (6,ws ++ [Lib.itoa o.Cj]) ⟨Nat.le_of_ble_eq_true rfl,hW.app hwl,hs1.symm.trans hrun⟩ (by show 6 - 6 < 6 - 5;decide) ((by refine Al.mk' [top,top+1,top+4] hcl (by simp) (by simp) rfl (AF ?_) ?_ ?_ <;> simp [Az,Bb,p2,Av,Ai]))
      ·have hrun':ws=B8 r.fields o 6 0 [r.word]:=hrun
       rw [←hrun']
       have hj1:(Lib.join ws [32]).length≤1100 * ws.length:=hW.jn
       have hl1:ws.length≤6+1:=hW.le
       have j1:∀ {h':Hp},h' (top+2)=AD AB ws→Dy AB h' (AA (top+2) ws)=True:=fun e=>sx e (by omega)
       have j2:∀ {h':Hp},h' (top+2)=AD AB ws→AB.rd h' (AA (top+2) ws)=ws:=fun e=>KV e (by omega)
       have j3:(ws.length≤140737488355328)=True:=eq_true (by omega)
       have j4:((Lib.join ws [32]).length≤140737488355328)=True:=eq_true (by omega)
       refine CW.vc Df [0,1,2,3,5,6,7,8,9,10,16,21,26,33,34,35,43,51,59,68,76] (by kernel_rfl) ?_
       (repeat ((try refine Vc.mk' ?_);simp (maxSteps:=6000000) only [go_sem,NY,Az,Bb,p2,tW,Ph,j1,j2,j3,j4]))
   ·rw [if_neg c] at hf
    refine CW.vc Df [0,1,2,3,5,6,7,8,9,10,16,21,26,33,34,35,43,51,59,68,76] (by kernel_rfl) ?_
    (repeat ((try refine Vc.mk' ?_);simp (maxSteps:=6000000) only [go_sem,lC,l1,hlt,hix,Bb,Az,c,decide_false,kk]))
    refine .mk (i+1) ⟨hlt,hf⟩ (by omega) ((by refine Al.mk' [top] hcl (by simp) (by simp) rfl (AF ?_) ?_ ?_ <;> simp [Az,K4]))
  ·have hi2:i=12:=by omega
   subst hi2
   have e:Ik o=none:=by
    have:FG o.Kind BI=none:=by rw [hf];rfl
    unfold Ik;rw [this]
   rw [W0 e]
   refine CW.vc Df [0,1,2,3,5,6,7,8,9,10,16,21,26,33,34,35,43,51,59,68,76] (by kernel_rfl) ?_
   (repeat ((try refine Vc.mk' ?_);simp (maxSteps:=6000000) only [go_sem,lC,show decide (((12:Nat):Int) < 12)=false from rfl]))
   try rfl
end Go.Proofs.YthlhnangbinhoaaGreatDoor.Dm
