/- The line of an op, as the code writes it. -/
import Derived.Test.YthlhnangbinhoaaGreatDoorSH
set_option linter.unusedSimpArgs false
set_option linter.unusedVariables false
namespace Go.Proofs.YthlhnangbinhoaaGreatDoor.Dm
open Go.Dm
set_option maxHeartbeats 16000000
set_option maxRecDepth 20000
def DY (j:Nat)(o:Aq):List UInt8:=match j with
 |0=>Lib.itoa o.Bl
 |1=>Lib.itoa o.Dg
 |2=>Lib.itoa o.CF
 |3=>Lib.itoa o.BS
 |4=>YW o.Bytes
 |_=>Lib.itoa o.CB
def DN (F:Int)(o:Aq):Nat→Nat→Ld→Ld
 |0,_,ws=>ws
 |n+1,j,ws=>DN F o n (j+1) (if Au F (p2 j)=true then ws ++ [DY j o] else ws)
def Ib (k:Int):List GI→Option GI
 | []=>none
 |r :: l=>if r.kind=k then some r else Ib k l
def LH (o:Aq):Option (List UInt8):=match Ib o.Kind B6 with
 |some r=>if Dr o r.fields=true then some (Lib.join (DN r.fields o 6 0 [r.word]) [32]) else none
 |none=>none
theorem Yd {k:Int}{i:Nat}(h:i < 12):Ib k (B6.drop i)=if (at' B6 i).kind=k then some (at' B6 i) else Ib k (B6.drop (i+1)):=by
 rw [QK (l:=B6) (k:=i) h];rfl
def ig (o:Aq):Value:=match LH o with
 |some s=> .tuple ⟨[.string ⟨⟨s⟩⟩, .int .i64 0]⟩
 |none=> .tuple ⟨[.string ⟨⟨[]⟩⟩, .int .i64 2]⟩
theorem bI {o:Aq}{s:List UInt8}(h:LH o=some s):ig o= .tuple ⟨[.string ⟨⟨s⟩⟩, .int .i64 0]⟩:=by unfold ig;rw [h]
theorem jv {o:Aq}(h:LH o=none):ig o= .tuple ⟨[.string ⟨⟨[]⟩⟩, .int .i64 2]⟩:=by unfold ig;rw [h]
def Hj:Bz:= .pure (fun args hp=>match args with | [v]=>ZT v∧hp 1=some Sm | _=>False) (fun args _=>match args with | [v]=>ig (QG v) | _=>undef)
theorem pY {i:Nat}(h:i < 12):(at' B6 i).word.length≤6:=by
 have:∀i:Fin 12,(at' B6 i.val).word.length≤6:=by decide
 exact this ⟨i,h⟩
theorem xc {n:Int}(h0:0≤n)(h1:n < 4294967296):Ar .u64 n=n:=wrap_u64 h0 (by omega)
theorem AAd {hp:Hp}{x:Value}:DJ tt.get hp 41 106 x=(.int .u64 (Ar .u64 (intOf x)),Sf x):=ZG RO Xc
def YP:FuncId→Bz:=Cx (Cx vJ 16 Ik) 45 .none
theorem EN:DU Tryz.prog tt.get YP:=(HE.add uH).add trivial
theorem vA:YP 40=MS:=rfl
theorem jZ:YP 41=Fm:=rfl
theorem UR:YP 26=Ns:=rfl
theorem vG:YP 42=Vq:=rfl
theorem vf:YP 43=aY:=rfl
theorem uJ:YP 44=QT:=rfl
def jE (hp:Hp)(top:Nat)(o:Aq)(i:Nat):SS:=⟨[(1, .pointer (some ⟨top,0,none⟩),true),(8, .agg ⟨RX⟩,true),(9, .int .i64 (i:Int),true)],hp.A6 [(top,some (.cells true 0 (A7.enc o)))],top+1⟩
def Nb (hp:Hp)(top:Nat)(o:Aq)(r:GI)(x:Nat×Ld):SS:=⟨[(1, .pointer (some ⟨top,0,none⟩),true),(5, .pointer (some ⟨top+1,0,none⟩),true),(6,AA (top+2) x.2,true),(7, .int .i64 (p2 x.1),true)],
 hp.A6 [(top,some (.cells true 0 (A7.enc o))),(top+1,some (.cells true 0 (RM.enc r))),(top+2,AE AH x.2)],top+3⟩
structure nM (j:Nat) (ws:Ld):Prop where
 one:1≤ws.length
 le:ws.length≤j+1
 jn:(Lib.join ws [32]).length≤1100 * ws.length
theorem nM.app {j:Nat}{ws:Ld}{w:List UInt8}(h:nM j ws)(hw:w.length≤1024):nM (j+1) (ws ++ [w]):=by
 refine ⟨by simp,by simp;exact h.le, ?_⟩
 rw [PN,if_neg (by have:=h.one;omega)]
 have:=h.jn
 simp only [List.length_append,List.length_cons,List.length_nil]
 omega
theorem AAb {w:List UInt8}(h:w.length≤6):nM 0 [w]:=by
 refine ⟨by simp,by simp, ?_⟩
 have e:Lib.join [w] [32] = w:=by simp [Lib.join]
 rw [e];simp;omega
theorem nM.stay {j:Nat}{ws:Ld}(h:nM j ws):nM (j+1) ws:=⟨h.one,by have:=h.le;omega,h.jn⟩
theorem bC {b:List UInt8}(h:b.length≤512):(YW b).length≤1024:=by
 unfold YW
 split
 ·decide
 ·rw [KB];omega
theorem fJ {o:Aq}{F:Int}(h:Dr o F=true)(h5:Au F 16=true):o.Bytes.length≤512:=by
 simp only [Dr,Bool.and_eq_true] at h
 have:=h.1.2
 simp only [m5,h5,if_true,Bool.not_eq_true',decide_eq_false_iff_not] at this
 omega
theorem JZ {n:Int}(h:IE n):(Lib.itoa n).length≤1024:=by have:=Lib.itoa_length_le n h.1 h.2;omega
theorem yp:BR Tryz.prog 15 Hj:=by
 refine .LN V4 ?_ ?_
 ·rintro args hp h
  match args,h with
  | [_],⟨⟨x,rfl,_⟩,_⟩=>
   show plain 3 (ig (QG (.agg ⟨A7.enc x⟩)))=true
   unfold ig
   split <;> rfl
 intro args hp hpre top hcl hsc
 match args,hpre with
 | [_],⟨⟨o,rfl,hO⟩,hp1⟩=>
 have ht1:=hcl.lt _ _ hp1
 simp only [E8]
 have hI:=Vy hO
 have hE:=E8 (x:=o)
 simp only [Aw] at hI hE
 refine Ae.Bn Bu V4 rfl 87 rfl [.tmp 2, .tmp 3] rfl (show 1≤87 by decide) ?_
 refine CW.vc EN [0,1,2,3,5,6,7,8,9,10,16,21,26,33,34,35,43,51,59,68,76] (by kernel_rfl) ?_
 (repeat ((try refine Vc.mk' ?_);simp (maxSteps:=6000000) only [go_sem,vA,MS]))
 refine CW.D9 (jE hp top o) (fun i=>i≤12∧Ib o.Kind B6=Ib o.Kind (B6.drop i)) (fun i=>12 - i) 0 ⟨by decide,rfl⟩ ?_ ?_
 ·exact (by refine Bj.mk' [top] hcl (by simp) (by simp) rfl (Ac ?_) ?_ ?_ <;> simp [Aw,MU])
 ·rintro i ⟨hi,hf⟩
  by_cases hlt:i < 12
  ·have l1:((i:Int) < 12):=by omega
   have kk:Ar .i64 ((i:Int)+1)=((i+1:Nat):Int):=B0 hlt (by omega)
   have hix:=Wo hlt
   have hrl:=pY hlt
   rw [Yd hlt] at hf
   generalize hr:at' B6 i=r at hf hix hrl
   by_cases c:r.kind=o.Kind
   ·rw [if_pos c] at hf
    cases hm:Dr o r.fields with
    |false=>
     have e:LH o=none:=by unfold LH;rw [hf];dsimp only;rw [if_neg (by rw [hm];simp)]
     rw [jv e]
     refine CW.vc EN [0,1,2,3,5,6,7,8,9,10,16,21,26,33,34,35,43,51,59,68,76] (by kernel_rfl) ?_
     (repeat ((try refine Vc.mk' ?_);simp (maxSteps:=6000000) only [go_sem,jE,l1,hlt,hix,Ay,Aw,c,decide_true,jZ,Fm,hI,hE,hm]))
     try rfl
    |true=>
     have e:LH o=some (Lib.join (DN r.fields o 6 0 [r.word]) [32]):=by unfold LH;rw [hf];dsimp only;rw [if_pos hm]
     rw [bI e]
     refine CW.vc EN [0,1,2,3,5,6,7,8,9,10,16,21,26,33,34,35,43,51,59,68,76] (by kernel_rfl) ?_
     (repeat ((try refine Vc.mk' ?_);simp (maxSteps:=6000000) only [go_sem,jE,l1,hlt,hix,Ay,Aw,c,decide_true,jZ,Fm,hI,hE,hm]))
     refine CW.D9 (Nb hp top o r) (fun x=>x.1≤6∧nM x.1 x.2∧DN r.fields o (6 - x.1) x.1 x.2=DN r.fields o 6 0 [r.word]) (fun x=>6 - x.1) (0, [r.word]) ⟨Nat.zero_le _,AAb hrl,rfl⟩ ?_ ?_
     ·exact (by refine Bj.mk' [top,top+1,top+2] hcl (by simp) (by simp) rfl (Ac ?_) ?_ ?_ <;> simp [Aw,Ay,p2,c,AA,AE,B9.flat,cn,show AH.size=1 from rfl])
     ·rintro ⟨j,ws⟩ ⟨hj,hW,hrun⟩
      have hap:∀ {h':Hp} {q t:Nat} {x:List UInt8},h' (top+2)=AE AH ws→h' q=some (.cells true 1 [.string ⟨⟨x⟩⟩])→AR tt.get h' t [67,67] (AA (top+2) ws) (.slice (some ⟨q,0,none⟩) 1 1)=some (AA t (ws ++ [x]),Ck (top+2) ws t (AE AH (ws ++ [x])),t+1):=fun {h'} {q} {t} {x} a1 a2=>by
       have e3:cellsOf (h' q)=AH.enc x:=by rw [a2];rfl
       have:=WO (hp:=h') (b:=top+2) (top:=t) (k:=q) a1 (by rw [e3];exact a2) (by rw [e3,AH.h]) (Dc (by have h1:ws.length≤j+1:=hW.le;have h2:j≤6:=hj;omega) (by decide))
       rwa [e3,AH.h] at this
      have hcase:j=0∨j=1∨j=2∨j=3∨j=4∨j=5∨j=6:=by have:j≤6:=hj;omega
      rcases hcase with rfl | rfl | rfl | rfl | rfl | rfl | rfl
      ·-- Bl
       have sh:Ar .i64 ((1:Int) * Int.ofNat (Nat.pow 2 ((Int.toNat 1).min 64)))=2:=by decide
       cases hh:Au r.fields 1 with
       |false=>
        have hb:Cu .and .i64 r.fields 1=0:=by simpa [Au] using hh
        have hs1:DN r.fields o (6 - 0) 0 ws=DN r.fields o (6 - 1) 1 ws:=by show DN r.fields o (6 - 1) 1 (if Au r.fields 1=true then _ else ws)=_;rw [if_neg (by rw [hh];simp)]
        refine CW.vc EN [0,1,2,3,5,6,7,8,9,10,16,21,26,33,34,35,43,51,59,68,76] (by kernel_rfl) ?_
        (repeat ((try refine Vc.mk' ?_);simp (maxSteps:=6000000) only [go_sem,Nb,Aw,Ay,p2,hb,decide_true,sh]))
        refine .mk (1,ws) ⟨Nat.le_of_ble_eq_true rfl,hW.stay,hs1.symm.trans hrun⟩ (by show 6 - 1 < 6 - 0;decide) ((by refine Bj.mk' [top,top+1,top+2] hcl (by simp) (by simp) rfl (Ac ?_) ?_ ?_ <;> simp [Aw,Ay,p2,Al,B9.Dd,Aa]))
       |true=>
        have hb:¬Cu .and .i64 r.fields 1=0:=by simpa [Au] using hh
        have hs1:DN r.fields o (6 - 0) 0 ws=DN r.fields o (6 - 1) 1 (ws ++ [DY 0 o]):=by show DN r.fields o (6 - 1) 1 (if Au r.fields 1=true then _ else ws)=_;rw [if_pos hh]
        have hi6:IE o.Bl=True:=eq_true hO.r
        have hwl:(DY 0 o).length≤1024:=JZ hO.r
        have hwj:DY 0 o=Lib.itoa o.Bl:=rfl
        rw [hwj] at hs1 hwl
        have hap1:∀ {h':Hp} {q t:Nat},h' (top+2)=AE AH ws→h' q=some (.cells true 1 [.string ⟨⟨Lib.itoa o.Bl⟩⟩])→AR tt.get h' t [67,67] (AA (top+2) ws) (.slice (some ⟨q,0,none⟩) 1 1)=some (AA t (ws ++ [Lib.itoa o.Bl]),Ck (top+2) ws t (AE AH (ws ++ [Lib.itoa o.Bl])),t+1):=hap
        refine CW.vc EN [0,1,2,3,5,6,7,8,9,10,16,21,26,33,34,35,43,51,59,68,76] (by kernel_rfl) ?_
        (repeat ((try refine Vc.mk' ?_);simp (maxSteps:=6000000) only [go_sem,Nb,Aw,Ay,p2,hb,decide_false,sh,hp1,AG ht1,UR,Ns,hi6,hap1]))
        refine .mk (1,ws ++ [Lib.itoa o.Bl]) ⟨Nat.le_of_ble_eq_true rfl,hW.app hwl,hs1.symm.trans hrun⟩ (by show 6 - 1 < 6 - 0;decide) ((by refine Bj.mk' [top,top+1,top+4] hcl (by simp) (by simp) rfl (Ac ?_) ?_ ?_ <;> simp [Aw,Ay,p2,Al,B9.Dd,Aa]))
      ·-- Dg
       have sh:Ar .i64 ((2:Int) * Int.ofNat (Nat.pow 2 ((Int.toNat 1).min 64)))=4:=by decide
       cases hh:Au r.fields 2 with
       |false=>
        have hb:Cu .and .i64 r.fields 2=0:=by simpa [Au] using hh
        have hs1:DN r.fields o (6 - 1) 1 ws=DN r.fields o (6 - 2) 2 ws:=by show DN r.fields o (6 - 2) 2 (if Au r.fields 2=true then _ else ws)=_;rw [if_neg (by rw [hh];simp)]
        refine CW.vc EN [0,1,2,3,5,6,7,8,9,10,16,21,26,33,34,35,43,51,59,68,76] (by kernel_rfl) ?_
        (repeat ((try refine Vc.mk' ?_);simp (maxSteps:=6000000) only [go_sem,Nb,Aw,Ay,p2,hb,decide_true,sh]))
        refine .mk (2,ws) ⟨Nat.le_of_ble_eq_true rfl,hW.stay,hs1.symm.trans hrun⟩ (by show 6 - 2 < 6 - 1;decide) ((by refine Bj.mk' [top,top+1,top+2] hcl (by simp) (by simp) rfl (Ac ?_) ?_ ?_ <;> simp [Aw,Ay,p2,Al,B9.Dd,Aa]))
       |true=>
        have hb:¬Cu .and .i64 r.fields 2=0:=by simpa [Au] using hh
        have hs1:DN r.fields o (6 - 1) 1 ws=DN r.fields o (6 - 2) 2 (ws ++ [DY 1 o]):=by show DN r.fields o (6 - 2) 2 (if Au r.fields 2=true then _ else ws)=_;rw [if_pos hh]
        have hi6:IE o.Dg=True:=eq_true hO.p
        have hwl:(DY 1 o).length≤1024:=JZ hO.p
        have hwj:DY 1 o=Lib.itoa o.Dg:=rfl
        rw [hwj] at hs1 hwl
        have hap1:∀ {h':Hp} {q t:Nat},h' (top+2)=AE AH ws→h' q=some (.cells true 1 [.string ⟨⟨Lib.itoa o.Dg⟩⟩])→AR tt.get h' t [67,67] (AA (top+2) ws) (.slice (some ⟨q,0,none⟩) 1 1)=some (AA t (ws ++ [Lib.itoa o.Dg]),Ck (top+2) ws t (AE AH (ws ++ [Lib.itoa o.Dg])),t+1):=hap
        refine CW.vc EN [0,1,2,3,5,6,7,8,9,10,16,21,26,33,34,35,43,51,59,68,76] (by kernel_rfl) ?_
        (repeat ((try refine Vc.mk' ?_);simp (maxSteps:=6000000) only [go_sem,Nb,Aw,Ay,p2,hb,decide_false,sh,hp1,AG ht1,UR,Ns,hi6,hap1]))
        refine .mk (2,ws ++ [Lib.itoa o.Dg]) ⟨Nat.le_of_ble_eq_true rfl,hW.app hwl,hs1.symm.trans hrun⟩ (by show 6 - 2 < 6 - 1;decide) ((by refine Bj.mk' [top,top+1,top+4] hcl (by simp) (by simp) rfl (Ac ?_) ?_ ?_ <;> simp [Aw,Ay,p2,Al,B9.Dd,Aa]))
      ·-- CF
       have sh:Ar .i64 ((4:Int) * Int.ofNat (Nat.pow 2 ((Int.toNat 1).min 64)))=8:=by decide
       cases hh:Au r.fields 4 with
       |false=>
        have hb:Cu .and .i64 r.fields 4=0:=by simpa [Au] using hh
        have hs1:DN r.fields o (6 - 2) 2 ws=DN r.fields o (6 - 3) 3 ws:=by show DN r.fields o (6 - 3) 3 (if Au r.fields 4=true then _ else ws)=_;rw [if_neg (by rw [hh];simp)]
        refine CW.vc EN [0,1,2,3,5,6,7,8,9,10,16,21,26,33,34,35,43,51,59,68,76] (by kernel_rfl) ?_
        (repeat ((try refine Vc.mk' ?_);simp (maxSteps:=6000000) only [go_sem,Nb,Aw,Ay,p2,hb,decide_true,sh]))
        refine .mk (3,ws) ⟨Nat.le_of_ble_eq_true rfl,hW.stay,hs1.symm.trans hrun⟩ (by show 6 - 3 < 6 - 2;decide) ((by refine Bj.mk' [top,top+1,top+2] hcl (by simp) (by simp) rfl (Ac ?_) ?_ ?_ <;> simp [Aw,Ay,p2,Al,B9.Dd,Aa]))
       |true=>
        have hb:¬Cu .and .i64 r.fields 4=0:=by simpa [Au] using hh
        have hs1:DN r.fields o (6 - 2) 2 ws=DN r.fields o (6 - 3) 3 (ws ++ [DY 2 o]):=by show DN r.fields o (6 - 3) 3 (if Au r.fields 4=true then _ else ws)=_;rw [if_pos hh]
        have hi6:IE o.CF=True:=eq_true hO.g
        have hwl:(DY 2 o).length≤1024:=JZ hO.g
        have hwj:DY 2 o=Lib.itoa o.CF:=rfl
        rw [hwj] at hs1 hwl
        have hap1:∀ {h':Hp} {q t:Nat},h' (top+2)=AE AH ws→h' q=some (.cells true 1 [.string ⟨⟨Lib.itoa o.CF⟩⟩])→AR tt.get h' t [67,67] (AA (top+2) ws) (.slice (some ⟨q,0,none⟩) 1 1)=some (AA t (ws ++ [Lib.itoa o.CF]),Ck (top+2) ws t (AE AH (ws ++ [Lib.itoa o.CF])),t+1):=hap
        refine CW.vc EN [0,1,2,3,5,6,7,8,9,10,16,21,26,33,34,35,43,51,59,68,76] (by kernel_rfl) ?_
        (repeat ((try refine Vc.mk' ?_);simp (maxSteps:=6000000) only [go_sem,Nb,Aw,Ay,p2,hb,decide_false,sh,hp1,AG ht1,UR,Ns,hi6,hap1]))
        refine .mk (3,ws ++ [Lib.itoa o.CF]) ⟨Nat.le_of_ble_eq_true rfl,hW.app hwl,hs1.symm.trans hrun⟩ (by show 6 - 3 < 6 - 2;decide) ((by refine Bj.mk' [top,top+1,top+4] hcl (by simp) (by simp) rfl (Ac ?_) ?_ ?_ <;> simp [Aw,Ay,p2,Al,B9.Dd,Aa]))
      ·-- BS
       have sh:Ar .i64 ((8:Int) * Int.ofNat (Nat.pow 2 ((Int.toNat 1).min 64)))=16:=by decide
       cases hh:Au r.fields 8 with
       |false=>
        have hb:Cu .and .i64 r.fields 8=0:=by simpa [Au] using hh
        have hs1:DN r.fields o (6 - 3) 3 ws=DN r.fields o (6 - 4) 4 ws:=by show DN r.fields o (6 - 4) 4 (if Au r.fields 8=true then _ else ws)=_;rw [if_neg (by rw [hh];simp)]
        refine CW.vc EN [0,1,2,3,5,6,7,8,9,10,16,21,26,33,34,35,43,51,59,68,76] (by kernel_rfl) ?_
        (repeat ((try refine Vc.mk' ?_);simp (maxSteps:=6000000) only [go_sem,Nb,Aw,Ay,p2,hb,decide_true,sh]))
        refine .mk (4,ws) ⟨Nat.le_of_ble_eq_true rfl,hW.stay,hs1.symm.trans hrun⟩ (by show 6 - 4 < 6 - 3;decide) ((by refine Bj.mk' [top,top+1,top+2] hcl (by simp) (by simp) rfl (Ac ?_) ?_ ?_ <;> simp [Aw,Ay,p2,Al,B9.Dd,Aa]))
       |true=>
        have hb:¬Cu .and .i64 r.fields 8=0:=by simpa [Au] using hh
        have hs1:DN r.fields o (6 - 3) 3 ws=DN r.fields o (6 - 4) 4 (ws ++ [DY 3 o]):=by show DN r.fields o (6 - 4) 4 (if Au r.fields 8=true then _ else ws)=_;rw [if_pos hh]
        have hu0:=hO.e0
        have hu1:=hO.e1
        have hU:U64 o.BS=True:=eq_true ⟨hu0,by omega⟩
        have hwr:=xc hu0 hu1
        have hwl:(DY 3 o).length≤1024:=JZ ⟨by omega,by omega⟩
        have hwj:DY 3 o=Lib.itoa o.BS:=rfl
        rw [hwj] at hs1 hwl
        have hap1:∀ {h':Hp} {q t:Nat},h' (top+2)=AE AH ws→h' q=some (.cells true 1 [.string ⟨⟨Lib.itoa o.BS⟩⟩])→AR tt.get h' t [67,67] (AA (top+2) ws) (.slice (some ⟨q,0,none⟩) 1 1)=some (AA t (ws ++ [Lib.itoa o.BS]),Ck (top+2) ws t (AE AH (ws ++ [Lib.itoa o.BS])),t+1):=hap
        refine CW.vc EN [0,1,2,3,5,6,7,8,9,10,16,21,26,33,34,35,43,51,59,68,76] (by kernel_rfl) ?_
        (repeat ((try refine Vc.mk' ?_);simp (maxSteps:=6000000) only [go_sem,Nb,Aw,Ay,p2,hb,decide_false,sh,hp1,AG ht1,vG,Vq,hU,hwr,AAd,hap1]))
        refine .mk (4,ws ++ [Lib.itoa o.BS]) ⟨Nat.le_of_ble_eq_true rfl,hW.app hwl,hs1.symm.trans hrun⟩ (by show 6 - 4 < 6 - 3;decide) ((by refine Bj.mk' [top,top+1,top+4] hcl (by simp) (by simp) rfl (Ac ?_) ?_ ?_ <;> simp [Aw,Ay,p2,Al,B9.Dd,Aa]))
      ·-- Bytes
       have sh:Ar .i64 ((16:Int) * Int.ofNat (Nat.pow 2 ((Int.toNat 1).min 64)))=32:=by decide
       cases hh:Au r.fields 16 with
       |false=>
        have hb:Cu .and .i64 r.fields 16=0:=by simpa [Au] using hh
        have hs1:DN r.fields o (6 - 4) 4 ws=DN r.fields o (6 - 5) 5 ws:=by show DN r.fields o (6 - 5) 5 (if Au r.fields 16=true then _ else ws)=_;rw [if_neg (by rw [hh];simp)]
        refine CW.vc EN [0,1,2,3,5,6,7,8,9,10,16,21,26,33,34,35,43,51,59,68,76] (by kernel_rfl) ?_
        (repeat ((try refine Vc.mk' ?_);simp (maxSteps:=6000000) only [go_sem,Nb,Aw,Ay,p2,hb,decide_true,sh]))
        refine .mk (5,ws) ⟨Nat.le_of_ble_eq_true rfl,hW.stay,hs1.symm.trans hrun⟩ (by show 6 - 5 < 6 - 4;decide) ((by refine Bj.mk' [top,top+1,top+2] hcl (by simp) (by simp) rfl (Ac ?_) ?_ ?_ <;> simp [Aw,Ay,p2,Al,B9.Dd,Aa]))
       |true=>
        have hb:¬Cu .and .i64 r.fields 16=0:=by simpa [Au] using hh
        have hs1:DN r.fields o (6 - 4) 4 ws=DN r.fields o (6 - 5) 5 (ws ++ [DY 4 o]):=by show DN r.fields o (6 - 5) 5 (if Au r.fields 16=true then _ else ws)=_;rw [if_pos hh]
        have hbl:=fJ hm hh
        have hwl:(DY 4 o).length≤1024:=bC hbl
        have hwj:DY 4 o=YW o.Bytes:=rfl
        rw [hwj] at hs1 hwl
        have hap1:∀ {h':Hp} {q t:Nat},h' (top+2)=AE AH ws→h' q=some (.cells true 1 [.string ⟨⟨YW o.Bytes⟩⟩])→AR tt.get h' t [67,67] (AA (top+2) ws) (.slice (some ⟨q,0,none⟩) 1 1)=some (AA t (ws ++ [YW o.Bytes]),Ck (top+2) ws t (AE AH (ws ++ [YW o.Bytes])),t+1):=hap
        refine CW.vc EN [0,1,2,3,5,6,7,8,9,10,16,21,26,33,34,35,43,51,59,68,76] (by kernel_rfl) ?_
        (repeat ((try refine Vc.mk' ?_);simp (maxSteps:=6000000) only [go_sem,Nb,Aw,Ay,p2,hb,decide_false,sh,hp1,AG ht1,vf,aY,hbl,hap1]))
        refine .mk (5,ws ++ [YW o.Bytes]) ⟨Nat.le_of_ble_eq_true rfl,hW.app hwl,hs1.symm.trans hrun⟩ (by show 6 - 5 < 6 - 4;decide) ((by refine Bj.mk' [top,top+1,top+4] hcl (by simp) (by simp) rfl (Ac ?_) ?_ ?_ <;> simp [Aw,Ay,p2,Al,B9.Dd,Aa]))
      ·-- CB
       have sh:Ar .i64 ((32:Int) * Int.ofNat (Nat.pow 2 ((Int.toNat 1).min 64)))=64:=by decide
       cases hh:Au r.fields 32 with
       |false=>
        have hb:Cu .and .i64 r.fields 32=0:=by simpa [Au] using hh
        have hs1:DN r.fields o (6 - 5) 5 ws=DN r.fields o (6 - 6) 6 ws:=by show DN r.fields o (6 - 6) 6 (if Au r.fields 32=true then _ else ws)=_;rw [if_neg (by rw [hh];simp)]
        refine CW.vc EN [0,1,2,3,5,6,7,8,9,10,16,21,26,33,34,35,43,51,59,68,76] (by kernel_rfl) ?_
        (repeat ((try refine Vc.mk' ?_);simp (maxSteps:=6000000) only [go_sem,Nb,Aw,Ay,p2,hb,decide_true,sh]))
        refine .mk (6,ws) ⟨Nat.le_of_ble_eq_true rfl,hW.stay,hs1.symm.trans hrun⟩ (by show 6 - 6 < 6 - 5;decide) ((by refine Bj.mk' [top,top+1,top+2] hcl (by simp) (by simp) rfl (Ac ?_) ?_ ?_ <;> simp [Aw,Ay,p2,Al,B9.Dd,Aa]))
       |true=>
        have hb:¬Cu .and .i64 r.fields 32=0:=by simpa [Au] using hh
        have hs1:DN r.fields o (6 - 5) 5 ws=DN r.fields o (6 - 6) 6 (ws ++ [DY 5 o]):=by show DN r.fields o (6 - 6) 6 (if Au r.fields 32=true then _ else ws)=_;rw [if_pos hh]
        have hi6:IE o.CB=True:=eq_true hO.t
        have hwl:(DY 5 o).length≤1024:=JZ hO.t
        have hwj:DY 5 o=Lib.itoa o.CB:=rfl
        rw [hwj] at hs1 hwl
        have hap1:∀ {h':Hp} {q t:Nat},h' (top+2)=AE AH ws→h' q=some (.cells true 1 [.string ⟨⟨Lib.itoa o.CB⟩⟩])→AR tt.get h' t [67,67] (AA (top+2) ws) (.slice (some ⟨q,0,none⟩) 1 1)=some (AA t (ws ++ [Lib.itoa o.CB]),Ck (top+2) ws t (AE AH (ws ++ [Lib.itoa o.CB])),t+1):=hap
        refine CW.vc EN [0,1,2,3,5,6,7,8,9,10,16,21,26,33,34,35,43,51,59,68,76] (by kernel_rfl) ?_
        (repeat ((try refine Vc.mk' ?_);simp (maxSteps:=6000000) only [go_sem,Nb,Aw,Ay,p2,hb,decide_false,sh,hp1,AG ht1,UR,Ns,hi6,hap1]))
        refine .mk (6,ws ++ [Lib.itoa o.CB]) ⟨Nat.le_of_ble_eq_true rfl,hW.app hwl,hs1.symm.trans hrun⟩ (by show 6 - 6 < 6 - 5;decide) ((by refine Bj.mk' [top,top+1,top+4] hcl (by simp) (by simp) rfl (Ac ?_) ?_ ?_ <;> simp [Aw,Ay,p2,Al,B9.Dd,Aa]))
      ·have hrun':ws=DN r.fields o 6 0 [r.word]:=hrun
       rw [←hrun']
       have hj1:(Lib.join ws [32]).length≤1100 * ws.length:=hW.jn
       have hl1:ws.length≤6+1:=hW.le
       have j1:∀ {h':Hp},h' (top+2)=AE AH ws→G6 AH h' (AA (top+2) ws)=True:=fun e=>tb e (by omega)
       have j2:∀ {h':Hp},h' (top+2)=AE AH ws→AH.rd h' (AA (top+2) ws)=ws:=fun e=>Mz e (by omega)
       have j3:(ws.length≤140737488355328)=True:=eq_true (by omega)
       have j4:((Lib.join ws [32]).length≤140737488355328)=True:=eq_true (by omega)
       refine CW.vc EN [0,1,2,3,5,6,7,8,9,10,16,21,26,33,34,35,43,51,59,68,76] (by kernel_rfl) ?_
       (repeat ((try refine Vc.mk' ?_);simp (maxSteps:=6000000) only [go_sem,Nb,Aw,Ay,p2,uJ,QT,j1,j2,j3,j4]))
   ·rw [if_neg c] at hf
    refine CW.vc EN [0,1,2,3,5,6,7,8,9,10,16,21,26,33,34,35,43,51,59,68,76] (by kernel_rfl) ?_
    (repeat ((try refine Vc.mk' ?_);simp (maxSteps:=6000000) only [go_sem,jE,l1,hlt,hix,Ay,Aw,c,decide_false,kk]))
    refine .mk (i+1) ⟨hlt,hf⟩ (by omega) ((by refine Bj.mk' [top] hcl (by simp) (by simp) rfl (Ac ?_) ?_ ?_ <;> simp [Aw,MU]))
  ·have hi2:i=12:=by omega
   subst hi2
   have e:LH o=none:=by
    have:Ib o.Kind B6=none:=by rw [hf];rfl
    unfold LH;rw [this]
   rw [jv e]
   refine CW.vc EN [0,1,2,3,5,6,7,8,9,10,16,21,26,33,34,35,43,51,59,68,76] (by kernel_rfl) ?_
   (repeat ((try refine Vc.mk' ?_);simp (maxSteps:=6000000) only [go_sem,jE,Int.lt_irrefl,decide_false,show decide (((12:Nat):Int) < 12)=false from rfl]))
   try rfl
end Go.Proofs.YthlhnangbinhoaaGreatDoor.Dm
