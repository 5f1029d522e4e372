/- The op of a line, as the code reads it: what it computes. -/
import Derived.Test.YthlhnangbinhoaaGreatDoorSF
set_option linter.unusedVariables false
namespace Go.Proofs.YthlhnangbinhoaaGreatDoor.Dm
open Go.Dm
set_option maxHeartbeats 16000000
set_option maxRecDepth 20000
abbrev Ha:=List (List UInt8)
def Dx (j:Nat)(o:Ax)(w:List UInt8):Option Ax:=match j with
 |0=>(El w).map fun n=> {o with Bj:=n}
 |1=>(El w).map fun n=> {o with C8:=n}
 |2=>(El w).map fun n=> {o with B1:=n}
 |3=>match El w with
  |some n=>if Gk n 0 4294967295=true then some {o with Bd:=n} else none
  |none=>none
 |4=>(Nz w).map fun b=> {o with Bytes:=b}
 |_=>(El w).map fun n=> {o with CJ:=n}
def p2 (j:Nat):Int:=match j with
 |0=>1
 |1=>2
 |2=>4
 |3=>8
 |4=>16
 |5=>32
 |_=>64
def C9 (F:Int)(j:Nat)(o:Ax)(ws:Ha):Option (Ax×Ha):=
 if Ay F (p2 j)=true then match ws with
  | []=>none
  |w :: r=>(Dx j o w).map fun o'=>(o',r)
 else some (o,ws)
def E4 (F:Int):Nat→Nat→Ax→Ha→Option (Ax×Ha)
 |0,_,o,ws=>some (o,ws)
 |n+1,j,o,ws=>match C9 F j o ws with
  |none=>none
  |some (o',ws')=>E4 F n (j+1) o' ws'
def I2 (k:Int):Ax:=⟨k,0,0,0,0,0, []⟩
def pt (F:Int)(x:Option (Ax×Ha)):Option Ax:=match x with
 |some (o, [])=>if Ct o F=true then some o else none
 |_=>none
def eH (r:De)(ws:Ha):Option Ax:=pt r.fields (E4 r.fields 6 0 (I2 r.kind) ws)
def Ju (w:List UInt8):List De→Option De
 | []=>none
 |r :: l=>if r.word=w then some r else Ju w l
def P5 (s:List UInt8):Option Ax:=match Ju (at' (Bm s) 0) BV with
 |some r=>eH r ((Bm s).drop 1)
 |none=>none
theorem Yz {w:List UInt8}{i:Nat}(h:i < 12):Ju w (BV.drop i)=if (at' BV i).word=w then some (at' BV i) else Ju w (BV.drop (i+1)):=by
 rw [Pv (l:=BV) (k:=i) h];rfl
def vR (b n m:Nat):Value:=if m < n then .slice (some ⟨b,m,none⟩) (n - m) (n - m) else .slice (some ⟨0,0,some 0⟩) 0 0
theorem Gl {b n m:Nat}(h:m < n):Fy 1 (vR b n m) 1=vR b n (m+1):=by
 unfold vR
 rw [if_pos h]
 show (if (1=0∨1 < n - m) then Value.slice (some ⟨b,m+1 * 1,none⟩) (n - m - 1) (n - m - 1) else _)=_
 by_cases c:m+1 < n
 ·rw [if_pos (by omega),if_pos c]
  congr 1
 ·rw [if_neg (by omega),if_neg c]
theorem Ut {b:Nat}{l:Ha}(h:l≠ []):AA b l=vR b l.length 0:=by
 cases l with
 |nil=>exact absurd rfl h
 |cons a l=>unfold vR;rw [if_pos (by simp)];rfl
theorem kG {hp:Hp}{b m:Nat}{l:Ha}(h:hp b=AD AE l)(hl:l≠ [])(hn:l.length≤9223372036854775807)(hm:m≤l.length):BP AE hp (vR b l.length m) (l.drop m):=by
 induction m with
 |zero=>rw [←Ut hl];exact BP.JF h hn
 |succ m ih=>
  have:=(ih (by omega)).drop (n:=1) (by simp;omega)
  rw [show AE.size=1 from rfl,Gl (by omega),List.drop_drop] at this
  exact this
theorem ACK {b n m:Nat}:A1 (vR b n m)= [vR b n m]:=by unfold vR;split <;> rfl
theorem ABA {b n m:Nat}:(vR b n m).oneCell' = true:=by unfold vR;split <;> rfl
theorem F2 {b n m:Nat}{ρ:Nat→Nat}:Az ρ (vR b n m)=vR (ρ b) n m:=by
 unfold vR
 split
 ·rfl
 ·simp [Az]
theorem Wo {i:Nat}(h:i < 12):(QY.drop (i * 3)).take 3=RC.enc (at' BV i):=by
 have:i=0∨i=1∨i=2∨i=3∨i=4∨i=5∨i=6∨i=7∨i=8∨i=9∨i=10∨i=11:=by omega
 rcases this with rfl | rfl | rfl | rfl | rfl | rfl | rfl | rfl | rfl | rfl | rfl | rfl <;> rfl
theorem AAb {n:Int}(h:Gk n 0 4294967295=true):Ap .u32 n=n:=by
 have h:0≤n∧n≤4294967295:=by simpa [Gk] using h
 refine Gg ?_ ?_
 ·simp only [IntKind.signed];exact h.1
 ·show n < (2 ^ 32:Int);omega
theorem ML:Fh 0:=⟨by decide,by decide⟩
theorem BW {hp:Hp}{top k:Nat}{o:Option A7}(h:7≤top):C7 (hp.set (top+k) o)=C7 hp:=AQ (by omega)
theorem Gi {F:Int}{j:Nat}{o:Ax}{ws:Ha}(h:Ay F (p2 j)=false):C9 F j o ws=some (o,ws):=by unfold C9;rw [if_neg (by rw [h];simp)]
theorem Hh {F:Int}{j:Nat}{o:Ax}(h:Ay F (p2 j)=true):C9 F j o [] = none:=by unfold C9;rw [if_pos h]
theorem Gj {F:Int}{j:Nat}{o:Ax}{w:List UInt8}{l:Ha}(h:Ay F (p2 j)=true):C9 F j o (w :: l)=(Dx j o w).map fun o'=>(o',l):=by unfold C9;rw [if_pos h]
theorem AEB {i:Nat}(h:i < 12):1≤(at' BV i).kind∧(at' BV i).kind≤12:=by
 have:∀i:Fin 12,1≤(at' BV i.val).kind∧(at' BV i.val).kind≤12:=by decide
 exact this ⟨i,h⟩
theorem LJ {ρ:Nat→Nat}:Co ρ QY=QY:=by rw [RD];rfl
theorem HM {j:Nat}{o o':Ax}{w:List UInt8}(h:GZ o)(hw:w.length≤140737488351232)(e:Dx j o w=some o'):GZ o':=by
 have num:∀ {n:Int},El w=some n→Fh n:=fun {n} hn=>by
  obtain ⟨h1,rfl,_⟩:=Fz.1 hn
  exact bQ h1
 unfold Dx at e
 split at e
 ·obtain ⟨n,hn,rfl⟩:=Option.map_eq_some_iff.1 e
  exact {h with r:=num hn}
 ·obtain ⟨n,hn,rfl⟩:=Option.map_eq_some_iff.1 e
  exact {h with p:=num hn}
 ·obtain ⟨n,hn,rfl⟩:=Option.map_eq_some_iff.1 e
  exact {h with g:=num hn}
 ·split at e
  ·split at e
   ·rename_i n hn hb
    cases e
    have:0≤n∧n≤4294967295:=by simpa [Gk] using hb
    exact {h with e0:=this.1,e1:=by show n < _;omega}
   ·cases e
  ·cases e
 ·obtain ⟨b,hb,rfl⟩:=Option.map_eq_some_iff.1 e
  refine {h with b:= ?_}
  show b.length≤_
  unfold Nz at hb
  split at hb
  ·cases hb;exact Nat.zero_le _
  ·split at hb
   ·rename_i a l hu
    cases hb
    unfold GX at hu
    split at hu
    ·have hu:=Option.some.inj hu
     rw [←hu,GH];omega
    ·cases hu
   ·cases hb
 ·obtain ⟨n,hn,rfl⟩:=Option.map_eq_some_iff.1 e
  exact {h with t:=num hn}
def ll:FuncId→Bb:=Bw (Bw (Bw (Bw GS8 43 bW) 77 Xm) 74 CX) 75 EN
theorem Cw:CQ Tryz.prog tt.get ll:=(((Np.add zj).add hJ).add sG).add uq
theorem wi:ll 73=Aj:=rfl
theorem ABv:ll 40=K5:=rfl
theorem Dr:ll 74=CX:=rfl
theorem KZ:ll 75=EN:=rfl
theorem tq:ll 77=Xm:=rfl
theorem tQ:ll 76=MN:=rfl
theorem WM:ll 37=Ac:=rfl
theorem tG:ll 41=Fv:=rfl
theorem zi:ll 35=F5:=rfl
def ny (s:List UInt8)(top:Nat):(Value×BI×Nat) ⊕ (Value×BI×Nat):=match P5 s with
 |some o=> .inl (.agg ⟨Aw.enc o⟩, [],top)
 |none=> .inr (En 12, [],top)
theorem Fj {s:List UInt8}{top:Nat}(h:P5 s=none):ny s top= .inr (En 12, [],top):=by unfold ny;rw [h]
theorem il {s:List UInt8}{o:Ax}{top:Nat}(h:P5 s=some o):ny s top= .inl (.agg ⟨Aw.enc o⟩, [],top):=by unfold ny;rw [h]
def M3:Bb:= .pan (fun args hp _=>match args with | [.string ⟨⟨s⟩⟩]=>s.length < 4294967281∧C7 hp | _=>False) (fun args _ top=>match args with | [s]=>ny (strOf s) top | _=> .inr (undef, [],top))
def stOp (hp:Hp)(top:Nat)(s:List UInt8)(i:Nat):SS:=⟨[(2, .pointer (some ⟨top,0,none⟩),true),(3,AA (top+1) (Bm s),true),(14, .agg ⟨QY⟩,true),(15, .int .i64 (i:Int),true)],hp.Av [(top,some (.cells true 0 (Aw.enc (I2 0)))),(top+1,AD AE (Bm s))],top+2⟩
def FU (hp:Hp)(top:Nat)(s:List UInt8)(r:De)(x:Nat×Ax×Nat):SS:=⟨[(2, .pointer (some ⟨top,0,none⟩),true),(5, .pointer (some ⟨top+2,0,none⟩),true),(6, .pointer (some ⟨top+3,0,none⟩),true),(7, .pointer (some ⟨top+4,0,none⟩),true),(8, .func (.func 74) ⟨[]⟩ ⟨[.pointer (some ⟨top+4,0,none⟩)]⟩,true),(9, .int .i64 (p2 x.1),true)],
 hp.Av [(top,some (.cells true 0 (Aw.enc (I2 0)))),(top+1,AD AE (Bm s)),(top+2,some (.cells true 0 (RC.enc r))),(top+3,some (.cells true 0 (Aw.enc x.2.1))),(top+4,some (.cells true 0 [vR (top+1) (Bm s).length (x.2.2+1)]))],top+5⟩
theorem ACO:A0 Tryz.prog 38 M3:=by
 refine .PC Vw ?_
 intro args hp top hpre hcl hsc
 match args,hpre with
 | [.string ⟨⟨s⟩⟩],⟨hs,hv⟩=>
 have hv0:=hv
 obtain ⟨hp1,⟨ml,hml⟩,hv3,hv4⟩:=hv0
 have ht5:=Fc hcl hv
 simp only [AH]
 have hne:=Md s
 have hsl:1≤(Bm s).length:=by
  cases h:Bm s with
  |nil=>exact absurd h hne
  |cons a l=>simp
 have hmx:(∃m,hp 2=some (Ph 1 (.int .i64 m)))=True:=eq_true ⟨ml,hml⟩
 have t2:2 < top:=by omega
 refine EI.A5 BA Vw rfl 91 rfl [.cell 2 43] rfl (show 1≤91 by decide) ?_
 refine CW.vc Cw [0,2,3,5,6,7,8,9,10,11,14,15,16,23,31,38,41,42,47,52,57,67,72] (by kernel_rfl) ?_
 (repeat ((try refine Vc.mk' ?_);simp (maxSteps:=6000000) only [go_sem,wi,Aj,Ar,hs,hmx,Ae t2,ABv,K5]))
 have eO:∀ {r:De},Ju (at' (Bm s) 0) BV=some r→P5 s=eH r ((Bm s).drop 1):=fun {r} h=>by unfold P5;rw [h]
 have hW:∀ {h':Hp},h' (top+1)=AD AE (Bm s)→BP AE h' (AA (top+1) (Bm s)) (Bm s):=fun e=>BP.JF e (by have:=NC s;omega)
 have ix0:Aa tt.get 67 (AA (top+1) (Bm s)) (.int .i64 0)=(Ag (AA (top+1) (Bm s)) 0,True):=by
  have:=DM (hW (h':=(fun i=>if i=top+1 then AD AE (Bm s) else none)) (by simp)) (k:= .i64) (n:=0) (by decide) (by omega)
  simpa using this
 have ld0:∀ {h':Hp},h' (top+1)=AD AE (Bm s)→A4 tt.get h' 9 (Ag (AA (top+1) (Bm s)) 0)=(.string ⟨⟨at' (Bm s) 0⟩⟩,True):=fun e=>Dw (hW e) (i:=0) (by omega)
 generalize hw:at' (Bm s) 0=w at ld0 eO
 refine CW.DC (stOp hp top s) (fun i=>i≤12∧Ju w BV=Ju w (BV.drop i)) (fun i=>12 - i) 0 ⟨by decide,rfl⟩ ?_ ?_
 ·exact (by refine BR.mk' [top,top+1] hcl (by simp) (by simp) rfl (AU ?_) ?_ ?_ <;> simp [I2,Ai,LJ])
 ·rintro i ⟨hi,hf⟩
  by_cases hlt:i < 12
  ·have l1:((i:Int) < 12):=by omega
   have kk:Ap .i64 ((i:Int)+1)=((i+1:Nat):Int):=Bf hlt (by omega)
   have hix:=Wo hlt
   rw [Yz hlt] at hf
   generalize hr:at' BV i=r at hf hix
   by_cases c:r.word=w
   ·rw [if_pos c] at hf
    have hF:=eO hf
    subst c
    have hn0:(Bm s).length≤9223372036854775807:=by have:=NC s;omega
    have sl1:∀ {h':Hp},h' (top+1)=AD AE (Bm s)→Bv tt.get h' 67 (AA (top+1) (Bm s)) (some (.int .i64 1)) none=(vR (top+1) (Bm s).length 1,True):=fun {h'} e=>by
     have:=MC (hW e) (k:= .i64) (n:=1) (by decide) (by omega)
     rw [this,Ut hne]
     simp only [show (1:Int).toNat=1 from rfl]
     rw [Gl (by omega)]
    refine CW.vc Cw [0,2,3,5,6,7,8,9,10,11,14,15,16,23,31,38,41,42,47,52,57,67,72] (by kernel_rfl) ?_
    (repeat ((try refine Vc.mk' ?_);simp (maxSteps:=6000000) only [go_sem,stOp,l1,hlt,hix,Am,AV,ix0,ld0,sl1,ACK,ABA,decide_true,Ek,FX]))
    refine CW.DC (FU hp top s r) (fun x=>x.1≤6∧x.2.2+1≤(Bm s).length∧GZ x.2.1∧E4 r.fields (6 - x.1) x.1 x.2.1 ((Bm s).drop (x.2.2+1))=E4 r.fields 6 0 (I2 r.kind) ((Bm s).drop 1)) (fun x=>6 - x.1) (0,I2 r.kind,0) ⟨Nat.zero_le _,hsl, ?_,rfl⟩ ?_ ?_
    ·have hk:=AEB hlt
     rw [hr] at hk
     exact ⟨⟨by show -9223372036854775808≤r.kind;omega,by show r.kind≤_;omega⟩,ML,ML,ML,Int.le_refl 0,by show (0:Int) < _;decide,ML,Nat.zero_le _⟩
    ·exact (by refine BR.mk' [top,top+1,top+2,top+3,top+4] hcl (by simp) (by simp) rfl (AU ?_) ?_ ?_ <;> simp [Ai,Am,I2,p2,F2])
    ·rintro ⟨j,o,m⟩ ⟨hj,hm,hO,hrun⟩
     generalize hws:(Bm s).drop (m+1)=ws at hrun
     have hS:∀ {h':Hp},h' (top+1)=AD AE (Bm s)→BP AE h' (vR (top+1) (Bm s).length (m+1)) ws:=fun e=>hws ▸ kG e hne hn0 hm
     have nxp:∀ {h':Hp},h' (top+4)=some (.cells true 0 [vR (top+1) (Bm s).length (m+1)])→h' (top+1)=AD AE (Bm s)→(∃v l,Ue h' (top+4) v l)=True:=fun a b=>eq_true ⟨_,_,a,hS b⟩
     have nxv:∀ {h':Hp},h' (top+4)=some (.cells true 0 [vR (top+1) (Bm s).length (m+1)])→Sq h' (top+4)=vR (top+1) (Bm s).length (m+1):=fun a=>by unfold Sq;rw [a]
     have nxr:∀ {h':Hp},h' (top+1)=AD AE (Bm s)→AE.rd h' (vR (top+1) (Bm s).length (m+1))=ws:=fun b=>(hS b).rd
     have sL:∀ {h':Hp},CF tt.get h' 67 (vR (top+1) (Bm s).length (m+1))=(.int .i64 (ws.length:Int),True):=FA (hS (h':=(fun i=>if i=top+1 then AD AE (Bm s) else none)) (by simp))
     have hwlen:∀w∈ws,w.length≤s.length:=fun w hw=>LL s w (List.mem_of_mem_drop (hws ▸ hw))
     have hfail:none=E4 r.fields 6 0 (I2 r.kind) ((Bm s).drop 1)→P5 s=none:=fun e=>by rw [hF,eH,←e];rfl
     have hcase:j=0∨j=1∨j=2∨j=3∨j=4∨j=5∨j=6:=by have:j≤6:=hj;omega
     rcases hcase with rfl | rfl | rfl | rfl | rfl | rfl | rfl
     -- FIELDS
     ·-- Bj
      have sh:Ap .i64 ((1:Int) * Int.ofNat (Nat.pow 2 ((Int.toNat 1).min 64)))=2:=by decide
      have hst:E4 r.fields (6 - 0) 0 o ws=match C9 r.fields 0 o ws with | none=>none | some (o',ws')=>E4 r.fields (6 - 1) 1 o' ws':=rfl
      cases hh:Ay r.fields 1 with
      |false=>
       have hb:CZ .and .i64 r.fields 1=0:=by simpa [Ay] using hh
       have hs1:C9 r.fields 0 o ws=some (o,ws):=Gi (j:=0) hh
       rw [hs1] at hst
       refine CW.vc Cw [0,2,3,5,6,7,8,9,10,11,14,15,16,23,31,38,41,42,47,52,57,67,72] (by kernel_rfl) ?_
       (repeat ((try refine Vc.mk' ?_);simp (maxSteps:=6000000) only [go_sem,FU,Ai,Am,p2,hb,decide_true,sh]))
       refine .mk (1,o,m) ⟨Nat.le_of_ble_eq_true rfl,hm,hO,by rw [hws];exact hst.symm.trans hrun⟩ (by show 6 - 1 < 6 - 0;decide) ((by refine BR.mk' [top,top+1,top+2,top+3,top+4] hcl (by simp) (by simp) rfl (AU ?_) ?_ ?_ <;> simp [Ai,Am,I2,p2,F2]))
      |true=>
       have hb:¬CZ .and .i64 r.fields 1=0:=by simpa [Ay] using hh
       cases ws with
       |nil=>
        have hs1:C9 r.fields 0 o [] = none:=Hh (j:=0) hh
        rw [hs1] at hst
        rw [Fj (hfail (hst.symm.trans hrun))]
        refine CW.vc Cw [0,2,3,5,6,7,8,9,10,11,14,15,16,23,31,38,41,42,47,52,57,67,72] (by kernel_rfl) ?_
        (repeat ((try refine Vc.mk' ?_);simp (maxSteps:=6000000) only [go_sem,FU,Ai,Am,p2,hb,decide_false,Dr,CX,nxp,nxv,nxr,Ej]))
        (refine ⟨[],by simp,by simp,by simp, ?_, ?_, ?_⟩ <;> simp [])
       |cons w l=>
        have hwl:=hwlen w (List.mem_cons_self ..)
        have hsu:Fy 1 (vR (top+1) (Bm s).length (m+1)) 1=vR (top+1) (Bm s).length (m+1+1):=Gl (by have:=congrArg List.length hws;simp at this;omega)
        have hmn:m+1+1≤(Bm s).length:=by have:=congrArg List.length hws;simp at this;omega
        have hdr:(Bm s).drop (m+1+1)=l:=by rw [←List.drop_drop,hws];rfl
        have w1:(w.length≤281474976710656)=True:=eq_true (by omega)
        have w2:(w.length < 4294967281)=True:=eq_true (by omega)
        have hs1:C9 r.fields 0 o (w :: l)=(Dx 0 o w).map fun o'=>(o',l):=Gj (j:=0) hh
        rw [hs1] at hst
        cases hn:El w with
        |none=>
         have he:Dx 0 o w=none:=by show (El w).map _=none;rw [hn];rfl
         rw [he] at hst
         rw [Fj (hfail (hst.symm.trans hrun))]
         have hu:∀t,E3 w t= .inr (En 12, [],t):=fun t=>by unfold E3;rw [hn]
         refine CW.vc Cw [0,2,3,5,6,7,8,9,10,11,14,15,16,23,31,38,41,42,47,52,57,67,72] (by kernel_rfl) ?_
         (repeat ((try refine Vc.mk' ?_);simp (maxSteps:=6000000) only [go_sem,FU,Ai,Am,p2,hb,decide_false,Dr,CX,nxp,nxv,nxr,Ej,hsu,KZ,EN,w1,hv,AQ ht5,BW ht5,hu]))
         (refine ⟨[],by simp,by simp,by simp, ?_, ?_, ?_⟩ <;> simp [])
        |some n=>
         have hu:∀t,E3 w t= .inl (.int .i64 n, [],t):=fun t=>by unfold E3;rw [hn]
         have he:Dx 0 o w=some {o with Bj:=n}:=by show (El w).map _=_;rw [hn];rfl
         rw [he] at hst
         refine CW.vc Cw [0,2,3,5,6,7,8,9,10,11,14,15,16,23,31,38,41,42,47,52,57,67,72] (by kernel_rfl) ?_
         (repeat ((try refine Vc.mk' ?_);simp (maxSteps:=6000000) only [go_sem,FU,Ai,Am,p2,hb,decide_false,Dr,CX,nxp,nxv,nxr,Ej,hsu,sh,KZ,EN,w1,hv,AQ ht5,BW ht5,hu]))
         refine .mk (1, {o with Bj:=n},m+1) ⟨Nat.le_of_ble_eq_true rfl,hmn,HM (j:=0) hO (by omega) he,by show E4 _ _ _ _ ((Bm s).drop (m+1+1))=_;rw [hdr];exact hst.symm.trans hrun⟩ (by show 6 - 1 < 6 - 0;decide) ((by refine BR.mk' [top,top+1,top+2,top+3,top+4] hcl (by simp) (by simp) rfl (AU ?_) ?_ ?_ <;> simp [Ai,Am,I2,p2,F2]))
     ·-- C8
      have sh:Ap .i64 ((2:Int) * Int.ofNat (Nat.pow 2 ((Int.toNat 1).min 64)))=4:=by decide
      have hst:E4 r.fields (6 - 1) 1 o ws=match C9 r.fields 1 o ws with | none=>none | some (o',ws')=>E4 r.fields (6 - 2) 2 o' ws':=rfl
      cases hh:Ay r.fields 2 with
      |false=>
       have hb:CZ .and .i64 r.fields 2=0:=by simpa [Ay] using hh
       have hs1:C9 r.fields 1 o ws=some (o,ws):=Gi (j:=1) hh
       rw [hs1] at hst
       refine CW.vc Cw [0,2,3,5,6,7,8,9,10,11,14,15,16,23,31,38,41,42,47,52,57,67,72] (by kernel_rfl) ?_
       (repeat ((try refine Vc.mk' ?_);simp (maxSteps:=6000000) only [go_sem,FU,Ai,Am,p2,hb,decide_true,sh]))
       refine .mk (2,o,m) ⟨Nat.le_of_ble_eq_true rfl,hm,hO,by rw [hws];exact hst.symm.trans hrun⟩ (by show 6 - 2 < 6 - 1;decide) ((by refine BR.mk' [top,top+1,top+2,top+3,top+4] hcl (by simp) (by simp) rfl (AU ?_) ?_ ?_ <;> simp [Ai,Am,I2,p2,F2]))
      |true=>
       have hb:¬CZ .and .i64 r.fields 2=0:=by simpa [Ay] using hh
       cases ws with
       |nil=>
        have hs1:C9 r.fields 1 o [] = none:=Hh (j:=1) hh
        rw [hs1] at hst
        rw [Fj (hfail (hst.symm.trans hrun))]
        refine CW.vc Cw [0,2,3,5,6,7,8,9,10,11,14,15,16,23,31,38,41,42,47,52,57,67,72] (by kernel_rfl) ?_
        (repeat ((try refine Vc.mk' ?_);simp (maxSteps:=6000000) only [go_sem,FU,Ai,Am,p2,hb,decide_false,Dr,CX,nxp,nxv,nxr,Ej]))
        (refine ⟨[],by simp,by simp,by simp, ?_, ?_, ?_⟩ <;> simp [])
       |cons w l=>
        have hwl:=hwlen w (List.mem_cons_self ..)
        have hsu:Fy 1 (vR (top+1) (Bm s).length (m+1)) 1=vR (top+1) (Bm s).length (m+1+1):=Gl (by have:=congrArg List.length hws;simp at this;omega)
        have hmn:m+1+1≤(Bm s).length:=by have:=congrArg List.length hws;simp at this;omega
        have hdr:(Bm s).drop (m+1+1)=l:=by rw [←List.drop_drop,hws];rfl
        have w1:(w.length≤281474976710656)=True:=eq_true (by omega)
        have w2:(w.length < 4294967281)=True:=eq_true (by omega)
        have hs1:C9 r.fields 1 o (w :: l)=(Dx 1 o w).map fun o'=>(o',l):=Gj (j:=1) hh
        rw [hs1] at hst
        cases hn:El w with
        |none=>
         have he:Dx 1 o w=none:=by show (El w).map _=none;rw [hn];rfl
         rw [he] at hst
         rw [Fj (hfail (hst.symm.trans hrun))]
         have hu:∀t,E3 w t= .inr (En 12, [],t):=fun t=>by unfold E3;rw [hn]
         refine CW.vc Cw [0,2,3,5,6,7,8,9,10,11,14,15,16,23,31,38,41,42,47,52,57,67,72] (by kernel_rfl) ?_
         (repeat ((try refine Vc.mk' ?_);simp (maxSteps:=6000000) only [go_sem,FU,Ai,Am,p2,hb,decide_false,Dr,CX,nxp,nxv,nxr,Ej,hsu,KZ,EN,w1,hv,AQ ht5,BW ht5,hu]))
         (refine ⟨[],by simp,by simp,by simp, ?_, ?_, ?_⟩ <;> simp [])
        |some n=>
         have hu:∀t,E3 w t= .inl (.int .i64 n, [],t):=fun t=>by unfold E3;rw [hn]
         have he:Dx 1 o w=some {o with C8:=n}:=by show (El w).map _=_;rw [hn];rfl
         rw [he] at hst
         refine CW.vc Cw [0,2,3,5,6,7,8,9,10,11,14,15,16,23,31,38,41,42,47,52,57,67,72] (by kernel_rfl) ?_
         (repeat ((try refine Vc.mk' ?_);simp (maxSteps:=6000000) only [go_sem,FU,Ai,Am,p2,hb,decide_false,Dr,CX,nxp,nxv,nxr,Ej,hsu,sh,KZ,EN,w1,hv,AQ ht5,BW ht5,hu]))
         refine .mk (2, {o with C8:=n},m+1) ⟨Nat.le_of_ble_eq_true rfl,hmn,HM (j:=1) hO (by omega) he,by show E4 _ _ _ _ ((Bm s).drop (m+1+1))=_;rw [hdr];exact hst.symm.trans hrun⟩ (by show 6 - 2 < 6 - 1;decide) ((by refine BR.mk' [top,top+1,top+2,top+3,top+4] hcl (by simp) (by simp) rfl (AU ?_) ?_ ?_ <;> simp [Ai,Am,I2,p2,F2]))
     ·-- B1
      have sh:Ap .i64 ((4:Int) * Int.ofNat (Nat.pow 2 ((Int.toNat 1).min 64)))=8:=by decide
      have hst:E4 r.fields (6 - 2) 2 o ws=match C9 r.fields 2 o ws with | none=>none | some (o',ws')=>E4 r.fields (6 - 3) 3 o' ws':=rfl
      cases hh:Ay r.fields 4 with
      |false=>
       have hb:CZ .and .i64 r.fields 4=0:=by simpa [Ay] using hh
       have hs1:C9 r.fields 2 o ws=some (o,ws):=Gi (j:=2) hh
       rw [hs1] at hst
       refine CW.vc Cw [0,2,3,5,6,7,8,9,10,11,14,15,16,23,31,38,41,42,47,52,57,67,72] (by kernel_rfl) ?_
       (repeat ((try refine Vc.mk' ?_);simp (maxSteps:=6000000) only [go_sem,FU,Ai,Am,p2,hb,decide_true,sh]))
       refine .mk (3,o,m) ⟨Nat.le_of_ble_eq_true rfl,hm,hO,by rw [hws];exact hst.symm.trans hrun⟩ (by show 6 - 3 < 6 - 2;decide) ((by refine BR.mk' [top,top+1,top+2,top+3,top+4] hcl (by simp) (by simp) rfl (AU ?_) ?_ ?_ <;> simp [Ai,Am,I2,p2,F2]))
      |true=>
       have hb:¬CZ .and .i64 r.fields 4=0:=by simpa [Ay] using hh
       cases ws with
       |nil=>
        have hs1:C9 r.fields 2 o [] = none:=Hh (j:=2) hh
        rw [hs1] at hst
        rw [Fj (hfail (hst.symm.trans hrun))]
        refine CW.vc Cw [0,2,3,5,6,7,8,9,10,11,14,15,16,23,31,38,41,42,47,52,57,67,72] (by kernel_rfl) ?_
        (repeat ((try refine Vc.mk' ?_);simp (maxSteps:=6000000) only [go_sem,FU,Ai,Am,p2,hb,decide_false,Dr,CX,nxp,nxv,nxr,Ej]))
        (refine ⟨[],by simp,by simp,by simp, ?_, ?_, ?_⟩ <;> simp [])
       |cons w l=>
        have hwl:=hwlen w (List.mem_cons_self ..)
        have hsu:Fy 1 (vR (top+1) (Bm s).length (m+1)) 1=vR (top+1) (Bm s).length (m+1+1):=Gl (by have:=congrArg List.length hws;simp at this;omega)
        have hmn:m+1+1≤(Bm s).length:=by have:=congrArg List.length hws;simp at this;omega
        have hdr:(Bm s).drop (m+1+1)=l:=by rw [←List.drop_drop,hws];rfl
        have w1:(w.length≤281474976710656)=True:=eq_true (by omega)
        have w2:(w.length < 4294967281)=True:=eq_true (by omega)
        have hs1:C9 r.fields 2 o (w :: l)=(Dx 2 o w).map fun o'=>(o',l):=Gj (j:=2) hh
        rw [hs1] at hst
        cases hn:El w with
        |none=>
         have he:Dx 2 o w=none:=by show (El w).map _=none;rw [hn];rfl
         rw [he] at hst
         rw [Fj (hfail (hst.symm.trans hrun))]
         have hu:∀t,E3 w t= .inr (En 12, [],t):=fun t=>by unfold E3;rw [hn]
         refine CW.vc Cw [0,2,3,5,6,7,8,9,10,11,14,15,16,23,31,38,41,42,47,52,57,67,72] (by kernel_rfl) ?_
         (repeat ((try refine Vc.mk' ?_);simp (maxSteps:=6000000) only [go_sem,FU,Ai,Am,p2,hb,decide_false,Dr,CX,nxp,nxv,nxr,Ej,hsu,KZ,EN,w1,hv,AQ ht5,BW ht5,hu]))
         (refine ⟨[],by simp,by simp,by simp, ?_, ?_, ?_⟩ <;> simp [])
        |some n=>
         have hu:∀t,E3 w t= .inl (.int .i64 n, [],t):=fun t=>by unfold E3;rw [hn]
         have he:Dx 2 o w=some {o with B1:=n}:=by show (El w).map _=_;rw [hn];rfl
         rw [he] at hst
         refine CW.vc Cw [0,2,3,5,6,7,8,9,10,11,14,15,16,23,31,38,41,42,47,52,57,67,72] (by kernel_rfl) ?_
         (repeat ((try refine Vc.mk' ?_);simp (maxSteps:=6000000) only [go_sem,FU,Ai,Am,p2,hb,decide_false,Dr,CX,nxp,nxv,nxr,Ej,hsu,sh,KZ,EN,w1,hv,AQ ht5,BW ht5,hu]))
         refine .mk (3, {o with B1:=n},m+1) ⟨Nat.le_of_ble_eq_true rfl,hmn,HM (j:=2) hO (by omega) he,by show E4 _ _ _ _ ((Bm s).drop (m+1+1))=_;rw [hdr];exact hst.symm.trans hrun⟩ (by show 6 - 3 < 6 - 2;decide) ((by refine BR.mk' [top,top+1,top+2,top+3,top+4] hcl (by simp) (by simp) rfl (AU ?_) ?_ ?_ <;> simp [Ai,Am,I2,p2,F2]))
     ·-- Bd
      have sh:Ap .i64 ((8:Int) * Int.ofNat (Nat.pow 2 ((Int.toNat 1).min 64)))=16:=by decide
      have hst:E4 r.fields (6 - 3) 3 o ws=match C9 r.fields 3 o ws with | none=>none | some (o',ws')=>E4 r.fields (6 - 4) 4 o' ws':=rfl
      cases hh:Ay r.fields 8 with
      |false=>
       have hb:CZ .and .i64 r.fields 8=0:=by simpa [Ay] using hh
       have hs1:C9 r.fields 3 o ws=some (o,ws):=Gi (j:=3) hh
       rw [hs1] at hst
       refine CW.vc Cw [0,2,3,5,6,7,8,9,10,11,14,15,16,23,31,38,41,42,47,52,57,67,72] (by kernel_rfl) ?_
       (repeat ((try refine Vc.mk' ?_);simp (maxSteps:=6000000) only [go_sem,FU,Ai,Am,p2,hb,decide_true,sh]))
       refine .mk (4,o,m) ⟨Nat.le_of_ble_eq_true rfl,hm,hO,by rw [hws];exact hst.symm.trans hrun⟩ (by show 6 - 4 < 6 - 3;decide) ((by refine BR.mk' [top,top+1,top+2,top+3,top+4] hcl (by simp) (by simp) rfl (AU ?_) ?_ ?_ <;> simp [Ai,Am,I2,p2,F2]))
      |true=>
       have hb:¬CZ .and .i64 r.fields 8=0:=by simpa [Ay] using hh
       cases ws with
       |nil=>
        have hs1:C9 r.fields 3 o [] = none:=Hh (j:=3) hh
        rw [hs1] at hst
        rw [Fj (hfail (hst.symm.trans hrun))]
        refine CW.vc Cw [0,2,3,5,6,7,8,9,10,11,14,15,16,23,31,38,41,42,47,52,57,67,72] (by kernel_rfl) ?_
        (repeat ((try refine Vc.mk' ?_);simp (maxSteps:=6000000) only [go_sem,FU,Ai,Am,p2,hb,decide_false,Dr,CX,nxp,nxv,nxr,Ej]))
        (refine ⟨[],by simp,by simp,by simp, ?_, ?_, ?_⟩ <;> simp [])
       |cons w l=>
        have hwl:=hwlen w (List.mem_cons_self ..)
        have hsu:Fy 1 (vR (top+1) (Bm s).length (m+1)) 1=vR (top+1) (Bm s).length (m+1+1):=Gl (by have:=congrArg List.length hws;simp at this;omega)
        have hmn:m+1+1≤(Bm s).length:=by have:=congrArg List.length hws;simp at this;omega
        have hdr:(Bm s).drop (m+1+1)=l:=by rw [←List.drop_drop,hws];rfl
        have w1:(w.length≤281474976710656)=True:=eq_true (by omega)
        have w2:(w.length < 4294967281)=True:=eq_true (by omega)
        have hs1:C9 r.fields 3 o (w :: l)=(Dx 3 o w).map fun o'=>(o',l):=Gj (j:=3) hh
        rw [hs1] at hst
        cases hn:El w with
        |none=>
         have he:Dx 3 o w=none:=by show (match El w with | some n=>_ | none=>none)=none;rw [hn]
         rw [he] at hst
         rw [Fj (hfail (hst.symm.trans hrun))]
         have hu:∀t,E3 w t= .inr (En 12, [],t):=fun t=>by unfold E3;rw [hn]
         refine CW.vc Cw [0,2,3,5,6,7,8,9,10,11,14,15,16,23,31,38,41,42,47,52,57,67,72] (by kernel_rfl) ?_
         (repeat ((try refine Vc.mk' ?_);simp (maxSteps:=6000000) only [go_sem,FU,Ai,Am,p2,hb,decide_false,Dr,CX,nxp,nxv,nxr,Ej,hsu,KZ,EN,w1,hv,AQ ht5,BW ht5,hu]))
         (refine ⟨[],by simp,by simp,by simp, ?_, ?_, ?_⟩ <;> simp [])
        |some n=>
         have hu:∀t,E3 w t= .inl (.int .i64 n, [],t):=fun t=>by unfold E3;rw [hn]
         cases hbt:Gk n 0 4294967295 with
         |false=>
          have he:Dx 3 o w=none:=by show (match El w with | some n=>_ | none=>none)=none;rw [hn];dsimp only;rw [if_neg (by rw [hbt];simp)]
          rw [he] at hst
          rw [Fj (hfail (hst.symm.trans hrun))]
          refine CW.vc Cw [0,2,3,5,6,7,8,9,10,11,14,15,16,23,31,38,41,42,47,52,57,67,72] (by kernel_rfl) ?_
          (repeat ((try refine Vc.mk' ?_);simp (maxSteps:=6000000) only [go_sem,FU,Ai,Am,p2,hb,decide_false,Dr,CX,nxp,nxv,nxr,Ej,hsu,KZ,EN,w1,hv,AQ ht5,BW ht5,hu,tQ,MN,hbt,WM,Ac,BG]))
          (refine ⟨[],by simp,by simp,by simp, ?_, ?_, ?_⟩ <;> simp [])
         |true=>
          have he:Dx 3 o w=some {o with Bd:=n}:=by show (match El w with | some n=>_ | none=>none)=_;rw [hn];dsimp only;rw [if_pos hbt]
          rw [he] at hst
          have hwr:Ap .u32 n=n:=AAb hbt
          refine CW.vc Cw [0,2,3,5,6,7,8,9,10,11,14,15,16,23,31,38,41,42,47,52,57,67,72] (by kernel_rfl) ?_
          (repeat ((try refine Vc.mk' ?_);simp (maxSteps:=6000000) only [go_sem,FU,Ai,Am,p2,hb,decide_false,Dr,CX,nxp,nxv,nxr,Ej,hsu,sh,KZ,EN,w1,hv,AQ ht5,BW ht5,hu,tQ,MN,hbt,WM,Ac,BU,hwr]))
          refine .mk (4, {o with Bd:=n},m+1) ⟨Nat.le_of_ble_eq_true rfl,hmn,HM (j:=3) hO (by omega) he,by show E4 _ _ _ _ ((Bm s).drop (m+1+1))=_;rw [hdr];exact hst.symm.trans hrun⟩ (by show 6 - 4 < 6 - 3;decide) ((by refine BR.mk' [top,top+1,top+2,top+3,top+4] hcl (by simp) (by simp) rfl (AU ?_) ?_ ?_ <;> simp [Ai,Am,I2,p2,F2]))
     ·-- Bytes
      have sh:Ap .i64 ((16:Int) * Int.ofNat (Nat.pow 2 ((Int.toNat 1).min 64)))=32:=by decide
      have hst:E4 r.fields (6 - 4) 4 o ws=match C9 r.fields 4 o ws with | none=>none | some (o',ws')=>E4 r.fields (6 - 5) 5 o' ws':=rfl
      cases hh:Ay r.fields 16 with
      |false=>
       have hb:CZ .and .i64 r.fields 16=0:=by simpa [Ay] using hh
       have hs1:C9 r.fields 4 o ws=some (o,ws):=Gi (j:=4) hh
       rw [hs1] at hst
       refine CW.vc Cw [0,2,3,5,6,7,8,9,10,11,14,15,16,23,31,38,41,42,47,52,57,67,72] (by kernel_rfl) ?_
       (repeat ((try refine Vc.mk' ?_);simp (maxSteps:=6000000) only [go_sem,FU,Ai,Am,p2,hb,decide_true,sh]))
       refine .mk (5,o,m) ⟨Nat.le_of_ble_eq_true rfl,hm,hO,by rw [hws];exact hst.symm.trans hrun⟩ (by show 6 - 5 < 6 - 4;decide) ((by refine BR.mk' [top,top+1,top+2,top+3,top+4] hcl (by simp) (by simp) rfl (AU ?_) ?_ ?_ <;> simp [Ai,Am,I2,p2,F2]))
      |true=>
       have hb:¬CZ .and .i64 r.fields 16=0:=by simpa [Ay] using hh
       cases ws with
       |nil=>
        have hs1:C9 r.fields 4 o [] = none:=Hh (j:=4) hh
        rw [hs1] at hst
        rw [Fj (hfail (hst.symm.trans hrun))]
        refine CW.vc Cw [0,2,3,5,6,7,8,9,10,11,14,15,16,23,31,38,41,42,47,52,57,67,72] (by kernel_rfl) ?_
        (repeat ((try refine Vc.mk' ?_);simp (maxSteps:=6000000) only [go_sem,FU,Ai,Am,p2,hb,decide_false,Dr,CX,nxp,nxv,nxr,Ej]))
        (refine ⟨[],by simp,by simp,by simp, ?_, ?_, ?_⟩ <;> simp [])
       |cons w l=>
        have hwl:=hwlen w (List.mem_cons_self ..)
        have hsu:Fy 1 (vR (top+1) (Bm s).length (m+1)) 1=vR (top+1) (Bm s).length (m+1+1):=Gl (by have:=congrArg List.length hws;simp at this;omega)
        have hmn:m+1+1≤(Bm s).length:=by have:=congrArg List.length hws;simp at this;omega
        have hdr:(Bm s).drop (m+1+1)=l:=by rw [←List.drop_drop,hws];rfl
        have w1:(w.length≤281474976710656)=True:=eq_true (by omega)
        have w2:(w.length < 4294967281)=True:=eq_true (by omega)
        have hs1:C9 r.fields 4 o (w :: l)=(Dx 4 o w).map fun o'=>(o',l):=Gj (j:=4) hh
        rw [hs1] at hst
        cases hn:Nz w with
        |none=>
         have he:Dx 4 o w=none:=by show (Nz w).map _=none;rw [hn];rfl
         rw [he] at hst
         rw [Fj (hfail (hst.symm.trans hrun))]
         have hu:∀t,Pj w t= .inr (En 12, [],t):=fun t=>by unfold Pj;rw [hn]
         refine CW.vc Cw [0,2,3,5,6,7,8,9,10,11,14,15,16,23,31,38,41,42,47,52,57,67,72] (by kernel_rfl) ?_
         (repeat ((try refine Vc.mk' ?_);simp (maxSteps:=6000000) only [go_sem,FU,Ai,Am,p2,hb,decide_false,Dr,CX,nxp,nxv,nxr,Ej,hsu,tq,Xm,w2,hu]))
         (refine ⟨[],by simp,by simp,by simp, ?_, ?_, ?_⟩ <;> simp [])
        |some b=>
         have he:Dx 4 o w=some {o with Bytes:=b}:=by show (Nz w).map _=_;rw [hn];rfl
         rw [he] at hst
         have hu:∀t,Pj w t= .inl (.string ⟨⟨b⟩⟩, [],t):=fun t=>by unfold Pj;rw [hn]
         refine CW.vc Cw [0,2,3,5,6,7,8,9,10,11,14,15,16,23,31,38,41,42,47,52,57,67,72] (by kernel_rfl) ?_
         (repeat ((try refine Vc.mk' ?_);simp (maxSteps:=6000000) only [go_sem,FU,Ai,Am,p2,hb,decide_false,Dr,CX,nxp,nxv,nxr,Ej,hsu,sh,tq,Xm,w2,hu]))
         refine .mk (5, {o with Bytes:=b},m+1) ⟨Nat.le_of_ble_eq_true rfl,hmn,HM (j:=4) hO (by omega) he,by show E4 _ _ _ _ ((Bm s).drop (m+1+1))=_;rw [hdr];exact hst.symm.trans hrun⟩ (by show 6 - 5 < 6 - 4;decide) ((by refine BR.mk' [top,top+1,top+2,top+3,top+4] hcl (by simp) (by simp) rfl (AU ?_) ?_ ?_ <;> simp [Ai,Am,I2,p2,F2]))
     ·-- CJ
      have sh:Ap .i64 ((32:Int) * Int.ofNat (Nat.pow 2 ((Int.toNat 1).min 64)))=64:=by decide
      have hst:E4 r.fields (6 - 5) 5 o ws=match C9 r.fields 5 o ws with | none=>none | some (o',ws')=>E4 r.fields (6 - 6) 6 o' ws':=rfl
      cases hh:Ay r.fields 32 with
      |false=>
       have hb:CZ .and .i64 r.fields 32=0:=by simpa [Ay] using hh
       have hs1:C9 r.fields 5 o ws=some (o,ws):=Gi (j:=5) hh
       rw [hs1] at hst
       refine CW.vc Cw [0,2,3,5,6,7,8,9,10,11,14,15,16,23,31,38,41,42,47,52,57,67,72] (by kernel_rfl) ?_
       (repeat ((try refine Vc.mk' ?_);simp (maxSteps:=6000000) only [go_sem,FU,Ai,Am,p2,hb,decide_true,sh]))
       refine .mk (6,o,m) ⟨Nat.le_of_ble_eq_true rfl,hm,hO,by rw [hws];exact hst.symm.trans hrun⟩ (by show 6 - 6 < 6 - 5;decide) ((by refine BR.mk' [top,top+1,top+2,top+3,top+4] hcl (by simp) (by simp) rfl (AU ?_) ?_ ?_ <;> simp [Ai,Am,I2,p2,F2]))
      |true=>
       have hb:¬CZ .and .i64 r.fields 32=0:=by simpa [Ay] using hh
       cases ws with
       |nil=>
        have hs1:C9 r.fields 5 o [] = none:=Hh (j:=5) hh
        rw [hs1] at hst
        rw [Fj (hfail (hst.symm.trans hrun))]
        refine CW.vc Cw [0,2,3,5,6,7,8,9,10,11,14,15,16,23,31,38,41,42,47,52,57,67,72] (by kernel_rfl) ?_
        (repeat ((try refine Vc.mk' ?_);simp (maxSteps:=6000000) only [go_sem,FU,Ai,Am,p2,hb,decide_false,Dr,CX,nxp,nxv,nxr,Ej]))
        (refine ⟨[],by simp,by simp,by simp, ?_, ?_, ?_⟩ <;> simp [])
       |cons w l=>
        have hwl:=hwlen w (List.mem_cons_self ..)
        have hsu:Fy 1 (vR (top+1) (Bm s).length (m+1)) 1=vR (top+1) (Bm s).length (m+1+1):=Gl (by have:=congrArg List.length hws;simp at this;omega)
        have hmn:m+1+1≤(Bm s).length:=by have:=congrArg List.length hws;simp at this;omega
        have hdr:(Bm s).drop (m+1+1)=l:=by rw [←List.drop_drop,hws];rfl
        have w1:(w.length≤281474976710656)=True:=eq_true (by omega)
        have w2:(w.length < 4294967281)=True:=eq_true (by omega)
        have hs1:C9 r.fields 5 o (w :: l)=(Dx 5 o w).map fun o'=>(o',l):=Gj (j:=5) hh
        rw [hs1] at hst
        cases hn:El w with
        |none=>
         have he:Dx 5 o w=none:=by show (El w).map _=none;rw [hn];rfl
         rw [he] at hst
         rw [Fj (hfail (hst.symm.trans hrun))]
         have hu:∀t,E3 w t= .inr (En 12, [],t):=fun t=>by unfold E3;rw [hn]
         refine CW.vc Cw [0,2,3,5,6,7,8,9,10,11,14,15,16,23,31,38,41,42,47,52,57,67,72] (by kernel_rfl) ?_
         (repeat ((try refine Vc.mk' ?_);simp (maxSteps:=6000000) only [go_sem,FU,Ai,Am,p2,hb,decide_false,Dr,CX,nxp,nxv,nxr,Ej,hsu,KZ,EN,w1,hv,AQ ht5,BW ht5,hu]))
         (refine ⟨[],by simp,by simp,by simp, ?_, ?_, ?_⟩ <;> simp [])
        |some n=>
         have hu:∀t,E3 w t= .inl (.int .i64 n, [],t):=fun t=>by unfold E3;rw [hn]
         have he:Dx 5 o w=some {o with CJ:=n}:=by show (El w).map _=_;rw [hn];rfl
         rw [he] at hst
         refine CW.vc Cw [0,2,3,5,6,7,8,9,10,11,14,15,16,23,31,38,41,42,47,52,57,67,72] (by kernel_rfl) ?_
         (repeat ((try refine Vc.mk' ?_);simp (maxSteps:=6000000) only [go_sem,FU,Ai,Am,p2,hb,decide_false,Dr,CX,nxp,nxv,nxr,Ej,hsu,sh,KZ,EN,w1,hv,AQ ht5,BW ht5,hu]))
         refine .mk (6, {o with CJ:=n},m+1) ⟨Nat.le_of_ble_eq_true rfl,hmn,HM (j:=5) hO (by omega) he,by show E4 _ _ _ _ ((Bm s).drop (m+1+1))=_;rw [hdr];exact hst.symm.trans hrun⟩ (by show 6 - 6 < 6 - 5;decide) ((by refine BR.mk' [top,top+1,top+2,top+3,top+4] hcl (by simp) (by simp) rfl (AU ?_) ?_ ?_ <;> simp [Ai,Am,I2,p2,F2]))
     -- END
     ·have hopF:P5 s=pt r.fields (some (o,ws)):=by rw [hF,eH,←hrun];rfl
      have hI:=R5 hO
      have hE:=Br (x:=o)
      simp only [Ai] at hI hE
      cases ws with
      |nil=>
       have z0:decide ((([] :Ha).length:Int)=0)=true:=rfl
       cases hm2:Ct o r.fields with
       |true=>
        have e:P5 s=some o:=by rw [hopF];show (if Ct o r.fields=true then some o else none)=_;rw [if_pos hm2]
        rw [il e]
        refine CW.vc Cw [0,2,3,5,6,7,8,9,10,11,14,15,16,23,31,38,41,42,47,52,57,67,72] (by kernel_rfl) ?_
        (repeat ((try refine Vc.mk' ?_);simp (maxSteps:=6000000) only [go_sem,FU,Ai,Am,p2,sL,List.length_nil,show decide (((0:Nat):Int)=0)=true from rfl,tG,Fv,hI,hE,hm2,WM,Ac,BU]))
        (refine ⟨[],by simp,by simp,by simp, ?_, ?_, ?_⟩ <;> simp [])
       |false=>
        have e:P5 s=none:=by rw [hopF];show (if Ct o r.fields=true then some o else none)=_;rw [if_neg (by rw [hm2];simp)]
        rw [Fj e]
        refine CW.vc Cw [0,2,3,5,6,7,8,9,10,11,14,15,16,23,31,38,41,42,47,52,57,67,72] (by kernel_rfl) ?_
        (repeat ((try refine Vc.mk' ?_);simp (maxSteps:=6000000) only [go_sem,FU,Ai,Am,p2,sL,List.length_nil,show decide (((0:Nat):Int)=0)=true from rfl,tG,Fv,hI,hE,hm2,WM,Ac,BG]))
        (refine ⟨[],by simp,by simp,by simp, ?_, ?_, ?_⟩ <;> simp [])
      |cons w l=>
       have e:P5 s=none:=hopF
       have z1:¬(((l.length+1:Nat):Int)=0):=by omega
       rw [Fj e]
       refine CW.vc Cw [0,2,3,5,6,7,8,9,10,11,14,15,16,23,31,38,41,42,47,52,57,67,72] (by kernel_rfl) ?_
       (repeat ((try refine Vc.mk' ?_);simp (maxSteps:=6000000) only [go_sem,FU,Ai,Am,p2,sL,z1,decide_false,WM,Ac,BG]))
       (refine ⟨[],by simp,by simp,by simp, ?_, ?_, ?_⟩ <;> simp [])
   ·rw [if_neg c] at hf
    refine CW.vc Cw [0,2,3,5,6,7,8,9,10,11,14,15,16,23,31,38,41,42,47,52,57,67,72] (by kernel_rfl) ?_
    (repeat ((try refine Vc.mk' ?_);simp (maxSteps:=6000000) only [go_sem,stOp,l1,hlt,hix,Am,AV,ix0,ld0,c,decide_false,kk]))
    refine .mk (i+1) ⟨hlt,hf⟩ (by omega) ((by refine BR.mk' [top,top+1] hcl (by simp) (by simp) rfl (AU ?_) ?_ ?_ <;> simp [Ai,LJ]))
  ·have hi2:i=12:=by omega
   subst hi2
   have e:P5 s=none:=by
    have:Ju w BV=none:=by rw [hf];rfl
    unfold P5;rw [hw,this]
   rw [Fj e]
   refine CW.vc Cw [0,2,3,5,6,7,8,9,10,11,14,15,16,23,31,38,41,42,47,52,57,67,72] (by kernel_rfl) ?_
   (repeat ((try refine Vc.mk' ?_);simp (maxSteps:=6000000) only [go_sem,stOp,zi,F5,show decide (((12:Nat):Int) < 12)=false from rfl]))
   (refine ⟨[],by simp,by simp,by simp, ?_, ?_, ?_⟩ <;> simp [])
end Go.Proofs.YthlhnangbinhoaaGreatDoor.Dm
