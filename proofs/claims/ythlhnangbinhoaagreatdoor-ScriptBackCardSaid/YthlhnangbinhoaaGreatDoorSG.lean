/- The op of a line, as the code reads it: what it computes. -/
import Derived.Test.YthlhnangbinhoaaGreatDoorSF
set_option linter.unusedSimpArgs false
set_option linter.unusedVariables false
namespace Go.Proofs.YthlhnangbinhoaaGreatDoor.Dm
open Go.Dm
set_option maxHeartbeats 16000000
set_option maxRecDepth 20000
abbrev Ld:=List (List UInt8)
def GV (j:Nat)(o:Aq)(w:List UInt8):Option Aq:=match j with
 |0=>(Fj w).map fun n=> {o with Bl:=n}
 |1=>(Fj w).map fun n=> {o with Dg:=n}
 |2=>(Fj w).map fun n=> {o with CF:=n}
 |3=>match Fj w with
  |some n=>if My n 0 4294967295=true then some {o with BS:=n} else none
  |none=>none
 |4=>(SD w).map fun b=> {o with Bytes:=b}
 |_=>(Fj w).map fun n=> {o with CB:=n}
def p2 (j:Nat):Int:=match j with
 |0=>1
 |1=>2
 |2=>4
 |3=>8
 |4=>16
 |5=>32
 |_=>64
def Dh (F:Int)(j:Nat)(o:Aq)(ws:Ld):Option (Aq×Ld):=
 if Au F (p2 j)=true then match ws with
  | []=>none
  |w :: r=>(GV j o w).map fun o'=>(o',r)
 else some (o,ws)
def Hm (F:Int):Nat→Nat→Aq→Ld→Option (Aq×Ld)
 |0,_,o,ws=>some (o,ws)
 |n+1,j,o,ws=>match Dh F j o ws with
  |none=>none
  |some (o',ws')=>Hm F n (j+1) o' ws'
def Sa (k:Int):Aq:=⟨k,0,0,0,0,0, []⟩
def vr (F:Int)(x:Option (Aq×Ld)):Option Aq:=match x with
 |some (o, [])=>if Dr o F=true then some o else none
 |_=>none
def fk (r:GI)(ws:Ld):Option Aq:=vr r.fields (Hm r.fields 6 0 (Sa r.kind) ws)
def N4 (w:List UInt8):List GI→Option GI
 | []=>none
 |r :: l=>if r.word=w then some r else N4 w l
def PV (s:List UInt8):Option Aq:=match N4 (at' (CE s) 0) B6 with
 |some r=>fk r ((CE s).drop 1)
 |none=>none
theorem Yr {w:List UInt8}{i:Nat}(h:i < 12):N4 w (B6.drop i)=if (at' B6 i).word=w then some (at' B6 i) else N4 w (B6.drop (i+1)):=by
 rw [QK (l:=B6) (k:=i) h];rfl
def vR (b n m:Nat):Value:=if m < n then .slice (some ⟨b,m,none⟩) (n - m) (n - m) else .slice (some ⟨0,0,some 0⟩) 0 0
theorem H9 {b n m:Nat}(h:m < n):G8 1 (vR b n m) 1=vR b n (m+1):=by
 unfold vR
 rw [if_pos h]
 show (if (1=0∨1 < n - m) then Value.slice (some ⟨b,m+1 * 1,none⟩) (n - m - 1) (n - m - 1) else _)=_
 by_cases c:m+1 < n
 ·rw [if_pos (by omega),if_pos c]
  congr 1
 ·rw [if_neg (by omega),if_neg c]
theorem Uu {b:Nat}{l:Ld}(h:l≠ []):AA b l=vR b l.length 0:=by
 cases l with
 |nil=>exact absurd rfl h
 |cons a l=>unfold vR;rw [if_pos (by simp)];rfl
theorem lB {hp:Hp}{b m:Nat}{l:Ld}(h:hp b=AE AH l)(hl:l≠ [])(hn:l.length≤9223372036854775807)(hm:m≤l.length):BJ AH hp (vR b l.length m) (l.drop m):=by
 induction m with
 |zero=>rw [←Uu hl];exact BJ.IP h hn
 |succ m ih=>
  have:=(ih (by omega)).drop (n:=1) (by simp;omega)
  rw [show AH.size=1 from rfl,H9 (by omega),List.drop_drop] at this
  exact this
theorem I8 {b n m:Nat}:A8 (vR b n m)= [vR b n m]:=by unfold vR;split <;> rfl
theorem JD {b n m:Nat}:(vR b n m).oneCell' = true:=by unfold vR;split <;> rfl
theorem HD {b n m:Nat}{ρ:Nat→Nat}:Av ρ (vR b n m)=vR (ρ b) n m:=by
 unfold vR
 split
 ·rfl
 ·simp [Av]
theorem Wo {i:Nat}(h:i < 12):(RX.drop (i * 3)).take 3=RM.enc (at' B6 i):=by
 have:i=0∨i=1∨i=2∨i=3∨i=4∨i=5∨i=6∨i=7∨i=8∨i=9∨i=10∨i=11:=by omega
 rcases this with rfl | rfl | rfl | rfl | rfl | rfl | rfl | rfl | rfl | rfl | rfl | rfl <;> rfl
theorem AC4 {n:Int}(h:My n 0 4294967295=true):Ar .u32 n=n:=by
 have h:0≤n∧n≤4294967295:=by simpa [My] using h
 refine Qd ?_ ?_
 ·simp only [IntKind.signed];exact h.1
 ·show n < (2 ^ 32:Int);omega
theorem sC:IE 0:=⟨by decide,by decide⟩
theorem AP {hp:Hp}{top k:Nat}{o:Option BI}(h:7≤top):Cp (hp.set (top+k) o)=Cp hp:=AO (by omega)
theorem Kb {F:Int}{j:Nat}{o:Aq}{ws:Ld}(h:Au F (p2 j)=false):Dh F j o ws=some (o,ws):=by unfold Dh;rw [if_neg (by rw [h];simp)]
theorem MG {F:Int}{j:Nat}{o:Aq}(h:Au F (p2 j)=true):Dh F j o [] = none:=by unfold Dh;rw [if_pos h]
theorem KQ {F:Int}{j:Nat}{o:Aq}{w:List UInt8}{l:Ld}(h:Au F (p2 j)=true):Dh F j o (w :: l)=(GV j o w).map fun o'=>(o',l):=by unfold Dh;rw [if_pos h]
theorem ADQ {i:Nat}(h:i < 12):1≤(at' B6 i).kind∧(at' B6 i).kind≤12:=by
 have:∀i:Fin 12,1≤(at' B6 i.val).kind∧(at' B6 i.val).kind≤12:=by decide
 exact this ⟨i,h⟩
theorem MU {ρ:Nat→Nat}:DA ρ RX=RX:=by rw [Qj];rfl
theorem KH {j:Nat}{o o':Aq}{w:List UInt8}(h:Gy o)(hw:w.length≤140737488351232)(e:GV j o w=some o'):Gy o':=by
 have num:∀ {n:Int},Fj w=some n→IE n:=fun {n} hn=>by
  obtain ⟨h1,rfl,_⟩:=UB.1 hn
  exact ad h1
 unfold GV at e
 split at e
 ·obtain ⟨n,hn,rfl⟩:=Option.map_eq_some_iff.1 e
  exact {h with r:=num hn}
 ·obtain ⟨n,hn,rfl⟩:=Option.map_eq_some_iff.1 e
  exact {h with p:=num hn}
 ·obtain ⟨n,hn,rfl⟩:=Option.map_eq_some_iff.1 e
  exact {h with g:=num hn}
 ·split at e
  ·split at e
   ·rename_i n hn hb
    cases e
    have:0≤n∧n≤4294967295:=by simpa [My] using hb
    exact {h with e0:=this.1,e1:=by show n < _;omega}
   ·cases e
  ·cases e
 ·obtain ⟨b,hb,rfl⟩:=Option.map_eq_some_iff.1 e
  refine {h with b:= ?_}
  show b.length≤_
  unfold SD at hb
  split at hb
  ·cases hb;exact Nat.zero_le _
  ·split at hb
   ·rename_i a l hu
    cases hb
    unfold Oo at hu
    split at hu
    ·have hu:=Option.some.inj hu
     rw [←hu,L0];omega
    ·cases hu
   ·cases hb
 ·obtain ⟨n,hn,rfl⟩:=Option.map_eq_some_iff.1 e
  exact {h with t:=num hn}
def jQ:FuncId→Bz:=Cx (Cx (Cx (Cx zD 43 aY) 77 X6) 74 Cs) 75 FH
theorem DP:DU Tryz.prog tt.get jQ:=(((NU.add AA9).add fp).add sS).add wg
theorem uL:jQ 73=Ao:=rfl
theorem y7:jQ 40=MS:=rfl
theorem EZ:jQ 74=Cs:=rfl
theorem Ll:jQ 75=FH:=rfl
theorem uC:jQ 77=X6:=rfl
theorem s9:jQ 76=M9:=rfl
theorem Xe:jQ 37=Ab:=rfl
theorem tz:jQ 41=Fm:=rfl
theorem ABc:jQ 35=F7:=rfl
def nz (s:List UInt8)(top:Nat):(Value×BV×Nat) ⊕ (Value×BV×Nat):=match PV s with
 |some o=> .inl (.agg ⟨A7.enc o⟩, [],top)
 |none=> .inr (Fp 12, [],top)
theorem G9 {s:List UInt8}{top:Nat}(h:PV s=none):nz s top= .inr (Fp 12, [],top):=by unfold nz;rw [h]
theorem mr {s:List UInt8}{o:Aq}{top:Nat}(h:PV s=some o):nz s top= .inl (.agg ⟨A7.enc o⟩, [],top):=by unfold nz;rw [h]
def OQ:Bz:= .pan (fun args hp _=>match args with | [.string ⟨⟨s⟩⟩]=>s.length < 4294967281∧Cp hp | _=>False) (fun args _ top=>match args with | [s]=>nz (strOf s) top | _=> .inr (undef, [],top))
def stOp (hp:Hp)(top:Nat)(s:List UInt8)(i:Nat):SS:=⟨[(2, .pointer (some ⟨top,0,none⟩),true),(3,AA (top+1) (CE s),true),(14, .agg ⟨RX⟩,true),(15, .int .i64 (i:Int),true)],hp.A6 [(top,some (.cells true 0 (A7.enc (Sa 0)))),(top+1,AE AH (CE s))],top+2⟩
def Gj (hp:Hp)(top:Nat)(s:List UInt8)(r:GI)(x:Nat×Aq×Nat):SS:=⟨[(2, .pointer (some ⟨top,0,none⟩),true),(5, .pointer (some ⟨top+2,0,none⟩),true),(6, .pointer (some ⟨top+3,0,none⟩),true),(7, .pointer (some ⟨top+4,0,none⟩),true),(8, .func (.func 74) ⟨[]⟩ ⟨[.pointer (some ⟨top+4,0,none⟩)]⟩,true),(9, .int .i64 (p2 x.1),true)],
 hp.A6 [(top,some (.cells true 0 (A7.enc (Sa 0)))),(top+1,AE AH (CE s)),(top+2,some (.cells true 0 (RM.enc r))),(top+3,some (.cells true 0 (A7.enc x.2.1))),(top+4,some (.cells true 0 [vR (top+1) (CE s).length (x.2.2+1)]))],top+5⟩
theorem ABJ:BR Tryz.prog 38 OQ:=by
 refine .Pr Vi ?_
 intro args hp top hpre hcl hsc
 match args,hpre with
 | [.string ⟨⟨s⟩⟩],⟨hs,hv⟩=>
 have hv0:=hv
 obtain ⟨hp1,⟨ml,hml⟩,hv3,hv4⟩:=hv0
 have ht5:=FE hcl hv
 simp only [AU]
 have hne:=jH s
 have hsl:1≤(CE s).length:=by
  cases h:CE s with
  |nil=>exact absurd h hne
  |cons a l=>simp
 have hmx:(∃m,hp 2=some (QB 1 (.int .i64 m)))=True:=eq_true ⟨ml,hml⟩
 have t2:2 < top:=by omega
 refine Ey.Bn Bu Vi rfl 91 rfl [.cell 2 43] rfl (show 1≤91 by decide) ?_
 refine CW.vc DP [0,2,3,5,6,7,8,9,10,11,14,15,16,23,31,38,41,42,47,52,57,67,72] (by kernel_rfl) ?_
 (repeat ((try refine Vc.mk' ?_);simp (maxSteps:=6000000) only [go_sem,uL,Ao,A3,hs,hmx,AG t2,y7,MS]))
 have eO:∀ {r:GI},N4 (at' (CE s) 0) B6=some r→PV s=fk r ((CE s).drop 1):=fun {r} h=>by unfold PV;rw [h]
 have hW:∀ {h':Hp},h' (top+1)=AE AH (CE s)→BJ AH h' (AA (top+1) (CE s)) (CE s):=fun e=>BJ.IP e (by have:=Qa s;omega)
 have ix0:Ak tt.get 67 (AA (top+1) (CE s)) (.int .i64 0)=(Ag (AA (top+1) (CE s)) 0,True):=by
  have:=CS (hW (h':=(fun i=>if i=top+1 then AE AH (CE s) else none)) (by simp)) (k:= .i64) (n:=0) (by decide) (by omega)
  simpa using this
 have ld0:∀ {h':Hp},h' (top+1)=AE AH (CE s)→BA tt.get h' 9 (Ag (AA (top+1) (CE s)) 0)=(.string ⟨⟨at' (CE s) 0⟩⟩,True):=fun e=>Cf (hW e) (i:=0) (by omega)
 generalize hw:at' (CE s) 0=w at ld0 eO
 refine CW.D9 (stOp hp top s) (fun i=>i≤12∧N4 w B6=N4 w (B6.drop i)) (fun i=>12 - i) 0 ⟨by decide,rfl⟩ ?_ ?_
 ·exact (by refine Bj.mk' [top,top+1] hcl (by simp) (by simp) rfl (Ac ?_) ?_ ?_ <;> simp [Sa,Aw,MU])
 ·rintro i ⟨hi,hf⟩
  by_cases hlt:i < 12
  ·have l1:((i:Int) < 12):=by omega
   have kk:Ar .i64 ((i:Int)+1)=((i+1:Nat):Int):=B0 hlt (by omega)
   have hix:=Wo hlt
   rw [Yr hlt] at hf
   generalize hr:at' B6 i=r at hf hix
   by_cases c:r.word=w
   ·rw [if_pos c] at hf
    have hF:=eO hf
    subst c
    have hn0:(CE s).length≤9223372036854775807:=by have:=Qa s;omega
    have sl1:∀ {h':Hp},h' (top+1)=AE AH (CE s)→Bv tt.get h' 67 (AA (top+1) (CE s)) (some (.int .i64 1)) none=(vR (top+1) (CE s).length 1,True):=fun {h'} e=>by
     have:=DI (hW e) (k:= .i64) (n:=1) (by decide) (by omega)
     rw [this,Uu hne]
     simp only [show (1:Int).toNat=1 from rfl]
     rw [H9 (by omega)]
    refine CW.vc DP [0,2,3,5,6,7,8,9,10,11,14,15,16,23,31,38,41,42,47,52,57,67,72] (by kernel_rfl) ?_
    (repeat ((try refine Vc.mk' ?_);simp (maxSteps:=6000000) only [go_sem,stOp,l1,hlt,hix,Ay,Ah,ix0,ld0,sl1,I8,JD,decide_true,EY,GS]))
    refine CW.D9 (Gj hp top s r) (fun x=>x.1≤6∧x.2.2+1≤(CE s).length∧Gy x.2.1∧Hm r.fields (6 - x.1) x.1 x.2.1 ((CE s).drop (x.2.2+1))=Hm r.fields 6 0 (Sa r.kind) ((CE s).drop 1)) (fun x=>6 - x.1) (0,Sa r.kind,0) ⟨Nat.zero_le _,hsl, ?_,rfl⟩ ?_ ?_
    ·have hk:=ADQ hlt
     rw [hr] at hk
     exact ⟨⟨by show -9223372036854775808≤r.kind;omega,by show r.kind≤_;omega⟩,sC,sC,sC,Int.le_refl 0,by show (0:Int) < _;decide,sC,Nat.zero_le _⟩
    ·exact (by refine Bj.mk' [top,top+1,top+2,top+3,top+4] hcl (by simp) (by simp) rfl (Ac ?_) ?_ ?_ <;> simp [Aw,Ay,Sa,p2,HD])
    ·rintro ⟨j,o,m⟩ ⟨hj,hm,hO,hrun⟩
     generalize hws:(CE s).drop (m+1)=ws at hrun
     have hS:∀ {h':Hp},h' (top+1)=AE AH (CE s)→BJ AH h' (vR (top+1) (CE s).length (m+1)) ws:=fun e=>hws ▸ lB e hne hn0 hm
     have nxp:∀ {h':Hp},h' (top+4)=some (.cells true 0 [vR (top+1) (CE s).length (m+1)])→h' (top+1)=AE AH (CE s)→(∃v l,Vu h' (top+4) v l)=True:=fun a b=>eq_true ⟨_,_,a,hS b⟩
     have nxv:∀ {h':Hp},h' (top+4)=some (.cells true 0 [vR (top+1) (CE s).length (m+1)])→TO h' (top+4)=vR (top+1) (CE s).length (m+1):=fun a=>by unfold TO;rw [a]
     have nxr:∀ {h':Hp},h' (top+1)=AE AH (CE s)→AH.rd h' (vR (top+1) (CE s).length (m+1))=ws:=fun b=>(hS b).rd
     have sL:∀ {h':Hp},CQ tt.get h' 67 (vR (top+1) (CE s).length (m+1))=(.int .i64 (ws.length:Int),True):=C4 (hS (h':=(fun i=>if i=top+1 then AE AH (CE s) else none)) (by simp))
     have hwlen:∀w∈ws,w.length≤s.length:=fun w hw=>VM s w (List.mem_of_mem_drop (hws ▸ hw))
     have hfail:none=Hm r.fields 6 0 (Sa r.kind) ((CE s).drop 1)→PV s=none:=fun e=>by rw [hF,fk,←e];rfl
     have hcase:j=0∨j=1∨j=2∨j=3∨j=4∨j=5∨j=6:=by have:j≤6:=hj;omega
     rcases hcase with rfl | rfl | rfl | rfl | rfl | rfl | rfl
     -- FIELDS
     ·-- Bl
      have sh:Ar .i64 ((1:Int) * Int.ofNat (Nat.pow 2 ((Int.toNat 1).min 64)))=2:=by decide
      have hst:Hm r.fields (6 - 0) 0 o ws=match Dh r.fields 0 o ws with | none=>none | some (o',ws')=>Hm r.fields (6 - 1) 1 o' ws':=rfl
      cases hh:Au r.fields 1 with
      |false=>
       have hb:Cu .and .i64 r.fields 1=0:=by simpa [Au] using hh
       have hs1:Dh r.fields 0 o ws=some (o,ws):=Kb (j:=0) hh
       rw [hs1] at hst
       refine CW.vc DP [0,2,3,5,6,7,8,9,10,11,14,15,16,23,31,38,41,42,47,52,57,67,72] (by kernel_rfl) ?_
       (repeat ((try refine Vc.mk' ?_);simp (maxSteps:=6000000) only [go_sem,Gj,Aw,Ay,p2,hb,decide_true,sh]))
       refine .mk (1,o,m) ⟨Nat.le_of_ble_eq_true rfl,hm,hO,by rw [hws];exact hst.symm.trans hrun⟩ (by show 6 - 1 < 6 - 0;decide) ((by refine Bj.mk' [top,top+1,top+2,top+3,top+4] hcl (by simp) (by simp) rfl (Ac ?_) ?_ ?_ <;> simp [Aw,Ay,Sa,p2,HD]))
      |true=>
       have hb:¬Cu .and .i64 r.fields 1=0:=by simpa [Au] using hh
       cases ws with
       |nil=>
        have hs1:Dh r.fields 0 o [] = none:=MG (j:=0) hh
        rw [hs1] at hst
        rw [G9 (hfail (hst.symm.trans hrun))]
        refine CW.vc DP [0,2,3,5,6,7,8,9,10,11,14,15,16,23,31,38,41,42,47,52,57,67,72] (by kernel_rfl) ?_
        (repeat ((try refine Vc.mk' ?_);simp (maxSteps:=6000000) only [go_sem,Gj,Aw,Ay,p2,hb,decide_false,EZ,Cs,nxp,nxv,nxr,Fg]))
        (refine ⟨[],by simp,by simp,by simp, ?_, ?_, ?_⟩ <;> simp [])
       |cons w l=>
        have hwl:=hwlen w (List.mem_cons_self ..)
        have hsu:G8 1 (vR (top+1) (CE s).length (m+1)) 1=vR (top+1) (CE s).length (m+1+1):=H9 (by have:=congrArg List.length hws;simp at this;omega)
        have hmn:m+1+1≤(CE s).length:=by have:=congrArg List.length hws;simp at this;omega
        have hdr:(CE s).drop (m+1+1)=l:=by rw [←List.drop_drop,hws];rfl
        have w1:(w.length≤281474976710656)=True:=eq_true (by omega)
        have w2:(w.length < 4294967281)=True:=eq_true (by omega)
        have hs1:Dh r.fields 0 o (w :: l)=(GV 0 o w).map fun o'=>(o',l):=KQ (j:=0) hh
        rw [hs1] at hst
        cases hn:Fj w with
        |none=>
         have he:GV 0 o w=none:=by show (Fj w).map _=none;rw [hn];rfl
         rw [he] at hst
         rw [G9 (hfail (hst.symm.trans hrun))]
         have hu:∀t,GA w t= .inr (Fp 12, [],t):=fun t=>by unfold GA;rw [hn]
         refine CW.vc DP [0,2,3,5,6,7,8,9,10,11,14,15,16,23,31,38,41,42,47,52,57,67,72] (by kernel_rfl) ?_
         (repeat ((try refine Vc.mk' ?_);simp (maxSteps:=6000000) only [go_sem,Gj,Aw,Ay,p2,hb,decide_false,EZ,Cs,nxp,nxv,nxr,Fg,hsu,I8,JD,sh,Ll,FH,w1,hv,AO ht5,AP ht5,hu]))
         (refine ⟨[],by simp,by simp,by simp, ?_, ?_, ?_⟩ <;> simp [])
        |some n=>
         have hu:∀t,GA w t= .inl (.int .i64 n, [],t):=fun t=>by unfold GA;rw [hn]
         have he:GV 0 o w=some {o with Bl:=n}:=by show (Fj w).map _=_;rw [hn];rfl
         rw [he] at hst
         refine CW.vc DP [0,2,3,5,6,7,8,9,10,11,14,15,16,23,31,38,41,42,47,52,57,67,72] (by kernel_rfl) ?_
         (repeat ((try refine Vc.mk' ?_);simp (maxSteps:=6000000) only [go_sem,Gj,Aw,Ay,p2,hb,decide_false,EZ,Cs,nxp,nxv,nxr,Fg,hsu,I8,JD,sh,Ll,FH,w1,hv,AO ht5,AP ht5,hu]))
         refine .mk (1, {o with Bl:=n},m+1) ⟨Nat.le_of_ble_eq_true rfl,hmn,KH (j:=0) hO (by omega) he,by show Hm _ _ _ _ ((CE s).drop (m+1+1))=_;rw [hdr];exact hst.symm.trans hrun⟩ (by show 6 - 1 < 6 - 0;decide) ((by refine Bj.mk' [top,top+1,top+2,top+3,top+4] hcl (by simp) (by simp) rfl (Ac ?_) ?_ ?_ <;> simp [Aw,Ay,Sa,p2,HD]))
     ·-- Dg
      have sh:Ar .i64 ((2:Int) * Int.ofNat (Nat.pow 2 ((Int.toNat 1).min 64)))=4:=by decide
      have hst:Hm r.fields (6 - 1) 1 o ws=match Dh r.fields 1 o ws with | none=>none | some (o',ws')=>Hm r.fields (6 - 2) 2 o' ws':=rfl
      cases hh:Au r.fields 2 with
      |false=>
       have hb:Cu .and .i64 r.fields 2=0:=by simpa [Au] using hh
       have hs1:Dh r.fields 1 o ws=some (o,ws):=Kb (j:=1) hh
       rw [hs1] at hst
       refine CW.vc DP [0,2,3,5,6,7,8,9,10,11,14,15,16,23,31,38,41,42,47,52,57,67,72] (by kernel_rfl) ?_
       (repeat ((try refine Vc.mk' ?_);simp (maxSteps:=6000000) only [go_sem,Gj,Aw,Ay,p2,hb,decide_true,sh]))
       refine .mk (2,o,m) ⟨Nat.le_of_ble_eq_true rfl,hm,hO,by rw [hws];exact hst.symm.trans hrun⟩ (by show 6 - 2 < 6 - 1;decide) ((by refine Bj.mk' [top,top+1,top+2,top+3,top+4] hcl (by simp) (by simp) rfl (Ac ?_) ?_ ?_ <;> simp [Aw,Ay,Sa,p2,HD]))
      |true=>
       have hb:¬Cu .and .i64 r.fields 2=0:=by simpa [Au] using hh
       cases ws with
       |nil=>
        have hs1:Dh r.fields 1 o [] = none:=MG (j:=1) hh
        rw [hs1] at hst
        rw [G9 (hfail (hst.symm.trans hrun))]
        refine CW.vc DP [0,2,3,5,6,7,8,9,10,11,14,15,16,23,31,38,41,42,47,52,57,67,72] (by kernel_rfl) ?_
        (repeat ((try refine Vc.mk' ?_);simp (maxSteps:=6000000) only [go_sem,Gj,Aw,Ay,p2,hb,decide_false,EZ,Cs,nxp,nxv,nxr,Fg]))
        (refine ⟨[],by simp,by simp,by simp, ?_, ?_, ?_⟩ <;> simp [])
       |cons w l=>
        have hwl:=hwlen w (List.mem_cons_self ..)
        have hsu:G8 1 (vR (top+1) (CE s).length (m+1)) 1=vR (top+1) (CE s).length (m+1+1):=H9 (by have:=congrArg List.length hws;simp at this;omega)
        have hmn:m+1+1≤(CE s).length:=by have:=congrArg List.length hws;simp at this;omega
        have hdr:(CE s).drop (m+1+1)=l:=by rw [←List.drop_drop,hws];rfl
        have w1:(w.length≤281474976710656)=True:=eq_true (by omega)
        have w2:(w.length < 4294967281)=True:=eq_true (by omega)
        have hs1:Dh r.fields 1 o (w :: l)=(GV 1 o w).map fun o'=>(o',l):=KQ (j:=1) hh
        rw [hs1] at hst
        cases hn:Fj w with
        |none=>
         have he:GV 1 o w=none:=by show (Fj w).map _=none;rw [hn];rfl
         rw [he] at hst
         rw [G9 (hfail (hst.symm.trans hrun))]
         have hu:∀t,GA w t= .inr (Fp 12, [],t):=fun t=>by unfold GA;rw [hn]
         refine CW.vc DP [0,2,3,5,6,7,8,9,10,11,14,15,16,23,31,38,41,42,47,52,57,67,72] (by kernel_rfl) ?_
         (repeat ((try refine Vc.mk' ?_);simp (maxSteps:=6000000) only [go_sem,Gj,Aw,Ay,p2,hb,decide_false,EZ,Cs,nxp,nxv,nxr,Fg,hsu,I8,JD,sh,Ll,FH,w1,hv,AO ht5,AP ht5,hu]))
         (refine ⟨[],by simp,by simp,by simp, ?_, ?_, ?_⟩ <;> simp [])
        |some n=>
         have hu:∀t,GA w t= .inl (.int .i64 n, [],t):=fun t=>by unfold GA;rw [hn]
         have he:GV 1 o w=some {o with Dg:=n}:=by show (Fj w).map _=_;rw [hn];rfl
         rw [he] at hst
         refine CW.vc DP [0,2,3,5,6,7,8,9,10,11,14,15,16,23,31,38,41,42,47,52,57,67,72] (by kernel_rfl) ?_
         (repeat ((try refine Vc.mk' ?_);simp (maxSteps:=6000000) only [go_sem,Gj,Aw,Ay,p2,hb,decide_false,EZ,Cs,nxp,nxv,nxr,Fg,hsu,I8,JD,sh,Ll,FH,w1,hv,AO ht5,AP ht5,hu]))
         refine .mk (2, {o with Dg:=n},m+1) ⟨Nat.le_of_ble_eq_true rfl,hmn,KH (j:=1) hO (by omega) he,by show Hm _ _ _ _ ((CE s).drop (m+1+1))=_;rw [hdr];exact hst.symm.trans hrun⟩ (by show 6 - 2 < 6 - 1;decide) ((by refine Bj.mk' [top,top+1,top+2,top+3,top+4] hcl (by simp) (by simp) rfl (Ac ?_) ?_ ?_ <;> simp [Aw,Ay,Sa,p2,HD]))
     ·-- CF
      have sh:Ar .i64 ((4:Int) * Int.ofNat (Nat.pow 2 ((Int.toNat 1).min 64)))=8:=by decide
      have hst:Hm r.fields (6 - 2) 2 o ws=match Dh r.fields 2 o ws with | none=>none | some (o',ws')=>Hm r.fields (6 - 3) 3 o' ws':=rfl
      cases hh:Au r.fields 4 with
      |false=>
       have hb:Cu .and .i64 r.fields 4=0:=by simpa [Au] using hh
       have hs1:Dh r.fields 2 o ws=some (o,ws):=Kb (j:=2) hh
       rw [hs1] at hst
       refine CW.vc DP [0,2,3,5,6,7,8,9,10,11,14,15,16,23,31,38,41,42,47,52,57,67,72] (by kernel_rfl) ?_
       (repeat ((try refine Vc.mk' ?_);simp (maxSteps:=6000000) only [go_sem,Gj,Aw,Ay,p2,hb,decide_true,sh]))
       refine .mk (3,o,m) ⟨Nat.le_of_ble_eq_true rfl,hm,hO,by rw [hws];exact hst.symm.trans hrun⟩ (by show 6 - 3 < 6 - 2;decide) ((by refine Bj.mk' [top,top+1,top+2,top+3,top+4] hcl (by simp) (by simp) rfl (Ac ?_) ?_ ?_ <;> simp [Aw,Ay,Sa,p2,HD]))
      |true=>
       have hb:¬Cu .and .i64 r.fields 4=0:=by simpa [Au] using hh
       cases ws with
       |nil=>
        have hs1:Dh r.fields 2 o [] = none:=MG (j:=2) hh
        rw [hs1] at hst
        rw [G9 (hfail (hst.symm.trans hrun))]
        refine CW.vc DP [0,2,3,5,6,7,8,9,10,11,14,15,16,23,31,38,41,42,47,52,57,67,72] (by kernel_rfl) ?_
        (repeat ((try refine Vc.mk' ?_);simp (maxSteps:=6000000) only [go_sem,Gj,Aw,Ay,p2,hb,decide_false,EZ,Cs,nxp,nxv,nxr,Fg]))
        (refine ⟨[],by simp,by simp,by simp, ?_, ?_, ?_⟩ <;> simp [])
       |cons w l=>
        have hwl:=hwlen w (List.mem_cons_self ..)
        have hsu:G8 1 (vR (top+1) (CE s).length (m+1)) 1=vR (top+1) (CE s).length (m+1+1):=H9 (by have:=congrArg List.length hws;simp at this;omega)
        have hmn:m+1+1≤(CE s).length:=by have:=congrArg List.length hws;simp at this;omega
        have hdr:(CE s).drop (m+1+1)=l:=by rw [←List.drop_drop,hws];rfl
        have w1:(w.length≤281474976710656)=True:=eq_true (by omega)
        have w2:(w.length < 4294967281)=True:=eq_true (by omega)
        have hs1:Dh r.fields 2 o (w :: l)=(GV 2 o w).map fun o'=>(o',l):=KQ (j:=2) hh
        rw [hs1] at hst
        cases hn:Fj w with
        |none=>
         have he:GV 2 o w=none:=by show (Fj w).map _=none;rw [hn];rfl
         rw [he] at hst
         rw [G9 (hfail (hst.symm.trans hrun))]
         have hu:∀t,GA w t= .inr (Fp 12, [],t):=fun t=>by unfold GA;rw [hn]
         refine CW.vc DP [0,2,3,5,6,7,8,9,10,11,14,15,16,23,31,38,41,42,47,52,57,67,72] (by kernel_rfl) ?_
         (repeat ((try refine Vc.mk' ?_);simp (maxSteps:=6000000) only [go_sem,Gj,Aw,Ay,p2,hb,decide_false,EZ,Cs,nxp,nxv,nxr,Fg,hsu,I8,JD,sh,Ll,FH,w1,hv,AO ht5,AP ht5,hu]))
         (refine ⟨[],by simp,by simp,by simp, ?_, ?_, ?_⟩ <;> simp [])
        |some n=>
         have hu:∀t,GA w t= .inl (.int .i64 n, [],t):=fun t=>by unfold GA;rw [hn]
         have he:GV 2 o w=some {o with CF:=n}:=by show (Fj w).map _=_;rw [hn];rfl
         rw [he] at hst
         refine CW.vc DP [0,2,3,5,6,7,8,9,10,11,14,15,16,23,31,38,41,42,47,52,57,67,72] (by kernel_rfl) ?_
         (repeat ((try refine Vc.mk' ?_);simp (maxSteps:=6000000) only [go_sem,Gj,Aw,Ay,p2,hb,decide_false,EZ,Cs,nxp,nxv,nxr,Fg,hsu,I8,JD,sh,Ll,FH,w1,hv,AO ht5,AP ht5,hu]))
         refine .mk (3, {o with CF:=n},m+1) ⟨Nat.le_of_ble_eq_true rfl,hmn,KH (j:=2) hO (by omega) he,by show Hm _ _ _ _ ((CE s).drop (m+1+1))=_;rw [hdr];exact hst.symm.trans hrun⟩ (by show 6 - 3 < 6 - 2;decide) ((by refine Bj.mk' [top,top+1,top+2,top+3,top+4] hcl (by simp) (by simp) rfl (Ac ?_) ?_ ?_ <;> simp [Aw,Ay,Sa,p2,HD]))
     ·-- BS
      have sh:Ar .i64 ((8:Int) * Int.ofNat (Nat.pow 2 ((Int.toNat 1).min 64)))=16:=by decide
      have hst:Hm r.fields (6 - 3) 3 o ws=match Dh r.fields 3 o ws with | none=>none | some (o',ws')=>Hm r.fields (6 - 4) 4 o' ws':=rfl
      cases hh:Au r.fields 8 with
      |false=>
       have hb:Cu .and .i64 r.fields 8=0:=by simpa [Au] using hh
       have hs1:Dh r.fields 3 o ws=some (o,ws):=Kb (j:=3) hh
       rw [hs1] at hst
       refine CW.vc DP [0,2,3,5,6,7,8,9,10,11,14,15,16,23,31,38,41,42,47,52,57,67,72] (by kernel_rfl) ?_
       (repeat ((try refine Vc.mk' ?_);simp (maxSteps:=6000000) only [go_sem,Gj,Aw,Ay,p2,hb,decide_true,sh]))
       refine .mk (4,o,m) ⟨Nat.le_of_ble_eq_true rfl,hm,hO,by rw [hws];exact hst.symm.trans hrun⟩ (by show 6 - 4 < 6 - 3;decide) ((by refine Bj.mk' [top,top+1,top+2,top+3,top+4] hcl (by simp) (by simp) rfl (Ac ?_) ?_ ?_ <;> simp [Aw,Ay,Sa,p2,HD]))
      |true=>
       have hb:¬Cu .and .i64 r.fields 8=0:=by simpa [Au] using hh
       cases ws with
       |nil=>
        have hs1:Dh r.fields 3 o [] = none:=MG (j:=3) hh
        rw [hs1] at hst
        rw [G9 (hfail (hst.symm.trans hrun))]
        refine CW.vc DP [0,2,3,5,6,7,8,9,10,11,14,15,16,23,31,38,41,42,47,52,57,67,72] (by kernel_rfl) ?_
        (repeat ((try refine Vc.mk' ?_);simp (maxSteps:=6000000) only [go_sem,Gj,Aw,Ay,p2,hb,decide_false,EZ,Cs,nxp,nxv,nxr,Fg]))
        (refine ⟨[],by simp,by simp,by simp, ?_, ?_, ?_⟩ <;> simp [])
       |cons w l=>
        have hwl:=hwlen w (List.mem_cons_self ..)
        have hsu:G8 1 (vR (top+1) (CE s).length (m+1)) 1=vR (top+1) (CE s).length (m+1+1):=H9 (by have:=congrArg List.length hws;simp at this;omega)
        have hmn:m+1+1≤(CE s).length:=by have:=congrArg List.length hws;simp at this;omega
        have hdr:(CE s).drop (m+1+1)=l:=by rw [←List.drop_drop,hws];rfl
        have w1:(w.length≤281474976710656)=True:=eq_true (by omega)
        have w2:(w.length < 4294967281)=True:=eq_true (by omega)
        have hs1:Dh r.fields 3 o (w :: l)=(GV 3 o w).map fun o'=>(o',l):=KQ (j:=3) hh
        rw [hs1] at hst
        cases hn:Fj w with
        |none=>
         have he:GV 3 o w=none:=by show (match Fj w with | some n=>_ | none=>none)=none;rw [hn]
         rw [he] at hst
         rw [G9 (hfail (hst.symm.trans hrun))]
         have hu:∀t,GA w t= .inr (Fp 12, [],t):=fun t=>by unfold GA;rw [hn]
         refine CW.vc DP [0,2,3,5,6,7,8,9,10,11,14,15,16,23,31,38,41,42,47,52,57,67,72] (by kernel_rfl) ?_
         (repeat ((try refine Vc.mk' ?_);simp (maxSteps:=6000000) only [go_sem,Gj,Aw,Ay,p2,hb,decide_false,EZ,Cs,nxp,nxv,nxr,Fg,hsu,I8,JD,sh,Ll,FH,w1,hv,AO ht5,AP ht5,hu]))
         (refine ⟨[],by simp,by simp,by simp, ?_, ?_, ?_⟩ <;> simp [])
        |some n=>
         have hu:∀t,GA w t= .inl (.int .i64 n, [],t):=fun t=>by unfold GA;rw [hn]
         cases hbt:My n 0 4294967295 with
         |false=>
          have he:GV 3 o w=none:=by show (match Fj w with | some n=>_ | none=>none)=none;rw [hn];dsimp only;rw [if_neg (by rw [hbt];simp)]
          rw [he] at hst
          rw [G9 (hfail (hst.symm.trans hrun))]
          refine CW.vc DP [0,2,3,5,6,7,8,9,10,11,14,15,16,23,31,38,41,42,47,52,57,67,72] (by kernel_rfl) ?_
          (repeat ((try refine Vc.mk' ?_);simp (maxSteps:=6000000) only [go_sem,Gj,Aw,Ay,p2,hb,decide_false,EZ,Cs,nxp,nxv,nxr,Fg,hsu,I8,JD,sh,Ll,FH,w1,hv,AO ht5,AP ht5,hu,s9,M9,hbt,Xe,Ab,BT]))
          (refine ⟨[],by simp,by simp,by simp, ?_, ?_, ?_⟩ <;> simp [])
         |true=>
          have he:GV 3 o w=some {o with BS:=n}:=by show (match Fj w with | some n=>_ | none=>none)=_;rw [hn];dsimp only;rw [if_pos hbt]
          rw [he] at hst
          have hwr:Ar .u32 n=n:=AC4 hbt
          refine CW.vc DP [0,2,3,5,6,7,8,9,10,11,14,15,16,23,31,38,41,42,47,52,57,67,72] (by kernel_rfl) ?_
          (repeat ((try refine Vc.mk' ?_);simp (maxSteps:=6000000) only [go_sem,Gj,Aw,Ay,p2,hb,decide_false,EZ,Cs,nxp,nxv,nxr,Fg,hsu,I8,JD,sh,Ll,FH,w1,hv,AO ht5,AP ht5,hu,s9,M9,hbt,Xe,Ab,Bi,hwr]))
          refine .mk (4, {o with BS:=n},m+1) ⟨Nat.le_of_ble_eq_true rfl,hmn,KH (j:=3) hO (by omega) he,by show Hm _ _ _ _ ((CE s).drop (m+1+1))=_;rw [hdr];exact hst.symm.trans hrun⟩ (by show 6 - 4 < 6 - 3;decide) ((by refine Bj.mk' [top,top+1,top+2,top+3,top+4] hcl (by simp) (by simp) rfl (Ac ?_) ?_ ?_ <;> simp [Aw,Ay,Sa,p2,HD]))
     ·-- Bytes
      have sh:Ar .i64 ((16:Int) * Int.ofNat (Nat.pow 2 ((Int.toNat 1).min 64)))=32:=by decide
      have hst:Hm r.fields (6 - 4) 4 o ws=match Dh r.fields 4 o ws with | none=>none | some (o',ws')=>Hm r.fields (6 - 5) 5 o' ws':=rfl
      cases hh:Au r.fields 16 with
      |false=>
       have hb:Cu .and .i64 r.fields 16=0:=by simpa [Au] using hh
       have hs1:Dh r.fields 4 o ws=some (o,ws):=Kb (j:=4) hh
       rw [hs1] at hst
       refine CW.vc DP [0,2,3,5,6,7,8,9,10,11,14,15,16,23,31,38,41,42,47,52,57,67,72] (by kernel_rfl) ?_
       (repeat ((try refine Vc.mk' ?_);simp (maxSteps:=6000000) only [go_sem,Gj,Aw,Ay,p2,hb,decide_true,sh]))
       refine .mk (5,o,m) ⟨Nat.le_of_ble_eq_true rfl,hm,hO,by rw [hws];exact hst.symm.trans hrun⟩ (by show 6 - 5 < 6 - 4;decide) ((by refine Bj.mk' [top,top+1,top+2,top+3,top+4] hcl (by simp) (by simp) rfl (Ac ?_) ?_ ?_ <;> simp [Aw,Ay,Sa,p2,HD]))
      |true=>
       have hb:¬Cu .and .i64 r.fields 16=0:=by simpa [Au] using hh
       cases ws with
       |nil=>
        have hs1:Dh r.fields 4 o [] = none:=MG (j:=4) hh
        rw [hs1] at hst
        rw [G9 (hfail (hst.symm.trans hrun))]
        refine CW.vc DP [0,2,3,5,6,7,8,9,10,11,14,15,16,23,31,38,41,42,47,52,57,67,72] (by kernel_rfl) ?_
        (repeat ((try refine Vc.mk' ?_);simp (maxSteps:=6000000) only [go_sem,Gj,Aw,Ay,p2,hb,decide_false,EZ,Cs,nxp,nxv,nxr,Fg]))
        (refine ⟨[],by simp,by simp,by simp, ?_, ?_, ?_⟩ <;> simp [])
       |cons w l=>
        have hwl:=hwlen w (List.mem_cons_self ..)
        have hsu:G8 1 (vR (top+1) (CE s).length (m+1)) 1=vR (top+1) (CE s).length (m+1+1):=H9 (by have:=congrArg List.length hws;simp at this;omega)
        have hmn:m+1+1≤(CE s).length:=by have:=congrArg List.length hws;simp at this;omega
        have hdr:(CE s).drop (m+1+1)=l:=by rw [←List.drop_drop,hws];rfl
        have w1:(w.length≤281474976710656)=True:=eq_true (by omega)
        have w2:(w.length < 4294967281)=True:=eq_true (by omega)
        have hs1:Dh r.fields 4 o (w :: l)=(GV 4 o w).map fun o'=>(o',l):=KQ (j:=4) hh
        rw [hs1] at hst
        cases hn:SD w with
        |none=>
         have he:GV 4 o w=none:=by show (SD w).map _=none;rw [hn];rfl
         rw [he] at hst
         rw [G9 (hfail (hst.symm.trans hrun))]
         have hu:∀t,QA w t= .inr (Fp 12, [],t):=fun t=>by unfold QA;rw [hn]
         refine CW.vc DP [0,2,3,5,6,7,8,9,10,11,14,15,16,23,31,38,41,42,47,52,57,67,72] (by kernel_rfl) ?_
         (repeat ((try refine Vc.mk' ?_);simp (maxSteps:=6000000) only [go_sem,Gj,Aw,Ay,p2,hb,decide_false,EZ,Cs,nxp,nxv,nxr,Fg,hsu,I8,JD,sh,uC,X6,w2,hu]))
         (refine ⟨[],by simp,by simp,by simp, ?_, ?_, ?_⟩ <;> simp [])
        |some b=>
         have he:GV 4 o w=some {o with Bytes:=b}:=by show (SD w).map _=_;rw [hn];rfl
         rw [he] at hst
         have hu:∀t,QA w t= .inl (.string ⟨⟨b⟩⟩, [],t):=fun t=>by unfold QA;rw [hn]
         refine CW.vc DP [0,2,3,5,6,7,8,9,10,11,14,15,16,23,31,38,41,42,47,52,57,67,72] (by kernel_rfl) ?_
         (repeat ((try refine Vc.mk' ?_);simp (maxSteps:=6000000) only [go_sem,Gj,Aw,Ay,p2,hb,decide_false,EZ,Cs,nxp,nxv,nxr,Fg,hsu,I8,JD,sh,uC,X6,w2,hu]))
         refine .mk (5, {o with Bytes:=b},m+1) ⟨Nat.le_of_ble_eq_true rfl,hmn,KH (j:=4) hO (by omega) he,by show Hm _ _ _ _ ((CE s).drop (m+1+1))=_;rw [hdr];exact hst.symm.trans hrun⟩ (by show 6 - 5 < 6 - 4;decide) ((by refine Bj.mk' [top,top+1,top+2,top+3,top+4] hcl (by simp) (by simp) rfl (Ac ?_) ?_ ?_ <;> simp [Aw,Ay,Sa,p2,HD]))
     ·-- CB
      have sh:Ar .i64 ((32:Int) * Int.ofNat (Nat.pow 2 ((Int.toNat 1).min 64)))=64:=by decide
      have hst:Hm r.fields (6 - 5) 5 o ws=match Dh r.fields 5 o ws with | none=>none | some (o',ws')=>Hm r.fields (6 - 6) 6 o' ws':=rfl
      cases hh:Au r.fields 32 with
      |false=>
       have hb:Cu .and .i64 r.fields 32=0:=by simpa [Au] using hh
       have hs1:Dh r.fields 5 o ws=some (o,ws):=Kb (j:=5) hh
       rw [hs1] at hst
       refine CW.vc DP [0,2,3,5,6,7,8,9,10,11,14,15,16,23,31,38,41,42,47,52,57,67,72] (by kernel_rfl) ?_
       (repeat ((try refine Vc.mk' ?_);simp (maxSteps:=6000000) only [go_sem,Gj,Aw,Ay,p2,hb,decide_true,sh]))
       refine .mk (6,o,m) ⟨Nat.le_of_ble_eq_true rfl,hm,hO,by rw [hws];exact hst.symm.trans hrun⟩ (by show 6 - 6 < 6 - 5;decide) ((by refine Bj.mk' [top,top+1,top+2,top+3,top+4] hcl (by simp) (by simp) rfl (Ac ?_) ?_ ?_ <;> simp [Aw,Ay,Sa,p2,HD]))
      |true=>
       have hb:¬Cu .and .i64 r.fields 32=0:=by simpa [Au] using hh
       cases ws with
       |nil=>
        have hs1:Dh r.fields 5 o [] = none:=MG (j:=5) hh
        rw [hs1] at hst
        rw [G9 (hfail (hst.symm.trans hrun))]
        refine CW.vc DP [0,2,3,5,6,7,8,9,10,11,14,15,16,23,31,38,41,42,47,52,57,67,72] (by kernel_rfl) ?_
        (repeat ((try refine Vc.mk' ?_);simp (maxSteps:=6000000) only [go_sem,Gj,Aw,Ay,p2,hb,decide_false,EZ,Cs,nxp,nxv,nxr,Fg]))
        (refine ⟨[],by simp,by simp,by simp, ?_, ?_, ?_⟩ <;> simp [])
       |cons w l=>
        have hwl:=hwlen w (List.mem_cons_self ..)
        have hsu:G8 1 (vR (top+1) (CE s).length (m+1)) 1=vR (top+1) (CE s).length (m+1+1):=H9 (by have:=congrArg List.length hws;simp at this;omega)
        have hmn:m+1+1≤(CE s).length:=by have:=congrArg List.length hws;simp at this;omega
        have hdr:(CE s).drop (m+1+1)=l:=by rw [←List.drop_drop,hws];rfl
        have w1:(w.length≤281474976710656)=True:=eq_true (by omega)
        have w2:(w.length < 4294967281)=True:=eq_true (by omega)
        have hs1:Dh r.fields 5 o (w :: l)=(GV 5 o w).map fun o'=>(o',l):=KQ (j:=5) hh
        rw [hs1] at hst
        cases hn:Fj w with
        |none=>
         have he:GV 5 o w=none:=by show (Fj w).map _=none;rw [hn];rfl
         rw [he] at hst
         rw [G9 (hfail (hst.symm.trans hrun))]
         have hu:∀t,GA w t= .inr (Fp 12, [],t):=fun t=>by unfold GA;rw [hn]
         refine CW.vc DP [0,2,3,5,6,7,8,9,10,11,14,15,16,23,31,38,41,42,47,52,57,67,72] (by kernel_rfl) ?_
         (repeat ((try refine Vc.mk' ?_);simp (maxSteps:=6000000) only [go_sem,Gj,Aw,Ay,p2,hb,decide_false,EZ,Cs,nxp,nxv,nxr,Fg,hsu,I8,JD,sh,Ll,FH,w1,hv,AO ht5,AP ht5,hu]))
         (refine ⟨[],by simp,by simp,by simp, ?_, ?_, ?_⟩ <;> simp [])
        |some n=>
         have hu:∀t,GA w t= .inl (.int .i64 n, [],t):=fun t=>by unfold GA;rw [hn]
         have he:GV 5 o w=some {o with CB:=n}:=by show (Fj w).map _=_;rw [hn];rfl
         rw [he] at hst
         refine CW.vc DP [0,2,3,5,6,7,8,9,10,11,14,15,16,23,31,38,41,42,47,52,57,67,72] (by kernel_rfl) ?_
         (repeat ((try refine Vc.mk' ?_);simp (maxSteps:=6000000) only [go_sem,Gj,Aw,Ay,p2,hb,decide_false,EZ,Cs,nxp,nxv,nxr,Fg,hsu,I8,JD,sh,Ll,FH,w1,hv,AO ht5,AP ht5,hu]))
         refine .mk (6, {o with CB:=n},m+1) ⟨Nat.le_of_ble_eq_true rfl,hmn,KH (j:=5) hO (by omega) he,by show Hm _ _ _ _ ((CE s).drop (m+1+1))=_;rw [hdr];exact hst.symm.trans hrun⟩ (by show 6 - 6 < 6 - 5;decide) ((by refine Bj.mk' [top,top+1,top+2,top+3,top+4] hcl (by simp) (by simp) rfl (Ac ?_) ?_ ?_ <;> simp [Aw,Ay,Sa,p2,HD]))
     -- END
     ·have hopF:PV s=vr r.fields (some (o,ws)):=by rw [hF,fk,←hrun];rfl
      have hI:=Vy hO
      have hE:=E8 (x:=o)
      simp only [Aw] at hI hE
      cases ws with
      |nil=>
       have z0:decide ((([] :Ld).length:Int)=0)=true:=rfl
       cases hm2:Dr o r.fields with
       |true=>
        have e:PV s=some o:=by rw [hopF];show (if Dr o r.fields=true then some o else none)=_;rw [if_pos hm2]
        rw [mr e]
        refine CW.vc DP [0,2,3,5,6,7,8,9,10,11,14,15,16,23,31,38,41,42,47,52,57,67,72] (by kernel_rfl) ?_
        (repeat ((try refine Vc.mk' ?_);simp (maxSteps:=6000000) only [go_sem,Gj,Aw,Ay,p2,sL,z0,List.length_nil,show decide (((0:Nat):Int)=0)=true from rfl,tz,Fm,hI,hE,hm2,Xe,Ab,Bi]))
        (refine ⟨[],by simp,by simp,by simp, ?_, ?_, ?_⟩ <;> simp [Aw])
       |false=>
        have e:PV s=none:=by rw [hopF];show (if Dr o r.fields=true then some o else none)=_;rw [if_neg (by rw [hm2];simp)]
        rw [G9 e]
        refine CW.vc DP [0,2,3,5,6,7,8,9,10,11,14,15,16,23,31,38,41,42,47,52,57,67,72] (by kernel_rfl) ?_
        (repeat ((try refine Vc.mk' ?_);simp (maxSteps:=6000000) only [go_sem,Gj,Aw,Ay,p2,sL,z0,List.length_nil,show decide (((0:Nat):Int)=0)=true from rfl,tz,Fm,hI,hE,hm2,Xe,Ab,BT]))
        (refine ⟨[],by simp,by simp,by simp, ?_, ?_, ?_⟩ <;> simp [])
      |cons w l=>
       have e:PV s=none:=hopF
       have z1:¬(((l.length+1:Nat):Int)=0):=by omega
       rw [G9 e]
       refine CW.vc DP [0,2,3,5,6,7,8,9,10,11,14,15,16,23,31,38,41,42,47,52,57,67,72] (by kernel_rfl) ?_
       (repeat ((try refine Vc.mk' ?_);simp (maxSteps:=6000000) only [go_sem,Gj,Aw,Ay,p2,sL,z1,decide_false,Xe,Ab,BT]))
       (refine ⟨[],by simp,by simp,by simp, ?_, ?_, ?_⟩ <;> simp [])
   ·rw [if_neg c] at hf
    refine CW.vc DP [0,2,3,5,6,7,8,9,10,11,14,15,16,23,31,38,41,42,47,52,57,67,72] (by kernel_rfl) ?_
    (repeat ((try refine Vc.mk' ?_);simp (maxSteps:=6000000) only [go_sem,stOp,l1,hlt,hix,Ay,Ah,ix0,ld0,c,decide_false,kk]))
    refine .mk (i+1) ⟨hlt,hf⟩ (by omega) ((by refine Bj.mk' [top,top+1] hcl (by simp) (by simp) rfl (Ac ?_) ?_ ?_ <;> simp [Aw,MU]))
  ·have hi2:i=12:=by omega
   subst hi2
   have e:PV s=none:=by
    have:N4 w B6=none:=by rw [hf];rfl
    unfold PV;rw [hw,this]
   rw [G9 e]
   refine CW.vc DP [0,2,3,5,6,7,8,9,10,11,14,15,16,23,31,38,41,42,47,52,57,67,72] (by kernel_rfl) ?_
   (repeat ((try refine Vc.mk' ?_);simp (maxSteps:=6000000) only [go_sem,stOp,Int.lt_irrefl,decide_false,ABc,F7,show decide (((12:Nat):Int) < 12)=false from rfl]))
   (refine ⟨[],by simp,by simp,by simp, ?_, ?_, ?_⟩ <;> simp [])
end Go.Proofs.YthlhnangbinhoaaGreatDoor.Dm
