/- The op of a line, as the code reads it: what it computes. -/
import Derived.Test.YthlhnangbinhoaaGreatDoorSF
set_option linter.unusedVariables false
namespace Go.Proofs.YthlhnangbinhoaaGreatDoor.Dm
open Go.Dm
set_option maxHeartbeats 16000000
set_option maxRecDepth 20000
abbrev Ec:=List (List UInt8)
def Hr (j:Nat)(o:A0)(w:List UInt8):Option A0:=match j with
 |0=>(HC w).map fun n=> {o with Bg:=n}
 |1=>(HC w).map fun n=> {o with DQ:=n}
 |2=>(HC w).map fun n=> {o with CH:=n}
 |3=>match HC w with
  |some n=>if GC n 0 4294967295=true then some {o with Be:=n} else none
  |none=>none
 |4=>(Rx w).map fun b=> {o with Bytes:=b}
 |_=>(HC w).map fun n=> {o with Cj:=n}
def p2(j:Nat):Int:=match j with
 |0=>1
 |1=>2
 |2=>4
 |3=>8
 |4=>16
 |5=>32
 |_=>64
def PN (F:Int)(j:Nat)(o:A0)(ws:Ec):Option (A0×Ec):=
 if A3 F (p2 j)=true then match ws with
  | []=>none
  |w :: r=>(Hr j o w).map fun o'=>(o',r)
 else some (o,ws)
def LI (F:Int):Nat→Nat→A0→Ec→Option (A0×Ec)
 |0,_,o,ws=>some (o,ws)
 |n+1,j,o,ws=>match PN F j o ws with
  |none=>none
  |some (o',ws')=>LI F n (j+1) o' ws'
def MS(k:Int):A0:=⟨k,0,0,0,0,0, []⟩
def nw (F:Int)(x:Option (A0×Ec)):Option A0:=match x with
 |some (o, [])=>if CX o F=true then some o else none
 |_=>none
def eH (r:Da)(ws:Ec):Option A0:=nw r.fields (LI r.fields 6 0 (MS r.kind) ws)
def J5(w:List UInt8):List Da→Option Da
 | []=>none
 |r :: l=>if r.word=w then some r else J5 w l
def ON (s:List UInt8):Option A0:=match J5 (at' (Bl s) 0) BI with
 |some r=>eH r ((Bl s).drop 1)
 |none=>none
theorem Yf {w:List UInt8}{i:Nat}(h:i < 12):J5 w (BI.drop i)=if (at' BI i).word=w then some (at' BI i) else J5 w (BI.drop (i+1)):=by
 rw [Kk (l:=BI) (k:=i) h];rfl
def vR (b n m:Nat):Value:=if m < n then .slice (some ⟨b,m,none⟩) (n - m) (n - m) else .slice (some ⟨0,0,some 0⟩) 0 0
theorem P7 {b n m:Nat}(h:m < n):Gf 1 (vR b n m) 1=vR b n (m+1):=by
 unfold vR
 rw [if_pos h]
 show (if (1=0∨1 < n - m) then Value.slice (some ⟨b,m+1 * 1,none⟩) (n - m - 1) (n - m - 1) else _)=_
 by_cases c:m+1 < n
 ·rw [if_pos (by omega),if_pos c]
  congr 1
 ·rw [if_neg (by omega),if_neg c]
theorem U9 {b:Nat}{l:Ec}(h:l≠ []):AA b l=vR b l.length 0:=by
 cases l with
 |nil=>exact absurd rfl h
 |cons a l=>unfold vR;rw [if_pos (by simp)];rfl
theorem mH {hp:Hp}{b m:Nat}{l:Ec}(h:hp b=AD AB l)(hl:l≠ [])(hn:l.length≤9223372036854775807)(hm:m≤l.length):BF AB hp (vR b l.length m) (l.drop m):=by
 induction m with
 |zero=>rw [←U9 hl];exact BF.DK h hn
 |succ m ih=>
  have:=(ih (by omega)).drop (n:=1) (by simp;omega)
  rw [show AB.size=1 from rfl,P7 (by omega),List.drop_drop] at this
  exact this
theorem ACO {b n m:Nat}:Ar (vR b n m)= [vR b n m]:=by unfold vR;split <;> rfl
theorem ACP{b n m:Nat}:(vR b n m).oneCell' = true:=by unfold vR;split <;> rfl
theorem ZZ {b n m:Nat}{ρ:Nat→Nat}:Ao ρ (vR b n m)=vR (ρ b) n m:=by
 unfold vR
 split
 ·rfl
 ·simp [Ao]
theorem XI {i:Nat}(h:i < 12):(RW.drop (i * 3)).take 3=Qi.enc (at' BI i):=by
 have:i=0∨i=1∨i=2∨i=3∨i=4∨i=5∨i=6∨i=7∨i=8∨i=9∨i=10∨i=11:=by omega
 rcases this with rfl | rfl | rfl | rfl | rfl | rfl | rfl | rfl | rfl | rfl | rfl | rfl <;> rfl
theorem ACa{n:Int}(h:GC n 0 4294967295=true):Ad .u32 n=n:=by
 have h:0≤n∧n≤4294967295:=by simpa[GC]using h
 refine Gh ?_ ?_
 ·simp only[IntKind.signed];exact h.1
 ·show n < (2 ^ 32:Int);omega
theorem Lw:Ev 0:=⟨by decide,by decide⟩
theorem FO {hp:Hp}{top k:Nat}{o:Option A8}(h:7≤top):C8 (hp.set (top+k) o)=C8 hp:=CR (by omega)
theorem P4 {F:Int}{j:Nat}{o:A0}{ws:Ec}(h:A3 F (p2 j)=false):PN F j o ws=some (o,ws):=by unfold PN;rw [if_neg (by rw [h];simp)]
theorem VS {F:Int}{j:Nat}{o:A0}(h:A3 F (p2 j)=true):PN F j o [] = none:=by unfold PN;rw [if_pos h]
theorem P3 {F:Int}{j:Nat}{o:A0}{w:List UInt8}{l:Ec}(h:A3 F (p2 j)=true):PN F j o (w :: l)=(Hr j o w).map fun o'=>(o',l):=by unfold PN;rw [if_pos h]
theorem AEi {i:Nat}(h:i < 12):1≤(at' BI i).kind∧(at' BI i).kind≤12:=by
 have:∀i:Fin 12,1≤(at' BI i.val).kind∧(at' BI i.val).kind≤12:=by decide
 exact this ⟨i,h⟩
theorem K4{ρ:Nat→Nat}:Cg ρ RW=RW:=by rw[RX];rfl
theorem XO {j:Nat}{o o':A0}{w:List UInt8}(h:GS o)(hw:w.length≤140737488351232)(e:Hr j o w=some o'):GS o':=by
 have num:∀ {n:Int},HC w=some n→Ev n:=fun {n} hn=>by
  obtain ⟨h1,rfl,_⟩:=EW.1 hn
  exact VE h1
 unfold Hr at e
 split at e
 ·obtain ⟨n,hn,rfl⟩:=Option.map_eq_some_iff.1 e
  exact {h with r:=num hn}
 ·obtain ⟨n,hn,rfl⟩:=Option.map_eq_some_iff.1 e
  exact {h with p:=num hn}
 ·obtain ⟨n,hn,rfl⟩:=Option.map_eq_some_iff.1 e
  exact {h with g:=num hn}
 ·split at e
  ·split at e
   ·rename_i n hn hb
    cases e
    have:0≤n∧n≤4294967295:=by simpa [GC] using hb
    exact {h with e0:=this.1,e1:=by show n < _;omega}
   ·cases e
  ·cases e
 ·obtain ⟨b,hb,rfl⟩:=Option.map_eq_some_iff.1 e
  refine {h with b:= ?_}
  show b.length≤_
  unfold Rx at hb
  split at hb
  ·cases hb;exact Nat.zero_le _
  ·split at hb
   ·rename_i a l hu
    cases hb
    unfold GL at hu
    split at hu
    ·have hu:=Option.some.inj hu
     rw [←hu,GA];omega
    ·cases hu
   ·cases hb
 ·obtain ⟨n,hn,rfl⟩:=Option.map_eq_some_iff.1 e
  exact {h with t:=num hn}
def gE:FuncId→BE:=BV (BV (BV (BV zG 43 Zw) 77 Z3) 74 Mg) 75 L3
theorem Mv:Bp Tryz.prog tt.get gE:=(((Mu.add AAc).add mD).add pM).add vQ
theorem tk:gE 73=EE:=rfl
theorem zL:gE 40=Ko:=rfl
theorem gF:gE 74=Mg:=rfl
theorem zK:gE 75=L3:=rfl
theorem zM:gE 77=Z3:=rfl
theorem zI:gE 76=Ny:=rfl
theorem sC:gE 37=Bx:=rfl
theorem zN:gE 41=GF:=rfl
theorem zJ:gE 35=GW:=rfl
def pd (s:List UInt8)(top:Nat):(Value×A6×Nat) ⊕ (Value×A6×Nat):=match ON s with
 |some o=> .inl (.agg ⟨Aw.enc o⟩, [],top)
 |none=> .inr (QA 12, [],top)
theorem RL {s:List UInt8}{top:Nat}(h:ON s=none):pd s top= .inr (QA 12, [],top):=by unfold pd;rw [h]
theorem jz {s:List UInt8}{o:A0}{top:Nat}(h:ON s=some o):pd s top= .inl (.agg ⟨Aw.enc o⟩, [],top):=by unfold pd;rw [h]
def QZ:BE:= .pan (fun args hp _=>match args with | [.string ⟨⟨s⟩⟩]=>s.length < 4294967281∧C8 hp | _=>False) (fun args _ top=>match args with | [s]=>pd (strOf s) top | _=> .inr (undef, [],top))
def stOp (hp:Hp)(top:Nat)(s:List UInt8)(i:Nat):SS:=⟨[(2, .pointer (some ⟨top,0,none⟩),true),(3,AA (top+1) (Bl s),true),(14, .agg ⟨RW⟩,true),(15, .int .i64 (i:Int),true)],hp.Ac [(top,some (.cells true 0 (Aw.enc (MS 0)))),(top+1,AD AB (Bl s))],top+2⟩
def lB (hp:Hp)(top:Nat)(s:List UInt8)(r:Da)(x:Nat×A0×Nat):SS:=⟨[(2, .pointer (some ⟨top,0,none⟩),true),(5, .pointer (some ⟨top+2,0,none⟩),true),(6, .pointer (some ⟨top+3,0,none⟩),true),(7, .pointer (some ⟨top+4,0,none⟩),true),(8, .func (.func 74) ⟨[]⟩ ⟨[.pointer (some ⟨top+4,0,none⟩)]⟩,true),(9, .int .i64 (p2 x.1),true)],
 hp.Ac [(top,some (.cells true 0 (Aw.enc (MS 0)))),(top+1,AD AB (Bl s)),(top+2,some (.cells true 0 (Qi.enc r))),(top+3,some (.cells true 0 (Aw.enc x.2.1))),(top+4,some (.cells true 0 [vR (top+1) (Bl s).length (x.2.2+1)]))],top+5⟩
theorem ABO:Ag Tryz.prog 38 QZ:=by
  refine .PD aR ?_
  intro args hp top hpre hcl hsc
  match args,hpre with
  | [.string ⟨⟨s⟩⟩],⟨hs,hv⟩=>
  have hv0:=hv
  obtain ⟨hp1,⟨ml,hml⟩,hv3,hv4⟩:=hv0
  have ht5:=Em hcl hv
  simp only [AH]
  have hne:=Kc s
  have hsl:1≤(Bl s).length:=by
    cases h:Bl s with
    |nil=>exact absurd h hne
    |cons a l=>simp
  have hmx:(∃m,hp 2=some (Pc 1 (.int .i64 m)))=True:=eq_true ⟨ml,hml⟩
  have t2:2 < top:=by omega
  refine D4.Af Am aR rfl 91 rfl [.cell 2 43] rfl (show 1≤91 by decide) ?_
  refine CW.vc Mv [0,2,3,5,6,7,8,9,10,11,14,15,16,23,31,38,41,42,47,52,57,67,72] (by kernel_rfl) ?_
  (repeat ((try refine Vc.mk' ?_);simp (maxSteps:=6000000) only [go_sem,tk,EE,Hf,hs,hmx,Bw t2,zL,Ko]))
  have eO:∀ {r:Da},J5 (at' (Bl s) 0) BI=some r→ON s=eH r ((Bl s).drop 1):=fun {r} h=>by unfold ON;rw [h]
  have hW:∀ {h':Hp},h' (top+1)=AD AB (Bl s)→BF AB h' (AA (top+1) (Bl s)) (Bl s):=fun e=>BF.DK e (by have:=K9 s;omega)
  have ix0:AZ tt.get 67 (AA (top+1) (Bl s)) (.int .i64 0)=(Ah (AA (top+1) (Bl s)) 0,True):=by
    have:=Bo (hW (h':=(fun i=>if i=top+1 then AD AB (Bl s) else none)) (by simp)) (k:= .i64) (n:=0) (by decide) (by omega)
    simpa using this
  have ld0:∀ {h':Hp},h' (top+1)=AD AB (Bl s)→BN tt.get h' 9 (Ah (AA (top+1) (Bl s)) 0)=(.string ⟨⟨at' (Bl s) 0⟩⟩,True):=fun e=>B9 (hW e) (i:=0) (by omega)
  generalize hw:at' (Bl s) 0=w at ld0 eO
  refine CW.Bc (stOp hp top s) (fun i=>i≤12∧J5 w BI=J5 w (BI.drop i)) (fun i=>12 - i) 0 ⟨by decide,rfl⟩ ?_ ?_
  · exact (by refine Al.mk' [top,top+1] hcl (by simp) (by simp) rfl (AF ?_) ?_ ?_ <;> simp [MS,Az,K4])
  · rintro i ⟨hi,hf⟩
    by_cases hlt:i < 12
    · have l1:((i:Int) < 12):=by omega
      have kk:Ad .i64 ((i:Int)+1)=((i+1:Nat):Int):=Ae hlt (by omega)
      have hix:=XI hlt
      rw [Yf hlt] at hf
      generalize hr:at' BI i=r at hf hix
      by_cases c:r.word=w
      · rw [if_pos c] at hf
        have hF:=eO hf
        subst c
        have hn0:(Bl s).length≤9223372036854775807:=by have:=K9 s;omega
        have sl1:∀ {h':Hp},h' (top+1)=AD AB (Bl s)→B5 tt.get h' 67 (AA (top+1) (Bl s)) (some (.int .i64 1)) none=(vR (top+1) (Bl s).length 1,True):=fun {h'} e=>by
          have:=HF (hW e) (k:= .i64) (n:=1) (by decide) (by omega)
          rw [this,U9 hne]
          simp only [show (1:Int).toNat=1 from rfl]
          rw [P7 (by omega)]
        refine CW.vc Mv [0,2,3,5,6,7,8,9,10,11,14,15,16,23,31,38,41,42,47,52,57,67,72] (by kernel_rfl) ?_
        (repeat ((try refine Vc.mk' ?_);simp (maxSteps:=6000000) only [go_sem,stOp,l1,hlt,hix,Bb,Ay,ix0,ld0,sl1,ACO,ACP,decide_true,Ex,FP]))
        refine CW.Bc (lB hp top s r) (fun x=>x.1≤6∧x.2.2+1≤(Bl s).length∧GS x.2.1∧LI r.fields (6 - x.1) x.1 x.2.1 ((Bl s).drop (x.2.2+1))=LI r.fields 6 0 (MS r.kind) ((Bl s).drop 1)) (fun x=>6 - x.1) (0,MS r.kind,0) ⟨Nat.zero_le _,hsl, ?_,rfl⟩ ?_ ?_
        · have hk:=AEi hlt
          rw [hr] at hk
          exact ⟨⟨by show -9223372036854775808≤r.kind;omega,by show r.kind≤_;omega⟩,Lw,Lw,Lw,Int.le_refl 0,by show (0:Int) < _;decide,Lw,Nat.zero_le _⟩
        · exact (by refine Al.mk' [top,top+1,top+2,top+3,top+4] hcl (by simp) (by simp) rfl (AF ?_) ?_ ?_ <;> simp [Az,Bb,MS,p2,ZZ])
        · rintro ⟨j,o,m⟩ ⟨hj,hm,hO,hrun⟩
          generalize hws:(Bl s).drop (m+1)=ws at hrun
          have hS:∀ {h':Hp},h' (top+1)=AD AB (Bl s)→BF AB h' (vR (top+1) (Bl s).length (m+1)) ws:=fun e=>hws ▸ mH e hne hn0 hm
          have nxp:∀ {h':Hp},h' (top+4)=some (.cells true 0 [vR (top+1) (Bl s).length (m+1)])→h' (top+1)=AD AB (Bl s)→(∃v l,T5 h' (top+4) v l)=True:=fun a b=>eq_true ⟨_,_,a,hS b⟩
          have nxv:∀ {h':Hp},h' (top+4)=some (.cells true 0 [vR (top+1) (Bl s).length (m+1)])→Td h' (top+4)=vR (top+1) (Bl s).length (m+1):=fun a=>by unfold Td;rw [a]
          have nxr:∀ {h':Hp},h' (top+1)=AD AB (Bl s)→AB.rd h' (vR (top+1) (Bl s).length (m+1))=ws:=fun b=>(hS b).rd
          have sL:∀ {h':Hp},Bv tt.get h' 67 (vR (top+1) (Bl s).length (m+1))=(.int .i64 (ws.length:Int),True):=CC (hS (h':=(fun i=>if i=top+1 then AD AB (Bl s) else none)) (by simp))
          have hwlen:∀w∈ws,w.length≤s.length:=fun w hw=>JL s w (List.mem_of_mem_drop (hws ▸ hw))
          have hfail:none=LI r.fields 6 0 (MS r.kind) ((Bl s).drop 1)→ON s=none:=fun e=>by rw [hF,eH,←e];rfl
          rcases Nat.lt_or_ge j 6 with hj6 | hj6
          case' inr=>
            obtain rfl:j=6:=by have:j≤6:=hj;omega
            have hopF:ON s=nw r.fields (some (o,ws)):=by rw [hF,eH,←hrun];rfl
            have hI:=Ut hO
            have hE:=Ej (x:=o)
            simp only [Az] at hI hE
            rcases ws with _ | ⟨w,l⟩
          case' inr.nil=>rcases hm2:CX o r.fields with _ | _
          case' inr.nil.false=>
            have e:ON s=none:=by rw [hopF];show (if CX o r.fields=true then some o else none)=_;rw [if_neg (by rw [hm2];simp)]
            rw [RL e]
          case' inr.nil.true=>
            have e:ON s=some o:=by rw [hopF];show (if CX o r.fields=true then some o else none)=_;rw [if_pos hm2]
            rw [jz e]
          case' inr.cons=>
            have e:ON s=none:=hopF
            have hm2:¬(((l.length+1:Nat):Int)=0):=by omega
            rw [RL e]
          rotate_left
          all_goals try (
            have z0:decide (((0:Nat):Int)=0)=true:=rfl
            refine CW.vc Mv [0,2,3,5,6,7,8,9,10,11,14,15,16,23,31,38,41,42,47,52,57,67,72] (by kernel_rfl) ?_
            (repeat ((try refine Vc.mk' ?_);simp (maxSteps:=6000000) only [go_sem,lB,Az,Bb,p2,sL,z0,List.length_nil,List.length_cons,zN,GF,hI,hE,hm2,decide_false,sC,Bx,Fs,EU]))
            (refine ⟨[],by simp,by simp,by simp, ?_, ?_, ?_⟩ <;> simp []))
          obtain ⟨k,hk⟩:∃k,k=j+1:=⟨_,rfl⟩
          have hst:LI r.fields (6 - j) j o ws=match PN r.fields j o ws with | none=>none | some (o',ws')=>LI r.fields (6 - k) k o' ws':=by rw [show 6 - j=6 - k+1 by omega,hk];rfl
          have hcase:(j=0∧k=1)∨(j=1∧k=2)∨(j=2∧k=3)∨(j=3∧k=4)∨(j=4∧k=5)∨(j=5∧k=6):=by omega
          have sh:(Ad .i64 ((1:Int) * Int.ofNat (Nat.pow 2 ((Int.toNat 1).min 64)))=2∧Ad .i64 ((2:Int) * Int.ofNat (Nat.pow 2 ((Int.toNat 1).min 64)))=4∧Ad .i64 ((4:Int) * Int.ofNat (Nat.pow 2 ((Int.toNat 1).min 64)))=8)∧Ad .i64 ((8:Int) * Int.ofNat (Nat.pow 2 ((Int.toNat 1).min 64)))=16∧Ad .i64 ((16:Int) * Int.ofNat (Nat.pow 2 ((Int.toNat 1).min 64)))=32∧Ad .i64 ((32:Int) * Int.ofNat (Nat.pow 2 ((Int.toNat 1).min 64)))=64:=by decide
          clear hk
          rcases hh:A3 r.fields (p2 j) with _ | _
          · have hb:DS .and .i64 r.fields (p2 j)=0:=by simpa [A3] using hh
            rw [P4 hh] at hst
            rcases hcase with ⟨rfl,hk⟩ | ⟨rfl,hk⟩ | ⟨rfl,hk⟩ | ⟨rfl,hk⟩ | ⟨rfl,hk⟩ | ⟨rfl,hk⟩
            all_goals
              simp only [p2] at hb
              refine CW.vc Mv [0,2,3,5,6,7,8,9,10,11,14,15,16,23,31,38,41,42,47,52,57,67,72] (by kernel_rfl) ?_
              (repeat ((try refine Vc.mk' ?_);simp (maxSteps:=6000000) only [go_sem,lB,Az,Bb,p2,hb,decide_true,sh]))
              refine .mk (k,o,m) ⟨by show k≤6;omega,hm,hO,by rw [hws];exact hst.symm.trans hrun⟩ (by show 6 - k < 6 - _;omega) (by subst hk;exact ((by refine Al.mk' [top,top+1,top+2,top+3,top+4] hcl (by simp) (by simp) rfl (AF ?_) ?_ ?_ <;> simp [Az,Bb,MS,p2,ZZ])))
          have hb:¬DS .and .i64 r.fields (p2 j)=0:=by simpa [A3] using hh
          rcases ws with _ | ⟨w,l⟩
          · rw [VS hh] at hst
            rw [RL (hfail (hst.symm.trans hrun))]
            rcases hcase with ⟨rfl,hk⟩ | ⟨rfl,hk⟩ | ⟨rfl,hk⟩ | ⟨rfl,hk⟩ | ⟨rfl,hk⟩ | ⟨rfl,hk⟩
            all_goals
              simp only [p2] at hb
              refine CW.vc Mv [0,2,3,5,6,7,8,9,10,11,14,15,16,23,31,38,41,42,47,52,57,67,72] (by kernel_rfl) ?_
              (repeat ((try refine Vc.mk' ?_);simp (maxSteps:=6000000) only [go_sem,lB,Az,Bb,p2,hb,decide_false,gF,Mg,nxp,nxv,nxr,W5]))
              (refine ⟨[],by simp,by simp,by simp, ?_, ?_, ?_⟩ <;> simp [])
          have hwl:=hwlen w (List.mem_cons_self ..)
          have hsu:Gf 1 (vR (top+1) (Bl s).length (m+1)) 1=vR (top+1) (Bl s).length (m+1+1):=P7 (by have:=congrArg List.length hws;simp at this;omega)
          have hmn:m+1+1≤(Bl s).length:=by have:=congrArg List.length hws;simp at this;omega
          have hdr:(Bl s).drop (m+1+1)=l:=by rw [←List.drop_drop,hws];rfl
          have w1:(w.length≤281474976710656)=True:=eq_true (by omega)
          have w2:(w.length < 4294967281)=True:=eq_true (by omega)
          rw [P3 hh] at hst
          rcases he:Hr j o w with _ | o'
          case' none=>rw [he] at hst;rw [RL (hfail (hst.symm.trans hrun))]
          case' some=>rw [he] at hst
          all_goals
            rcases hcase with ⟨rfl,hk⟩ | ⟨rfl,hk⟩ | ⟨rfl,hk⟩ | ⟨rfl,hk⟩ | ⟨rfl,hk⟩ | ⟨rfl,hk⟩
            all_goals
              have he1:=he
              simp only [p2] at hb
              unfold Hr at he
              rcases hn:HC w with _ | n <;> rcases hu:Rx w with _ | b <;> simp [hn,hu] at he
              all_goals
                refine CW.vc Mv [0,2,3,5,6,7,8,9,10,11,14,15,16,23,31,38,41,42,47,52,57,67,72] (by kernel_rfl) ?_
                (repeat ((try refine Vc.mk' ?_);simp (maxSteps:=6000000) only [go_sem,lB,Az,Bb,p2,hb,decide_false,gF,Mg,nxp,nxv,nxr,W5,hsu,sh,zK,L3,w1,hv,CR ht5,FO ht5,Pb,VY,hn,hu,zI,Ny,he,sC,Bx,Fs,EU,ACa,zM,Z3,w2]))
                first
                  | ((refine ⟨[],by simp,by simp,by simp, ?_, ?_, ?_⟩ <;> simp []);done)
                  | (first | subst he | obtain ⟨_,rfl⟩:=he
                     exact .mk (k,_,m+1) ⟨by show k≤6;omega,hmn,XO hO (by omega) he1,by show LI _ _ _ _ ((Bl s).drop (m+1+1))=_;rw [hdr];exact hst.symm.trans hrun⟩ (by show 6 - k < 6 - _;omega) (by subst hk;exact ((by refine Al.mk' [top,top+1,top+2,top+3,top+4] hcl (by simp) (by simp) rfl (AF ?_) ?_ ?_ <;> simp [Az,Bb,MS,p2,ZZ]))))
      · rw [if_neg c] at hf
        refine CW.vc Mv [0,2,3,5,6,7,8,9,10,11,14,15,16,23,31,38,41,42,47,52,57,67,72] (by kernel_rfl) ?_
        (repeat ((try refine Vc.mk' ?_);simp (maxSteps:=6000000) only [go_sem,stOp,l1,hlt,hix,Bb,Ay,ix0,ld0,c,decide_false,kk]))
        refine .mk (i+1) ⟨hlt,hf⟩ (by omega) ((by refine Al.mk' [top,top+1] hcl (by simp) (by simp) rfl (AF ?_) ?_ ?_ <;> simp [Az,K4]))
    · have hi2:i=12:=by omega
      subst hi2
      have e:ON s=none:=by
        have:J5 w BI=none:=by rw [hf];rfl
        unfold ON;rw [hw,this]
      rw [RL e]
      refine CW.vc Mv [0,2,3,5,6,7,8,9,10,11,14,15,16,23,31,38,41,42,47,52,57,67,72] (by kernel_rfl) ?_
      (repeat ((try refine Vc.mk' ?_);simp (maxSteps:=6000000) only [go_sem,stOp,zJ,GW,show decide (((12:Nat):Int) < 12)=false from rfl]))
      (refine ⟨[],by simp,by simp,by simp, ?_, ?_, ?_⟩ <;> simp [])
end Go.Proofs.YthlhnangbinhoaaGreatDoor.Dm
set_option linter.unusedVariables false
namespace Go.Proofs.YthlhnangbinhoaaGreatDoor.Dm
open Go.Dm
set_option maxHeartbeats 16000000
set_option maxRecDepth 20000
def tS:FuncId→BE:=BV gE 38 QZ
theorem FW:Bp Tryz.prog tt.get tS:=Mv.add ABO
theorem fq:tS 38=QZ:=rfl
def F5 (v:Value):Option A8:=some (.cells true 0 [v])
def yb(c:Int)(r:Bool):FrameMode:= .panicking [{v:=QA c,recovered:=r}]
theorem AAP {xo:Operand}:DC tt.get .eql 20 xo (.const .nilIface) .nilIface .nilIface=some (.bool true):=by simp [DC,Ij,tJ,fS,oa]
theorem AAO {xo yo:Operand}{t:TypeId}{v:Value}:DC tt.get .eql 20 xo yo (.iface t v) .nilIface=some (.bool false):=by simp [DC,Ij,tJ,fS]
theorem AD5 {c:Int}:MZ tt.get (.iface 143 (.agg ⟨[.int .i64 c]⟩)) 143 true=some (.tuple ⟨[.agg ⟨[.int .i64 c]⟩, .bool true]⟩):=by simp [MZ,UC,cD,Tl,isIf]
theorem WE {hp:Hp}{top a e:Nat}{n:Int}{v:Value}(ha:hp a=some (.cells true 0 [.int .i64 n]))(he:hp e=F5 v) :
  Cd Tryz.prog 34 [.pointer (some ⟨a,0,none⟩), .pointer (some ⟨e,0,none⟩)] .returning hp top fun u' hp' top'=>u' = .returning∧hp' = hp∧top' = top:=by
 refine Cd.RH Am Ui.toFTOk rfl rfl rfl rfl rfl 23 rfl (by decide) [] rfl (Nat.le_of_ble_eq_true rfl) .nilIface rfl .returning (.inl ⟨rfl,rfl,rfl⟩) (post:=fun _ hp' top'=>hp' = hp∧top' = top) (fun x hp' top' h=>⟨rfl,h⟩) ?_
 refine CW.vc FW [0,1,5,6,7,9,11,12] (by kernel_rfl) ?_
 (repeat ((try refine Vc.mk' ?_);simp (maxSteps:=6000000) only [go_sem,AAP]))
theorem WD {hp:Hp}{top a e:Nat}{n c:Int}{v:Value}(ha:hp a=some (.cells true 0 [.int .i64 n]))(he:hp e=F5 v)(hat:a < top)(het:e < top) :
  Cd Tryz.prog 34 [.pointer (some ⟨a,0,none⟩), .pointer (some ⟨e,0,none⟩)] (yb c false) hp top fun u' hp' top'=>u' = yb c true∧hp' = hp.Ac [(top,some (.cells true 0 [.int .i64 c])),(top+1,N8 c n),(e,F5 (Qx (top+1)))]∧top' = top+2:=by
 refine Cd.RH Am Ui.toFTOk rfl rfl rfl rfl rfl 23 rfl (by decide) [] rfl (Nat.le_of_ble_eq_true rfl) (QA c) rfl (yb c true) (.inr ⟨[],rfl,rfl⟩) (post:=fun _ hp' top'=>hp' = hp.Ac [(top,some (.cells true 0 [.int .i64 c])),(top+1,N8 c n),(e,F5 (Qx (top+1)))]∧top' = top+2) (fun x hp' top' h=>⟨rfl,h⟩) ?_
 refine CW.vc FW [0,1,5,6,7,9,11,12] (by kernel_rfl) ?_
 (repeat ((try refine Vc.mk' ?_);simp (maxSteps:=6000000) only [go_sem,QA,AAO,AD5,Bw hat,Bw het,ha,he,F5,jF,FP]))
 rfl
def LF:A0:=⟨0,0,0,0,0,0, []⟩
def opO (o:A0):Option A8:=some (.cells true 0 (Aw.enc o))
theorem ABQ {hp:Hp}{top e b:Nat}{u:FrameMode}(he:hp e=F5 .nilIface) :
  Cd Tryz.prog 45 [.pointer (some ⟨e,0,none⟩), .pointer (some ⟨b,0,none⟩)] u hp top fun u' hp' top'=>u' = u∧hp' = hp∧top' = top:=by
 refine Cd.Af Am Uj rfl 5 rfl [] rfl (post:=fun _ hp' top'=>hp' = hp∧top' = top) (Nat.le_of_ble_eq_true rfl) (fun _ _ _ h=>⟨rfl,h⟩) ?_
 have he':hp e=some (.cells true 0 [.nilIface]):=he
 refine CW.vc FW [0,1,3] (by kernel_rfl) ?_
 (repeat ((try refine Vc.mk' ?_);simp (maxSteps:=6000000) only [go_sem,he',ss]))
theorem ABP {hp:Hp}{top e b:Nat}{u:FrameMode}{t:TypeId}{v:Value}{o:A0}(he:hp e=F5 (.iface t v))(hb:hp b=opO o) :
  Cd Tryz.prog 45 [.pointer (some ⟨e,0,none⟩), .pointer (some ⟨b,0,none⟩)] u hp top fun u' hp' top'=>u' = u∧hp' = hp.set b (opO LF)∧top' = top:=by
 refine Cd.Af Am Uj rfl 5 rfl [] rfl (post:=fun _ hp' top'=>hp' = hp.set b (opO LF)∧top' = top) (Nat.le_of_ble_eq_true rfl) (fun _ _ _ h=>⟨rfl,h⟩) ?_
 have he':hp e=some (.cells true 0 [.iface t v]):=he
 have hb':hp b=some (.cells true 0 (Aw.enc o)):=hb
 simp only [Az] at hb'
 refine CW.vc FW [0,1,3] (by kernel_rfl) ?_
 (repeat ((try refine Vc.mk' ?_);simp (maxSteps:=6000000) only [go_sem,he',hb',jk]))
 rfl
def j0 (s:List UInt8)(top:Nat):Value×A6×Nat:=match ON s with
 |some o=>(.tuple ⟨[.agg ⟨Aw.enc o⟩, .nilIface]⟩, [],top)
 |none=>(.tuple ⟨[.agg ⟨Aw.enc LF⟩,Qx top]⟩, [(top,N8 12 0)],top+1)
def gp:BE:= .det (fun args hp _=>match args with | [.string ⟨⟨s⟩⟩]=>s.length < 4294967281∧C8 hp | _=>False) (fun args _ top=>match args with | [s]=>j0 (strOf s) top | _=>(undef, [],top))
theorem AEN:(∃fn,FTOk Tryz.prog 45 fn)=True:=eq_true ⟨_,Uj.toFTOk⟩
theorem AAW:(∃fn,FTOk Tryz.prog 34 fn)=True:=eq_true ⟨_,Ui.toFTOk⟩
theorem vu:Ag Tryz.prog 16 gp:=by
 refine ⟨⟨_,bI⟩,fun args hp top hpre=>AJ.Eh fun hcl hsc=> ?_⟩
 match args,hpre with
 | [.string ⟨⟨s⟩⟩],⟨hs,hv⟩=>
 have ht5:=Em hcl hv
 simp only [AH]
 refine AJ.TU Am bI rfl 8 rfl [.cell 2 43, .cell 3 38] rfl (Nat.le_of_ble_eq_true rfl) ?_
 refine CD.seq (CD.of (CW.vc FW [0,2,3,4] (by kernel_rfl) ?_))
 (repeat ((try refine Vc.mk' ?_);simp (maxSteps:=6000000) only [go_sem]))
 refine CD.seq (CD.of (CW.vc FW [0,2,3,4] (by kernel_rfl) ?_))
 (repeat ((try refine Vc.mk' ?_);simp (maxSteps:=6000000) only [go_sem]))
 refine CD.seq (CD.region FW [0,2,3,4] (by kernel_rfl) ?_)
 simp (maxSteps:=6000000) only [go_sem,Oo,AEN,Ex,FP]
 refine CD.seq (CD.region FW [0,2,3,4] (by kernel_rfl) ?_)
 simp (maxSteps:=6000000) only [go_sem,Oo,AAW]
 cases ho:ON s with
 |some o=>
  have hR:∀t,pd s t= .inl (.agg ⟨Aw.enc o⟩, [],t):=fun t=>jz ho
  have e:j0 s top=(.tuple ⟨[.agg ⟨Aw.enc o⟩, .nilIface]⟩, [],top):=by unfold j0;rw [ho]
  rw [e]
  refine CD.of (CW.vc FW [0,2,3,4] (by kernel_rfl) ?_)
  (repeat ((try refine Vc.mk' ?_);simp (maxSteps:=6000000) only [go_sem,fq,QZ,hs,hv,CR ht5,FO ht5,hR,Az]))
  rw [HP]
  refine ⟨nofun,(WE (a:=top+2) (e:=top+1) (n:=0) (v:= .nilIface) (by simp [Aj,AY]) (by simp [AY,F5])).mono ?_⟩
  rintro u' hp' top' ⟨rfl,rfl,rfl⟩
  rw [show settle .returning= .returning from rfl,HP]
  refine ⟨nofun,(ABQ (e:=top+1) (by simp [AY,F5])).mono ?_⟩
  rintro u' hp' top' ⟨rfl,rfl,rfl⟩
  rw [show settle .returning= .returning from rfl,T4]
  simp (maxSteps:=6000000) only [go_sem]
  (refine ⟨[],by simp,by simp,by simp, ?_, ?_, ?_⟩ <;> simp [])
 |none=>
  have hR:∀t,pd s t= .inr (QA 12, [],t):=fun t=>RL ho
  have e:j0 s top=(.tuple ⟨[.agg ⟨Aw.enc LF⟩,Qx top]⟩, [(top,N8 12 0)],top+1):=by unfold j0;rw [ho]
  rw [e]
  refine CD.of (CW.vc FW [0,2,3,4] (by kernel_rfl) ?_)
  (repeat ((try refine Vc.mk' ?_);simp (maxSteps:=6000000) only [go_sem,fq,QZ,hs,hv,CR ht5,FO ht5,hR,Az]))
  rw [HP]
  refine ⟨nofun,(WD (c:=12) (a:=top+2) (e:=top+1) (n:=0) (v:= .nilIface) (by simp [AY]) (by simp [Aj,AY,F5]) (by omega) (by omega)).mono ?_⟩
  rintro u' hp' top' ⟨rfl,rfl,rfl⟩
  rw [show settle (yb 12 true)= .returning from rfl,HP]
  refine ⟨nofun,(ABP (e:=top+1) (b:=top) (o:=LF) (t:=51) (v:= .pointer (some ⟨top+3+1,0,none⟩)) (by simp [BR,Bh,AY,F5,Qx]) (by simp [BR,Bh,Aj,AY,opO,Az,LF,Nat.add_assoc])).mono ?_⟩
  rintro u' hp' top' ⟨rfl,rfl,rfl⟩
  rw [show settle .returning= .returning from rfl,T4]
  simp (maxSteps:=6000000) only [go_sem,F5,Qx,N8,opO]
  (refine ⟨[top+4],by simp,by simp,by simp, ?_, ?_, ?_⟩ <;> simp [])
end Go.Proofs.YthlhnangbinhoaaGreatDoor.Dm
