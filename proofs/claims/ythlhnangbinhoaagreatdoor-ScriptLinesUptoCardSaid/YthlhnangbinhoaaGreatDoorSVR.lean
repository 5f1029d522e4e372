/- Lines and ops, there and back: plain laws. -/
import Derived.Test.YthlhnangbinhoaaGreatDoorSI
set_option linter.unusedVariables false
namespace Go.Proofs.YthlhnangbinhoaaGreatDoor.Dm
open Go.Dm
set_option maxHeartbeats 16000000
set_option maxRecDepth 20000
theorem LQ {d:Nat}(h:d < 10):(UInt8.ofNat (48+d)).toNat=48+d:=by
 rw [UInt8.toNat_ofNat'];omega
theorem ZQ (u:Nat):Lib.decDigits u≠ []:=by
 by_cases h:u < 10
 ·rw [Fp h];simp
 ·rw [K4 h];simp
theorem LM:∀(u:Nat),∀c∈Lib.decDigits u,48≤c.toNat∧c.toNat≤57:=by
 intro u
 induction u using Nat.strongRecOn with
 |_ u ih=>
  intro c hc
  by_cases h:u < 10
  ·rw [Fp h,List.mem_singleton] at hc
   rw [hc,LQ h];omega
  ·have hm:u % 10 < 10:=Nat.mod_lt _ (by omega)
   rw [K4 h,List.mem_append,List.mem_singleton] at hc
   rcases hc with hc | hc
   ·exact ih (u / 10) (by omega) c hc
   ·rw [hc,LQ hm];omega
theorem Wt:∀(u:Nat) (r:List UInt8),u < 9223372036854775808→Lib.parseUint10 0 (Lib.decDigits u ++ r)=Lib.parseUint10 u r:=by
 intro u
 induction u using Nat.strongRecOn with
 |_ u ih=>
  intro r hu
  by_cases h:u < 10
  ·rw [Fp h,List.cons_append,List.nil_append,Lib.parseUint10]
   have e:=LQ h
   rw [if_pos (by omega),if_neg (by omega),if_neg (by rw [e];omega),e]
   congr 1;omega
  ·have hm:u % 10 < 10:=Nat.mod_lt _ (by omega)
   rw [K4 h,List.append_assoc,ih (u / 10) (by omega) _ (by omega),List.cons_append,List.nil_append,Lib.parseUint10]
   have e:=LQ hm
   rw [if_pos (by omega),if_neg (by omega),if_neg (by rw [e];omega),e]
   congr 1;omega
theorem dW {n:Int}(h0:0≤n)(h1:n≤9223372036854775807):Lib.atoiAll (Lib.itoa n)= .ok n:=by
 obtain ⟨u,rfl⟩:=Int.eq_ofNat_of_zero_le h0
 rw [Lib.itoa_nonneg]
 have hp:=Wt u [] (by omega)
 rw [List.append_nil] at hp
 cases hd:Lib.decDigits u with
 |nil=>exact absurd hd (ZQ u)
 |cons c r=>
  have hc:=LM u c (by rw [hd];exact List.mem_cons_self ..)
  rw [hd] at hp
  unfold Lib.atoiAll
  dsimp only
  rw [if_neg (by omega)]
  unfold Lib.parseMag
  rw [if_neg (by simp),hp]
  simp only [Lib.parseUint10]
  rw [if_neg (by omega),if_neg (by omega),if_neg (by omega)]
theorem KB {n:Int}(h0:0≤n)(h1:n≤9223372036854775807):El (Lib.itoa n)=some n:=by
 rw [Fz]
 unfold mW ad
 rw [dW h0 h1]
 exact ⟨rfl,rfl,rfl⟩
def clean (w:List UInt8):Prop:=(32:UInt8) ∉ w∧(10:UInt8) ∉ w
theorem HI {n:Int}(h0:0≤n):clean (Lib.itoa n):=by
 obtain ⟨u,rfl⟩:=Int.eq_ofNat_of_zero_le h0
 rw [Lib.itoa_nonneg]
 exact ⟨fun hc=>absurd (LM u _ hc).1 (by decide),fun hc=>absurd (LM u _ hc).1 (by decide)⟩
theorem nB {n:Nat}(h:n < 16):hv (MK n)=n:=by
 have:∀n:Fin 16,hv (MK n.val)=(n.val:Int):=by decide +kernel
 exact this ⟨n,h⟩
theorem iV {n:Nat}(h:n < 16):MK n≠32∧MK n≠10:=by
 have:∀n:Fin 16,MK n.val≠32∧MK n.val≠10:=by decide +kernel
 exact this ⟨n,h⟩
theorem SQ:∀(b:List UInt8),clean (CY b)
 | []=>⟨by simp [CY],by simp [CY]⟩
 |c :: b=>by
  have h:=SQ b
  have h1:=iV (n:=c.toNat / 16) (by have:=c.toNat_lt;omega)
  have h2:=iV (n:=c.toNat % 16) (Nat.mod_lt _ (by decide))
  have e:CY (c :: b)=MK (c.toNat / 16) :: MK (c.toNat % 16) :: CY b:=rfl
  rw [e]
  exact ⟨by simp [h.1,h1.1.symm,h2.1.symm],by simp [h.2,h1.2.symm,h2.2.symm]⟩
theorem Yg:∀(b:List UInt8) (j:Nat),j < b.length→at' (CY b) (2 * j)=MK ((at' b j).toNat / 16)∧at' (CY b) (2 * j+1)=MK ((at' b j).toNat % 16)
 | [],j,h=>by simp at h
 |c :: b,0,_=>⟨rfl,rfl⟩
 |c :: b,j+1,h=>by
  have:=Yg b j (by simpa using h)
  have e:CY (c :: b)=MK (c.toNat / 16) :: MK (c.toNat % 16) :: CY b:=rfl
  rw [e]
  exact this
theorem Zu (b:List UInt8):GX (CY b)=some b:=by
 have hl:=Ea b
 have h2:(CY b).length / 2=b.length:=by omega
 have hj:∀j,j < b.length→hv (at' (CY b) (2 * j))=((at' b j).toNat / 16:Nat)∧hv (at' (CY b) (2 * j+1))=((at' b j).toNat % 16:Nat):=fun j h=>by
  obtain ⟨e1,e2⟩:=Yg b j h
  rw [e1,e2]
  exact ⟨nB (by have:=(at' b j).toNat_lt;omega),nB (Nat.mod_lt _ (by decide))⟩
 have hok:R7 (CY b) b.length=true:=by
  unfold R7
  rw [List.all_eq_true]
  intro j hm
  obtain ⟨e1,e2⟩:=hj j (List.mem_range.1 hm)
  have q1:(0:Int)≤((at' b j).toNat / 16:Nat):=Int.natCast_nonneg _
  have q2:(0:Int)≤((at' b j).toNat % 16:Nat):=Int.natCast_nonneg _
  rw [e1,e2,decide_eq_true q1,decide_eq_true q2];rfl
 have hout:Ed (CY b) b.length=b:=by
  refine List.ext_getElem (by rw [GH]) fun i h1 h3=> ?_
  simp only [Ed,List.getElem_map,List.getElem_range]
  obtain ⟨e1,e2⟩:=hj i h3
  unfold nK
  rw [e1,e2,Int.toNat_natCast,Int.toNat_natCast,←CO _ _ h3]
  have:16 * ((at' b i).toNat / 16)+(at' b i).toNat % 16=(at' b i).toNat:=Nat.div_add_mod _ _
  rw [this];simp
 unfold GX
 rw [h2,if_pos ⟨by omega,hok⟩,hout]
theorem xl (b:List UInt8):Nz (Pg b)=some b:=by
 unfold Pg
 by_cases h:b= []
 ·rw [if_pos h];subst h;rfl
 ·rw [if_neg h]
  unfold Nz
  rw [if_neg (fun e=>by have:=congrArg List.length e;rw [Ea] at this;simp at this;omega),Zu]
  cases b with
  |nil=>exact absurd rfl h
  |cons a l=>rfl
theorem jo (b:List UInt8):clean (Pg b):=by
 unfold Pg
 split
 ·exact ⟨by decide,by decide⟩
 ·exact SQ b
def Qa (F:Int)(o:Ax):Nat→Nat→Ha
 |0,_=> []
 |n+1,j=>if Ay F (p2 j)=true then Bu j o :: Qa F o n (j+1) else Qa F o n (j+1)
theorem Mt {F:Int}{o:Ax}:∀(n j:Nat) (ws:Ha),CE F o n j ws=ws ++ Qa F o n j
 |0,_,ws=>by simp [CE,Qa]
 |n+1,j,ws=>by
  unfold CE Qa
  rw [Mt]
  split <;> simp
def vq (j:Nat)(o c:Ax):Ax:=match j with
 |0=> {c with Bj:=o.Bj}
 |1=> {c with C8:=o.C8}
 |2=> {c with B1:=o.B1}
 |3=> {c with Bd:=o.Bd}
 |4=> {c with Bytes:=o.Bytes}
 |_=> {c with CJ:=o.CJ}
structure ey (o:Ax) (F:Int):Prop where
 r:Ay F 1=true→0≤o.Bj
 p:Ay F 2=true→0≤o.C8
 g:Ay F 4=true→0≤o.B1
 t:Ay F 32=true→0≤o.CJ
theorem QP {o:Ax}{F:Int}(hm:Ct o F=true):ey o F:=by
 simp only [Ct,Bool.and_eq_true,m1,m2,m3,m4,m5,m6] at hm
 obtain ⟨⟨⟨⟨⟨a1,a2⟩,a3⟩,_⟩,_⟩,a6⟩:=hm
 refine ⟨fun h=> ?_,fun h=> ?_,fun h=> ?_,fun h=> ?_⟩
 ·rw [if_pos h] at a1;have:1≤o.Bj∧o.Bj≤24:=by simpa [Gk] using a1
  omega
 ·rw [if_pos h] at a2;have:1≤o.C8∧o.C8≤24:=by simpa [Gk] using a2
  omega
 ·rw [if_pos h] at a3;have:0≤o.B1∧o.B1≤7:=by simpa [Gk] using a3
  omega
 ·rw [if_pos h] at a6;have:1≤o.CJ∧o.CJ≤4096:=by simpa [Gk] using a6
  omega
theorem Wq {o:Ax}{F:Int}(hp:ey o F)(hO:GZ o){j:Nat}(hj:j < 6)(hh:Ay F (p2 j)=true):clean (Bu j o):=by
 have hcase:j=0∨j=1∨j=2∨j=3∨j=4∨j=5:=by omega
 rcases hcase with rfl | rfl | rfl | rfl | rfl | rfl
 ·exact HI (hp.r hh)
 ·exact HI (hp.p hh)
 ·exact HI (hp.g hh)
 ·exact HI hO.e0
 ·exact jo _
 ·exact HI (hp.t hh)
theorem cH {o c:Ax}{F:Int}(hp:ey o F)(hO:GZ o){j:Nat}(hj:j < 6)(hh:Ay F (p2 j)=true):Dx j c (Bu j o)=some (vq j o c):=by
 have hcase:j=0∨j=1∨j=2∨j=3∨j=4∨j=5:=by omega
 rcases hcase with rfl | rfl | rfl | rfl | rfl | rfl
 ·simp only [Dx,Bu,KB (hp.r hh) hO.r.2];rfl
 ·simp only [Dx,Bu,KB (hp.p hh) hO.p.2];rfl
 ·simp only [Dx,Bu,KB (hp.g hh) hO.g.2];rfl
 ·have h1:=hO.e0
  have h2:=hO.e1
  simp only [Dx,Bu,KB h1 (by omega)]
  rw [if_pos (by simp [Gk];omega)];rfl
 ·simp only [Dx,Bu,xl];rfl
 ·simp only [Dx,Bu,KB (hp.t hh) hO.t.2];rfl
def XL (F:Int)(o:Ax):Nat→Nat→Ax→Ax
 |0,_,c=>c
 |n+1,j,c=>XL F o n (j+1) (if Ay F (p2 j)=true then vq j o c else c)
theorem VC {o:Ax}{F:Int}(hp:ey o F)(hO:GZ o):∀(n j:Nat) (c:Ax),j+n=6→E4 F n j c (Qa F o n j)=some (XL F o n j c, [])
 |0,_,_,_=>rfl
 |n+1,j,c,h=>by
  unfold E4 Qa XL
  cases hh:Ay F (p2 j) with
  |true=>
   simp only [if_true]
   rw [Gj hh,cH hp hO (by omega) hh]
   exact VC hp hO n (j+1) _ (by omega)
  |false=>
   simp only [if_false,Bool.false_eq_true]
   rw [Gi hh]
   exact VC hp hO n (j+1) _ (by omega)
theorem mv {o:Ax}{F:Int}(hm:Ct o F=true):XL F o 6 0 (I2 o.Kind)=o:=by
 simp only [Ct,Bool.and_eq_true,m1,m2,m3,m4,m5,m6] at hm
 obtain ⟨⟨⟨⟨⟨a1,a2⟩,a3⟩,a4⟩,a5⟩,a6⟩:=hm
 obtain ⟨k,r,p,g,e,t,b⟩:=o
 simp only [XL,p2,vq,I2]
 cases h1:Ay F 1 <;> cases h2:Ay F 2 <;> cases h3:Ay F 4 <;> cases h4:Ay F 8 <;> cases h5:Ay F 16 <;> cases h6:Ay F 32 <;> simp_all
theorem HT {k:Int}{r:De}:∀ {l:List De},FP k l=some r→r.kind=k∧r∈l
 | [],h=>by cases h
 |x :: l,h=>by
  unfold FP at h
  split at h
  ·rename_i hk;cases h;exact ⟨hk,List.mem_cons_self ..⟩
  ·exact ⟨(HT h).1,List.mem_cons_of_mem _ (HT h).2⟩
theorem cD:∀r∈BV,Ju r.word BV=some r:=by
 intro r h
 simp only [BV,List.mem_cons,List.not_mem_nil,or_false] at h
 rcases h with rfl | rfl | rfl | rfl | rfl | rfl | rfl | rfl | rfl | rfl | rfl | rfl <;> rfl
theorem PT:∀r∈BV,(32:UInt8) ∉ r.word∧(10:UInt8) ∉ r.word:=by decide
theorem LD {o:Ax}{F:Int}(hp:ey o F)(hO:GZ o):∀(n j:Nat),j+n=6→∀w∈Qa F o n j,clean w
 |0,_,_=>fun w h=>by cases h
 |n+1,j,h=>fun w hw=>by
  unfold Qa at hw
  split at hw
  ·rename_i hh
   rcases List.mem_cons.1 hw with rfl | hw
   ·exact Wq hp hO (by omega) hh
   ·exact LD hp hO n (j+1) (by omega) w hw
  ·exact LD hp hO n (j+1) (by omega) w hw
theorem XH {c:UInt8}:∀ {l:Ha},(∀w∈l,c ∉ w)→c≠32→c ∉ Lib.join l [32]
 | [],_,_=>by simp [Lib.join]
 | [w],h,_=>by simpa [Lib.join] using h w (List.mem_cons_self ..)
 |w :: v :: l,h,hc=>by
  have h1:=h w (List.mem_cons_self ..)
  have h2:=XH (l:=v :: l) (fun x hx=>h x (List.mem_cons_of_mem _ hx)) hc
  have e:Lib.join (w :: v :: l) [32] = w ++ [32] ++ Lib.join (v :: l) [32]:=by simp [Lib.join]
  rw [e]
  simp [h1,h2,hc]
theorem yG {o:Ax}{s:List UInt8}(hO:GZ o)(h:IH o=some s):P5 s=some o∧(10:UInt8) ∉ s:=by
 unfold IH at h
 cases hf:FP o.Kind BV with
 |none=>rw [hf] at h;cases h
 |some r=>
  rw [hf] at h
  dsimp only at h
  split at h
  ·rename_i hm
   have h:=Option.some.inj h
   obtain ⟨hk,hr⟩:=HT hf
   have hp:=QP hm
   have hws:=LD hp hO 6 0 rfl
   rw [Mt] at h
   have hcl:∀w∈ [r.word] ++ Qa r.fields o 6 0,clean w:=fun w hw=>by
    rcases List.mem_append.1 hw with hw | hw
    ·rw [List.mem_singleton.1 hw];exact PT r hr
    ·exact hws w hw
   have hs:=P9 (l:= [r.word] ++ Qa r.fields o 6 0) (by simp) (fun w hw=>(hcl w hw).1)
   rw [h] at hs
   refine ⟨?_,by rw [←h];exact XH (fun w hw=>(hcl w hw).2) (by decide)⟩
   unfold P5
   rw [hs]
   have e1:at' ([r.word] ++ Qa r.fields o 6 0) 0=r.word:=rfl
   have e2:([r.word] ++ Qa r.fields o 6 0).drop 1=Qa r.fields o 6 0:=rfl
   rw [e1,e2,cD r hr]
   dsimp only
   unfold eH
   rw [hk,VC hp hO 6 0 _ rfl,mv hm]
   unfold pt
   dsimp only
   rw [if_pos hm]
  ·cases h
end Go.Proofs.YthlhnangbinhoaaGreatDoor.Dm
set_option linter.unusedVariables false
namespace Go.Proofs.YthlhnangbinhoaaGreatDoor.Dm
open Go.Dm
set_option maxHeartbeats 16000000
set_option maxRecDepth 20000
theorem Tm (c:UInt8):0≤hv c→hv c < 16∧MK (hv c).toNat=c:=by
 have:∀n:Fin 256,0≤hv (UInt8.ofNat n.val)→hv (UInt8.ofNat n.val) < 16∧MK (hv (UInt8.ofNat n.val)).toNat=UInt8.ofNat n.val:=by decide +kernel
 have h:=this ⟨c.toNat,c.toNat_lt⟩
 simpa using h
theorem bU {s b:List UInt8}(h:GX s=some b):CY b=s:=by
 unfold GX at h
 split at h
 ·rename_i hc
  have h:=Option.some.inj h
  obtain ⟨h2,hok⟩:=hc
  have hk:∀j,j < s.length / 2→0≤hv (at' s (2 * j))∧0≤hv (at' s (2 * j+1)):=fun j hj=>by
   unfold R7 at hok
   rw [List.all_eq_true] at hok
   have:=hok j (List.mem_range.2 hj)
   simpa using this
  have hb:b.length=s.length / 2:=by rw [←h,GH]
  have hat:∀j,j < s.length / 2→(at' b j).toNat=16 * (hv (at' s (2 * j))).toNat+(hv (at' s (2 * j+1))).toNat:=fun j hj=>by
   obtain ⟨a1,a2⟩:=hk j hj
   have b1:=(Tm _ a1).1
   have b2:=(Tm _ a2).1
   have e:at' b j=nK (at' s (2 * j)) (at' s (2 * j+1)):=by
    rw [CO _ _ (by omega)]
    simp only [←h,Ed,List.getElem_map,List.getElem_range]
   rw [e]
   unfold nK
   rw [UInt8.toNat_ofNat']
   omega
  refine List.ext_getElem (by rw [Ea];omega) fun i h1 h3=> ?_
  rw [←CO _ _ h1,←CO _ _ h3]
  obtain ⟨j,hj⟩:∃j,i=2 * j∨i=2 * j+1:=⟨i / 2,by omega⟩
  have hjl:j < s.length / 2:=by omega
  obtain ⟨e1,e2⟩:=Yg b j (by omega)
  obtain ⟨a1,a2⟩:=hk j hjl
  have b1:=Tm _ a1
  have b2:=Tm _ a2
  have ha:=hat j hjl
  rcases hj with rfl | rfl
  ·rw [e1,ha,show (16 * (hv (at' s (2 * j))).toNat+(hv (at' s (2 * j+1))).toNat) / 16=(hv (at' s (2 * j))).toNat by omega,b1.2]
  ·rw [e2,ha,show (16 * (hv (at' s (2 * j))).toNat+(hv (at' s (2 * j+1))).toNat) % 16=(hv (at' s (2 * j+1))).toNat by omega,b2.2]
 ·cases h
theorem ve {w b:List UInt8}(h:Nz w=some b):Pg b=w:=by
 unfold Nz at h
 split at h
 ·rename_i e;cases h;rw [e];rfl
 ·split at h
  ·rename_i a l hu
   cases h
   have:=bU hu
   unfold Pg
   rw [if_neg (by simp),this]
  ·cases h
theorem eB {j:Nat}{c c':Ax}{w:List UInt8}(hj:j < 6)(h:Dx j c w=some c'):Bu j c' = w:=by
 have hcase:j=0∨j=1∨j=2∨j=3∨j=4∨j=5:=by omega
 rcases hcase with rfl | rfl | rfl | rfl | rfl | rfl <;> simp only [Dx] at h
 ·obtain ⟨n,hn,rfl⟩:=Option.map_eq_some_iff.1 h
  exact (Fz.1 hn).2.2
 ·obtain ⟨n,hn,rfl⟩:=Option.map_eq_some_iff.1 h
  exact (Fz.1 hn).2.2
 ·obtain ⟨n,hn,rfl⟩:=Option.map_eq_some_iff.1 h
  exact (Fz.1 hn).2.2
 ·split at h
  ·rename_i n hn
   split at h
   ·cases h
    exact (Fz.1 hn).2.2
   ·cases h
  ·cases h
 ·obtain ⟨b,hb,rfl⟩:=Option.map_eq_some_iff.1 h
  exact ve hb
 ·obtain ⟨n,hn,rfl⟩:=Option.map_eq_some_iff.1 h
  exact (Fz.1 hn).2.2
theorem dB {i j:Nat}{c c':Ax}{w:List UInt8}(hj:j < 6)(hi:i < j)(h:Dx j c w=some c'):Bu i c' = Bu i c:=by
 have hcase:j=0∨j=1∨j=2∨j=3∨j=4∨j=5:=by omega
 have hcas2:i=0∨i=1∨i=2∨i=3∨i=4:=by omega
 rcases hcase with rfl | rfl | rfl | rfl | rfl | rfl <;> simp only [Dx] at h
 ·omega
 ·obtain ⟨n,hn,rfl⟩:=Option.map_eq_some_iff.1 h
  rcases hcas2 with rfl | rfl | rfl | rfl | rfl <;> first | rfl | omega
 ·obtain ⟨n,hn,rfl⟩:=Option.map_eq_some_iff.1 h
  rcases hcas2 with rfl | rfl | rfl | rfl | rfl <;> first | rfl | omega
 ·split at h
  ·split at h
   ·cases h
    rcases hcas2 with rfl | rfl | rfl | rfl | rfl <;> first | rfl | omega
   ·cases h
  ·cases h
 ·obtain ⟨n,hn,rfl⟩:=Option.map_eq_some_iff.1 h
  rcases hcas2 with rfl | rfl | rfl | rfl | rfl <;> first | rfl | omega
 ·obtain ⟨n,hn,rfl⟩:=Option.map_eq_some_iff.1 h
  rcases hcas2 with rfl | rfl | rfl | rfl | rfl <;> first | rfl | omega
theorem ck {j:Nat}{c c':Ax}{w:List UInt8}(h:Dx j c w=some c'):c'.Kind=c.Kind:=by
 unfold Dx at h
 split at h
 ·obtain ⟨n,hn,rfl⟩:=Option.map_eq_some_iff.1 h;rfl
 ·obtain ⟨n,hn,rfl⟩:=Option.map_eq_some_iff.1 h;rfl
 ·obtain ⟨n,hn,rfl⟩:=Option.map_eq_some_iff.1 h;rfl
 ·split at h
  ·split at h
   ·cases h;rfl
   ·cases h
  ·cases h
 ·obtain ⟨n,hn,rfl⟩:=Option.map_eq_some_iff.1 h;rfl
 ·obtain ⟨n,hn,rfl⟩:=Option.map_eq_some_iff.1 h;rfl
theorem N9 {F:Int}:∀(n j:Nat) (c o:Ax) (ws r:Ha),j+n=6→E4 F n j c ws=some (o,r)→ws=Qa F o n j ++ r∧(∀i,i < j→Bu i o=Bu i c)∧o.Kind=c.Kind
 |0,j,c,o,ws,r,_,h=>by
  unfold E4 at h
  cases h
  exact ⟨rfl,fun _ _=>rfl,rfl⟩
 |n+1,j,c,o,ws,r,hj,h=>by
  unfold E4 at h
  unfold Qa
  cases hh:Ay F (p2 j) with
  |false=>
   rw [Gi hh] at h
   obtain ⟨a,b,d⟩:=N9 n (j+1) c o ws r (by omega) h
   simp only [if_false,Bool.false_eq_true]
   exact ⟨a,fun i hi=>b i (by omega),d⟩
  |true=>
   simp only [if_true]
   cases ws with
   |nil=>rw [Hh hh] at h;cases h
   |cons w l=>
    rw [Gj hh] at h
    cases hs:Dx j c w with
    |none=>rw [hs] at h;cases h
    |some c'=>
     rw [hs] at h
     obtain ⟨a,b,d⟩:=N9 n (j+1) c' o l r (by omega) h
     have e1:=b j (by omega)
     rw [eB (by omega) hs] at e1
     exact ⟨by rw [e1,a];rfl,fun i hi=>(b i (by omega)).trans (dB (by omega) hi hs),d.trans (ck hs)⟩
theorem RI {F:Int}:∀(n j:Nat) (c o:Ax) (ws r:Ha),GZ c→(∀w∈ws,w.length≤140737488351232)→E4 F n j c ws=some (o,r)→GZ o
 |0,_,c,o,ws,r,hc,_,h=>by
  unfold E4 at h
  cases h
  exact hc
 |n+1,j,c,o,ws,r,hc,hw,h=>by
  unfold E4 at h
  cases hh:Ay F (p2 j) with
  |false=>
   rw [Gi hh] at h
   exact RI n (j+1) c o ws r hc hw h
  |true=>
   cases ws with
   |nil=>rw [Hh hh] at h;cases h
   |cons w l=>
    rw [Gj hh] at h
    cases hs:Dx j c w with
    |none=>rw [hs] at h;cases h
    |some c'=>
     rw [hs] at h
     exact RI n (j+1) c' o l r (HM hc (hw w (by simp)) hs) (fun v hv=>hw v (by simp [hv])) h
theorem MY {w:List UInt8}{r:De}:∀ {l:List De},Ju w l=some r→r.word=w∧r∈l
 | [],h=>by cases h
 |x :: l,h=>by
  unfold Ju at h
  split at h
  ·rename_i hk;cases h;exact ⟨hk,List.mem_cons_self ..⟩
  ·exact ⟨(MY h).1,List.mem_cons_of_mem _ (MY h).2⟩
theorem cy:∀r∈BV,FP r.kind BV=some r:=by
 intro r h
 simp only [BV,List.mem_cons,List.not_mem_nil,or_false] at h
 rcases h with rfl | rfl | rfl | rfl | rfl | rfl | rfl | rfl | rfl | rfl | rfl | rfl <;> rfl
theorem og {k:Int}(h:Fh k):GZ (I2 k):=⟨h,ML,ML,ML,Int.le_refl 0,(by decide:(0:Int) < 4294967296),ML,Nat.zero_le _⟩
theorem lT {s:List UInt8}{o:Ax}(hs:s.length≤140737488351232)(h:P5 s=some o):IH o=some s∧GZ o:=by
 unfold P5 at h
 split at h
 ·rename_i r hf
  unfold eH pt at h
  split at h
  ·rename_i o' hr
   split at h
   ·rename_i hm
    cases h
    obtain ⟨hw,hk⟩:=MY hf
    obtain ⟨e1,_,e3⟩:=N9 6 0 _ _ _ _ rfl hr
    have e3:o.Kind=r.kind:=e3
    have hrg:=RI 6 0 _ _ _ _ (og (k:=r.kind) (by
     simp only [BV,List.mem_cons,List.not_mem_nil,or_false] at hk
     rcases hk with rfl | rfl | rfl | rfl | rfl | rfl | rfl | rfl | rfl | rfl | rfl | rfl <;> exact ⟨by decide,by decide⟩)) (fun w hw=>Nat.le_trans (LL s w (List.mem_of_mem_drop hw)) hs) hr
    refine ⟨?_,hrg⟩
    unfold IH
    rw [e3,cy r hk]
    dsimp only
    rw [if_pos hm,Mt,hw]
    rw [List.append_nil] at e1
    rw [←e1]
    have hsp:Bm s= [at' (Bm s) 0] ++ (Bm s).drop 1:=by
     cases hq:Bm s with
     |nil=>exact absurd hq (Md s)
     |cons a l=>rfl
    rw [←hsp,XE]
   ·cases h
  ·cases h
 ·cases h
end Go.Proofs.YthlhnangbinhoaaGreatDoor.Dm
