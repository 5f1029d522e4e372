/- Lines and ops, there and back: plain laws. -/
import Derived.Test.YthlhnangbinhoaaGreatDoorSI
set_option linter.unusedVariables false
namespace Go.Proofs.YthlhnangbinhoaaGreatDoor.Dm
open Go.Dm
set_option maxHeartbeats 16000000
set_option maxRecDepth 20000
theorem HX {d:Nat}(h:d < 10):(UInt8.ofNat (48+d)).toNat=48+d:=by
 rw [UInt8.toNat_ofNat'];omega
theorem N1(u:Nat):Lib.decDigits u≠ []:=by
 by_cases h:u < 10
 ·rw[FU h];simp
 ·rw[HV h];simp
theorem II:∀(u:Nat),∀c∈Lib.decDigits u,48≤c.toNat∧c.toNat≤57:=by
 intro u
 induction u using Nat.strongRecOn with
 |_ u ih=>
  intro c hc
  by_cases h:u < 10
  ·rw [FU h,List.mem_singleton] at hc
   rw [hc,HX h];omega
  ·have hm:u % 10 < 10:=Nat.mod_lt _ (by omega)
   rw [HV h,List.mem_append,List.mem_singleton] at hc
   rcases hc with hc | hc
   ·exact ih (u / 10) (by omega) c hc
   ·rw [hc,HX hm];omega
theorem KW:∀(u:Nat) (r:List UInt8),u < 9223372036854775808→Lib.parseUint10 0 (Lib.decDigits u ++ r)=Lib.parseUint10 u r:=by
 intro u
 induction u using Nat.strongRecOn with
 |_ u ih=>
  intro r hu
  by_cases h:u < 10
  ·rw [FU h,List.cons_append,List.nil_append,Lib.parseUint10]
   have e:=HX h
   rw [if_pos (by omega),if_neg (by omega),if_neg (by rw [e];omega),e]
   congr 1;omega
  ·have hm:u % 10 < 10:=Nat.mod_lt _ (by omega)
   rw [HV h,List.append_assoc,ih (u / 10) (by omega) _ (by omega),List.cons_append,List.nil_append,Lib.parseUint10]
   have e:=HX hm
   rw [if_pos (by omega),if_neg (by omega),if_neg (by rw [e];omega),e]
   congr 1;omega
theorem Si {n:Int}(h0:0≤n)(h1:n≤9223372036854775807):Lib.atoiAll (Lib.itoa n)= .ok n:=by
 obtain ⟨u,rfl⟩:=Int.eq_ofNat_of_zero_le h0
 rw [Lib.itoa_nonneg]
 have hp:=KW u [] (by omega)
 rw [List.append_nil] at hp
 cases hd:Lib.decDigits u with
 |nil=>exact absurd hd (N1 u)
 |cons c r=>
  have hc:=II u c (by rw [hd];exact List.mem_cons_self ..)
  rw [hd] at hp
  unfold Lib.atoiAll
  dsimp only
  rw [if_neg (by omega)]
  unfold Lib.parseMag
  rw [if_neg (by simp),hp]
  simp only [Lib.parseUint10]
  rw [if_neg (by omega),if_neg (by omega),if_neg (by omega)]
theorem KR {n:Int}(h0:0≤n)(h1:n≤9223372036854775807):HC (Lib.itoa n)=some n:=by
 rw [EW]
 unfold fh Y1
 rw [Si h0 h1]
 exact ⟨rfl,rfl,rfl⟩
def clean(w:List UInt8):Prop:=(32:UInt8) ∉ w∧(10:UInt8) ∉ w
theorem G7 {n:Int}(h0:0≤n):clean (Lib.itoa n):=by
 obtain ⟨u,rfl⟩:=Int.eq_ofNat_of_zero_le h0
 rw [Lib.itoa_nonneg]
 exact ⟨fun hc=>absurd (II u _ hc).1 (by decide),fun hc=>absurd (II u _ hc).1 (by decide)⟩
theorem jC {n:Nat}(h:n < 16):hv (L4 n)=n:=by
 have:∀n:Fin 16,hv (L4 n.val)=(n.val:Int):=by decide +kernel
 exact this ⟨n,h⟩
theorem hZ {n:Nat}(h:n < 16):L4 n≠32∧L4 n≠10:=by
 have:∀n:Fin 16,L4 n.val≠32∧L4 n.val≠10:=by decide +kernel
 exact this ⟨n,h⟩
theorem TD:∀(b:List UInt8),clean (CZ b)
 | []=>⟨by simp [CZ],by simp [CZ]⟩
 |c :: b=>by
  have h:=TD b
  have h1:=hZ (n:=c.toNat / 16) (by have:=c.toNat_lt;omega)
  have h2:=hZ (n:=c.toNat % 16) (Nat.mod_lt _ (by decide))
  have e:CZ (c :: b)=L4 (c.toNat / 16) :: L4 (c.toNat % 16) :: CZ b:=rfl
  rw [e]
  exact ⟨by simp [h.1,h1.1.symm,h2.1.symm],by simp [h.2,h1.2.symm,h2.2.symm]⟩
theorem Yj:∀(b:List UInt8) (j:Nat),j < b.length→at' (CZ b) (2 * j)=L4 ((at' b j).toNat / 16)∧at' (CZ b) (2 * j+1)=L4 ((at' b j).toNat % 16)
 | [],j,h=>by simp at h
 |c :: b,0,_=>⟨rfl,rfl⟩
 |c :: b,j+1,h=>by
  have:=Yj b j (by simpa using h)
  have e:CZ (c :: b)=L4 (c.toNat / 16) :: L4 (c.toNat % 16) :: CZ b:=rfl
  rw [e]
  exact this
theorem cU (b:List UInt8):GL (CZ b)=some b:=by
 have hl:=EI b
 have h2:(CZ b).length / 2=b.length:=by omega
 have hj:∀j,j < b.length→hv (at' (CZ b) (2 * j))=((at' b j).toNat / 16:Nat)∧hv (at' (CZ b) (2 * j+1))=((at' b j).toNat % 16:Nat):=fun j h=>by
  obtain ⟨e1,e2⟩:=Yj b j h
  rw [e1,e2]
  exact ⟨jC (by have:=(at' b j).toNat_lt;omega),jC (Nat.mod_lt _ (by decide))⟩
 have hok:SK (CZ b) b.length=true:=by
  unfold SK
  rw [List.all_eq_true]
  intro j hm
  obtain ⟨e1,e2⟩:=hj j (List.mem_range.1 hm)
  have q1:(0:Int)≤((at' b j).toNat / 16:Nat):=Int.natCast_nonneg _
  have q2:(0:Int)≤((at' b j).toNat % 16:Nat):=Int.natCast_nonneg _
  rw [e1,e2,decide_eq_true q1,decide_eq_true q2];rfl
 have hout:EX (CZ b) b.length=b:=by
  refine List.ext_getElem (by rw [GA]) fun i h1 h3=> ?_
  simp only [EX,List.getElem_map,List.getElem_range]
  obtain ⟨e1,e2⟩:=hj i h3
  unfold mr
  rw [e1,e2,Int.toNat_natCast,Int.toNat_natCast,←BS _ _ h3]
  have:16 * ((at' b i).toNat / 16)+(at' b i).toNat % 16=(at' b i).toNat:=Nat.div_add_mod _ _
  rw [this];simp
 unfold GL
 rw [h2,if_pos ⟨by omega,hok⟩,hout]
theorem xM (b:List UInt8):Rx (Pu b)=some b:=by
 unfold Pu
 by_cases h:b= []
 ·rw [if_pos h];subst h;rfl
 ·rw [if_neg h]
  unfold Rx
  rw [if_neg (fun e=>by have:=congrArg List.length e;rw [EI] at this;simp at this;omega),cU]
  cases b with
  |nil=>exact absurd rfl h
  |cons a l=>rfl
theorem jD (b:List UInt8):clean (Pu b):=by
 unfold Pu
 split
 ·exact ⟨by decide,by decide⟩
 ·exact TD b
def R2 (F:Int)(o:A0):Nat→Nat→Ec
 |0,_=> []
 |n+1,j=>if A3 F (p2 j)=true then Bk j o :: R2 F o n (j+1) else R2 F o n (j+1)
theorem MV {F:Int}{o:A0}:∀(n j:Nat) (ws:Ec),B8 F o n j ws=ws ++ R2 F o n j
 |0,_,ws=>by simp [B8,R2]
 |n+1,j,ws=>by
  unfold B8 R2
  rw [MV]
  split <;> simp
def wF(j:Nat)(o c:A0):A0:=match j with
 |0=> {c with Bg:=o.Bg}
 |1=> {c with DQ:=o.DQ}
 |2=> {c with CH:=o.CH}
 |3=> {c with Be:=o.Be}
 |4=> {c with Bytes:=o.Bytes}
 |_=> {c with Cj:=o.Cj}
structure gK(o:A0)(F:Int):Prop where
 r:A3 F 1=true→0≤o.Bg
 p:A3 F 2=true→0≤o.DQ
 g:A3 F 4=true→0≤o.CH
 t:A3 F 32=true→0≤o.Cj
theorem RB{o:A0}{F:Int}(hm:CX o F=true):gK o F:=by
 simp only[CX,Bool.and_eq_true,m1,m2,m3,m4,m5,m6]at hm
 obtain⟨⟨⟨⟨⟨a1,a2⟩,a3⟩,_⟩,_⟩,a6⟩:=hm
 refine⟨fun h=> ?_,fun h=> ?_,fun h=> ?_,fun h=> ?_⟩
 ·rw[if_pos h]at a1;have:1≤o.Bg∧o.Bg≤24:=by simpa[GC]using a1
  omega
 ·rw[if_pos h]at a2;have:1≤o.DQ∧o.DQ≤24:=by simpa[GC]using a2
  omega
 ·rw[if_pos h]at a3;have:0≤o.CH∧o.CH≤7:=by simpa[GC]using a3
  omega
 ·rw[if_pos h]at a6;have:1≤o.Cj∧o.Cj≤4096:=by simpa[GC]using a6
  omega
theorem X0 {o:A0}{F:Int}(hp:gK o F)(hO:GS o){j:Nat}(hj:j < 6)(hh:A3 F (p2 j)=true):clean (Bk j o):=by
 have hcase:j=0∨j=1∨j=2∨j=3∨j=4∨j=5:=by omega
 rcases hcase with rfl | rfl | rfl | rfl | rfl | rfl
 ·exact G7 (hp.r hh)
 ·exact G7 (hp.p hh)
 ·exact G7 (hp.g hh)
 ·exact G7 hO.e0
 ·exact jD _
 ·exact G7 (hp.t hh)
theorem e9 {o c:A0}{F:Int}(hp:gK o F)(hO:GS o){j:Nat}(hj:j < 6)(hh:A3 F (p2 j)=true):Hr j c (Bk j o)=some (wF j o c):=by
 have hcase:j=0∨j=1∨j=2∨j=3∨j=4∨j=5:=by omega
 rcases hcase with rfl | rfl | rfl | rfl | rfl | rfl
 ·simp only [Hr,Bk,KR (hp.r hh) hO.r.2];rfl
 ·simp only [Hr,Bk,KR (hp.p hh) hO.p.2];rfl
 ·simp only [Hr,Bk,KR (hp.g hh) hO.g.2];rfl
 ·have h1:=hO.e0
  have h2:=hO.e1
  simp only [Hr,Bk,KR h1 (by omega)]
  rw [if_pos (by simp [GC];omega)];rfl
 ·simp only [Hr,Bk,xM];rfl
 ·simp only [Hr,Bk,KR (hp.t hh) hO.t.2];rfl
def WS (F:Int)(o:A0):Nat→Nat→A0→A0
 |0,_,c=>c
 |n+1,j,c=>WS F o n (j+1) (if A3 F (p2 j)=true then wF j o c else c)
theorem VN {o:A0}{F:Int}(hp:gK o F)(hO:GS o):∀(n j:Nat) (c:A0),j+n=6→LI F n j c (R2 F o n j)=some (WS F o n j c, [])
 |0,_,_,_=>rfl
 |n+1,j,c,h=>by
  unfold LI R2 WS
  cases hh:A3 F (p2 j) with
  |true=>
   simp only [if_true]
   rw [P3 hh,e9 hp hO (by omega) hh]
   exact VN hp hO n (j+1) _ (by omega)
  |false=>
   simp only [if_false,Bool.false_eq_true]
   rw [P4 hh]
   exact VN hp hO n (j+1) _ (by omega)
theorem iY {o:A0}{F:Int}(hm:CX o F=true):WS F o 6 0 (MS o.Kind)=o:=by
 simp only [CX,Bool.and_eq_true,m1,m2,m3,m4,m5,m6] at hm
 obtain ⟨⟨⟨⟨⟨a1,a2⟩,a3⟩,a4⟩,a5⟩,a6⟩:=hm
 obtain ⟨k,r,p,g,e,t,b⟩:=o
 simp only [WS,p2,wF,MS]
 cases h1:A3 F 1 <;> cases h2:A3 F 2 <;> cases h3:A3 F 4 <;> cases h4:A3 F 8 <;> cases h5:A3 F 16 <;> cases h6:A3 F 32 <;> simp_all
theorem G4 {k:Int}{r:Da}:∀ {l:List Da},FG k l=some r→r.kind=k∧r∈l
 | [],h=>by cases h
 |x :: l,h=>by
  unfold FG at h
  split at h
  ·rename_i hk;cases h;exact ⟨hk,List.mem_cons_self ..⟩
  ·exact ⟨(G4 h).1,List.mem_cons_of_mem _ (G4 h).2⟩
theorem dZ:∀r∈BI,J5 r.word BI=some r:=by
 intro r h
 simp only[BI,List.mem_cons,List.not_mem_nil,or_false]at h
 rcases h with rfl | rfl | rfl | rfl | rfl | rfl | rfl | rfl | rfl | rfl | rfl | rfl <;> rfl
theorem PH:∀r∈BI,(32:UInt8) ∉ r.word∧(10:UInt8) ∉ r.word:=by decide
theorem LD {o:A0}{F:Int}(hp:gK o F)(hO:GS o):∀(n j:Nat),j+n=6→∀w∈R2 F o n j,clean w
 |0,_,_=>fun w h=>by cases h
 |n+1,j,h=>fun w hw=>by
  unfold R2 at hw
  split at hw
  ·rename_i hh
   rcases List.mem_cons.1 hw with rfl | hw
   ·exact X0 hp hO (by omega) hh
   ·exact LD hp hO n (j+1) (by omega) w hw
  ·exact LD hp hO n (j+1) (by omega) w hw
theorem Wr {c:UInt8}:∀ {l:Ec},(∀w∈l,c ∉ w)→c≠32→c ∉ Lib.join l [32]
 | [],_,_=>by simp [Lib.join]
 | [w],h,_=>by simpa [Lib.join] using h w (List.mem_cons_self ..)
 |w :: v :: l,h,hc=>by
  have h1:=h w (List.mem_cons_self ..)
  have h2:=Wr (l:=v :: l) (fun x hx=>h x (List.mem_cons_of_mem _ hx)) hc
  have e:Lib.join (w :: v :: l) [32] = w ++ [32] ++ Lib.join (v :: l) [32]:=by simp [Lib.join]
  rw [e]
  simp [h1,h2,hc]
theorem vr {o:A0}{s:List UInt8}(hO:GS o)(h:Ik o=some s):ON s=some o∧(10:UInt8) ∉ s:=by
 unfold Ik at h
 cases hf:FG o.Kind BI with
 |none=>rw [hf] at h;cases h
 |some r=>
  rw [hf] at h
  dsimp only at h
  split at h
  ·rename_i hm
   have h:=Option.some.inj h
   obtain ⟨hk,hr⟩:=G4 hf
   have hp:=RB hm
   have hws:=LD hp hO 6 0 rfl
   rw [MV] at h
   have hcl:∀w∈ [r.word] ++ R2 r.fields o 6 0,clean w:=fun w hw=>by
    rcases List.mem_append.1 hw with hw | hw
    ·rw [List.mem_singleton.1 hw];exact PH r hr
    ·exact hws w hw
   have hs:=Rp (l:= [r.word] ++ R2 r.fields o 6 0) (by simp) (fun w hw=>(hcl w hw).1)
   rw [h] at hs
   refine ⟨?_,by rw [←h];exact Wr (fun w hw=>(hcl w hw).2) (by decide)⟩
   unfold ON
   rw [hs]
   have e1:at' ([r.word] ++ R2 r.fields o 6 0) 0=r.word:=rfl
   have e2:([r.word] ++ R2 r.fields o 6 0).drop 1=R2 r.fields o 6 0:=rfl
   rw [e1,e2,dZ r hr]
   dsimp only
   unfold eH
   rw [hk,VN hp hO 6 0 _ rfl,iY hm]
   unfold nw
   dsimp only
   rw [if_pos hm]
  ·cases h
end Go.Proofs.YthlhnangbinhoaaGreatDoor.Dm
