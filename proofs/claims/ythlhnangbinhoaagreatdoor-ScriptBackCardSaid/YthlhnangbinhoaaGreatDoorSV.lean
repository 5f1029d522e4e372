/- Lines and ops, there and back: plain laws. -/
import Derived.Test.YthlhnangbinhoaaGreatDoorSI
set_option linter.unusedSimpArgs false
set_option linter.unusedVariables false
namespace Go.Proofs.YthlhnangbinhoaaGreatDoor.Dm
open Go.Dm
set_option maxHeartbeats 16000000
set_option maxRecDepth 20000
theorem QS {d:Nat}(h:d < 10):(UInt8.ofNat (48+d)).toNat=48+d:=by
 rw [UInt8.toNat_ofNat'];omega
theorem vp (u:Nat):Lib.decDigits u≠ []:=by
 by_cases h:u < 10
 ·rw [PJ h];simp
 ·rw [U6 h];simp
theorem Oj:∀(u:Nat),∀c∈Lib.decDigits u,48≤c.toNat∧c.toNat≤57:=by
 intro u
 induction u using Nat.strongRecOn with
 |_ u ih=>
  intro c hc
  by_cases h:u < 10
  ·rw [PJ h,List.mem_singleton] at hc
   rw [hc,QS h];omega
  ·have hm:u % 10 < 10:=Nat.mod_lt _ (by omega)
   rw [U6 h,List.mem_append,List.mem_singleton] at hc
   rcases hc with hc | hc
   ·exact ih (u / 10) (by omega) c hc
   ·rw [hc,QS hm];omega
theorem Xh:∀(u:Nat) (r:List UInt8),u < 9223372036854775808→Lib.parseUint10 0 (Lib.decDigits u ++ r)=Lib.parseUint10 u r:=by
 intro u
 induction u using Nat.strongRecOn with
 |_ u ih=>
  intro r hu
  by_cases h:u < 10
  ·rw [PJ h,List.cons_append,List.nil_append,Lib.parseUint10]
   have e:=QS h
   rw [if_pos (by omega),if_neg (by omega),if_neg (by rw [e];omega),e]
   congr 1;omega
  ·have hm:u % 10 < 10:=Nat.mod_lt _ (by omega)
   rw [U6 h,List.append_assoc,ih (u / 10) (by omega) _ (by omega),List.cons_append,List.nil_append,Lib.parseUint10]
   have e:=QS hm
   rw [if_pos (by omega),if_neg (by omega),if_neg (by rw [e];omega),e]
   congr 1;omega
theorem cU {n:Int}(h0:0≤n)(h1:n≤9223372036854775807):Lib.atoiAll (Lib.itoa n)= .ok n:=by
 obtain ⟨u,rfl⟩:=Int.eq_ofNat_of_zero_le h0
 rw [Lib.itoa_nonneg]
 have hp:=Xh u [] (by omega)
 rw [List.append_nil] at hp
 cases hd:Lib.decDigits u with
 |nil=>exact absurd hd (vp u)
 |cons c r=>
  have hc:=Oj u c (by rw [hd];exact List.mem_cons_self ..)
  rw [hd] at hp
  unfold Lib.atoiAll
  dsimp only
  rw [if_neg (by omega)]
  unfold Lib.parseMag
  rw [if_neg (by simp),hp]
  simp only [Lib.parseUint10]
  rw [if_neg (by omega),if_neg (by omega),if_neg (by omega)]
theorem Lv {n:Int}(h0:0≤n)(h1:n≤9223372036854775807):Fj (Lib.itoa n)=some n:=by
 rw [UB]
 unfold fg bT
 rw [cU h0 h1]
 exact ⟨rfl,rfl,rfl⟩
def clean (w:List UInt8):Prop:=(32:UInt8) ∉ w∧(10:UInt8) ∉ w
theorem Ig {n:Int}(h0:0≤n):clean (Lib.itoa n):=by
 obtain ⟨u,rfl⟩:=Int.eq_ofNat_of_zero_le h0
 rw [Lib.itoa_nonneg]
 exact ⟨fun hc=>absurd (Oj u _ hc).1 (by decide),fun hc=>absurd (Oj u _ hc).1 (by decide)⟩
theorem lJ {n:Nat}(h:n < 16):hv (RR n)=n:=by
 have:∀n:Fin 16,hv (RR n.val)=(n.val:Int):=by decide +kernel
 exact this ⟨n,h⟩
theorem iT {n:Nat}(h:n < 16):RR n≠32∧RR n≠10:=by
 have:∀n:Fin 16,RR n.val≠32∧RR n.val≠10:=by decide +kernel
 exact this ⟨n,h⟩
theorem UE:∀(b:List UInt8),clean (Dy b)
 | []=>⟨by simp [Dy],by simp [Dy]⟩
 |c :: b=>by
  have h:=UE b
  have h1:=iT (n:=c.toNat / 16) (by have:=c.toNat_lt;omega)
  have h2:=iT (n:=c.toNat % 16) (Nat.mod_lt _ (by decide))
  have e:Dy (c :: b)=RR (c.toNat / 16) :: RR (c.toNat % 16) :: Dy b:=rfl
  rw [e]
  exact ⟨by simp [h.1,h1.1.symm,h2.1.symm],by simp [h.2,h1.2.symm,h2.2.symm]⟩
theorem lz:∀(b:List UInt8) (j:Nat),j < b.length→at' (Dy b) (2 * j)=RR ((at' b j).toNat / 16)∧at' (Dy b) (2 * j+1)=RR ((at' b j).toNat % 16)
 | [],j,h=>by simp at h
 |c :: b,0,_=>⟨rfl,rfl⟩
 |c :: b,j+1,h=>by
  have:=lz b j (by simpa using h)
  have e:Dy (c :: b)=RR (c.toNat / 16) :: RR (c.toNat % 16) :: Dy b:=rfl
  rw [e]
  exact this
theorem rJ (b:List UInt8):Oo (Dy b)=some b:=by
 have hl:=KB b
 have h2:(Dy b).length / 2=b.length:=by omega
 have hj:∀j,j < b.length→hv (at' (Dy b) (2 * j))=((at' b j).toNat / 16:Nat)∧hv (at' (Dy b) (2 * j+1))=((at' b j).toNat % 16:Nat):=fun j h=>by
  obtain ⟨e1,e2⟩:=lz b j h
  rw [e1,e2]
  exact ⟨lJ (by have:=(at' b j).toNat_lt;omega),lJ (Nat.mod_lt _ (by decide))⟩
 have hok:bW (Dy b) b.length=true:=by
  unfold bW
  rw [List.all_eq_true]
  intro j hm
  obtain ⟨e1,e2⟩:=hj j (List.mem_range.1 hm)
  have q1:(0:Int)≤((at' b j).toNat / 16:Nat):=Int.natCast_nonneg _
  have q2:(0:Int)≤((at' b j).toNat % 16:Nat):=Int.natCast_nonneg _
  rw [e1,e2,decide_eq_true q1,decide_eq_true q2];rfl
 have hout:J4 (Dy b) b.length=b:=by
  refine List.ext_getElem (by rw [L0]) fun i h1 h3=> ?_
  simp only [J4,List.getElem_map,List.getElem_range]
  obtain ⟨e1,e2⟩:=hj i h3
  unfold hvB
  rw [e1,e2,Int.toNat_natCast,Int.toNat_natCast,←Cb _ _ h3]
  have:16 * ((at' b i).toNat / 16)+(at' b i).toNat % 16=(at' b i).toNat:=Nat.div_add_mod _ _
  rw [this];simp
 unfold Oo
 rw [h2,if_pos ⟨by omega,hok⟩,hout]
theorem wO (b:List UInt8):SD (YW b)=some b:=by
 unfold YW
 by_cases h:b= []
 ·rw [if_pos h];subst h;rfl
 ·rw [if_neg h]
  unfold SD
  rw [if_neg (fun e=>by have:=congrArg List.length e;rw [KB] at this;simp at this;omega),rJ]
  cases b with
  |nil=>exact absurd rfl h
  |cons a l=>rfl
theorem lF (b:List UInt8):clean (YW b):=by
 unfold YW
 split
 ·exact ⟨by decide,by decide⟩
 ·exact UE b
def aN (F:Int)(o:Aq):Nat→Nat→Ld
 |0,_=> []
 |n+1,j=>if Au F (p2 j)=true then DY j o :: aN F o n (j+1) else aN F o n (j+1)
theorem bw {F:Int}{o:Aq}:∀(n j:Nat) (ws:Ld),DN F o n j ws=ws ++ aN F o n j
 |0,_,ws=>by simp [DN,aN]
 |n+1,j,ws=>by
  unfold DN aN
  rw [bw]
  split <;> simp
def wE (j:Nat)(o c:Aq):Aq:=match j with
 |0=> {c with Bl:=o.Bl}
 |1=> {c with Dg:=o.Dg}
 |2=> {c with CF:=o.CF}
 |3=> {c with BS:=o.BS}
 |4=> {c with Bytes:=o.Bytes}
 |_=> {c with CB:=o.CB}
structure ke (o:Aq) (F:Int):Prop where
 r:Au F 1=true→0≤o.Bl
 p:Au F 2=true→0≤o.Dg
 g:Au F 4=true→0≤o.CF
 t:Au F 32=true→0≤o.CB
theorem jm {o:Aq}{F:Int}(hm:Dr o F=true):ke o F:=by
 simp only [Dr,Bool.and_eq_true,m1,m2,m3,m4,m5,m6] at hm
 obtain ⟨⟨⟨⟨⟨a1,a2⟩,a3⟩,_⟩,_⟩,a6⟩:=hm
 refine ⟨fun h=> ?_,fun h=> ?_,fun h=> ?_,fun h=> ?_⟩
 ·rw [if_pos h] at a1;have:1≤o.Bl∧o.Bl≤24:=by simpa [My] using a1
  omega
 ·rw [if_pos h] at a2;have:1≤o.Dg∧o.Dg≤24:=by simpa [My] using a2
  omega
 ·rw [if_pos h] at a3;have:0≤o.CF∧o.CF≤7:=by simpa [My] using a3
  omega
 ·rw [if_pos h] at a6;have:1≤o.CB∧o.CB≤4096:=by simpa [My] using a6
  omega
theorem Xi {o:Aq}{F:Int}(hp:ke o F)(hO:Gy o){j:Nat}(hj:j < 6)(hh:Au F (p2 j)=true):clean (DY j o):=by
 have hcase:j=0∨j=1∨j=2∨j=3∨j=4∨j=5:=by omega
 rcases hcase with rfl | rfl | rfl | rfl | rfl | rfl
 ·exact Ig (hp.r hh)
 ·exact Ig (hp.p hh)
 ·exact Ig (hp.g hh)
 ·exact Ig hO.e0
 ·exact lF _
 ·exact Ig (hp.t hh)
theorem dB {o c:Aq}{F:Int}(hp:ke o F)(hO:Gy o){j:Nat}(hj:j < 6)(hh:Au F (p2 j)=true):GV j c (DY j o)=some (wE j o c):=by
 have hcase:j=0∨j=1∨j=2∨j=3∨j=4∨j=5:=by omega
 rcases hcase with rfl | rfl | rfl | rfl | rfl | rfl
 ·simp only [GV,DY,Lv (hp.r hh) hO.r.2];rfl
 ·simp only [GV,DY,Lv (hp.p hh) hO.p.2];rfl
 ·simp only [GV,DY,Lv (hp.g hh) hO.g.2];rfl
 ·have h1:=hO.e0
  have h2:=hO.e1
  simp only [GV,DY,Lv h1 (by omega)]
  rw [if_pos (by simp [My];omega)];rfl
 ·simp only [GV,DY,wO];rfl
 ·simp only [GV,DY,Lv (hp.t hh) hO.t.2];rfl
def W8 (F:Int)(o:Aq):Nat→Nat→Aq→Aq
 |0,_,c=>c
 |n+1,j,c=>W8 F o n (j+1) (if Au F (p2 j)=true then wE j o c else c)
theorem Vj {o:Aq}{F:Int}(hp:ke o F)(hO:Gy o):∀(n j:Nat) (c:Aq),j+n=6→Hm F n j c (aN F o n j)=some (W8 F o n j c, [])
 |0,_,_,_=>rfl
 |n+1,j,c,h=>by
  unfold Hm aN W8
  cases hh:Au F (p2 j) with
  |true=>
   simp only [if_true]
   rw [KQ hh,dB hp hO (by omega) hh]
   exact Vj hp hO n (j+1) _ (by omega)
  |false=>
   simp only [if_false,Bool.false_eq_true]
   rw [Kb hh]
   exact Vj hp hO n (j+1) _ (by omega)
theorem ff {o:Aq}{F:Int}(hm:Dr o F=true):W8 F o 6 0 (Sa o.Kind)=o:=by
 simp only [Dr,Bool.and_eq_true,m1,m2,m3,m4,m5,m6] at hm
 obtain ⟨⟨⟨⟨⟨a1,a2⟩,a3⟩,a4⟩,a5⟩,a6⟩:=hm
 obtain ⟨k,r,p,g,e,t,b⟩:=o
 simp only [W8,p2,wE,Sa]
 cases h1:Au F 1 <;> cases h2:Au F 2 <;> cases h3:Au F 4 <;> cases h4:Au F 8 <;> cases h5:Au F 16 <;> cases h6:Au F 32 <;> simp_all
theorem M7 {k:Int}{r:GI}:∀ {l:List GI},Ib k l=some r→r.kind=k∧r∈l
 | [],h=>by cases h
 |x :: l,h=>by
  unfold Ib at h
  split at h
  ·rename_i hk;cases h;exact ⟨hk,List.mem_cons_self ..⟩
  ·exact ⟨(M7 h).1,List.mem_cons_of_mem _ (M7 h).2⟩
theorem eg:∀r∈B6,N4 r.word B6=some r:=by
 intro r h
 simp only [B6,List.mem_cons,List.not_mem_nil,or_false] at h
 rcases h with rfl | rfl | rfl | rfl | rfl | rfl | rfl | rfl | rfl | rfl | rfl | rfl <;> rfl
theorem Wt:∀r∈B6,(32:UInt8) ∉ r.word∧(10:UInt8) ∉ r.word:=by decide
theorem Og {o:Aq}{F:Int}(hp:ke o F)(hO:Gy o):∀(n j:Nat),j+n=6→∀w∈aN F o n j,clean w
 |0,_,_=>fun w h=>by cases h
 |n+1,j,h=>fun w hw=>by
  unfold aN at hw
  split at hw
  ·rename_i hh
   rcases List.mem_cons.1 hw with rfl | hw
   ·exact Xi hp hO (by omega) hh
   ·exact Og hp hO n (j+1) (by omega) w hw
  ·exact Og hp hO n (j+1) (by omega) w hw
theorem XD {c:UInt8}:∀ {l:Ld},(∀w∈l,c ∉ w)→c≠32→c ∉ Lib.join l [32]
 | [],_,_=>by simp [Lib.join]
 | [w],h,_=>by simpa [Lib.join] using h w (List.mem_cons_self ..)
 |w :: v :: l,h,hc=>by
  have h1:=h w (List.mem_cons_self ..)
  have h2:=XD (l:=v :: l) (fun x hx=>h x (List.mem_cons_of_mem _ hx)) hc
  have e:Lib.join (w :: v :: l) [32] = w ++ [32] ++ Lib.join (v :: l) [32]:=by simp [Lib.join]
  rw [e]
  simp [h1,h2,hc]
theorem Z7 {o:Aq}{s:List UInt8}(hO:Gy o)(h:LH o=some s):PV s=some o∧(10:UInt8) ∉ s:=by
 unfold LH at h
 cases hf:Ib o.Kind B6 with
 |none=>rw [hf] at h;cases h
 |some r=>
  rw [hf] at h
  dsimp only at h
  split at h
  ·rename_i hm
   have h:=Option.some.inj h
   obtain ⟨hk,hr⟩:=M7 hf
   have hp:=jm hm
   have hws:=Og hp hO 6 0 rfl
   rw [bw] at h
   have hcl:∀w∈ [r.word] ++ aN r.fields o 6 0,clean w:=fun w hw=>by
    rcases List.mem_append.1 hw with hw | hw
    ·rw [List.mem_singleton.1 hw];exact Wt r hr
    ·exact hws w hw
   have hs:=Xp (l:= [r.word] ++ aN r.fields o 6 0) (by simp) (fun w hw=>(hcl w hw).1)
   rw [h] at hs
   refine ⟨?_,by rw [←h];exact XD (fun w hw=>(hcl w hw).2) (by decide)⟩
   unfold PV
   rw [hs]
   have e1:at' ([r.word] ++ aN r.fields o 6 0) 0=r.word:=rfl
   have e2:([r.word] ++ aN r.fields o 6 0).drop 1=aN r.fields o 6 0:=rfl
   rw [e1,e2,eg r hr]
   dsimp only
   unfold fk
   rw [hk,Vj hp hO 6 0 _ rfl,ff hm]
   unfold vr
   dsimp only
   rw [if_pos hm]
  ·cases h
end Go.Proofs.YthlhnangbinhoaaGreatDoor.Dm
