/- A line that is read as an op is the op's line: plain. -/
import Derived.Test.YthlhnangbinhoaaGreatDoorSV
import Derived.KernelRfl
set_option linter.unusedVariables false
namespace Go.Proofs.YthlhnangbinhoaaGreatDoor.Dm
open Go.Dm
set_option maxHeartbeats 16000000
set_option maxRecDepth 20000
theorem Uo (c:UInt8):0≤hv c→hv c < 16∧L4 (hv c).toNat=c:=by
 have:∀n:Fin 256,0≤hv (UInt8.ofNat n.val)→hv (UInt8.ofNat n.val) < 16∧L4 (hv (UInt8.ofNat n.val)).toNat=UInt8.ofNat n.val:=by decide +kernel
 have h:=this ⟨c.toNat,c.toNat_lt⟩
 simpa using h
theorem bL {s b:List UInt8}(h:GL s=some b):CZ b=s:=by
 unfold GL at h
 split at h
 ·rename_i hc
  have h:=Option.some.inj h
  obtain ⟨h2,hok⟩:=hc
  have hk:∀j,j < s.length / 2→0≤hv (at' s (2 * j))∧0≤hv (at' s (2 * j+1)):=fun j hj=>by
   unfold SK at hok
   rw [List.all_eq_true] at hok
   have:=hok j (List.mem_range.2 hj)
   simpa using this
  have hb:b.length=s.length / 2:=by rw [←h,GA]
  have hat:∀j,j < s.length / 2→(at' b j).toNat=16 * (hv (at' s (2 * j))).toNat+(hv (at' s (2 * j+1))).toNat:=fun j hj=>by
   obtain ⟨a1,a2⟩:=hk j hj
   have b1:=(Uo _ a1).1
   have b2:=(Uo _ a2).1
   have e:at' b j=mr (at' s (2 * j)) (at' s (2 * j+1)):=by
    rw [BS _ _ (by omega)]
    simp only [←h,EX,List.getElem_map,List.getElem_range]
   rw [e]
   unfold mr
   rw [UInt8.toNat_ofNat']
   omega
  refine List.ext_getElem (by rw [EI];omega) fun i h1 h3=> ?_
  rw [←BS _ _ h1,←BS _ _ h3]
  obtain ⟨j,hj⟩:∃j,i=2 * j∨i=2 * j+1:=⟨i / 2,by omega⟩
  have hjl:j < s.length / 2:=by omega
  obtain ⟨e1,e2⟩:=Yj b j (by omega)
  obtain ⟨a1,a2⟩:=hk j hjl
  have b1:=Uo _ a1
  have b2:=Uo _ a2
  have ha:=hat j hjl
  rcases hj with rfl | rfl
  ·rw [e1,ha,show (16 * (hv (at' s (2 * j))).toNat+(hv (at' s (2 * j+1))).toNat) / 16=(hv (at' s (2 * j))).toNat by omega,b1.2]
  ·rw [e2,ha,show (16 * (hv (at' s (2 * j))).toNat+(hv (at' s (2 * j+1))).toNat) % 16=(hv (at' s (2 * j+1))).toNat by omega,b2.2]
 ·cases h
theorem u7 {w b:List UInt8}(h:Rx w=some b):Pu b=w:=by
 unfold Rx at h
 split at h
 ·rename_i e;cases h;rw [e];rfl
 ·split at h
  ·rename_i a l hu
   cases h
   have:=bL hu
   unfold Pu
   rw [if_neg (by simp),this]
  ·cases h
theorem fe{j:Nat}{c c':A0}{w:List UInt8}(hj:j < 6)(h:Hr j c w=some c'):Bk j c' = w:=by
 have hcase:j=0∨j=1∨j=2∨j=3∨j=4∨j=5:=by omega
 rcases hcase with rfl | rfl | rfl | rfl | rfl | rfl <;> simp only[Hr]at h
 ·obtain⟨n,hn,rfl⟩:=Option.map_eq_some_iff.1 h
  exact(EW.1 hn).2.2
 ·obtain⟨n,hn,rfl⟩:=Option.map_eq_some_iff.1 h
  exact(EW.1 hn).2.2
 ·obtain⟨n,hn,rfl⟩:=Option.map_eq_some_iff.1 h
  exact(EW.1 hn).2.2
 ·split at h
  ·rename_i n hn
   split at h
   ·cases h
    exact(EW.1 hn).2.2
   ·cases h
  ·cases h
 ·obtain⟨b,hb,rfl⟩:=Option.map_eq_some_iff.1 h
  exact u7 hb
 ·obtain⟨n,hn,rfl⟩:=Option.map_eq_some_iff.1 h
  exact(EW.1 hn).2.2
theorem ez{i j:Nat}{c c':A0}{w:List UInt8}(hj:j < 6)(hi:i < j)(h:Hr j c w=some c'):Bk i c' = Bk i c:=by
 have hcase:j=0∨j=1∨j=2∨j=3∨j=4∨j=5:=by omega
 have hcas2:i=0∨i=1∨i=2∨i=3∨i=4:=by omega
 rcases hcase with rfl | rfl | rfl | rfl | rfl | rfl <;> simp only[Hr]at h
 ·omega
 ·obtain⟨n,hn,rfl⟩:=Option.map_eq_some_iff.1 h
  rcases hcas2 with rfl | rfl | rfl | rfl | rfl <;> first | rfl | omega
 ·obtain⟨n,hn,rfl⟩:=Option.map_eq_some_iff.1 h
  rcases hcas2 with rfl | rfl | rfl | rfl | rfl <;> first | rfl | omega
 ·split at h
  ·split at h
   ·cases h
    rcases hcas2 with rfl | rfl | rfl | rfl | rfl <;> first | rfl | omega
   ·cases h
  ·cases h
 ·obtain⟨n,hn,rfl⟩:=Option.map_eq_some_iff.1 h
  rcases hcas2 with rfl | rfl | rfl | rfl | rfl <;> first | rfl | omega
 ·obtain⟨n,hn,rfl⟩:=Option.map_eq_some_iff.1 h
  rcases hcas2 with rfl | rfl | rfl | rfl | rfl <;> first | rfl | omega
theorem e8{j:Nat}{c c':A0}{w:List UInt8}(h:Hr j c w=some c'):c'.Kind=c.Kind:=by
 unfold Hr at h
 split at h
 ·obtain⟨n,hn,rfl⟩:=Option.map_eq_some_iff.1 h;rfl
 ·obtain⟨n,hn,rfl⟩:=Option.map_eq_some_iff.1 h;rfl
 ·obtain⟨n,hn,rfl⟩:=Option.map_eq_some_iff.1 h;rfl
 ·split at h
  ·split at h
   ·cases h;rfl
   ·cases h
  ·cases h
 ·obtain⟨n,hn,rfl⟩:=Option.map_eq_some_iff.1 h;rfl
 ·obtain⟨n,hn,rfl⟩:=Option.map_eq_some_iff.1 h;rfl
theorem OU {F:Int}:∀(n j:Nat) (c o:A0) (ws r:Ec),j+n=6→LI F n j c ws=some (o,r)→ws=R2 F o n j ++ r∧(∀i,i < j→Bk i o=Bk i c)∧o.Kind=c.Kind
 |0,j,c,o,ws,r,_,h=>by
  unfold LI at h
  cases h
  exact ⟨rfl,fun _ _=>rfl,rfl⟩
 |n+1,j,c,o,ws,r,hj,h=>by
  unfold LI at h
  unfold R2
  cases hh:A3 F (p2 j) with
  |false=>
   rw [P4 hh] at h
   obtain ⟨a,b,d⟩:=OU n (j+1) c o ws r (by omega) h
   simp only [if_false,Bool.false_eq_true]
   exact ⟨a,fun i hi=>b i (by omega),d⟩
  |true=>
   simp only [if_true]
   cases ws with
   |nil=>rw [VS hh] at h;cases h
   |cons w l=>
    rw [P3 hh] at h
    cases hs:Hr j c w with
    |none=>rw [hs] at h;cases h
    |some c'=>
     rw [hs] at h
     obtain ⟨a,b,d⟩:=OU n (j+1) c' o l r (by omega) h
     have e1:=b j (by omega)
     rw [fe (by omega) hs] at e1
     exact ⟨by rw [e1,a];rfl,fun i hi=>(b i (by omega)).trans (ez (by omega) hi hs),d.trans (e8 hs)⟩
theorem Rb {F:Int}:∀(n j:Nat) (c o:A0) (ws r:Ec),GS c→(∀w∈ws,w.length≤140737488351232)→LI F n j c ws=some (o,r)→GS o
 |0,_,c,o,ws,r,hc,_,h=>by
  unfold LI at h
  cases h
  exact hc
 |n+1,j,c,o,ws,r,hc,hw,h=>by
  unfold LI at h
  cases hh:A3 F (p2 j) with
  |false=>
   rw [P4 hh] at h
   exact Rb n (j+1) c o ws r hc hw h
  |true=>
   cases ws with
   |nil=>rw [VS hh] at h;cases h
   |cons w l=>
    rw [P3 hh] at h
    cases hs:Hr j c w with
    |none=>rw [hs] at h;cases h
    |some c'=>
     rw [hs] at h
     exact Rb n (j+1) c' o l r (XO hc (hw w (by simp)) hs) (fun v hv=>hw v (by simp [hv])) h
theorem L9 {w:List UInt8}{r:Da}:∀ {l:List Da},J5 w l=some r→r.word=w∧r∈l
 | [],h=>by cases h
 |x :: l,h=>by
  unfold J5 at h
  split at h
  ·rename_i hk;cases h;exact ⟨hk,List.mem_cons_self ..⟩
  ·exact ⟨(L9 h).1,List.mem_cons_of_mem _ (L9 h).2⟩
theorem dY:∀r∈BI,FG r.kind BI=some r:=by
 intro r h
 simp only[BI,List.mem_cons,List.not_mem_nil,or_false]at h
 rcases h with rfl | rfl | rfl | rfl | rfl | rfl | rfl | rfl | rfl | rfl | rfl | rfl <;> rfl
theorem pc {k:Int}(h:Ev k):GS (MS k):=⟨h,Lw,Lw,Lw,Int.le_refl 0,(by decide:(0:Int) < 4294967296),Lw,Nat.zero_le _⟩
theorem jx {s:List UInt8}{o:A0}(hs:s.length≤140737488351232)(h:ON s=some o):Ik o=some s∧GS o:=by
 unfold ON at h
 split at h
 ·rename_i r hf
  unfold eH nw at h
  split at h
  ·rename_i o' hr
   split at h
   ·rename_i hm
    cases h
    obtain ⟨hw,hk⟩:=L9 hf
    obtain ⟨e1,_,e3⟩:=OU 6 0 _ _ _ _ rfl hr
    have e3:o.Kind=r.kind:=e3
    have hrg:=Rb 6 0 _ _ _ _ (pc (k:=r.kind) (by
     simp only [BI,List.mem_cons,List.not_mem_nil,or_false] at hk
     rcases hk with rfl | rfl | rfl | rfl | rfl | rfl | rfl | rfl | rfl | rfl | rfl | rfl <;> exact ⟨by decide,by decide⟩)) (fun w hw=>Nat.le_trans (JL s w (List.mem_of_mem_drop hw)) hs) hr
    refine ⟨?_,hrg⟩
    unfold Ik
    rw [e3,dY r hk]
    dsimp only
    rw [if_pos hm,MV,hw]
    rw [List.append_nil] at e1
    rw [←e1]
    have hsp:Bl s= [at' (Bl s) 0] ++ (Bl s).drop 1:=by
     cases hq:Bl s with
     |nil=>exact absurd hq (Kc s)
     |cons a l=>rfl
    rw [←hsp,Ws]
   ·cases h
  ·cases h
 ·cases h
end Go.Proofs.YthlhnangbinhoaaGreatDoor.Dm
set_option linter.unusedVariables false
namespace Go.Proofs.YthlhnangbinhoaaGreatDoor.Dm
open Go.Dm
set_option maxHeartbeats 16000000
set_option maxRecDepth 20000
theorem I4:A3 32 1=false:=by kernel_rfl
theorem I5:A3 32 2=false:=by kernel_rfl
theorem KE:A3 32 4=false:=by kernel_rfl
theorem KF:A3 32 8=false:=by kernel_rfl
theorem I6:A3 32 16=false:=by kernel_rfl
theorem KG:A3 32 32=true:=by kernel_rfl
theorem M1:A3 3 1=true:=by kernel_rfl
theorem M3:A3 3 2=true:=by kernel_rfl
theorem Ox:A3 3 4=false:=by kernel_rfl
theorem Oy:A3 3 8=false:=by kernel_rfl
theorem M4:A3 3 16=false:=by kernel_rfl
theorem Oz:A3 3 32=false:=by kernel_rfl
theorem KB:A3 1 1=true:=by kernel_rfl
theorem KC:A3 1 2=false:=by kernel_rfl
theorem La:A3 1 4=false:=by kernel_rfl
theorem Lc:A3 1 8=false:=by kernel_rfl
theorem KD:A3 1 16=false:=by kernel_rfl
theorem Ld:A3 1 32=false:=by kernel_rfl
theorem KH:A3 5 1=true:=by kernel_rfl
theorem KI:A3 5 2=false:=by kernel_rfl
theorem Le:A3 5 4=true:=by kernel_rfl
theorem Lf:A3 5 8=false:=by kernel_rfl
theorem KJ:A3 5 16=false:=by kernel_rfl
theorem Lg:A3 5 32=false:=by kernel_rfl
theorem MA:A3 13 1=true:=by kernel_rfl
theorem MB:A3 13 2=false:=by kernel_rfl
theorem N9:A3 13 4=true:=by kernel_rfl
theorem OA:A3 13 8=true:=by kernel_rfl
theorem MC:A3 13 16=false:=by kernel_rfl
theorem OB:A3 13 32=false:=by kernel_rfl
theorem J9:A3 19 1=true:=by kernel_rfl
theorem KA:A3 19 2=true:=by kernel_rfl
theorem MD:A3 19 4=false:=by kernel_rfl
theorem ME:A3 19 8=false:=by kernel_rfl
theorem I3:A3 19 16=true:=by kernel_rfl
theorem MF:A3 19 32=false:=by kernel_rfl
def Ta:Int→List UInt8→Int
 |n, []=>n
 |n,c :: l=>Ta (if 48≤c.toNat∧c.toNat≤57 then Ad .i64 (Ad .i64 (10 * n) - ((c.toNat:Int) - 48)) else n) l
def EL (w:List UInt8):Int:=if w.head? = some 45 then Ta 0 w else Ad .i64 (-(Ta 0 w))
def LG (w:List UInt8):Bool:= !w.isEmpty && decide (w.length≤20) && decide (Lib.itoa (EL w)=w)
def R7(w:List UInt8):Int:=if LG w=true then EL w else 0
theorem tL (n:Int):Ev (Ad .i64 n):=by
 unfold Ev
 rw [En]
 unfold IntKind.wrap
 have e1:(2 ^ IntKind.i64.bits:Int)=18446744073709551616:=by decide
 have e2:(2 ^ (IntKind.i64.bits - 1):Int)=9223372036854775808:=by decide
 have e3:IntKind.i64.signed=true:=rfl
 simp only [e1,e2,e3,Bool.true_and,ge_iff_le,decide_eq_true_eq]
 split <;> omega
theorem Py:∀(a b:List UInt8) (n:Int),Ta n (a ++ b)=Ta (Ta n a) b
 | [],_,_=>rfl
 |c :: a,b,n=>by
  show Ta _ (a ++ b)=_
  rw [Py a b];rfl
theorem Pz:∀(u:Nat),u < 9223372036854775808→Ta 0 (Lib.decDigits u)= -(u:Int):=by
 intro u
 induction u using Nat.strongRecOn with
 |_ u ih=>
  intro hu
  by_cases h:u < 10
  ·rw [FU h]
   have e:=HX h
   show (if _ then _ else _)=_
   rw [e,if_pos (by omega),wrap64 (n:=10 * 0) (by omega) (by omega),wrap64 (by omega) (by omega)]
   omega
  ·have hm:u % 10 < 10:=Nat.mod_lt _ (by omega)
   have e:=HX hm
   rw [HV h,Py,ih (u / 10) (by omega) (by omega)]
   show (if _ then _ else _)=_
   rw [e,if_pos (by omega),wrap64 (n:=10 * -((u / 10:Nat):Int)) (by omega) (by omega),wrap64 (by omega) (by omega)]
   omega
theorem Pn:∀(k u:Nat),u < 10 ^ (k+1)→(Lib.decDigits u).length≤k+1
 |0,u,h=>by rw [FU (by omega)];simp
 |k+1,u,h=>by
  by_cases c:u < 10
  ·rw [FU c];simp
  ·have:=Pn k (u / 10) (by rw [Nat.pow_succ] at h;omega)
   rw [HV c,List.length_append,List.length_singleton]
   omega
theorem K0 {n:Int}(h0:0≤n)(h1:n≤9223372036854775807):R7 (Lib.itoa n)=n:=by
 obtain ⟨u,rfl⟩:=Int.eq_ofNat_of_zero_le h0
 have hr:=Pz u (by omega)
 have hN:EL (Lib.itoa (u:Int))=(u:Int):=by
  unfold EL
  rw [Lib.itoa_nonneg,hr,if_neg,wrap64 (by omega) (by omega),Int.neg_neg]
  intro hc
  cases hd:Lib.decDigits u with
  |nil=>exact absurd hd (N1 u)
  |cons c r=>
   rw [hd] at hc
   have hc:c=45:=by simpa using hc
   have:=(II u c (by rw [hd];exact List.mem_cons_self ..)).1
   rw [hc] at this
   exact absurd this (by decide)
 have hl:(Lib.itoa (u:Int)).length≤19:=by
  rw [Lib.itoa_nonneg]
  exact Pn 18 u (by omega)
 have hl2:(Lib.itoa (u:Int)).length≤20:=by omega
 have hne:(Lib.itoa (u:Int)).isEmpty=false:=by
  rw [Lib.itoa_nonneg]
  cases hd:Lib.decDigits u with
  |nil=>exact absurd hd (N1 u)
  |cons c r=>rfl
 unfold R7 LG
 simp [hN,hne,hl2]
theorem bh:∀(l:List UInt8) (n:Int),Ev n→Ev (Ta n l)
 | [],_,h=>h
 |c :: l,n,h=>by
  refine bh l _ ?_
  split
  ·exact tL _
  ·exact h
theorem RO (w:List UInt8):Ev (EL w):=by
 unfold EL
 split
 ·exact bh _ _ Lw
 ·exact tL _
theorem pz (w:List UInt8):Ev (R7 w):=by
 unfold R7
 split
 ·exact RO w
 ·exact Lw
def W4:List (List UInt8):= [] :: BI.map Da.word
def Ca(k:Int):List UInt8:=if 1≤k∧k≤12 then at' W4 k.toNat else []
def kA (w:List UInt8):Nat→Int
 |0=>0
 |k+1=>if w=Ca ((k+1:Nat):Int) then ((k+1:Nat):Int) else kA w k
def Gm (k:Int):Bool:=decide (k=1) || decide (k=10)
def HK (k:Int):Bool:=decide (k=2) || decide (k=3) || decide (k=9)
def HJ (k:Int):Bool:=decide (k=6) || decide (k=7) || decide (k=11) || decide (k=8)
def LN(k:Int)(n:List Int)(b:List UInt8):A0:=
 ⟨k,if Gm k=true then 0 else at' n 0,if 1 < n.length∧HK k=true then at' n 1 else 0,if 1 < n.length∧HJ k=true then at' n 1 else 0,if 2 < n.length∧k=8∧0≤at' n 2∧at' n 2 < 4294967296 then at' n 2 else 0,if Gm k=true then at' n 0 else 0,b⟩
def Jp (ws:Ec)(k:Int):List UInt8:=if 3 < ws.length∧k=9∧at' ws 3≠ [45] then (GL (at' ws 3)).getD [] else []
def Jq (ws:Ec):A0:=LN (kA (at' ws 0) 12) ((ws.drop 1).map R7) (Jp ws (kA (at' ws 0) 12))
def VK (s:List UInt8):Option A0:=if 1064 < s.length then none else if (Bl s).drop 1= [] then none else if Ik (Jq (Bl s))=some s then some (Jq (Bl s)) else none
theorem jN(w:List UInt8):∀k:Nat,0≤kA w k∧kA w k≤k
 |0=>⟨Int.le_refl _,Int.le_refl _⟩
 |k+1=>by
  have:=jN w k
  unfold kA
  split <;> omega
theorem Zp {l:Ec}{j:Nat}:Ev (at' (l.map R7) j):=by
 unfold at'
 rw [List.getElem?_map]
 cases l[j]? with
 |none=>exact Lw
 |some w=>exact pz w
theorem rB {s b:List UInt8}(h:GL s=some b):b.length≤s.length:=by
 have:=congrArg List.length (bL h)
 rw [EI] at this
 omega
theorem YN {ws:Ec}{m j:Nat}(h:∀w∈ws,w.length≤m):(at' ws j).length≤m:=by
 unfold at'
 cases hq:ws[j]? with
 |none=>exact Nat.zero_le _
 |some w=>exact h w (List.mem_of_getElem? hq)
theorem dF {ws:Ec}{k:Int}(h:∀w∈ws,w.length≤140737488351232):(Jp ws k).length≤140737488351232:=by
 unfold Jp
 split
 ·cases hq:GL (at' ws 3) with
  |none=>exact Nat.zero_le _
  |some b=>exact Nat.le_trans (rB hq) (YN h)
 ·exact Nat.zero_le _
theorem WC {ws:Ec}(h:∀w∈ws,w.length≤140737488351232):GS (Jq ws):=by
 obtain ⟨k0,k1⟩:=jN (at' ws 0) 12
 unfold Jq LN
 refine ⟨?_, ?_, ?_, ?_, ?_, ?_, ?_,dF h⟩ <;> dsimp only
 ·unfold Ev;omega
 ·split
  ·exact Lw
  ·exact Zp
 ·split
  ·exact Zp
  ·exact Lw
 ·split
  ·exact Zp
  ·exact Lw
 ·split
  ·rename_i hc;exact hc.2.2.1
  ·exact Int.le_refl _
 ·split
  ·rename_i hc;exact hc.2.2.2
  ·decide
 ·split
  ·exact Zp
  ·exact Lw
theorem u9:∀r∈BI,kA r.word 12=r.kind:=by decide +kernel
theorem oY {b:List UInt8}:(if Pu b≠ [45] then (GL (Pu b)).getD [] else [])=b:=by
 by_cases hb:b= []
 ·subst hb;rfl
 ·have e:Pu b=CZ b:=by unfold Pu;rw [if_neg hb]
  rw [e,cU,if_pos]
  ·rfl
  ·intro hc
   have:=congrArg List.length hc
   rw [EI] at this
   simp at this
   omega
theorem nb {o:A0}{r:Da}(hr:r∈BI)(hO:GS o)(hm:CX o r.fields=true)(hk:o.Kind=r.kind):Jq (r.word :: R2 r.fields o 6 0)=o:=by
 have hp:=RB hm
 have hk2:=u9 r hr
 have e0:=hO.e0
 have e1:=hO.e1
 have z4:=K0 e0 (by omega)
 simp only [CX,Bool.and_eq_true,m1,m2,m3,m4,m5,m6] at hm
 obtain ⟨k,a,p,g,e,t,b⟩:=o
 dsimp only at hk e0 e1 z4 hm
 unfold Jq
 rw [show at' (r.word :: R2 r.fields ⟨k,a,p,g,e,t,b⟩ 6 0) 0=r.word from rfl,hk2,←hk]
 have z1:A3 r.fields 1=true→R7 (Lib.itoa a)=a:=fun h=>K0 (hp.r h) hO.r.2
 have z2:A3 r.fields 2=true→R7 (Lib.itoa p)=p:=fun h=>K0 (hp.p h) hO.p.2
 have z3:A3 r.fields 4=true→R7 (Lib.itoa g)=g:=fun h=>K0 (hp.g h) hO.g.2
 have z6:A3 r.fields 32=true→R7 (Lib.itoa t)=t:=fun h=>K0 (hp.t h) hO.t.2
 have hx:=oY (b:=b)
 clear hp hk2
 simp only [BI,List.mem_cons,List.not_mem_nil,or_false] at hr
 rcases hr with rfl | rfl | rfl | rfl | rfl | rfl | rfl | rfl | rfl | rfl | rfl | rfl <;>
  (dsimp only at hk hm z1 z2 z3 z6 ⊢
   subst hk
   simp only [I4,I5,KE,KF,I6,KG,M1,M3,Ox,Oy,M4,Oz,KB,KC,La,Lc,KD,Ld,KH,KI,Le,Lf,KJ,Lg,MA,MB,N9,OA,MC,OB,J9,KA,MD,ME,I3,MF,if_true,if_false,Bool.false_eq_true,decide_eq_true_eq,true_implies,false_implies] at hm z1 z2 z3 z6
   simp [R2,p2,Bk,LN,Jp,Gm,HK,HJ,at',I4,I5,KE,KF,I6,KG,M1,M3,Ox,Oy,M4,Oz,KB,KC,La,Lc,KD,Ld,KH,KI,Le,Lf,KJ,Lg,MA,MB,N9,OA,MC,OB,J9,KA,MD,ME,I3,MF,z4] at hx ⊢
   try simp_all
   try (intro hh;omega))
theorem jM {n:Int}(h0:0≤n)(h1:n≤24):(Lib.itoa n).length≤2:=by
 have:∀m:Fin 25,(Lib.itoa (m.val:Int)).length≤2:=by decide +kernel
 obtain ⟨u,rfl⟩:=Int.eq_ofNat_of_zero_le h0
 exact this ⟨u,by omega⟩
theorem vE {o:A0}{s:List UInt8}(hO:GS o)(h:Ik o=some s):s.length≤1064:=by
 unfold Ik at h
 split at h
 ·rename_i r hr
  split at h
  ·rename_i hm
   cases h
   rw [MV]
   have hk:=(G4 hr).2
   have i1:=Lib.itoa_length_le o.Bg hO.r.1 hO.r.2
   have i2:=Lib.itoa_length_le o.DQ hO.p.1 hO.p.2
   have i3:=Lib.itoa_length_le o.CH hO.g.1 hO.g.2
   have i4:=Lib.itoa_length_le o.Be (by have:=hO.e0;omega) (by have:=hO.e1;omega)
   have i6:=Lib.itoa_length_le o.Cj hO.t.1 hO.t.2
   have i5:(Pu o.Bytes).length≤1024∨A3 r.fields 16=false:=by
    cases h5:A3 r.fields 16 with
    |true=>exact .inl (Up (U6 hm h5))
    |false=>exact .inr rfl
   have i7:A3 r.fields 1=true→(Lib.itoa o.Bg).length≤2:=fun h=>by
    simp only [CX,Bool.and_eq_true,m1] at hm
    have a1:=hm.1.1.1.1.1
    rw [if_pos h] at a1
    have:1≤o.Bg∧o.Bg≤24:=by simpa [GC] using a1
    exact jM (by omega) this.2
   have i8:A3 r.fields 2=true→(Lib.itoa o.DQ).length≤2:=fun h=>by
    simp only [CX,Bool.and_eq_true,m2] at hm
    have a1:=hm.1.1.1.1.2
    rw [if_pos h] at a1
    have:1≤o.DQ∧o.DQ≤24:=by simpa [GC] using a1
    exact jM (by omega) this.2
   clear hr hm
   simp only [BI,List.mem_cons,List.not_mem_nil,or_false] at hk
   rcases hk with rfl | rfl | rfl | rfl | rfl | rfl | rfl | rfl | rfl | rfl | rfl | rfl <;>
    (dsimp only at i5 i7 i8
     simp only [I4,I5,I6,M1,M3,M4,KB,KC,KD,KH,KI,KJ,MA,MB,MC,J9,KA,I3,Bool.true_eq_false,Bool.false_eq_true,or_false,or_true,true_implies,false_implies] at i5 i7 i8
     simp [R2,p2,Bk,I4,I5,KE,KF,I6,KG,M1,M3,Ox,Oy,M4,Oz,KB,KC,La,Lc,KD,Ld,KH,KI,Le,Lf,KJ,Lg,MA,MB,N9,OA,MC,OB,J9,KA,MD,ME,I3,MF,Lib.join]
     omega)
  ·cases h
 ·cases h
theorem p7 {s:List UInt8}(hs:s.length≤140737488351232):VK s=ON s:=by
 have hw:∀w∈Bl s,w.length≤140737488351232:=fun w h=>Nat.le_trans (JL s w h) hs
 cases ho:ON s with
 |some o=>
  obtain ⟨h1,h2⟩:=jx hs ho
  have hc:Jq (Bl s)=o∧(Bl s).drop 1≠ []:=by
   have h1':=h1
   unfold Ik at h1'
   split at h1'
   ·rename_i r hr
    split at h1'
    ·rename_i hm
     have h1':=Option.some.inj h1'
     obtain ⟨hk,hkm⟩:=G4 hr
     have hp:=RB hm
     rw [MV] at h1'
     have hsp:=Rp (l:= [r.word] ++ R2 r.fields o 6 0) (by simp) (fun w hw=>by
      rcases List.mem_append.1 hw with hw | hw
      ·rw [List.mem_singleton.1 hw];exact (PH r hkm).1
      ·exact (LD hp h2 6 0 rfl w hw).1)
     rw [h1'] at hsp
     rw [hsp]
     refine ⟨nb hkm h2 hm hk.symm, ?_⟩
     show R2 r.fields o 6 0≠ []
     clear hr hm hk hp h1' hsp
     simp only [BI,List.mem_cons,List.not_mem_nil,or_false] at hkm
     rcases hkm with rfl | rfl | rfl | rfl | rfl | rfl | rfl | rfl | rfl | rfl | rfl | rfl <;> simp [R2,p2,I4,I5,KE,KF,I6,KG,M1,M3,Ox,Oy,M4,Oz,KB,KC,La,Lc,KD,Ld,KH,KI,Le,Lf,KJ,Lg,MA,MB,N9,OA,MC,OB,J9,KA,MD,ME,I3,MF]
    ·cases h1'
   ·cases h1'
  unfold VK
  rw [if_neg (by have:=vE h2 h1;omega),if_neg hc.2,hc.1,if_pos h1]
 |none=>
  unfold VK
  split
  ·rfl
  ·split
   ·rfl
   ·split
    ·rename_i h
     have:=(vr (WC hw) h).1
     rw [ho] at this
     cases this
    ·rfl
end Go.Proofs.YthlhnangbinhoaaGreatDoor.Dm
