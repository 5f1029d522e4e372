/- An op of a line as the document reads it: plain. -/
import Derived.Test.YthlhnangbinhoaaGreatDoorSVR
import Derived.KernelRfl
import Derived.Test.YthlhnangbinhoaaGreatDoorTFX
set_option linter.unusedVariables false
namespace Go.Proofs.YthlhnangbinhoaaGreatDoor.Dm
open Go.Dm
set_option maxHeartbeats 16000000
set_option maxRecDepth 20000
theorem Jb:Ay 32 1=false:=by kernel_rfl
theorem JI:Ay 32 2=false:=by kernel_rfl
theorem Jv:Ay 32 4=false:=by kernel_rfl
theorem KG:Ay 32 8=false:=by kernel_rfl
theorem JO:Ay 32 16=false:=by kernel_rfl
theorem J5:Ay 32 32=true:=by kernel_rfl
theorem Mm:Ay 3 1=true:=by kernel_rfl
theorem Mo:Ay 3 2=true:=by kernel_rfl
theorem O9:Ay 3 4=false:=by kernel_rfl
theorem PQ:Ay 3 8=false:=by kernel_rfl
theorem NG:Ay 3 16=false:=by kernel_rfl
theorem PR:Ay 3 32=false:=by kernel_rfl
theorem Jw:Ay 1 1=true:=by kernel_rfl
theorem J8:Ay 1 2=false:=by kernel_rfl
theorem L5:Ay 1 4=false:=by kernel_rfl
theorem L4:Ay 1 8=false:=by kernel_rfl
theorem KH:Ay 1 16=false:=by kernel_rfl
theorem Lx:Ay 1 32=false:=by kernel_rfl
theorem Kb:Ay 5 1=true:=by kernel_rfl
theorem Jz:Ay 5 2=false:=by kernel_rfl
theorem L6:Ay 5 4=true:=by kernel_rfl
theorem Lz:Ay 5 8=false:=by kernel_rfl
theorem Kg:Ay 5 16=false:=by kernel_rfl
theorem Lt:Ay 5 32=false:=by kernel_rfl
theorem MU:Ay 13 1=true:=by kernel_rfl
theorem MD:Ay 13 2=false:=by kernel_rfl
theorem Oi:Ay 13 4=true:=by kernel_rfl
theorem Oq:Ay 13 8=true:=by kernel_rfl
theorem MI:Ay 13 16=false:=by kernel_rfl
theorem OD:Ay 13 32=false:=by kernel_rfl
theorem Kt:Ay 19 1=true:=by kernel_rfl
theorem Kk:Ay 19 2=true:=by kernel_rfl
theorem MW:Ay 19 4=false:=by kernel_rfl
theorem Mb:Ay 19 8=false:=by kernel_rfl
theorem Jd:Ay 19 16=true:=by kernel_rfl
theorem MV:Ay 19 32=false:=by kernel_rfl
def X9:Int→List UInt8→Int
 |n, []=>n
 |n,c :: l=>X9 (if 48≤c.toNat∧c.toNat≤57 then Ap .i64 (Ap .i64 (10 * n) - ((c.toNat:Int) - 48)) else n) l
def Ic (w:List UInt8):Int:=if w.head? = some 45 then X9 0 w else Ap .i64 (-(X9 0 w))
def nJ (w:List UInt8):Bool:= !w.isEmpty && decide (w.length≤20) && decide (Lib.itoa (Ic w)=w)
def Ry (w:List UInt8):Int:=if nJ w=true then Ic w else 0
theorem tc (n:Int):Fh (Ap .i64 n):=by
 unfold Fh
 rw [Eo]
 unfold IntKind.wrap
 have e1:(2 ^ IntKind.i64.bits:Int)=18446744073709551616:=by decide
 have e2:(2 ^ (IntKind.i64.bits - 1):Int)=9223372036854775808:=by decide
 have e3:IntKind.i64.signed=true:=rfl
 simp only [e1,e2,e3,Bool.true_and,ge_iff_le,decide_eq_true_eq]
 split <;> omega
theorem VL:∀(a b:List UInt8) (n:Int),X9 n (a ++ b)=X9 (X9 n a) b
 | [],_,_=>rfl
 |c :: a,b,n=>by
  show X9 _ (a ++ b)=_
  rw [VL a b];rfl
theorem ox:∀(u:Nat),u < 9223372036854775808→X9 0 (Lib.decDigits u)= -(u:Int):=by
 intro u
 induction u using Nat.strongRecOn with
 |_ u ih=>
  intro hu
  by_cases h:u < 10
  ·rw [Fp h]
   have e:=LQ h
   show (if _ then _ else _)=_
   rw [e,if_pos (by omega),wrap64 (n:=10 * 0) (by omega) (by omega),wrap64 (by omega) (by omega)]
   omega
  ·have hm:u % 10 < 10:=Nat.mod_lt _ (by omega)
   have e:=LQ hm
   rw [K4 h,VL,ih (u / 10) (by omega) (by omega)]
   show (if _ then _ else _)=_
   rw [e,if_pos (by omega),wrap64 (n:=10 * -((u / 10:Nat):Int)) (by omega) (by omega),wrap64 (by omega) (by omega)]
   omega
theorem bL:∀(k u:Nat),u < 10 ^ (k+1)→(Lib.decDigits u).length≤k+1
 |0,u,h=>by rw [Fp (by omega)];simp
 |k+1,u,h=>by
  by_cases c:u < 10
  ·rw [Fp c];simp
  ·have:=bL k (u / 10) (by rw [Nat.pow_succ] at h;omega)
   rw [K4 c,List.length_append,List.length_singleton]
   omega
theorem Ml {n:Int}(h0:0≤n)(h1:n≤9223372036854775807):Ry (Lib.itoa n)=n:=by
 obtain ⟨u,rfl⟩:=Int.eq_ofNat_of_zero_le h0
 have hr:=ox u (by omega)
 have hN:Ic (Lib.itoa (u:Int))=(u:Int):=by
  unfold Ic
  rw [Lib.itoa_nonneg,hr,if_neg,wrap64 (by omega) (by omega),Int.neg_neg]
  intro hc
  cases hd:Lib.decDigits u with
  |nil=>exact absurd hd (ZQ u)
  |cons c r=>
   rw [hd] at hc
   have hc:c=45:=by simpa using hc
   have:=(LM u c (by rw [hd];exact List.mem_cons_self ..)).1
   rw [hc] at this
   exact absurd this (by decide)
 have hl:(Lib.itoa (u:Int)).length≤19:=by
  rw [Lib.itoa_nonneg]
  exact bL 18 u (by omega)
 have hl2:(Lib.itoa (u:Int)).length≤20:=by omega
 have hne:(Lib.itoa (u:Int)).isEmpty=false:=by
  rw [Lib.itoa_nonneg]
  cases hd:Lib.decDigits u with
  |nil=>exact absurd hd (ZQ u)
  |cons c r=>rfl
 unfold Ry nJ
 simp [hN,hne,hl2]
theorem bo:∀(l:List UInt8) (n:Int),Fh n→Fh (X9 n l)
 | [],_,h=>h
 |c :: l,n,h=>by
  refine bo l _ ?_
  split
  ·exact tc _
  ·exact h
theorem WK (w:List UInt8):Fh (Ic w):=by
 unfold Ic
 split
 ·exact bo _ _ ML
 ·exact tc _
theorem nn (w:List UInt8):Fh (Ry w):=by
 unfold Ry
 split
 ·exact WK w
 ·exact ML
def X0:List (List UInt8):= [] :: BV.map De.word
def Cc (k:Int):List UInt8:=if 1≤k∧k≤12 then at' X0 k.toNat else []
def kA (w:List UInt8):Nat→Int
 |0=>0
 |k+1=>if w=Cc ((k+1:Nat):Int) then ((k+1:Nat):Int) else kA w k
def Gw (k:Int):Bool:=decide (k=1) || decide (k=10)
def HH (k:Int):Bool:=decide (k=2) || decide (k=3) || decide (k=9)
def HV (k:Int):Bool:=decide (k=6) || decide (k=7) || decide (k=11) || decide (k=8)
def L3 (k:Int)(n:List Int)(b:List UInt8):Ax:=
 ⟨k,if Gw k=true then 0 else at' n 0,if 1 < n.length∧HH k=true then at' n 1 else 0,if 1 < n.length∧HV k=true then at' n 1 else 0,if 2 < n.length∧k=8∧0≤at' n 2∧at' n 2 < 4294967296 then at' n 2 else 0,if Gw k=true then at' n 0 else 0,b⟩
def KR (ws:Ha)(k:Int):List UInt8:=if 3 < ws.length∧k=9∧at' ws 3≠ [45] then (GX (at' ws 3)).getD [] else []
def KF (ws:Ha):Ax:=L3 (kA (at' ws 0) 12) ((ws.drop 1).map Ry) (KR ws (kA (at' ws 0) 12))
def Ul (s:List UInt8):Option Ax:=if 1064 < s.length then none else if (Bm s).drop 1= [] then none else if IH (KF (Bm s))=some s then some (KF (Bm s)) else none
theorem mu (w:List UInt8):∀k:Nat,0≤kA w k∧kA w k≤k
 |0=>⟨Int.le_refl _,Int.le_refl _⟩
 |k+1=>by
  have:=mu w k
  unfold kA
  split <;> omega
theorem aE {l:Ha}{j:Nat}:Fh (at' (l.map Ry) j):=by
 unfold at'
 rw [List.getElem?_map]
 cases l[j]? with
 |none=>exact ML
 |some w=>exact nn w
theorem pV {s b:List UInt8}(h:GX s=some b):b.length≤s.length:=by
 have:=congrArg List.length (bU h)
 rw [Ea] at this
 omega
theorem ZX {ws:Ha}{m j:Nat}(h:∀w∈ws,w.length≤m):(at' ws j).length≤m:=by
 unfold at'
 cases hq:ws[j]? with
 |none=>exact Nat.zero_le _
 |some w=>exact h w (List.mem_of_getElem? hq)
theorem dx {ws:Ha}{k:Int}(h:∀w∈ws,w.length≤140737488351232):(KR ws k).length≤140737488351232:=by
 unfold KR
 split
 ·cases hq:GX (at' ws 3) with
  |none=>exact Nat.zero_le _
  |some b=>exact Nat.le_trans (pV hq) (ZX h)
 ·exact Nat.zero_le _
theorem XO {ws:Ha}(h:∀w∈ws,w.length≤140737488351232):GZ (KF ws):=by
 obtain ⟨k0,k1⟩:=mu (at' ws 0) 12
 unfold KF L3
 refine ⟨?_, ?_, ?_, ?_, ?_, ?_, ?_,dx h⟩ <;> dsimp only
 ·unfold Fh;omega
 ·split
  ·exact ML
  ·exact aE
 ·split
  ·exact aE
  ·exact ML
 ·split
  ·exact aE
  ·exact ML
 ·split
  ·rename_i hc;exact hc.2.2.1
  ·exact Int.le_refl _
 ·split
  ·rename_i hc;exact hc.2.2.2
  ·decide
 ·split
  ·exact aE
  ·exact ML
theorem wk:∀r∈BV,kA r.word 12=r.kind:=by decide +kernel
theorem sS {b:List UInt8}:(if Pg b≠ [45] then (GX (Pg b)).getD [] else [])=b:=by
 by_cases hb:b= []
 ·subst hb;rfl
 ·have e:Pg b=CY b:=by unfold Pg;rw [if_neg hb]
  rw [e,Zu,if_pos]
  ·rfl
  ·intro hc
   have:=congrArg List.length hc
   rw [Ea] at this
   simp at this
   omega
theorem oT {o:Ax}{r:De}(hr:r∈BV)(hO:GZ o)(hm:Ct o r.fields=true)(hk:o.Kind=r.kind):KF (r.word :: Qa r.fields o 6 0)=o:=by
 have hp:=QP hm
 have hk2:=wk r hr
 have e0:=hO.e0
 have e1:=hO.e1
 have z4:=Ml e0 (by omega)
 simp only [Ct,Bool.and_eq_true,m1,m2,m3,m4,m5,m6] at hm
 obtain ⟨k,a,p,g,e,t,b⟩:=o
 dsimp only at hk e0 e1 z4 hm
 unfold KF
 rw [show at' (r.word :: Qa r.fields ⟨k,a,p,g,e,t,b⟩ 6 0) 0=r.word from rfl,hk2,←hk]
 have z1:Ay r.fields 1=true→Ry (Lib.itoa a)=a:=fun h=>Ml (hp.r h) hO.r.2
 have z2:Ay r.fields 2=true→Ry (Lib.itoa p)=p:=fun h=>Ml (hp.p h) hO.p.2
 have z3:Ay r.fields 4=true→Ry (Lib.itoa g)=g:=fun h=>Ml (hp.g h) hO.g.2
 have z6:Ay r.fields 32=true→Ry (Lib.itoa t)=t:=fun h=>Ml (hp.t h) hO.t.2
 have hx:=sS (b:=b)
 clear hp hk2
 simp only [BV,List.mem_cons,List.not_mem_nil,or_false] at hr
 rcases hr with rfl | rfl | rfl | rfl | rfl | rfl | rfl | rfl | rfl | rfl | rfl | rfl <;>
  (dsimp only at hk hm z1 z2 z3 z6 ⊢
   subst hk
   simp only [Jb,JI,Jv,KG,JO,J5,Mm,Mo,O9,PQ,NG,PR,Jw,J8,L5,L4,KH,Lx,Kb,Jz,L6,Lz,Kg,Lt,MU,MD,Oi,Oq,MI,OD,Kt,Kk,MW,Mb,Jd,MV,if_true,if_false,Bool.false_eq_true,decide_eq_true_eq,true_implies,false_implies] at hm z1 z2 z3 z6
   simp [Qa,p2,Bu,L3,KR,Gw,HH,HV,at',Jb,JI,Jv,KG,JO,J5,Mm,Mo,O9,PQ,NG,PR,Jw,J8,L5,L4,KH,Lx,Kb,Jz,L6,Lz,Kg,Lt,MU,MD,Oi,Oq,MI,OD,Kt,Kk,MW,Mb,Jd,MV,z4] at hx ⊢
   try simp_all
   try (intro hh;omega))
theorem kU {n:Int}(h0:0≤n)(h1:n≤24):(Lib.itoa n).length≤2:=by
 have:∀m:Fin 25,(Lib.itoa (m.val:Int)).length≤2:=by decide +kernel
 obtain ⟨u,rfl⟩:=Int.eq_ofNat_of_zero_le h0
 exact this ⟨u,by omega⟩
theorem wB {o:Ax}{s:List UInt8}(hO:GZ o)(h:IH o=some s):s.length≤1064:=by
 unfold IH at h
 split at h
 ·rename_i r hr
  split at h
  ·rename_i hm
   cases h
   rw [Mt]
   have hk:=(HT hr).2
   have i1:=Lib.itoa_length_le o.Bj hO.r.1 hO.r.2
   have i2:=Lib.itoa_length_le o.C8 hO.p.1 hO.p.2
   have i3:=Lib.itoa_length_le o.B1 hO.g.1 hO.g.2
   have i4:=Lib.itoa_length_le o.Bd (by have:=hO.e0;omega) (by have:=hO.e1;omega)
   have i6:=Lib.itoa_length_le o.CJ hO.t.1 hO.t.2
   have i5:(Pg o.Bytes).length≤1024∨Ay r.fields 16=false:=by
    cases h5:Ay r.fields 16 with
    |true=>exact .inl (UD (VN hm h5))
    |false=>exact .inr rfl
   have i7:Ay r.fields 1=true→(Lib.itoa o.Bj).length≤2:=fun h=>by
    simp only [Ct,Bool.and_eq_true,m1] at hm
    have a1:=hm.1.1.1.1.1
    rw [if_pos h] at a1
    have:1≤o.Bj∧o.Bj≤24:=by simpa [Gk] using a1
    exact kU (by omega) this.2
   have i8:Ay r.fields 2=true→(Lib.itoa o.C8).length≤2:=fun h=>by
    simp only [Ct,Bool.and_eq_true,m2] at hm
    have a1:=hm.1.1.1.1.2
    rw [if_pos h] at a1
    have:1≤o.C8∧o.C8≤24:=by simpa [Gk] using a1
    exact kU (by omega) this.2
   clear hr hm
   simp only [BV,List.mem_cons,List.not_mem_nil,or_false] at hk
   rcases hk with rfl | rfl | rfl | rfl | rfl | rfl | rfl | rfl | rfl | rfl | rfl | rfl <;>
    (dsimp only at i5 i7 i8
     simp only [Jb,JI,JO,Mm,Mo,NG,Jw,J8,KH,Kb,Jz,Kg,MU,MD,MI,Kt,Kk,Jd,Bool.true_eq_false,Bool.false_eq_true,or_false,or_true,true_implies,false_implies] at i5 i7 i8
     simp [Qa,p2,Bu,Jb,JI,Jv,KG,JO,J5,Mm,Mo,O9,PQ,NG,PR,Jw,J8,L5,L4,KH,Lx,Kb,Jz,L6,Lz,Kg,Lt,MU,MD,Oi,Oq,MI,OD,Kt,Kk,MW,Mb,Jd,MV,Lib.join]
     omega)
  ·cases h
 ·cases h
theorem o9 {s:List UInt8}(hs:s.length≤140737488351232):Ul s=P5 s:=by
 have hw:∀w∈Bm s,w.length≤140737488351232:=fun w h=>Nat.le_trans (LL s w h) hs
 cases ho:P5 s with
 |some o=>
  obtain ⟨h1,h2⟩:=lT hs ho
  have hc:KF (Bm s)=o∧(Bm s).drop 1≠ []:=by
   have h1':=h1
   unfold IH at h1'
   split at h1'
   ·rename_i r hr
    split at h1'
    ·rename_i hm
     have h1':=Option.some.inj h1'
     obtain ⟨hk,hkm⟩:=HT hr
     have hp:=QP hm
     rw [Mt] at h1'
     have hsp:=P9 (l:= [r.word] ++ Qa r.fields o 6 0) (by simp) (fun w hw=>by
      rcases List.mem_append.1 hw with hw | hw
      ·rw [List.mem_singleton.1 hw];exact (PT r hkm).1
      ·exact (LD hp h2 6 0 rfl w hw).1)
     rw [h1'] at hsp
     rw [hsp]
     refine ⟨oT hkm h2 hm hk.symm, ?_⟩
     show Qa r.fields o 6 0≠ []
     clear hr hm hk hp h1' hsp
     simp only [BV,List.mem_cons,List.not_mem_nil,or_false] at hkm
     rcases hkm with rfl | rfl | rfl | rfl | rfl | rfl | rfl | rfl | rfl | rfl | rfl | rfl <;> simp [Qa,p2,Jb,JI,Jv,KG,JO,J5,Mm,Mo,O9,PQ,NG,PR,Jw,J8,L5,L4,KH,Lx,Kb,Jz,L6,Lz,Kg,Lt,MU,MD,Oi,Oq,MI,OD,Kt,Kk,MW,Mb,Jd,MV]
    ·cases h1'
   ·cases h1'
  unfold Ul
  rw [if_neg (by have:=wB h2 h1;omega),if_neg hc.2,hc.1,if_pos h1]
 |none=>
  unfold Ul
  split
  ·rfl
  ·split
   ·rfl
   ·split
    ·rename_i h
     have:=(yG (XO hw) h).1
     rw [ho] at this
     cases this
    ·rfl
end Go.Proofs.YthlhnangbinhoaaGreatDoor.Dm
set_option linter.unusedVariables false
namespace Go.Proofs.YthlhnangbinhoaaGreatDoor.Dm
open Go.Dm
set_option maxHeartbeats 16000000
set_option maxRecDepth 20000
theorem RS {h':Hp}{s:List UInt8}{f i:Nat}(h1:f≤i)(h2:i≤s.length):Bv tt.get h' 9 (.string ⟨⟨s⟩⟩) (some (.int .i64 (f:Int))) (some (.int .i64 (i:Int)))=(.string ⟨⟨(s.drop f).take (i - f)⟩⟩,True):=by
 unfold Bv
 simp only [HD]
 simp [Bz,ED,strOf,SK,SD,intOf]
 omega
def I3 (p:Int→Bool):Bb:= .pure (fun args _=>match args with | [x]=>Gx .i64 x | _=>False) (fun args _=>match args with | [x]=> .bool (p (intOf x)) | _=>undef)
theorem wU:A0 Tryz.prog 69 (I3 fun n=>Gk n 1 24):=by
 refine .mkPure M7 ?_
 intro args hp hpre top
 match args,hpre with
 | [x],hx=>
 rw [hx]
 refine AR.A5 BA M7 rfl 9 rfl [.tmp 2] rfl (show 1≤9 by decide) ?_
 refine CW.vc HF [0,2] (by kernel_rfl) ?_
 (repeat ((try refine Vc.mk' ?_);simp (maxSteps:=6000000) only [go_sem]))
 refine Ee ?_
 simp [Gk]
theorem ABn:A0 Tryz.prog 57 (I3 Gw):=by
 refine .mkPure UE ?_
 intro args hp hpre top
 match args,hpre with
 | [x],hx=>
 rw [hx]
 refine AR.A5 BA UE rfl 9 rfl [.tmp 2] rfl (show 1≤9 by decide) ?_
 refine CW.vc HF [0,2] (by kernel_rfl) ?_
 (repeat ((try refine Vc.mk' ?_);simp (maxSteps:=6000000) only [go_sem]))
 refine Ee ?_
 simp [Gw]
theorem AAl:A0 Tryz.prog 59 (I3 HH):=by
 refine .mkPure Vh ?_
 intro args hp hpre top
 match args,hpre with
 | [x],hx=>
 rw [hx]
 refine AR.A5 BA Vh rfl 13 rfl [.tmp 2] rfl (show 1≤13 by decide) ?_
 refine CW.vc HF [0,2] (by kernel_rfl) ?_
 (repeat ((try refine Vc.mk' ?_);simp (maxSteps:=6000000) only [go_sem]))
 refine Ee ?_
 simp [HH,or_assoc]
theorem AAv:A0 Tryz.prog 60 (I3 HV):=by
 refine .mkPure UQ ?_
 intro args hp hpre top
 match args,hpre with
 | [x],hx=>
 rw [hx]
 refine AR.A5 BA UQ rfl 17 rfl [.tmp 2] rfl (show 1≤17 by decide) ?_
 refine CW.vc HF [0,2] (by kernel_rfl) ?_
 (repeat ((try refine Vc.mk' ?_);simp (maxSteps:=6000000) only [go_sem]))
 refine Ee ?_
 simp [HV,or_assoc]
theorem tF {hp:Hp}{a:Option Addr}{n c:Nat}:CF tt.get hp 67 (.slice a n c)=(.int .i64 (n:Int),True):=by
 unfold CF;simp only [DG,D9,FC,W2];rfl
theorem ss {v:Value}:DV 13 v= [v,v,v,v,v,v,v,v,v,v,v,v,v]:=rfl
def AAi:List Value:= [.string ⟨#[]⟩, .string ⟨#[116,105,99,107]⟩, .string ⟨#[99,117,116]⟩, .string ⟨#[109,101,110,100]⟩, .string ⟨#[99,114,97,115,104]⟩, .string ⟨#[115,116,97,114,116]⟩, .string ⟨#[106,111,105,110]⟩, .string ⟨#[108,101,97,118,101]⟩, .string ⟨#[115,101,110,100]⟩, .string ⟨#[114,97,119]⟩, .string ⟨#[115,101,116,116,108,101]⟩, .string ⟨#[119,104,111]⟩, .string ⟨#[116,97,98,108,101]⟩]
def EG:Bb:= .pure (fun args _=>match args with | [x]=>Gx .i64 x | _=>False) (fun args _=>match args with | [x]=> .string ⟨⟨Cc (intOf x)⟩⟩ | _=>undef)
theorem ABU:A0 Tryz.prog 56 EG:=by
 refine .Fm VR ?_ ?_
 ·rintro args hp h
  match args,h with
  | [x],_=>rfl
 intro args hp hpre top hcl hsc
 match args,hpre with
 | [x],hx=>
 rw [hx]
 generalize intOf x=n
 simp only [intOf_int]
 refine AR.A5 BA VR rfl 17 rfl [.tmp 2] rfl (show 1≤17 by decide) ?_
 by_cases c:1≤n∧n≤12
 ·have e:Cc n=at' X0 n.toNat:=by unfold Cc;rw [if_pos c]
  rw [e]
  obtain ⟨k,hk,k1,k2⟩:∃k:Nat,n=(k:Int)∧1≤k∧k≤12:=⟨n.toNat,by omega,by omega,by omega⟩
  subst hk
  have hkn:k < X0.length:=by show k < 13;omega
  have ixN:∀ {t:Nat},Aa tt.get 67 (.slice (some ⟨t,0,none⟩) 13 13) (.int .i64 (k:Int))=(Ag (.slice (some ⟨t,0,none⟩) 13 13) (k * 1),True):=fun {t}=>by
   have h0:BP AE (fun j=>if j=t then AD AE X0 else none) (.slice (some ⟨t,0,none⟩) 13 13) X0:=BP.own (E:=AE) (b:=t) (l:=X0) (by simp) (by decide)
   have:=DM h0 (k:= .i64) (n:=(k:Int)) (by omega) (by show (k:Int) < 13;omega)
   simpa using this
  have ldN:∀ {h':Hp} {t:Nat},h' t=some (.cells true 1 AAi)→A4 tt.get h' 9 (Ag (.slice (some ⟨t,0,none⟩) 13 13) (k * 1))=(.string ⟨⟨at' X0 k⟩⟩,True):=fun e=>Dw (BP.own (E:=AE) (l:=X0) e (by decide)) hkn
  have c1:¬(k:Int) < 1:=by omega
  have c2:(k < 13)=True:=eq_true (by omega)
  simp only [AAi] at ldN
  refine CW.vc HF [0,2,3,12] (by kernel_rfl) ?_
  (repeat ((try refine Vc.mk' ?_);simp (maxSteps:=6000000) only [go_sem,ss,tF,ixN,ldN,c1,c2,decide_true,Bool.not_true]))
 ·have e:Cc n= []:=by unfold Cc;rw [if_neg c]
  rw [e]
  have c1:(decide (n < 1) || !decide (n < 13))=true:=by by_cases h:n < 1 <;> simp [h];omega
  refine CW.vc HF [0,2,3,12] (by kernel_rfl) ?_
  (repeat ((try refine Vc.mk' ?_);simp (maxSteps:=6000000) only [go_sem,ss,tF,show ((13:Nat):Int)=13 from rfl,c1]))
end Go.Proofs.YthlhnangbinhoaaGreatDoor.Dm
