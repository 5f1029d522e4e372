import Derived.Test.YthpibnpeaidabaaGreatDoorTE
set_option linter.unusedVariables false
namespace Go.Proofs.YthpibnpeaidabaaGreatDoor.Dm
open Go.Dm
set_option maxHeartbeats 16000000
set_option maxRecDepth 20000
def Jm:AE:=⟨0,0,0,0,0,0,0,0,0,0⟩
def wN (s:List UInt8)(i:Nat):List UInt8:=at' (Jo s) i
def Z6 (s:List UInt8):AE:=⟨(GJ (wN s 0) 64:Nat),Js Ca (wN s 1) 0,(GJ (wN s 2) 31:Nat),(GJ (wN s 3) 31:Nat),(GJ (wN s 4) 32:Nat),(GJ (wN s 5) 31:Nat),(Ho (wN s 6)).x0,(Ho (wN s 6)).x1,(Ho (wN s 6)).x2,(Ho (wN s 6)).x3⟩
def uO (s:List UInt8):Bool:=Lz (wN s 0) 64 && Lz (wN s 2) 31 && Lz (wN s 3) 31 && Lz (wN s 4) 32 && Lz (wN s 5) 31
def XZ (s:List UInt8):Option AE:=if (Jo s).length < 7 then none else if NY (wN s 6)=0∧uO s=true∧LO (Z6 s)=true then some (Z6 s) else none
def ui (s:List UInt8)(top:Nat):Value×BZ×Nat:=match XZ s with
 |some x=>(.tuple ⟨[.agg ⟨AA.enc x⟩, .nilIface]⟩, [],top)
 |none=>(.tuple ⟨[.agg ⟨AA.enc Jm⟩, .iface 84 (.pointer (some ⟨top,0,none⟩))]⟩, [(top,some (.cells true 0 [.int .i64 12, .int .i64 0]))],top+1)
def J8:BG:= .det (fun args hp _=>match args with | [.string ⟨⟨s⟩⟩]=>s.length < 4294967281∧CZ hp∧hp 0=some U9 | _=>False) (fun args _ top=>match args with | [s]=>ui (strOf s) top | _=>(undef, [],top))
def fV:FuncId→BG:=BQ (BQ (BQ (BQ zF 64 HG) 65 Nb) 40 Ff) 39 Fe
theorem Hi:B4 Tryz.prog tt.get fV:=(((Oc.add ky).add ti).add nK).add iA
theorem Nd:fV 38=H7:=rfl
theorem Wl:fV 64=HG:=rfl
theorem XW:fV 65=Nb:=rfl
theorem YC:fV 40=Ff:=rfl
theorem XD:fV 39=Fe:=rfl
theorem PV:fV 34=EB:=rfl
theorem P9:fV 41=Jb:=rfl
theorem Rk:fV 42=FP:=rfl
theorem Wu:fV 28=Ds:=rfl
theorem Mh (sep:List UInt8):∀(k:Nat) (s:List UInt8),∀w∈Lib.splitK sep 0 k s,w.length≤s.length
 |0,s,w,h=>by simp [Lib.splitK] at h;rw [h];exact Nat.le_refl _
 |k+1,s,w,h=>by
  unfold Lib.splitK at h
  split at h
  ·simp at h;rw [h];exact Nat.le_refl _
  ·rcases List.mem_cons.1 h with rfl | h
   ·rw [List.length_take];omega
   ·have:=Mh sep k _ w h
    rw [List.length_drop] at this;omega
theorem PS (s:List UInt8):Fs (Ho s):=by
 unfold Ho;split
 ·exact vS s
 ·exact LY
theorem Jk {s:List UInt8}{i:Nat}(h:i < (Jo s).length):(wN s i).length≤s.length:=by
 refine Mh [32] (Ke s - 1) s _ ?_
 show at' (Jo s) i∈Jo s
 rw [DV _ _ h];exact List.getElem_mem h
theorem cb:Aw Tryz.prog 12 J8:=by
 refine .Cg Q7 ?_
 intro args hp top hpre hcl hsc
 match args,hpre with
 | [.string ⟨⟨s⟩⟩],⟨hs,hv,ht⟩=>
 have hv0:=hv
 obtain ⟨hp1,hv2,hv3,hv4⟩:=hv0
 have ht5:=SU hcl hv
 have t2:2 < top:=by omega
 simp only [Ba]
 have hln:=Lu s
 have hlV:∀ {h':Hp} {b:Nat},Cj tt.get h' 58 (D6 s b)=(.int .i64 ((Jo s).length:Int),True):=fun {h'} {b}=>by
  unfold D6 Cj
  simp only [Bw,El,CM,Ll];rfl
 refine AK.Ar A7 Q7 rfl 82 rfl [.cell 2 33, .tmp 3] rfl (show 1≤82 by decide) ?_
 by_cases c7:(Jo s).length < 7
 ·have c7':((Jo s).length:Int) < 7:=by omega
  have e:ui s top=(.tuple ⟨[.agg ⟨AA.enc Jm⟩, .iface 84 (.pointer (some ⟨top,0,none⟩))]⟩, [(top,some (.cells true 0 [.int .i64 12, .int .i64 0]))],top+1):=by unfold ui XZ;rw [if_pos c7]
  rw [e]
  refine CW.vc Hi [0,2,3,4,5,6,7,8,9,10,15,78,1000006] (by kernel_rfl) ?_
  (repeat ((first | refine Vc.mk' ?_ | refine CW.UI Hi 6 [0,2,3,4,5,6,7,8,9,10,15,78,1000006] [(3,35),(5,4),(5,35),(8,4),(8,35),(9,35),(13,4),(13,35),(15,20),(15,26),(15,32),(15,35),(19,4),(19,14),(19,35),(21,26),(21,32),(21,35),(25,4),(25,14),(25,20),(25,35),(27,32),(27,35),(31,4),(31,14),(31,20),(31,26),(31,35),(33,35)] (by kernel_rfl) (by kernel_rfl) ?_ | skip);simp (maxSteps:=6000000) only [go_sem,reduceCtorEq,Nat.reduceAdd,Nd,H7,XD,Fe,hs,hv2,BS t2,hlV,c7']))
  (refine ⟨[top+2],by simp,by simp,by simp, ?_, ?_, ?_⟩ <;> simp [Ax,Bt,AB.nil,AB.cons,A9,BA,Ap,AD,BF,AJ.set,AJ.refl,Jm])
 have h7:(Jo s).length=7:=by omega
 have c7':¬((Jo s).length:Int) < 7:=by omega
 have hix:∀ {b i:Nat},i < 7→Af tt.get 58 (D6 s b) (.int .i64 (i:Int))=(BK (D6 s b) i,True):=fun {b} {i} hi=>by
  have:=DL (Xj (hp:=fun _=>some (.cells true 1 (Bc s))) (b:=b) (s:=s) rfl) (k:= .i64) (n:=(i:Int)) (by omega) (by omega)
  rwa [Int.toNat_natCast,Nat.mul_one] at this
 have hld:∀ {h':Hp} {b i:Nat},i < 7→h' b=some (.cells true 1 (Bc s))→Ad tt.get h' 9 (BK (D6 s b) i)=(.string ⟨⟨wN s i⟩⟩,True):=fun {h'} {b} {i} hi e=>by
  have:=Jd (Xj e) (i:=i) (by omega)
  rwa [Nat.mul_one] at this
 have x0:∀ {b:Nat},Af tt.get 58 (D6 s b) (.int .i64 0)=(BK (D6 s b) 0,True):=fun {b}=>hix (i:=0) (by decide)
 have x1:∀ {b:Nat},Af tt.get 58 (D6 s b) (.int .i64 1)=(BK (D6 s b) 1,True):=fun {b}=>hix (i:=1) (by decide)
 have x2:∀ {b:Nat},Af tt.get 58 (D6 s b) (.int .i64 2)=(BK (D6 s b) 2,True):=fun {b}=>hix (i:=2) (by decide)
 have x3:∀ {b:Nat},Af tt.get 58 (D6 s b) (.int .i64 3)=(BK (D6 s b) 3,True):=fun {b}=>hix (i:=3) (by decide)
 have x4:∀ {b:Nat},Af tt.get 58 (D6 s b) (.int .i64 4)=(BK (D6 s b) 4,True):=fun {b}=>hix (i:=4) (by decide)
 have x5:∀ {b:Nat},Af tt.get 58 (D6 s b) (.int .i64 5)=(BK (D6 s b) 5,True):=fun {b}=>hix (i:=5) (by decide)
 have x6:∀ {b:Nat},Af tt.get 58 (D6 s b) (.int .i64 6)=(BK (D6 s b) 6,True):=fun {b}=>hix (i:=6) (by decide)
 have n0:=Jk (s:=s) (i:=0) (by omega)
 have n1:=Jk (s:=s) (i:=1) (by omega)
 have n2:=Jk (s:=s) (i:=2) (by omega)
 have n3:=Jk (s:=s) (i:=3) (by omega)
 have n4:=Jk (s:=s) (i:=4) (by omega)
 have n5:=Jk (s:=s) (i:=5) (by omega)
 have n6:=Jk (s:=s) (i:=6) (by omega)
 have eP:XZ s=if NY (wN s 6)=0∧uO s=true∧LO (Z6 s)=true then some (Z6 s) else none:=by unfold XZ;rw [if_neg c7]
 have eG:uO s=(Lz (wN s 0) 64 && Lz (wN s 2) 31 && Lz (wN s 3) 31 && Lz (wN s 4) 32 && Lz (wN s 5) 31):=rfl
 have eX:Z6 s=⟨(GJ (wN s 0) 64:Nat),Js Ca (wN s 1) 0,(GJ (wN s 2) 31:Nat),(GJ (wN s 3) 31:Nat),(GJ (wN s 4) 32:Nat),(GJ (wN s 5) 31:Nat),(Ho (wN s 6)).x0,(Ho (wN s 6)).x1,(Ho (wN s 6)).x2,(Ho (wN s 6)).x3⟩:=rfl
 have l0:∀ {h':Hp} {b:Nat},h' b=some (.cells true 1 (Bc s))→Ad tt.get h' 9 (BK (D6 s b) 0)=(.string ⟨⟨wN s 0⟩⟩,True):=fun e=>hld (by decide) e
 have l1:∀ {h':Hp} {b:Nat},h' b=some (.cells true 1 (Bc s))→Ad tt.get h' 9 (BK (D6 s b) 1)=(.string ⟨⟨wN s 1⟩⟩,True):=fun e=>hld (by decide) e
 have l2:∀ {h':Hp} {b:Nat},h' b=some (.cells true 1 (Bc s))→Ad tt.get h' 9 (BK (D6 s b) 2)=(.string ⟨⟨wN s 2⟩⟩,True):=fun e=>hld (by decide) e
 have l3:∀ {h':Hp} {b:Nat},h' b=some (.cells true 1 (Bc s))→Ad tt.get h' 9 (BK (D6 s b) 3)=(.string ⟨⟨wN s 3⟩⟩,True):=fun e=>hld (by decide) e
 have l4:∀ {h':Hp} {b:Nat},h' b=some (.cells true 1 (Bc s))→Ad tt.get h' 9 (BK (D6 s b) 4)=(.string ⟨⟨wN s 4⟩⟩,True):=fun e=>hld (by decide) e
 have l5:∀ {h':Hp} {b:Nat},h' b=some (.cells true 1 (Bc s))→Ad tt.get h' 9 (BK (D6 s b) 5)=(.string ⟨⟨wN s 5⟩⟩,True):=fun e=>hld (by decide) e
 have l6:∀ {h':Hp} {b:Nat},h' b=some (.cells true 1 (Bc s))→Ad tt.get h' 9 (BK (D6 s b) 6)=(.string ⟨⟨wN s 6⟩⟩,True):=fun e=>hld (by decide) e
 have a1:∀ {h':Hp} {b:Nat},h' b=some (.cells true 0 GG)→(∃l,bS h' (.slice (some ⟨b,0,none⟩) 9 9) l)=True:=fun {h'} {b} e=>eq_true ⟨Ca,b,true,0,rfl,e,by decide⟩
 have a2:∀ {h':Hp} {b:Nat},h' b=some (.cells true 0 GG)→zZ h' (.slice (some ⟨b,0,none⟩) 9 9)=Ca:=fun {h'} {b} e=>(show bS h' (.slice (some ⟨b,0,none⟩) 9 9) Ca from ⟨b,true,0,rfl,e,by decide⟩).rd
 have z64:JQ 64=True:=eq_true (.inl rfl)
 have z32:JQ 32=True:=eq_true (.inr (.inl rfl))
 have z31:JQ 31=True:=eq_true (.inr (.inr rfl))
 have m0:((wN s 0).length≤281474976710656)=True:=eq_true (by omega)
 have m2:((wN s 2).length≤281474976710656)=True:=eq_true (by omega)
 have m3:((wN s 3).length≤281474976710656)=True:=eq_true (by omega)
 have m4:((wN s 4).length≤281474976710656)=True:=eq_true (by omega)
 have m5:((wN s 5).length≤281474976710656)=True:=eq_true (by omega)
 have m6:((wN s 6).length < 4294967281)=True:=eq_true (by omega)
 have kw:GG.length=9:=rfl
 have hIb:∀ {b:AX},(bl b).length=4:=fun {b}=>rfl
 have ko:Aq GG=true:=rfl
 have v1:∀(i:Nat) (h:Hp) (o:Option Ay),CZ (h.set (top+i) o)=CZ h:=fun i h o=>GW (by omega)
 have v0:∀(h:Hp) (o:Option Ay),CZ (h.set top o)=CZ h:=fun h o=>GW ht5
 generalize Z6 s=X at eP eX
 generalize uO s=G at eP eG
 unfold ui
 rw [eP]
 generalize wN s 0=w0 at *
 generalize wN s 1=w1 at *
 generalize wN s 2=w2 at *
 generalize wN s 3=w3 at *
 generalize wN s 4=w4 at *
 generalize wN s 5=w5 at *
 generalize wN s 6=w6 at *
 have sW:∀ {h':Hp} {b:Nat},h' b=some (.cells true 0 GG)→Be tt.get h' 71 (.pointer (some ⟨b,0,none⟩)) none none=(.slice (some ⟨b,0,none⟩) 9 9,True):=fun {h'} {b} e=>by
  have h1:Cx tt.get h' 71 (.pointer (some ⟨b,0,none⟩)) none none=some (.slice (some ⟨b,0,none⟩) 9 9):=by
   simp only [Cx,WB,Zc,e,B2];rfl
  unfold Be
  rw [h1]
  rfl
 obtain ⟨T1,hT1⟩:∃T,aB w0 64 (top+4)=T:=⟨_,rfl⟩
 have q1:top+4≤T1:=by rw [←hT1];exact Mn ..
 obtain ⟨T2,hT2⟩:∃T,aB w2 31 T1=T:=⟨_,rfl⟩
 have q2:T1≤T2:=by rw [←hT2];exact Mn ..
 obtain ⟨T3,hT3⟩:∃T,aB w3 31 T2=T:=⟨_,rfl⟩
 have q3:T2≤T3:=by rw [←hT3];exact Mn ..
 obtain ⟨T4,hT4⟩:∃T,aB w4 32 T3=T:=⟨_,rfl⟩
 have q4:T3≤T4:=by rw [←hT4];exact Mn ..
 obtain ⟨T5,hT5⟩:∃T,aB w5 31 T4=T:=⟨_,rfl⟩
 have q5:T4≤T5:=by rw [←hT5];exact Mn ..
 have d0:¬top=T5:=by omega
 have d1:¬top+1=T5:=by omega
 have d2:¬top+2=T5:=by omega
 have d3:¬top+3=T5:=by omega
 have d4:¬T5=top:=by omega
 have d5:¬T5=top+1:=by omega
 have d6:¬T5=top+2:=by omega
 have d7:¬T5=top+3:=by omega
 have f0:¬top=T5+1:=by omega
 have f1:¬top+1=T5+1:=by omega
 have f2:¬top+2=T5+1:=by omega
 have f3:¬top+3=T5+1:=by omega
 have f4:¬T5+1=top:=by omega
 have f6:¬T5+1=top+2:=by omega
 have f8:¬T5=T5+1:=by omega
 have f9:¬T5+1=T5:=by omega
 have h0:¬top=T5+2:=by omega
 have h1:¬top+1=T5+2:=by omega
 have h2:¬top+2=T5+2:=by omega
 have h3:¬top+3=T5+2:=by omega
 have h4:¬T5+2=top:=by omega
 have g5:top≤T5:=by omega
 have g6:top≤T5+3:=by omega
 have g7:top≤T5+2:=by omega
 have g8:top≤T5+1:=by omega
 have v5:∀(h:Hp) (o:Option Ay),CZ (h.set T5 o)=CZ h:=fun h o=>GW (by omega)
 have v6:∀(h:Hp) (o:Option Ay),CZ (h.set (T5+1) o)=CZ h:=fun h o=>GW (by omega)
 have i64:(64:Int).toNat=64:=rfl
 have i32:(32:Int).toNat=32:=rfl
 have i31:(31:Int).toNat=31:=rfl
 have eG':(Lz w0 64 && Lz w2 31 && Lz w3 31 && Lz w4 32 && Lz w5 31)=G:=eG.symm
 by_cases e6:NY w6=0
 case neg=>
  rw [if_neg (fun h=>e6 h.1)]
  dsimp only
  refine CW.vc Hi [0,2,3,4,5,6,7,8,9,10,15,78,1000006] (by kernel_rfl) ?_
  (repeat ((first | refine Vc.mk' ?_ | refine CW.UI Hi 6 [0,2,3,4,5,6,7,8,9,10,15,78,1000006] [(3,35),(5,4),(5,35),(8,4),(8,35),(9,35),(13,4),(13,35),(15,20),(15,26),(15,32),(15,35),(19,4),(19,14),(19,35),(21,26),(21,32),(21,35),(25,4),(25,14),(25,20),(25,35),(27,32),(27,35),(31,4),(31,14),(31,20),(31,26),(31,35),(33,35)] (by kernel_rfl) (by kernel_rfl) ?_ | skip);simp (maxSteps:=6000000) only [go_sem,reduceCtorEq,Nat.reduceAdd,Nat.reduceLeDiff,Nat.reduceEqDiff,Nd,H7,YC,Ff,XD,Fe,PV,EB,Wl,HG,XW,Nb,P9,Jb,Rk,FP,Wu,Ds,hs,hv2,BS t2,hlV,c7',Og,Zz,kw,ko,x0,x1,x2,x3,x4,x5,l0,l1,l2,l3,l4,l5,a1,a2,z64,z32,z31,m0,m2,m3,m4,m5,v0,v1,hv,LW,GI,sW,IE,hT1,hT2,hT3,hT4,hT5,q1,q2,q3,q4,q5,d0,d1,d2,d3,f0,f2,f8,h0,g6,v5,x6,l6,m6,Ld,i64,i32,i31,bl,BT,e6]))
  (refine ⟨[T5+2],by simp [],by simp [g7],by simp [], ?_, ?_, ?_⟩ <;> simp [Ax,Bt,AB.nil,AB.cons,A9,BA,Ap,AD,BF,AJ.set,AJ.refl,Jm,g5,g7,g8,h4])
 cases hG:G with
 |false=>
  rw [if_neg (fun h=>absurd h.2.1 (by simp))]
  rw [hG] at eG'
  dsimp only
  refine CW.vc Hi [0,2,3,4,5,6,7,8,9,10,15,78,1000006] (by kernel_rfl) ?_
  (repeat ((first | refine Vc.mk' ?_ | refine CW.UI Hi 6 [0,2,3,4,5,6,7,8,9,10,15,78,1000006] [(3,35),(5,4),(5,35),(8,4),(8,35),(9,35),(13,4),(13,35),(15,20),(15,26),(15,32),(15,35),(19,4),(19,14),(19,35),(21,26),(21,32),(21,35),(25,4),(25,14),(25,20),(25,35),(27,32),(27,35),(31,4),(31,14),(31,20),(31,26),(31,35),(33,35)] (by kernel_rfl) (by kernel_rfl) ?_ | skip);simp (maxSteps:=6000000) only [go_sem,reduceCtorEq,Nat.reduceAdd,Nat.reduceLeDiff,Nat.reduceEqDiff,Nd,H7,YC,Ff,XD,Fe,PV,EB,Wl,HG,XW,Nb,P9,Jb,Rk,FP,Wu,Ds,hs,hv2,BS t2,hlV,c7',Og,Zz,kw,ko,x0,x1,x2,x3,x4,x5,l0,l1,l2,l3,l4,l5,a1,a2,z64,z32,z31,m0,m2,m3,m4,m5,v0,v1,hv,LW,GI,sW,IE,hT1,hT2,hT3,hT4,hT5,q1,q2,q3,q4,q5,d0,d1,d2,d3,f0,f2,f8,h0,g6,v5,x6,l6,m6,Ld,i64,i32,i31,bl,BT,e6,eG']))
  (refine ⟨[T5+2],by simp [],by simp [g7],by simp [], ?_, ?_, ?_⟩ <;> simp [Ax,Bt,AB.nil,AB.cons,A9,BA,Ap,AD,BF,AJ.set,AJ.refl,Jm,g5,g7,g8,h4])
 |true=>
 rw [hG] at eG'
 have g:=eG'
 simp only [Bool.and_eq_true] at g
 obtain ⟨⟨⟨⟨g0,g2⟩,g3⟩,g4⟩,g5_⟩:=g
 have p0:=IK w0 64
 have p2:=IK w2 31
 have p3:=IK w3 31
 have p4:=IK w4 32
 have p5:=IK w5 31
 have b2:AP .i64 (GJ w2 31:Int)=(GJ w2 31:Int):=wrap64 (by omega) (by omega)
 have b3:AP .i64 (GJ w3 31:Int)=(GJ w3 31:Int):=wrap64 (by omega) (by omega)
 have b5:AP .i64 (GJ w5 31:Int)=(GJ w5 31:Int):=wrap64 (by omega) (by omega)
 have b4:AP .u32 (GJ w4 32:Int)=(GJ w4 32:Int):=Rc (by simp [IntKind.signed]) (by simp [IntKind.signed,IntKind.bits];omega)
 have RX:FY X:=by rw [eX];exact ⟨by dsimp only;omega,by dsimp only;omega,by dsimp only;omega,by dsimp only;omega,PS w6⟩
 have IX:ke (.agg ⟨AA.enc X⟩)=True:=Y1 RX
 have EX:me (.agg ⟨AA.enc X⟩)=X:=Df
 rw [eX] at IX EX
 simp only [Cs] at IX EX
 rw [←eX] at EX
 cases hK:LO X with
 |false=>
  rw [if_neg (fun h=>absurd h.2.2 (by simp))]
  dsimp only
  refine CW.vc Hi [0,2,3,4,5,6,7,8,9,10,15,78,1000006] (by kernel_rfl) ?_
  (repeat ((first | refine Vc.mk' ?_ | refine CW.UI Hi 6 [0,2,3,4,5,6,7,8,9,10,15,78,1000006] [(3,35),(5,4),(5,35),(8,4),(8,35),(9,35),(13,4),(13,35),(15,20),(15,26),(15,32),(15,35),(19,4),(19,14),(19,35),(21,26),(21,32),(21,35),(25,4),(25,14),(25,20),(25,35),(27,32),(27,35),(31,4),(31,14),(31,20),(31,26),(31,35),(33,35)] (by kernel_rfl) (by kernel_rfl) ?_ | skip);simp (maxSteps:=6000000) only [go_sem,reduceCtorEq,Nat.reduceAdd,Nat.reduceLeDiff,Nat.reduceEqDiff,Int.reduceEq,Nd,H7,YC,Ff,XD,Fe,PV,EB,Wl,HG,XW,Nb,P9,Jb,Rk,FP,Wu,Ds,hs,hv2,BS t2,hlV,c7',Og,Zz,kw,ko,x0,x1,x2,x3,x4,x5,l0,l1,l2,l3,l4,l5,a1,a2,z64,z32,z31,m0,m2,m3,m4,m5,v0,v1,hv,LW,GI,sW,IE,hT1,hT2,hT3,hT4,hT5,q1,q2,q3,q4,q5,d0,d1,d2,d3,f0,f2,f8,h0,g6,v5,x6,l6,m6,Ld,i64,i32,i31,bl,BT,e6,eG',b2,b3,b4,b5,IX,EX,hK]))
  (refine ⟨[T5+2],by simp [],by simp [g7],by simp [], ?_, ?_, ?_⟩ <;> simp [Ax,Bt,AB.nil,AB.cons,A9,BA,Ap,AD,BF,AJ.set,AJ.refl,Jm,g5,g7,g8,h4])
 |true=>
  rw [if_pos ⟨e6,rfl,rfl⟩]
  dsimp only
  refine CW.vc Hi [0,2,3,4,5,6,7,8,9,10,15,78,1000006] (by kernel_rfl) ?_
  (repeat ((first | refine Vc.mk' ?_ | refine CW.UI Hi 6 [0,2,3,4,5,6,7,8,9,10,15,78,1000006] [(3,35),(5,4),(5,35),(8,4),(8,35),(9,35),(13,4),(13,35),(15,20),(15,26),(15,32),(15,35),(19,4),(19,14),(19,35),(21,26),(21,32),(21,35),(25,4),(25,14),(25,20),(25,35),(27,32),(27,35),(31,4),(31,14),(31,20),(31,26),(31,35),(33,35)] (by kernel_rfl) (by kernel_rfl) ?_ | skip);simp (maxSteps:=6000000) only [go_sem,reduceCtorEq,Nat.reduceAdd,Nat.reduceLeDiff,Nat.reduceEqDiff,Nd,H7,YC,Ff,PV,EB,Wl,HG,XW,Nb,P9,Jb,Rk,FP,Wu,Ds,hs,hv2,BS t2,hlV,c7',Og,Zz,kw,ko,x0,x1,x2,x3,x4,x5,l0,l1,l2,l3,l4,l5,a1,a2,z64,z32,z31,m0,m2,m3,m4,m5,v0,v1,hv,LW,GI,sW,IE,hT1,hT2,hT3,hT4,hT5,q1,q2,q3,q4,q5,d0,d1,d2,d3,f0,f2,f8,g7,v5,x6,l6,m6,Ld,i64,i32,i31,bl,BT,e6,eG',b2,b3,b4,b5,IX,EX,hK]))
  rw [eX]
  (refine ⟨[],by simp,by simp,by simp, ?_, ?_, ?_⟩ <;> simp [Ax,Bt,AB.nil,AJ.set,AJ.refl,g5,g8])
end Go.Proofs.YthpibnpeaidabaaGreatDoor.Dm
