/- Event: the event of a line. -/
import Derived.Test.YthpibnpeaidabaaGreatDoorTE
set_option linter.unusedVariables false
namespace Go.Proofs.YthpibnpeaidabaaGreatDoor.Dm
open Go.Dm
set_option maxHeartbeats 16000000
set_option maxRecDepth 20000
def JX:AM:=⟨0,0,0,0,0,0,0,0,0,0⟩
def wN (s:List UInt8)(i:Nat):List UInt8:=at' (JS s) i
def lM (s:List UInt8):AM:=⟨(Hi (wN s 0) 64:Nat),Me DH (wN s 1) 0,(Hi (wN s 2) 31:Nat),(Hi (wN s 3) 31:Nat),(Hi (wN s 4) 32:Nat),(Hi (wN s 5) 31:Nat),(Hf (wN s 6)).x0,(Hf (wN s 6)).x1,(Hf (wN s 6)).x2,(Hf (wN s 6)).x3⟩
def qG (s:List UInt8):Bool:=MY (wN s 0) 64 && MY (wN s 2) 31 && MY (wN s 3) 31 && MY (wN s 4) 32 && MY (wN s 5) 31
def nk (s:List UInt8):Option AM:=if (JS s).length < 7 then none else if Nu (wN s 6)=0∧qG s=true∧Wg (lM s)=true then some (lM s) else none
def pj (s:List UInt8)(top:Nat):Value×BP×Nat:=match nk s with
 |some x=>(.tuple ⟨[.agg ⟨AE.enc x⟩, .nilIface]⟩, [],top)
 |none=>(.tuple ⟨[.agg ⟨AE.enc JX⟩, .iface 84 (.pointer (some ⟨top,0,none⟩))]⟩, [(top,some (.cells true 0 [.int .i64 12, .int .i64 0]))],top+1)
def Ic:BB:= .det (fun args hp _=>match args with | [.string ⟨⟨s⟩⟩]=>s.length < 4294967281∧CS hp∧hp 0=some Wj | _=>False) (fun args _ top=>match args with | [s]=>pj (strOf s) top | _=>(undef, [],top))
def YU:FuncId→BB:=Bj (Bj (Bj (Bj tz 64 GL) 65 Lx) 40 Ep) 39 Ev
theorem GX:B7 Tryz.prog tt.get YU:=(((M7.add fC).add na).add jP).add ZL
theorem K6:YU 38=Gx:=rfl
theorem Uf:YU 64=GL:=rfl
theorem Ub:YU 65=Lx:=rfl
theorem VM:YU 40=Ep:=rfl
theorem UQ:YU 39=Ev:=rfl
theorem OI:YU 34=DW:=rfl
theorem Pv:YU 41=IB:=rfl
theorem PW:YU 42=Eg:=rfl
theorem Va:YU 28=FT:=rfl
theorem MS (sep:List UInt8):∀(k:Nat) (s:List UInt8),∀w∈Lib.splitK sep 0 k s,w.length≤s.length
 |0,s,w,h=>by simp [Lib.splitK] at h;rw [h];exact Nat.le_refl _
 |k+1,s,w,h=>by
  unfold Lib.splitK at h
  split at h
  ·simp at h;rw [h];exact Nat.le_refl _
  ·rcases List.mem_cons.1 h with rfl | h
   ·rw [List.length_take];omega
   ·have:=MS sep k _ w h
    rw [List.length_drop] at this;omega
theorem dp (s:List UInt8):Fw (Hf s):=by
 unfold Hf;split
 ·exact qg s
 ·exact KA
theorem IH {s:List UInt8}{i:Nat}(h:i < (JS s).length):(wN s i).length≤s.length:=by
 refine MS [32] (JK s - 1) s _ ?_
 show at' (JS s) i∈JS s
 rw [Cd _ _ h];exact List.getElem_mem h
theorem Xe:A4 Tryz.prog 12 Ic:=by
 refine .Ci N1 ?_
 intro args hp top hpre hcl hsc
 match args,hpre with
 | [.string ⟨⟨s⟩⟩],⟨hs,hv,ht⟩=>
 have hv0:=hv
 obtain ⟨hp1,hv2,hv3,hv4⟩:=hv0
 have ht5:=Y5 hcl hv
 have t2:2 < top:=by omega
 simp only [BV]
 have hln:=PR s
 have hlV:∀ {h':Hp} {b:Nat},Cy tt.get h' 58 (DP s b)=(.int .i64 ((JS s).length:Int),True):=fun {h'} {b}=>by
  unfold DP Cy
  simp only [Br,Ex,CD,LY];rfl
 refine AK.A5 BC N1 rfl 82 rfl [.cell 2 33, .tmp 3] rfl (show 1≤82 by decide) ?_
 by_cases c7:(JS s).length < 7
 ·have c7':((JS s).length:Int) < 7:=by omega
  have e:pj s top=(.tuple ⟨[.agg ⟨AE.enc JX⟩, .iface 84 (.pointer (some ⟨top,0,none⟩))]⟩, [(top,some (.cells true 0 [.int .i64 12, .int .i64 0]))],top+1):=by unfold pj nk;rw [if_pos c7]
  rw [e]
  refine CW.vc GX [0,2,3,4,5,6,7,8,9,10,15,78,1000006] (by kernel_rfl) ?_
  (repeat ((first | refine Vc.mk' ?_ | refine CW.Qz GX 6 [0,2,3,4,5,6,7,8,9,10,15,78,1000006] [(3,35),(5,4),(5,35),(8,4),(8,35),(9,35),(13,4),(13,35),(15,20),(15,26),(15,32),(15,35),(19,4),(19,14),(19,35),(21,26),(21,32),(21,35),(25,4),(25,14),(25,20),(25,35),(27,32),(27,35),(31,4),(31,14),(31,20),(31,26),(31,35),(33,35)] (by kernel_rfl) (by kernel_rfl) ?_ | skip);simp (config:= {maxSteps:=6000000}) only [go_sem,reduceCtorEq,Nat.reduceAdd,K6,Gx,UQ,Ev,hs,hv2,B8 t2,hlV,c7']))
  (refine ⟨[top+2],by simp,by simp,by simp, ?_, ?_, ?_⟩ <;> simp [A3,Bi,AA.nil,AA.cons,BJ,BI,BG,AB,BH,AH.set,AH.refl,JX])
 have h7:(JS s).length=7:=by omega
 have c7':¬((JS s).length:Int) < 7:=by omega
 have hix:∀ {b i:Nat},i < 7→Al tt.get 58 (DP s b) (.int .i64 (i:Int))=(BK (DP s b) i,True):=fun {b} {i} hi=>by
  have:=Cv (UC (hp:=fun _=>some (.cells true 1 (BN s))) (b:=b) (s:=s) rfl) (k:= .i64) (n:=(i:Int)) (by omega) (by omega)
  rwa [Int.toNat_natCast,Nat.mul_one] at this
 have hld:∀ {h':Hp} {b i:Nat},i < 7→h' b=some (.cells true 1 (BN s))→AZ tt.get h' 9 (BK (DP s b) i)=(.string ⟨⟨wN s i⟩⟩,True):=fun {h'} {b} {i} hi e=>by
  have:=Kw (UC e) (i:=i) (by omega)
  rwa [Nat.mul_one] at this
 have x0:∀ {b:Nat},Al tt.get 58 (DP s b) (.int .i64 0)=(BK (DP s b) 0,True):=fun {b}=>hix (i:=0) (by decide)
 have x1:∀ {b:Nat},Al tt.get 58 (DP s b) (.int .i64 1)=(BK (DP s b) 1,True):=fun {b}=>hix (i:=1) (by decide)
 have x2:∀ {b:Nat},Al tt.get 58 (DP s b) (.int .i64 2)=(BK (DP s b) 2,True):=fun {b}=>hix (i:=2) (by decide)
 have x3:∀ {b:Nat},Al tt.get 58 (DP s b) (.int .i64 3)=(BK (DP s b) 3,True):=fun {b}=>hix (i:=3) (by decide)
 have x4:∀ {b:Nat},Al tt.get 58 (DP s b) (.int .i64 4)=(BK (DP s b) 4,True):=fun {b}=>hix (i:=4) (by decide)
 have x5:∀ {b:Nat},Al tt.get 58 (DP s b) (.int .i64 5)=(BK (DP s b) 5,True):=fun {b}=>hix (i:=5) (by decide)
 have x6:∀ {b:Nat},Al tt.get 58 (DP s b) (.int .i64 6)=(BK (DP s b) 6,True):=fun {b}=>hix (i:=6) (by decide)
 have n0:=IH (s:=s) (i:=0) (by omega)
 have n1:=IH (s:=s) (i:=1) (by omega)
 have n2:=IH (s:=s) (i:=2) (by omega)
 have n3:=IH (s:=s) (i:=3) (by omega)
 have n4:=IH (s:=s) (i:=4) (by omega)
 have n5:=IH (s:=s) (i:=5) (by omega)
 have n6:=IH (s:=s) (i:=6) (by omega)
 have eP:nk s=if Nu (wN s 6)=0∧qG s=true∧Wg (lM s)=true then some (lM s) else none:=by unfold nk;rw [if_neg c7]
 have eG:qG s=(MY (wN s 0) 64 && MY (wN s 2) 31 && MY (wN s 3) 31 && MY (wN s 4) 32 && MY (wN s 5) 31):=rfl
 have eX:lM s=⟨(Hi (wN s 0) 64:Nat),Me DH (wN s 1) 0,(Hi (wN s 2) 31:Nat),(Hi (wN s 3) 31:Nat),(Hi (wN s 4) 32:Nat),(Hi (wN s 5) 31:Nat),(Hf (wN s 6)).x0,(Hf (wN s 6)).x1,(Hf (wN s 6)).x2,(Hf (wN s 6)).x3⟩:=rfl
 have l0:∀ {h':Hp} {b:Nat},h' b=some (.cells true 1 (BN s))→AZ tt.get h' 9 (BK (DP s b) 0)=(.string ⟨⟨wN s 0⟩⟩,True):=fun e=>hld (by decide) e
 have l1:∀ {h':Hp} {b:Nat},h' b=some (.cells true 1 (BN s))→AZ tt.get h' 9 (BK (DP s b) 1)=(.string ⟨⟨wN s 1⟩⟩,True):=fun e=>hld (by decide) e
 have l2:∀ {h':Hp} {b:Nat},h' b=some (.cells true 1 (BN s))→AZ tt.get h' 9 (BK (DP s b) 2)=(.string ⟨⟨wN s 2⟩⟩,True):=fun e=>hld (by decide) e
 have l3:∀ {h':Hp} {b:Nat},h' b=some (.cells true 1 (BN s))→AZ tt.get h' 9 (BK (DP s b) 3)=(.string ⟨⟨wN s 3⟩⟩,True):=fun e=>hld (by decide) e
 have l4:∀ {h':Hp} {b:Nat},h' b=some (.cells true 1 (BN s))→AZ tt.get h' 9 (BK (DP s b) 4)=(.string ⟨⟨wN s 4⟩⟩,True):=fun e=>hld (by decide) e
 have l5:∀ {h':Hp} {b:Nat},h' b=some (.cells true 1 (BN s))→AZ tt.get h' 9 (BK (DP s b) 5)=(.string ⟨⟨wN s 5⟩⟩,True):=fun e=>hld (by decide) e
 have l6:∀ {h':Hp} {b:Nat},h' b=some (.cells true 1 (BN s))→AZ tt.get h' 9 (BK (DP s b) 6)=(.string ⟨⟨wN s 6⟩⟩,True):=fun e=>hld (by decide) e
 have a1:∀ {h':Hp} {b:Nat},h' b=some (.cells true 0 F9)→(∃l,cK h' (.slice (some ⟨b,0,none⟩) 9 9) l)=True:=fun {h'} {b} e=>eq_true ⟨DH,b,true,0,rfl,e,by decide⟩
 have a2:∀ {h':Hp} {b:Nat},h' b=some (.cells true 0 F9)→tf h' (.slice (some ⟨b,0,none⟩) 9 9)=DH:=fun {h'} {b} e=>(show cK h' (.slice (some ⟨b,0,none⟩) 9 9) DH from ⟨b,true,0,rfl,e,by decide⟩).rd
 have z64:IU 64=True:=eq_true (.inl rfl)
 have z32:IU 32=True:=eq_true (.inr (.inl rfl))
 have z31:IU 31=True:=eq_true (.inr (.inr rfl))
 have m0:((wN s 0).length≤281474976710656)=True:=eq_true (by omega)
 have m2:((wN s 2).length≤281474976710656)=True:=eq_true (by omega)
 have m3:((wN s 3).length≤281474976710656)=True:=eq_true (by omega)
 have m4:((wN s 4).length≤281474976710656)=True:=eq_true (by omega)
 have m5:((wN s 5).length≤281474976710656)=True:=eq_true (by omega)
 have m6:((wN s 6).length < 4294967281)=True:=eq_true (by omega)
 have kw:F9.length=9:=rfl
 have hIb:∀ {b:AV},(bl b).length=4:=fun {b}=>rfl
 have ko:Ap F9=true:=rfl
 have v1:∀(i:Nat) (h:Hp) (o:Option Av),CS (h.set (top+i) o)=CS h:=fun i h o=>I1 (by omega)
 have v0:∀(h:Hp) (o:Option Av),CS (h.set top o)=CS h:=fun h o=>I1 ht5
 generalize lM s=X at eP eX
 generalize qG s=G at eP eG
 unfold pj
 rw [eP]
 generalize wN s 0=w0 at *
 generalize wN s 1=w1 at *
 generalize wN s 2=w2 at *
 generalize wN s 3=w3 at *
 generalize wN s 4=w4 at *
 generalize wN s 5=w5 at *
 generalize wN s 6=w6 at *
 have sW:∀ {h':Hp} {b:Nat},h' b=some (.cells true 0 F9)→Bf tt.get h' 71 (.pointer (some ⟨b,0,none⟩)) none none=(.slice (some ⟨b,0,none⟩) 9 9,True):=fun {h'} {b} e=>by
  have h1:CV tt.get h' 71 (.pointer (some ⟨b,0,none⟩)) none none=some (.slice (some ⟨b,0,none⟩) 9 9):=by
   simp only [CV,TH,V6,e,CX];rfl
  unfold Bf
  rw [h1]
  rfl
 obtain ⟨T1,hT1⟩:∃T,XT w0 64 (top+4)=T:=⟨_,rfl⟩
 have q1:top+4≤T1:=by rw [←hT1];exact Ll ..
 obtain ⟨T2,hT2⟩:∃T,XT w2 31 T1=T:=⟨_,rfl⟩
 have q2:T1≤T2:=by rw [←hT2];exact Ll ..
 obtain ⟨T3,hT3⟩:∃T,XT w3 31 T2=T:=⟨_,rfl⟩
 have q3:T2≤T3:=by rw [←hT3];exact Ll ..
 obtain ⟨T4,hT4⟩:∃T,XT w4 32 T3=T:=⟨_,rfl⟩
 have q4:T3≤T4:=by rw [←hT4];exact Ll ..
 obtain ⟨T5,hT5⟩:∃T,XT w5 31 T4=T:=⟨_,rfl⟩
 have q5:T4≤T5:=by rw [←hT5];exact Ll ..
 have d0:¬top=T5:=by omega
 have d1:¬top+1=T5:=by omega
 have d2:¬top+2=T5:=by omega
 have d3:¬top+3=T5:=by omega
 have d4:¬T5=top:=by omega
 have d5:¬T5=top+1:=by omega
 have d6:¬T5=top+2:=by omega
 have d7:¬T5=top+3:=by omega
 have f0:¬top=T5+1:=by omega
 have f1:¬top+1=T5+1:=by omega
 have f2:¬top+2=T5+1:=by omega
 have f3:¬top+3=T5+1:=by omega
 have f4:¬T5+1=top:=by omega
 have f6:¬T5+1=top+2:=by omega
 have f8:¬T5=T5+1:=by omega
 have f9:¬T5+1=T5:=by omega
 have h0:¬top=T5+2:=by omega
 have h1:¬top+1=T5+2:=by omega
 have h2:¬top+2=T5+2:=by omega
 have h3:¬top+3=T5+2:=by omega
 have h4:¬T5+2=top:=by omega
 have g5:top≤T5:=by omega
 have g6:top≤T5+3:=by omega
 have g7:top≤T5+2:=by omega
 have g8:top≤T5+1:=by omega
 have v5:∀(h:Hp) (o:Option Av),CS (h.set T5 o)=CS h:=fun h o=>I1 (by omega)
 have v6:∀(h:Hp) (o:Option Av),CS (h.set (T5+1) o)=CS h:=fun h o=>I1 (by omega)
 have i64:(64:Int).toNat=64:=rfl
 have i32:(32:Int).toNat=32:=rfl
 have i31:(31:Int).toNat=31:=rfl
 have eG':(MY w0 64 && MY w2 31 && MY w3 31 && MY w4 32 && MY w5 31)=G:=eG.symm
 by_cases e6:Nu w6=0
 case neg=>
  rw [if_neg (fun h=>e6 h.1)]
  dsimp only
  refine CW.vc GX [0,2,3,4,5,6,7,8,9,10,15,78,1000006] (by kernel_rfl) ?_
  (repeat ((first | refine Vc.mk' ?_ | refine CW.Qz GX 6 [0,2,3,4,5,6,7,8,9,10,15,78,1000006] [(3,35),(5,4),(5,35),(8,4),(8,35),(9,35),(13,4),(13,35),(15,20),(15,26),(15,32),(15,35),(19,4),(19,14),(19,35),(21,26),(21,32),(21,35),(25,4),(25,14),(25,20),(25,35),(27,32),(27,35),(31,4),(31,14),(31,20),(31,26),(31,35),(33,35)] (by kernel_rfl) (by kernel_rfl) ?_ | skip);simp (config:= {maxSteps:=6000000}) only [go_sem,reduceCtorEq,Nat.reduceAdd,Nat.reduceLeDiff,Nat.reduceEqDiff,K6,Gx,VM,Ep,UQ,Ev,OI,DW,Uf,GL,Ub,Lx,Pv,IB,PW,Eg,Va,FT,hs,hv2,B8 t2,hlV,c7',NN,XI,kw,ko,x0,x1,x2,x3,x4,x5,l0,l1,l2,l3,l4,l5,a1,a2,z64,z32,z31,m0,m2,m3,m4,m5,v0,v1,hv,J6,FO,sW,Gn,hT1,hT2,hT3,hT4,hT5,q1,q2,q3,q4,q5,d0,d1,d2,d3,f0,f2,f8,h0,g6,v5,x6,l6,m6,KS,i64,i32,i31,bl,BF,e6]))
  (refine ⟨[T5+2],by simp [],by simp [g7],by simp [], ?_, ?_, ?_⟩ <;> simp [A3,Bi,AA.nil,AA.cons,BJ,BI,BG,AB,BH,AH.set,AH.refl,JX,g5,g7,g8,h4])
 cases hG:G with
 |false=>
  rw [if_neg (fun h=>absurd h.2.1 (by simp))]
  rw [hG] at eG'
  dsimp only
  refine CW.vc GX [0,2,3,4,5,6,7,8,9,10,15,78,1000006] (by kernel_rfl) ?_
  (repeat ((first | refine Vc.mk' ?_ | refine CW.Qz GX 6 [0,2,3,4,5,6,7,8,9,10,15,78,1000006] [(3,35),(5,4),(5,35),(8,4),(8,35),(9,35),(13,4),(13,35),(15,20),(15,26),(15,32),(15,35),(19,4),(19,14),(19,35),(21,26),(21,32),(21,35),(25,4),(25,14),(25,20),(25,35),(27,32),(27,35),(31,4),(31,14),(31,20),(31,26),(31,35),(33,35)] (by kernel_rfl) (by kernel_rfl) ?_ | skip);simp (config:= {maxSteps:=6000000}) only [go_sem,reduceCtorEq,Nat.reduceAdd,Nat.reduceLeDiff,Nat.reduceEqDiff,K6,Gx,VM,Ep,UQ,Ev,OI,DW,Uf,GL,Ub,Lx,Pv,IB,PW,Eg,Va,FT,hs,hv2,B8 t2,hlV,c7',NN,XI,kw,ko,x0,x1,x2,x3,x4,x5,l0,l1,l2,l3,l4,l5,a1,a2,z64,z32,z31,m0,m2,m3,m4,m5,v0,v1,hv,J6,FO,sW,Gn,hT1,hT2,hT3,hT4,hT5,q1,q2,q3,q4,q5,d0,d1,d2,d3,f0,f2,f8,h0,g6,v5,x6,l6,m6,KS,i64,i32,i31,bl,BF,e6,eG']))
  (refine ⟨[T5+2],by simp [],by simp [g7],by simp [], ?_, ?_, ?_⟩ <;> simp [A3,Bi,AA.nil,AA.cons,BJ,BI,BG,AB,BH,AH.set,AH.refl,JX,g5,g7,g8,h4])
 |true=>
 rw [hG] at eG'
 have g:=eG'
 simp only [Bool.and_eq_true] at g
 obtain ⟨⟨⟨⟨g0,g2⟩,g3⟩,g4⟩,g5_⟩:=g
 have p0:=JU w0 64
 have p2:=JU w2 31
 have p3:=JU w3 31
 have p4:=JU w4 32
 have p5:=JU w5 31
 have b2:AL .i64 (Hi w2 31:Int)=(Hi w2 31:Int):=wrap64 (by omega) (by omega)
 have b3:AL .i64 (Hi w3 31:Int)=(Hi w3 31:Int):=wrap64 (by omega) (by omega)
 have b5:AL .i64 (Hi w5 31:Int)=(Hi w5 31:Int):=wrap64 (by omega) (by omega)
 have b4:AL .u32 (Hi w4 32:Int)=(Hi w4 32:Int):=N5 (by simp [IntKind.signed]) (by simp [IntKind.signed,IntKind.bits];omega)
 have RX:Mj X:=by rw [eX];exact ⟨by dsimp only;omega,by dsimp only;omega,by dsimp only;omega,by dsimp only;omega,dp w6⟩
 have IX:dP (.agg ⟨AE.enc X⟩)=True:=nU RX
 have EX:ey (.agg ⟨AE.enc X⟩)=X:=G9
 rw [eX] at IX EX
 simp only [Gz] at IX EX
 rw [←eX] at EX
 cases hK:Wg X with
 |false=>
  rw [if_neg (fun h=>absurd h.2.2 (by simp))]
  dsimp only
  refine CW.vc GX [0,2,3,4,5,6,7,8,9,10,15,78,1000006] (by kernel_rfl) ?_
  (repeat ((first | refine Vc.mk' ?_ | refine CW.Qz GX 6 [0,2,3,4,5,6,7,8,9,10,15,78,1000006] [(3,35),(5,4),(5,35),(8,4),(8,35),(9,35),(13,4),(13,35),(15,20),(15,26),(15,32),(15,35),(19,4),(19,14),(19,35),(21,26),(21,32),(21,35),(25,4),(25,14),(25,20),(25,35),(27,32),(27,35),(31,4),(31,14),(31,20),(31,26),(31,35),(33,35)] (by kernel_rfl) (by kernel_rfl) ?_ | skip);simp (config:= {maxSteps:=6000000}) only [go_sem,reduceCtorEq,Nat.reduceAdd,Nat.reduceLeDiff,Nat.reduceEqDiff,Int.reduceEq,K6,Gx,VM,Ep,UQ,Ev,OI,DW,Uf,GL,Ub,Lx,Pv,IB,PW,Eg,Va,FT,hs,hv2,B8 t2,hlV,c7',NN,XI,kw,ko,x0,x1,x2,x3,x4,x5,l0,l1,l2,l3,l4,l5,a1,a2,z64,z32,z31,m0,m2,m3,m4,m5,v0,v1,hv,J6,FO,sW,Gn,hT1,hT2,hT3,hT4,hT5,q1,q2,q3,q4,q5,d0,d1,d2,d3,f0,f2,f8,h0,g6,v5,x6,l6,m6,KS,i64,i32,i31,bl,BF,e6,eG',b2,b3,b4,b5,IX,EX,hK]))
  (refine ⟨[T5+2],by simp [],by simp [g7],by simp [], ?_, ?_, ?_⟩ <;> simp [A3,Bi,AA.nil,AA.cons,BJ,BI,BG,AB,BH,AH.set,AH.refl,JX,g5,g7,g8,h4])
 |true=>
  rw [if_pos ⟨e6,rfl,rfl⟩]
  dsimp only
  refine CW.vc GX [0,2,3,4,5,6,7,8,9,10,15,78,1000006] (by kernel_rfl) ?_
  (repeat ((first | refine Vc.mk' ?_ | refine CW.Qz GX 6 [0,2,3,4,5,6,7,8,9,10,15,78,1000006] [(3,35),(5,4),(5,35),(8,4),(8,35),(9,35),(13,4),(13,35),(15,20),(15,26),(15,32),(15,35),(19,4),(19,14),(19,35),(21,26),(21,32),(21,35),(25,4),(25,14),(25,20),(25,35),(27,32),(27,35),(31,4),(31,14),(31,20),(31,26),(31,35),(33,35)] (by kernel_rfl) (by kernel_rfl) ?_ | skip);simp (config:= {maxSteps:=6000000}) only [go_sem,reduceCtorEq,Nat.reduceAdd,Nat.reduceLeDiff,Nat.reduceEqDiff,K6,Gx,VM,Ep,OI,DW,Uf,GL,Ub,Lx,Pv,IB,PW,Eg,Va,FT,hs,hv2,B8 t2,hlV,c7',NN,XI,kw,ko,x0,x1,x2,x3,x4,x5,l0,l1,l2,l3,l4,l5,a1,a2,z64,z32,z31,m0,m2,m3,m4,m5,v0,v1,hv,J6,FO,sW,Gn,hT1,hT2,hT3,hT4,hT5,q1,q2,q3,q4,q5,d0,d1,d2,d3,f0,f2,f8,g7,v5,x6,l6,m6,KS,i64,i32,i31,bl,BF,e6,eG',b2,b3,b4,b5,IX,EX,hK]))
  rw [eX]
  (refine ⟨[],by simp,by simp,by simp, ?_, ?_, ?_⟩ <;> simp [A3,Bi,AA.nil,AH.set,AH.refl,g5,g8])
end Go.Proofs.YthpibnpeaidabaaGreatDoor.Dm
