/- Event: the event of a line. -/
import Derived.Test.YthpibnpeaidabaaGreatDoorTE
set_option linter.unusedSimpArgs false
set_option linter.unusedVariables false
namespace Go.Proofs.YthpibnpeaidabaaGreatDoor.Dm
open Go.Dm
set_option maxHeartbeats 16000000
set_option maxRecDepth 20000
def Hb:Ac:=⟨0,0,0,0,0,0,0,0,0,0⟩
def wN (s:List UInt8)(i:Nat):List UInt8:=at' (Iw s) i
def X1 (s:List UInt8):Ac:=⟨(Fu (wN s 0) 64:Nat),JB DG (wN s 1) 0,(Fu (wN s 2) 31:Nat),(Fu (wN s 3) 31:Nat),(Fu (wN s 4) 32:Nat),(Fu (wN s 5) 31:Nat),(G9 (wN s 6)).x0,(G9 (wN s 6)).x1,(G9 (wN s 6)).x2,(G9 (wN s 6)).x3⟩
def my (s:List UInt8):Bool:=K7 (wN s 0) 64 && K7 (wN s 2) 31 && K7 (wN s 3) 31 && K7 (wN s 4) 32 && K7 (wN s 5) 31
def OD (s:List UInt8):Option Ac:=if (Iw s).length < 7 then none else if Mt (wN s 6)=0∧my s=true∧Qc (X1 s)=true then some (X1 s) else none
def VC (s:List UInt8)(top:Nat):Value×BZ×Nat:=match OD s with
 |some x=>(.tuple ⟨[.agg ⟨AU.enc x⟩, .nilIface]⟩, [],top)
 |none=>(.tuple ⟨[.agg ⟨AU.enc Hb⟩, .iface 84 (.pointer (some ⟨top,0,none⟩))]⟩, [(top,some (.cells true 0 [.int .i64 12, .int .i64 0]))],top+1)
def CX:BO:= .det (fun args hp _=>match args with | [.string ⟨⟨s⟩⟩]=>s.length < 4294967281∧B6 hp∧hp 0=some UF | _=>False) (fun args _ top=>match args with | [s]=>VC (strOf s) top | _=>(undef, [],top))
def ZJ:FuncId→BO:=Bd (Bd (Bd (Bd rT 64 Fq) 65 Km) 40 EW) 39 C5
theorem Gx:B9 Tryz.prog tt.get ZJ:=(((N1.add jI).add mO).add gz).add YV
theorem ML:ZJ 38=HL:=rfl
theorem Rk:ZJ 64=Fq:=rfl
theorem RO:ZJ 65=Km:=rfl
theorem Qk:ZJ 40=EW:=rfl
theorem SX:ZJ 39=C5:=rfl
theorem Mv:ZJ 34=Df:=rfl
theorem MQ:ZJ 41=Hh:=rfl
theorem Mc:ZJ 42=Eb:=rfl
theorem Qx:ZJ 28=DE:=rfl
theorem Lb (sep:List UInt8):∀(k:Nat) (s:List UInt8),∀w∈Lib.splitK sep 0 k s,w.length≤s.length
 |0,s,w,h=>by simp [Lib.splitK] at h;rw [h];exact Nat.le_refl _
 |k+1,s,w,h=>by
  unfold Lib.splitK at h
  split at h
  ·simp at h;rw [h];exact Nat.le_refl _
  ·rcases List.mem_cons.1 h with rfl | h
   ·rw [List.length_take];omega
   ·have:=Lb sep k _ w h
    rw [List.length_drop] at this;omega
theorem PB (s:List UInt8):GV (G9 s):=by
 unfold G9;split
 ·exact pA s
 ·exact Kt
theorem JE {s:List UInt8}{i:Nat}(h:i < (Iw s).length):(wN s i).length≤s.length:=by
 refine Lb [32] (Je s - 1) s _ ?_
 show at' (Iw s) i∈Iw s
 rw [Dt _ _ h];exact List.getElem_mem h
theorem Si:BG Tryz.prog 12 CX:=by
 refine .Cy PQ ?_
 intro args hp top hpre hcl hsc
 match args,hpre with
 | [.string ⟨⟨s⟩⟩],⟨hs,hv,ht⟩=>
 have hv0:=hv
 obtain ⟨hp1,hv2,hv3,hv4⟩:=hv0
 have ht5:=My hcl hv
 have t2:2 < top:=by omega
 simp only [BV]
 have hln:=LM s
 have hlV:∀ {h':Hp} {b:Nat},DY tt.get h' 58 (Dz s b)=(.int .i64 ((Iw s).length:Int),True):=fun {h'} {b}=>by
  unfold Dz DY
  simp only [B2,Fv,DW,PW];rfl
 refine Ab.BF BN PQ rfl 82 rfl [.cell 2 33, .tmp 3] rfl (show 1≤82 by decide) ?_
 by_cases c7:(Iw s).length < 7
 ·have c7':((Iw s).length:Int) < 7:=by omega
  have e:VC s top=(.tuple ⟨[.agg ⟨AU.enc Hb⟩, .iface 84 (.pointer (some ⟨top,0,none⟩))]⟩, [(top,some (.cells true 0 [.int .i64 12, .int .i64 0]))],top+1):=by unfold VC OD;rw [if_pos c7]
  rw [e]
  refine CW.vc Gx [0,2,3,4,5,6,7,8,9,10,15,78,1000006] (by kernel_rfl) ?_
  (repeat ((first | refine Vc.mk' ?_ | refine CW.Sf Gx 6 [0,2,3,4,5,6,7,8,9,10,15,78,1000006] [(3,35),(5,4),(5,35),(8,4),(8,35),(9,35),(13,4),(13,35),(15,20),(15,26),(15,32),(15,35),(19,4),(19,14),(19,35),(21,26),(21,32),(21,35),(25,4),(25,14),(25,20),(25,35),(27,32),(27,35),(31,4),(31,14),(31,20),(31,26),(31,35),(33,35)] (by kernel_rfl) (by kernel_rfl) ?_ | skip);simp (maxSteps:=6000000) only [go_sem,reduceIte,reduceCtorEq,Nat.reduceAdd,Nat.reduceMul,Nat.reduceSub,Nat.reduceLT,Nat.reduceLeDiff,Nat.reduceEqDiff,Int.reduceEq,Int.reduceLT,Int.reduceLE,Int.reduceNe,ML,HL,Qk,EW,SX,C5,Mv,Df,Rk,Fq,RO,Km,MQ,Hh,Mc,Eb,Qx,DE,hs,hv2,BI t2,hlV,c7']))
  (refine ⟨[top+2],by simp,by simp,by simp, ?_, ?_, ?_⟩ <;> simp [Ag,BJ,BH,Am,AP,AF,AJ.nil,AJ.cons,AB,AD,AM,AA,AQ,AX,AO,Ax.AL,AG,AV,AE,AH,AK.set,AK.Ao,AK.refl,Hb,Cs])
 have h7:(Iw s).length=7:=by omega
 have c7':¬((Iw s).length:Int) < 7:=by omega
 have hix:∀ {b i:Nat},i < 7→A1 tt.get 58 (Dz s b) (.int .i64 (i:Int))=(BX (Dz s b) i,True):=fun {b} {i} hi=>by
  have:=Cf (Ve (hp:=fun _=>some (.cells true 1 (BT s))) (b:=b) (s:=s) rfl) (k:= .i64) (n:=(i:Int)) (by omega) (by omega)
  rwa [Int.toNat_natCast,Nat.mul_one] at this
 have hld:∀ {h':Hp} {b i:Nat},i < 7→h' b=some (.cells true 1 (BT s))→An tt.get h' 9 (BX (Dz s b) i)=(.string ⟨⟨wN s i⟩⟩,True):=fun {h'} {b} {i} hi e=>by
  have:=Cm (Ve e) (i:=i) (by omega)
  rwa [Nat.mul_one] at this
 have x0:∀ {b:Nat},A1 tt.get 58 (Dz s b) (.int .i64 0)=(BX (Dz s b) 0,True):=fun {b}=>hix (i:=0) (by decide)
 have x1:∀ {b:Nat},A1 tt.get 58 (Dz s b) (.int .i64 1)=(BX (Dz s b) 1,True):=fun {b}=>hix (i:=1) (by decide)
 have x2:∀ {b:Nat},A1 tt.get 58 (Dz s b) (.int .i64 2)=(BX (Dz s b) 2,True):=fun {b}=>hix (i:=2) (by decide)
 have x3:∀ {b:Nat},A1 tt.get 58 (Dz s b) (.int .i64 3)=(BX (Dz s b) 3,True):=fun {b}=>hix (i:=3) (by decide)
 have x4:∀ {b:Nat},A1 tt.get 58 (Dz s b) (.int .i64 4)=(BX (Dz s b) 4,True):=fun {b}=>hix (i:=4) (by decide)
 have x5:∀ {b:Nat},A1 tt.get 58 (Dz s b) (.int .i64 5)=(BX (Dz s b) 5,True):=fun {b}=>hix (i:=5) (by decide)
 have x6:∀ {b:Nat},A1 tt.get 58 (Dz s b) (.int .i64 6)=(BX (Dz s b) 6,True):=fun {b}=>hix (i:=6) (by decide)
 have n0:=JE (s:=s) (i:=0) (by omega)
 have n1:=JE (s:=s) (i:=1) (by omega)
 have n2:=JE (s:=s) (i:=2) (by omega)
 have n3:=JE (s:=s) (i:=3) (by omega)
 have n4:=JE (s:=s) (i:=4) (by omega)
 have n5:=JE (s:=s) (i:=5) (by omega)
 have n6:=JE (s:=s) (i:=6) (by omega)
 have eP:OD s=if Mt (wN s 6)=0∧my s=true∧Qc (X1 s)=true then some (X1 s) else none:=by unfold OD;rw [if_neg c7]
 have eG:my s=(K7 (wN s 0) 64 && K7 (wN s 2) 31 && K7 (wN s 3) 31 && K7 (wN s 4) 32 && K7 (wN s 5) 31):=rfl
 have eX:X1 s=⟨(Fu (wN s 0) 64:Nat),JB DG (wN s 1) 0,(Fu (wN s 2) 31:Nat),(Fu (wN s 3) 31:Nat),(Fu (wN s 4) 32:Nat),(Fu (wN s 5) 31:Nat),(G9 (wN s 6)).x0,(G9 (wN s 6)).x1,(G9 (wN s 6)).x2,(G9 (wN s 6)).x3⟩:=rfl
 have l0:∀ {h':Hp} {b:Nat},h' b=some (.cells true 1 (BT s))→An tt.get h' 9 (BX (Dz s b) 0)=(.string ⟨⟨wN s 0⟩⟩,True):=fun e=>hld (by decide) e
 have l1:∀ {h':Hp} {b:Nat},h' b=some (.cells true 1 (BT s))→An tt.get h' 9 (BX (Dz s b) 1)=(.string ⟨⟨wN s 1⟩⟩,True):=fun e=>hld (by decide) e
 have l2:∀ {h':Hp} {b:Nat},h' b=some (.cells true 1 (BT s))→An tt.get h' 9 (BX (Dz s b) 2)=(.string ⟨⟨wN s 2⟩⟩,True):=fun e=>hld (by decide) e
 have l3:∀ {h':Hp} {b:Nat},h' b=some (.cells true 1 (BT s))→An tt.get h' 9 (BX (Dz s b) 3)=(.string ⟨⟨wN s 3⟩⟩,True):=fun e=>hld (by decide) e
 have l4:∀ {h':Hp} {b:Nat},h' b=some (.cells true 1 (BT s))→An tt.get h' 9 (BX (Dz s b) 4)=(.string ⟨⟨wN s 4⟩⟩,True):=fun e=>hld (by decide) e
 have l5:∀ {h':Hp} {b:Nat},h' b=some (.cells true 1 (BT s))→An tt.get h' 9 (BX (Dz s b) 5)=(.string ⟨⟨wN s 5⟩⟩,True):=fun e=>hld (by decide) e
 have l6:∀ {h':Hp} {b:Nat},h' b=some (.cells true 1 (BT s))→An tt.get h' 9 (BX (Dz s b) 6)=(.string ⟨⟨wN s 6⟩⟩,True):=fun e=>hld (by decide) e
 have a1:∀ {h':Hp} {b:Nat},h' b=some (.cells true 0 Gd)→(∃l,bu h' (.slice (some ⟨b,0,none⟩) 9 9) l)=True:=fun {h'} {b} e=>eq_true ⟨DG,b,true,0,rfl,e,by decide⟩
 have a2:∀ {h':Hp} {b:Nat},h' b=some (.cells true 0 Gd)→rU h' (.slice (some ⟨b,0,none⟩) 9 9)=DG:=fun {h'} {b} e=>(show bu h' (.slice (some ⟨b,0,none⟩) 9 9) DG from ⟨b,true,0,rfl,e,by decide⟩).rd
 have z64:I6 64=True:=eq_true (.inl rfl)
 have z32:I6 32=True:=eq_true (.inr (.inl rfl))
 have z31:I6 31=True:=eq_true (.inr (.inr rfl))
 have m0:((wN s 0).length≤281474976710656)=True:=eq_true (by omega)
 have m2:((wN s 2).length≤281474976710656)=True:=eq_true (by omega)
 have m3:((wN s 3).length≤281474976710656)=True:=eq_true (by omega)
 have m4:((wN s 4).length≤281474976710656)=True:=eq_true (by omega)
 have m5:((wN s 5).length≤281474976710656)=True:=eq_true (by omega)
 have m6:((wN s 6).length < 4294967281)=True:=eq_true (by omega)
 have kw:Gd.length=9:=rfl
 have hIb:∀ {b:Ak},(bl b).length=4:=fun {b}=>rfl
 have ko:BA Gd=true:=rfl
 have v1:∀(i:Nat) (h:Hp) (o:Option A5),B6 (h.set (top+i) o)=B6 h:=fun i h o=>Cq (by omega)
 have v0:∀(h:Hp) (o:Option A5),B6 (h.set top o)=B6 h:=fun h o=>Cq ht5
 generalize X1 s=X at eP eX
 generalize my s=G at eP eG
 unfold VC
 rw [eP]
 generalize wN s 0=w0 at *
 generalize wN s 1=w1 at *
 generalize wN s 2=w2 at *
 generalize wN s 3=w3 at *
 generalize wN s 4=w4 at *
 generalize wN s 5=w5 at *
 generalize wN s 6=w6 at *
 have sW:∀ {h':Hp} {b:Nat},h' b=some (.cells true 0 Gd)→Bk tt.get h' 71 (.pointer (some ⟨b,0,none⟩)) none none=(.slice (some ⟨b,0,none⟩) 9 9,True):=fun {h'} {b} e=>by
  have h1:Cr tt.get h' 71 (.pointer (some ⟨b,0,none⟩)) none none=some (.slice (some ⟨b,0,none⟩) 9 9):=by
   simp only [Cr,Tq,XQ,e,C6];rfl
  unfold Bk
  rw [h1]
  rfl
 obtain ⟨T1,hT1⟩:∃T,Xz w0 64 (top+4)=T:=⟨_,rfl⟩
 have q1:top+4≤T1:=by rw [←hT1];exact M7 ..
 obtain ⟨T2,hT2⟩:∃T,Xz w2 31 T1=T:=⟨_,rfl⟩
 have q2:T1≤T2:=by rw [←hT2];exact M7 ..
 obtain ⟨T3,hT3⟩:∃T,Xz w3 31 T2=T:=⟨_,rfl⟩
 have q3:T2≤T3:=by rw [←hT3];exact M7 ..
 obtain ⟨T4,hT4⟩:∃T,Xz w4 32 T3=T:=⟨_,rfl⟩
 have q4:T3≤T4:=by rw [←hT4];exact M7 ..
 obtain ⟨T5,hT5⟩:∃T,Xz w5 31 T4=T:=⟨_,rfl⟩
 have q5:T4≤T5:=by rw [←hT5];exact M7 ..
 have d0:¬top=T5:=by omega
 have d1:¬top+1=T5:=by omega
 have d2:¬top+2=T5:=by omega
 have d3:¬top+3=T5:=by omega
 have d4:¬T5=top:=by omega
 have d5:¬T5=top+1:=by omega
 have d6:¬T5=top+2:=by omega
 have d7:¬T5=top+3:=by omega
 have f0:¬top=T5+1:=by omega
 have f1:¬top+1=T5+1:=by omega
 have f2:¬top+2=T5+1:=by omega
 have f3:¬top+3=T5+1:=by omega
 have f4:¬T5+1=top:=by omega
 have f6:¬T5+1=top+2:=by omega
 have f8:¬T5=T5+1:=by omega
 have f9:¬T5+1=T5:=by omega
 have h0:¬top=T5+2:=by omega
 have h1:¬top+1=T5+2:=by omega
 have h2:¬top+2=T5+2:=by omega
 have h3:¬top+3=T5+2:=by omega
 have h4:¬T5+2=top:=by omega
 have g5:top≤T5:=by omega
 have g6:top≤T5+3:=by omega
 have g7:top≤T5+2:=by omega
 have g8:top≤T5+1:=by omega
 have v5:∀(h:Hp) (o:Option A5),B6 (h.set T5 o)=B6 h:=fun h o=>Cq (by omega)
 have v6:∀(h:Hp) (o:Option A5),B6 (h.set (T5+1) o)=B6 h:=fun h o=>Cq (by omega)
 have i64:(64:Int).toNat=64:=rfl
 have i32:(32:Int).toNat=32:=rfl
 have i31:(31:Int).toNat=31:=rfl
 have eG':(K7 w0 64 && K7 w2 31 && K7 w3 31 && K7 w4 32 && K7 w5 31)=G:=eG.symm
 by_cases e6:Mt w6=0
 case neg=>
  rw [if_neg (fun h=>e6 h.1)]
  dsimp only
  refine CW.vc Gx [0,2,3,4,5,6,7,8,9,10,15,78,1000006] (by kernel_rfl) ?_
  (repeat ((first | refine Vc.mk' ?_ | refine CW.Sf Gx 6 [0,2,3,4,5,6,7,8,9,10,15,78,1000006] [(3,35),(5,4),(5,35),(8,4),(8,35),(9,35),(13,4),(13,35),(15,20),(15,26),(15,32),(15,35),(19,4),(19,14),(19,35),(21,26),(21,32),(21,35),(25,4),(25,14),(25,20),(25,35),(27,32),(27,35),(31,4),(31,14),(31,20),(31,26),(31,35),(33,35)] (by kernel_rfl) (by kernel_rfl) ?_ | skip);simp (maxSteps:=6000000) only [go_sem,reduceIte,reduceCtorEq,Nat.reduceAdd,Nat.reduceMul,Nat.reduceSub,Nat.reduceLT,Nat.reduceLeDiff,Nat.reduceEqDiff,Int.reduceEq,Int.reduceLT,Int.reduceLE,Int.reduceNe,ML,HL,Qk,EW,SX,C5,Mv,Df,Rk,Fq,RO,Km,MQ,Hh,Mc,Eb,Qx,DE,hs,hv2,BI t2,hlV,c7',Nr,Wn,kw,ko,x0,x1,x2,x3,x4,x5,l0,l1,l2,l3,l4,l5,a1,a2,z64,z32,z31,m0,m2,m3,m4,m5,v0,v1,hv,KQ,F4,sW,HH,hT1,hT2,hT3,hT4,hT5,q1,q2,q3,q4,q5,d0,d1,d2,d3,d4,d5,d6,d7,f0,f1,f2,f3,f4,f6,f8,f9,h0,h1,h2,h3,h4,g5,g6,g7,v5,v6,x6,l6,m6,Kx,hIb,i64,i32,i31,bl,BR,e6]))
  (refine ⟨[T5+2],by simp [g7],by simp [g7],by simp [g7], ?_, ?_, ?_⟩ <;> simp [Ag,BJ,BH,Am,AP,AF,AJ.nil,AJ.cons,AB,AD,AM,AA,AQ,AX,AO,Ax.AL,AG,AV,AE,AH,AK.set,AK.Ao,AK.refl,Hb,Cs,g5,g6,g7,g8,h0,h1,h2,h3,h4,d0,d1,d2,d3,d4,d5,d6,d7,f0,f1,f2,f3,f4,f6,f8,f9])
 cases hG:G with
 |false=>
  rw [if_neg (fun h=>absurd h.2.1 (by simp))]
  rw [hG] at eG'
  dsimp only
  refine CW.vc Gx [0,2,3,4,5,6,7,8,9,10,15,78,1000006] (by kernel_rfl) ?_
  (repeat ((first | refine Vc.mk' ?_ | refine CW.Sf Gx 6 [0,2,3,4,5,6,7,8,9,10,15,78,1000006] [(3,35),(5,4),(5,35),(8,4),(8,35),(9,35),(13,4),(13,35),(15,20),(15,26),(15,32),(15,35),(19,4),(19,14),(19,35),(21,26),(21,32),(21,35),(25,4),(25,14),(25,20),(25,35),(27,32),(27,35),(31,4),(31,14),(31,20),(31,26),(31,35),(33,35)] (by kernel_rfl) (by kernel_rfl) ?_ | skip);simp (maxSteps:=6000000) only [go_sem,reduceIte,reduceCtorEq,Nat.reduceAdd,Nat.reduceMul,Nat.reduceSub,Nat.reduceLT,Nat.reduceLeDiff,Nat.reduceEqDiff,Int.reduceEq,Int.reduceLT,Int.reduceLE,Int.reduceNe,ML,HL,Qk,EW,SX,C5,Mv,Df,Rk,Fq,RO,Km,MQ,Hh,Mc,Eb,Qx,DE,hs,hv2,BI t2,hlV,c7',Nr,Wn,kw,ko,x0,x1,x2,x3,x4,x5,l0,l1,l2,l3,l4,l5,a1,a2,z64,z32,z31,m0,m2,m3,m4,m5,v0,v1,hv,KQ,F4,sW,HH,hT1,hT2,hT3,hT4,hT5,q1,q2,q3,q4,q5,d0,d1,d2,d3,d4,d5,d6,d7,f0,f1,f2,f3,f4,f6,f8,f9,h0,h1,h2,h3,h4,g5,g6,g7,v5,v6,x6,l6,m6,Kx,hIb,i64,i32,i31,bl,BR,e6,eG']))
  (refine ⟨[T5+2],by simp [g7],by simp [g7],by simp [g7], ?_, ?_, ?_⟩ <;> simp [Ag,BJ,BH,Am,AP,AF,AJ.nil,AJ.cons,AB,AD,AM,AA,AQ,AX,AO,Ax.AL,AG,AV,AE,AH,AK.set,AK.Ao,AK.refl,Hb,Cs,g5,g6,g7,g8,h0,h1,h2,h3,h4,d0,d1,d2,d3,d4,d5,d6,d7,f0,f1,f2,f3,f4,f6,f8,f9])
 |true=>
 rw [hG] at eG'
 have g:=eG'
 simp only [Bool.and_eq_true] at g
 obtain ⟨⟨⟨⟨g0,g2⟩,g3⟩,g4⟩,g5_⟩:=g
 have p0:=Ho w0 64
 have p2:=Ho w2 31
 have p3:=Ho w3 31
 have p4:=Ho w4 32
 have p5:=Ho w5 31
 have b2:Ae .i64 (Fu w2 31:Int)=(Fu w2 31:Int):=wrap64 (by omega) (by omega)
 have b3:Ae .i64 (Fu w3 31:Int)=(Fu w3 31:Int):=wrap64 (by omega) (by omega)
 have b5:Ae .i64 (Fu w5 31:Int)=(Fu w5 31:Int):=wrap64 (by omega) (by omega)
 have b4:Ae .u32 (Fu w4 32:Int)=(Fu w4 32:Int):=Pr (by simp [IntKind.signed]) (by simp [IntKind.signed,IntKind.bits];omega)
 have RX:J6 X:=by rw [eX];exact ⟨by dsimp only;omega,by dsimp only;omega,by dsimp only;omega,by dsimp only;omega,PB w6⟩
 have IX:iJ (.agg ⟨AU.enc X⟩)=True:=YN RX
 have EX:iG (.agg ⟨AU.enc X⟩)=X:=FI
 rw [eX] at IX EX
 simp only [Cs] at IX EX
 rw [←eX] at EX
 cases hK:Qc X with
 |false=>
  rw [if_neg (fun h=>absurd h.2.2 (by simp))]
  dsimp only
  refine CW.vc Gx [0,2,3,4,5,6,7,8,9,10,15,78,1000006] (by kernel_rfl) ?_
  (repeat ((first | refine Vc.mk' ?_ | refine CW.Sf Gx 6 [0,2,3,4,5,6,7,8,9,10,15,78,1000006] [(3,35),(5,4),(5,35),(8,4),(8,35),(9,35),(13,4),(13,35),(15,20),(15,26),(15,32),(15,35),(19,4),(19,14),(19,35),(21,26),(21,32),(21,35),(25,4),(25,14),(25,20),(25,35),(27,32),(27,35),(31,4),(31,14),(31,20),(31,26),(31,35),(33,35)] (by kernel_rfl) (by kernel_rfl) ?_ | skip);simp (maxSteps:=6000000) only [go_sem,reduceIte,reduceCtorEq,Nat.reduceAdd,Nat.reduceMul,Nat.reduceSub,Nat.reduceLT,Nat.reduceLeDiff,Nat.reduceEqDiff,Int.reduceEq,Int.reduceLT,Int.reduceLE,Int.reduceNe,ML,HL,Qk,EW,SX,C5,Mv,Df,Rk,Fq,RO,Km,MQ,Hh,Mc,Eb,Qx,DE,hs,hv2,BI t2,hlV,c7',Nr,Wn,kw,ko,x0,x1,x2,x3,x4,x5,l0,l1,l2,l3,l4,l5,a1,a2,z64,z32,z31,m0,m2,m3,m4,m5,v0,v1,hv,KQ,F4,sW,HH,hT1,hT2,hT3,hT4,hT5,q1,q2,q3,q4,q5,d0,d1,d2,d3,d4,d5,d6,d7,f0,f1,f2,f3,f4,f6,f8,f9,h0,h1,h2,h3,h4,g5,g6,g7,v5,v6,x6,l6,m6,Kx,hIb,i64,i32,i31,bl,BR,e6,eG',b2,b3,b4,b5,IX,EX,hK]))
  (refine ⟨[T5+2],by simp [g7],by simp [g7],by simp [g7], ?_, ?_, ?_⟩ <;> simp [Ag,BJ,BH,Am,AP,AF,AJ.nil,AJ.cons,AB,AD,AM,AA,AQ,AX,AO,Ax.AL,AG,AV,AE,AH,AK.set,AK.Ao,AK.refl,Hb,Cs,g5,g6,g7,g8,h0,h1,h2,h3,h4,d0,d1,d2,d3,d4,d5,d6,d7,f0,f1,f2,f3,f4,f6,f8,f9])
 |true=>
  rw [if_pos ⟨e6,rfl,rfl⟩]
  dsimp only
  refine CW.vc Gx [0,2,3,4,5,6,7,8,9,10,15,78,1000006] (by kernel_rfl) ?_
  (repeat ((first | refine Vc.mk' ?_ | refine CW.Sf Gx 6 [0,2,3,4,5,6,7,8,9,10,15,78,1000006] [(3,35),(5,4),(5,35),(8,4),(8,35),(9,35),(13,4),(13,35),(15,20),(15,26),(15,32),(15,35),(19,4),(19,14),(19,35),(21,26),(21,32),(21,35),(25,4),(25,14),(25,20),(25,35),(27,32),(27,35),(31,4),(31,14),(31,20),(31,26),(31,35),(33,35)] (by kernel_rfl) (by kernel_rfl) ?_ | skip);simp (maxSteps:=6000000) only [go_sem,reduceIte,reduceCtorEq,Nat.reduceAdd,Nat.reduceMul,Nat.reduceSub,Nat.reduceLT,Nat.reduceLeDiff,Nat.reduceEqDiff,Int.reduceEq,Int.reduceLT,Int.reduceLE,Int.reduceNe,ML,HL,Qk,EW,SX,C5,Mv,Df,Rk,Fq,RO,Km,MQ,Hh,Mc,Eb,Qx,DE,hs,hv2,BI t2,hlV,c7',Nr,Wn,kw,ko,x0,x1,x2,x3,x4,x5,l0,l1,l2,l3,l4,l5,a1,a2,z64,z32,z31,m0,m2,m3,m4,m5,v0,v1,hv,KQ,F4,sW,HH,hT1,hT2,hT3,hT4,hT5,q1,q2,q3,q4,q5,d0,d1,d2,d3,d4,d5,d6,d7,f0,f1,f2,f3,f4,f6,f8,f9,h0,h1,h2,h3,h4,g5,g6,g7,v5,v6,x6,l6,m6,Kx,hIb,i64,i32,i31,bl,BR,e6,eG',b2,b3,b4,b5,IX,EX,hK]))
  rw [eX]
  (refine ⟨[],by simp,by simp,by simp, ?_, ?_, ?_⟩ <;> simp [Ag,BJ,BH,Am,AP,AF,AJ.nil,AJ.cons,AB,AD,AM,AA,AQ,AX,AO,Ax.AL,AG,AV,AE,AH,AK.set,AK.Ao,AK.refl,Cs,g5,g6,g7,g8,h0,h1,h2,h3,h4,d0,d1,d2,d3,d4,d5,d6,d7,f0,f1,f2,f3,f4,f6,f8,f9])
end Go.Proofs.YthpibnpeaidabaaGreatDoor.Dm
