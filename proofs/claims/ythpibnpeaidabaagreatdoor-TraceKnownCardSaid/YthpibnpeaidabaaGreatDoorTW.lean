/- Equality of events; the one event; works. -/
import Derived.Test.YthpibnpeaidabaaGreatDoorTL
set_option linter.unusedSimpArgs false
set_option linter.unusedVariables false
namespace Go.Proofs.YthpibnpeaidabaaGreatDoor.Dm
open Go.Dm
set_option maxHeartbeats 16000000
set_option maxRecDepth 20000
theorem fI {d:Nat}{x y:Int}:Ih tt.get (d+1) 29 (.int .u32 x) (.int .u32 y)=some (decide (x=y)):=by
 simp [Ih,CU,I2,LI]
theorem K9 {d:Nat}{x y:Int}:Ih tt.get (d+1) 3 (.int .i64 x) (.int .i64 y)=some (decide (x=y)):=by
 simp [Ih,Hi,ZY,LI]
theorem mC {d:Nat}{a0 a1 a2 a3 b0 b1 b2 b3:Int}:Ih tt.get (d+7) 31 (.agg ⟨[.int .u64 a0, .int .u64 a1, .int .u64 a2, .int .u64 a3]⟩) (.agg ⟨[.int .u64 b0, .int .u64 b1, .int .u64 b2, .int .u64 b3]⟩)=some (decide (a0=b0∧a1=b1∧a2=b2∧a3=b3)):=by
 have e:Ih tt.get (d+7) 31 (.agg ⟨[.int .u64 a0, .int .u64 a1, .int .u64 a2, .int .u64 a3]⟩) (.agg ⟨[.int .u64 b0, .int .u64 b1, .int .u64 b2, .int .u64 b3]⟩)=eqItems tt.get (d+6) 28 J8 [.int .u64 a0, .int .u64 a1, .int .u64 a2, .int .u64 a3] [.int .u64 b0, .int .u64 b1, .int .u64 b2, .int .u64 b3] 0 4:=by
  rw [Ih];simp only [Zm,Tv,Hk]
 rw [e,Fh (x:=a0) (y:=b0) rfl rfl,Fh (x:=a1) (y:=b1) rfl rfl,Fh (x:=a2) (y:=b2) rfl rfl,Fh (x:=a3) (y:=b3) rfl rfl]
 by_cases h0:a0=b0 <;> by_cases h1:a1=b1 <;> by_cases h2:a2=b2 <;> by_cases h3:a3=b3 <;> simp [h0,h1,h2,h3,Pm]
theorem nS {a b:Ac}:Ih tt.get 64 33 (.agg ⟨AU.enc a⟩) (.agg ⟨AU.enc b⟩)=some (decide (a=b)):=by
 cases a with | mk a0 a1 a2 a3 a4 a5 a6 a7 a8 a9=>
 cases b with | mk b0 b1 b2 b3 b4 b5 b6 b7 b8 b9=>
 rw [Ih];simp only [DX,Ma,Cs]
 have p0:∀ {x:Value} {l:List Value},DH J8 (x :: l) 0=some x:=rfl
 have p1:∀ {x0 x:Value} {l:List Value},DH ZY (x0 :: x :: l) 1=some x:=rfl
 have p2:∀ {x0 x1 x:Value} {l:List Value},DH ZY (x0 :: x1 :: x :: l) 2=some x:=rfl
 have p3:∀ {x0 x1 x2 x:Value} {l:List Value},DH ZY (x0 :: x1 :: x2 :: x :: l) 3=some x:=rfl
 have p4:∀ {x0 x1 x2 x3 x:Value} {l:List Value},DH I2 (x0 :: x1 :: x2 :: x3 :: x :: l) 4=some x:=rfl
 have p5:∀ {x0 x1 x2 x3 x4 x:Value} {l:List Value},DH ZY (x0 :: x1 :: x2 :: x3 :: x4 :: x :: l) 5=some x:=rfl
 have p6:∀ {x0 x1 x2 x3 x4 x5 y0 y1 y2 y3:Value},DH Tv [x0,x1,x2,x3,x4,x5,y0,y1,y2,y3] 6=some (.agg ⟨[y0,y1,y2,y3]⟩):=rfl
 rw [show (63:Nat)=62+1 from rfl]
 simp only [eqFields,VR (d:=61),K9 (d:=60),K9 (d:=59),K9 (d:=58),fI (d:=57),K9 (d:=56),mC (d:=49),show ("At" == "_")=false from rfl,show ("Kind" == "_")=false from rfl,show ("Router" == "_")=false from rfl,show ("Peer" == "_")=false from rfl,show ("Id" == "_")=false from rfl,show ("Set" == "_")=false from rfl,show ("Bits" == "_")=false from rfl,Hi,Hk,CU,Zm,p0,p1,p2,p3,p4,p5,p6]
 by_cases h0:a0=b0 <;> by_cases h1:a1=b1 <;> by_cases h2:a2=b2 <;> by_cases h3:a3=b3 <;> by_cases h4:a4=b4 <;> by_cases h5:a5=b5 <;> simp [h0,h1,h2,h3,h4,h5]
 generalize (decide (a6=b6) && (decide (a7=b7) && (decide (a8=b8) && decide (a9=b9))))=c
 cases c <;> rfl
theorem lS {xo yo:Operand}{a b:Ac}:C7 tt.get .eql 33 xo yo (.agg ⟨AU.enc a⟩) (.agg ⟨AU.enc b⟩)=(.bool (decide (a=b)),True):=by
 have h:C7 tt.get .eql 33 xo yo (.agg ⟨AU.enc a⟩) (.agg ⟨AU.enc b⟩)=Kb (De tt.get .eql 33 xo yo (.agg ⟨AU.enc a⟩) (.agg ⟨AU.enc b⟩)):=by
  unfold C7;rw [DX];unfold OO;rw [show kindOf tt.get 33=_ from rfl];rfl
 rw [h]
 have h2:De tt.get .eql 33 xo yo (.agg ⟨AU.enc a⟩) (.agg ⟨AU.enc b⟩)=some (.bool (decide (a=b))):=by
  simp only [De,DX,Ma,nS]
 rw [h2];rfl
def Dr:Ac:=⟨3,2,1,2,7,0,258,0,0,0⟩
def DM:BO:= .pure (fun args _=>args= []) (fun _ _=> .agg ⟨AU.enc Dr⟩)
theorem VP:BG Tryz.prog 29 DM:=by
 refine .HS Pc (fun _ _ _=>rfl) ?_
 intro args hp hpre top hcl hsc
 subst hpre
 refine Ab.BF BN Pc rfl 3 rfl [.cell 0 33] rfl (show 0≤3 by decide) ?_
 refine CW.vc Gx [0] (by kernel_rfl) ?_
 (repeat ((try refine Vc.mk' ?_);simp (maxSteps:=6000000) only [go_sem,reduceIte,reduceCtorEq,Nat.reduceAdd,Nat.reduceMul,Nat.reduceSub,Nat.reduceLT,Nat.reduceLeDiff,Nat.reduceEqDiff,Int.reduceEq,Int.reduceLT,Int.reduceLE,Int.reduceNe,Dr]))
theorem PK:J6 Dr:=⟨by decide,by decide,by decide,by decide,by refine ⟨?_, ?_, ?_, ?_⟩ <;> exact ⟨by decide,by decide⟩⟩
theorem QR:Qc Dr=true:=by
 rw [okF]
 have hn:nB Dr=2:=by decide +kernel
 exact ⟨by decide,by decide,by decide,by decide,by decide,by decide,by omega,fun e=>absurd e (by decide),by decide⟩
def Qz:List UInt8:= [51,32,99,111,112,121,32,49,32,50,32,55,32,48,32,50,32,57]
theorem RV:Lib.join (Cn Dr) [32] = Qz:=by
 have hb:FE (Tx Dr)= [50,32,57]:=by
  rw [Jk PK.b]
  have:D6 (Tx Dr)= [2,9]:=by decide +kernel
  rw [this]
  simp [Em,tk,Lib.join_cons,Lib.joinTail,Lib.itoa_nonneg (2:Nat),Lib.itoa,Dw]
 unfold Cn
 rw [hb]
 simp [Dr,Lib.join_cons,Lib.joinTail,Lib.itoa,Dw,D9,DG,Qz]
theorem ly:OD Qz=some Dr:=by rw [←RV];exact VW PK QR
theorem WO:Ik Dr=Qz:=by unfold Ik;rw [if_pos QR,RV]
def pZ:FuncId→BO:=Bd (Bd ZJ 12 CX) 29 DM
theorem Nx:B9 Tryz.prog tt.get pZ:=(Gx.add Si).add VP
theorem pQ:pZ 12=CX:=rfl
theorem ql:pZ 29=DM:=rfl
theorem pO:pZ 11=EA:=rfl
def Ea:BO:= .pure (fun args hp=>args= []∧B6 hp∧hp 0=some UF) (fun _ _=> .bool true)
theorem lT {xo yo:Operand}:C7 tt.get .eql 33 xo yo (.agg ⟨AU.enc Dr⟩) (.agg ⟨AU.enc Dr⟩)=(.bool true,True):=by rw [lS];simp
theorem bt:BG Tryz.prog 9 Ea:=by
 refine .HS Sv ?_ ?_
 ·intro args hp h
  obtain ⟨rfl,_⟩:=h;rfl
 intro args hp hpre top hcl hsc
 obtain ⟨rfl,hv,ht⟩:=hpre
 have ht0:=hcl.lt _ _ ht
 have hp1:=hv.1
 have ht1:=hcl.lt _ _ hp1
 have hI:=YN PK
 have hE:=FI (x:=Dr)
 have hL:Kr Dr= .tuple ⟨[.string ⟨⟨Qz⟩⟩, .int .i64 0]⟩:=by unfold Kr;rw [WO,if_pos QR]
 have hV:∀ {top:Nat},VC Qz top=(.tuple ⟨[.agg ⟨AU.enc Dr⟩, .nilIface]⟩, [],top):=fun {top}=>by unfold VC;rw [ly]
 have hS:([51,32,99,111,112,121,32,49,32,50,32,55,32,48,32,50,32,57] :List UInt8)=Qz:=rfl
 have hOl:Qz.length < 4294967281:=by decide
 have heq:=fun xo yo=>lT (xo:=xo) (yo:=yo)
 simp only [Cs] at hI hE hV heq
 refine Ab.BF BN Sv rfl 29 rfl [.tmp 0] rfl (show 0≤29 by decide) ?_
 refine CW.vc Nx [0,1,2,3,4] (by kernel_rfl) ?_
 (repeat ((try refine Vc.mk' ?_);simp (maxSteps:=6000000) only [go_sem,reduceIte,reduceCtorEq,Nat.reduceAdd,Nat.reduceMul,Nat.reduceSub,Nat.reduceLT,Nat.reduceLeDiff,Nat.reduceEqDiff,Int.reduceEq,Int.reduceLT,Int.reduceLE,Int.reduceNe,pQ,ql,pO,CX,DM,EA,hI,hE,hL,hV,hS,hOl,ht,hp1,hv,heq,BI ht0,BI ht1,Z5,GD]))
end Go.Proofs.YthpibnpeaidabaaGreatDoor.Dm
