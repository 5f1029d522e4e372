/- Equality of events; the one event; works. -/
import Derived.Test.YthpibnpeaidabaaGreatDoorTL
set_option linter.unusedVariables false
namespace Go.Proofs.YthpibnpeaidabaaGreatDoor.Dm
open Go.Dm
set_option maxHeartbeats 16000000
set_option maxRecDepth 20000
theorem gB {d:Nat}{x y:Int}:EG tt.get (d+1) 29 (.int .u32 x) (.int .u32 y)=some (decide (x=y)):=by
 simp [EG,B3,ID,KX]
theorem Km {d:Nat}{x y:Int}:EG tt.get (d+1) 3 (.int .i64 x) (.int .i64 y)=some (decide (x=y)):=by
 simp [EG,HF,aN,KX]
theorem pK {d:Nat}{a0 a1 a2 a3 b0 b1 b2 b3:Int}:EG tt.get (d+7) 31 (.agg ⟨[.int .u64 a0, .int .u64 a1, .int .u64 a2, .int .u64 a3]⟩) (.agg ⟨[.int .u64 b0, .int .u64 b1, .int .u64 b2, .int .u64 b3]⟩)=some (decide (a0=b0∧a1=b1∧a2=b2∧a3=b3)):=by
 have e:EG tt.get (d+7) 31 (.agg ⟨[.int .u64 a0, .int .u64 a1, .int .u64 a2, .int .u64 a3]⟩) (.agg ⟨[.int .u64 b0, .int .u64 b1, .int .u64 b2, .int .u64 b3]⟩)=eqItems tt.get (d+6) 28 JY [.int .u64 a0, .int .u64 a1, .int .u64 a2, .int .u64 a3] [.int .u64 b0, .int .u64 b1, .int .u64 b2, .int .u64 b3] 0 4:=by
  rw [EG];simp only [ah,Sq,Gq]
 rw [e,Ez (x:=a0) (y:=b0) rfl rfl,Ez (x:=a1) (y:=b1) rfl rfl,Ez (x:=a2) (y:=b2) rfl rfl,Ez (x:=a3) (y:=b3) rfl rfl]
 by_cases h0:a0=b0 <;> by_cases h1:a1=b1 <;> by_cases h2:a2=b2 <;> by_cases h3:a3=b3 <;> simp [h0,h1,h2,h3,N0]
theorem bC {a b:AM}:EG tt.get 64 33 (.agg ⟨AE.enc a⟩) (.agg ⟨AE.enc b⟩)=some (decide (a=b)):=by
 cases a with | mk a0 a1 a2 a3 a4 a5 a6 a7 a8 a9=>
 cases b with | mk b0 b1 b2 b3 b4 b5 b6 b7 b8 b9=>
 rw [EG];simp only [CP,KM,Gz]
 have p0:∀ {x:Value} {l:List Value},Cq JY (x :: l) 0=some x:=rfl
 have p1:∀ {x0 x:Value} {l:List Value},Cq aN (x0 :: x :: l) 1=some x:=rfl
 have p2:∀ {x0 x1 x:Value} {l:List Value},Cq aN (x0 :: x1 :: x :: l) 2=some x:=rfl
 have p3:∀ {x0 x1 x2 x:Value} {l:List Value},Cq aN (x0 :: x1 :: x2 :: x :: l) 3=some x:=rfl
 have p4:∀ {x0 x1 x2 x3 x:Value} {l:List Value},Cq ID (x0 :: x1 :: x2 :: x3 :: x :: l) 4=some x:=rfl
 have p5:∀ {x0 x1 x2 x3 x4 x:Value} {l:List Value},Cq aN (x0 :: x1 :: x2 :: x3 :: x4 :: x :: l) 5=some x:=rfl
 have p6:∀ {x0 x1 x2 x3 x4 x5 y0 y1 y2 y3:Value},Cq Sq [x0,x1,x2,x3,x4,x5,y0,y1,y2,y3] 6=some (.agg ⟨[y0,y1,y2,y3]⟩):=rfl
 rw [show (63:Nat)=62+1 from rfl]
 simp only [eqFields,UR (d:=61),Km (d:=60),Km (d:=59),Km (d:=58),gB (d:=57),Km (d:=56),pK (d:=49),show ("At" == "_")=false from rfl,show ("Kind" == "_")=false from rfl,show ("Router" == "_")=false from rfl,show ("Peer" == "_")=false from rfl,show ("Id" == "_")=false from rfl,show ("Set" == "_")=false from rfl,show ("Bits" == "_")=false from rfl,HF,Gq,B3,ah,p0,p1,p2,p3,p4,p5,p6]
 by_cases h0:a0=b0 <;> by_cases h1:a1=b1 <;> by_cases h2:a2=b2 <;> by_cases h3:a3=b3 <;> by_cases h4:a4=b4 <;> by_cases h5:a5=b5 <;> simp [h0,h1,h2,h3,h4,h5]
 generalize (decide (a6=b6) && (decide (a7=b7) && (decide (a8=b8) && decide (a9=b9))))=c
 cases c <;> rfl
theorem nh {xo yo:Operand}{a b:AM}:BS tt.get .eql 33 xo yo (.agg ⟨AE.enc a⟩) (.agg ⟨AE.enc b⟩)=(.bool (decide (a=b)),True):=by
 have h:BS tt.get .eql 33 xo yo (.agg ⟨AE.enc a⟩) (.agg ⟨AE.enc b⟩)=DS (A9 tt.get .eql 33 xo yo (.agg ⟨AE.enc a⟩) (.agg ⟨AE.enc b⟩)):=by
  unfold BS;rw [CP];unfold Ks;rw [show kindOf tt.get 33=_ from rfl];rfl
 rw [h]
 have h2:A9 tt.get .eql 33 xo yo (.agg ⟨AE.enc a⟩) (.agg ⟨AE.enc b⟩)=some (.bool (decide (a=b))):=by
  simp only [A9,CP,KM,bC]
 rw [h2];rfl
theorem oe {xo yo:Operand}{a b:AM}:BS tt.get .neq 33 xo yo (.agg ⟨AE.enc a⟩) (.agg ⟨AE.enc b⟩)=(.bool (!decide (a=b)),True):=by
 have h:BS tt.get .neq 33 xo yo (.agg ⟨AE.enc a⟩) (.agg ⟨AE.enc b⟩)=DS (A9 tt.get .neq 33 xo yo (.agg ⟨AE.enc a⟩) (.agg ⟨AE.enc b⟩)):=by
  unfold BS;rw [CP];unfold Ks;rw [show kindOf tt.get 33=_ from rfl];rfl
 rw [h]
 have h2:A9 tt.get .neq 33 xo yo (.agg ⟨AE.enc a⟩) (.agg ⟨AE.enc b⟩)=some (.bool (!decide (a=b))):=by
  simp only [A9,CP,KM,bC]
 rw [h2];rfl
def EH:AM:=⟨3,2,1,2,7,0,258,0,0,0⟩
def Ik:BB:= .pure (fun args _=>args= []) (fun _ _=> .agg ⟨AE.enc EH⟩)
theorem iA:A4 Tryz.prog 29 Ik:=by
 refine .Hg OW (fun _ _ _=>rfl) ?_
 intro args hp hpre top hcl hsc
 subst hpre
 refine AK.A5 BC OW rfl 3 rfl [.cell 0 33] rfl (show 0≤3 by decide) ?_
 refine CW.vc GX [0] (by kernel_rfl) ?_
 (repeat ((try refine Vc.mk' ?_);simp (config:= {maxSteps:=6000000}) only [go_sem,Nat.reduceAdd,Nat.reduceLeDiff,EH]))
theorem Oi:Mj EH:=⟨by decide,by decide,by decide,by decide,by refine ⟨?_, ?_, ?_, ?_⟩ <;> exact ⟨by decide,by decide⟩⟩
theorem Px:Wg EH=true:=by
 rw [okF]
 have hn:nB EH=2:=by decide +kernel
 exact ⟨by decide,by decide,by decide,by decide,by decide,by decide,by omega,fun e=>absurd e (by decide),by decide⟩
def RQ:List UInt8:= [51,32,99,111,112,121,32,49,32,50,32,55,32,48,32,50,32,57]
theorem Qn:Lib.join (Cj EH) [32] = RQ:=by
 have hb:Ff (VN EH)= [50,32,57]:=by
  rw [Kp Oi.b]
  have:DN (VN EH)= [2,9]:=by decide +kernel
  rw [this]
  simp [Dz,tk,Lib.join_cons,Lib.joinTail,Lib.itoa,DL]
 unfold Cj
 rw [hb]
 simp [EH,Lib.join_cons,Lib.joinTail,Lib.itoa,DL,EK,DH,RQ]
theorem nA:nk RQ=some EH:=by rw [←Qn];exact dz Oi Px
theorem WW:Qa EH=RQ:=by unfold Qa;rw [if_pos Px,Qn]
def uK:FuncId→BB:=Bj (Bj YU 12 Ic) 29 Ik
theorem Rq:B7 Tryz.prog tt.get uK:=(GX.add Xe).add iA
theorem sX:uK 12=Ic:=rfl
theorem tG:uK 29=Ik:=rfl
theorem tH:uK 11=Kd:=rfl
def Gs:BB:= .pure (fun args hp=>args= []∧CS hp∧hp 0=some Wj) (fun _ _=> .bool true)
theorem mv {xo yo:Operand}:BS tt.get .eql 33 xo yo (.agg ⟨AE.enc EH⟩) (.agg ⟨AE.enc EH⟩)=(.bool true,True):=by rw [nh];simp
theorem Yv:A4 Tryz.prog 9 Gs:=by
 refine .Hg TZ ?_ ?_
 ·intro args hp h
  obtain ⟨rfl,_⟩:=h;rfl
 intro args hp hpre top hcl hsc
 obtain ⟨rfl,hv,ht⟩:=hpre
 have ht0:=hcl.lt _ _ ht
 have hp1:=hv.1
 have ht1:=hcl.lt _ _ hp1
 have hI:=nU Oi
 have hE:=G9 (x:=EH)
 have hL:M5 EH= .tuple ⟨[.string ⟨⟨RQ⟩⟩, .int .i64 0]⟩:=by unfold M5;rw [WW,if_pos Px]
 have hV:∀ {top:Nat},pj RQ top=(.tuple ⟨[.agg ⟨AE.enc EH⟩, .nilIface]⟩, [],top):=fun {top}=>by unfold pj;rw [nA]
 have hS:([51,32,99,111,112,121,32,49,32,50,32,55,32,48,32,50,32,57] :List UInt8)=RQ:=rfl
 have hOl:RQ.length < 4294967281:=by decide
 have heq:=fun xo yo=>mv (xo:=xo) (yo:=yo)
 simp only [Gz] at hI hE hV heq
 refine AK.A5 BC TZ rfl 29 rfl [.tmp 0] rfl (show 0≤29 by decide) ?_
 refine CW.vc Rq [0,1,2,3,4] (by kernel_rfl) ?_
 (repeat ((try refine Vc.mk' ?_);simp (config:= {maxSteps:=6000000}) only [go_sem,Nat.reduceAdd,sX,tG,tH,Ic,Ik,Kd,hI,hE,hL,hV,hS,hOl,ht,hp1,hv,heq,kh,Ix]))
end Go.Proofs.YthpibnpeaidabaaGreatDoor.Dm
