import Derived.Test.YthpibnpeaidabaaGreatDoorTL
set_option linter.unusedVariables false
namespace Go.Proofs.YthpibnpeaidabaaGreatDoor.Dm
open Go.Dm
set_option maxHeartbeats 16000000
set_option maxRecDepth 20000
theorem lz {d:Nat}{x y:Int}:Em tt.get (d+1) 29 (.int .u32 x) (.int .u32 y)=some (decide (x=y)):=by
 simp [Em,CH,Jf,MB]
theorem L5 {d:Nat}{x y:Int}:Em tt.get (d+1) 3 (.int .i64 x) (.int .i64 y)=some (decide (x=y)):=by
 simp [Em,Dx,Yg,MB]
theorem rb {d:Nat}{a0 a1 a2 a3 b0 b1 b2 b3:Int}:Em tt.get (d+7) 31 (.agg ⟨[.int .u64 a0, .int .u64 a1, .int .u64 a2, .int .u64 a3]⟩) (.agg ⟨[.int .u64 b0, .int .u64 b1, .int .u64 b2, .int .u64 b3]⟩)=some (decide (a0=b0∧a1=b1∧a2=b2∧a3=b3)):=by
 have e:Em tt.get (d+7) 31 (.agg ⟨[.int .u64 a0, .int .u64 a1, .int .u64 a2, .int .u64 a3]⟩) (.agg ⟨[.int .u64 b0, .int .u64 b1, .int .u64 b2, .int .u64 b3]⟩)=eqItems tt.get (d+6) 28 K6 [.int .u64 a0, .int .u64 a1, .int .u64 a2, .int .u64 a3] [.int .u64 b0, .int .u64 b1, .int .u64 b2, .int .u64 b3] 0 4:=by
  rw [Em];simp only [dY,V4,IA]
 rw [e,Fo (x:=a0) (y:=b0) rfl rfl,Fo (x:=a1) (y:=b1) rfl rfl,Fo (x:=a2) (y:=b2) rfl rfl,Fo (x:=a3) (y:=b3) rfl rfl]
 by_cases h0:a0=b0 <;> by_cases h1:a1=b1 <;> by_cases h2:a2=b2 <;> by_cases h3:a3=b3 <;> simp [h0,h1,h2,h3,RP]
theorem gi {a b:AE}:Em tt.get 64 33 (.agg ⟨AA.enc a⟩) (.agg ⟨AA.enc b⟩)=some (decide (a=b)):=by
 cases a with | mk a0 a1 a2 a3 a4 a5 a6 a7 a8 a9=>
 cases b with | mk b0 b1 b2 b3 b4 b5 b6 b7 b8 b9=>
 rw [Em];simp only [Ch,Lg,Cs]
 have p0:∀ {x:Value} {l:List Value},DE K6 (x :: l) 0=some x:=rfl
 have p1:∀ {x0 x:Value} {l:List Value},DE Yg (x0 :: x :: l) 1=some x:=rfl
 have p2:∀ {x0 x1 x:Value} {l:List Value},DE Yg (x0 :: x1 :: x :: l) 2=some x:=rfl
 have p3:∀ {x0 x1 x2 x:Value} {l:List Value},DE Yg (x0 :: x1 :: x2 :: x :: l) 3=some x:=rfl
 have p4:∀ {x0 x1 x2 x3 x:Value} {l:List Value},DE Jf (x0 :: x1 :: x2 :: x3 :: x :: l) 4=some x:=rfl
 have p5:∀ {x0 x1 x2 x3 x4 x:Value} {l:List Value},DE Yg (x0 :: x1 :: x2 :: x3 :: x4 :: x :: l) 5=some x:=rfl
 have p6:∀ {x0 x1 x2 x3 x4 x5 y0 y1 y2 y3:Value},DE V4 [x0,x1,x2,x3,x4,x5,y0,y1,y2,y3] 6=some (.agg ⟨[y0,y1,y2,y3]⟩):=rfl
 rw [show (63:Nat)=62+1 from rfl]
 simp only [eqFields,Wj (d:=61),L5 (d:=60),L5 (d:=59),L5 (d:=58),lz (d:=57),L5 (d:=56),rb (d:=49),show ("At" == "_")=false from rfl,show ("Kind" == "_")=false from rfl,show ("Router" == "_")=false from rfl,show ("Peer" == "_")=false from rfl,show ("Id" == "_")=false from rfl,show ("Set" == "_")=false from rfl,show ("Bits" == "_")=false from rfl,Dx,IA,CH,dY,p0,p1,p2,p3,p4,p5,p6]
 by_cases h0:a0=b0 <;> by_cases h1:a1=b1 <;> by_cases h2:a2=b2 <;> by_cases h3:a3=b3 <;> by_cases h4:a4=b4 <;> by_cases h5:a5=b5 <;> simp [h0,h1,h2,h3,h4,h5]
 generalize (decide (a6=b6) && (decide (a7=b7) && (decide (a8=b8) && decide (a9=b9))))=c
 cases c <;> rfl
theorem qv {xo yo:Operand}{a b:AE}:Bg tt.get .eql 33 xo yo (.agg ⟨AA.enc a⟩) (.agg ⟨AA.enc b⟩)=(.bool (decide (a=b)),True):=by
 have h:Bg tt.get .eql 33 xo yo (.agg ⟨AA.enc a⟩) (.agg ⟨AA.enc b⟩)=Dv (BD tt.get .eql 33 xo yo (.agg ⟨AA.enc a⟩) (.agg ⟨AA.enc b⟩)):=by
  unfold Bg;rw [Ch];unfold Nl;rw [show kindOf tt.get 33=_ from rfl];rfl
 rw [h]
 have h2:BD tt.get .eql 33 xo yo (.agg ⟨AA.enc a⟩) (.agg ⟨AA.enc b⟩)=some (.bool (decide (a=b))):=by
  simp only [BD,Ch,Lg,gi]
 rw [h2];rfl
theorem s9 {xo yo:Operand}{a b:AE}:Bg tt.get .neq 33 xo yo (.agg ⟨AA.enc a⟩) (.agg ⟨AA.enc b⟩)=(.bool (!decide (a=b)),True):=by
 have h:Bg tt.get .neq 33 xo yo (.agg ⟨AA.enc a⟩) (.agg ⟨AA.enc b⟩)=Dv (BD tt.get .neq 33 xo yo (.agg ⟨AA.enc a⟩) (.agg ⟨AA.enc b⟩)):=by
  unfold Bg;rw [Ch];unfold Nl;rw [show kindOf tt.get 33=_ from rfl];rfl
 rw [h]
 have h2:BD tt.get .neq 33 xo yo (.agg ⟨AA.enc a⟩) (.agg ⟨AA.enc b⟩)=some (.bool (!decide (a=b))):=by
  simp only [BD,Ch,Lg,gi]
 rw [h2];rfl
def Ez:AE:=⟨3,2,1,2,7,0,258,0,0,0⟩
def Ka:BG:= .pure (fun args _=>args= []) (fun _ _=> .agg ⟨AA.enc Ez⟩)
theorem lj:Aw Tryz.prog 29 Ka:=by
 refine .Ep Pj (fun _ _ _=>rfl) ?_
 intro args hp hpre top hcl hsc
 subst hpre
 refine AK.Ar A7 Pj rfl 3 rfl [.cell 0 33] rfl (show 0≤3 by decide) ?_
 refine CW.vc Hi [0] (by kernel_rfl) ?_
 (repeat ((try refine Vc.mk' ?_);simp (maxSteps:=6000000) only [go_sem,Nat.reduceAdd,Nat.reduceLeDiff,Ez]))
theorem RA:FY Ez:=⟨by decide,by decide,by decide,by decide,by refine ⟨?_, ?_, ?_, ?_⟩ <;> exact ⟨by decide,by decide⟩⟩
theorem QV:LO Ez=true:=by
 rw [okF]
 have hn:nB Ez=2:=by decide +kernel
 exact ⟨by decide,by decide,by decide,by decide,by decide,by decide,by omega,fun e=>absurd e (by decide),by decide⟩
def UF:List UInt8:= [51,32,99,111,112,121,32,49,32,50,32,55,32,48,32,50,32,57]
theorem Su:Lib.join (CX Ez) [32] = UF:=by
 have hb:FX (FK Ez)= [50,32,57]:=by
  rw [IG RA.b]
  have:CU (FK Ez)= [2,9]:=by decide +kernel
  rw [this]
  simp [ER,tk,Lib.join_cons,Lib.joinTail,Lib.itoa,Dy]
 unfold CX
 rw [hb]
 simp [Ez,Lib.join_cons,Lib.joinTail,Lib.itoa,Dy,CY,Ca,UF]
theorem tC:XZ UF=some Ez:=by rw [←Su];exact Wn RA QV
theorem Ya:C1 Ez=UF:=by unfold C1;rw [if_pos QV,Su]
def ux:FuncId→BG:=BQ (BQ fV 12 J8) 29 Ka
theorem Dt:B4 Tryz.prog tt.get ux:=(Hi.add cb).add lj
theorem yR:ux 12=J8:=rfl
theorem wW:ux 29=Ka:=rfl
theorem yj:ux 11=DU:=rfl
def J6:BG:= .pure (fun args hp=>args= []∧CZ hp∧hp 0=some U9) (fun _ _=> .bool true)
theorem tZ {xo yo:Operand}:Bg tt.get .eql 33 xo yo (.agg ⟨AA.enc Ez⟩) (.agg ⟨AA.enc Ez⟩)=(.bool true,True):=by rw [qv];simp
theorem cx:Aw Tryz.prog 9 J6:=by
 refine .Ep Vd ?_ ?_
 ·intro args hp h
  obtain ⟨rfl,_⟩:=h;rfl
 intro args hp hpre top hcl hsc
 obtain ⟨rfl,hv,ht⟩:=hpre
 have ht0:=hcl.lt _ _ ht
 have hp1:=hv.1
 have ht1:=hcl.lt _ _ hp1
 have hI:=Y1 RA
 have hE:=Df (x:=Ez)
 have hL:Hj Ez= .tuple ⟨[.string ⟨⟨UF⟩⟩, .int .i64 0]⟩:=by unfold Hj;rw [Ya,if_pos QV]
 have hV:∀ {top:Nat},ui UF top=(.tuple ⟨[.agg ⟨AA.enc Ez⟩, .nilIface]⟩, [],top):=fun {top}=>by unfold ui;rw [tC]
 have hS:([51,32,99,111,112,121,32,49,32,50,32,55,32,48,32,50,32,57] :List UInt8)=UF:=rfl
 have hOl:UF.length < 4294967281:=by decide
 have heq:=fun xo yo=>tZ (xo:=xo) (yo:=yo)
 simp only [Cs] at hI hE hV heq
 refine AK.Ar A7 Vd rfl 29 rfl [.tmp 0] rfl (show 0≤29 by decide) ?_
 refine CW.vc Dt [0,1,2,3,4] (by kernel_rfl) ?_
 (repeat ((try refine Vc.mk' ?_);simp (maxSteps:=6000000) only [go_sem,Nat.reduceAdd,yR,wW,yj,J8,Ka,DU,hI,hE,hL,hV,hS,hOl,ht,hp1,hv,heq,pD,IV]))
end Go.Proofs.YthpibnpeaidabaaGreatDoor.Dm
