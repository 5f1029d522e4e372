/- Equality of an op with itself, as a true one. -/
import Derived.Test.YthlhnangbinhoaaGreatDoorTFX
import Derived.Test.YthlhnangbinhoaaGreatDoorSRO
import Derived.Test.YthlhnangbinhoaaGreatDoorRT8
import Derived.Test.YthlhnangbinhoaaGreatDoorRTU
set_option linter.unusedVariables false
namespace Go.Proofs.YthlhnangbinhoaaGreatDoor.Dm
open Go.Dm
set_option maxHeartbeats 16000000
set_option maxRecDepth 20000
theorem gn {d:Nat}{x:Int}:Jt tt.get (d+1) 41 (.int .u32 x) (.int .u32 x)=some true:=by
 simp [Jt,NZ,ZY,LU]
theorem KU {d:Nat}{x:Int}:Jt tt.get (d+1) 3 (.int .i64 x) (.int .i64 x)=some true:=by
 simp [Jt,BX,Nb,LU]
theorem ma {d:Nat}{x:List UInt8}:Jt tt.get (d+1) 9 (.string ⟨⟨x⟩⟩) (.string ⟨⟨x⟩⟩)=some true:=by
 simp [Jt,C4,rK,Ko]
theorem xn {o:Ax}:Jt tt.get 64 43 (.agg ⟨Aw.enc o⟩) (.agg ⟨Aw.enc o⟩)=some true:=by
 cases o with | mk a0 a1 a2 a3 a4 a5 a6=>
 rw [Jt];simp only [OE,Uj,Ai]
 have p0:∀ {x:Value} {l:List Value},Dg Nb (x :: l) 0=some x:=rfl
 have p1:∀ {x0 x:Value} {l:List Value},Dg Nb (x0 :: x :: l) 1=some x:=rfl
 have p2:∀ {x0 x1 x:Value} {l:List Value},Dg Nb (x0 :: x1 :: x :: l) 2=some x:=rfl
 have p3:∀ {x0 x1 x2 x:Value} {l:List Value},Dg Nb (x0 :: x1 :: x2 :: x :: l) 3=some x:=rfl
 have p4:∀ {x0 x1 x2 x3 x:Value} {l:List Value},Dg ZY (x0 :: x1 :: x2 :: x3 :: x :: l) 4=some x:=rfl
 have p5:∀ {x0 x1 x2 x3 x4 x:Value} {l:List Value},Dg Nb (x0 :: x1 :: x2 :: x3 :: x4 :: x :: l) 5=some x:=rfl
 have p6:∀ {x0 x1 x2 x3 x4 x5 x:Value} {l:List Value},Dg rK (x0 :: x1 :: x2 :: x3 :: x4 :: x5 :: x :: l) 6=some x:=rfl
 rw [show (63:Nat)=62+1 from rfl]
 simp only [eqFields,KU (d:=61),KU (d:=60),KU (d:=59),KU (d:=58),gn (d:=57),KU (d:=56),ma (d:=55),show ("Kind" == "_")=false from rfl,show ("Router" == "_")=false from rfl,show ("Peer" == "_")=false from rfl,show ("Group" == "_")=false from rfl,show ("Entropy" == "_")=false from rfl,show ("Ticks" == "_")=false from rfl,show ("Bytes" == "_")=false from rfl,BX,NZ,C4,p0,p1,p2,p3,p4,p5,p6]
 try simp
theorem aa {xo yo:Operand}{o:Ax}:Df tt.get .eql 43 xo yo (.agg ⟨Aw.enc o⟩) (.agg ⟨Aw.enc o⟩)=(.bool true,True):=by
 have h:Df tt.get .eql 43 xo yo (.agg ⟨Aw.enc o⟩) (.agg ⟨Aw.enc o⟩)=Lq (DX tt.get .eql 43 xo yo (.agg ⟨Aw.enc o⟩) (.agg ⟨Aw.enc o⟩)):=by
  unfold Df;rw [OE];unfold R2;rw [show kindOf tt.get 43=_ from rfl];rfl
 rw [h]
 have h2:DX tt.get .eql 43 xo yo (.agg ⟨Aw.enc o⟩) (.agg ⟨Aw.enc o⟩)=some (.bool true):=by
  simp only [DX,OE,Uj,xn]
 rw [h2];rfl
end Go.Proofs.YthlhnangbinhoaaGreatDoor.Dm
set_option linter.unusedVariables false
namespace Go.Proofs.YthlhnangbinhoaaGreatDoor.Dm
open Go.Dm
set_option maxHeartbeats 16000000
set_option maxRecDepth 20000
noncomputable def GR8:FuncId→Bb:=Bw nZ 22 QI
theorem gi:CQ Tryz.prog tt.get GR8:=Lu.add xh
theorem AAy:GR8 17=aj:=rfl
theorem ABr:GR8 20=bF:=rfl
def gJ (hp:Hp)(v:Value)(c n:Int):Prop:=(c=0∧v= .nilIface)∨(c≠0∧∃e,v= .iface 51 (.pointer (some ⟨e,0,none⟩))∧hp e=OT c n)
def Mg:Bb:= .pure (fun args hp=>match args with | [v, .agg ⟨[.int .i64 c, .int .i64 n]⟩]=>gJ hp v c n∧hp 7=od | _=>False) (fun _ _=> .bool true)
theorem uC {c n:Int}:(∃m,some (A7.cells true 0 [.int .i64 c, .int .i64 n])=OT c m)=True:=eq_true ⟨n,rfl⟩
theorem AEf {z:Nat}{x:Value}:(∃v,some (A7.cells true z [x])=some (A7.cells true z [v]))=True:=eq_true ⟨_,rfl⟩
theorem ACF {a:Option Addr}:H8 tt.get 53 (.pointer a)=some (.iface 53 (.pointer a)):=by simp [H8,R6,cM]
theorem im:A0 Tryz.prog 19 Mg:=by
 refine .Fm P1 ?_ ?_
 ·intro args hp h
  match args,h with
  | [v, .agg ⟨[.int .i64 c, .int .i64 n]⟩],_=>rfl
 intro args hp hpre top hcl hsc
 match args,hpre with
 | [v, .agg ⟨[.int .i64 c, .int .i64 n]⟩],⟨hv,h7⟩=>
 have h70:=hcl.lt _ _ h7
 rcases hv with ⟨rfl,rfl⟩ | ⟨hc,e,rfl,he⟩
 ·refine AR.A5 BA P1 rfl 47 rfl [.tmp 4] rfl (show 2≤47 by decide) ?_
  refine CW.vc gi [0,1,3,4,5,8] (by kernel_rfl) ?_
  (repeat ((try refine Vc.mk' ?_);simp (maxSteps:=6000000) only [go_sem,Xe]))
 ·have he0:=hcl.lt _ _ he
  unfold OT at he
  refine AR.A5 BA P1 rfl 47 rfl [.tmp 4] rfl (show 2≤47 by decide) ?_
  refine CW.vc gi [0,1,3,4,5,8] (by kernel_rfl) ?_
  (repeat ((try refine Vc.mk' ?_);simp (maxSteps:=6000000) only [go_sem,AAy,aj,ABr,bF,jq,he,h7,Ae he0,Ae h70,ACF,mX,AEf,uC,hc,decide_true,decide_false]))
noncomputable def vQ:FuncId→Bb:=Bw GR8 19 Mg
theorem tW:CQ Tryz.prog tt.get vQ:=gi.add im
theorem AAo:vQ 19=Mg:=rfl
theorem tw:vQ 12=Kl:=rfl
theorem jr:vQ 15=Ow:=rfl
theorem lJ:vQ 16=RU:=rfl
theorem fW:vQ 21=G9:=rfl
theorem lS:vQ 22=QI:=rfl
def ka:Bb:= .pure (fun args hp=>match args with | [v, .string ⟨⟨s⟩⟩]=>dT v∧s.length≤1048576∧C7 hp∧hp 7=od | _=>False) (fun _ _=> .bool true)
theorem uZ {h:Hp}{t:Nat}(e:h t=some (.cells true 0 [.int .i64 12, .int .i64 0])):gJ h (.iface 51 (.pointer (some ⟨t,0,none⟩))) 12 0=True:=eq_true (.inr ⟨by decide,t,rfl,e⟩)
theorem kB:A0 Tryz.prog 7 ka:=by
 refine .Fm ZK ?_ ?_
 ·rintro args hp h
  match args,h with
  | [_, .string ⟨⟨s⟩⟩],_=>rfl
 intro args hp hpre top hcl hsc
 match args,hpre with
 | [_, .string ⟨⟨s⟩⟩],⟨⟨x,rfl,h⟩,hs,hv,h7⟩=>
 have hp1:=hv.1
 have ht1:=hcl.lt _ _ hp1
 have ht5:=Fc hcl hv
 have h70:=hcl.lt _ _ h7
 have hI:=R5 h
 have hE:=Br (x:=x)
 have w1:(s.length < 4294967281)=True:=eq_true (by omega)
 have w2:(s.length≤100000000)=True:=eq_true (by omega)
 have hR:Ul s=P5 s:=o9 (by omega)
 obtain ⟨t,e,hln⟩:∃t e,fO x= .tuple ⟨[.string ⟨⟨t⟩⟩, .int .i64 e]⟩:=by
  cases hq:IH x with
  |none=>exact ⟨_,_,Sb hq⟩
  |some t=>exact ⟨_,_,S5 hq⟩
 simp only [Ai] at hI hE
 refine AR.A5 BA ZK rfl 63 rfl [.tmp 4] rfl (show 2≤63 by decide) ?_
 cases ho:P5 s with
 |some o=>
  have hq:=fun xo yo=>aa (xo:=xo) (yo:=yo) (o:=o)
  have h1:∀ {t:Nat},Ur s t=(.tuple ⟨[.agg ⟨Aw.enc o⟩, .nilIface]⟩, [],t):=fun {t}=>by unfold Ur;rw [ho]
  have h2:MO s= .tuple ⟨[.agg ⟨Aw.enc o⟩, .bool true]⟩:=by unfold MO;rw [hR,ho]
  simp only [Ai] at hq h1 h2
  refine CW.vc tW [0,1,2,4,5,6,7,8,9,10,11,12,30,41] (by kernel_rfl) ?_
  (repeat ((try refine Vc.mk' ?_);simp (maxSteps:=6000000) only [go_sem,tw,jr,lJ,fW,lS,Kl,Ow,RU,G9,QI,hv,hp1,Ae ht1,AQ ht5,BW ht5,AH,hI,hE,Ko,w1,w2,decide_true,hln,h1,h2,hq,Xe]))
 |none=>
  have hq:=fun xo yo=>aa (xo:=xo) (yo:=yo) (o:=KQ)
  have h1:∀ {t:Nat},Ur s t=(.tuple ⟨[.agg ⟨Aw.enc KQ⟩,RX t]⟩, [(t,OT 12 0)],t+1):=fun {t}=>by unfold Ur;rw [ho]
  have h2:MO s= .tuple ⟨[.agg ⟨Aw.enc KQ⟩, .bool false]⟩:=by unfold MO;rw [hR,ho]
  simp only [Ai,KQ] at hq h1 h2
  refine CW.vc tW [0,1,2,4,5,6,7,8,9,10,11,12,30,41] (by kernel_rfl) ?_
  (repeat ((try refine Vc.mk' ?_);simp (maxSteps:=6000000) only [go_sem,AAo,tw,jr,lJ,fW,lS,Mg,Kl,Ow,RU,G9,QI,hv,hp1,h7,Ae ht1,Ae h70,AQ ht5,BW ht5,RX,OT,AH,hI,hE,Ko,w1,w2,uZ,decide_true,hln,h1,h2,hq]))
end Go.Proofs.YthlhnangbinhoaaGreatDoor.Dm
set_option linter.unusedVariables false
namespace Go.Proofs.YthlhnangbinhoaaGreatDoor.Dm
open Go.ChangeShapes Go.WideShapes Go.ChangeAt
open Go.Dm
structure xu (x:Ax):Prop where
 k0: -9223372036854775808≤x.Kind
 k1:x.Kind < 9223372036854775808
 r0: -9223372036854775808≤x.Bj
 r1:x.Bj < 9223372036854775808
 p0: -9223372036854775808≤x.C8
 p1:x.C8 < 9223372036854775808
 g0: -9223372036854775808≤x.B1
 g1:x.B1 < 9223372036854775808
 e0:0≤x.Bd
 e1:x.Bd < 4294967296
 t0: -9223372036854775808≤x.CJ
 t1:x.CJ < 9223372036854775808
 b:x.Bytes.length≤9223372036854775807
theorem xu.o {x:Ax}(h:xu x)(hb:x.Bytes.length≤140737488351232):GZ x:=
 ⟨⟨h.k0,Int.lt_add_one_iff.1 h.k1⟩,⟨h.r0,Int.lt_add_one_iff.1 h.r1⟩,⟨h.p0,Int.lt_add_one_iff.1 h.p1⟩,⟨h.g0,Int.lt_add_one_iff.1 h.g1⟩,h.e0,h.e1,⟨h.t0,Int.lt_add_one_iff.1 h.t1⟩,hb⟩
theorem Xa {H:Type}{d:DataW H}:∀ {ds:List (DataW H)},d∈ds→Rows.uptoBulk d≤Rows.uptoBulkAll ds
 | [],h=>by cases h
 |x :: ds,h=>by
  rw [Rows.uptoBulkAll]
  rcases List.mem_cons.1 h with rfl | h
  ·omega
  ·have:=Xa h;omega
theorem oS {H:Type}{enc:TypeId×Value→H}{W:World}{base:Nat}{sp:Nat→Bool}{held:Bool}{r:List Value}{d:DataW H}{p:List MemPlace}(h:DataW.Trod enc Tryz.prog W base sp held 43 (.agg ⟨r⟩) d p){φ:Dm.Ren}{a:Ax}(hv:Vs φ (Aw.enc a) r):a.Bytes.length≤Rows.uptoBulk d:=by
 obtain ⟨fuel,hf⟩:=h
 have hr:r=Aw.enc a:=by
  rw [Ai] at hv ⊢
  cases hv with | cons _ _ _ _ h0 hv=>
  cases hv with | cons _ _ _ _ h1 hv=>
  cases hv with | cons _ _ _ _ h2 hv=>
  cases hv with | cons _ _ _ _ h3 hv=>
  cases hv with | cons _ _ _ _ h4 hv=>
  cases hv with | cons _ _ _ _ h5 hv=>
  cases hv with | cons _ _ _ _ h6 hv=>
  cases hv
  cases h0;cases h1;cases h2;cases h3;cases h4;cases h5;cases h6
  rfl
 subst hr
 obtain ⟨xs,n,_,hx,_,hlen,hfs⟩:=DataW.trod_struct Tryz.underlying43 hf
 have h6:=hfs 6 _ rfl
 have hl7:xs.length=7:=hlen
 rw [List.getElem?_eq_getElem (show 6 < xs.length by omega)] at h6
 have hc:(Value.agg ⟨Aw.enc a⟩).cells.toList=Aw.enc a:=by simp [Value.cells,Ai]
 rw [hc] at h6
 obtain ⟨s,hs,hy,_⟩:=DataW.trod_string Tryz.underlying9 h6
 have hb:s.data.toList=a.Bytes:=by
  have e1:Tryz.prog.cellsOf 9=1:=by kernel_rfl
  have hs:((Aw.enc a).drop 6).take (Tryz.prog.cellsOf 9)= [.string s]:=hs
  rw [e1,Ai] at hs
  simp at hs
  rw [←hs]
 have hm:DataW.lit (.string a.Bytes)∈xs.map (·.1):=by
  refine List.mem_map.2 ⟨xs[6],List.getElem_mem _, ?_⟩
  rw [hy,hb]
 have hd:d= .agg (xs.map (·.1)):=congrArg Prod.fst hx
 have h1:=Xa hm
 have h2:Rows.uptoBulk (DataW.lit (.string a.Bytes):DataW H)=a.Bytes.length+1:=by rw [Rows.uptoBulk]
 rw [hd,Rows.uptoBulk]
 omega
end Go.Proofs.YthlhnangbinhoaaGreatDoor.Dm
