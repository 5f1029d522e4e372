/- TraceKnown: the walk. -/
import Derived.Test.YthpibnpeaidabaaGreatDoorTPI
import Derived.Test.YthpibnpeaidabaaGreatDoorTFA
import Derived.Test.YthpibnpeaidabaaGreatDoorTPC
import Derived.Test.YthpibnpeaidabaaGreatDoorTPL
set_option linter.unusedSimpArgs false
set_option linter.unusedVariables false
namespace Go.Proofs.YthpibnpeaidabaaGreatDoor.Dm
open Go.Dm
set_option maxHeartbeats 64000000
set_option maxRecDepth 20000
def Sm:List (List UInt8):= [[], [51,32,99,111,112,121,32,49,32,49,32,55,32,48,32,50], [51,32,99,111,112,121,32,49,32,50,32,55,32,48], [51,32,99,111,112,121,32,49,32,50,32,55,32,48,32,57,32,50], [48,51,32,99,111,112,121,32,49,32,50,32,55,32,48,32,50], [51,32,108,111,99,97,108,32,49,32,48,32,55,32,48,32,50,32,51], [51,32,99,111,112,121,32,49,32,50,32,55,32,48,32,50,32], [51,32,99,111,112,121,32,49,32,50,32,55,32,48,32,50,32,50], [51,32,99,111,112,121,32,49,32,50,32,55,32,48,32,50,53,55], [51,32,119,97,108,107,32,49,32,50,32,55,32,48,32,50], [51,32,115,101,110,100,32,49,32,50,32,55,32,48,32,50], [51,32,99,111,112,121,32,49,32,50,32,52,50,57,52,57,54,55,50,57,54,32,48,32,50], [49,48,57,57,53,49,49,54,50,55,55,55,55,32,99,111,112,121,32,49,32,50,32,55,32,48,32,50]]
def WL:List Ac:= [⟨0,0,0,0,0,0,0,0,0,0⟩,⟨0,1,1,2,0,0,1,0,0,0⟩,⟨0,2,1,0,0,0,1,0,0,0⟩,⟨1099511627777,1,1,0,0,0,1,0,0,0⟩,⟨0,1,1,0,0,128,1,0,0,0⟩,⟨0,1,1,0,0,0,0,0,0,0⟩,⟨0,9,1,0,0,0,1,0,0,0⟩,⟨0,4,1,0,0,0,3,0,0,0⟩]
def kN:Ac:=⟨0,4,2,0,1,1,128,0,0,0⟩
def tH:Ac:=⟨3,2,1,2,7,0,2,0,0,0⟩
def tc:Ac:=⟨3,2,1,2,1,0,258,0,0,0⟩
def Qa:List Ac:= [Dr,tc,Dr]
theorem lB {i:Nat}(h:i < 13):OD (at' Sm i)=none:=by
 have:∀i:Fin 13,OD (at' Sm i.val)=none:=by decide +kernel
 exact this ⟨i,h⟩
theorem ik {i:Nat}(h:i < 13):(at' Sm i).length < 4294967281:=by
 have:∀i:Fin 13,(at' Sm i.val).length < 4294967281:=by decide +kernel
 exact this ⟨i,h⟩
theorem mu {i:Nat}(h:i < 8):Qc (at' WL i)=false:=by
 have:∀i:Fin 8,Qc (at' WL i.val)=false:=by decide +kernel
 exact this ⟨i,h⟩
theorem iu {x:Ac}(h:x∈WL):J6 x:=by
 simp only [WL,List.mem_cons,List.not_mem_nil,or_false] at h
 rcases h with h | h | h | h | h | h | h | h <;> subst h <;> exact ⟨by decide,by decide,by decide,by decide,by refine ⟨?_, ?_, ?_, ?_⟩ <;> exact ⟨by decide,by decide⟩⟩
theorem fZ:J6 kN:=⟨by decide,by decide,by decide,by decide,by refine ⟨?_, ?_, ?_, ?_⟩ <;> exact ⟨by decide,by decide⟩⟩
def rW:List UInt8:= [48,32,108,111,99,97,108,32,50,32,48,32,49,32,49,32,56]
theorem cS:OD rW=some kN:=by decide +kernel
theorem YP:Ik kN=rW:=(Vz.1 cS).2.2
theorem nf:Qc kN=true:=(Vz.1 cS).2.1
theorem mX:Au Ah Sm=some (.cells true 1 [.string ⟨⟨[]⟩⟩, .string ⟨⟨[51,32,99,111,112,121,32,49,32,49,32,55,32,48,32,50]⟩⟩, .string ⟨⟨[51,32,99,111,112,121,32,49,32,50,32,55,32,48]⟩⟩, .string ⟨⟨[51,32,99,111,112,121,32,49,32,50,32,55,32,48,32,57,32,50]⟩⟩, .string ⟨⟨[48,51,32,99,111,112,121,32,49,32,50,32,55,32,48,32,50]⟩⟩, .string ⟨⟨[51,32,108,111,99,97,108,32,49,32,48,32,55,32,48,32,50,32,51]⟩⟩, .string ⟨⟨[51,32,99,111,112,121,32,49,32,50,32,55,32,48,32,50,32]⟩⟩, .string ⟨⟨[51,32,99,111,112,121,32,49,32,50,32,55,32,48,32,50,32,50]⟩⟩, .string ⟨⟨[51,32,99,111,112,121,32,49,32,50,32,55,32,48,32,50,53,55]⟩⟩, .string ⟨⟨[51,32,119,97,108,107,32,49,32,50,32,55,32,48,32,50]⟩⟩, .string ⟨⟨[51,32,115,101,110,100,32,49,32,50,32,55,32,48,32,50]⟩⟩, .string ⟨⟨[51,32,99,111,112,121,32,49,32,50,32,52,50,57,52,57,54,55,50,57,54,32,48,32,50]⟩⟩, .string ⟨⟨[49,48,57,57,53,49,49,54,50,55,55,55,55,32,99,111,112,121,32,49,32,50,32,55,32,48,32,50]⟩⟩]):=rfl
theorem mY:Au AU WL=some (.cells true 10 [.int .u64 0, .int .i64 0, .int .i64 0, .int .i64 0, .int .u32 0, .int .i64 0, .int .u64 0, .int .u64 0, .int .u64 0, .int .u64 0, .int .u64 0, .int .i64 1, .int .i64 1, .int .i64 2, .int .u32 0, .int .i64 0, .int .u64 1, .int .u64 0, .int .u64 0, .int .u64 0, .int .u64 0, .int .i64 2, .int .i64 1, .int .i64 0, .int .u32 0, .int .i64 0, .int .u64 1, .int .u64 0, .int .u64 0, .int .u64 0, .int .u64 1099511627777, .int .i64 1, .int .i64 1, .int .i64 0, .int .u32 0, .int .i64 0, .int .u64 1, .int .u64 0, .int .u64 0, .int .u64 0, .int .u64 0, .int .i64 1, .int .i64 1, .int .i64 0, .int .u32 0, .int .i64 128, .int .u64 1, .int .u64 0, .int .u64 0, .int .u64 0, .int .u64 0, .int .i64 1, .int .i64 1, .int .i64 0, .int .u32 0, .int .i64 0, .int .u64 0, .int .u64 0, .int .u64 0, .int .u64 0, .int .u64 0, .int .i64 9, .int .i64 1, .int .i64 0, .int .u32 0, .int .i64 0, .int .u64 1, .int .u64 0, .int .u64 0, .int .u64 0, .int .u64 0, .int .i64 4, .int .i64 1, .int .i64 0, .int .u32 0, .int .i64 0, .int .u64 3, .int .u64 0, .int .u64 0, .int .u64 0]):=rfl
theorem me:Au AU Qa=some (.cells true 10 [.int .u64 3, .int .i64 2, .int .i64 1, .int .i64 2, .int .u32 7, .int .i64 0, .int .u64 258, .int .u64 0, .int .u64 0, .int .u64 0, .int .u64 3, .int .i64 2, .int .i64 1, .int .i64 2, .int .u32 1, .int .i64 0, .int .u64 258, .int .u64 0, .int .u64 0, .int .u64 0, .int .u64 3, .int .i64 2, .int .i64 1, .int .i64 2, .int .u32 7, .int .i64 0, .int .u64 258, .int .u64 0, .int .u64 0, .int .u64 0]):=rfl
theorem Jh:K0 Qa= [1,7]:=by rw [←gX];rfl
theorem mJ:PJ Qa 7= [Dr,Dr]:=by decide +kernel
theorem nG:PJ Qa 2= []:=by decide +kernel
def rL:List UInt8:= []
theorem nk:kd rL= .inl []:=by decide +kernel
theorem mc {t:Nat}:MN [] t=(.tuple ⟨[.slice none 0 0, .nilIface]⟩, [(t,none)],t+1):=by
 show MN rL t=_
 unfold MN
 rw [if_neg (by decide),nk];rfl
def rN:List UInt8:= [51,32,99,111,112,121,32,49,32,50,32,55,32,48,32,50,10]
theorem nY:kd rN= .inl [tH]:=by decide +kernel
theorem lU {t:Nat}:MN [51,32,99,111,112,121,32,49,32,50,32,55,32,48,32,50,10] t=(.tuple ⟨[.slice (some ⟨t,0,none⟩) 1 1, .nilIface]⟩, [(t,some (.cells true 10 (AU.enc tH)))],t+1):=by
 show MN rN t=_
 unfold MN
 rw [if_neg (by decide),nY];rfl
def pn:List UInt8:= [51,32,99,111,112,121,32,49,32,50,32,55,32,48,32,50]
theorem lZ:kd pn= .inr 0:=by decide +kernel
theorem n9 {t:Nat}:MN [51,32,99,111,112,121,32,49,32,50,32,55,32,48,32,50] t=(.tuple ⟨[.slice none 0 0,HD t]⟩, [(t,FZ 12 0)],t+1):=by
 show MN pn t=_
 unfold MN
 rw [if_neg (by decide),lZ];rfl
def qb:List UInt8:= [51,32,99,111,112,121,32,49,32,50,32,55,32,48,32,50,10,10]
theorem mF:kd qb= .inr 1:=by decide +kernel
theorem lG {t:Nat}:MN [51,32,99,111,112,121,32,49,32,50,32,55,32,48,32,50,10,10] t=(.tuple ⟨[.slice none 0 0,HD t]⟩, [(t,FZ 12 1)],t+1):=by
 show MN qb t=_
 unfold MN
 rw [if_neg (by decide),mF];rfl
theorem lE {v:Value}:E3 13 v= [v,v,v,v,v,v,v,v,v,v,v,v,v]:=rfl
def q7:List UInt8:=List.replicate 65537 0
theorem pq {t:Nat}:MN q7 t=(.tuple ⟨[.slice none 0 0,HD t]⟩, [(t,FZ 3 0)],t+1):=by
 unfold MN
 rw [if_pos (by rw [q7,List.length_replicate];decide)]
theorem nM {n:Nat}:bytesOf (List.replicate n 0)=List.replicate n 0:=by simp [bytesOf]
theorem tY {h:Hp}{b n:Nat}:B0 tt.get (h.set b (some (.cells true 1 (E3 n (.int .u8 0))))) 60 9 (.slice (some ⟨b,0,none⟩) n n)=(.string ⟨⟨List.replicate n 0⟩⟩,True):=by
 have:=Jv (hp:=h.set b (some (.cells true 1 (E3 n (.int .u8 0))))) (o:=0) (n:=n) (c:=n) (l:=List.replicate n 0) FH ee MU (AG ..) (by rw [List.drop_zero,dB,List.take_of_length_le (by simp)]) (by rw [Zu];omega)
 rw [this,nM]
theorem bC {n:Int}:Hr tt.get 24 (.int .i64 n)=some (.iface 24 (.int .i64 n)):=by simp [Hr,fH,XK]
theorem kL {c m:Int}:(∃n,some (A5.cells true 0 [.int .i64 c, .int .i64 m])=some (A5.cells true 0 [.int .i64 c, .int .i64 n]))=True:=eq_true ⟨m,rfl⟩
theorem sV:(List.replicate 8 ([.int .u64 0, .int .i64 0, .int .i64 0, .int .i64 0, .int .u32 0, .int .i64 0, .int .u64 0, .int .u64 0, .int .u64 0, .int .u64 0] :List Value)).flatten= [.int .u64 0, .int .i64 0, .int .i64 0, .int .i64 0, .int .u32 0, .int .i64 0, .int .u64 0, .int .u64 0, .int .u64 0, .int .u64 0, .int .u64 0, .int .i64 0, .int .i64 0, .int .i64 0, .int .u32 0, .int .i64 0, .int .u64 0, .int .u64 0, .int .u64 0, .int .u64 0, .int .u64 0, .int .i64 0, .int .i64 0, .int .i64 0, .int .u32 0, .int .i64 0, .int .u64 0, .int .u64 0, .int .u64 0, .int .u64 0, .int .u64 0, .int .i64 0, .int .i64 0, .int .i64 0, .int .u32 0, .int .i64 0, .int .u64 0, .int .u64 0, .int .u64 0, .int .u64 0, .int .u64 0, .int .i64 0, .int .i64 0, .int .i64 0, .int .u32 0, .int .i64 0, .int .u64 0, .int .u64 0, .int .u64 0, .int .u64 0, .int .u64 0, .int .i64 0, .int .i64 0, .int .i64 0, .int .u32 0, .int .i64 0, .int .u64 0, .int .u64 0, .int .u64 0, .int .u64 0, .int .u64 0, .int .i64 0, .int .i64 0, .int .i64 0, .int .u32 0, .int .i64 0, .int .u64 0, .int .u64 0, .int .u64 0, .int .u64 0, .int .u64 0, .int .i64 0, .int .i64 0, .int .i64 0, .int .u32 0, .int .i64 0, .int .u64 0, .int .u64 0, .int .u64 0, .int .u64 0]:=rfl
theorem mW:(List.replicate 3 ([.int .u64 0, .int .i64 0, .int .i64 0, .int .i64 0, .int .u32 0, .int .i64 0, .int .u64 0, .int .u64 0, .int .u64 0, .int .u64 0] :List Value)).flatten= [.int .u64 0, .int .i64 0, .int .i64 0, .int .i64 0, .int .u32 0, .int .i64 0, .int .u64 0, .int .u64 0, .int .u64 0, .int .u64 0, .int .u64 0, .int .i64 0, .int .i64 0, .int .i64 0, .int .u32 0, .int .i64 0, .int .u64 0, .int .u64 0, .int .u64 0, .int .u64 0, .int .u64 0, .int .i64 0, .int .i64 0, .int .i64 0, .int .u32 0, .int .i64 0, .int .u64 0, .int .u64 0, .int .u64 0, .int .u64 0]:=rfl
theorem bS {hp:Hp}{a:Option Addr}{n c:Nat}:DY tt.get hp 22 (.slice a n c)=(.int .i64 (n:Int),True):=by
 unfold DY;simp only [Bm,Fv,EY,Rs];rfl
theorem tZ {h:Hp}{b:Nat}:B0 tt.get (h.set b (some (.cells true 1 (E3 65537 (.int .u8 0))))) 60 9 (.slice (some ⟨b,0,none⟩) 65537 65537)=(.string ⟨⟨q7⟩⟩,True):=tY
theorem gu:(q7.length < 4294967281)=True:=eq_true (by rw [q7,List.length_replicate];decide)
def ag:BO:= .pure (fun args hp=>args= []∧B6 hp∧hp 0=some UF∧hp 7=gq) (fun _ _=> .bool true)
def bI:FuncId→BO:=Bd (Bd (Bd (Bd (Bd (Bd (Bd (Bd (Bd (Bd G0 11 EA) 12 CX) 14 Ej) 27 Ke) 13 HQ) 28 DE) 29 DM) 19 Hl) 20 KY) 9 Ea
theorem Qo:B9 Tryz.prog tt.get bI:=(((((((((E7.add WA).add Si).add Zj).add pd).add mL).add Yi).add VP).add nh).add rF).add bt
theorem Rm:bI 11=EA:=rfl
theorem Rc:bI 12=CX:=rfl
theorem Qh:bI 14=Ej:=rfl
theorem SZ:bI 27=Ke:=rfl
theorem RM:bI 13=HQ:=rfl
theorem RR:bI 28=DE:=rfl
theorem Q6:bI 29=DM:=rfl
theorem Sj:bI 19=Hl:=rfl
theorem RQ:bI 20=KY:=rfl
theorem Qy:bI 9=Ea:=rfl
def Ya (hp:Hp)(top:Nat)(i:Nat):SS:=⟨[(3, .slice (some ⟨top,0,none⟩) 13 13,true),(4, .int .i64 (i:Int),true)],hp.A0 [(top,Au Ah Sm)],top+1⟩
def Yb (hp:Hp)(top:Nat)(i:Nat):SS:=⟨[(17, .slice (some ⟨top,0,none⟩) 8 8,true),(18, .int .i64 (i:Int),true)],hp.A0 [(top,Au AU WL)],top+1⟩
theorem YT:BG Tryz.prog 8 ag:=by
 refine .HS TA (fun _ _ _=>rfl) ?_
 intro args hp hpre top hcl hsc
 obtain ⟨rfl,hv,ht,h7⟩:=hpre
 have ht0:=hcl.lt _ _ ht
 have hp1:=hv.1
 have ht1:=hcl.lt _ _ hp1
 have ht5:=My hcl hv
 have h70:=hcl.lt _ _ h7
 have hv6:∀ {h':Hp} {k:Nat} {o:Option A5},B6 (h'.set (top+k) o)=B6 h':=fun {h'} {k} {o}=>Cq (by omega)
 have hI:=YN fZ
 have hE:=FI (x:=kN)
 have hL:Kr kN= .tuple ⟨[.string ⟨⟨rW⟩⟩, .int .i64 0]⟩:=by unfold Kr;rw [YP,nf];rfl
 simp only [Cs,kN] at hI hE
 simp only [kN,rW] at hL
 refine Ab.BF BN TA rfl 192 rfl [.tmp 0] rfl (show 0≤192 by decide) ?_
 refine CW.vc Qo [0,1,2,3,4,6,7,8,9,10,12,14,16,17,18,19,20,21,22,34,39,58,123,142,150] (by kernel_rfl) ?_
 (repeat ((try refine Vc.mk' ?_);simp (maxSteps:=6000000) only [go_sem,reduceIte,reduceCtorEq,Nat.reduceAdd,Nat.reduceMul,Nat.reduceSub,Nat.reduceLT,Nat.reduceLeDiff,Nat.reduceEqDiff,Int.reduceEq,Int.reduceLT,Int.reduceLE,Int.reduceNe,Rm,Rc,Qh,SZ,RM,RR,Q6,Sj,RQ,Qy,EA,CX,Ej,Ke,HQ,DE,DM,Hl,KY,Ea,hv,ht,hp1,h7,BI ht0,BI ht1,BI h70,Cq ht5,hv6,VC,HD,FZ,hI,hE,hL,lE,GD,decide_true,Bool.not_true,Kl,Vr,Jq]))
 refine CW.Bx (Ya hp top) (fun i=>i≤13) (fun i=>13 - i) 0 (Nat.zero_le _) ((by refine A9.mk' [top] hcl (by simp) (by simp) rfl (AZ ?_) ?_ ?_ <;> simp [Ag,BJ,BH,Am,AP,AF,AJ.nil,AJ.cons,AB,AD,AM,AA,AQ,AX,AO,Ax.AL,AG,AV,AE,AH,AK.set,AK.Ao,AK.refl,Ya,mX])) ?_
 intro i hi
 by_cases hlt:i < 13
 ·have c1:((i:Int) < 13)=True:=eq_true (by omega)
  have kk:Ae .i64 ((i:Int)+1)=((i+1:Nat):Int):=by rw [wrap64 (by omega) (by omega)];omega
  have hN:Br Ah (hp.set top (Au Ah Sm)) (.slice (some ⟨top,0,none⟩) 13 13) Sm:=Br.own (E:=Ah) (b:=top) (l:=Sm) (by simp [Hp.set]) (by decide)
  have hiN:i < Sm.length:=hlt
  have e1:=lB hlt
  have e2:((at' Sm i).length < 4294967281)=True:=eq_true (ik hlt)
  have hF:∀ {h':Hp} {t:Nat},h' t=some (.cells true 0 [.int .i64 12, .int .i64 0])→Nt h' (.iface 84 (.pointer (some ⟨t,0,none⟩)))=True:=fun e=>eq_true (.inr ⟨_,12,0,rfl,e⟩)
  have hFn:∀ {h':Hp} {t:Nat},h' t=some (.cells true 0 [.int .i64 12, .int .i64 0])→TL h' t=0:=fun e=>JR (c:=12) (n:=0) e
  refine CW.vc Qo [0,1,2,3,4,6,7,8,9,10,12,14,16,17,18,19,20,21,22,34,39,58,123,142,150] (by kernel_rfl) ?_
  (repeat ((try refine Vc.mk' ?_);simp (maxSteps:=6000000) only [go_sem,reduceIte,reduceCtorEq,Nat.reduceAdd,Nat.reduceMul,Nat.reduceSub,Nat.reduceLT,Nat.reduceLeDiff,Nat.reduceEqDiff,Int.reduceEq,Int.reduceLT,Int.reduceLE,Int.reduceNe,Rm,Rc,Qh,SZ,RM,RR,Q6,Sj,RQ,Qy,EA,CX,Ej,Ke,HQ,DE,DM,Hl,KY,Ea,hv,ht,hp1,h7,BI ht0,BI ht1,BI h70,Cq ht5,hv6,VC,HD,FZ,Cx hN,Cf hN,Cm hN,DQ hN,DU hN,hN.P,hN.oc,hN.cl,hN.rd,hN.ref,Ya,show Sm.length=13 from rfl,show ((13:Nat):Int)=13 from rfl,hlt,hiN,c1,decide_true,e1,e2,hF,hFn,kL,bC,kk,Vr,Kl,Bool.not_true]))
  refine .mk (i+1) hlt (by omega) ((by refine A9.mk' [top] hcl (by simp) (by simp) rfl (AZ ?_) ?_ ?_ <;> simp [Ag,BJ,BH,Am,AP,AF,AJ.nil,AJ.cons,AB,AD,AM,AA,AQ,AX,AO,Ax.AL,AG,AV,AE,AH,AK.set,AK.Ao,AK.refl,Ya]))
 ·have hi2:i=13:=by omega
  subst hi2
  have hN:Br Ah (hp.set top (Au Ah Sm)) (.slice (some ⟨top,0,none⟩) 13 13) Sm:=Br.own (E:=Ah) (b:=top) (l:=Sm) (by simp [Hp.set]) (by decide)
  refine CW.vc Qo [0,1,2,3,4,6,7,8,9,10,12,14,16,17,18,19,20,21,22,34,39,58,123,142,150] (by kernel_rfl) ?_
  have hF:∀ {h':Hp} {t:Nat} {c n:Int},h' t=some (.cells true 0 [.int .i64 c, .int .i64 n])→Nt h' (.iface 84 (.pointer (some ⟨t,0,none⟩)))=True:=fun {h'} {t} {c} {n} e=>eq_true (.inr ⟨_,c,n,rfl,e⟩)
  have hF0:∀ {h':Hp} {t:Nat},h' t=some (.cells true 0 [.int .i64 12, .int .i64 0])→Nt h' (.iface 84 (.pointer (some ⟨t,0,none⟩)))=True:=hF
  have hF1:∀ {h':Hp} {t:Nat},h' t=some (.cells true 0 [.int .i64 12, .int .i64 1])→Nt h' (.iface 84 (.pointer (some ⟨t,0,none⟩)))=True:=hF
  have hF3:∀ {h':Hp} {t:Nat},h' t=some (.cells true 0 [.int .i64 3, .int .i64 0])→Nt h' (.iface 84 (.pointer (some ⟨t,0,none⟩)))=True:=hF
  have hN0:∀ {h':Hp} {t:Nat},h' t=some (.cells true 0 [.int .i64 12, .int .i64 0])→TL h' t=0:=fun e=>JR (c:=12) (n:=0) e
  have hN1:∀ {h':Hp} {t:Nat},h' t=some (.cells true 0 [.int .i64 12, .int .i64 1])→TL h' t=1:=fun e=>JR (c:=12) (n:=1) e
  have hN3:∀ {h':Hp} {t:Nat},h' t=some (.cells true 0 [.int .i64 3, .int .i64 0])→TL h' t=0:=fun e=>JR (c:=3) (n:=0) e
  (repeat ((try refine Vc.mk' ?_);simp (maxSteps:=6000000) only [go_sem,reduceIte,reduceCtorEq,Nat.reduceAdd,Nat.reduceMul,Nat.reduceSub,Nat.reduceLT,Nat.reduceLeDiff,Nat.reduceEqDiff,Int.reduceEq,Int.reduceLT,Int.reduceLE,Int.reduceNe,Rm,Rc,Qh,SZ,RM,RR,Q6,Sj,RQ,Qy,EA,CX,Ej,Ke,HQ,DE,DM,Hl,KY,Ea,hv,ht,hp1,h7,BI ht0,BI ht1,BI h70,Cq ht5,hv6,VC,HD,FZ,Cx hN,Cf hN,Cm hN,DQ hN,DU hN,hN.P,hN.oc,hN.cl,hN.rd,hN.ref,Ya,show Sm.length=13 from rfl,show ((13:Nat):Int)=13 from rfl,Int.lt_irrefl,decide_false,mc,lU,n9,lG,tZ,pq,gu,bS,show ((0:Nat):Int)=0 from rfl,show ((1:Nat):Int)=1 from rfl,bC,Jq,Kl,hF0,hF1,hF3,hN0,hN1,hN3,kL,sV,decide_true,Bool.not_true]))
  refine CW.Bx (Yb hp top) (fun i=>i≤8) (fun i=>8 - i) 0 (Nat.zero_le _) ((by refine A9.mk' [top+7] hcl (by simp) (by simp) rfl (AZ ?_) ?_ ?_ <;> simp [Ag,BJ,BH,Am,AP,AF,AJ.nil,AJ.cons,AB,AD,AM,AA,AQ,AX,AO,Ax.AL,AG,AV,AE,AH,AK.set,AK.Ao,AK.refl,Yb,mY])) ?_
  clear hF hF0 hF1 hF3 hN0 hN1 hN3 hN
  intro j hj
  have hB:Br AU (hp.set top (Au AU WL)) (.slice (some ⟨top,0,none⟩) 8 8) WL:=Br.own (E:=AU) (b:=top) (l:=WL) (by simp [Hp.set]) (by decide)
  by_cases hjl:j < 8
  ·have c1:((j:Int) < 8)=True:=eq_true (by omega)
   have kk:Ae .i64 ((j:Int)+1)=((j+1:Nat):Int):=by rw [wrap64 (by omega) (by omega)];omega
   have hjN:j < WL.length:=hjl
   have hJ:=YN (iu (fU hjN))
   have hE2:=FI (x:=at' WL j)
   simp only [Cs] at hJ hE2
   have e1:=mu hjl
   refine CW.vc Qo [0,1,2,3,4,6,7,8,9,10,12,14,16,17,18,19,20,21,22,34,39,58,123,142,150] (by kernel_rfl) ?_
   (repeat ((try refine Vc.mk' ?_);simp (maxSteps:=6000000) only [go_sem,reduceIte,reduceCtorEq,Nat.reduceAdd,Nat.reduceMul,Nat.reduceSub,Nat.reduceLT,Nat.reduceLeDiff,Nat.reduceEqDiff,Int.reduceEq,Int.reduceLT,Int.reduceLE,Int.reduceNe,Rm,Rc,Qh,SZ,RM,RR,Q6,Sj,RQ,Qy,EA,CX,Ej,Ke,HQ,DE,DM,Hl,KY,Ea,hv,ht,hp1,h7,BI ht0,BI ht1,BI h70,Cq ht5,hv6,VC,HD,FZ,Ck hB,Ci hB,DB hB,DD hB,DA hB,CN hB,CJ hB,CP hB,CL hB,CI hB,CO hB,CH hB,CM hB,CQ hB,CF hB,CG hB,CD hB,CK hB,hB.P,hB.oc,hB.cl,hB.rd,hB.ref,Yb,show WL.length=8 from rfl,show ((8:Nat):Int)=8 from rfl,hjl,hjN,c1,decide_true,hJ,hE2,e1,if_false,Bool.false_eq_true,Bool.not_true,kk]))
   refine .mk (j+1) hjl (by omega) ((by refine A9.mk' [top] hcl (by simp) (by simp) rfl (AZ ?_) ?_ ?_ <;> simp [Ag,BJ,BH,Am,AP,AF,AJ.nil,AJ.cons,AB,AD,AM,AA,AQ,AX,AO,Ax.AL,AG,AV,AE,AH,AK.set,AK.Ao,AK.refl,Yb]))
  ·have hj2:j=8:=by omega
   subst hj2
   have a1:∀ {h':Hp} {t:Nat},h' t=Au AU Qa→K3 AU h' (.slice (some ⟨t,0,none⟩) 3 3)=True:=fun {h'} {t} e=>eq_true ⟨Qa,Br.own (E:=AU) (b:=t) (l:=Qa) e (by decide)⟩
   have a2:∀ {h':Hp} {t:Nat},h' t=Au AU Qa→AU.rd h' (.slice (some ⟨t,0,none⟩) 3 3)=Qa:=fun {h'} {t} e=>(Br.own (E:=AU) (b:=t) (l:=Qa) e (by decide)).rd
   rw [me] at a1 a2
   have v1:∀ {t:Nat},cF t Qa= .slice (some ⟨t,0,none⟩) 2 3:=fun {t}=>by unfold cF;rw [Jh];rfl
   have l0:∀ {h':Hp} {t:Nat},h' t=XZ Qa→An tt.get h' 29 (.pointer (some ⟨t,0,none⟩))=(.int .u32 1,True):=fun e=>by
    have:=Ap (i:=0) e (by rw [Jr];simp [IG,Qa]) (by rw [Jr];simp [IG,Qa])
    rw [Uj (by rw [Jh];decide),Jh] at this
    exact this
   have l1:∀ {h':Hp} {t:Nat},h' t=XZ Qa→An tt.get h' 29 (.pointer (some ⟨t,1,none⟩))=(.int .u32 7,True):=fun e=>by
    have:=Ap (i:=1) e (by rw [Jr];simp [IG,Qa]) (by rw [Jr];simp [IG,Qa])
    rw [Uj (by rw [Jh];decide),Jh] at this
    exact this
   have lnR:∀ {h':Hp} {t:Nat},DY tt.get h' 51 (.slice (some ⟨t,0,none⟩) 2 3)=(.int .i64 2,True):=LN (by decide) (by decide)
   have x0:∀ {t:Nat},A1 tt.get 51 (.slice (some ⟨t,0,none⟩) 2 3) (.int .i64 0)=(.pointer (some ⟨t,0,none⟩),True):=fun {t}=>LL (b:=t) (o:=0) (m:=2) (c:=3) (i:=0) (by decide) (by decide) (by decide)
   have x1:∀ {t:Nat},A1 tt.get 51 (.slice (some ⟨t,0,none⟩) 2 3) (.int .i64 1)=(.pointer (some ⟨t,1,none⟩),True):=fun {t}=>LL (b:=t) (o:=0) (m:=2) (c:=3) (i:=1) (by decide) (by decide) (by decide)
   have hA3:(Qa.length≤1759218604390)=True:=eq_true (by decide)
   refine CW.vc Qo [0,1,2,3,4,6,7,8,9,10,12,14,16,17,18,19,20,21,22,34,39,58,123,142,150] (by kernel_rfl) ?_
   (repeat ((try refine Vc.mk' ?_);simp (maxSteps:=6000000) only [go_sem,reduceIte,reduceCtorEq,Nat.reduceAdd,Nat.reduceMul,Nat.reduceSub,Nat.reduceLT,Nat.reduceLeDiff,Nat.reduceEqDiff,Int.reduceEq,Int.reduceLT,Int.reduceLE,Int.reduceNe,Rm,Rc,Qh,SZ,RM,RR,Q6,Sj,RQ,Qy,EA,CX,Ej,Ke,HQ,DE,DM,Hl,KY,Ea,hv,ht,hp1,h7,BI ht0,BI ht1,BI h70,Cq ht5,hv6,VC,HD,FZ,Ck hB,Ci hB,DB hB,DD hB,DA hB,CN hB,CJ hB,CP hB,CL hB,CI hB,CO hB,CH hB,CM hB,CQ hB,CF hB,CG hB,CD hB,CK hB,hB.P,hB.oc,hB.cl,hB.rd,hB.ref,Yb,show WL.length=8 from rfl,show ((8:Nat):Int)=8 from rfl,Int.lt_irrefl,decide_false,mW,Dr,a1,a2,v1,l0,l1,lnR,x0,x1,hA3,mJ,nG,bS,show ((2:Nat):Int)=2 from rfl,show ((0:Nat):Int)=0 from rfl,List.length_cons,List.length_nil,decide_true,Bool.and_self]))
end Go.Proofs.YthpibnpeaidabaaGreatDoor.Dm
