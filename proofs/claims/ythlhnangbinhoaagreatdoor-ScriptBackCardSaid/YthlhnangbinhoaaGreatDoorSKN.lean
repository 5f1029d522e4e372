/- ScriptKnown, walked. -/
import Derived.Test.YthlhnangbinhoaaGreatDoorTFX
import Derived.KernelRfl
set_option linter.unusedSimpArgs false
set_option linter.unusedVariables false
namespace Go.Proofs.YthlhnangbinhoaaGreatDoor.Dm
open Go.Dm
set_option maxHeartbeats 64000000
set_option maxRecDepth 20000
def tB (x:(CR×List Aq) ⊕ (Int×Nat)):Option (Int×Nat):=match x with
 | .inl _=>none
 | .inr e=>some e
theorem cm {x:(CR×List Aq) ⊕ (Int×Nat)}{e:Int×Nat}(h:tB x=some e):x= .inr e:=by
 cases x with
 |inl _=>cases h
 |inr y=>cases h;rfl
def e8:List (List UInt8):= [[], [112,108,97,121,10], [119,111,114,108,100,32,56,32,52,32,50,32,49,10], [119,111,114,108,100,32,56,32,52,32,50,10,112,108,97,121,10], [119,111,114,108,100,32,56,32,52,32,50,32,49,10,108,105,110,107,32,49,32,50,32,53,10,114,111,117,116,101,114,32,49,32,49,10,112,108,97,121,10], [119,111,114,108,100,32,56,32,52,32,50,32,49,10,112,108,97,121,10,116,105,99,107,10], [119,111,114,108,100,32,56,32,52,32,50,32,49,10,119,111,114,108,100,32,56,32,52,32,50,32,49,10,112,108,97,121,10]]
def knW:List Nat:= [0,0,1,0,2,2,1]
def sx:List Int:= [0,0,1,0,2,2,1]
def Yg:List (List UInt8):= [[106,111,105,110,32,51,32,56], [116,105,99,107,32,48], [116,105,99,107,32,52,48,57,55], [114,97,119,32,49,32,50,32,48], [114,97,119,32,49,32,50], [115,101,110,100,32,49,32,48,32,52,50,57,52,57,54,55,50,57,54], [116,105,99,107,32,48,49], [], [116,105,99,107,32,57,32], [99,117,116,32,49], [99,114,97,115,104,32,48], [119,104,111,32,50,53,32,48], [114,97,119,32,49,32,50,32,70,70]]
theorem AAF {i:Nat}(h:i < 7):Md Fl (at' e8 i)= .inr (12,at' knW i):=by
 have:∀i:Fin 7,tB (Md Fl (at' e8 i.val))=some (12,at' knW i.val):=by decide +kernel
 exact cm (this ⟨i,h⟩)
theorem AAl {i:Nat}(h:i < 7):(at' e8 i).length < 4294967281:=by
 have:∀i:Fin 7,(at' e8 i.val).length < 4294967281:=by decide +kernel
 exact this ⟨i,h⟩
theorem zN {i:Nat}(h:i < 7):at' sx i=((at' knW i:Nat):Int):=by
 have:∀i:Fin 7,at' sx i.val=((at' knW i.val:Nat):Int):=by decide +kernel
 exact this ⟨i,h⟩
theorem ABO {i:Nat}(h:i < 13):(PV (at' Yg i)).isNone=true:=by
 have:∀i:Fin 13,(PV (at' Yg i.val)).isNone=true:=by decide +kernel
 exact this ⟨i,h⟩
theorem AAo {i:Nat}(h:i < 13):(at' Yg i).length < 4294967281:=by
 have:∀i:Fin 13,(at' Yg i.val).length < 4294967281:=by decide +kernel
 exact this ⟨i,h⟩
theorem vI {s:List UInt8}{t:Nat}(h:PV s=none):Nr s t=(.tuple ⟨[.agg ⟨[.int .i64 0, .int .i64 0, .int .i64 0, .int .i64 0, .int .u32 0, .int .i64 0, .string ⟨⟨[]⟩⟩]⟩,I1 t]⟩, [(t,I2 12 0)],t+1):=by unfold Nr;rw [h];rfl
theorem gz {c:Int}{n:Nat}{t:Nat}:sW (.inr (c,n)) t=(.tuple ⟨[.agg ⟨[.int .i64 0, .int .i64 0, .int .i64 0, .int .i64 0, .slice none 0 0, .slice none 0 0, .slice none 0 0, .slice none 0 0]⟩,I1 t]⟩, [(t,I2 c n)],t+1):=rfl
theorem xG:AE AH e8=some (.cells true 1 [.string ⟨⟨[]⟩⟩, .string ⟨⟨[112,108,97,121,10]⟩⟩, .string ⟨⟨[119,111,114,108,100,32,56,32,52,32,50,32,49,10]⟩⟩, .string ⟨⟨[119,111,114,108,100,32,56,32,52,32,50,10,112,108,97,121,10]⟩⟩, .string ⟨⟨[119,111,114,108,100,32,56,32,52,32,50,32,49,10,108,105,110,107,32,49,32,50,32,53,10,114,111,117,116,101,114,32,49,32,49,10,112,108,97,121,10]⟩⟩, .string ⟨⟨[119,111,114,108,100,32,56,32,52,32,50,32,49,10,112,108,97,121,10,116,105,99,107,10]⟩⟩, .string ⟨⟨[119,111,114,108,100,32,56,32,52,32,50,32,49,10,119,111,114,108,100,32,56,32,52,32,50,32,49,10,112,108,97,121,10]⟩⟩]):=rfl
theorem xO:AE AH Yg=some (.cells true 1 [.string ⟨⟨[106,111,105,110,32,51,32,56]⟩⟩, .string ⟨⟨[116,105,99,107,32,48]⟩⟩, .string ⟨⟨[116,105,99,107,32,52,48,57,55]⟩⟩, .string ⟨⟨[114,97,119,32,49,32,50,32,48]⟩⟩, .string ⟨⟨[114,97,119,32,49,32,50]⟩⟩, .string ⟨⟨[115,101,110,100,32,49,32,48,32,52,50,57,52,57,54,55,50,57,54]⟩⟩, .string ⟨⟨[116,105,99,107,32,48,49]⟩⟩, .string ⟨⟨[]⟩⟩, .string ⟨⟨[116,105,99,107,32,57,32]⟩⟩, .string ⟨⟨[99,117,116,32,49]⟩⟩, .string ⟨⟨[99,114,97,115,104,32,48]⟩⟩, .string ⟨⟨[119,104,111,32,50,53,32,48]⟩⟩, .string ⟨⟨[114,97,119,32,49,32,50,32,70,70]⟩⟩]):=rfl
theorem wN:Gy (⟨10,0,0,0,0,4096, []⟩:Aq):=⟨by constructor <;> decide,by constructor <;> decide,by constructor <;> decide,by constructor <;> decide,by decide,by decide,by constructor <;> decide,by decide⟩
theorem yw:ZT (.agg ⟨[.int .i64 10, .int .i64 0, .int .i64 0, .int .i64 0, .int .u32 0, .int .i64 4096, .string ⟨⟨[]⟩⟩]⟩)=True:=Vy wN
theorem ABD:ig (QG (.agg ⟨[.int .i64 10, .int .i64 0, .int .i64 0, .int .i64 0, .int .u32 0, .int .i64 4096, .string ⟨⟨[]⟩⟩]⟩))= .tuple ⟨[.string ⟨⟨[115,101,116,116,108,101,32,52,48,57,54]⟩⟩, .int .i64 0]⟩:=by
 rw [show QG (.agg ⟨[.int .i64 10, .int .i64 0, .int .i64 0, .int .i64 0, .int .u32 0, .int .i64 4096, .string ⟨⟨[]⟩⟩]⟩)=(⟨10,0,0,0,0,4096, []⟩:Aq) from E8 (x:=(⟨10,0,0,0,0,4096, []⟩:Aq))]
 kernel_rfl
theorem uE:Gy (⟨0,0,0,0,0,0, []⟩:Aq):=⟨by constructor <;> decide,by constructor <;> decide,by constructor <;> decide,by constructor <;> decide,by decide,by decide,by constructor <;> decide,by decide⟩
theorem zh:ZT (.agg ⟨[.int .i64 0, .int .i64 0, .int .i64 0, .int .i64 0, .int .u32 0, .int .i64 0, .string ⟨⟨[]⟩⟩]⟩)=True:=Vy uE
theorem AAY:ig (QG (.agg ⟨[.int .i64 0, .int .i64 0, .int .i64 0, .int .i64 0, .int .u32 0, .int .i64 0, .string ⟨⟨[]⟩⟩]⟩))= .tuple ⟨[.string ⟨⟨[]⟩⟩, .int .i64 2]⟩:=by
 rw [show QG (.agg ⟨[.int .i64 0, .int .i64 0, .int .i64 0, .int .i64 0, .int .u32 0, .int .i64 0, .string ⟨⟨[]⟩⟩]⟩)=(⟨0,0,0,0,0,0, []⟩:Aq) from E8 (x:=(⟨0,0,0,0,0,0, []⟩:Aq))]
 kernel_rfl
theorem vt:Gy (⟨1,1,0,0,0,1, []⟩:Aq):=⟨by constructor <;> decide,by constructor <;> decide,by constructor <;> decide,by constructor <;> decide,by decide,by decide,by constructor <;> decide,by decide⟩
theorem zQ:ZT (.agg ⟨[.int .i64 1, .int .i64 1, .int .i64 0, .int .i64 0, .int .u32 0, .int .i64 1, .string ⟨⟨[]⟩⟩]⟩)=True:=Vy vt
theorem zz:ig (QG (.agg ⟨[.int .i64 1, .int .i64 1, .int .i64 0, .int .i64 0, .int .u32 0, .int .i64 1, .string ⟨⟨[]⟩⟩]⟩))= .tuple ⟨[.string ⟨⟨[]⟩⟩, .int .i64 2]⟩:=by
 rw [show QG (.agg ⟨[.int .i64 1, .int .i64 1, .int .i64 0, .int .i64 0, .int .u32 0, .int .i64 1, .string ⟨⟨[]⟩⟩]⟩)=(⟨1,1,0,0,0,1, []⟩:Aq) from E8 (x:=(⟨1,1,0,0,0,1, []⟩:Aq))]
 kernel_rfl
theorem wq:Gy (⟨2,1,25,0,0,0, []⟩:Aq):=⟨by constructor <;> decide,by constructor <;> decide,by constructor <;> decide,by constructor <;> decide,by decide,by decide,by constructor <;> decide,by decide⟩
theorem zA:ZT (.agg ⟨[.int .i64 2, .int .i64 1, .int .i64 25, .int .i64 0, .int .u32 0, .int .i64 0, .string ⟨⟨[]⟩⟩]⟩)=True:=Vy wq
theorem AAn:ig (QG (.agg ⟨[.int .i64 2, .int .i64 1, .int .i64 25, .int .i64 0, .int .u32 0, .int .i64 0, .string ⟨⟨[]⟩⟩]⟩))= .tuple ⟨[.string ⟨⟨[]⟩⟩, .int .i64 2]⟩:=by
 rw [show QG (.agg ⟨[.int .i64 2, .int .i64 1, .int .i64 25, .int .i64 0, .int .u32 0, .int .i64 0, .string ⟨⟨[]⟩⟩]⟩)=(⟨2,1,25,0,0,0, []⟩:Aq) from E8 (x:=(⟨2,1,25,0,0,0, []⟩:Aq))]
 kernel_rfl
theorem ADT:PV [114,97,119,32,49,32,50,32,45] = some (⟨9,1,2,0,0,0, []⟩:Aq):=by kernel_rfl
theorem ADC {t:Nat}:Nr [114,97,119,32,49,32,50,32,45] t=(.tuple ⟨[.agg ⟨[.int .i64 9, .int .i64 1, .int .i64 2, .int .i64 0, .int .u32 0, .int .i64 0, .string ⟨⟨[]⟩⟩]⟩, .nilIface]⟩, [],t):=by unfold Nr;rw [ADT];rfl
theorem AC6:PV [114,97,119,32,49,32,50,32,48,48,102,102] = some (⟨9,1,2,0,0,0, [0,255]⟩:Aq):=by kernel_rfl
theorem ACt {t:Nat}:Nr [114,97,119,32,49,32,50,32,48,48,102,102] t=(.tuple ⟨[.agg ⟨[.int .i64 9, .int .i64 1, .int .i64 2, .int .i64 0, .int .u32 0, .int .i64 0, .string ⟨⟨[0,255]⟩⟩]⟩, .nilIface]⟩, [],t):=by unfold Nr;rw [AC6];rfl
def yd:List UInt8:=List.replicate 65537 0
theorem zu {t:Nat}:sW (Md Fl yd) t=(.tuple ⟨[.agg ⟨[.int .i64 0, .int .i64 0, .int .i64 0, .int .i64 0, .slice none 0 0, .slice none 0 0, .slice none 0 0, .slice none 0 0]⟩,I1 t]⟩, [(t,I2 3 0)],t+1):=by
 rw [show Md Fl yd= .inr (3,0) from by unfold Md;rw [if_pos (by rw [yd,List.length_replicate];decide)]]
 rfl
theorem xE {n:Nat}:bytesOf (List.replicate n 0)=List.replicate n 0:=by simp [bytesOf]
theorem cvN {h:Hp}{b n:Nat}:DJ tt.get (h.set b (some (.cells true 1 (Dp n (.int .u8 0))))) 69 9 (.slice (some ⟨b,0,none⟩) n n)=(.string ⟨⟨List.replicate n 0⟩⟩,True):=by
 have:=KV (hp:=h.set b (some (.cells true 1 (Dp n (.int .u8 0))))) (o:=0) (n:=n) (c:=n) (l:=List.replicate n 0) Gd Nk Ic (AF ..) (by rw [List.drop_zero,Qq,List.take_of_length_le (by simp)]) (by rw [X1];omega)
 rw [this,xE]
theorem cvZ {h:Hp}{b:Nat}:DJ tt.get (h.set b (some (.cells true 1 (Dp 65537 (.int .u8 0))))) 69 9 (.slice (some ⟨b,0,none⟩) 65537 65537)=(.string ⟨⟨yd⟩⟩,True):=cvN
theorem pB:(yd.length < 4294967281)=True:=eq_true (by rw [yd,List.length_replicate];decide)
theorem tu {v:Value}:Dp 7 v= [v,v,v,v,v,v,v]:=rfl
theorem vF {v:Value}:Dp 13 v= [v,v,v,v,v,v,v,v,v,v,v,v,v]:=rfl
theorem gp {hp:Hp}{a:Option Addr}{n c:Nat}:CQ tt.get hp 67 (.slice a n c)=(.int .i64 (n:Int),True):=by
 unfold CQ;simp only [CY,Eb,GM,Xz];rfl
theorem ADV {xo yo:Operand}:Dn tt.get .neq 43 xo yo (.agg ⟨[.int .i64 9, .int .i64 1, .int .i64 2, .int .i64 0, .int .u32 0, .int .i64 0, .string ⟨⟨[]⟩⟩]⟩) (.agg ⟨[.int .i64 9, .int .i64 1, .int .i64 2, .int .i64 0, .int .u32 0, .int .i64 0, .string ⟨⟨[]⟩⟩]⟩)=(.bool false,True):=by
 have h:Dn tt.get .neq 43 xo yo (.agg ⟨[.int .i64 9, .int .i64 1, .int .i64 2, .int .i64 0, .int .u32 0, .int .i64 0, .string ⟨⟨[]⟩⟩]⟩) (.agg ⟨[.int .i64 9, .int .i64 1, .int .i64 2, .int .i64 0, .int .u32 0, .int .i64 0, .string ⟨⟨[]⟩⟩]⟩)=Ln (Di tt.get .neq 43 xo yo (.agg ⟨[.int .i64 9, .int .i64 1, .int .i64 2, .int .i64 0, .int .u32 0, .int .i64 0, .string ⟨⟨[]⟩⟩]⟩) (.agg ⟨[.int .i64 9, .int .i64 1, .int .i64 2, .int .i64 0, .int .u32 0, .int .i64 0, .string ⟨⟨[]⟩⟩]⟩)):=by
  unfold Dn;rw [NL];unfold Rd;rw [show kindOf tt.get 43=_ from rfl];rfl
 have h3:LC tt.get 64 43 (.agg ⟨[.int .i64 9, .int .i64 1, .int .i64 2, .int .i64 0, .int .u32 0, .int .i64 0, .string ⟨⟨[]⟩⟩]⟩) (.agg ⟨[.int .i64 9, .int .i64 1, .int .i64 2, .int .i64 0, .int .u32 0, .int .i64 0, .string ⟨⟨[]⟩⟩]⟩)=some true:=by kernel_rfl
 rw [h]
 have h2:Di tt.get .neq 43 xo yo (.agg ⟨[.int .i64 9, .int .i64 1, .int .i64 2, .int .i64 0, .int .u32 0, .int .i64 0, .string ⟨⟨[]⟩⟩]⟩) (.agg ⟨[.int .i64 9, .int .i64 1, .int .i64 2, .int .i64 0, .int .u32 0, .int .i64 0, .string ⟨⟨[]⟩⟩]⟩)=some (.bool false):=by
  simp only [Di,NL,S8,h3];rfl
 rw [h2];rfl
theorem RD {c m:Int}:(∃n,some (BI.cells true 0 [.int .i64 c, .int .i64 m])=some (BI.cells true 0 [.int .i64 c, .int .i64 n]))=True:=eq_true ⟨m,rfl⟩
theorem Y2 {a:Option Addr}:JP tt.get 53 (.pointer a)=some (.iface 53 (.pointer a)):=by simp [JP,Sk,di]
theorem Y8 {z:Nat}{x:Value}:(∃v,some (BI.cells true z [x])=some (BI.cells true z [v]))=True:=eq_true ⟨_,rfl⟩
def mf:Bz:= .pure (fun args hp=>args= []∧Cp hp∧hp 7=dn) (fun _ _=> .bool true)
def mu (hp:Hp)(top:Nat)(i:Nat):SS:=⟨[(23, .slice (some ⟨top,0,none⟩) 7 7,true),(24, .int .i64 7,true),(25, .int .i64 (i:Int),true)],hp.A6 [(top,AE AH e8)],top+1⟩
def kW (hp:Hp)(top:Nat)(i:Nat):SS:=⟨[(63, .slice (some ⟨top,0,none⟩) 13 13,true),(64, .int .i64 13,true),(65, .int .i64 (i:Int),true)],hp.A6 [(top,AE AH Yg)],top+1⟩
theorem mX:BR Tryz.prog 8 mf:=by
 refine .LN ZY (fun _ _ _=>rfl) ?_
 intro args hp hpre top hcl hsc
 obtain ⟨rfl,hv,h7⟩:=hpre
 have hp1:=hv.1
 have ht1:=hcl.lt _ _ hp1
 have ht5:=FE hcl hv
 have h70:=hcl.lt _ _ h7
 have hv6:∀ {h':Hp} {k:Nat} {o:Option BI},Cp (h'.set (top+k) o)=Cp h':=fun {h'} {k} {o}=>AO (by omega)
 refine Ae.Bn Bu ZY rfl 155 rfl [.tmp 0] rfl (show 0≤155 by decide) ?_
 refine CW.vc Ep [0,1,2,4,5,6,8,10,11,12,13,14,15,16,18,20,22,23,24,25,26,61,63,64,65,66,77,115] (by kernel_rfl) ?_
 (repeat ((try refine Vc.mk' ?_);simp (maxSteps:=6000000) only [go_sem,tu,gp,show ((7:Nat):Int)=7 from rfl]))
 refine CW.D9 (mu hp top) (fun i=>i≤7) (fun i=>7 - i) 0 (Nat.zero_le _) ?_ ?_
 ·exact (by refine Bj.mk' [top] hcl (by simp) (by simp) rfl (Ac ?_) ?_ ?_ <;> simp [mu,xG])
 intro i hi
 by_cases hlt:i < 7
 ·have c1:((i:Int) < 7)=True:=eq_true (by omega)
  have kk:Ar .i64 ((i:Int)+1)=((i+1:Nat):Int):=by rw [wrap64 (by omega) (by omega)];omega
  have hN:BJ AH (hp.set top (AE AH e8)) (.slice (some ⟨top,0,none⟩) 7 7) e8:=BJ.own (E:=AH) (b:=top) (l:=e8) (by simp [Hp.set]) (by decide)
  have hiN:i < e8.length:=hlt
  have e1:=AAF hlt
  have e2:((at' e8 i).length < 4294967281)=True:=eq_true (AAl hlt)
  have e3:=zN hlt
  have hI:∀ {h':Hp} {t:Nat},h' t=some (.cells true 1 [.int .i64 0, .int .i64 0, .int .i64 1, .int .i64 0, .int .i64 2, .int .i64 2, .int .i64 1])→BJ Ad h' (.slice (some ⟨t,0,none⟩) 7 7) sx:=fun {h'} {t} e=>BJ.own (E:=Ad) (b:=t) (l:=sx) e (by decide)
  have ixI:∀ {t:Nat},Ak tt.get 68 (.slice (some ⟨t,0,none⟩) 7 7) (.int .i64 (i:Int))=(Ag (.slice (some ⟨t,0,none⟩) 7 7) (i * 1),True):=fun {t}=>by
   have h0:BJ Ad (fun j=>if j=t then AE Ad sx else none) (.slice (some ⟨t,0,none⟩) 7 7) sx:=BJ.own (E:=Ad) (b:=t) (l:=sx) (by simp) (by decide)
   have:=Cg h0 (k:= .i64) (n:=(i:Int)) (by omega) (by show (i:Int) < 7;omega)
   simpa using this
  have ldI:∀ {h':Hp} {t:Nat},h' t=some (.cells true 1 [.int .i64 0, .int .i64 0, .int .i64 1, .int .i64 0, .int .i64 2, .int .i64 2, .int .i64 1])→BA tt.get h' 3 (Ag (.slice (some ⟨t,0,none⟩) 7 7) (i * 1))=(.int .i64 (at' sx i),True):=fun e=>DD (hI e) (by show i < 7;exact hlt)
  refine CW.vc Ep [0,1,2,4,5,6,8,10,11,12,13,14,15,16,18,20,22,23,24,25,26,61,63,64,65,66,77,115] (by kernel_rfl) ?_
  (repeat ((try refine Vc.mk' ?_);simp (maxSteps:=6000000) only [go_sem,Vl,VE,Vp,WM,WG,Ve,JA,I6,Dw,Hu,Ik,Hj,hv,hp1,h7,AG ht1,AG h70,AO ht5,AP ht5,hv6,I1,I2,AU,C4 hN,CS hN,Cf hN,D5 hN,DI hN,hN.P,hN.oc,hN.cl,hN.rd,hN.ref,mu,show e8.length=7 from rfl,show ((7:Nat):Int)=7 from rfl,hlt,hiN,c1,decide_true,e1,e2,e3,gz,ixI,ldI,tu,Y2,Y8,W2,RD,Lh,kk,XS,OD,Bool.not_true]))
  refine .mk (i+1) hlt (by omega) ((by refine Bj.mk' [top] hcl (by simp) (by simp) rfl (Ac ?_) ?_ ?_ <;> simp [mu]))
 have hi2:i=7:=by omega
 subst hi2
 refine CW.vc Ep [0,1,2,4,5,6,8,10,11,12,13,14,15,16,18,20,22,23,24,25,26,61,63,64,65,66,77,115] (by kernel_rfl) ?_
 (repeat ((try refine Vc.mk' ?_);simp (maxSteps:=6000000) only [go_sem,mu,show ((7:Nat):Int)=7 from rfl,Int.lt_irrefl,decide_false,vF,gp,show ((13:Nat):Int)=13 from rfl]))
 refine CW.D9 (kW hp top) (fun i=>i≤13) (fun i=>13 - i) 0 (Nat.zero_le _) ?_ ?_
 ·exact (by refine Bj.mk' [top+1] hcl (by simp) (by simp) rfl (Ac ?_) ?_ ?_ <;> simp [kW,xO])
 intro i hi
 by_cases hlt:i < 13
 ·have c1:((i:Int) < 13)=True:=eq_true (by omega)
  have kk:Ar .i64 ((i:Int)+1)=((i+1:Nat):Int):=by rw [wrap64 (by omega) (by omega)];omega
  have hN:BJ AH (hp.set top (AE AH Yg)) (.slice (some ⟨top,0,none⟩) 13 13) Yg:=BJ.own (E:=AH) (b:=top) (l:=Yg) (by simp [Hp.set]) (by decide)
  have hiN:i < Yg.length:=hlt
  have hn:PV (at' Yg i)=none:=by
   have:=ABO hlt
   cases h:PV (at' Yg i) with
   |none=>rfl
   |some o=>rw [h] at this;cases this
  have e1:∀ {t:Nat},Nr (at' Yg i) t=_:=fun {t}=>vI (t:=t) hn
  have e2:((at' Yg i).length < 4294967281)=True:=eq_true (AAo hlt)
  refine CW.vc Ep [0,1,2,4,5,6,8,10,11,12,13,14,15,16,18,20,22,23,24,25,26,61,63,64,65,66,77,115] (by kernel_rfl) ?_
  (repeat ((try refine Vc.mk' ?_);simp (maxSteps:=6000000) only [go_sem,Vl,VE,Vp,WM,WG,Ve,JA,I6,Dw,Hu,Ik,Hj,hv,hp1,h7,AG ht1,AG h70,AO ht5,AP ht5,hv6,I1,I2,AU,C4 hN,CS hN,Cf hN,D5 hN,DI hN,hN.P,hN.oc,hN.cl,hN.rd,hN.ref,kW,show Yg.length=13 from rfl,show ((13:Nat):Int)=13 from rfl,hlt,hiN,c1,decide_true,e1,e2,W2,RD,Lh,kk,XS,OD,Bool.not_true]))
  refine .mk (i+1) hlt (by omega) ((by refine Bj.mk' [top] hcl (by simp) (by simp) rfl (Ac ?_) ?_ ?_ <;> simp [kW]))
 have hi2:i=13:=by omega
 subst hi2
 refine CW.vc Ep [0,1,2,4,5,6,8,10,11,12,13,14,15,16,18,20,22,23,24,25,26,61,63,64,65,66,77,115] (by kernel_rfl) ?_
 (repeat ((try refine Vc.mk' ?_);simp (maxSteps:=6000000) only [go_sem,Vl,VE,Vp,WM,WG,Ve,JA,I6,Dw,Hu,Ik,Hj,hv,hp1,h7,AG ht1,AG h70,AO ht5,AP ht5,hv6,I1,I2,AU,kW,show ((13:Nat):Int)=13 from rfl,Int.lt_irrefl,decide_false,yw,ABD,zh,AAY,zQ,zz,zA,AAn,ADC,ACt,cvZ,zu,pB,W2,RD,ADV,Lh,T9,OD,OE,decide_true]))
end Go.Proofs.YthlhnangbinhoaaGreatDoor.Dm
