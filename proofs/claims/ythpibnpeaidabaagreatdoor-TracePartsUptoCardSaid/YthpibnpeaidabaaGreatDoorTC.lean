/- Check, Line. -/
import Derived.Test.YthpibnpeaidabaaGreatDoorTS
set_option linter.unusedVariables false
namespace Go.Proofs.YthpibnpeaidabaaGreatDoor.Dm
open Go.Dm
set_option maxHeartbeats 16000000
set_option maxRecDepth 20000
def ch (n:Int):Bool:=decide (1≤n) && decide (n≤24)
def pV (k:Int):Bool:=decide (k=2) || decide (k=3) || decide (k=7) || decide (k=8)
def VN (x:AM):AV:=⟨x.Dr,x.Dw,x.Dt,x.Dq⟩
def nB (x:AM):Int:=XU (VN x) 4
/-- may an event be? -/
def Wg (x:AM):Bool:=decide (x.At≤1099511627776) && (decide (1≤x.Kind) && (decide (x.Kind≤8) && (ch x.Bw && (decide (0≤x.Set) && (decide (x.Set < 128) && (!decide (nB x=0) && (!(decide (x.Kind=4) && decide (1 < nB x)) && (if pV x.Kind then ch x.DY && !decide (x.DY=x.Bw) else decide (x.DY=0)))))))))
structure Mj (x:AM):Prop where
 pn:0≤x.At
 vq:x.At < 18446744073709551616
 rO:0≤x.Id
 tc:x.Id < 4294967296
 b:Fw (VN x)
def dP (v:Value):Prop:= ∃x,v= .agg ⟨AE.enc x⟩∧Mj x
def ey (v:Value):AM:=AE.dec (DD v)
theorem G9 {x:AM}:ey (.agg ⟨AE.enc x⟩)=x:=AE.h x
theorem nU {x:AM}(h:Mj x):dP (.agg ⟨AE.enc x⟩)=True:=eq_true ⟨x,rfl,h⟩
theorem Ut {x:AM}(h:Mj x):Jm (.agg ⟨[.int .u64 x.Dr, .int .u64 x.Dw, .int .u64 x.Dt, .int .u64 x.Dq]⟩)=True:=eq_true ⟨VN x,rfl,h.b⟩
theorem UA {x:AM}:pW (.agg ⟨[.int .u64 x.Dr, .int .u64 x.Dw, .int .u64 x.Dt, .int .u64 x.Dq]⟩)=VN x:=rfl
def vh:FuncId→BB:=Bj (Bj (Bj (Bj (Bj mS 42 Eg) 33 JT) 38 Gx) 43 Zz) 41 IB
theorem YV:B7 Tryz.prog tt.get vh:=((((Hz.add bP).add oS).add XE).add bG).add oX
def J0 (f:Int→Bool):BB:= .pure (fun args _=>match args with | [x]=>Fx .i64 x | _=>False) (fun args _=>match args with | [x]=> .bool (f (intOf x)) | _=>undef)
theorem XB:A4 Tryz.prog 55 (J0 ch):=by
 refine .mkPure OU ?_
 intro args hp hpre top
 match args,hpre with
 | [x],hx=>
 rw [hx]
 refine AK.A5 BC OU rfl 9 rfl [.tmp 2] rfl (show 1≤9 by decide) ?_
 refine CW.vc YV [0,2] (by kernel_rfl) ?_
 (repeat ((try refine Vc.mk' ?_);simp only [go_sem]))
 refine PX ?_
 simp [ch];try omega
theorem Tp:A4 Tryz.prog 57 (J0 pV):=by
 refine .mkPure PA ?_
 intro args hp hpre top
 match args,hpre with
 | [x],hx=>
 rw [hx]
 refine AK.A5 BC PA rfl 17 rfl [.tmp 2] rfl (show 1≤17 by decide) ?_
 refine CW.vc YV [0,2] (by kernel_rfl) ?_
 (repeat ((try refine Vc.mk' ?_);simp only [go_sem]))
 refine PX ?_
 simp [pV]
def r8:FuncId→BB:=Bj (Bj (Bj vh 55 (J0 ch)) 57 (J0 pV)) 56 HD
theorem cO:B7 Tryz.prog tt.get r8:=((YV.add XB).add Tp).add QT
theorem sO:r8 55=J0 ch:=rfl
theorem kX:r8 57=J0 pV:=rfl
theorem rD:r8 56=HD:=rfl
def FT:BB:= .pure (fun args _=>match args with | [v]=>dP v | _=>False) (fun args _=>match args with | [v]=> .int .i64 (if Wg (ey v) then 0 else 2) | _=>undef)
theorem np:A4 Tryz.prog 28 FT:=by
 refine .Hg NW ?_ ?_
 ·rintro args hp h
  match args,h with
  | [_],⟨x,rfl,_⟩=>rfl
 intro args hp hpre top hcl hsc
 match args,hpre with
 | [_],⟨x,rfl,h⟩=>
 simp only [G9]
 have hb:=Ut h
 have ho:=UA (x:=x)
 have hn:XU (VN x) 4=nB x:=rfl
 refine AK.A5 BC NW rfl 64 rfl [.tmp 2] rfl (show 1≤64 by decide) ?_
 refine CW.vc cO [0,1,2,3,4,8] (by kernel_rfl) ?_
 repeat' first | refine Ms.mk (fun _=> ?_) (fun _=> ?_) | refine Vc.mk' ?_ | simp only [go_sem,Nat.reduceAdd,Nat.reduceLT,sO,kX,rD,J0,HD,hb,ho,hn]
 all_goals try (refine ⟨fun a=>⟨a,fun b=>⟨a,b⟩⟩, ?_⟩)
 all_goals try repeat' first | refine Ms.mk (fun _=> ?_) (fun _=> ?_) | refine Vc.mk' ?_ | simp only [go_sem,Nat.reduceAdd,Nat.reduceLT,kX,J0]
 all_goals (unfold Wg;simp_all)
 all_goals (intros;first | omega | simp_all)
/-! ### words,Line -/
def DH:List (List UInt8):= [[], [115,101,110,100], [99,111,112,121], [103,111,116], [108,111,99,97,108], [108,111,115,116], [101,120,112,105,114,101,100], [100,111,117,98,108,101], [103,111,110,101]]
def F9:List Value:=DH.map fun w=> .string ⟨⟨w⟩⟩
def EK (k:Int):List UInt8:=(DH[k.toNat]?).getD []
def DW:BB:= .pure (fun args _=>args= []) (fun _ _=> .agg ⟨F9⟩)
theorem bM:A4 Tryz.prog 34 DW:=by
 refine .Hg PG (fun _ _ _=>rfl) ?_
 intro args hp hpre top hcl hsc
 subst hpre
 refine AK.A5 BC PG rfl 2 rfl [.cell 0 71] rfl (show 0≤2 by decide) ?_
 refine CW.vc cO [0] (by kernel_rfl) ?_
 (repeat ((try refine Vc.mk' ?_);simp only [go_sem,Nat.reduceAdd,Nat.reduceMul,Nat.reduceLeDiff]))
 rfl
def lk:FuncId→BB:=Bj (Bj (Bj r8 28 FT) 34 DW) 36 JF
theorem aI:B7 Tryz.prog tt.get lk:=((cO.add np).add bM).add Uu
theorem lq:lk 28=FT:=rfl
theorem sd:lk 34=DW:=rfl
theorem rl:lk 36=JF:=rfl
theorem tJ:lk 33=JT:=rfl
theorem qY:lk 35=C0:=rfl
theorem sH:lk 37=HU:=rfl
def Cj (x:AM):List (List UInt8):= [Lib.itoa x.At,EK x.Kind,Lib.itoa x.Bw,Lib.itoa x.DY,Lib.itoa x.Id,Lib.itoa x.Set,Ff (VN x)]
def Qa (x:AM):List UInt8:=if Wg x then Lib.join (Cj x) [32] else []
def M5 (x:AM):Value:= .tuple ⟨[.string ⟨⟨Qa x⟩⟩, .int .i64 (if Wg x then 0 else 2)]⟩
structure sD (x:AM):Prop where
 pn:x.At≤1099511627776
 k0:1≤x.Kind
 k1:x.Kind≤8
 r:ch x.Bw=true
 s0:0≤x.Set
 s1:x.Set < 128
 n:¬nB x=0
 l:x.Kind=4→nB x≤1
 p:if pV x.Kind then ch x.DY=true∧¬x.DY=x.Bw else x.DY=0
theorem okF {x:AM}:Wg x=true ↔ sD x:=by
 unfold Wg
 constructor
 ·intro h
  simp only [Bool.and_eq_true,decide_eq_true_eq,Bool.not_eq_true',decide_eq_false_iff_not] at h
  obtain ⟨h1,h2,h3,h4,h5,h6,h7,h8,h9⟩:=h
  refine ⟨h1,h2,h3,h4,h5,h6,h7,fun e=> ?_, ?_⟩
  ·simp only [e,decide_true,Bool.true_and,decide_eq_false_iff_not] at h8;omega
  ·split at h9
   ·rename_i hb;rw [if_pos hb];simpa using h9
   ·rename_i hb;rw [if_neg hb];simpa using h9
 ·rintro ⟨h1,h2,h3,h4,h5,h6,h7,h8,h9⟩
  simp only [Bool.and_eq_true,decide_eq_true_eq,Bool.not_eq_true',decide_eq_false_iff_not]
  refine ⟨h1,h2,h3,h4,h5,h6,h7, ?_, ?_⟩
  ·by_cases e:x.Kind=4
   ·have:=h8 e;simp [e];omega
   ·simp [e]
  ·split at h9
   ·rename_i hb;rw [if_pos hb];simpa using h9
   ·rename_i hb;rw [if_neg hb];simpa using h9
theorem JP {n:Int}:ch n=true ↔ 1≤n∧n≤24:=by simp [ch]
theorem sD.peer {x:AM}(h:sD x):0≤x.DY∧x.DY≤24:=by
 have:=h.p
 split at this
 ·have:=JP.1 this.1;omega
 ·omega
theorem W7 (k:Int):(EK k).length≤7:=by
 unfold EK
 have:∀i:Nat,((DH[i]?).getD []).length≤7:=by
  intro i
  by_cases h:i < 9
  ·have:∀j:Fin 9,((DH[j.val]?).getD []).length≤7:=by decide
   exact this ⟨i,h⟩
  ·rw [List.getElem?_eq_none (by show 9≤i;omega)];decide
 exact this _
theorem Wt {k:Int}(h0:0≤k)(h1:k≤8):(F9[k.toNat]?).getD undef= .string ⟨⟨EK k⟩⟩:=by
 obtain ⟨i,rfl⟩:=Int.eq_ofNat_of_zero_le h0
 have hi:i < 9:=by omega
 rw [Int.toNat_natCast]
 unfold EK F9
 rw [Int.toNat_natCast,List.getElem?_map]
 have:i < DH.length:=hi
 rw [List.getElem?_eq_getElem this];rfl
theorem Yo {x:AM}(h:Mj x)(hF:sD x):(Lib.join (Cj x) [32]).length≤2000:=by
 have r1:=JP.1 hF.r
 have p1:=hF.peer
 have l1:=Lib.itoa_length_le x.At (by have:=h.pn;omega) (by have:=hF.pn;omega)
 have l2:=W7 x.Kind
 have l3:=Lib.itoa_length_le x.Bw (by omega) (by omega)
 have l4:=Lib.itoa_length_le x.DY (by omega) (by omega)
 have l5:=Lib.itoa_length_le x.Id (by have:=h.rO;omega) (by have:=h.tc;omega)
 have l6:=Lib.itoa_length_le x.Set (by have:=hF.s0;omega) (by have:=hF.s1;omega)
 have l7:(Ff (VN x)).length≤1024:=by rw [Kp h.b];exact Zf
 unfold Cj
 rw [Lib.join_cons]
 simp only [Lib.joinTail,List.map_cons,List.map_nil,List.flatten_cons,List.flatten_nil,List.length_append,List.length_cons,List.length_nil]
 omega
theorem Vi {x:AM}{h':Hp}{b:Nat}(e:h' b=some (.cells true 1 [.string ⟨⟨Lib.itoa x.At⟩⟩, .string ⟨⟨EK x.Kind⟩⟩, .string ⟨⟨Lib.itoa x.Bw⟩⟩, .string ⟨⟨Lib.itoa x.DY⟩⟩, .string ⟨⟨Lib.itoa x.Id⟩⟩, .string ⟨⟨Lib.itoa x.Set⟩⟩, .string ⟨⟨Ff (VN x)⟩⟩])):BQ AR h' (.slice (some ⟨b,0,none⟩) 7 7) (Cj x):= .own (l:=Cj x) e (by show 7≤_;decide)
def Kd:BB:= .pure (fun args hp=>match args with | [v]=>dP v∧hp 0=some Wj∧hp 1=some TT | _=>False) (fun args _=>match args with | [v]=>M5 (ey v) | _=>undef)
theorem dX:A4 Tryz.prog 11 Kd:=by
 refine .Hg O9 ?_ ?_
 ·rintro args hp h
  match args,h with
  | [_],⟨⟨x,rfl,_⟩,_⟩=>rfl
 intro args hp hpre top hcl hsc
 match args,hpre with
 | [_],⟨⟨x,rfl,h⟩,ht,hp1⟩=>
 simp only [G9]
 have ht0:=hcl.lt _ _ ht
 have ht1:=hcl.lt _ _ hp1
 have hI:=nU h
 have hE:=G9 (x:=x)
 simp only [Gz] at hI hE
 have hb:=Ut h
 have ho:=UA (x:=x)
 refine AK.A5 BC O9 rfl 34 rfl [.tmp 2, .tmp 3] rfl (show 1≤34 by decide) ?_
 by_cases c:Wg x=true
 case neg=>
  have e:M5 x= .tuple ⟨[.string ⟨⟨[]⟩⟩, .int .i64 2]⟩:=by unfold M5 Qa;rw [if_neg c,if_neg c]
  rw [e]
  have c':Wg x=false:=by simpa using c
  refine CW.vc aI [0,1,2,3,4,7] (by kernel_rfl) ?_
  (repeat ((try refine Vc.mk' ?_);simp only [go_sem,Nat.reduceAdd,Int.reduceEq,lq,FT,hI,hE,c']))
 have F:=okF.1 c
 have r1:=JP.1 F.r
 have p1:=F.peer
 have u1:SL x.At=True:=eq_true ⟨h.pn,h.vq⟩
 have u2:SL x.Id=True:=eq_true ⟨h.rO,by have:=h.tc;omega⟩
 have w2:AL .u64 x.Id=x.Id:=wrap_u64 h.rO (by have:=h.tc;omega)
 have k0:0≤x.Kind:=by have:=F.k0;omega
 have kk:=Wt k0 F.k1
 have k9:x.Kind < 9:=by have:=F.k1;omega
 have k9n:x.Kind.toNat < 9:=by omega
 have kw:F9.length=9:=rfl
 have k9c:x.Kind < ((9:Nat):Int):=by omega
 have q1:0≤x.Bw:=by omega
 have q2:x.Bw≤9223372036854775807:=by omega
 have q3:0≤x.DY:=p1.1
 have q4:x.DY≤9223372036854775807:=by omega
 have q5:=F.s0
 have q6:x.Set≤9223372036854775807:=by have:=F.s1;omega
 refine CW.vc aI [0,1,2,3,4,7] (by kernel_rfl) ?_
 (repeat ((try refine Vc.mk' ?_);simp only [go_sem,Nat.reduceAdd,Nat.reduceLT,Nat.reduceLeDiff,lq,FT,hI,hE,c,sd,DW,rl,JF,tJ,JT,qY,C0,hb,ho,u1,u2,w2,B8 ht0,B8 ht1,ht,hp1,kk,k0,k9n,kw,q1,q2,q3,q4,q5,q6,GG,Nat.mul_one,List.replicate_succ,List.replicate_zero,k9c]))
 have j1:∀ {h':Hp} {b:Nat},h' b=some (.cells true 1 [.string ⟨⟨Lib.itoa x.At⟩⟩, .string ⟨⟨EK x.Kind⟩⟩, .string ⟨⟨Lib.itoa x.Bw⟩⟩, .string ⟨⟨Lib.itoa x.DY⟩⟩, .string ⟨⟨Lib.itoa x.Id⟩⟩, .string ⟨⟨Lib.itoa x.Set⟩⟩, .string ⟨⟨Ff (VN x)⟩⟩])→KR AR h' (.slice (some ⟨b,0,none⟩) 7 7)=True:=fun e=>(Vi e).P
 have j2:∀ {h':Hp} {b:Nat},h' b=some (.cells true 1 [.string ⟨⟨Lib.itoa x.At⟩⟩, .string ⟨⟨EK x.Kind⟩⟩, .string ⟨⟨Lib.itoa x.Bw⟩⟩, .string ⟨⟨Lib.itoa x.DY⟩⟩, .string ⟨⟨Lib.itoa x.Id⟩⟩, .string ⟨⟨Lib.itoa x.Set⟩⟩, .string ⟨⟨Ff (VN x)⟩⟩])→AR.rd h' (.slice (some ⟨b,0,none⟩) 7 7)=Cj x:=fun e=>(Vi e).rd
 have j3:((Cj x).length≤140737488355328)=True:=eq_true (by show 7≤_;decide)
 have j4:((Lib.join (Cj x) [32]).length≤140737488355328)=True:=eq_true (by have:=Yo h F;omega)
 (repeat ((try refine Vc.mk' ?_);simp only [go_sem,sH,HU,j1,j2,j3,j4]))
 unfold M5 Qa
 rw [if_pos c,if_pos c]
end Go.Proofs.YthpibnpeaidabaaGreatDoor.Dm
