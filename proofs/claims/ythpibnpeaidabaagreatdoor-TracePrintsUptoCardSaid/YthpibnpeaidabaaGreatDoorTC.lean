import Derived.Test.YthpibnpeaidabaaGreatDoorTS
set_option linter.unusedVariables false
namespace Go.Proofs.YthpibnpeaidabaaGreatDoor.Dm
open Go.Dm
set_option maxHeartbeats 16000000
set_option maxRecDepth 20000
def XJ (n:Int):Bool:=decide (1≤n) && decide (n≤24)
def pY (k:Int):Bool:=decide (k=2) || decide (k=3) || decide (k=7) || decide (k=8)
def FK (x:AE):AX:=⟨x.EM,x.D9,x.EF,x.D8⟩
def nB (x:AE):Int:=U3 (FK x) 4
def LO (x:AE):Bool:=decide (x.At≤1099511627776) && (decide (1≤x.Kind) && (decide (x.Kind≤8) && (XJ x.Bp && (decide (0≤x.Set) && (decide (x.Set < 128) && (!decide (nB x=0) && (!(decide (x.Kind=4) && decide (1 < nB x)) && (if pY x.Kind then XJ x.DI && !decide (x.DI=x.Bp) else decide (x.DI=0)))))))))
structure FY (x:AE):Prop where
 mN:0≤x.At
 zw:x.At < 18446744073709551616
 pR:0≤x.Id
 qp:x.Id < 4294967296
 b:Fs (FK x)
def ke (v:Value):Prop:= ∃x,v= .agg ⟨AA.enc x⟩∧FY x
def me (v:Value):AE:=AA.dec (Di v)
theorem Df {x:AE}:me (.agg ⟨AA.enc x⟩)=x:=AA.h x
theorem Y1 {x:AE}(h:FY x):ke (.agg ⟨AA.enc x⟩)=True:=eq_true ⟨x,rfl,h⟩
theorem MG {x:AE}(h:FY x):H3 (.agg ⟨[.int .u64 x.EM, .int .u64 x.D9, .int .u64 x.EF, .int .u64 x.D8]⟩)=True:=eq_true ⟨FK x,rfl,h.b⟩
theorem Lx {x:AE}:iz (.agg ⟨[.int .u64 x.EM, .int .u64 x.D9, .int .u64 x.EF, .int .u64 x.D8]⟩)=FK x:=rfl
def GT1:FuncId→BG:=BQ (BQ (BQ (BQ (BQ rQ 42 FP) 33 IY) 38 H7) 43 VJ) 41 Jb
theorem gw:B4 Tryz.prog tt.get GT1:=((((JF.add gm).add tO).add Yj).add VU).add ue
def Gt (f:Int→Bool):BG:= .pure (fun args _=>match args with | [x]=>GN .i64 x | _=>False) (fun args _=>match args with | [x]=> .bool (f (intOf x)) | _=>undef)
theorem ZZ:Aw Tryz.prog 55 (Gt XJ):=by
 refine .mkPure Rn ?_
 intro args hp hpre top
 match args,hpre with
 | [x],hx=>
 rw [hx]
 refine AK.Ar A7 Rn rfl 9 rfl [.tmp 2] rfl (show 1≤9 by decide) ?_
 refine CW.vc gw [0,2] (by kernel_rfl) ?_
 (repeat ((try refine Vc.mk' ?_);simp only [go_sem]))
 refine Lo ?_
 simp [XJ];try omega
theorem Vm:Aw Tryz.prog 57 (Gt pY):=by
 refine .mkPure Qn ?_
 intro args hp hpre top
 match args,hpre with
 | [x],hx=>
 rw [hx]
 refine AK.Ar A7 Qn rfl 17 rfl [.tmp 2] rfl (show 1≤17 by decide) ?_
 refine CW.vc gw [0,2] (by kernel_rfl) ?_
 (repeat ((try refine Vc.mk' ?_);simp only [go_sem]))
 refine Lo ?_
 simp [pY]
def vd:FuncId→BG:=BQ (BQ (BQ GT1 55 (Gt XJ)) 57 (Gt pY)) 56 ID
theorem bp:B4 Tryz.prog tt.get vd:=((gw.add ZZ).add Vm).add Tx
theorem yE:vd 55=Gt XJ:=rfl
theorem pH:vd 57=Gt pY:=rfl
theorem vz:vd 56=ID:=rfl
def Ds:BG:= .pure (fun args _=>match args with | [v]=>ke v | _=>False) (fun args _=>match args with | [v]=> .int .i64 (if LO (me v) then 0 else 2) | _=>undef)
theorem sS:Aw Tryz.prog 28 Ds:=by
 refine .Ep QT ?_ ?_
 ·rintro args hp h
  match args,h with
  | [_],⟨x,rfl,_⟩=>rfl
 intro args hp hpre top hcl hsc
 match args,hpre with
 | [_],⟨x,rfl,h⟩=>
 simp only [Df]
 have hb:=MG h
 have ho:=Lx (x:=x)
 have hn:U3 (FK x) 4=nB x:=rfl
 refine AK.Ar A7 QT rfl 64 rfl [.tmp 2] rfl (show 1≤64 by decide) ?_
 refine CW.vc bp [0,1,2,3,4,8] (by kernel_rfl) ?_
 repeat' first | refine JN.mk (fun _=> ?_) (fun _=> ?_) | refine Vc.mk' ?_ | simp only [go_sem,Nat.reduceAdd,Nat.reduceLT,yE,pH,vz,Gt,ID,hb,ho,hn]
 all_goals try (refine ⟨fun a=>⟨a,fun b=>⟨a,b⟩⟩, ?_⟩)
 all_goals try repeat' first | refine JN.mk (fun _=> ?_) (fun _=> ?_) | refine Vc.mk' ?_ | simp only [go_sem,Nat.reduceAdd,Nat.reduceLT,pH,Gt]
 all_goals (unfold LO;simp_all)
 all_goals (intros;first | omega | simp_all)
def Ca:List (List UInt8):= [[], [115,101,110,100], [99,111,112,121], [103,111,116], [108,111,99,97,108], [108,111,115,116], [101,120,112,105,114,101,100], [100,111,117,98,108,101], [103,111,110,101]]
def GG:List Value:=Ca.map fun w=> .string ⟨⟨w⟩⟩
def CY (k:Int):List UInt8:=(Ca[k.toNat]?).getD []
def EB:BG:= .pure (fun args _=>args= []) (fun _ _=> .agg ⟨GG⟩)
theorem bE:Aw Tryz.prog 34 EB:=by
 refine .Ep Py (fun _ _ _=>rfl) ?_
 intro args hp hpre top hcl hsc
 subst hpre
 refine AK.Ar A7 Py rfl 2 rfl [.cell 0 71] rfl (show 0≤2 by decide) ?_
 refine CW.vc bp [0] (by kernel_rfl) ?_
 (repeat ((try refine Vc.mk' ?_);simp only [go_sem,Nat.reduceAdd,Nat.reduceMul,Nat.reduceLeDiff]))
 rfl
def oN:FuncId→BG:=BQ (BQ (BQ vd 28 Ds) 34 EB) 36 Kl
theorem OW:B4 Tryz.prog tt.get oN:=((bp.add sS).add bE).add Wg
theorem qQ:oN 28=Ds:=rfl
theorem yJ:oN 34=EB:=rfl
theorem wJ:oN 36=Kl:=rfl
theorem yU:oN 33=IY:=rfl
theorem vj:oN 35=Co:=rfl
theorem wS:oN 37=Iv:=rfl
def CX (x:AE):List (List UInt8):= [Lib.itoa x.At,CY x.Kind,Lib.itoa x.Bp,Lib.itoa x.DI,Lib.itoa x.Id,Lib.itoa x.Set,FX (FK x)]
def C1 (x:AE):List UInt8:=if LO x then Lib.join (CX x) [32] else []
def Hj (x:AE):Value:= .tuple ⟨[.string ⟨⟨C1 x⟩⟩, .int .i64 (if LO x then 0 else 2)]⟩
structure pw (x:AE):Prop where
 mN:x.At≤1099511627776
 k0:1≤x.Kind
 k1:x.Kind≤8
 r:XJ x.Bp=true
 s0:0≤x.Set
 s1:x.Set < 128
 n:¬nB x=0
 l:x.Kind=4→nB x≤1
 p:if pY x.Kind then XJ x.DI=true∧¬x.DI=x.Bp else x.DI=0
theorem okF {x:AE}:LO x=true ↔ pw x:=by
 unfold LO
 constructor
 ·intro h
  simp only [Bool.and_eq_true,decide_eq_true_eq,Bool.not_eq_true',decide_eq_false_iff_not] at h
  obtain ⟨h1,h2,h3,h4,h5,h6,h7,h8,h9⟩:=h
  refine ⟨h1,h2,h3,h4,h5,h6,h7,fun e=> ?_, ?_⟩
  ·simp only [e,decide_true,Bool.true_and,decide_eq_false_iff_not] at h8;omega
  ·split at h9
   ·rename_i hb;rw [if_pos hb];simpa using h9
   ·rename_i hb;rw [if_neg hb];simpa using h9
 ·rintro ⟨h1,h2,h3,h4,h5,h6,h7,h8,h9⟩
  simp only [Bool.and_eq_true,decide_eq_true_eq,Bool.not_eq_true',decide_eq_false_iff_not]
  refine ⟨h1,h2,h3,h4,h5,h6,h7, ?_, ?_⟩
  ·by_cases e:x.Kind=4
   ·have:=h8 e;simp [e];omega
   ·simp [e]
  ·split at h9
   ·rename_i hb;rw [if_pos hb];simpa using h9
   ·rename_i hb;rw [if_neg hb];simpa using h9
theorem HZ {n:Int}:XJ n=true ↔ 1≤n∧n≤24:=by simp [XJ]
theorem pw.peer {x:AE}(h:pw x):0≤x.DI∧x.DI≤24:=by
 have:=h.p
 split at this
 ·have:=HZ.1 this.1;omega
 ·omega
theorem PQ (k:Int):(CY k).length≤7:=by
 unfold CY
 have:∀i:Nat,((Ca[i]?).getD []).length≤7:=by
  intro i
  by_cases h:i < 9
  ·have:∀j:Fin 9,((Ca[j.val]?).getD []).length≤7:=by decide
   exact this ⟨i,h⟩
  ·rw [List.getElem?_eq_none (by show 9≤i;omega)];decide
 exact this _
theorem Zf {k:Int}(h0:0≤k)(h1:k≤8):(GG[k.toNat]?).getD undef= .string ⟨⟨CY k⟩⟩:=by
 obtain ⟨i,rfl⟩:=Int.eq_ofNat_of_zero_le h0
 have hi:i < 9:=by omega
 rw [Int.toNat_natCast]
 unfold CY GG
 rw [Int.toNat_natCast,List.getElem?_map]
 have:i < Ca.length:=hi
 rw [List.getElem?_eq_getElem this];rfl
theorem TY {x:AE}(h:FY x)(hF:pw x):(Lib.join (CX x) [32]).length≤2000:=by
 have r1:=HZ.1 hF.r
 have p1:=hF.peer
 have l1:=Lib.itoa_length_le x.At (by have:=h.mN;omega) (by have:=hF.mN;omega)
 have l2:=PQ x.Kind
 have l3:=Lib.itoa_length_le x.Bp (by omega) (by omega)
 have l4:=Lib.itoa_length_le x.DI (by omega) (by omega)
 have l5:=Lib.itoa_length_le x.Id (by have:=h.pR;omega) (by have:=h.qp;omega)
 have l6:=Lib.itoa_length_le x.Set (by have:=hF.s0;omega) (by have:=hF.s1;omega)
 have l7:(FX (FK x)).length≤1024:=by rw [IG h.b];exact e9
 unfold CX
 rw [Lib.join_cons]
 simp only [Lib.joinTail,List.map_cons,List.map_nil,List.flatten_cons,List.flatten_nil,List.length_append,List.length_cons,List.length_nil]
 omega
theorem Xu {x:AE}{h':Hp}{b:Nat}(e:h' b=some (.cells true 1 [.string ⟨⟨Lib.itoa x.At⟩⟩, .string ⟨⟨CY x.Kind⟩⟩, .string ⟨⟨Lib.itoa x.Bp⟩⟩, .string ⟨⟨Lib.itoa x.DI⟩⟩, .string ⟨⟨Lib.itoa x.Id⟩⟩, .string ⟨⟨Lib.itoa x.Set⟩⟩, .string ⟨⟨FX (FK x)⟩⟩])):BM AU h' (.slice (some ⟨b,0,none⟩) 7 7) (CX x):= .own (l:=CX x) e (by show 7≤_;decide)
def DU:BG:= .pure (fun args hp=>match args with | [v]=>ke v∧hp 0=some U9∧hp 1=some Rb | _=>False) (fun args _=>match args with | [v]=>Hj (me v) | _=>undef)
theorem nj:Aw Tryz.prog 11 DU:=by
 refine .Ep Ql ?_ ?_
 ·rintro args hp h
  match args,h with
  | [_],⟨⟨x,rfl,_⟩,_⟩=>rfl
 intro args hp hpre top hcl hsc
 match args,hpre with
 | [_],⟨⟨x,rfl,h⟩,ht,hp1⟩=>
 simp only [Df]
 have ht0:=hcl.lt _ _ ht
 have ht1:=hcl.lt _ _ hp1
 have hI:=Y1 h
 have hE:=Df (x:=x)
 simp only [Cs] at hI hE
 have hb:=MG h
 have ho:=Lx (x:=x)
 refine AK.Ar A7 Ql rfl 34 rfl [.tmp 2, .tmp 3] rfl (show 1≤34 by decide) ?_
 by_cases c:LO x=true
 case neg=>
  have e:Hj x= .tuple ⟨[.string ⟨⟨[]⟩⟩, .int .i64 2]⟩:=by unfold Hj C1;rw [if_neg c,if_neg c]
  rw [e]
  have c':LO x=false:=by simpa using c
  refine CW.vc OW [0,1,2,3,4,7] (by kernel_rfl) ?_
  (repeat ((try refine Vc.mk' ?_);simp only [go_sem,Nat.reduceAdd,Int.reduceEq,qQ,Ds,hI,hE,c']))
 have F:=okF.1 c
 have r1:=HZ.1 F.r
 have p1:=F.peer
 have u1:Ri x.At=True:=eq_true ⟨h.mN,h.zw⟩
 have u2:Ri x.Id=True:=eq_true ⟨h.pR,by have:=h.qp;omega⟩
 have w2:AP .u64 x.Id=x.Id:=wrap_u64 h.pR (by have:=h.qp;omega)
 have k0:0≤x.Kind:=by have:=F.k0;omega
 have kk:=Zf k0 F.k1
 have k9:x.Kind < 9:=by have:=F.k1;omega
 have k9n:x.Kind.toNat < 9:=by omega
 have kw:GG.length=9:=rfl
 have k9c:x.Kind < ((9:Nat):Int):=by omega
 have q1:0≤x.Bp:=by omega
 have q2:x.Bp≤9223372036854775807:=by omega
 have q3:0≤x.DI:=p1.1
 have q4:x.DI≤9223372036854775807:=by omega
 have q5:=F.s0
 have q6:x.Set≤9223372036854775807:=by have:=F.s1;omega
 refine CW.vc OW [0,1,2,3,4,7] (by kernel_rfl) ?_
 (repeat ((try refine Vc.mk' ?_);simp only [go_sem,Nat.reduceAdd,Nat.reduceLT,Nat.reduceLeDiff,qQ,Ds,hI,hE,c,yJ,EB,wJ,Kl,yU,IY,vj,Co,hb,ho,u1,u2,w2,BS ht0,BS ht1,ht,hp1,kk,k0,k9n,kw,q1,q2,q3,q4,q5,q6,Hb,Nat.mul_one,List.replicate_succ,List.replicate_zero,k9c]))
 have j1:∀ {h':Hp} {b:Nat},h' b=some (.cells true 1 [.string ⟨⟨Lib.itoa x.At⟩⟩, .string ⟨⟨CY x.Kind⟩⟩, .string ⟨⟨Lib.itoa x.Bp⟩⟩, .string ⟨⟨Lib.itoa x.DI⟩⟩, .string ⟨⟨Lib.itoa x.Id⟩⟩, .string ⟨⟨Lib.itoa x.Set⟩⟩, .string ⟨⟨FX (FK x)⟩⟩])→HJ AU h' (.slice (some ⟨b,0,none⟩) 7 7)=True:=fun e=>(Xu e).P
 have j2:∀ {h':Hp} {b:Nat},h' b=some (.cells true 1 [.string ⟨⟨Lib.itoa x.At⟩⟩, .string ⟨⟨CY x.Kind⟩⟩, .string ⟨⟨Lib.itoa x.Bp⟩⟩, .string ⟨⟨Lib.itoa x.DI⟩⟩, .string ⟨⟨Lib.itoa x.Id⟩⟩, .string ⟨⟨Lib.itoa x.Set⟩⟩, .string ⟨⟨FX (FK x)⟩⟩])→AU.rd h' (.slice (some ⟨b,0,none⟩) 7 7)=CX x:=fun e=>(Xu e).rd
 have j3:((CX x).length≤140737488355328)=True:=eq_true (by show 7≤_;decide)
 have j4:((Lib.join (CX x) [32]).length≤140737488355328)=True:=eq_true (by have:=TY h F;omega)
 (repeat ((try refine Vc.mk' ?_);simp only [go_sem,wS,Iv,j1,j2,j3,j4]))
 unfold Hj C1
 rw [if_pos c,if_pos c]
end Go.Proofs.YthpibnpeaidabaaGreatDoor.Dm
