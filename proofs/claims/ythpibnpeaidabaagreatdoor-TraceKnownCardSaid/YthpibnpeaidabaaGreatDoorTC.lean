/- Check, Line. -/
import Derived.Test.YthpibnpeaidabaaGreatDoorTS
set_option linter.unusedSimpArgs false
set_option linter.unusedVariables false
namespace Go.Proofs.YthpibnpeaidabaaGreatDoor.Dm
open Go.Dm
set_option maxHeartbeats 16000000
set_option maxRecDepth 20000
def dQ (n:Int):Bool:=decide (1≤n) && decide (n≤24)
def og (k:Int):Bool:=decide (k=2) || decide (k=3) || decide (k=7) || decide (k=8)
def Tx (x:Ac):Ak:=⟨x.Fc,x.Fk,x.Fp,x.Fb⟩
def nB (x:Ac):Int:=Xy (Tx x) 4
def Qc (x:Ac):Bool:=decide (x.At≤1099511627776) && (decide (1≤x.Kind) && (decide (x.Kind≤8) && (dQ x.CA && (decide (0≤x.Set) && (decide (x.Set < 128) && (!decide (nB x=0) && (!(decide (x.Kind=4) && decide (1 < nB x)) && (if og x.Kind then dQ x.EO && !decide (x.EO=x.CA) else decide (x.EO=0)))))))))
structure J6 (x:Ac):Prop where
 oO:0≤x.At
 sx:x.At < 18446744073709551616
 o8:0≤x.Id
 re:x.Id < 4294967296
 b:GV (Tx x)
def iJ (v:Value):Prop:= ∃x,v= .agg ⟨AU.enc x⟩∧J6 x
def iG (v:Value):Ac:=AU.dec (Dn v)
theorem FI {x:Ac}:iG (.agg ⟨AU.enc x⟩)=x:=AU.h x
theorem YN {x:Ac}(h:J6 x):iJ (.agg ⟨AU.enc x⟩)=True:=eq_true ⟨x,rfl,h⟩
theorem Uq {x:Ac}(h:J6 x):KP (.agg ⟨[.int .u64 x.Fc, .int .u64 x.Fk, .int .u64 x.Fp, .int .u64 x.Fb]⟩)=True:=eq_true ⟨Tx x,rfl,h.b⟩
theorem Vx {x:Ac}:oX (.agg ⟨[.int .u64 x.Fc, .int .u64 x.Fk, .int .u64 x.Fp, .int .u64 x.Fb]⟩)=Tx x:=rfl
def s9:FuncId→BO:=Bd (Bd (Bd (Bd (Bd l9 42 Eb) 33 J5) 38 HL) 43 I5) 41 Hh
theorem X6:B9 Tryz.prog tt.get s9:=((((IY.add ck).add lI).add Xa).add YL).add mx
def Kg (f:Int→Bool):BO:= .pure (fun args _=>match args with | [x]=>GU .i64 x | _=>False) (fun args _=>match args with | [x]=> .bool (f (intOf x)) | _=>undef)
theorem Xl:BG Tryz.prog 55 (Kg dQ):=by
 refine .mkPure PC ?_
 intro args hp hpre top
 match args,hpre with
 | [x],hx=>
 rw [hx]
 refine Ab.BF BN PC rfl 9 rfl [.tmp 2] rfl (show 1≤9 by decide) ?_
 refine CW.vc X6 [0,2] (by kernel_rfl) ?_
 (repeat ((try refine Vc.mk' ?_);simp only [go_sem,reduceIte,reduceCtorEq,Nat.reduceAdd,Nat.reduceMul,Nat.reduceSub,Nat.reduceLT,Nat.reduceLeDiff,Nat.reduceEqDiff,Int.reduceEq,Int.reduceLT,Int.reduceLE,Int.reduceNe]))
 refine P9 ?_
 simp [dQ];try omega
theorem S9:BG Tryz.prog 57 (Kg og):=by
 refine .mkPure P6 ?_
 intro args hp hpre top
 match args,hpre with
 | [x],hx=>
 rw [hx]
 refine Ab.BF BN P6 rfl 17 rfl [.tmp 2] rfl (show 1≤17 by decide) ?_
 refine CW.vc X6 [0,2] (by kernel_rfl) ?_
 (repeat ((try refine Vc.mk' ?_);simp only [go_sem,reduceIte,reduceCtorEq,Nat.reduceAdd,Nat.reduceMul,Nat.reduceSub,Nat.reduceLT,Nat.reduceLeDiff,Nat.reduceEqDiff,Int.reduceEq,Int.reduceLT,Int.reduceLE,Int.reduceNe]))
 refine P9 ?_
 simp [og]
def pj:FuncId→BO:=Bd (Bd (Bd s9 55 (Kg dQ)) 57 (Kg og)) 56 GL
theorem Z1:B9 Tryz.prog tt.get pj:=((X6.add Xl).add S9).add RB
theorem kQ:pj 55=Kg dQ:=rfl
theorem kP:pj 57=Kg og:=rfl
theorem jt:pj 56=GL:=rfl
def DE:BO:= .pure (fun args _=>match args with | [v]=>iJ v | _=>False) (fun args _=>match args with | [v]=> .int .i64 (if Qc (iG v) then 0 else 2) | _=>undef)
theorem Yi:BG Tryz.prog 28 DE:=by
 refine .HS Pw ?_ ?_
 ·rintro args hp h
  match args,h with
  | [_],⟨x,rfl,_⟩=>rfl
 intro args hp hpre top hcl hsc
 match args,hpre with
 | [_],⟨x,rfl,h⟩=>
 simp only [FI]
 have hb:=Uq h
 have ho:=Vx (x:=x)
 have hn:Xy (Tx x) 4=nB x:=rfl
 refine Ab.BF BN Pw rfl 64 rfl [.tmp 2] rfl (show 1≤64 by decide) ?_
 refine CW.vc Z1 [0,1,2,3,4,8] (by kernel_rfl) ?_
 repeat' first | refine Nz.mk (fun _=> ?_) (fun _=> ?_) | refine Vc.mk' ?_ | simp only [go_sem,reduceIte,reduceCtorEq,Nat.reduceAdd,Nat.reduceMul,Nat.reduceSub,Nat.reduceLT,Nat.reduceLeDiff,Nat.reduceEqDiff,Int.reduceEq,Int.reduceLT,Int.reduceLE,Int.reduceNe,kQ,kP,jt,Kg,GL,hb,ho,hn,Dd,EG]
 all_goals try (refine ⟨fun a=>⟨a,fun b=>⟨a,b⟩⟩, ?_⟩)
 all_goals try repeat' first | refine Nz.mk (fun _=> ?_) (fun _=> ?_) | refine Vc.mk' ?_ | simp only [go_sem,reduceIte,reduceCtorEq,Nat.reduceAdd,Nat.reduceMul,Nat.reduceSub,Nat.reduceLT,Nat.reduceLeDiff,Nat.reduceEqDiff,Int.reduceEq,Int.reduceLT,Int.reduceLE,Int.reduceNe,kQ,kP,jt,Kg,GL,hb,ho,hn,Dd,EG]
 all_goals (unfold Qc;simp_all)
 all_goals (intros;first | omega | simp_all)
def DG:List (List UInt8):= [[], [115,101,110,100], [99,111,112,121], [103,111,116], [108,111,99,97,108], [108,111,115,116], [101,120,112,105,114,101,100], [100,111,117,98,108,101], [103,111,110,101]]
def Gd:List Value:=DG.map fun w=> .string ⟨⟨w⟩⟩
def D9 (k:Int):List UInt8:=(DG[k.toNat]?).getD []
def Df:BO:= .pure (fun args _=>args= []) (fun _ _=> .agg ⟨Gd⟩)
theorem Zc:BG Tryz.prog 34 Df:=by
 refine .HS Oa (fun _ _ _=>rfl) ?_
 intro args hp hpre top hcl hsc
 subst hpre
 refine Ab.BF BN Oa rfl 2 rfl [.cell 0 71] rfl (show 0≤2 by decide) ?_
 refine CW.vc Z1 [0] (by kernel_rfl) ?_
 (repeat ((try refine Vc.mk' ?_);simp only [go_sem,reduceIte,reduceCtorEq,Nat.reduceAdd,Nat.reduceMul,Nat.reduceSub,Nat.reduceLT,Nat.reduceLeDiff,Nat.reduceEqDiff,Int.reduceEq,Int.reduceLT,Int.reduceLE,Int.reduceNe]))
 rfl
def jr:FuncId→BO:=Bd (Bd (Bd pj 28 DE) 34 Df) 36 JZ
theorem bE:B9 Tryz.prog tt.get jr:=((Z1.add Yi).add Zc).add VZ
theorem kG:jr 28=DE:=rfl
theorem pL:jr 34=Df:=rfl
theorem qo:jr 36=JZ:=rfl
theorem pz:jr 33=J5:=rfl
theorem qK:jr 35=C1:=rfl
theorem qE:jr 37=IC:=rfl
def Cn (x:Ac):List (List UInt8):= [Lib.itoa x.At,D9 x.Kind,Lib.itoa x.CA,Lib.itoa x.EO,Lib.itoa x.Id,Lib.itoa x.Set,FE (Tx x)]
def Ik (x:Ac):List UInt8:=if Qc x then Lib.join (Cn x) [32] else []
def Kr (x:Ac):Value:= .tuple ⟨[.string ⟨⟨Ik x⟩⟩, .int .i64 (if Qc x then 0 else 2)]⟩
structure rD (x:Ac):Prop where
 oO:x.At≤1099511627776
 k0:1≤x.Kind
 k1:x.Kind≤8
 r:dQ x.CA=true
 s0:0≤x.Set
 s1:x.Set < 128
 n:¬nB x=0
 l:x.Kind=4→nB x≤1
 p:if og x.Kind then dQ x.EO=true∧¬x.EO=x.CA else x.EO=0
theorem okF {x:Ac}:Qc x=true ↔ rD x:=by
 unfold Qc
 constructor
 ·intro h
  simp only [Bool.and_eq_true,decide_eq_true_eq,Bool.not_eq_true',decide_eq_false_iff_not] at h
  obtain ⟨h1,h2,h3,h4,h5,h6,h7,h8,h9⟩:=h
  refine ⟨h1,h2,h3,h4,h5,h6,h7,fun e=> ?_, ?_⟩
  ·simp only [e,decide_true,Bool.true_and,decide_eq_false_iff_not] at h8;omega
  ·split at h9
   ·rename_i hb;rw [if_pos hb];simpa using h9
   ·rename_i hb;rw [if_neg hb];simpa using h9
 ·rintro ⟨h1,h2,h3,h4,h5,h6,h7,h8,h9⟩
  simp only [Bool.and_eq_true,decide_eq_true_eq,Bool.not_eq_true',decide_eq_false_iff_not]
  refine ⟨h1,h2,h3,h4,h5,h6,h7, ?_, ?_⟩
  ·by_cases e:x.Kind=4
   ·have:=h8 e;simp [e];omega
   ·simp [e]
  ·split at h9
   ·rename_i hb;rw [if_pos hb];simpa using h9
   ·rename_i hb;rw [if_neg hb];simpa using h9
theorem Jc {n:Int}:dQ n=true ↔ 1≤n∧n≤24:=by simp [dQ]
theorem rD.peer {x:Ac}(h:rD x):0≤x.EO∧x.EO≤24:=by
 have:=h.p
 split at this
 ·have:=Jc.1 this.1;omega
 ·omega
theorem Xt (k:Int):(D9 k).length≤7:=by
 unfold D9
 have:∀i:Nat,((DG[i]?).getD []).length≤7:=by
  intro i
  by_cases h:i < 9
  ·have:∀j:Fin 9,((DG[j.val]?).getD []).length≤7:=by decide
   exact this ⟨i,h⟩
  ·rw [List.getElem?_eq_none (by show 9≤i;omega)];decide
 exact this _
theorem WV {k:Int}(h0:0≤k)(h1:k≤8):(Gd[k.toNat]?).getD undef= .string ⟨⟨D9 k⟩⟩:=by
 obtain ⟨i,rfl⟩:=Int.eq_ofNat_of_zero_le h0
 have hi:i < 9:=by omega
 rw [Int.toNat_natCast]
 unfold D9 Gd
 rw [Int.toNat_natCast,List.getElem?_map]
 have:i < DG.length:=hi
 rw [List.getElem?_eq_getElem this];rfl
theorem YH {x:Ac}(h:J6 x)(hF:rD x):(Lib.join (Cn x) [32]).length≤2000:=by
 have r1:=Jc.1 hF.r
 have p1:=hF.peer
 have l1:=Lib.itoa_length_le x.At (by have:=h.oO;omega) (by have:=hF.oO;omega)
 have l2:=Xt x.Kind
 have l3:=Lib.itoa_length_le x.CA (by omega) (by omega)
 have l4:=Lib.itoa_length_le x.EO (by omega) (by omega)
 have l5:=Lib.itoa_length_le x.Id (by have:=h.o8;omega) (by have:=h.re;omega)
 have l6:=Lib.itoa_length_le x.Set (by have:=hF.s0;omega) (by have:=hF.s1;omega)
 have l7:(FE (Tx x)).length≤1024:=by rw [Jk h.b];exact bO
 unfold Cn
 rw [Lib.join_cons]
 simp only [Lib.joinTail,List.map_cons,List.map_nil,List.flatten_cons,List.flatten_nil,List.length_append,List.length_cons,List.length_nil]
 omega
theorem Um {x:Ac}{h':Hp}{b:Nat}(e:h' b=some (.cells true 1 [.string ⟨⟨Lib.itoa x.At⟩⟩, .string ⟨⟨D9 x.Kind⟩⟩, .string ⟨⟨Lib.itoa x.CA⟩⟩, .string ⟨⟨Lib.itoa x.EO⟩⟩, .string ⟨⟨Lib.itoa x.Id⟩⟩, .string ⟨⟨Lib.itoa x.Set⟩⟩, .string ⟨⟨FE (Tx x)⟩⟩])):Br Ah h' (.slice (some ⟨b,0,none⟩) 7 7) (Cn x):= .own (l:=Cn x) e (by show 7≤_;decide)
def EA:BO:= .pure (fun args hp=>match args with | [v]=>iJ v∧hp 0=some UF∧hp 1=some UJ | _=>False) (fun args _=>match args with | [v]=>Kr (iG v) | _=>undef)
theorem WA:BG Tryz.prog 11 EA:=by
 refine .HS Ph ?_ ?_
 ·rintro args hp h
  match args,h with
  | [_],⟨⟨x,rfl,_⟩,_⟩=>rfl
 intro args hp hpre top hcl hsc
 match args,hpre with
 | [_],⟨⟨x,rfl,h⟩,ht,hp1⟩=>
 simp only [FI]
 have ht0:=hcl.lt _ _ ht
 have ht1:=hcl.lt _ _ hp1
 have hI:=YN h
 have hE:=FI (x:=x)
 simp only [Cs] at hI hE
 have hb:=Uq h
 have ho:=Vx (x:=x)
 refine Ab.BF BN Ph rfl 34 rfl [.tmp 2, .tmp 3] rfl (show 1≤34 by decide) ?_
 by_cases c:Qc x=true
 case neg=>
  have e:Kr x= .tuple ⟨[.string ⟨⟨[]⟩⟩, .int .i64 2]⟩:=by unfold Kr Ik;rw [if_neg c,if_neg c]
  rw [e]
  have c':Qc x=false:=by simpa using c
  refine CW.vc bE [0,1,2,3,4,7] (by kernel_rfl) ?_
  (repeat ((try refine Vc.mk' ?_);simp only [go_sem,reduceIte,reduceCtorEq,Nat.reduceAdd,Nat.reduceMul,Nat.reduceSub,Nat.reduceLT,Nat.reduceLeDiff,Nat.reduceEqDiff,Int.reduceEq,Int.reduceLT,Int.reduceLE,Int.reduceNe,kG,DE,hI,hE,c']))
 have F:=okF.1 c
 have r1:=Jc.1 F.r
 have p1:=F.peer
 have u1:Rz x.At=True:=eq_true ⟨h.oO,h.sx⟩
 have u2:Rz x.Id=True:=eq_true ⟨h.o8,by have:=h.re;omega⟩
 have w2:Ae .u64 x.Id=x.Id:=wrap_u64 h.o8 (by have:=h.re;omega)
 have k0:0≤x.Kind:=by have:=F.k0;omega
 have kk:=WV k0 F.k1
 have k9:x.Kind < 9:=by have:=F.k1;omega
 have k9n:x.Kind.toNat < 9:=by omega
 have kw:Gd.length=9:=rfl
 have k9c:x.Kind < ((9:Nat):Int):=by omega
 have q1:0≤x.CA:=by omega
 have q2:x.CA≤9223372036854775807:=by omega
 have q3:0≤x.EO:=p1.1
 have q4:x.EO≤9223372036854775807:=by omega
 have q5:=F.s0
 have q6:x.Set≤9223372036854775807:=by have:=F.s1;omega
 refine CW.vc bE [0,1,2,3,4,7] (by kernel_rfl) ?_
 (repeat ((try refine Vc.mk' ?_);simp only [go_sem,reduceIte,reduceCtorEq,Nat.reduceAdd,Nat.reduceMul,Nat.reduceSub,Nat.reduceLT,Nat.reduceLeDiff,Nat.reduceEqDiff,Int.reduceEq,Int.reduceLT,Int.reduceLE,Int.reduceNe,kG,DE,hI,hE,c,pL,Df,qo,JZ,pz,J5,qK,C1,hb,ho,u1,u2,w2,BI ht0,BI ht1,ht,hp1,kk,k0,k9,k9n,kw,q1,q2,q3,q4,q5,q6,Gs,Nat.mul_one,E3,List.replicate_succ,List.replicate_zero,k9c]))
 have j1:∀ {h':Hp} {b:Nat},h' b=some (.cells true 1 [.string ⟨⟨Lib.itoa x.At⟩⟩, .string ⟨⟨D9 x.Kind⟩⟩, .string ⟨⟨Lib.itoa x.CA⟩⟩, .string ⟨⟨Lib.itoa x.EO⟩⟩, .string ⟨⟨Lib.itoa x.Id⟩⟩, .string ⟨⟨Lib.itoa x.Set⟩⟩, .string ⟨⟨FE (Tx x)⟩⟩])→K3 Ah h' (.slice (some ⟨b,0,none⟩) 7 7)=True:=fun e=>(Um e).P
 have j2:∀ {h':Hp} {b:Nat},h' b=some (.cells true 1 [.string ⟨⟨Lib.itoa x.At⟩⟩, .string ⟨⟨D9 x.Kind⟩⟩, .string ⟨⟨Lib.itoa x.CA⟩⟩, .string ⟨⟨Lib.itoa x.EO⟩⟩, .string ⟨⟨Lib.itoa x.Id⟩⟩, .string ⟨⟨Lib.itoa x.Set⟩⟩, .string ⟨⟨FE (Tx x)⟩⟩])→Ah.rd h' (.slice (some ⟨b,0,none⟩) 7 7)=Cn x:=fun e=>(Um e).rd
 have j3:((Cn x).length≤140737488355328)=True:=eq_true (by show 7≤_;decide)
 have j4:((Lib.join (Cn x) [32]).length≤140737488355328)=True:=eq_true (by have:=YH h F;omega)
 (repeat ((try refine Vc.mk' ?_);simp only [go_sem,reduceIte,reduceCtorEq,Nat.reduceAdd,Nat.reduceMul,Nat.reduceSub,Nat.reduceLT,Nat.reduceLeDiff,Nat.reduceEqDiff,Int.reduceEq,Int.reduceLT,Int.reduceLE,Int.reduceNe,qE,IC,j1,j2,j3,j4]))
 unfold Kr Ik
 rw [if_pos c,if_pos c]
end Go.Proofs.YthpibnpeaidabaaGreatDoor.Dm
