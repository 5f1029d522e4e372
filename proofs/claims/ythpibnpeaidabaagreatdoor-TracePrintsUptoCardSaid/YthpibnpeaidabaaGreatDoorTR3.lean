import Derived.Test.YthpibnpeaidabaaGreatDoorTC
set_option linter.unusedVariables false
namespace Go.Proofs.YthpibnpeaidabaaGreatDoor.Dm
open Go.Dm
set_option maxHeartbeats 16000000
set_option maxRecDepth 20000
theorem WC:Aw Tryz.prog 105 (Gt XJ):=by
 refine .mkPure M4 ?_
 intro args hp hpre top
 match args,hpre with
 | [x],hx=>
 rw [hx]
 refine AK.Ar A7 M4 rfl 9 rfl [.tmp 2] rfl (show 1≤9 by decide) ?_
 refine CW.vc OW [0,2] (by kernel_rfl) ?_
 (repeat ((try refine Vc.mk' ?_);simp (maxSteps:=6000000) only [go_sem]))
 refine Lo ?_
 simp [XJ];try omega
def J2:BG:= .pure (fun args _=>match args with | [v, .int .i64 n]=>H3 v∧1≤n∧n≤256 | _=>False) (fun args _=>match args with | [v,n]=> .bool (hasB (iz v) (intOf n - 1).toNat) | _=>undef)
theorem mG:Aw Tryz.prog 106 J2:=by
 refine .Ep NN ?_ ?_
 ·rintro args hp h
  match args,h with
  | [_, .int .i64 n],⟨⟨b,rfl,hb⟩,_⟩=>rfl
 intro args hp hpre top hcl hsc
 match args,hpre with
 | [_, .int .i64 n],⟨⟨b,rfl,hb⟩,h1,h2⟩=>
 obtain ⟨k,rfl⟩:∃k:Nat,n=(k:Int)+1:=⟨(n - 1).toNat,by omega⟩
 have hk:k < 256:=by omega
 have e1:AP .i64 ((k:Int)+1 - 1)=(k:Int):=by rw [wrap64 (by omega) (by omega)];omega
 have h4:k / 64 < 4:=by omega
 have h5:k / 64≤3:=by omega
 have e2:((k:Int)+1 - 1).toNat=k:=by omega
 have e3:(0:Int)≤((k % 64:Nat):Int):=by omega
 simp only [intOf_int,e2,GH]
 refine AK.Ar A7 NN rfl 17 rfl [.tmp 4] rfl (show 2≤17 by decide) ?_
 refine CW.vc OW [0,1,2,4] (by kernel_rfl) ?_
 (repeat ((try refine Vc.mk' ?_);simp (maxSteps:=6000000) only [go_sem,Int.reduceEq,e1,pZ hk,qe,AAR,Zo,EI,Nat.mul_one,V9 hb h4,h4,e3,oP (Gr hb (k / 64))]))
 unfold hasB
 cases (wn b (k / 64)).testBit (k % 64) <;> rfl
def GR1:FuncId→BG:=BQ (BQ oN 105 (Gt XJ)) 106 J2
theorem LS:B4 Tryz.prog tt.get GR1:=(OW.add WC).add mG
theorem pN:GR1 106=J2:=rfl
def Gp:BG:= .det (fun args _ _=>match args with | [v]=>H3 v | _=>False) (fun args _ top=>match args with | [v]=>(AR top (CU (iz v)), [(top,AV BV (CU (iz v)))],top+1) | _=>(undef, [],top))
def jr (hp:Hp)(top:Nat)(b:AX)(k:Nat):SS:=⟨[(1, .pointer (some ⟨top,0,none⟩),true),(3,AR (top+1) (Rx b k),true),(4, .int .i64 ((k:Int)+1),true)],hp.Al [(top,some (.cells true 0 (bl b))),(top+1,AV BV (Rx b k))],top+2⟩
theorem au:Aw Tryz.prog 78 Gp:=by
 refine .Cg Rj ?_
 intro args hp top hpre hcl hsc
 match args,hpre with
 | [_],⟨b,rfl,hb⟩=>
 simp only [GH]
 have hI:=Kr hb
 refine AK.Ar A7 Rj rfl 17 rfl [.tmp 2] rfl (show 1≤17 by decide) ?_
 refine CW.vc LS [0,1,2,3,4,6,11] (by kernel_rfl) ?_
 (repeat ((try refine Vc.mk' ?_);simp (maxSteps:=6000000) only [go_sem]))
 refine CW.Bs (jr hp top b) (fun k=>k≤256) (fun k=>256 - k) 0 (by omega) ?_ ?_
 ·exact (by refine Ao.mk' [top,top+1] hcl (by simp) (by simp) rfl (AG ?_) ?_ ?_ <;> simp [Ac,BU,Ax,AB.nil,AB.cons,A9,BA,Ap,DY,AD,BF,AJ.set,AJ.refl,HK,show Rx b 0= [] from rfl,EC,Et])
 ·intro k hi
  by_cases hlt:k < 256
  ·have h4:(k:Int)+1≤256:=by omega
   have h6:¬(256:Int) < (k:Int)+1:=by omega
   have h7:(1:Int)≤(k:Int)+1:=by omega
   have hl:=Lt (b:=b) k
   have hll:(Rx b k).length < 16777216:=by omega
   have hs:=gH (b:=b) (n:=k)
   cases hA:hasB b k with
   |true=>
    rw [hA,if_pos rfl] at hs
    refine CW.vc LS [0,1,2,3,4,6,11] (by kernel_rfl) ?_
    (repeat ((try refine Vc.mk' ?_);simp (maxSteps:=6000000) only [go_sem,reduceCtorEq,Nat.reduceAdd,Nat.reduceLeDiff,Nat.reduceEqDiff,EI,HO,GH,Nat.mul_one,pN,J2,jr,h4,h6,h7,hI,zx,hA,UM hlt,hll]))
    refine .mk (k+1) hlt (by omega) ((by refine Ao.mk' [top,top+3] hcl (by simp) (by simp) rfl (AG ?_) ?_ ?_ <;> simp [Ac,BU,Ax,AB.nil,AB.cons,A9,BA,Az,Ap,DY,BJ,AD,BF,AJ.set,AJ.refl,HK,hs]))
   |false=>
    rw [hA,if_neg (by simp)] at hs
    refine CW.vc LS [0,1,2,3,4,6,11] (by kernel_rfl) ?_
    (repeat ((try refine Vc.mk' ?_);simp (maxSteps:=6000000) only [go_sem,reduceCtorEq,EI,HO,GH,pN,J2,jr,h4,h6,h7,hI,zx,hA,UM hlt]))
    refine .mk (k+1) hlt (by omega) ((by refine Ao.mk' [top,top+1] hcl (by simp) (by simp) rfl (AG ?_) ?_ ?_ <;> simp [Ac,BU,Ax,AB.nil,AB.cons,A9,BA,Az,Ap,DY,BJ,AD,BF,AJ.set,AJ.refl,HK,hs]))
  ·have hi4:k=256:=by omega
   subst hi4
   have h4:(256:Int) < ((256:Nat):Int)+1:=by omega
   refine CW.vc LS [0,1,2,3,4,6,11] (by kernel_rfl) ?_
   (repeat ((try refine Vc.mk' ?_);simp (maxSteps:=6000000) only [go_sem,jr,h4]))
   (refine ⟨[top+1],by simp,by simp,by simp, ?_, ?_, ?_⟩ <;> simp [AB.nil,AB.cons,Az,Ap,BJ,AD,AJ.set,AJ.refl,show Rx b 256=CU b from rfl])
def KQ (y:Int):List UInt8:=if 0≤y then CY y else []
theorem Y9 {y:Int}(h:y < 0):KQ y= []:=by unfold KQ;rw [if_neg (by omega)]
theorem Oj {y:Int}(h:0≤y):KQ y=CY y:=by unfold KQ;rw [if_pos h]
def Ih:BG:= .pure (fun args _=>match args with | [x]=>GN .i64 x | _=>False) (fun args _=>match args with | [x]=> .string ⟨⟨KQ (intOf x)⟩⟩ | _=>undef)
theorem Yu {h':Hp}{b:Nat}(e:h' b=some (.cells true 1 GG)):BM AU h' (.slice (some ⟨b,0,none⟩) 9 9) Ca:= .own (l:=Ca) e (by decide)
theorem kI:Aw Tryz.prog 47 Ih:=by
 refine .Ep Rm ?_ ?_
 ·rintro args hp h
  match args,h with
  | [_],_=>rfl
 intro args hp hpre top hcl hsc
 match args,hpre with
 | [x],hx=>
 rw [hx]
 generalize intOf x=y
 simp only [intOf_int]
 have hw:∀ {h':Hp} {b:Nat},h' b=some (.cells true 1 [.string ⟨⟨[]⟩⟩, .string ⟨⟨[115,101,110,100]⟩⟩, .string ⟨⟨[99,111,112,121]⟩⟩, .string ⟨⟨[103,111,116]⟩⟩, .string ⟨⟨[108,111,99,97,108]⟩⟩, .string ⟨⟨[108,111,115,116]⟩⟩, .string ⟨⟨[101,120,112,105,114,101,100]⟩⟩, .string ⟨⟨[100,111,117,98,108,101]⟩⟩, .string ⟨⟨[103,111,110,101]⟩⟩])→0≤y→y < 9→Ad tt.get h' 9 (.pointer (some ⟨b,y.toNat,none⟩))=(.string ⟨⟨CY y⟩⟩,True):=fun {h'} {b} e h0 h1=>by
  have:=Jd (Yu e) (i:=y.toNat) (by show y.toNat < 9;omega)
  rw [Nat.mul_one] at this
  rw [show at' Ca y.toNat=CY y from rfl] at this
  have e2:BK (.slice (some ⟨b,0,none⟩) 9 9) y.toNat= .pointer (some ⟨b,y.toNat,none⟩):=by simp [BK]
  rwa [e2] at this
 have hlV:∀ {h':Hp} {b:Nat},Cj tt.get h' 58 (.slice (some ⟨b,0,none⟩) 9 9)=(.int .i64 9,True):=fun {h'} {b}=>by
  unfold Cj
  simp only [Bw,El,CM,Ll];rfl
 have hix:∀ {b:Nat},0≤y→y < 9→Af tt.get 58 (.slice (some ⟨b,0,none⟩) 9 9) (.int .i64 y)=(.pointer (some ⟨b,y.toNat,none⟩),True):=fun {b} h0 h1=>by
  unfold Af
  simp only [Bw,B2]
  have c5:y < ((9:Nat):Int):=by omega
  simp [h0,h1,Hs,intOf,iy]
 refine AK.Ar A7 Rm rfl 17 rfl [.tmp 2] rfl (show 1≤17 by decide) ?_
 by_cases c1:y < 0
 ·rw [Y9 c1]
  refine CW.vc LS [0,2,3,12] (by kernel_rfl) ?_
  (repeat ((try refine Vc.mk' ?_);simp (maxSteps:=6000000) only [go_sem,Nat.reduceAdd,Nat.reduceMul,Nat.reduceLeDiff,c1,List.replicate_succ,List.replicate_zero]))
 have c2:0≤y:=by omega
 rw [Oj c2]
 by_cases c3:y < 9
 ·have c4:¬9≤y:=by omega
  have c5:y < ((9:Nat):Int):=by omega
  refine CW.vc LS [0,2,3,12] (by kernel_rfl) ?_
  (repeat ((try refine Vc.mk' ?_);simp (maxSteps:=6000000) only [go_sem,Nat.reduceAdd,Nat.reduceLeDiff,c1,c2,c3,List.replicate_succ,List.replicate_zero,Nat.mul_one,hlV,hix c2 c3,hw]))
 ·have c4:9≤y:=by omega
  refine CW.vc LS [0,2,3,12] (by kernel_rfl) ?_
  (repeat ((try refine Vc.mk' ?_);simp (maxSteps:=6000000) only [go_sem,Nat.reduceAdd,Nat.reduceMul,Nat.reduceLeDiff,c1,c3,List.replicate_succ,List.replicate_zero,hlV]))
  have:CY y= []:=by
   unfold CY
   rw [List.getElem?_eq_none (by show 9≤_;omega)];rfl
  rw [this]
end Go.Proofs.YthpibnpeaidabaaGreatDoor.Dm
set_option linter.unusedVariables false
namespace Go.Proofs.YthpibnpeaidabaaGreatDoor.Dm
open Go.Dm
set_option maxHeartbeats 16000000
set_option maxRecDepth 20000
theorem dM {y:Int}:(KQ y= []) ↔ ¬(1≤y∧y≤8):=by
 unfold KQ
 by_cases c:0≤y
 ·rw [if_pos c]
  obtain ⟨i,rfl⟩:=Int.eq_ofNat_of_zero_le c
  unfold CY
  rw [Int.toNat_natCast]
  by_cases h:i < 9
  ·have:∀j:Fin 9,((Ca[j.val]?).getD [] = []) ↔ j.val=0:=by decide
   rw [this ⟨i,h⟩]
   show i=0 ↔ _
   omega
  ·rw [List.getElem?_eq_none (by show 9≤i;omega)]
   simp;omega
 ·rw [if_neg c];simp;omega
theorem bK {x:AE}(h:Fs (FK x)):nB x=((CU (FK x)).length:Int):=by
 show U3 (FK x) 4=_
 rw [kN h,←eO h,OM,List.length_map]
def xY:FuncId→BG:=BQ (BQ GR1 78 Gp) 47 Ih
theorem qb:B4 Tryz.prog tt.get xY:=(LS.add au).add kI
theorem xw:xY 78=Gp:=rfl
theorem ya:xY 47=Ih:=rfl
theorem pq:xY 105=Gt XJ:=rfl
theorem jR:Aw Tryz.prog 77 Ds:=by
 refine .Ep Qv ?_ ?_
 ·rintro args hp h
  match args,h with
  | [_],⟨x,rfl,_⟩=>rfl
 intro args hp hpre top hcl hsc
 match args,hpre with
 | [_],⟨x,rfl,h⟩=>
 simp only [Df]
 have hb:=MG h
 have ho:=Lx (x:=x)
 have hn:=(bK h.b).symm
 have hn0:0≤nB x:=by omega
 have hw:OP (KQ x.Kind) [] = !(decide (1≤x.Kind) && decide (x.Kind≤8)):=by
  rw [HM]
  by_cases h1:1≤x.Kind <;> by_cases h2:x.Kind≤8 <;> simp [dM,h1,h2] <;> omega
 have hll:(CU (FK x)).length≤256:=Lt 256
 refine AK.Ar A7 Qv rfl 80 rfl [.tmp 2] rfl (show 1≤80 by decide) ?_
 refine CW.vc qb [0,1,2,3,4,46,67,79] (by kernel_rfl) ?_
 repeat' first | refine JN.mk (fun _=> ?_) (fun _=> ?_) | refine Vc.mk' ?_ | simp (maxSteps:=6000000) only [go_sem,reduceCtorEq,Nat.reduceAdd,Nat.reduceLT,xw,ya,pq,Gt,Ih,Gp,hb,ho,jL,hw,hn]
 all_goals try (refine ⟨fun a=>⟨a,fun b=>⟨a,b⟩⟩, ?_⟩)
 all_goals try repeat' first | refine JN.mk (fun _=> ?_) (fun _=> ?_) | refine Vc.mk' ?_ | simp (maxSteps:=6000000) only [go_sem,reduceCtorEq,Nat.reduceAdd,Nat.reduceLT,pq,Gt]
 all_goals (clear hn hll;unfold LO;generalize nB x=n at *;cases hbt:pY x.Kind <;> (have hbu:=hbt;unfold pY at hbu;simp_all))
 all_goals (try intros)
 all_goals (try omega)
 all_goals (try simp_all)
 all_goals (try omega)
end Go.Proofs.YthpibnpeaidabaaGreatDoor.Dm
set_option linter.unusedVariables false
namespace Go.Proofs.YthpibnpeaidabaaGreatDoor.Dm
open Go.Dm
set_option maxHeartbeats 16000000
set_option maxRecDepth 20000
def tU:FuncId→BG:=BQ xY 77 Ds
theorem TC:B4 Tryz.prog tt.get tU:=qb.add jR
theorem qT:tU 77=Ds:=rfl
theorem wZ:tU 78=Gp:=rfl
theorem xW:tU 47=Ih:=rfl
theorem vN:tU 33=IY:=rfl
theorem qU:tU 35=Co:=rfl
def T9 (x:AE):List UInt8:=Lib.itoa x.At ++ [32] ++ CY x.Kind ++ [32] ++ Lib.itoa x.Bp ++ [32] ++ Lib.itoa x.DI ++ [32] ++ Lib.itoa x.Id ++ [32] ++ Lib.itoa x.Set
def KN (x:AE)(k:Nat):List UInt8:=T9 x ++ (if k=0 then [] else [32] ++ tk (CU (FK x)) k)
theorem PK {x:AE}{k:Nat}(h:k < (CU (FK x)).length):KN x k ++ [32] ++ Lib.itoa (at' (CU (FK x)) k)=KN x (k+1):=by
 unfold KN
 rw [if_neg (Nat.succ_ne_zero k),XM h]
 by_cases h0:k=0
 ·rw [if_pos h0,if_pos h0];simp
 ·rw [if_neg h0,if_neg h0];simp
theorem fw {x:AE}(h:FY x)(F:pw x):KN x (CU (FK x)).length=Lib.join (CX x) [32]:=by
 have hn:¬(CU (FK x)).length=0:=by have:=F.n;have:=bK h.b;omega
 unfold KN CX T9
 rw [if_neg hn,IG h.b,ER,if_neg hn]
 simp [Lib.join_cons,Lib.joinTail]
theorem MX {x:AE}(h:FY x)(F:pw x):(Lib.itoa x.At).length≤24∧(CY x.Kind).length≤7∧(Lib.itoa x.Bp).length≤24∧(Lib.itoa x.DI).length≤24∧(Lib.itoa x.Id).length≤24∧(Lib.itoa x.Set).length≤24:=by
 have r1:=HZ.1 F.r
 have p1:=F.peer
 have l1:=Lib.itoa_length_le x.At (by have:=h.mN;omega) (by have:=F.mN;omega)
 have l2:=PQ x.Kind
 have l3:=Lib.itoa_length_le x.Bp (by omega) (by omega)
 have l4:=Lib.itoa_length_le x.DI (by omega) (by omega)
 have l5:=Lib.itoa_length_le x.Id (by have:=h.pR;omega) (by have:=h.qp;omega)
 have l6:=Lib.itoa_length_le x.Set (by have:=F.s0;omega) (by have:=F.s1;omega)
 omega
theorem aW {x:AE}(h:FY x)(F:pw x):∀k,k≤(CU (FK x)).length→(KN x k).length≤200+30 * k:=by
 intro k
 induction k with
 |zero=>
  intro _
  have:=MX h F
  unfold KN T9
  simp only [List.length_append,List.length_cons,List.length_nil,if_true]
  omega
 |succ k ih=>
  intro hk
  have hr:=Vx (b:=FK x) (k:=k) hk
  have l:=Lib.itoa_length_le (at' (CU (FK x)) k) (by omega) (by omega)
  have:=ih (by omega)
  rw [←PK hk]
  simp only [List.length_append,List.length_cons,List.length_nil]
  omega
def QO (hp:Hp)(top:Nat)(x:AE)(k:Nat):SS:=⟨[(1, .pointer (some ⟨top,0,none⟩),true),(4, .string ⟨⟨KN x k⟩⟩,true),(5,AR (top+1) (CU (FK x)),true),(6, .int .i64 (k:Int),true)],hp.Al [(top,some (.cells true 0 (AA.enc x))),(top+1,AV BV (CU (FK x)))],top+2⟩
theorem gy:Aw Tryz.prog 50 DU:=by
 refine .Ep RS ?_ ?_
 ·rintro args hp h
  match args,h with
  | [_],⟨⟨x,rfl,_⟩,_⟩=>rfl
 intro args hp hpre top hcl hsc
 match args,hpre with
 | [_],⟨⟨x,rfl,h⟩,ht,hp1⟩=>
 simp only [Df]
 have ht0:=hcl.lt _ _ ht
 have ht1:=hcl.lt _ _ hp1
 have hI:=Y1 h
 have hE:=Df (x:=x)
 simp only [Cs] at hI hE
 have hb:=MG h
 have ho:=Lx (x:=x)
 refine AK.Ar A7 RS rfl 57 rfl [.tmp 2, .tmp 3] rfl (show 1≤57 by decide) ?_
 by_cases c:LO x=true
 case neg=>
  have e:Hj x= .tuple ⟨[.string ⟨⟨[]⟩⟩, .int .i64 2]⟩:=by unfold Hj C1;rw [if_neg c,if_neg c]
  rw [e]
  have c':LO x=false:=by simpa using c
  refine CW.vc TC [0,1,2,3,4,5,6,9,45] (by kernel_rfl) ?_
  (repeat ((try refine Vc.mk' ?_);simp (maxSteps:=6000000) only [go_sem,Nat.reduceAdd,Int.reduceEq,qT,Ds,hI,hE,c']))
 have F:=okF.1 c
 have r1:=HZ.1 F.r
 have p1:=F.peer
 have u1:Ri x.At=True:=eq_true ⟨h.mN,h.zw⟩
 have u2:Ri x.Id=True:=eq_true ⟨h.pR,by have:=h.qp;omega⟩
 have w2:AP .u64 x.Id=x.Id:=wrap_u64 h.pR (by have:=h.qp;omega)
 have k0:0≤x.Kind:=by have:=F.k0;omega
 have kw:KQ x.Kind=CY x.Kind:=Oj k0
 have q1:0≤x.Bp:=by omega
 have q2:x.Bp≤9223372036854775807:=by omega
 have q3:0≤x.DI:=p1.1
 have q4:x.DI≤9223372036854775807:=by omega
 have q5:=F.s0
 have q6:x.Set≤9223372036854775807:=by have:=F.s1;omega
 have hb0:Lib.itoa x.At ++ [32] ++ CY x.Kind ++ [32] ++ Lib.itoa x.Bp ++ [32] ++ Lib.itoa x.DI ++ [32] ++ Lib.itoa x.Id ++ [32] ++ Lib.itoa x.Set=KN x 0:=by unfold KN T9;rw [if_pos rfl,List.append_nil]
 have hll:(CU (FK x)).length≤256:=Lt 256
 have ev:Hj x= .tuple ⟨[.string ⟨⟨KN x (CU (FK x)).length⟩⟩, .int .i64 0]⟩:=by unfold Hj C1;rw [if_pos c,if_pos c,fw h F]
 rw [ev]
 refine CW.vc TC [0,1,2,3,4,5,6,9,45] (by kernel_rfl) ?_
 (repeat ((try refine Vc.mk' ?_);simp (maxSteps:=6000000) only [go_sem,Nat.reduceAdd,Nat.reduceLT,Nat.reduceLeDiff,qT,xW,vN,qU,Ds,Ih,IY,Co,hI,hE,c,u1,u2,w2,BS ht1,hp1,kw,q1,q2,q3,q4,q5,q6]))
 obtain ⟨l1,l2,l3,l4,l5,l6⟩:=MX h F
 iterate 10 refine ⟨by first | omega | (simp only [List.length_append,List.length_cons,List.length_nil];omega), ?_⟩
 (repeat ((try refine Vc.mk' ?_);simp (maxSteps:=6000000) only [go_sem,Nat.reduceAdd,wZ,Gp,hb,ho]))
 refine CW.Bs (QO hp top x) (fun k=>k≤(CU (FK x)).length) (fun k=>(CU (FK x)).length - k) 0 (by omega) ?_ ?_
 ·exact (by refine Ao.mk' [top,top+1] hcl (by simp) (by simp) rfl (AG ?_) ?_ ?_ <;> simp [Ac,BU,Ax,Bt,AB.nil,AB.cons,A9,BA,Az,Ap,DY,BJ,AD,BF,AJ.set,AJ.refl,Cs,KN,T9,List.append_nil])
 ·intro k hi
  by_cases hlt:k < (CU (FK x)).length
  ·have hc:(k:Int) < ((CU (FK x)).length:Int):=by omega
   have hr:=Vx hlt
   have g1:0≤at' (CU (FK x)) k:=by omega
   have g2:at' (CU (FK x)) k≤9223372036854775807:=by omega
   have kk:AP .i64 ((k:Int)+1)=((k+1:Nat):Int):=CL hlt (by omega)
   have hs:=PK hlt
   have ix:∀ {j:Nat},Af tt.get 122 (AR j (CU (FK x))) (.int .i64 (k:Int))=(BK (AR j (CU (FK x))) k,True):=fun {j}=>by
    have:=aX (BM.own (E:=BV) (hp:=fun _=>AV BV (CU (FK x))) (b:=j) (l:=CU (FK x)) rfl (by omega)) (k:= .i64) (n:=(k:Int)) (by omega) hc
    rwa [Int.toNat_natCast,Nat.mul_one] at this
   have ld:∀ {h':Hp} {j:Nat},h' j=AV BV (CU (FK x))→Ad tt.get h' 3 (BK (AR j (CU (FK x))) k)=(.int .i64 (at' (CU (FK x)) k),True):=fun {h'} {j} e=>by
    have:=jD (BM.own (E:=BV) (hp:=h') (b:=j) (l:=CU (FK x)) e (by omega)) hlt
    rwa [Nat.mul_one] at this
   refine CW.vc TC [0,1,2,3,4,5,6,9,45] (by kernel_rfl) ?_
   have al:=aW h F k (by omega)
   have li:=Lib.itoa_length_le (at' (CU (FK x)) k) (by omega) (by omega)
   have m1:(KN x k).length≤4611686018427387903:=by omega
   have m2:(KN x k ++ [32]).length+(Lib.itoa (at' (CU (FK x)) k)).length≤4611686018427387904:=by
    simp only [List.length_append,List.length_cons,List.length_nil];omega
   (repeat ((try refine Vc.mk' ?_);simp (maxSteps:=6000000) only [go_sem,Nat.reduceLeDiff,qU,Co,QO,ix,ld,hc,g1,g2,kk,hs,BS ht1,hp1,m1,m2]))
   refine .mk (k+1) hlt (by omega) ((by refine Ao.mk' [top,top+1] hcl (by simp) (by simp) rfl (AG ?_) ?_ ?_ <;> simp [Ac,BU,Ax,Bt,AB.nil,AB.cons,A9,BA,Az,Ap,DY,BJ,AD,BF,AJ.set,AJ.refl,Cs]))
  ·have hk:k=(CU (FK x)).length:=by omega
   subst hk
   refine CW.vc TC [0,1,2,3,4,5,6,9,45] (by kernel_rfl) ?_
   (repeat ((try refine Vc.mk' ?_);simp (maxSteps:=6000000) only [go_sem,QO,Nat.lt_irrefl,decide_false]))
end Go.Proofs.YthpibnpeaidabaaGreatDoor.Dm
