/- The event of a line is the event that has the line: plain laws, the other way. -/
import Derived.Test.YthpibnpeaidabaaGreatDoorTL
import Derived.Test.YthpibnpeaidabaaGreatDoorTW
set_option linter.unusedSimpArgs false
set_option linter.unusedVariables false
namespace Go.Proofs.YthpibnpeaidabaaGreatDoor.Dm
open Go.Dm
set_option maxHeartbeats 16000000
set_option maxRecDepth 20000
theorem index_hit:∀(s:List UInt8),¬Lib.index s [32] = -1→∃i:Nat,Lib.index s [32] = (i:Int)∧s=s.take i ++ 32 :: s.drop (i+1)
 | [],h=>absurd (by simp [Lib.index]) h
 |c :: r,h=>by
  by_cases hc:c=32
  ·subst hc
   exact ⟨0,by simp [Lib.index,List.isPrefixOf],by simp⟩
  ·have hp:([32] :List UInt8).isPrefixOf (c :: r)=false:=by
    have:((32:UInt8) == c)=false:=by simpa using fun e=>hc e.symm
    simp [List.isPrefixOf,this]
   by_cases hr:Lib.index r [32] = -1
   ·exact absurd (by simp [Lib.index,hp,hr]) h
   ·obtain ⟨i,h1,h2⟩:=index_hit r hr
    refine ⟨i+1,by simp [Lib.index,hp,h1], ?_⟩
    rw [List.take_succ_cons,List.drop_succ_cons,List.cons_append,←h2]
theorem qH {x:List UInt8}{l:List (List UInt8)}(h:l≠ []):Lib.join (x :: l) [32] = x ++ 32 :: Lib.join l [32]:=by
 obtain ⟨y,r,rfl⟩:=List.exists_cons_of_ne_nil h
 rw [Lib.join_cons,Lib.join_cons]
 simp [Lib.joinTail]
theorem Wa (k:Nat)(s:List UInt8):Lib.splitK [32] 0 k s≠ []:=by
 have:=(JA [32] 0 k s).1
 intro e;rw [e] at this;simp at this
theorem Ks:∀(k:Nat) (s:List UInt8),Lib.join (Lib.splitK [32] 0 k s) [32] = s
 |0,s=>by rw [Lib.splitK,Lib.join_one]
 |k+1,s=>by
  rw [Lib.splitK]
  by_cases h:Lib.index s [32] = -1
  ·rw [if_pos (by simp [h]),Lib.join_one]
  ·rw [if_neg (by simpa using h)]
   obtain ⟨i,h1,h2⟩:=index_hit s h
   rw [h1,Int.toNat_natCast,Nat.add_zero,qH (Wa _ _),Ks k]
   exact h2.symm
theorem Y7 (s:List UInt8):Lib.join (Iw s) [32] = s:=Ks _ _
theorem Ld {s:List UInt8}{B:Nat}(h:K7 s B=true):Lib.itoa (Fu s B:Int)=s:=by
 unfold K7 at h
 rw [Bool.and_eq_true] at h
 simpa using h.2
theorem Zx {s:List UInt8}(h:Mt s=0):FE (G9 s)=s:=by
 rw [Jk (PB s)]
 unfold Mt at h
 split at h
 ·rename_i e
  unfold G9;rw [if_pos e];exact e
 ·exact absurd h (by decide)
theorem fg (s:List UInt8):J6 (X1 s):=by
 have h1:=Ho (wN s 0) 64
 have h2:=Ho (wN s 4) 32
 have z64:(2:Nat) ^ 64=18446744073709551616:=by decide
 have z32:(2:Nat) ^ 32=4294967296:=by decide
 rw [z64] at h1
 rw [z32] at h2
 refine ⟨?_, ?_, ?_, ?_, ?_⟩
 ·show (0:Int)≤(Fu (wN s 0) 64:Int);omega
 ·show (Fu (wN s 0) 64:Int) < _;omega
 ·show (0:Int)≤(Fu (wN s 4) 32:Int);omega
 ·show (Fu (wN s 4) 32:Int) < _;omega
 ·exact PB (wN s 6)
theorem ou {α:Type}[Inhabited α]{l:List α}(h:l.length=7):l= [at' l 0,at' l 1,at' l 2,at' l 3,at' l 4,at' l 5,at' l 6]:=by
 match l,h with
 | [a,b,c,d,e,f,g],_=>rfl
theorem QS {s:List UInt8}{x:Ac}(h:OD s=some x):Qc x=true∧J6 x∧Lib.join (Cn x) [32] = s:=by
 unfold OD at h
 split at h
 ·cases h
 ·rename_i hl
  split at h
  ·rename_i hc
   obtain ⟨hp,hg,ho⟩:=hc
   cases h
   refine ⟨ho,fg s, ?_⟩
   have F:=okF.1 ho
   unfold my at hg
   simp only [Bool.and_eq_true] at hg
   obtain ⟨⟨⟨⟨g0,g2⟩,g3⟩,g4⟩,g5⟩:=hg
   have hlen:(Iw s).length=7:=by have:=LM s;omega
   have e:Cn (X1 s)=Iw s:=by
    have k1:D9 (X1 s).Kind=wN s 1:=ae F.k0
    have k6:FE (Tx (X1 s))=wN s 6:=Zx hp
    rw [ou hlen]
    unfold Cn
    rw [k1,k6]
    show [Lib.itoa (Fu (wN s 0) 64:Int),wN s 1,Lib.itoa (Fu (wN s 2) 31:Int),Lib.itoa (Fu (wN s 3) 31:Int),Lib.itoa (Fu (wN s 4) 32:Int),Lib.itoa (Fu (wN s 5) 31:Int),wN s 6] = _
    rw [Ld g0,Ld g2,Ld g3,Ld g4,Ld g5]
    rfl
   rw [e,Y7]
  ·cases h
theorem cC {s:List UInt8}{x:Ac}(h:OD s=some x):Ik x=s:=by
 obtain ⟨h1,_,h2⟩:=QS h
 unfold Ik;rw [if_pos h1,h2]
theorem Vz {s:List UInt8}{x:Ac}:OD s=some x ↔ J6 x∧Qc x=true∧Ik x=s:=
 ⟨fun h=>⟨(QS h).2.1,(QS h).1,cC h⟩,fun ⟨h1,h2,h3⟩=>by
  unfold Ik at h3;rw [if_pos h2] at h3
  rw [←h3];exact VW h1 h2⟩
end Go.Proofs.YthpibnpeaidabaaGreatDoor.Dm
set_option linter.unusedSimpArgs false
set_option linter.unusedVariables false
namespace Go.Proofs.YthpibnpeaidabaaGreatDoor.Dm
open Go.Dm
set_option maxHeartbeats 16000000
set_option maxRecDepth 20000
def mV:Nat→List UInt8→List Ac→List Ac ⊕ Nat
 |0,_,out=> .inr out.length
 |k+1,s,out=>if s= [] then .inl out else match OD (E9 s).1 with
  |none=> .inr out.length
  |some x=>if (E9 s).2.2=true then mV k (E9 s).2.1 (out ++ [x]) else .inr out.length
def kd (s:List UInt8):List Ac ⊕ Nat:=mV (s.length+1) s []
def FZ (c n:Int):Option A5:=some (.cells true 0 [.int .i64 c, .int .i64 n])
def HD (top:Nat):Value:= .iface 84 (.pointer (some ⟨top,0,none⟩))
def MN (s:List UInt8)(top:Nat):Value×BZ×Nat:=
 if 65536 < s.length then (.tuple ⟨[.slice none 0 0,HD top]⟩, [(top,FZ 3 0)],top+1) else match kd s with
 | .inl out=>(.tuple ⟨[A4 top out, .nilIface]⟩, [(top,Au AU out)],top+1)
 | .inr n=>(.tuple ⟨[.slice none 0 0,HD top]⟩, [(top,FZ 12 n)],top+1)
def HQ:BO:= .det (fun args hp _=>match args with | [.string ⟨⟨s⟩⟩]=>s.length < 4294967281∧B6 hp∧hp 0=some UF | _=>False) (fun args _ top=>match args with | [s]=>MN (strOf s) top | _=>(undef, [],top))
def E1 (s:List UInt8):Nat→List UInt8×List Ac
 |0=>(s, [])
 |k+1=>((E9 (E1 s k).1).2.1,(E1 s k).2 ++ [(OD (E9 (E1 s k).1).1).getD Hb])
theorem Ud (s:List UInt8):(E9 s).1.length≤s.length∧(E9 s).2.1.length≤s.length∧((E9 s).2.2=true→(E9 s).2.1.length < s.length):=by
 unfold E9 Lib.cut
 by_cases h:0≤Lib.index s [10]
 ·rw [if_pos h]
  have hs:0 < s.length:=by
   cases s with
   |nil=>exact absurd h (by simp [Lib.index])
   |cons a r=>simp
  simp only [List.length_take,List.length_drop,List.length_cons,List.length_nil]
  omega
 ·rw [if_neg h];simp
def na (s:List UInt8)(k:Nat):Prop:=kd s=mV (s.length+1 - k) (E1 s k).1 (E1 s k).2∧k+(E1 s k).1.length≤s.length∧(E1 s k).2.length=k
theorem Xn {s:List UInt8}{k:Nat}{x:Ac}(h:na s k)(hn:¬(E1 s k).1= [])(he:OD (E9 (E1 s k).1).1=some x)(hi:(E9 (E1 s k).1).2.2=true):na s (k+1)∧(E1 s (k+1)).1.length < (E1 s k).1.length∧(E1 s (k+1)).2=(E1 s k).2 ++ [x]:=by
 obtain ⟨h1,h2,h3⟩:=h
 have hc:=(Ud (E1 s k).1).2.2 hi
 have e1:(E1 s (k+1)).1=(E9 (E1 s k).1).2.1:=rfl
 have e2:(E1 s (k+1)).2=(E1 s k).2 ++ [x]:=by
  show (E1 s k).2 ++ [(OD (E9 (E1 s k).1).1).getD Hb] = _
  rw [he];rfl
 refine ⟨⟨?_, ?_, ?_⟩, ?_,e2⟩
 ·rw [h1,show s.length+1 - k=(s.length+1 - (k+1))+1 from by omega,mV,if_neg hn,he]
  dsimp only
  rw [if_pos hi,e1,e2]
 ·rw [e1];omega
 ·rw [e2,List.length_append,h3];rfl
 ·rw [e1];exact hc
def qk:FuncId→BO:=Bd pZ 43 I5
theorem MT:B9 Tryz.prog tt.get qk:=Nx.add YL
theorem ZA:qk 43=I5:=rfl
theorem dC:qk 12=CX:=rfl
theorem cA:qk 39=C5:=rfl
def Rr (hp:Hp)(top:Nat)(s:List UInt8)(k:Nat):SS:=⟨[(0, .string ⟨⟨(E1 s k).1⟩⟩,true),(4,A4 top (E1 s k).2,true)],hp.A0 [(top,Au AU (E1 s k).2)],top+1⟩
theorem OH {h':Hp}{x:List UInt8}:DY tt.get h' 9 (.string ⟨⟨x⟩⟩)=(.int .i64 (x.length:Int),True):=by
 unfold DY
 simp only [MU]
 simp [strOf,Nq]
theorem mL:BG Tryz.prog 13 HQ:=by
 refine .Cy QE ?_
 intro args hp top hpre hcl hsc
 match args,hpre with
 | [.string ⟨⟨s⟩⟩],⟨hs,hv,ht⟩=>
 have hv0:=hv
 obtain ⟨hp1,⟨ml,hml⟩,hv3,hv4⟩:=hv0
 have ht0:=hcl.lt _ _ ht
 have ht5:=My hcl hv
 have t2:2 < top:=by omega
 simp only [BV]
 refine Ab.BF BN QE rfl 44 rfl [.tmp 2, .tmp 3] rfl (show 1≤44 by decide) ?_
 by_cases c1:65536 < s.length
 ·have c1':(65536:Int) < (s.length:Int):=by omega
  have e:MN s top=(.tuple ⟨[.slice none 0 0,HD top]⟩, [(top,FZ 3 0)],top+1):=by unfold MN;rw [if_pos c1]
  rw [e]
  refine CW.vc MT [0,2,3,4,5,6,7,8,9,12,17,34] (by kernel_rfl) ?_
  (repeat ((try refine Vc.mk' ?_);simp (maxSteps:=6000000) only [go_sem,reduceIte,reduceCtorEq,Nat.reduceAdd,Nat.reduceMul,Nat.reduceSub,Nat.reduceLT,Nat.reduceLeDiff,Nat.reduceEqDiff,Int.reduceEq,Int.reduceLT,Int.reduceLE,Int.reduceNe,c1',Rv,HD,FZ,OH]))
  (refine ⟨[top],by simp,by simp,by simp, ?_, ?_, ?_⟩ <;> simp [Ag,BJ,BH,Am,AP,AF,AJ.nil,AJ.cons,AB,AD,AM,AA,AQ,AX,AO,Ax.AL,AG,AV,AE,AH,AK.set,AK.Ao,AK.refl])
 have c1':¬(65536:Int) < (s.length:Int):=by omega
 refine CW.vc MT [0,2,3,4,5,6,7,8,9,12,17,34] (by kernel_rfl) ?_
 (repeat ((try refine Vc.mk' ?_);simp (maxSteps:=6000000) only [go_sem,reduceIte,reduceCtorEq,Nat.reduceAdd,Nat.reduceMul,Nat.reduceSub,Nat.reduceLT,Nat.reduceLeDiff,Nat.reduceEqDiff,Int.reduceEq,Int.reduceLT,Int.reduceLE,Int.reduceNe,c1',OH]))
 refine CW.Bx (Rr hp top s) (na s) (fun k=>(E1 s k).1.length) 0 ⟨rfl,by show 0+s.length≤_;omega,rfl⟩ ?_ ?_
 ·exact (by refine A9.mk' [top] hcl (by simp) (by simp) rfl (AZ ?_) ?_ ?_ <;> simp [Ag,BJ,BH,Am,AP,AF,AJ.nil,AJ.cons,AB,AD,AM,AA,AQ,AX,AO,Ax.AL,AG,AV,AE,AH,AK.set,AK.Ao,AK.refl,show (E1 s 0).1=s from rfl,show (E1 s 0).2= [] from rfl,Hf,HI])
 ·intro k hk
  have hk0:=hk
  obtain ⟨h1,h2,h3⟩:=hk0
  have hcl2:=Ud (E1 s k).1
  by_cases c2:(E1 s k).1= []
  ·have e:MN s top=(.tuple ⟨[A4 top (E1 s k).2, .nilIface]⟩, [(top,Au AU (E1 s k).2)],top+1):=by
    unfold MN
    rw [if_neg c1,h1,show s.length+1 - k=(s.length - k)+1 from by omega,mV,if_pos c2]
   rw [e]
   refine CW.vc MT [0,2,3,4,5,6,7,8,9,12,17,34] (by kernel_rfl) ?_
   (repeat ((try refine Vc.mk' ?_);simp (maxSteps:=6000000) only [go_sem,reduceIte,reduceCtorEq,Nat.reduceAdd,Nat.reduceMul,Nat.reduceSub,Nat.reduceLT,Nat.reduceLeDiff,Nat.reduceEqDiff,Int.reduceEq,Int.reduceLT,Int.reduceLE,Int.reduceNe,Rr,c2,GD]))
   (refine ⟨[top],by simp,by simp,by simp, ?_, ?_, ?_⟩ <;> simp [Ag,BJ,BH,Am,AP,AF,AJ.nil,AJ.cons,AB,AD,AM,AA,AQ,AX,AO,Ax.AL,AG,AV,AE,AH,AK.set,AK.Ao,AK.refl])
  ·have hne:NN (E1 s k).1 [] = false:=by rw [Gb];simpa using c2
   have hmx:(∃m,hp 2=some (KI 3 (.int .i64 m)))=True:=eq_true ⟨ml,hml⟩
   have m1:((E1 s k).1.length < 4294967281)=True:=eq_true (by omega)
   have m2:((E9 (E1 s k).1).1.length < 4294967281)=True:=eq_true (by omega)
   have e0:MN s top=match kd s with
     | .inl out=>(.tuple ⟨[A4 top out, .nilIface]⟩, [(top,Au AU out)],top+1)
     | .inr n=>(.tuple ⟨[.slice none 0 0,HD top]⟩, [(top,FZ 12 n)],top+1):=by unfold MN;rw [if_neg c1]
   have eK:kd s=(match OD (E9 (E1 s k).1).1 with
     |none=> .inr (E1 s k).2.length
     |some x=>if (E9 (E1 s k).1).2.2=true then mV (s.length - k) (E9 (E1 s k).1).2.1 ((E1 s k).2 ++ [x]) else .inr (E1 s k).2.length):=by
    rw [h1,show s.length+1 - k=(s.length - k)+1 from by omega,mV,if_neg c2]
   cases he:OD (E9 (E1 s k).1).1 with
   |none=>
    have e:MN s top=(.tuple ⟨[.slice none 0 0,HD top]⟩, [(top,FZ 12 k)],top+1):=by rw [e0,eK,he];dsimp only;rw [h3]
    rw [e]
    refine CW.vc MT [0,2,3,4,5,6,7,8,9,12,17,34] (by kernel_rfl) ?_
    (repeat ((try refine Vc.mk' ?_);simp (maxSteps:=6000000) only [go_sem,reduceIte,reduceCtorEq,Nat.reduceAdd,Nat.reduceMul,Nat.reduceSub,Nat.reduceLT,Nat.reduceLeDiff,Nat.reduceEqDiff,Int.reduceEq,Int.reduceLT,Int.reduceLE,Int.reduceNe,Rr,hne,ZA,dC,cA,I5,CX,C5,bp,m1,m2,hv,ht,hmx,Cq ht5,BI ht0,BI t2,VC,he,h3,Kl,Jq,HD,FZ,Bool.or_true]))
    (refine ⟨[top+3],by simp,by simp,by simp, ?_, ?_, ?_⟩ <;> simp [Ag,BJ,BH,Am,AP,AF,AJ.nil,AJ.cons,AB,AD,AM,AA,AQ,AX,AO,Ax.AL,AG,AV,AE,AH,AK.set,AK.Ao,AK.refl])
   |some x=>
    cases hi:(E9 (E1 s k).1).2.2 with
    |false=>
     have e:MN s top=(.tuple ⟨[.slice none 0 0,HD top]⟩, [(top,FZ 12 k)],top+1):=by rw [e0,eK,he];dsimp only;rw [hi,if_neg (by simp)];dsimp only;rw [h3]
     rw [e]
     refine CW.vc MT [0,2,3,4,5,6,7,8,9,12,17,34] (by kernel_rfl) ?_
     (repeat ((try refine Vc.mk' ?_);simp (maxSteps:=6000000) only [go_sem,reduceIte,reduceCtorEq,Nat.reduceAdd,Nat.reduceMul,Nat.reduceSub,Nat.reduceLT,Nat.reduceLeDiff,Nat.reduceEqDiff,Int.reduceEq,Int.reduceLT,Int.reduceLE,Int.reduceNe,Rr,hne,ZA,dC,cA,I5,CX,C5,bp,m1,m2,hv,ht,hmx,Cq ht5,BI ht0,BI t2,VC,he,hi,h3,Kl,Jq,HD,FZ,Bool.or_true]))
     (refine ⟨[top+2],by simp,by simp,by simp, ?_, ?_, ?_⟩ <;> simp [Ag,BJ,BH,Am,AP,AF,AJ.nil,AJ.cons,AB,AD,AM,AA,AQ,AX,AO,Ax.AL,AG,AV,AE,AH,AK.set,AK.Ao,AK.refl])
    |true=>
     obtain ⟨n1,n2,n3⟩:=Xn hk c2 he hi
     have n4:(E1 s (k+1)).1=(E9 (E1 s k).1).2.1:=rfl
     have hap:∀ {h':Hp} {j q t:Nat},h' j=Au AU (E1 s k).2→h' q=some (.cells true 10 (AU.enc x))→A6 tt.get h' t [22,22] (A4 j (E1 s k).2) (.slice (some ⟨q,0,none⟩) 1 1)=some (A4 t ((E1 s k).2 ++ [x]),FK j (E1 s k).2 t (Au AU ((E1 s k).2 ++ [x])),t+1):=fun {h'} {j} {q} {t} a1 a2=>by
      have e3:cellsOf (h' q)=AU.enc x:=by rw [a2];rfl
      have:=Ko (hp:=h') (b:=j) (top:=t) (k:=q) a1 (by rw [e3];exact a2) (by rw [e3,AU.h]) (Ml (by omega) (by decide))
      rwa [e3,AU.h] at this
     simp only [Cs] at hap
     refine CW.vc MT [0,2,3,4,5,6,7,8,9,12,17,34] (by kernel_rfl) ?_
     (repeat ((try refine Vc.mk' ?_);simp (maxSteps:=6000000) only [go_sem,reduceIte,reduceCtorEq,Nat.reduceAdd,Nat.reduceMul,Nat.reduceSub,Nat.reduceLT,Nat.reduceLeDiff,Nat.reduceEqDiff,Int.reduceEq,Int.reduceLT,Int.reduceLE,Int.reduceNe,Rr,hne,ZA,dC,cA,I5,CX,C5,bp,m1,m2,hv,ht,hmx,Cq ht5,BI ht0,BI t2,VC,he,hi,h3,Kl,Jq,HD,FZ,Bool.or_true,hap]))
     refine .mk (k+1) n1 n2 ((by refine A9.mk' [top+3] hcl (by simp) (by simp) rfl (AZ ?_) ?_ ?_ <;> simp [Ag,BJ,BH,Am,AP,AF,AJ.nil,AJ.cons,AB,AD,AM,AA,AQ,AX,AO,Ax.AL,AG,AV,AE,AH,AK.set,AK.Ao,AK.refl,n3,n4]))
end Go.Proofs.YthpibnpeaidabaaGreatDoor.Dm
