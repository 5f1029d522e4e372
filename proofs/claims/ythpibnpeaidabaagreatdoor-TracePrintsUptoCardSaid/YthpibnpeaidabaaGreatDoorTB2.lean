import Derived.Test.YthpibnpeaidabaaGreatDoorTB1
import Derived.Lib.ItoaLen
import Derived.Lib.ItoaMem
import Derived.Shelf.Spec.TrailingZeros
set_option linter.unusedVariables false
namespace Go.Proofs.YthpibnpeaidabaaGreatDoor.Dm
open Go.Dm
set_option maxHeartbeats 16000000
def UD (b:Nat):Value:= .func (.func 88) ⟨[]⟩ ⟨[.pointer (some ⟨b,0,none⟩)]⟩
def Ly:BG:= .det (fun args _ _=>match args with | [v]=>H3 v | _=>False) (fun args _ top=>match args with | [v]=>(UD top, [(top,some (.cells true 0 (bl (iz v))))],top+1) | _=>(undef, [],top))
theorem nN:Aw Tryz.prog 61 Ly:=by
 refine .Cg P6 ?_
 intro args hp top hpre hcl hsc
 match args,hpre with
 | [_],⟨b,rfl,hb⟩=>
 simp only [GH]
 refine AK.Ar A7 P6 rfl 4 rfl [.tmp 2] rfl (show 1≤4 by decide) ?_
 refine CW.vc wX [0,1,2] (by kernel_rfl) ?_
 (repeat ((try refine Vc.mk' ?_);simp (maxSteps:=6000000) only [go_sem,ES,EN]))
 (refine ⟨[top],by simp,by simp,by simp, ?_, ?_, ?_⟩ <;> simp [Ax,Bt,AB.nil,AB.cons,A9,BA,Ap,AD,AJ.set,AJ.refl,UD,HK])
def G3:=BQ G2 61 Ly
theorem AAU:B4 Tryz.prog tt.get G3:=wX.add nN
def G4:=BQ (BQ (BQ G3 89 UR) 35 Co) 37 Iv
theorem VB:B4 Tryz.prog tt.get G4:=((AAU.add pz).add nF).add oL
theorem nI:G4 61=Ly:=rfl
theorem kz:G4 35=Co:=rfl
theorem jl:G4 37=Iv:=rfl
def Vw (x:Bn):List UInt8:=Lib.itoa x.1
def S5 (hp:Hp)(top:Nat)(b:AX)(pre:List Bn):Hp×Nat:=(hp.Al [(top,some (.cells true 0 (bl b))),(top+1,some (.cells true 0 [AR (top+3) (pre.map Vw)])),(top+2,some (.cells true 0 (bl b))),(top+3,AV AU (pre.map Vw))],top+4)
theorem lD (x:Bn):(Vw x).length≤21:=Lib.itoa_length_le _ (by have:=x.2.1;omega) (by have:=x.2.2;omega)
theorem UB:∀l:List Bn,Lib.lens (l.map Vw)≤21 * l.length
 | []=>by simp [Lib.lens]
 |x :: l=>by
  have h1:=lD x
  have h2:=UB l
  simp only [Lib.lens,List.map_cons,List.length_cons,List.sum_cons] at *
  omega
theorem fA (l:List Bn)(h:l.length≤256):(Lib.join (l.map Vw) [32]).length≤140737488355328:=by
 cases l with
 |nil=>simp [Lib.join_nil]
 |cons x r=>
  have:=UB (x :: r)
  rw [List.map_cons,Lib.join_length]
  simp only [List.map_cons,List.length_cons,List.length_map,List.length_nil] at *
  omega
def FX (b:AX):List UInt8:=if (CJ b).length=0 then [45] else Lib.join ((CJ b).map Vw) [32]
def Kl:BG:= .pure (fun args hp=>match args with | [v]=>H3 v∧hp 0=some U9∧hp 1=some Rb | _=>False) (fun args _=>match args with | [v]=> .string ⟨⟨FX (iz v)⟩⟩ | _=>undef)
theorem N8:∀(us:BZ) (hp:Hp) i o,(hp.Al us) i=some o→(∃p∈us,p.1=i∧p.2=some o)∨((∀p∈us,p.1≠i)∧hp i=some o):=by
 intro us
 induction us with
 |nil=>intro hp i o h;exact .inr ⟨fun _ h=>(by cases h),h⟩
 |cons p us ih=>
  intro hp i o h
  obtain ⟨a,x⟩:=p
  rw [CA] at h
  rcases ih _ i o h with ⟨p,h1,h2,h3⟩ | ⟨h1,h2⟩
  ·exact .inl ⟨p,List.mem_cons_of_mem _ h1,h2,h3⟩
  ·by_cases e:i=a
   ·subst e
    rw [AD] at h2
    exact .inl ⟨(i,x),List.mem_cons_self ..,rfl,h2⟩
   ·rw [BF _ _ _ _ e] at h2
    refine .inr ⟨?_,h2⟩
    intro p hp'
    cases hp' with
    |head=>exact fun e'=>e e'.symm
    |tail _ h=>exact h1 p h
theorem NL:∀(us:BZ) (hp:Hp) (i:Nat),(∀p∈us,i≠p.1)→(hp.Al us) i=hp i:=by
 intro us
 induction us with
 |nil=>intro hp i h;rfl
 |cons p us ih=>
  intro hp i h
  obtain ⟨a,x⟩:=p
  rw [CA,ih _ _ (fun p hp'=>h p (List.mem_cons_of_mem _ hp')),BF _ _ _ _ (h (a,x) (List.mem_cons_self ..))]
theorem Zp {hp:Hp}{top b1:Nat}{us us0:BZ}(hcl:Cl hp top)(hb:top≤b1)(h1:∀p∈us,∀o,p.2=some o→o.iU)(h0:∀p∈us0,top≤p.1):RE b1 (hp.Al us0) (hp.Al us):=by
 intro i o e
 rcases N8 us hp i o e with ⟨p,h2,_,h4⟩ | ⟨_,h2⟩
 ·exact .inl (h1 p h2 o h4)
 ·have:=hcl.lt i o h2
  exact .inr ⟨by omega,o,by rw [NL us0 hp i (fun p hp'=>by have:=h0 p hp';omega)];exact h2⟩
theorem fC {α:Type}{E:Bk α}{l:List α}:∀o,AV E l=some o→o.iU:=by
 intro o e
 cases l with
 |nil=>cases e
 |cons a l=>cases e;trivial
def uz (n:Nat):B0→Prop
 | []=>True
 | (_,v,_) :: l=>Sc n v∧uz n l
theorem uz.of {n:Nat}:∀ {fr:B0},uz n fr→∀t v,GY fr t=some v→Sc n v
 | [],_,_,_,h=>by cases h
 | (j,x,g) :: l,⟨h1,h2⟩,t,v,hv=>by
  simp only [GY,BU] at hv
  cases hb:Nat.beq j t with
  |true=>
   rw [hb] at hv
   cases hv
   cases g with
   |true=>exact h1
   |false=>simp [undef,Sc,F5]
  |false=>rw [hb] at hv;exact uz.of h2 t v hv
mutual
theorem jt {n m:Nat}(hm:n≤m):∀ {v:Value},Sc n v→Sc m v
 | .bool _,_=>trivial
 | .int _ _,_=>trivial
 | .float _ _,_=>trivial
 | .complex _ _ _,_=>trivial
 | .string _,_=>trivial
 | .pointer none,_=>trivial
 | .pointer (some ⟨_,_,_⟩),h=>Nat.lt_of_lt_of_le h hm
 | .slice none _ _,_=>trivial
 | .slice (some ⟨_,_,none⟩) _ _,h=>Nat.lt_of_lt_of_le h hm
 | .slice (some ⟨_,_,some _⟩) _ _,_=>trivial
 | .map none,_=>trivial
 | .map (some _),h=>Nat.lt_of_lt_of_le h hm
 | .chan _,_=>trivial
 | .func _ ⟨_⟩ ⟨_⟩,h=>⟨PD hm h.1,PD hm h.2⟩
 | .nilFunc,_=>trivial
 | .iface _ v,h=>jt (v:=v) hm h
 | .nilIface,_=>trivial
 | .agg ⟨l⟩,h=>PD (l:=l) hm h
 | .tuple ⟨l⟩,h=>PD (l:=l) hm h
theorem PD {n m:Nat}(hm:n≤m):∀ {l:List Value},F5 n l→F5 m l
 | [],_=>trivial
 |_ :: _,h=>⟨jt hm h.1,PD hm h.2⟩
end
theorem AAr {hp:Hp}{n m:Nat}(h:Cl hp n)(hm:n≤m):Cl hp m:=by
 refine ⟨fun i o e=>Nat.lt_of_lt_of_le (h.lt i o e) hm,fun i o e=> ?_⟩
 have:=h.sc i o e
 cases o with
 |cells rw z vs=>exact PD hm this
 |map es clk=>exact fun e he=>⟨jt hm (this e he).1,jt hm (this e he).2⟩
 |iter s p=>trivial
 |miter m s c l=>exact Nat.lt_of_lt_of_le this hm
 |raw b vs=>trivial
theorem Wg:Aw Tryz.prog 36 Kl:=by
 refine .Ep RC ?_ ?_
 ·rintro args hp h
  match args,h with
  | [_],⟨⟨b,rfl,hb⟩,_⟩=>rfl
 intro args hp hpre top hcl hsc
 match args,hpre with
 | [_],⟨⟨b,rfl,hb⟩,ht,hp1⟩=>
 simp only [GH]
 have hIb:=Kr hb
 have ht0:=hcl.lt _ _ ht
 have ht1:=hcl.lt _ _ hp1
 refine AK.jB A7 RC rfl 18 rfl [.tmp 2] rfl (show 1≤18 by decide) ?_
 refine CT.seq (CT.of (CW.vc VB [0,1,2,3,4,6,15] (by kernel_rfl) ?_))
 (repeat ((try refine Vc.mk' ?_);simp (maxSteps:=6000000) only [go_sem]))
 refine CT.seq (CT.of (CW.vc VB [0,1,2,3,4,6,15] (by kernel_rfl) ?_))
 (repeat ((try refine Vc.mk' ?_);simp (maxSteps:=6000000) only [go_sem,Nat.reduceAdd]))
 refine CT.seq (CT.seq (CT.of (CW.vc VB [0,1,2,3,4,6,15] (by kernel_rfl) ?_)))
 (repeat ((try refine Vc.mk' ?_);simp (maxSteps:=6000000) only [go_sem,reduceCtorEq,Nat.reduceAdd,EI,HO,GH,nI,Ly,hIb]))
 refine CT.block ?_
 refine CT.range (g:= .tmp 6) (p:=7) (q:=4) (Sd:=fun xs=>xs=CJ b) (Sp:=fun pre=>pre <+:CJ b) (N:=(CJ b).length) A7 Tryz.f88 (by kernel_rfl) QB.toFTOk (top+3) ?hb1
  [(1, .pointer (some ⟨top,0,none⟩),true),(3, .pointer (some ⟨top+1,0,none⟩),true),(6,UD (top+2),true)] (S5 hp top b) (fun _ _ _=>False) lU (fun _=>rfl) ?hp ?hq ?ho ?hd ?hgd [.pointer (some ⟨top+2,0,none⟩)] rfl
  ?h0 ?ht ?hfr ?hfl ?hfX iq ?hT lC ?hit ?hround ?hdone ?hret ?hexit
 case hb1=>exact Nat.le_add_right _ _
 case ho=>rfl
 case hd=>rfl
 case hgd=>rfl
 case hp=>decide
 case hq=>decide
 case h0=>exact (by refine Ao.mk' [top,top+1,top+2,top+3] hcl (by simp) (by simp) rfl (AG ?_) ?_ ?_ <;> simp [Ac,BU,Ax,Bt,AB.nil,AB.cons,A9,BA,Ap,DY,AD,BF,AJ.set,AJ.refl,HK,UD,EC,Et])
 case ht=>exact fun pre=>Nat.le_succ _
 case hfr=>exact uz.of (by simp [uz,Sc,F5,UD])
 case hfl=>
  refine fun pre=>Zp hcl (by omega) ?_ (by simp)
  intro p hp' o e
  simp only [List.mem_cons,List.not_mem_nil,or_false] at hp'
  rcases hp' with rfl | rfl | rfl | rfl
  ·cases e;trivial
  ·cases e;trivial
  ·cases e;trivial
  ·exact fC o e
 case hfX=>exact fun _ _ _ h=>h.elim
 case hT=>
  intro pre φ own W H
  refine gM H ?_
  show hp.Al _ 0=_
  rw [NL _ _ _ (by simp;omega)];exact ht
 case hit=>
  intro φ own W caps' hV H
  exact V5 b hb (by show hp.Al _ 0=_;rw [NL _ _ _ (by simp;omega)];exact ht) (gb:=top+2) (rw:=true) (by simp [S5,CA,DQ,AD,BF,bl]) hV H
 case hround=>
  intro pre x hlen
  refine CW.vc VB [0,1,2,3,4,6,15] (by kernel_rfl) ?_
  have hx0:0≤x.1:=by have:=x.2.1;omega
  have hx1:x.1≤9223372036854775807:=by have:=x.2.2;omega
  have hll:(pre.map Vw).length < 16777216:=by have:=Io hb;simp;omega
  have hll2:pre.length < 16777216:=by have:=Io hb;omega
  have htx:Lib.itoa x.1=Vw x:=rfl
  (repeat ((try refine Vc.mk' ?_);simp (maxSteps:=6000000) only [go_sem,Nat.reduceAdd,Nat.reduceLeDiff,Nat.reduceEqDiff,Nat.mul_one,S5,lU,kz,Co,hx0,hx1,BS ht1,hp1,htx,hll2,List.length_map]))
  have e0:top < top+3:=by omega
  have e1:top+1 < top+3:=by omega
  have e2:top+2 < top+3:=by omega
  refine Ao.mk' (hp:=hp) [top+5] (AAr hcl (by omega)) (by simp) (by simp) rfl (AG (by simp [Ac])) (by simp [AJ.set,AJ.A5,AJ.refl]) ?_
  simp [Bt,AB.nil,AB.cons,A9,BA,Az,Ap,BJ,AD,BF,HK,AM e0,AM e1,AM e2]
 case hdone=>
  rintro xs rfl
  refine CT.seq (CT.of (CW.vc VB [0,1,2,3,4,6,15] (by kernel_rfl) ?_))
  have hml:((CJ b).map Vw).length≤256:=by rw [List.length_map];exact Io hb
  have hbl:=Io hb
  have hob:(((hp.set top (some (Ay.cells true 0 (bl b)))).set (top+1) (some (Ay.cells true 0 [AR (top+3) (List.map Vw (CJ b))]))).set (top+2) (some (Ay.cells true 0 (bl b)))).set (top+3) (AV AU (List.map Vw (CJ b))) (top+3)=AV AU (List.map Vw (CJ b)):=AD ..
  have hP:=pc hob (by omega)
  have hR:=dq hob (by omega)
  have hJ:=fA _ hbl
  have hm2:(CJ b).length≤140737488355328:=by omega
  (repeat ((try refine Vc.mk' ?_);simp (maxSteps:=6000000) only [go_sem,Nat.reduceEqDiff,S5]))
  refine JN.mk (fun c=> ?_) (fun c=> ?_)
  ·(repeat ((try refine Vc.mk' ?_);simp (maxSteps:=6000000) only [go_sem]))
   have c2:(CJ b).length=0:=by simpa using c
   simp [FX,c2]
  ·have c2:¬(CJ b).length=0:=by simpa using c
   refine CT.of (CW.vc VB [0,1,2,3,4,6,15] (by kernel_rfl) ?_)
   (repeat ((try refine Vc.mk' ?_);simp (maxSteps:=6000000) only [go_sem,Nat.reduceEqDiff,jl,Iv,hP,hR,hJ,hm2,List.length_map]))
   rw [show FX b=Lib.join ((CJ b).map Vw) [32] from if_neg c2]
 case hret=>exact fun _ _ _ h=>h.elim
 case hexit=>exact fun _ _ _ _ h=>h.elim
theorem Wj {d:Nat}{x y:Int}:Em tt.get (d+1) 28 (.int .u64 x) (.int .u64 y)=some (decide (x=y)):=by
 simp [Em,IA,K6,MB]
theorem Fo {xs ys:List Value}{d i n:Nat}{x y:Int}(h1:DE K6 xs (i * 1)=some (.int .u64 x))(h2:DE K6 ys (i * 1)=some (.int .u64 y)) :
  eqItems tt.get (d+2) 28 K6 xs ys i (n+1)=if x=y then eqItems tt.get (d+1) 28 K6 xs ys (i+1) n else some false:=by
 have hs:K6.size=1:=rfl
 simp only [eqItems,hs,h1,h2,Wj]
 by_cases h:x=y <;> simp [h]
theorem RP {xs ys:List Value}{d e i:Nat}{j:TI}:eqItems tt.get (d+1) e j xs ys i 0=some true:=by rw [eqItems]
def OQ (x:Int)(k:Int):Int:=x.fdiv (Int.ofNat (Nat.pow 2 ((Int.toNat k).min 64)))
def oc1 (x:Int):Int:=AP .u64 (EH .and .u64 (OQ x 1) 6148914691236517205+EH .and .u64 x 6148914691236517205)
def oc2 (x:Int):Int:=AP .u64 (EH .and .u64 (OQ x 2) 3689348814741910323+EH .and .u64 x 3689348814741910323)
def oc3 (x:Int):Int:=EH .and .u64 (AP .u64 (OQ x 4+x)) 1085102592571150095
def qk (k:Int)(x:Int):Int:=AP .u64 (x+OQ x k)
def SQ (x:Int):Int:=EH .and .i64 (AP .i64 (qk 32 (qk 16 (qk 8 (oc3 (oc2 (oc1 x))))))) 127
def X0:BG:= .pure (fun args _=>match args with | [.int .u64 x]=>Ri x | _=>False) (fun args _=>match args with | [x]=> .int .i64 (SQ (intOf x)) | _=>undef)
theorem AAg {hp:Hp}{x:Value}:BX tt.get hp 28 3 x=(.int .i64 (AP .i64 (intOf x)),Hs x):=NQ Dd JD
theorem vh:Aw Tryz.prog 81 X0:=by
 refine .mkPure RR ?_
 intro args hp hpre top
 match args,hpre with
 | [.int .u64 x],⟨h0,h1⟩=>
 refine AK.Ar A7 RR rfl 35 rfl [.tmp 2] rfl (show 1≤35 by decide) ?_
 refine CW.vc Da [0,2] (by kernel_rfl) ?_
 (repeat ((try refine Vc.mk' ?_);simp (maxSteps:=6000000) only [go_sem,Int.reduceLE,AAg]))
 rfl
theorem MJ (x:Int):0≤SQ x∧SQ x≤127:=by
 unfold SQ
 generalize AP .i64 _=y
 have h:(BitVec.ofInt 64 y &&& BitVec.ofInt 64 127).toNat≤127:=by
  rw [BitVec.toNat_and]
  exact Nat.le_trans Nat.and_le_right (by decide)
 show 0≤IntKind.i64.wrap ((BitVec.ofInt 64 y &&& BitVec.ofInt 64 127).toNat:Int)∧IntKind.i64.wrap ((BitVec.ofInt 64 y &&& BitVec.ofInt 64 127).toNat:Int)≤127
 rw [←CS,wrap64 (by omega) (by omega)]
 omega
def U3 (b:AX):Nat→Int
 |0=>0
 |i+1=>U3 b i+SQ (wn b i:Int)
theorem Oa {b:AX}:∀i,0≤U3 b i∧U3 b i≤127 * i
 |0=>by simp [U3]
 |i+1=>by
  have h1:=Oa (b:=b) i
  have h2:=MJ (wn b i:Int)
  simp only [U3]
  omega
def G5:=BQ G4 81 X0
theorem ja:B4 Tryz.prog tt.get G5:=VB.add vh
theorem yB:G5 81=X0:=rfl
def ID:BG:= .pure (fun args _=>match args with | [v]=>H3 v | _=>False) (fun args _=>match args with | [v]=> .int .i64 (U3 (iz v) 4) | _=>undef)
def dt (hp:Hp)(top:Nat)(b:AX)(i:Nat):SS:=⟨[(3, .int .i64 (U3 b i),true),(6, .agg ⟨bl b⟩,true),(7, .int .i64 (i:Int),true)],hp.Al [(top,some (.cells true 0 (bl b)))],top+1⟩
theorem Tx:Aw Tryz.prog 56 ID:=by
 refine .Ep Qp ?_ ?_
 ·rintro args hp h
  match args,h with
  | [_],⟨b,rfl,hb⟩=>rfl
 intro args hp hpre top hcl hsc
 match args,hpre with
 | [_],⟨b,rfl,hb⟩=>
 refine AK.Ar A7 Qp rfl 16 rfl [.tmp 2] rfl (show 1≤16 by decide) ?_
 refine CW.vc ja [0,1,2,3,5,6,7,8] (by kernel_rfl) ?_
 (repeat ((try refine Vc.mk' ?_);simp (maxSteps:=6000000) only [go_sem,EI,HO,GH]))
 refine CW.Bs (dt hp top b) (fun k=>k≤4) (fun k=>4 - k) 0 (by omega) ?_ ?_
 ·exact (by refine Ao.mk' [top] hcl (by simp) (by simp) rfl (AG ?_) ?_ ?_ <;> simp [Ac,BU,Ax,AB.nil,AB.cons,A9,BA,Ap,AD,AJ.set,AJ.refl,HK,U3])
 ·rintro i hi
  by_cases hlt:i < 4
  ·have h4:(i:Int) < 4:=by omega
   have h3:i≤3:=by omega
   have hu:Ri (wn b i:Int)=True:=eq_true ⟨by omega,by have:=Gr hb i;omega⟩
   refine CW.vc ja [0,1,2,3,5,6,7,8] (by kernel_rfl) ?_
   (repeat ((try refine Vc.mk' ?_);simp (maxSteps:=6000000) only [go_sem,EI,Nat.mul_one,dt,hlt,h4,Hb,Int.toNat_natCast,V9 hb hlt,yB,X0,hu]))
   have hw:AP .i64 (U3 b i+SQ (wn b i:Int))=U3 b (i+1):=by
    have h1:=Oa (b:=b) i
    have h2:=MJ (wn b i:Int)
    rw [wrap64 (by omega) (by omega)];rfl
   refine .mk (i+1) hlt (by omega) ((by refine Ao.mk' [top] hcl (by simp) (by simp) rfl (AG ?_) ?_ ?_ <;> simp [Ac,BU,Ax,AB.nil,AB.cons,A9,BA,Ap,AD,AJ.set,AJ.refl,HK,CL hlt (by decide),hw]))
  ·have hi4:i=4:=by omega
   have h4:¬(i:Int) < 4:=by omega
   refine CW.vc ja [0,1,2,3,5,6,7,8] (by kernel_rfl) ?_
   (repeat ((try refine Vc.mk' ?_);simp (maxSteps:=6000000) only [go_sem,dt,h4]))
   rw [hi4]
theorem WY {α:Type}[Inhabited α]{l:List α}{k:Nat}(h:k < l.length):l.drop k=at' l k :: l.drop (k+1):=by rw [DV _ _ h];exact List.drop_eq_getElem_cons h
def G6:=BQ (BQ G5 56 ID) 36 Kl
theorem zz:B4 Tryz.prog tt.get G6:=(ja.add Tx).add Wg
def zA:=G6
theorem cY:B4 Tryz.prog tt.get zA:=zz
def C3 (x:Nat):Nat→Nat
 |0=>0
 |n+1=>C3 x n+(x.testBit n).toNat
theorem LK {x:Nat}:∀n,((List.range n).filter fun j=>x.testBit j).length=C3 x n
 |0=>rfl
 |n+1=>by
  rw [List.range_succ,List.filter_append,List.length_append,LK n,C3]
  cases h:x.testBit n <;> simp [h]
theorem ry {i w:Nat}:(wf i w).length=C3 w 64:=by
 unfold wf;rw [List.length_map,LK]
theorem YZ {b:AX}(hb:Fs b):(CJ b).length=C3 (wn b 0) 64+(C3 (wn b 1) 64+(C3 (wn b 2) 64+C3 (wn b 3) 64)):=by
 rw [H4]
 simp only [List.length_append,gA _ (Gr hb _),ry]
theorem Ib {w k:Nat}:OQ (w:Int) (k:Int)=((w / 2 ^ (min k 64):Nat):Int):=by
 unfold OQ
 rw [Int.toNat_natCast]
 exact (Int.ofNat_fdiv w _).symm
def mk (m:Nat):Nat→Nat
 |0=>0
 |n+1=>m+256 * mk m n
theorem Gs {c m y M:Nat}(hc:c < 256)(hm:m < 256):(c+256 * y) &&& (m+256 * M)=(c &&& m)+256 * (y &&& M):=by
 have e1:c+256 * y=2 ^ 8 * y+c:=by omega
 have e2:m+256 * M=2 ^ 8 * M+m:=by omega
 have hcm:c &&& m < 2 ^ 8:=Nat.lt_of_le_of_lt Nat.and_le_left hc
 have e3:(c &&& m)+256 * (y &&& M)=2 ^ 8 * (y &&& M)+(c &&& m):=by omega
 rw [e1,e2,e3]
 refine Nat.eq_of_testBit_eq fun j=> ?_
 rw [Nat.testBit_and,Nat.testBit_two_pow_mul_add _ hc,Nat.testBit_two_pow_mul_add _ hm,Nat.testBit_two_pow_mul_add _ hcm]
 split <;> rw [Nat.testBit_and]
def n1 (M x:Nat):Nat:=(x / 2 &&& M)+(x &&& M)
def n2 (M x:Nat):Nat:=(x / 4 &&& M)+(x &&& M)
def n3 (M x:Nat):Nat:=(x / 16+x) &&& M
theorem b1:∀c:Fin 256,∀d:Fin 2,(c.val / 2+128 * d.val) &&& 85=c.val / 2 &&& 85:=by decide +kernel
theorem b2:∀c:Fin 256,∀d:Fin 4,(c.val / 4+64 * d.val) &&& 51=c.val / 4 &&& 51:=by decide +kernel
theorem b12:∀c:Fin 256,n1 85 c.val < 256∧n2 51 (n1 85 c.val) < 256∧n2 51 (n1 85 c.val) % 16≤4∧n2 51 (n1 85 c.val) / 16≤4∧n3 15 (n2 51 (n1 85 c.val))=C3 c.val 8:=by decide +kernel
theorem b3:∀c:Fin 5,∀e:Fin 5,∀d:Fin 5,(e.val+16 * d.val+(c.val+16 * e.val)) &&& 15=(e.val+(c.val+16 * e.val)) &&& 15:=by decide +kernel
theorem Td {c y M:Nat}(hc:c < 256):n1 (85+256 * M) (c+256 * y)=n1 85 c+256 * n1 M y:=by
 unfold n1
 have e:(c+256 * y) / 2=(c / 2+128 * (y % 2))+256 * (y / 2):=by omega
 rw [e,Gs (by omega) (by decide),Gs hc (by decide),show (c / 2+128 * (y % 2)) &&& 85=c / 2 &&& 85 from b1 ⟨c,hc⟩ ⟨y % 2,by omega⟩]
 omega
theorem TF {c y M:Nat}(hc:c < 256):n2 (51+256 * M) (c+256 * y)=n2 51 c+256 * n2 M y:=by
 unfold n2
 have e:(c+256 * y) / 4=(c / 4+64 * (y % 4))+256 * (y / 4):=by omega
 rw [e,Gs (by omega) (by decide),Gs hc (by decide),show (c / 4+64 * (y % 4)) &&& 51=c / 4 &&& 51 from b2 ⟨c,hc⟩ ⟨y % 4,by omega⟩]
 omega
def o6 (x:Nat):Nat→Nat
 |0=>0
 |n+1=>C3 (x % 256) 8+256 * o6 (x / 256) n
theorem lP {x:Nat}:∀n,n2 (mk 51 n) (n1 (mk 85 n) x) % 16≤4
 |0=>by simp [mk,n2]
 |n+1=>by
  have h:n1 85 (x % 256) < 256∧n2 51 (n1 85 (x % 256)) < 256∧n2 51 (n1 85 (x % 256)) % 16≤4∧n2 51 (n1 85 (x % 256)) / 16≤4∧n3 15 (n2 51 (n1 85 (x % 256)))=C3 (x % 256) 8:=b12 ⟨x % 256,by omega⟩
  have e:x=x % 256+256 * (x / 256):=by omega
  have e1:n1 (mk 85 (n+1)) x=n1 85 (x % 256)+256 * n1 (mk 85 n) (x / 256):=by
   conv=>lhs;rw [e]
   exact Td (by omega)
  rw [e1,show mk 51 (n+1)=51+256 * mk 51 n from rfl,TF h.1]
  have:=h.2.2.1
  omega
theorem de:∀(n x:Nat),n3 (mk 15 n) (n2 (mk 51 n) (n1 (mk 85 n) x))=o6 x n
 |0,x=>by simp [mk,n3,o6]
 |n+1,x=>by
  have h:n1 85 (x % 256) < 256∧n2 51 (n1 85 (x % 256)) < 256∧n2 51 (n1 85 (x % 256)) % 16≤4∧n2 51 (n1 85 (x % 256)) / 16≤4∧n3 15 (n2 51 (n1 85 (x % 256)))=C3 (x % 256) 8:=b12 ⟨x % 256,by omega⟩
  have hl:=lP (x:=x / 256) n
  have ih:=de n (x / 256)
  have e:x=x % 256+256 * (x / 256):=by omega
  have e1:n1 (mk 85 (n+1)) x=n1 85 (x % 256)+256 * n1 (mk 85 n) (x / 256):=by
   conv=>lhs;rw [e]
   exact Td (by omega)
  rw [e1,show mk 51 (n+1)=51+256 * mk 51 n from rfl,show mk 15 (n+1)=15+256 * mk 15 n from rfl,TF h.1,o6,←ih,←h.2.2.2.2]
  obtain ⟨h1,h2,h3,h4,_⟩:=h
  generalize n2 51 (n1 85 (x % 256))=c at *
  generalize n2 (mk 51 n) (n1 (mk 85 n) (x / 256))=y at *
  unfold n3
  have e2:(c+256 * y) / 16+(c+256 * y)=(c / 16+16 * (y % 16)+c)+256 * (y / 16+y):=by omega
  have hb:=b3 ⟨c % 16,by omega⟩ ⟨c / 16,by omega⟩ ⟨y % 16,by omega⟩
  simp only at hb
  have e3:c % 16+16 * (c / 16)=c:=by omega
  rw [e3] at hb
  rw [e2,Gs (by omega) (by decide),hb]
theorem J7 {x:Nat}:∀n,n≤8→C3 (x % 256) n=C3 x n
 |0,_=>rfl
 |n+1,h=>by
  rw [C3,C3,J7 n (by omega),show x % 256=x % 2 ^ 8 from rfl,Nat.testBit_mod_two_pow]
  simp [show n < 8 from by omega]
theorem DJ {x:Nat}:∀m,C3 x (8+m)=C3 (x % 256) 8+C3 (x / 256) m
 |0=>by rw [J7 8 (by omega)];rfl
 |m+1=>by
  have e:(x / 256).testBit m=x.testBit (8+m):=by
   rw [show x / 256=x / 2 ^ 8 from rfl,Nat.testBit_div_two_pow];congr 1;omega
  show C3 x (8+m)+(x.testBit (8+m)).toNat=C3 (x % 256) 8+(C3 (x / 256) m+((x / 256).testBit m).toNat)
  rw [DJ m,e];omega
theorem W4 {x:Nat}:∀n,C3 x n≤n
 |0=>Nat.le_refl _
 |n+1=>by
  have:=W4 (x:=x) n
  have h2:(x.testBit n).toNat≤1:=by cases x.testBit n <;> simp
  rw [C3];omega
theorem mH {x:Nat}:∃p0 p1 p2 p3 p4 p5 p6 p7:Nat,(p0≤8∧p1≤8∧p2≤8∧p3≤8∧p4≤8∧p5≤8∧p6≤8∧p7≤8)∧C3 x 64=p0+(p1+(p2+(p3+(p4+(p5+(p6+p7))))))∧
  o6 x 8=p0+256 * (p1+256 * (p2+256 * (p3+256 * (p4+256 * (p5+256 * (p6+256 * p7)))))):=by
 have l:∀y:Nat,C3 (y % 256) 8≤8:=fun y=>W4 8
 refine ⟨C3 (x % 256) 8,C3 (x / 256 % 256) 8,C3 (x / 256 / 256 % 256) 8,C3 (x / 256 / 256 / 256 % 256) 8,C3 (x / 256 / 256 / 256 / 256 % 256) 8,C3 (x / 256 / 256 / 256 / 256 / 256 % 256) 8,C3 (x / 256 / 256 / 256 / 256 / 256 / 256 % 256) 8,C3 (x / 256 / 256 / 256 / 256 / 256 / 256 / 256 % 256) 8,⟨l _,l _,l _,l _,l _,l _,l _,l _⟩, ?_, ?_⟩
 ·rw [DJ (x:=x) 56,DJ (x:=x / 256) 48,DJ (x:=x / 256 / 256) 40,DJ (x:=x / 256 / 256 / 256) 32,DJ (x:=x / 256 / 256 / 256 / 256) 24,DJ (x:=x / 256 / 256 / 256 / 256 / 256) 16,DJ (x:=x / 256 / 256 / 256 / 256 / 256 / 256) 8,J7 8 (Nat.le_refl 8)]
  rw [J7 (x:=x / 256 / 256 / 256 / 256 / 256 / 256 / 256) 8 (Nat.le_refl 8)]
 ·simp only [o6];omega
theorem mz {w:Nat}(hw:w < 18446744073709551616):oc1 (w:Int)=(n1 6148914691236517205 w:Nat):=by
 have h1:OQ (w:Int) 1=((w / 2:Nat):Int):=Ib (k:=1)
 have h2:=Fl (x:=w / 2) (y:=6148914691236517205) (by omega) (by decide)
 have h3:=Fl (x:=w) (y:=6148914691236517205) hw (by decide)
 have l1:w / 2 &&& 6148914691236517205≤6148914691236517205:=Nat.and_le_right
 have l2:w &&& 6148914691236517205≤6148914691236517205:=Nat.and_le_right
 unfold oc1 n1
 rw [h1,show (6148914691236517205:Int)=((6148914691236517205:Nat):Int) from rfl,h2,h3,wrap_u64 (by omega) (by omega)]
 rfl
theorem mT {w:Nat}(hw:w < 18446744073709551616):oc2 (w:Int)=(n2 3689348814741910323 w:Nat):=by
 have h1:OQ (w:Int) 2=((w / 4:Nat):Int):=Ib (k:=2)
 have h2:=Fl (x:=w / 4) (y:=3689348814741910323) (by omega) (by decide)
 have h3:=Fl (x:=w) (y:=3689348814741910323) hw (by decide)
 have l1:w / 4 &&& 3689348814741910323≤3689348814741910323:=Nat.and_le_right
 have l2:w &&& 3689348814741910323≤3689348814741910323:=Nat.and_le_right
 unfold oc2 n2
 rw [h1,show (3689348814741910323:Int)=((3689348814741910323:Nat):Int) from rfl,h2,h3,wrap_u64 (by omega) (by omega)]
 rfl
theorem kM {w:Nat}(hw:w≤7378697629483820646):oc3 (w:Int)=(n3 1085102592571150095 w:Nat):=by
 have h1:OQ (w:Int) 4=((w / 16:Nat):Int):=Ib (k:=4)
 have h2:=Fl (x:=w / 16+w) (y:=1085102592571150095) (by omega) (by decide)
 unfold oc3 n3
 rw [h1,wrap_u64 (by omega) (by omega),show (1085102592571150095:Int)=((1085102592571150095:Nat):Int) from rfl]
 exact h2
theorem Rf {w d:Nat}{k:Int}(hd:OQ (w:Int) k=((w / d:Nat):Int))(hw:w+w / d < 18446744073709551616):qk k (w:Int)=((w+w / d:Nat):Int):=by
 unfold qk
 rw [hd]
 generalize w / d=q at hw
 rw [wrap_u64 (by omega) (by omega)];rfl
theorem rP {w:Nat}(hw:w < 9223372036854775808):EH .and .i64 (w:Int) 127=((w % 128:Nat):Int):=by
 have h:(BitVec.ofInt 64 (w:Int) &&& BitVec.ofInt 64 127).toNat=w % 128:=by
  rw [BitVec.toNat_and,Jp (by omega)]
  exact Nat.and_two_pow_sub_one_eq_mod w 7
 show IntKind.i64.wrap ((BitVec.ofInt 64 (w:Int) &&& BitVec.ofInt 64 127).toNat:Int)=_
 rw [h,←CS,wrap64 (by omega) (by omega)]
theorem bt {w:Nat}(hw:w < 18446744073709551616):SQ (w:Int)=(C3 w 64:Int):=by
 obtain ⟨p0,p1,p2,p3,p4,p5,p6,p7,⟨l0,l1,l2,l3,l4,l5,l6,l7⟩,hp,hb⟩:=mH (x:=w)
 have a1:n1 6148914691236517205 w≤12297829382473034410:=by
  unfold n1
  have l1:w / 2 &&& 6148914691236517205≤6148914691236517205:=Nat.and_le_right
  have l2:w &&& 6148914691236517205≤6148914691236517205:=Nat.and_le_right
  omega
 have a2:n2 3689348814741910323 (n1 6148914691236517205 w)≤7378697629483820646:=by
  unfold n2
  have l1:n1 6148914691236517205 w / 4 &&& 3689348814741910323≤3689348814741910323:=Nat.and_le_right
  have l2:n1 6148914691236517205 w &&& 3689348814741910323≤3689348814741910323:=Nat.and_le_right
  omega
 have a3:n3 1085102592571150095 (n2 3689348814741910323 (n1 6148914691236517205 w))=o6 w 8:=de 8 w
 unfold SQ
 rw [mz hw,mT (by omega),kM a2,a3,hp]
 generalize o6 w 8=z at hb
 have e8:qk 8 (z:Int)=((z+z / 256:Nat):Int):=Rf (d:=256) (Ib (k:=8)) (by omega)
 rw [e8]
 generalize hy:z+z / 256=y
 have e16:qk 16 (y:Int)=((y+y / 65536:Nat):Int):=Rf (d:=65536) (Ib (k:=16)) (by omega)
 rw [e16]
 generalize hu:y+y / 65536=u
 have e32:qk 32 (u:Int)=((u+u / 4294967296:Nat):Int):=Rf (d:=4294967296) (Ib (k:=32)) (by omega)
 rw [e32,wrap64 (by omega) (by omega),rP (by omega)]
 have q1:z / 256=p1+256 * (p2+256 * (p3+256 * (p4+256 * (p5+256 * (p6+256 * p7))))):=by omega
 have y2:y=(p0+p1)+256 * ((p1+p2)+256 * ((p2+p3)+256 * ((p3+p4)+256 * ((p4+p5)+256 * ((p5+p6)+256 * ((p6+p7)+256 * p7)))))):=by omega
 have y3:y / 65536=(p2+p3)+256 * ((p3+p4)+256 * ((p4+p5)+256 * ((p5+p6)+256 * ((p6+p7)+256 * p7)))):=by clear hy q1 hb e8 e16 e32;omega
 have u2:u=(p0+p1+p2+p3)+256 * ((p1+p2+p3+p4)+256 * ((p2+p3+p4+p5)+256 * ((p3+p4+p5+p6)+256 * ((p4+p5+p6+p7)+256 * ((p5+p6+p7)+256 * ((p6+p7)+256 * p7)))))):=by clear hy q1 hb e8 e16 e32;omega
 have u3:u / 4294967296=(p4+p5+p6+p7)+256 * ((p5+p6+p7)+256 * ((p6+p7)+256 * p7)):=by clear hy q1 hb y2 y3 hu e8 e16 e32;omega
 have e:(u+u / 4294967296) % 128=p0+(p1+(p2+(p3+(p4+(p5+(p6+p7)))))):=by
  rw [u3];clear hy q1 hb y2 y3 hu u3 e8 e16 e32;omega
 rw [e]
theorem mF {a:AX}(ha:Fs a):U3 a 4=((C3 (wn a 0) 64+C3 (wn a 1) 64+C3 (wn a 2) 64+C3 (wn a 3) 64:Nat):Int):=by
 simp only [U3,bt (Gr ha _)]
 omega
theorem kN {a:AX}(ha:Fs a):U3 a 4=((CJ a).length:Int):=by
 rw [mF ha,YZ ha];omega
def Rx (b:AX)(n:Nat):List Int:=((List.range n).filter (hasB b)).map fun j:Nat=>(j:Int)+1
def CU (b:AX):List Int:=Rx b 256
def OM (l:List Bn):List Int:=l.map Subtype.val
theorem gH {b:AX}{n:Nat}:Rx b (n+1)=if hasB b n then Rx b n ++ [(n:Int)+1] else Rx b n:=by
 unfold Rx
 rw [List.range_succ,List.filter_append,List.map_append]
 cases h:hasB b n <;> simp [h]
theorem Lt {b:AX}:∀n,(Rx b n).length≤n:=fun n=>by
 unfold Rx
 rw [List.length_map]
 exact Nat.le_trans (List.length_filter_le _ _) (by simp)
theorem QP {b:AX}{i:Nat}(hi:i < 4):OM (wf i (wn b i))=((List.range' (64 * i) 64).filter (hasB b)).map fun j:Nat=>(j:Int)+1:=by
 unfold OM wf
 rw [List.range'_eq_map_range,List.filter_map,List.map_map,List.map_map]
 have e:(List.range 64).filter (fun j=>(wn b i).testBit j)=(List.range 64).filter (hasB b ∘ fun x=>64 * i+x):=by
  refine List.filter_congr fun j hj=> ?_
  rw [List.mem_range] at hj
  exact (QW hj).symm
 rw [e]
 refine List.map_congr_left fun j hj=> ?_
 have hj:j < 64:=List.mem_range.1 (List.mem_filter.1 hj).1
 show (VE _).1=_
 rw [Sn ⟨by omega,by omega⟩]
 simp only [Function.comp]
 omega
theorem eY (l m:List Bn):OM (l ++ m)=OM l ++ OM m:=by simp [OM]
theorem eO {b:AX}(hb:Fs b):OM (CJ b)=CU b:=by
 rw [H4]
 simp only [gA _ (Gr hb _),eY,QP (show 0 < 4 by decide),QP (show 1 < 4 by decide),QP (show 2 < 4 by decide),QP (show 3 < 4 by decide)]
 unfold CU Rx
 have e:List.range 256=List.range' (64 * 0) 64 ++ (List.range' (64 * 1) 64 ++ (List.range' (64 * 2) 64 ++ List.range' (64 * 3) 64)):=by decide +kernel
 rw [e]
 simp only [List.filter_append,List.map_append]
theorem tu {b:AX}:(CU b).length≤256:=Lt 256
theorem Ms {b:AX}{k j:Nat}(hk:k < 256)(hj:j < 256):hasB (Ga b k) j=(hasB b j || decide (j=k)):=by
 have h1:64 * (j / 64)+j % 64=j:=by omega
 unfold hasB
 rw [ez hk (by omega) (Nat.mod_lt _ (by decide)),h1]
theorem Xz {a b:AX}(ha:Fs a)(hb:Fs b)(h:∀k,k < 256→hasB a k=hasB b k):a=b:=by
 refine gR ha hb fun i j hi hj=> ?_
 rw [←QW hj,←QW hj]
 exact h _ (by omega)
theorem Wm {k:Nat}:hasB zb k=false:=uF
theorem rT {b:AX}(hb:Fs b)(h:CU b= []):b=zb:=by
 refine Xz hb LY fun k hk=> ?_
 rw [Wm]
 unfold CU Rx at h
 have h2:=List.map_eq_nil_iff.1 h
 rw [List.filter_eq_nil_iff] at h2
 have:=h2 k (List.mem_range.2 hk)
 simpa using this
theorem Mi:CU zb= []:=by
 unfold CU Rx
 have:(List.range 256).filter (hasB zb)= []:=by
  rw [List.filter_eq_nil_iff];intro a _;rw [Wm];simp
 rw [this];rfl
theorem M5 {b:AX}{x:Int}:x∈CU b ↔ ∃k:Nat,k < 256∧x=(k:Int)+1∧hasB b k=true:=by
 unfold CU Rx
 rw [List.mem_map]
 constructor
 ·rintro ⟨k,h1,h2⟩
  obtain ⟨h3,h4⟩:=List.mem_filter.1 h1
  exact ⟨k,List.mem_range.1 h3,h2.symm,h4⟩
 ·rintro ⟨k,h1,h2,h3⟩
  exact ⟨k,List.mem_filter.2 ⟨List.mem_range.2 h1,h3⟩,h2.symm⟩
theorem Ov {b:AX}:List.Pairwise (· < ·) (CU b):=by
 unfold CU Rx
 rw [List.pairwise_map]
 refine List.Pairwise.filter _ ?_
 refine List.Pairwise.imp ?_ List.pairwise_lt_range
 intro a b h;omega
theorem OS:zA 67=Le Cm:=rfl
theorem nL:zA 94=Qh:=rfl
def cR (c:Bool)(x:AX):Value:= .tuple ⟨[.agg ⟨bl (if c then x else zb)⟩, .int .i64 (if c then 0 else 2)]⟩
theorem Wo {x:AX}:cR true x= .tuple ⟨[.agg ⟨bl x⟩, .int .i64 0]⟩:=rfl
theorem jS {x:AX}:cR false x= .tuple ⟨[.agg ⟨bl zb⟩, .int .i64 2]⟩:=rfl
def Ru (f:AX→Nat→AX):BG:= .pure (fun args _=>match args with | [v, .int .i64 _]=>H3 v | _=>False) (fun args _=>match args with | [v,n]=>cR (Cm (intOf n)) (f (iz v) (intOf n - 1).toNat) | _=>undef)
theorem lS:Aw Tryz.prog 68 (Ru Ga):=by
 refine .Ep P0 ?_ ?_
 ·rintro args hp h
  match args,h with
  | [_, .int .i64 n],⟨b,rfl,hb⟩=>rfl
 intro args hp hpre top hcl hsc
 match args,hpre with
 | [_, .int .i64 n],⟨b,rfl,hb⟩=>
 refine AK.Ar A7 P0 rfl 24 rfl [.cell 4 31, .tmp 5] rfl (show 2≤24 by decide) ?_
 simp only [intOf_int,GH]
 cases hr:Cm n with
 |false=>
  refine CW.vc cY [0,1,2,4,5,6,7,10] (by kernel_rfl) ?_
  (repeat ((try refine Vc.mk' ?_);simp (maxSteps:=6000000) only [go_sem,Nat.reduceAdd,Nat.mul_one,OS,Le,hr,jS]))
  rfl
 |true=>
  have hr1:=hr
  simp only [Cm,Bool.and_eq_true,decide_eq_true_eq] at hr1
  obtain ⟨h1,h2⟩:=hr1
  obtain ⟨k,rfl⟩:∃k:Nat,n=(k:Int)+1:=⟨(n - 1).toNat,by omega⟩
  have hk:k < 256:=by omega
  have h4:k / 64 < 4:=by omega
  have h5:k / 64≤3:=by omega
  have ea:EH .or .u64 ((wn b (k / 64):Nat):Int) (sK k)=((wn b (k / 64) ||| 2 ^ (k % 64):Nat):Int):=uG (Gr hb _) (WE (Nat.mod_lt _ (by decide)))
  refine CW.vc cY [0,1,2,4,5,6,7,10] (by kernel_rfl) ?_
  (repeat ((try refine Vc.mk' ?_);simp (maxSteps:=6000000) only [go_sem,reduceCtorEq,Nat.reduceAdd,Nat.reduceLeDiff,EI,HO,WT,Nat.mul_one,OS,nL,Le,Qh,hr,h1,h2,zx,h4,h5,V9 hb h4,ZV h4,ea,Wo]))
  rfl
def G11:=BQ zA 68 (Ru Ga)
theorem yF:B4 Tryz.prog tt.get G11:=cY.add lS
theorem Dy {u:Nat}(h:u < 10):Lib.decDigits u= [UInt8.ofNat (48+u)]:=by rw [Lib.decDigits,dif_pos h]
theorem KU {u:Nat}(h:¬u < 10):Lib.decDigits u=Lib.decDigits (u / 10) ++ [UInt8.ofNat (48+u % 10)]:=by rw [Lib.decDigits,dif_neg h]
theorem Yw {sep x:List UInt8}{xs:List (List UInt8)}:Lib.join (xs ++ [x]) sep=if xs.length=0 then x else Lib.join xs sep ++ sep ++ x:=by
 cases xs with
 |nil=>simp [Lib.join_one]
 |cons y r=>
  rw [List.cons_append,Lib.join_cons,Lib.join_cons]
  simp [Lib.joinTail,List.append_assoc]
def tk (l:List Int)(k:Nat):List UInt8:=Lib.join ((l.take k).map Lib.itoa) [32]
theorem XM {l:List Int}{k:Nat}(h:k < l.length):tk l (k+1)=(if k=0 then [] else tk l k ++ [32]) ++ Lib.itoa (at' l k):=by
 unfold tk
 rw [List.take_succ_eq_append_getElem h,List.map_append,List.map_cons,List.map_nil,Yw,DV _ _ h,List.length_map,List.length_take,Nat.min_eq_left (by omega)]
 by_cases h0:k=0
 ·rw [if_pos h0,if_pos h0];rfl
 ·rw [if_neg h0,if_neg h0]
def ER (l:List Int):List UInt8:=if l.length=0 then [45] else tk l l.length
theorem Vx {b:AX}{k:Nat}(h:k < (CU b).length):1≤at' (CU b) k∧at' (CU b) k≤256:=by
 have:at' (CU b) k∈CU b:=by rw [DV _ _ h];exact List.getElem_mem h
 obtain ⟨j,h1,h2,_⟩:=M5.1 this
 omega
theorem IG {b:AX}(hb:Fs b):FX b=ER (CU b):=by
 unfold FX ER tk
 have e:(CJ b).map Vw=(CU b).map Lib.itoa:=by rw [←eO hb];simp [OM,Vw]
 have e2:(CJ b).length=(CU b).length:=by rw [←eO hb];simp [OM]
 rw [e,e2,List.take_length]
theorem IV {l:List UInt8}:OP l l=true:=by rw [HM];simp
end Go.Proofs.YthpibnpeaidabaaGreatDoor.Dm
