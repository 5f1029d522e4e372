/- Bit strings, as the bits chapter has them (turned to this seat by port.py): part TB2. -/
import Derived.Test.YthpibnpeaidabaaGreatDoorTB1
import Derived.Lib.ItoaLen
import Derived.Lib.ItoaMem
import Derived.Shelf.Spec.TrailingZeros
set_option linter.unusedSimpArgs false
set_option linter.unusedVariables false
namespace Go.Proofs.YthpibnpeaidabaaGreatDoor.Dm
open Go.Dm
set_option maxHeartbeats 16000000
def Rx (b:Nat):Value:= .func (.func 88) ⟨[]⟩ ⟨[.pointer (some ⟨b,0,none⟩)]⟩
def H5:BO:= .det (fun args _ _=>match args with | [v]=>KP v | _=>False) (fun args _ top=>match args with | [v]=>(Rx top, [(top,some (.cells true 0 (bl (oX v))))],top+1) | _=>(undef, [],top))
theorem fY:BG Tryz.prog 61 H5:=by
 refine .Cy Pa ?_
 intro args hp top hpre hcl hsc
 match args,hpre with
 | [_],⟨b,rfl,hb⟩=>
 simp only [B5]
 refine Ab.BF BN Pa rfl 4 rfl [.tmp 2] rfl (show 1≤4 by decide) ?_
 refine CW.vc ov [0,1,2] (by kernel_rfl) ?_
 (repeat ((try refine Vc.mk' ?_);simp (maxSteps:=6000000) only [go_sem,reduceIte,reduceCtorEq,Nat.reduceAdd,Nat.reduceMul,Nat.reduceSub,Nat.reduceLT,Nat.reduceLeDiff,Nat.reduceEqDiff,Int.reduceEq,Int.reduceLT,Int.reduceLE,Int.reduceNe,DS,CV,Fa,BP,Cb,Bu,Bs,Ca,Cc,B5,Nat.mul_one,Dd,EG,Fx]))
 (refine ⟨[top],by simp,by simp,by simp, ?_, ?_, ?_⟩ <;> simp [Ag,BJ,BH,Am,AP,AF,AJ.nil,AJ.cons,AB,AD,AM,AA,AQ,AX,AO,Ax.AL,AG,AV,AE,AH,AK.set,AK.Ao,AK.refl,Rx,Bs])
def G3:=Bd G2 61 H5
theorem sg:B9 Tryz.prog tt.get G3:=ov.add fY
def G4:=Bd (Bd (Bd G3 89 Ql) 35 C1) 37 IC
theorem TW:B9 Tryz.prog tt.get G4:=((sg.add kJ).add de).add gP
theorem PA:G4 61=H5:=rfl
theorem fE:G4 35=C1:=rfl
theorem gU:G4 37=IC:=rfl
def TV (x:Bn):List UInt8:=Lib.itoa x.1
def S5 (hp:Hp)(top:Nat)(b:Ak)(pre:List Bn):Hp×Nat:=(hp.A0 [(top,some (.cells true 0 (bl b))),(top+1,some (.cells true 0 [A4 (top+3) (pre.map TV)])),(top+2,some (.cells true 0 (bl b))),(top+3,Au Ah (pre.map TV))],top+4)
theorem iv (x:Bn):(TV x).length≤21:=Lib.itoa_length_le _ (by have:=x.2.1;omega) (by have:=x.2.2;omega)
theorem RA:∀l:List Bn,Lib.lens (l.map TV)≤21 * l.length
 | []=>by simp [Lib.lens]
 |x :: l=>by
  have h1:=iv x
  have h2:=RA l
  simp only [Lib.lens,List.map_cons,List.length_cons,List.sum_cons] at *
  omega
theorem ZF (l:List Bn)(h:l.length≤256):(Lib.join (l.map TV) [32]).length≤140737488355328:=by
 cases l with
 |nil=>simp [Lib.join_nil]
 |cons x r=>
  have:=RA (x :: r)
  rw [List.map_cons,Lib.join_length]
  simp only [List.map_cons,List.length_cons,List.length_map,List.length_nil] at *
  omega
def FE (b:Ak):List UInt8:=if (CZ b).length=0 then [45] else Lib.join ((CZ b).map TV) [32]
def JZ:BO:= .pure (fun args hp=>match args with | [v]=>KP v∧hp 0=some UF∧hp 1=some UJ | _=>False) (fun args _=>match args with | [v]=> .string ⟨⟨FE (oX v)⟩⟩ | _=>undef)
theorem Lx:∀(us:BZ) (hp:Hp) i o,(hp.A0 us) i=some o→(∃p∈us,p.1=i∧p.2=some o)∨((∀p∈us,p.1≠i)∧hp i=some o):=by
 intro us
 induction us with
 |nil=>intro hp i o h;exact .inr ⟨fun _ h=>(by cases h),h⟩
 |cons p us ih=>
  intro hp i o h
  obtain ⟨a,x⟩:=p
  rw [AE] at h
  rcases ih _ i o h with ⟨p,h1,h2,h3⟩ | ⟨h1,h2⟩
  ·exact .inl ⟨p,List.mem_cons_of_mem _ h1,h2,h3⟩
  ·by_cases e:i=a
   ·subst e
    rw [AG] at h2
    exact .inl ⟨(i,x),List.mem_cons_self ..,rfl,h2⟩
   ·rw [AV _ _ _ _ e] at h2
    refine .inr ⟨?_,h2⟩
    intro p hp'
    cases hp' with
    |head=>exact fun e'=>e e'.symm
    |tail _ h=>exact h1 p h
theorem NC:∀(us:BZ) (hp:Hp) (i:Nat),(∀p∈us,i≠p.1)→(hp.A0 us) i=hp i:=by
 intro us
 induction us with
 |nil=>intro hp i h;rfl
 |cons p us ih=>
  intro hp i h
  obtain ⟨a,x⟩:=p
  rw [AE,ih _ _ (fun p hp'=>h p (List.mem_cons_of_mem _ hp')),AV _ _ _ _ (h (a,x) (List.mem_cons_self ..))]
theorem Wp {hp:Hp}{top b1:Nat}{us us0:BZ}(hcl:Cl hp top)(hb:top≤b1)(h1:∀p∈us,∀o,p.2=some o→o.dN)(h0:∀p∈us0,top≤p.1):QL b1 (hp.A0 us0) (hp.A0 us):=by
 intro i o e
 rcases Lx us hp i o e with ⟨p,h2,_,h4⟩ | ⟨_,h2⟩
 ·exact .inl (h1 p h2 o h4)
 ·have:=hcl.lt i o h2
  exact .inr ⟨by omega,o,by rw [NC us0 hp i (fun p hp'=>by have:=h0 p hp';omega)];exact h2⟩
theorem aw {α:Type}{E:Ax α}{l:List α}:∀o,Au E l=some o→o.dN:=by
 intro o e
 cases l with
 |nil=>cases e
 |cons a l=>cases e;trivial
def oS (n:Nat):Bw→Prop
 | []=>True
 | (_,v,_) :: l=>Sc n v∧oS n l
theorem oS.of {n:Nat}:∀ {fr:Bw},oS n fr→∀t v,Fx fr t=some v→Sc n v
 | [],_,_,_,h=>by cases h
 | (j,x,g) :: l,⟨h1,h2⟩,t,v,hv=>by
  simp only [Fx,BJ] at hv
  cases hb:Nat.beq j t with
  |true=>
   rw [hb] at hv
   cases hv
   cases g with
   |true=>exact h1
   |false=>simp [undef,Sc,G7]
  |false=>rw [hb] at hv;exact oS.of h2 t v hv
mutual
theorem gL {n m:Nat}(hm:n≤m):∀ {v:Value},Sc n v→Sc m v
 | .bool _,_=>trivial
 | .int _ _,_=>trivial
 | .float _ _,_=>trivial
 | .complex _ _ _,_=>trivial
 | .string _,_=>trivial
 | .pointer none,_=>trivial
 | .pointer (some ⟨_,_,_⟩),h=>Nat.lt_of_lt_of_le h hm
 | .slice none _ _,_=>trivial
 | .slice (some ⟨_,_,none⟩) _ _,h=>Nat.lt_of_lt_of_le h hm
 | .slice (some ⟨_,_,some _⟩) _ _,_=>trivial
 | .map none,_=>trivial
 | .map (some _),h=>Nat.lt_of_lt_of_le h hm
 | .chan _,_=>trivial
 | .func _ ⟨_⟩ ⟨_⟩,h=>⟨N0 hm h.1,N0 hm h.2⟩
 | .nilFunc,_=>trivial
 | .iface _ v,h=>gL (v:=v) hm h
 | .nilIface,_=>trivial
 | .agg ⟨l⟩,h=>N0 (l:=l) hm h
 | .tuple ⟨l⟩,h=>N0 (l:=l) hm h
theorem N0 {n m:Nat}(hm:n≤m):∀ {l:List Value},G7 n l→G7 m l
 | [],_=>trivial
 |_ :: _,h=>⟨gL hm h.1,N0 hm h.2⟩
end
theorem sK {hp:Hp}{n m:Nat}(h:Cl hp n)(hm:n≤m):Cl hp m:=by
 refine ⟨fun i o e=>Nat.lt_of_lt_of_le (h.lt i o e) hm,fun i o e=> ?_⟩
 have:=h.sc i o e
 cases o with
 |cells rw z vs=>exact N0 hm this
 |map es clk=>exact fun e he=>⟨gL hm (this e he).1,gL hm (this e he).2⟩
 |iter s p=>trivial
 |miter m s c l=>exact Nat.lt_of_lt_of_le this hm
 |raw b vs=>trivial
theorem VZ:BG Tryz.prog 36 JZ:=by
 refine .HS Pz ?_ ?_
 ·rintro args hp h
  match args,h with
  | [_],⟨⟨b,rfl,hb⟩,_⟩=>rfl
 intro args hp hpre top hcl hsc
 match args,hpre with
 | [_],⟨⟨b,rfl,hb⟩,ht,hp1⟩=>
 simp only [B5]
 have hIb:=OG hb
 have ht0:=hcl.lt _ _ ht
 have ht1:=hcl.lt _ _ hp1
 refine Ab.dT BN Pz rfl 18 rfl [.tmp 2] rfl (show 1≤18 by decide) ?_
 refine CT.seq (CT.of (CW.vc TW [0,1,2,3,4,6,15] (by kernel_rfl) ?_))
 (repeat ((try refine Vc.mk' ?_);simp (maxSteps:=6000000) only [go_sem,reduceIte,reduceCtorEq,Nat.reduceAdd,Nat.reduceMul,Nat.reduceSub,Nat.reduceLT,Nat.reduceLeDiff,Nat.reduceEqDiff,Int.reduceEq,Int.reduceLT,Int.reduceLE,Int.reduceNe,DS,CV,Fa,BP,Cb,Bu,Bs,Ca,Cc,B5,Nat.mul_one,PA,H5,hIb]))
 refine CT.seq (CT.of (CW.vc TW [0,1,2,3,4,6,15] (by kernel_rfl) ?_))
 (repeat ((try refine Vc.mk' ?_);simp (maxSteps:=6000000) only [go_sem,reduceIte,reduceCtorEq,Nat.reduceAdd,Nat.reduceMul,Nat.reduceSub,Nat.reduceLT,Nat.reduceLeDiff,Nat.reduceEqDiff,Int.reduceEq,Int.reduceLT,Int.reduceLE,Int.reduceNe,DS,CV,Fa,BP,Cb,Bu,Bs,Ca,Cc,B5,Nat.mul_one,PA,H5,hIb]))
 refine CT.seq (CT.seq (CT.of (CW.vc TW [0,1,2,3,4,6,15] (by kernel_rfl) ?_)))
 (repeat ((try refine Vc.mk' ?_);simp (maxSteps:=6000000) only [go_sem,reduceIte,reduceCtorEq,Nat.reduceAdd,Nat.reduceMul,Nat.reduceSub,Nat.reduceLT,Nat.reduceLeDiff,Nat.reduceEqDiff,Int.reduceEq,Int.reduceLT,Int.reduceLE,Int.reduceNe,DS,CV,Fa,BP,Cb,Bu,Bs,Ca,Cc,B5,Nat.mul_one,PA,H5,hIb]))
 refine CT.block ?_
 refine CT.range (g:= .tmp 6) (p:=7) (q:=4) (Sd:=fun xs=>xs=CZ b) (Sp:=fun pre=>pre <+:CZ b) (N:=(CZ b).length) BN Tryz.f88 (by kernel_rfl) PT.toFTOk (top+3) ?hb1
  [(1, .pointer (some ⟨top,0,none⟩),true),(3, .pointer (some ⟨top+1,0,none⟩),true),(6,Rx (top+2),true)] (S5 hp top b) (fun _ _ _=>False) gw (fun _=>rfl) ?hp ?hq ?ho ?hd ?hgd [.pointer (some ⟨top+2,0,none⟩)] rfl
  ?h0 ?ht ?hfr ?hfl ?hfX dI ?hT fe ?hit ?hround ?hdone ?hret ?hexit
 case hb1=>exact Nat.le_add_right _ _
 case ho=>rfl
 case hd=>rfl
 case hgd=>rfl
 case hp=>decide
 case hq=>decide
 case h0=>exact (by refine A9.mk' [top,top+1,top+2,top+3] hcl (by simp) (by simp) rfl (AZ ?_) ?_ ?_ <;> simp [Ag,BJ,BH,Am,AP,AF,AJ.nil,AJ.cons,AB,AD,AM,AA,AQ,AX,AO,Ax.AL,AG,AV,AE,AH,AK.set,AK.Ao,AK.refl,Bs,Rx,Hf,HI])
 case ht=>exact fun pre=>Nat.le_succ _
 case hfr=>exact oS.of (by simp [oS,Sc,G7,Rx])
 case hfl=>
  refine fun pre=>Wp hcl (by omega) ?_ (by simp)
  intro p hp' o e
  simp only [List.mem_cons,List.not_mem_nil,or_false] at hp'
  rcases hp' with rfl | rfl | rfl | rfl
  ·cases e;trivial
  ·cases e;trivial
  ·cases e;trivial
  ·exact aw o e
 case hfX=>exact fun _ _ _ h=>h.elim
 case hT=>
  intro pre φ own W H
  refine Yy H ?_
  show hp.A0 _ 0=_
  rw [NC _ _ _ (by simp;omega)];exact ht
 case hit=>
  intro φ own W caps' hV H
  exact UI b hb (by show hp.A0 _ 0=_;rw [NC _ _ _ (by simp;omega)];exact ht) (gb:=top+2) (rw:=true) (by simp [S5,AE,AH,AG,AV,bl]) hV H
 case hround=>
  intro pre x hlen
  refine CW.vc TW [0,1,2,3,4,6,15] (by kernel_rfl) ?_
  have hx0:0≤x.1:=by have:=x.2.1;omega
  have hx1:x.1≤9223372036854775807:=by have:=x.2.2;omega
  have hll:(pre.map TV).length < 16777216:=by have:=II hb;simp;omega
  have hll2:pre.length < 16777216:=by have:=II hb;omega
  have htx:Lib.itoa x.1=TV x:=rfl
  (repeat ((try refine Vc.mk' ?_);simp (maxSteps:=6000000) only [go_sem,reduceIte,reduceCtorEq,Nat.reduceAdd,Nat.reduceMul,Nat.reduceSub,Nat.reduceLT,Nat.reduceLeDiff,Nat.reduceEqDiff,Int.reduceEq,Int.reduceLT,Int.reduceLE,Int.reduceNe,DS,CV,Fa,BP,Cb,Bu,Bs,Ca,Cc,B5,Nat.mul_one,S5,gw,fE,C1,hx0,hx1,BI ht1,hp1,htx,hll,hll2,List.length_map]))
  have e0:top < top+3:=by omega
  have e1:top+1 < top+3:=by omega
  have e2:top+2 < top+3:=by omega
  refine A9.mk' (hp:=hp) [top+5] (sK hcl (by omega)) (by simp) (by simp) rfl (AZ (by simp [Ag,BJ,BH,Am,AP,AF,AJ.nil,AJ.cons,AB,AD,AM,AA,AQ,AX,AO,Ax.AL,AG,AV,AE,AH,AK.set,AK.Ao,AK.refl])) (by simp [Ag,BJ,BH,Am,AP,AF,AJ.nil,AJ.cons,AB,AD,AM,AA,AQ,AX,AO,Ax.AL,AG,AV,AE,AH,AK.set,AK.Ao,AK.refl]) ?_
  simp [Ag,BJ,BH,Am,AP,AF,AJ.nil,AJ.cons,AB,AD,AM,AA,AQ,AX,AO,Ax.AL,AG,AV,AE,AH,AK.set,AK.Ao,AK.refl,Bs,Af e0,Af e1,Af e2]
 case hdone=>
  rintro xs rfl
  refine CT.seq (CT.of (CW.vc TW [0,1,2,3,4,6,15] (by kernel_rfl) ?_))
  have hml:((CZ b).map TV).length≤256:=by rw [List.length_map];exact II hb
  have hbl:=II hb
  have hob:(((hp.set top (some (A5.cells true 0 (bl b)))).set (top+1) (some (A5.cells true 0 [A4 (top+3) (List.map TV (CZ b))]))).set (top+2) (some (A5.cells true 0 (bl b)))).set (top+3) (Au Ah (List.map TV (CZ b))) (top+3)=Au Ah (List.map TV (CZ b)):=AG ..
  have hP:=jl hob (by omega)
  have hR:=Y9 hob (by omega)
  have hJ:=ZF _ hbl
  have hm2:(CZ b).length≤140737488355328:=by omega
  (repeat ((try refine Vc.mk' ?_);simp (maxSteps:=6000000) only [go_sem,reduceIte,reduceCtorEq,Nat.reduceAdd,Nat.reduceMul,Nat.reduceSub,Nat.reduceLT,Nat.reduceLeDiff,Nat.reduceEqDiff,Int.reduceEq,Int.reduceLT,Int.reduceLE,Int.reduceNe,DS,CV,Fa,BP,Cb,Bu,Bs,Ca,Cc,B5,Nat.mul_one,S5]))
  refine Nz.mk (fun c=> ?_) (fun c=> ?_)
  ·(repeat ((try refine Vc.mk' ?_);simp (maxSteps:=6000000) only [go_sem,reduceIte,reduceCtorEq,Nat.reduceAdd,Nat.reduceMul,Nat.reduceSub,Nat.reduceLT,Nat.reduceLeDiff,Nat.reduceEqDiff,Int.reduceEq,Int.reduceLT,Int.reduceLE,Int.reduceNe,DS,CV,Fa,BP,Cb,Bu,Bs,Ca,Cc,B5,Nat.mul_one,S5]))
   have c2:(CZ b).length=0:=by simpa using c
   simp [FE,c2]
  ·have c2:¬(CZ b).length=0:=by simpa using c
   refine CT.of (CW.vc TW [0,1,2,3,4,6,15] (by kernel_rfl) ?_)
   (repeat ((try refine Vc.mk' ?_);simp (maxSteps:=6000000) only [go_sem,reduceIte,reduceCtorEq,Nat.reduceAdd,Nat.reduceMul,Nat.reduceSub,Nat.reduceLT,Nat.reduceLeDiff,Nat.reduceEqDiff,Int.reduceEq,Int.reduceLT,Int.reduceLE,Int.reduceNe,DS,CV,Fa,BP,Cb,Bu,Bs,Ca,Cc,B5,Nat.mul_one,gU,IC,hP,hR,hJ,hm2,List.length_map]))
   rw [show FE b=Lib.join ((CZ b).map TV) [32] from if_neg c2]
 case hret=>exact fun _ _ _ h=>h.elim
 case hexit=>exact fun _ _ _ _ h=>h.elim
theorem VR {d:Nat}{x y:Int}:Ih tt.get (d+1) 28 (.int .u64 x) (.int .u64 y)=some (decide (x=y)):=by
 simp [Ih,Hk,J8,LI]
theorem Fh {xs ys:List Value}{d i n:Nat}{x y:Int}(h1:DH J8 xs (i * 1)=some (.int .u64 x))(h2:DH J8 ys (i * 1)=some (.int .u64 y)) :
  eqItems tt.get (d+2) 28 J8 xs ys i (n+1)=if x=y then eqItems tt.get (d+1) 28 J8 xs ys (i+1) n else some false:=by
 have hs:J8.size=1:=rfl
 simp only [eqItems,hs,h1,h2,VR]
 by_cases h:x=y <;> simp [h]
theorem Pm {xs ys:List Value}{d e i:Nat}{j:TI}:eqItems tt.get (d+1) e j xs ys i 0=some true:=by rw [eqItems]
def iO (x:Int)(k:Int):Int:=x.fdiv (Int.ofNat (Nat.pow 2 ((Int.toNat k).min 64)))
def tL (x:Int):Int:=Ae .u64 (Ek .and .u64 (iO x 1) 6148914691236517205+Ek .and .u64 x 6148914691236517205)
def tb (x:Int):Int:=Ae .u64 (Ek .and .u64 (iO x 2) 3689348814741910323+Ek .and .u64 x 3689348814741910323)
def tX (x:Int):Int:=Ek .and .u64 (Ae .u64 (iO x 4+x)) 1085102592571150095
def ss (k:Int)(x:Int):Int:=Ae .u64 (x+iO x k)
def XC (x:Int):Int:=Ek .and .i64 (Ae .i64 (ss 32 (ss 16 (ss 8 (tX (tb (tL x))))))) 127
def U5:BO:= .pure (fun args _=>match args with | [.int .u64 x]=>Rz x | _=>False) (fun args _=>match args with | [x]=> .int .i64 (XC (intOf x)) | _=>undef)
theorem sr {hp:Hp}{x:Value}:B0 tt.get hp 28 3 x=(.int .i64 (Ae .i64 (intOf x)),M4 x):=MJ Hm Mr
theorem p7:BG Tryz.prog 81 U5:=by
 refine .mkPure PX ?_
 intro args hp hpre top
 match args,hpre with
 | [.int .u64 x],⟨h0,h1⟩=>
 refine Ab.BF BN PX rfl 35 rfl [.tmp 2] rfl (show 1≤35 by decide) ?_
 refine CW.vc E7 [0,2] (by kernel_rfl) ?_
 (repeat ((try refine Vc.mk' ?_);simp (maxSteps:=6000000) only [go_sem,reduceIte,reduceCtorEq,Nat.reduceAdd,Nat.reduceMul,Nat.reduceSub,Nat.reduceLT,Nat.reduceLeDiff,Nat.reduceEqDiff,Int.reduceEq,Int.reduceLT,Int.reduceLE,Int.reduceNe,sr]))
 rfl
theorem Lv (x:Int):0≤XC x∧XC x≤127:=by
 unfold XC
 generalize Ae .i64 _=y
 have h:(BitVec.ofInt 64 y &&& BitVec.ofInt 64 127).toNat≤127:=by
  rw [BitVec.toNat_and]
  exact Nat.le_trans Nat.and_le_right (by decide)
 show 0≤IntKind.i64.wrap ((BitVec.ofInt 64 y &&& BitVec.ofInt 64 127).toNat:Int)∧IntKind.i64.wrap ((BitVec.ofInt 64 y &&& BitVec.ofInt 64 127).toNat:Int)≤127
 rw [←Cg,wrap64 (by omega) (by omega)]
 omega
def Xy (b:Ak):Nat→Int
 |0=>0
 |i+1=>Xy b i+XC (wn b i:Int)
theorem N5 {b:Ak}:∀i,0≤Xy b i∧Xy b i≤127 * i
 |0=>by simp [Xy]
 |i+1=>by
  have h1:=N5 (b:=b) i
  have h2:=Lv (wn b i:Int)
  simp only [Xy]
  omega
def G5:=Bd G4 81 U5
theorem dY:B9 Tryz.prog tt.get G5:=TW.add p7
theorem qM:G5 81=U5:=rfl
def GL:BO:= .pure (fun args _=>match args with | [v]=>KP v | _=>False) (fun args _=>match args with | [v]=> .int .i64 (Xy (oX v) 4) | _=>undef)
def Y1 (hp:Hp)(top:Nat)(b:Ak)(i:Nat):SS:=⟨[(3, .int .i64 (Xy b i),true),(6, .agg ⟨bl b⟩,true),(7, .int .i64 (i:Int),true)],hp.A0 [(top,some (.cells true 0 (bl b)))],top+1⟩
theorem RB:BG Tryz.prog 56 GL:=by
 refine .HS Ou ?_ ?_
 ·rintro args hp h
  match args,h with
  | [_],⟨b,rfl,hb⟩=>rfl
 intro args hp hpre top hcl hsc
 match args,hpre with
 | [_],⟨b,rfl,hb⟩=>
 refine Ab.BF BN Ou rfl 16 rfl [.tmp 2] rfl (show 1≤16 by decide) ?_
 refine CW.vc dY [0,1,2,3,5,6,7,8] (by kernel_rfl) ?_
 (repeat ((try refine Vc.mk' ?_);simp (maxSteps:=6000000) only [go_sem,reduceIte,reduceCtorEq,Nat.reduceAdd,Nat.reduceMul,Nat.reduceSub,Nat.reduceLT,Nat.reduceLeDiff,Nat.reduceEqDiff,Int.reduceEq,Int.reduceLT,Int.reduceLE,Int.reduceNe,DS,CV,Fa,BP,Cb,Bu,Bs,Ca,Cc,B5,Nat.mul_one]))
 refine CW.Bx (Y1 hp top b) (fun k=>k≤4) (fun k=>4 - k) 0 (by omega) ?_ ?_
 ·exact (by refine A9.mk' [top] hcl (by simp) (by simp) rfl (AZ ?_) ?_ ?_ <;> simp [Ag,BJ,BH,Am,AP,AF,AJ.nil,AJ.cons,AB,AD,AM,AA,AQ,AX,AO,Ax.AL,AG,AV,AE,AH,AK.set,AK.Ao,AK.refl,Bs,Xy])
 ·rintro i hi
  by_cases hlt:i < 4
  ·have h4:(i:Int) < 4:=by omega
   have h3:i≤3:=by omega
   have hu:Rz (wn b i:Int)=True:=eq_true ⟨by omega,by have:=IZ hb i;omega⟩
   refine CW.vc dY [0,1,2,3,5,6,7,8] (by kernel_rfl) ?_
   (repeat ((try refine Vc.mk' ?_);simp (maxSteps:=6000000) only [go_sem,reduceIte,reduceCtorEq,Nat.reduceAdd,Nat.reduceMul,Nat.reduceSub,Nat.reduceLT,Nat.reduceLeDiff,Nat.reduceEqDiff,Int.reduceEq,Int.reduceLT,Int.reduceLE,Int.reduceNe,DS,CV,Fa,BP,Cb,Bu,Bs,Ca,Cc,B5,Nat.mul_one,Y1,hlt,h3,h4,Gs,Int.toNat_natCast,Z2 hb hlt,qM,U5,hu]))
   have hw:Ae .i64 (Xy b i+XC (wn b i:Int))=Xy b (i+1):=by
    have h1:=N5 (b:=b) i
    have h2:=Lv (wn b i:Int)
    rw [wrap64 (by omega) (by omega)];rfl
   refine .mk (i+1) hlt (by omega) ((by refine A9.mk' [top] hcl (by simp) (by simp) rfl (AZ ?_) ?_ ?_ <;> simp [Ag,BJ,BH,Am,AP,AF,AJ.nil,AJ.cons,AB,AD,AM,AA,AQ,AX,AO,Ax.AL,AG,AV,AE,AH,AK.set,AK.Ao,AK.refl,Bs,GO hlt (by decide),hw]))
  ·have hi4:i=4:=by omega
   have h4:¬(i:Int) < 4:=by omega
   refine CW.vc dY [0,1,2,3,5,6,7,8] (by kernel_rfl) ?_
   (repeat ((try refine Vc.mk' ?_);simp (maxSteps:=6000000) only [go_sem,reduceIte,reduceCtorEq,Nat.reduceAdd,Nat.reduceMul,Nat.reduceSub,Nat.reduceLT,Nat.reduceLeDiff,Nat.reduceEqDiff,Int.reduceEq,Int.reduceLT,Int.reduceLE,Int.reduceNe,DS,CV,Fa,BP,Cb,Bu,Bs,Ca,Cc,B5,Nat.mul_one,Y1,h4]))
   rw [hi4]
theorem UQ {α:Type}[Inhabited α]{l:List α}{k:Nat}(h:k < l.length):l.drop k=at' l k :: l.drop (k+1):=by rw [Dt _ _ h];exact List.drop_eq_getElem_cons h
def G6:=Bd (Bd G5 56 GL) 36 JZ
theorem sF:B9 Tryz.prog tt.get G6:=(dY.add RB).add VZ
def rV:=G6
theorem bH:B9 Tryz.prog tt.get rV:=sF
def mk (m:Nat):Nat→Nat
 |0=>0
 |n+1=>m+256 * mk m n
def n1 (M x:Nat):Nat:=(x / 2 &&& M)+(x &&& M)
def n2 (M x:Nat):Nat:=(x / 4 &&& M)+(x &&& M)
def n3 (M x:Nat):Nat:=(x / 16+x) &&& M
theorem b1:∀c:Fin 256,∀d:Fin 2,(c.val / 2+128 * d.val) &&& 85=c.val / 2 &&& 85:=by decide +kernel
theorem b2:∀c:Fin 256,∀d:Fin 4,(c.val / 4+64 * d.val) &&& 51=c.val / 4 &&& 51:=by decide +kernel
theorem b3:∀c:Fin 5,∀e:Fin 5,∀d:Fin 5,(e.val+16 * d.val+(c.val+16 * e.val)) &&& 15=(e.val+(c.val+16 * e.val)) &&& 15:=by decide +kernel
def jA (b:Ak)(n:Nat):List Int:=((List.range n).filter (hasB b)).map fun j:Nat=>(j:Int)+1
def D6 (b:Ak):List Int:=jA b 256
def OY (l:List Bn):List Int:=l.map Subtype.val
theorem gp {b:Ak}:∀n,(jA b n).length≤n:=fun n=>by
 unfold jA
 rw [List.length_map]
 exact Nat.le_trans (List.length_filter_le _ _) (by simp)
theorem Pj {b:Ak}{i:Nat}(hi:i < 4):OY (wf i (wn b i))=((List.range' (64 * i) 64).filter (hasB b)).map fun j:Nat=>(j:Int)+1:=by
 unfold OY wf
 rw [List.range'_eq_map_range,List.filter_map,List.map_map,List.map_map]
 have e:(List.range 64).filter (fun j=>(wn b i).testBit j)=(List.range 64).filter (hasB b ∘ fun x=>64 * i+x):=by
  refine List.filter_congr fun j hj=> ?_
  rw [List.mem_range] at hj
  exact (Oc hj).symm
 rw [e]
 refine List.map_congr_left fun j hj=> ?_
 have hj:j < 64:=List.mem_range.1 (List.mem_filter.1 hj).1
 show (T8 _).1=_
 rw [RG ⟨by omega,by omega⟩]
 simp only [Function.comp]
 omega
theorem ZD (l m:List Bn):OY (l ++ m)=OY l ++ OY m:=by simp [OY]
theorem kY {b:Ak}(hb:GV b):OY (CZ b)=D6 b:=by
 rw [KU]
 simp only [kS _ (IZ hb _),ZD,Pj (show 0 < 4 by decide),Pj (show 1 < 4 by decide),Pj (show 2 < 4 by decide),Pj (show 3 < 4 by decide)]
 unfold D6 jA
 have e:List.range 256=List.range' (64 * 0) 64 ++ (List.range' (64 * 1) 64 ++ (List.range' (64 * 2) 64 ++ List.range' (64 * 3) 64)):=by decide +kernel
 rw [e]
 simp only [List.filter_append,List.map_append]
theorem lD {b:Ak}:(D6 b).length≤256:=gp 256
theorem LR {b:Ak}{k j:Nat}(hk:k < 256)(hj:j < 256):hasB (GS b k) j=(hasB b j || decide (j=k)):=by
 have h1:64 * (j / 64)+j % 64=j:=by omega
 unfold hasB
 rw [bD hk (by omega) (Nat.mod_lt _ (by decide)),h1]
theorem U2 {a b:Ak}(ha:GV a)(hb:GV b)(h:∀k,k < 256→hasB a k=hasB b k):a=b:=by
 refine ai ha hb fun i j hi hj=> ?_
 rw [←Oc hj,←Oc hj]
 exact h _ (by omega)
theorem Un {k:Nat}:hasB zb k=false:=mi
theorem nr {b:Ak}(hb:GV b)(h:D6 b= []):b=zb:=by
 refine U2 hb Kt fun k hk=> ?_
 rw [Un]
 unfold D6 jA at h
 have h2:=List.map_eq_nil_iff.1 h
 rw [List.filter_eq_nil_iff] at h2
 have:=h2 k (List.mem_range.2 hk)
 simpa using this
theorem MC:D6 zb= []:=by
 unfold D6 jA
 have:(List.range 256).filter (hasB zb)= []:=by
  rw [List.filter_eq_nil_iff];intro a _;rw [Un];simp
 rw [this];rfl
theorem NH {b:Ak}{x:Int}:x∈D6 b ↔ ∃k:Nat,k < 256∧x=(k:Int)+1∧hasB b k=true:=by
 unfold D6 jA
 rw [List.mem_map]
 constructor
 ·rintro ⟨k,h1,h2⟩
  obtain ⟨h3,h4⟩:=List.mem_filter.1 h1
  exact ⟨k,List.mem_range.1 h3,h2.symm,h4⟩
 ·rintro ⟨k,h1,h2,h3⟩
  exact ⟨k,List.mem_filter.2 ⟨List.mem_range.2 h1,h3⟩,h2.symm⟩
theorem Np {b:Ak}:List.Pairwise (· < ·) (D6 b):=by
 unfold D6 jA
 rw [List.pairwise_map]
 refine List.Pairwise.filter _ ?_
 refine List.Pairwise.imp ?_ List.pairwise_lt_range
 intro a b h;omega
theorem Nw:rV 67=JW Cj:=rfl
theorem Ux:rV 94=MB:=rfl
def ZV (c:Bool)(x:Ak):Value:= .tuple ⟨[.agg ⟨bl (if c then x else zb)⟩, .int .i64 (if c then 0 else 2)]⟩
theorem Uy {x:Ak}:ZV true x= .tuple ⟨[.agg ⟨bl x⟩, .int .i64 0]⟩:=rfl
theorem dR {x:Ak}:ZV false x= .tuple ⟨[.agg ⟨bl zb⟩, .int .i64 2]⟩:=rfl
def FM (f:Ak→Nat→Ak):BO:= .pure (fun args _=>match args with | [v, .int .i64 _]=>KP v | _=>False) (fun args _=>match args with | [v,n]=>ZV (Cj (intOf n)) (f (oX v) (intOf n - 1).toNat) | _=>undef)
theorem gM:BG Tryz.prog 68 (FM GS):=by
 refine .HS QM ?_ ?_
 ·rintro args hp h
  match args,h with
  | [_, .int .i64 n],⟨b,rfl,hb⟩=>rfl
 intro args hp hpre top hcl hsc
 match args,hpre with
 | [_, .int .i64 n],⟨b,rfl,hb⟩=>
 refine Ab.BF BN QM rfl 24 rfl [.cell 4 31, .tmp 5] rfl (show 2≤24 by decide) ?_
 simp only [intOf_int,B5]
 cases hr:Cj n with
 |false=>
  refine CW.vc bH [0,1,2,4,5,6,7,10] (by kernel_rfl) ?_
  (repeat ((try refine Vc.mk' ?_);simp (maxSteps:=6000000) only [go_sem,reduceIte,reduceCtorEq,Nat.reduceAdd,Nat.reduceMul,Nat.reduceSub,Nat.reduceLT,Nat.reduceLeDiff,Nat.reduceEqDiff,Int.reduceEq,Int.reduceLT,Int.reduceLE,Int.reduceNe,DS,CV,Fa,BP,Cb,Bu,Bs,Ca,Cc,B5,Nat.mul_one,Nw,Ux,JW,MB,hr,dR]))
  rfl
 |true=>
  have hr1:=hr
  simp only [Cj,Bool.and_eq_true,decide_eq_true_eq] at hr1
  obtain ⟨h1,h2⟩:=hr1
  obtain ⟨k,rfl⟩:∃k:Nat,n=(k:Int)+1:=⟨(n - 1).toNat,by omega⟩
  have hk:k < 256:=by omega
  have h4:k / 64 < 4:=by omega
  have h5:k / 64≤3:=by omega
  have ea:Ek .or .u64 ((wn b (k / 64):Nat):Int) (l8 k)=((wn b (k / 64) ||| 2 ^ (k % 64):Nat):Int):=n7 (IZ hb _) (UL (Nat.mod_lt _ (by decide)))
  refine CW.vc bH [0,1,2,4,5,6,7,10] (by kernel_rfl) ?_
  (repeat ((try refine Vc.mk' ?_);simp (maxSteps:=6000000) only [go_sem,reduceIte,reduceCtorEq,Nat.reduceAdd,Nat.reduceMul,Nat.reduceSub,Nat.reduceLT,Nat.reduceLeDiff,Nat.reduceEqDiff,Int.reduceEq,Int.reduceLT,Int.reduceLE,Int.reduceNe,DS,CV,Fa,BP,Cb,Bu,Bs,Ca,Cc,B5,Nat.mul_one,Nw,Ux,JW,MB,hr,h1,h2,tN,h4,h5,Z2 hb h4,Xo h4,ea,Uy]))
  rfl
def sy:=Bd rV 68 (FM GS)
theorem ox:B9 Tryz.prog tt.get sy:=bH.add gM
theorem Dw {u:Nat}(h:u < 10):Lib.decDigits u= [UInt8.ofNat (48+u)]:=by rw [Lib.decDigits,dif_pos h]
theorem Jj {u:Nat}(h:¬u < 10):Lib.decDigits u=Lib.decDigits (u / 10) ++ [UInt8.ofNat (48+u % 10)]:=by rw [Lib.decDigits,dif_neg h]
theorem Wc {sep x:List UInt8}{xs:List (List UInt8)}:Lib.join (xs ++ [x]) sep=if xs.length=0 then x else Lib.join xs sep ++ sep ++ x:=by
 cases xs with
 |nil=>simp [Lib.join_one]
 |cons y r=>
  rw [List.cons_append,Lib.join_cons,Lib.join_cons]
  simp [Lib.joinTail,List.append_assoc]
def tk (l:List Int)(k:Nat):List UInt8:=Lib.join ((l.take k).map Lib.itoa) [32]
theorem jC {l:List Int}{k:Nat}(h:k < l.length):tk l (k+1)=(if k=0 then [] else tk l k ++ [32]) ++ Lib.itoa (at' l k):=by
 unfold tk
 rw [List.take_succ_eq_append_getElem h,List.map_append,List.map_cons,List.map_nil,Wc,Dt _ _ h,List.length_map,List.length_take,Nat.min_eq_left (by omega)]
 by_cases h0:k=0
 ·rw [if_pos h0,if_pos h0];rfl
 ·rw [if_neg h0,if_neg h0]
def Em (l:List Int):List UInt8:=if l.length=0 then [45] else tk l l.length
theorem mM {b:Ak}{k:Nat}(h:k < (D6 b).length):1≤at' (D6 b) k∧at' (D6 b) k≤256:=by
 have:at' (D6 b) k∈D6 b:=by rw [Dt _ _ h];exact List.getElem_mem h
 obtain ⟨j,h1,h2,_⟩:=NH.1 this
 omega
theorem Jk {b:Ak}(hb:GV b):FE b=Em (D6 b):=by
 unfold FE Em tk
 have e:(CZ b).map TV=(D6 b).map Lib.itoa:=by rw [←kY hb];simp [OY,TV,Function.comp_def]
 have e2:(CZ b).length=(D6 b).length:=by rw [←kY hb];simp [OY]
 rw [e,e2,List.take_length]
theorem GD {l:List UInt8}:NN l l=true:=by rw [Gb];simp
end Go.Proofs.YthpibnpeaidabaaGreatDoor.Dm
