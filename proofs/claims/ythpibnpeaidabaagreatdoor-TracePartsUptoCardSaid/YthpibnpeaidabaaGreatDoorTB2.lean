/- Bit strings, as the bits chapter has them (turned to this seat by port.py): part TB2. -/
import Derived.Test.YthpibnpeaidabaaGreatDoorTB1
import Derived.Lib.ItoaLen
import Derived.Lib.ItoaMem
import Derived.Shelf.Spec.TrailingZeros
set_option linter.unusedVariables false
namespace Go.Proofs.YthpibnpeaidabaaGreatDoor.Dm
open Go.Dm
set_option maxHeartbeats 16000000
def QH (b:Nat):Value:= .func (.func 88) ⟨[]⟩ ⟨[.pointer (some ⟨b,0,none⟩)]⟩
def Kc:BB:= .det (fun args _ _=>match args with | [v]=>Jm v | _=>False) (fun args _ top=>match args with | [v]=>(QH top, [(top,some (.cells true 0 (bl (pW v))))],top+1) | _=>(undef, [],top))
theorem fk:A4 Tryz.prog 61 Kc:=by
 refine .Ci Oy ?_
 intro args hp top hpre hcl hsc
 match args,hpre with
 | [_],⟨b,rfl,hb⟩=>
 simp only [JW]
 refine AK.A5 BC Oy rfl 4 rfl [.tmp 2] rfl (show 1≤4 by decide) ?_
 refine CW.vc qv [0,1,2] (by kernel_rfl) ?_
 (repeat ((try refine Vc.mk' ?_);simp (config:= {maxSteps:=6000000}) only [go_sem,Di,Da]))
 (refine ⟨[top],by simp,by simp,by simp, ?_, ?_, ?_⟩ <;> simp [A3,Bi,AA.nil,AA.cons,BJ,BI,BG,AB,AH.set,AH.refl,QH,Je])
def G3:=Bj G2 61 Kc
theorem uc:B7 Tryz.prog tt.get G3:=qv.add fk
def G4:=Bj (Bj (Bj G3 89 Q9) 35 C0) 37 HU
theorem Tx:B7 Tryz.prog tt.get G4:=((uc.add kg).add ig).add dh
theorem dH:G4 61=Kc:=rfl
theorem gT:G4 35=C0:=rfl
theorem iz:G4 37=HU:=rfl
/-- the numbers of bits as texts -/
def Ti (x:Bn):List UInt8:=Lib.itoa x.1
def S5 (hp:Hp)(top:Nat)(b:AV)(pre:List Bn):Hp×Nat:=(hp.Am [(top,some (.cells true 0 (bl b))),(top+1,some (.cells true 0 [Ao (top+3) (pre.map Ti)])),(top+2,some (.cells true 0 (bl b))),(top+3,Af AR (pre.map Ti))],top+4)
theorem eI (x:Bn):(Ti x).length≤21:=Lib.itoa_length_le _ (by have:=x.2.1;omega) (by have:=x.2.2;omega)
theorem RH:∀l:List Bn,Lib.lens (l.map Ti)≤21 * l.length
 | []=>by simp [Lib.lens]
 |x :: l=>by
  have h1:=eI x
  have h2:=RH l
  simp only [Lib.lens,List.map_cons,List.length_cons,List.sum_cons] at *
  omega
theorem ZM (l:List Bn)(h:l.length≤256):(Lib.join (l.map Ti) [32]).length≤140737488355328:=by
 cases l with
 |nil=>simp [Lib.join_nil]
 |cons x r=>
  have:=RH (x :: r)
  rw [List.map_cons,Lib.join_length]
  simp only [List.map_cons,List.length_cons,List.length_map,List.length_nil] at *
  omega
def Ff (b:AV):List UInt8:=if (CB b).length=0 then [45] else Lib.join ((CB b).map Ti) [32]
def JF:BB:= .pure (fun args hp=>match args with | [v]=>Jm v∧hp 0=some Wj∧hp 1=some TT | _=>False) (fun args _=>match args with | [v]=> .string ⟨⟨Ff (pW v)⟩⟩ | _=>undef)
theorem K9:∀(us:BP) (hp:Hp) i o,(hp.Am us) i=some o→(∃p∈us,p.1=i∧p.2=some o)∨((∀p∈us,p.1≠i)∧hp i=some o):=by
 intro us
 induction us with
 |nil=>intro hp i o h;exact .inr ⟨fun _ h=>(by cases h),h⟩
 |cons p us ih=>
  intro hp i o h
  obtain ⟨a,x⟩:=p
  rw [Dj] at h
  rcases ih _ i o h with ⟨p,h1,h2,h3⟩ | ⟨h1,h2⟩
  ·exact .inl ⟨p,List.mem_cons_of_mem _ h1,h2,h3⟩
  ·by_cases e:i=a
   ·subst e
    rw [AB] at h2
    exact .inl ⟨(i,x),List.mem_cons_self ..,rfl,h2⟩
   ·rw [BH _ _ _ _ e] at h2
    refine .inr ⟨?_,h2⟩
    intro p hp'
    cases hp' with
    |head=>exact fun e'=>e e'.symm
    |tail _ h=>exact h1 p h
theorem MX:∀(us:BP) (hp:Hp) (i:Nat),(∀p∈us,i≠p.1)→(hp.Am us) i=hp i:=by
 intro us
 induction us with
 |nil=>intro hp i h;rfl
 |cons p us ih=>
  intro hp i h
  obtain ⟨a,x⟩:=p
  rw [Dj,ih _ _ (fun p hp'=>h p (List.mem_cons_of_mem _ hp')),BH _ _ _ _ (h (a,x) (List.mem_cons_self ..))]
theorem WX {hp:Hp}{top b1:Nat}{us us0:BP}(hcl:Cl hp top)(hb:top≤b1)(h1:∀p∈us,∀o,p.2=some o→o.cW)(h0:∀p∈us0,top≤p.1):OO b1 (hp.Am us0) (hp.Am us):=by
 intro i o e
 rcases K9 us hp i o e with ⟨p,h2,_,h4⟩ | ⟨_,h2⟩
 ·exact .inl (h1 p h2 o h4)
 ·have:=hcl.lt i o h2
  exact .inr ⟨by omega,o,by rw [MX us0 hp i (fun p hp'=>by have:=h0 p hp';omega)];exact h2⟩
theorem YN {α:Type}{E:Be α}{l:List α}:∀o,Af E l=some o→o.cW:=by
 intro o e
 cases l with
 |nil=>cases e
 |cons a l=>cases e;trivial
def pg (n:Nat):Bl→Prop
 | []=>True
 | (_,v,_) :: l=>Sc n v∧pg n l
theorem pg.of {n:Nat}:∀ {fr:Bl},pg n fr→∀t v,Fi fr t=some v→Sc n v
 | [],_,_,_,h=>by cases h
 | (j,x,g) :: l,⟨h1,h2⟩,t,v,hv=>by
  simp only [Fi,Ba] at hv
  cases hb:Nat.beq j t with
  |true=>
   rw [hb] at hv
   cases hv
   cases g with
   |true=>exact h1
   |false=>simp [undef,Sc,E5]
  |false=>rw [hb] at hv;exact pg.of h2 t v hv
mutual
theorem iI {n m:Nat}(hm:n≤m):∀ {v:Value},Sc n v→Sc m v
 | .bool _,_=>trivial
 | .int _ _,_=>trivial
 | .float _ _,_=>trivial
 | .complex _ _ _,_=>trivial
 | .string _,_=>trivial
 | .pointer none,_=>trivial
 | .pointer (some ⟨_,_,_⟩),h=>Nat.lt_of_lt_of_le h hm
 | .slice none _ _,_=>trivial
 | .slice (some ⟨_,_,none⟩) _ _,h=>Nat.lt_of_lt_of_le h hm
 | .slice (some ⟨_,_,some _⟩) _ _,_=>trivial
 | .map none,_=>trivial
 | .map (some _),h=>Nat.lt_of_lt_of_le h hm
 | .chan _,_=>trivial
 | .func _ ⟨_⟩ ⟨_⟩,h=>⟨Mn hm h.1,Mn hm h.2⟩
 | .nilFunc,_=>trivial
 | .iface _ v,h=>iI (v:=v) hm h
 | .nilIface,_=>trivial
 | .agg ⟨l⟩,h=>Mn (l:=l) hm h
 | .tuple ⟨l⟩,h=>Mn (l:=l) hm h
theorem Mn {n m:Nat}(hm:n≤m):∀ {l:List Value},E5 n l→E5 m l
 | [],_=>trivial
 |_ :: _,h=>⟨iI hm h.1,Mn hm h.2⟩
end
theorem vN {hp:Hp}{n m:Nat}(h:Cl hp n)(hm:n≤m):Cl hp m:=by
 refine ⟨fun i o e=>Nat.lt_of_lt_of_le (h.lt i o e) hm,fun i o e=> ?_⟩
 have:=h.sc i o e
 cases o with
 |cells rw z vs=>exact Mn hm this
 |map es clk=>exact fun e he=>⟨iI hm (this e he).1,iI hm (this e he).2⟩
 |iter s p=>trivial
 |miter m s c l=>exact Nat.lt_of_lt_of_le this hm
 |raw b vs=>trivial
theorem Uu:A4 Tryz.prog 36 JF:=by
 refine .Hg NY ?_ ?_
 ·rintro args hp h
  match args,h with
  | [_],⟨⟨b,rfl,hb⟩,_⟩=>rfl
 intro args hp hpre top hcl hsc
 match args,hpre with
 | [_],⟨⟨b,rfl,hb⟩,ht,hp1⟩=>
 simp only [JW]
 have hIb:=NH hb
 have ht0:=hcl.lt _ _ ht
 have ht1:=hcl.lt _ _ hp1
 refine AK.iC BC NY rfl 18 rfl [.tmp 2] rfl (show 1≤18 by decide) ?_
 refine CT.seq (CT.of (CW.vc Tx [0,1,2,3,4,6,15] (by kernel_rfl) ?_))
 (repeat ((try refine Vc.mk' ?_);simp (config:= {maxSteps:=6000000}) only [go_sem]))
 refine CT.seq (CT.of (CW.vc Tx [0,1,2,3,4,6,15] (by kernel_rfl) ?_))
 (repeat ((try refine Vc.mk' ?_);simp (config:= {maxSteps:=6000000}) only [go_sem,Nat.reduceAdd]))
 refine CT.seq (CT.seq (CT.of (CW.vc Tx [0,1,2,3,4,6,15] (by kernel_rfl) ?_)))
 (repeat ((try refine Vc.mk' ?_);simp (config:= {maxSteps:=6000000}) only [go_sem,reduceCtorEq,Nat.reduceAdd,Eo,Iz,JW,dH,Kc,hIb]))
 refine CT.block ?_
 refine CT.range (g:= .tmp 6) (p:=7) (q:=4) (Sd:=fun xs=>xs=CB b) (Sp:=fun pre=>pre <+:CB b) (N:=(CB b).length) BC Tryz.f88 (by kernel_rfl) OL.toFTOk (top+3) ?hb1
  [(1, .pointer (some ⟨top,0,none⟩),true),(3, .pointer (some ⟨top+1,0,none⟩),true),(6,QH (top+2),true)] (S5 hp top b) (fun _ _ _=>False) jf (fun _=>rfl) ?hp ?hq ?ho ?hd ?hgd [.pointer (some ⟨top+2,0,none⟩)] rfl
  ?h0 ?ht ?hfr ?hfl ?hfX dE ?hT eR ?hit ?hround ?hdone ?hret ?hexit
 case hb1=>exact Nat.le_add_right _ _
 case ho=>rfl
 case hd=>rfl
 case hgd=>rfl
 case hp=>decide
 case hq=>decide
 case h0=>exact (by refine Ar.mk' [top,top+1,top+2,top+3] hcl (by simp) (by simp) rfl (AG ?_) ?_ ?_ <;> simp [Ac,Ba,A3,Bi,AA.nil,AA.cons,BJ,BI,BG,Gw,AB,BH,AH.set,AH.refl,Je,QH,JE,Iy])
 case ht=>exact fun pre=>Nat.le_succ _
 case hfr=>exact pg.of (by simp [pg,Sc,E5,QH])
 case hfl=>
  refine fun pre=>WX hcl (by omega) ?_ (by simp)
  intro p hp' o e
  simp only [List.mem_cons,List.not_mem_nil,or_false] at hp'
  rcases hp' with rfl | rfl | rfl | rfl
  ·cases e;trivial
  ·cases e;trivial
  ·cases e;trivial
  ·exact YN o e
 case hfX=>exact fun _ _ _ h=>h.elim
 case hT=>
  intro pre φ own W H
  refine Zp H ?_
  show hp.Am _ 0=_
  rw [MX _ _ _ (by simp;omega)];exact ht
 case hit=>
  intro φ own W caps' hV H
  exact Tc b hb (by show hp.Am _ 0=_;rw [MX _ _ _ (by simp;omega)];exact ht) (gb:=top+2) (rw:=true) (by simp [S5,Dj,JI,AB,BH,bl]) hV H
 case hround=>
  intro pre x hlen
  refine CW.vc Tx [0,1,2,3,4,6,15] (by kernel_rfl) ?_
  have hx0:0≤x.1:=by have:=x.2.1;omega
  have hx1:x.1≤9223372036854775807:=by have:=x.2.2;omega
  have hll:(pre.map Ti).length < 16777216:=by have:=HX hb;simp;omega
  have hll2:pre.length < 16777216:=by have:=HX hb;omega
  have htx:Lib.itoa x.1=Ti x:=rfl
  (repeat ((try refine Vc.mk' ?_);simp (config:= {maxSteps:=6000000}) only [go_sem,Nat.reduceAdd,Nat.reduceLeDiff,Nat.reduceEqDiff,Nat.mul_one,S5,jf,gT,C0,hx0,hx1,B8 ht1,hp1,htx,hll2,List.length_map]))
  have e0:top < top+3:=by omega
  have e1:top+1 < top+3:=by omega
  have e2:top+2 < top+3:=by omega
  refine Ar.mk' (hp:=hp) [top+5] (vN hcl (by omega)) (by simp) (by simp) rfl (AG (by simp [Ac])) (by simp [AH.set,AH.Aw,AH.refl]) ?_
  simp [Bi,AA.nil,AA.cons,BJ,BI,B0,BG,Cs,AB,BH,Je,AP e0,AP e1,AP e2]
 case hdone=>
  rintro xs rfl
  refine CT.seq (CT.of (CW.vc Tx [0,1,2,3,4,6,15] (by kernel_rfl) ?_))
  have hml:((CB b).map Ti).length≤256:=by rw [List.length_map];exact HX hb
  have hbl:=HX hb
  have hob:(((hp.set top (some (Av.cells true 0 (bl b)))).set (top+1) (some (Av.cells true 0 [Ao (top+3) (List.map Ti (CB b))]))).set (top+2) (some (Av.cells true 0 (bl b)))).set (top+3) (Af AR (List.map Ti (CB b))) (top+3)=Af AR (List.map Ti (CB b)):=AB ..
  have hP:=lH hob (by omega)
  have hR:=cR hob (by omega)
  have hJ:=ZM _ hbl
  have hm2:(CB b).length≤140737488355328:=by omega
  (repeat ((try refine Vc.mk' ?_);simp (config:= {maxSteps:=6000000}) only [go_sem,Nat.reduceEqDiff,S5]))
  refine Ms.mk (fun c=> ?_) (fun c=> ?_)
  ·(repeat ((try refine Vc.mk' ?_);simp (config:= {maxSteps:=6000000}) only [go_sem]))
   have c2:(CB b).length=0:=by simpa using c
   simp [Ff,c2]
  ·have c2:¬(CB b).length=0:=by simpa using c
   refine CT.of (CW.vc Tx [0,1,2,3,4,6,15] (by kernel_rfl) ?_)
   (repeat ((try refine Vc.mk' ?_);simp (config:= {maxSteps:=6000000}) only [go_sem,Nat.reduceEqDiff,iz,HU,hP,hR,hJ,hm2,List.length_map]))
   rw [show Ff b=Lib.join ((CB b).map Ti) [32] from if_neg c2]
 case hret=>exact fun _ _ _ h=>h.elim
 case hexit=>exact fun _ _ _ _ h=>h.elim
theorem UR {d:Nat}{x y:Int}:EG tt.get (d+1) 28 (.int .u64 x) (.int .u64 y)=some (decide (x=y)):=by
 simp [EG,Gq,JY,KX]
theorem Ez {xs ys:List Value}{d i n:Nat}{x y:Int}(h1:Cq JY xs (i * 1)=some (.int .u64 x))(h2:Cq JY ys (i * 1)=some (.int .u64 y)) :
  eqItems tt.get (d+2) 28 JY xs ys i (n+1)=if x=y then eqItems tt.get (d+1) 28 JY xs ys (i+1) n else some false:=by
 have hs:JY.size=1:=rfl
 simp only [eqItems,hs,h1,h2,UR]
 by_cases h:x=y <;> simp [h]
theorem N0 {xs ys:List Value}{d e i:Nat}{j:TI}:eqItems tt.get (d+1) e j xs ys i 0=some true:=by rw [eqItems]
def jm (x:Int)(k:Int):Int:=x.fdiv (Int.ofNat (Nat.pow 2 ((Int.toNat k).min 64)))
def vt (x:Int):Int:=AL .u64 (D6 .and .u64 (jm x 1) 6148914691236517205+D6 .and .u64 x 6148914691236517205)
def vy (x:Int):Int:=AL .u64 (D6 .and .u64 (jm x 2) 3689348814741910323+D6 .and .u64 x 3689348814741910323)
def wA (x:Int):Int:=D6 .and .u64 (AL .u64 (jm x 4+x)) 1085102592571150095
def ug (k:Int)(x:Int):Int:=AL .u64 (x+jm x k)
/-- as Go's text counts -/
def WO (x:Int):Int:=D6 .and .i64 (AL .i64 (ug 32 (ug 16 (ug 8 (wA (vy (vt x))))))) 127
def UD:BB:= .pure (fun args _=>match args with | [.int .u64 x]=>SL x | _=>False) (fun args _=>match args with | [x]=> .int .i64 (WO (intOf x)) | _=>undef)
theorem ur {hp:Hp}{x:Value}:BO tt.get hp 28 3 x=(.int .i64 (AL .i64 (intOf x)),HK x):=MD C8 Hu
theorem tF:A4 Tryz.prog 81 UD:=by
 refine .mkPure Oe ?_
 intro args hp hpre top
 match args,hpre with
 | [.int .u64 x],⟨h0,h1⟩=>
 refine AK.A5 BC Oe rfl 35 rfl [.tmp 2] rfl (show 1≤35 by decide) ?_
 refine CW.vc EY [0,2] (by kernel_rfl) ?_
 (repeat ((try refine Vc.mk' ?_);simp (config:= {maxSteps:=6000000}) only [go_sem,Int.reduceLE,ur]))
 rfl
theorem MG (x:Int):0≤WO x∧WO x≤127:=by
 unfold WO
 generalize AL .i64 _=y
 have h:(BitVec.ofInt 64 y &&& BitVec.ofInt 64 127).toNat≤127:=by
  rw [BitVec.toNat_and]
  exact Nat.le_trans Nat.and_le_right (by decide)
 show 0≤IntKind.i64.wrap ((BitVec.ofInt 64 y &&& BitVec.ofInt 64 127).toNat:Int)∧IntKind.i64.wrap ((BitVec.ofInt 64 y &&& BitVec.ofInt 64 127).toNat:Int)≤127
 rw [←CI,wrap64 (by omega) (by omega)]
 omega
def XU (b:AV):Nat→Int
 |0=>0
 |i+1=>XU b i+WO (wn b i:Int)
theorem Mr {b:AV}:∀i,0≤XU b i∧XU b i≤127 * i
 |0=>by simp [XU]
 |i+1=>by
  have h1:=Mr (b:=b) i
  have h2:=MG (wn b i:Int)
  simp only [XU]
  omega
def G5:=Bj G4 81 UD
theorem du:B7 Tryz.prog tt.get G5:=Tx.add tF
theorem qc:G5 81=UD:=rfl
def HD:BB:= .pure (fun args _=>match args with | [v]=>Jm v | _=>False) (fun args _=>match args with | [v]=> .int .i64 (XU (pW v) 4) | _=>undef)
def Ye (hp:Hp)(top:Nat)(b:AV)(i:Nat):SS:=⟨[(3, .int .i64 (XU b i),true),(6, .agg ⟨bl b⟩,true),(7, .int .i64 (i:Int),true)],hp.Am [(top,some (.cells true 0 (bl b)))],top+1⟩
theorem QT:A4 Tryz.prog 56 HD:=by
 refine .Hg PV ?_ ?_
 ·rintro args hp h
  match args,h with
  | [_],⟨b,rfl,hb⟩=>rfl
 intro args hp hpre top hcl hsc
 match args,hpre with
 | [_],⟨b,rfl,hb⟩=>
 refine AK.A5 BC PV rfl 16 rfl [.tmp 2] rfl (show 1≤16 by decide) ?_
 refine CW.vc du [0,1,2,3,5,6,7,8] (by kernel_rfl) ?_
 (repeat ((try refine Vc.mk' ?_);simp (config:= {maxSteps:=6000000}) only [go_sem,Eo,Iz,JW]))
 refine CW.Bp (Ye hp top b) (fun k=>k≤4) (fun k=>4 - k) 0 (by omega) ?_ ?_
 ·exact (by refine Ar.mk' [top] hcl (by simp) (by simp) rfl (AG ?_) ?_ ?_ <;> simp [Ac,Ba,A3,AA.nil,AA.cons,BJ,BI,BG,AB,AH.set,AH.refl,Je,XU])
 ·rintro i hi
  by_cases hlt:i < 4
  ·have h4:(i:Int) < 4:=by omega
   have h3:i≤3:=by omega
   have hu:SL (wn b i:Int)=True:=eq_true ⟨by omega,by have:=Hr hb i;omega⟩
   refine CW.vc du [0,1,2,3,5,6,7,8] (by kernel_rfl) ?_
   (repeat ((try refine Vc.mk' ?_);simp (config:= {maxSteps:=6000000}) only [go_sem,Eo,Nat.mul_one,Ye,hlt,h4,GG,Int.toNat_natCast,cM hb hlt,qc,UD,hu]))
   have hw:AL .i64 (XU b i+WO (wn b i:Int))=XU b (i+1):=by
    have h1:=Mr (b:=b) i
    have h2:=MG (wn b i:Int)
    rw [wrap64 (by omega) (by omega)];rfl
   refine .mk (i+1) hlt (by omega) ((by refine Ar.mk' [top] hcl (by simp) (by simp) rfl (AG ?_) ?_ ?_ <;> simp [Ac,Ba,A3,AA.nil,AA.cons,BJ,BI,BG,AB,AH.set,AH.refl,Je,Fp hlt (by decide),hw]))
  ·have hi4:i=4:=by omega
   have h4:¬(i:Int) < 4:=by omega
   refine CW.vc du [0,1,2,3,5,6,7,8] (by kernel_rfl) ?_
   (repeat ((try refine Vc.mk' ?_);simp (config:= {maxSteps:=6000000}) only [go_sem,Ye,h4]))
   rw [hi4]
theorem VQ {α:Type}[Inhabited α]{l:List α}{k:Nat}(h:k < l.length):l.drop k=at' l k :: l.drop (k+1):=by rw [Cd _ _ h];exact List.drop_eq_getElem_cons h
def G6:=Bj (Bj G5 56 HD) 36 JF
theorem uz:B7 Tryz.prog tt.get G6:=(du.add QT).add Uu
def uU:=G6
theorem Yt:B7 Tryz.prog tt.get uU:=uz
/-- the number of set bits below n -/
def qt (x:Nat):Nat→Nat
 |0=>0
 |n+1=>qt x n+(x.testBit n).toNat
def mk (m:Nat):Nat→Nat
 |0=>0
 |n+1=>m+256 * mk m n
def n1 (M x:Nat):Nat:=(x / 2 &&& M)+(x &&& M)
def n2 (M x:Nat):Nat:=(x / 4 &&& M)+(x &&& M)
def n3 (M x:Nat):Nat:=(x / 16+x) &&& M
theorem b1:∀c:Fin 256,∀d:Fin 2,(c.val / 2+128 * d.val) &&& 85=c.val / 2 &&& 85:=by decide +kernel
theorem b2:∀c:Fin 256,∀d:Fin 4,(c.val / 4+64 * d.val) &&& 51=c.val / 4 &&& 51:=by decide +kernel
theorem b3:∀c:Fin 5,∀e:Fin 5,∀d:Fin 5,(e.val+16 * d.val+(c.val+16 * e.val)) &&& 15=(e.val+(c.val+16 * e.val)) &&& 15:=by decide +kernel
/-- as bytes -/
def v7 (x:Nat):Nat→Nat
 |0=>0
 |n+1=>qt (x % 256) 8+256 * v7 (x / 256) n
/-- the bits below n,rising -/
def e9 (b:AV)(n:Nat):List Int:=((List.range n).filter (hasB b)).map fun j:Nat=>(j:Int)+1
def DN (b:AV):List Int:=e9 b 256
def O8 (l:List Bn):List Int:=l.map Subtype.val
theorem ee {b:AV}:∀n,(e9 b n).length≤n:=fun n=>by
 unfold e9
 rw [List.length_map]
 exact Nat.le_trans (List.length_filter_le _ _) (by simp)
theorem Pb {b:AV}{i:Nat}(hi:i < 4):O8 (wf i (wn b i))=((List.range' (64 * i) 64).filter (hasB b)).map fun j:Nat=>(j:Int)+1:=by
 unfold O8 wf
 rw [List.range'_eq_map_range,List.filter_map,List.map_map,List.map_map]
 have e:(List.range 64).filter (fun j=>(wn b i).testBit j)=(List.range 64).filter (hasB b ∘ fun x=>64 * i+x):=by
  refine List.filter_congr fun j hj=> ?_
  rw [List.mem_range] at hj
  exact (Ny hj).symm
 rw [e]
 refine List.map_congr_left fun j hj=> ?_
 have hj:j < 64:=List.mem_range.1 (List.mem_filter.1 hj).1
 show (S8 _).1=_
 rw [Qk ⟨by omega,by omega⟩]
 simp only [Function.comp]
 omega
theorem ZH (l m:List Bn):O8 (l ++ m)=O8 l ++ O8 m:=by simp [O8]
theorem kG {b:AV}(hb:Fw b):O8 (CB b)=DN b:=by
 rw [J2]
 simp only [lG _ (Hr hb _),ZH,Pb (show 0 < 4 by decide),Pb (show 1 < 4 by decide),Pb (show 2 < 4 by decide),Pb (show 3 < 4 by decide)]
 unfold DN e9
 have e:List.range 256=List.range' (64 * 0) 64 ++ (List.range' (64 * 1) 64 ++ (List.range' (64 * 2) 64 ++ List.range' (64 * 3) 64)):=by decide +kernel
 rw [e]
 simp only [List.filter_append,List.map_append]
theorem nS {b:AV}:(DN b).length≤256:=ee 256
theorem Ly {b:AV}{k j:Nat}(hk:k < 256)(hj:j < 256):hasB (FX b k) j=(hasB b j || decide (j=k)):=by
 have h1:64 * (j / 64)+j % 64=j:=by omega
 unfold hasB
 rw [aW hk (by omega) (Nat.mod_lt _ (by decide)),h1]
theorem VA {a b:AV}(ha:Fw a)(hb:Fw b)(h:∀k,k < 256→hasB a k=hasB b k):a=b:=by
 refine ZV ha hb fun i j hi hj=> ?_
 rw [←Ny hj,←Ny hj]
 exact h _ (by omega)
theorem U7 {k:Nat}:hasB zb k=false:=oA
theorem nq {b:AV}(hb:Fw b)(h:DN b= []):b=zb:=by
 refine VA hb KA fun k hk=> ?_
 rw [U7]
 unfold DN e9 at h
 have h2:=List.map_eq_nil_iff.1 h
 rw [List.filter_eq_nil_iff] at h2
 have:=h2 k (List.mem_range.2 hk)
 simpa using this
theorem L0:DN zb= []:=by
 unfold DN e9
 have:(List.range 256).filter (hasB zb)= []:=by
  rw [List.filter_eq_nil_iff];intro a _;rw [U7];simp
 rw [this];rfl
theorem K8 {b:AV}{x:Int}:x∈DN b ↔ ∃k:Nat,k < 256∧x=(k:Int)+1∧hasB b k=true:=by
 unfold DN e9
 rw [List.mem_map]
 constructor
 ·rintro ⟨k,h1,h2⟩
  obtain ⟨h3,h4⟩:=List.mem_filter.1 h1
  exact ⟨k,List.mem_range.1 h3,h2.symm,h4⟩
 ·rintro ⟨k,h1,h2,h3⟩
  exact ⟨k,List.mem_filter.2 ⟨List.mem_range.2 h1,h3⟩,h2.symm⟩
/-- the bits rise -/
theorem NB {b:AV}:List.Pairwise (· < ·) (DN b):=by
 unfold DN e9
 rw [List.pairwise_map]
 refine List.Pairwise.filter _ ?_
 refine List.Pairwise.imp ?_ List.pairwise_lt_range
 intro a b h;omega
theorem M6:uU 67=KL CL:=rfl
theorem gm:uU 94=N6:=rfl
def Z4 (c:Bool)(x:AV):Value:= .tuple ⟨[.agg ⟨bl (if c then x else zb)⟩, .int .i64 (if c then 0 else 2)]⟩
theorem Un {x:AV}:Z4 true x= .tuple ⟨[.agg ⟨bl x⟩, .int .i64 0]⟩:=rfl
theorem gd {x:AV}:Z4 false x= .tuple ⟨[.agg ⟨bl zb⟩, .int .i64 2]⟩:=rfl
def Nk (f:AV→Nat→AV):BB:= .pure (fun args _=>match args with | [v, .int .i64 _]=>Jm v | _=>False) (fun args _=>match args with | [v,n]=>Z4 (CL (intOf n)) (f (pW v) (intOf n - 1).toNat) | _=>undef)
theorem jn:A4 Tryz.prog 68 (Nk FX):=by
 refine .Hg N9 ?_ ?_
 ·rintro args hp h
  match args,h with
  | [_, .int .i64 n],⟨b,rfl,hb⟩=>rfl
 intro args hp hpre top hcl hsc
 match args,hpre with
 | [_, .int .i64 n],⟨b,rfl,hb⟩=>
 refine AK.A5 BC N9 rfl 24 rfl [.cell 4 31, .tmp 5] rfl (show 2≤24 by decide) ?_
 simp only [intOf_int,JW]
 cases hr:CL n with
 |false=>
  refine CW.vc Yt [0,1,2,4,5,6,7,10] (by kernel_rfl) ?_
  (repeat ((try refine Vc.mk' ?_);simp (config:= {maxSteps:=6000000}) only [go_sem,Nat.reduceAdd,Nat.mul_one,M6,KL,hr,gd]))
  rfl
 |true=>
  have hr1:=hr
  simp only [CL,Bool.and_eq_true,decide_eq_true_eq] at hr1
  obtain ⟨h1,h2⟩:=hr1
  obtain ⟨k,rfl⟩:∃k:Nat,n=(k:Int)+1:=⟨(n - 1).toNat,by omega⟩
  have hk:k < 256:=by omega
  have h4:k / 64 < 4:=by omega
  have h5:k / 64≤3:=by omega
  have ea:D6 .or .u64 ((wn b (k / 64):Nat):Int) (oK k)=((wn b (k / 64) ||| 2 ^ (k % 64):Nat):Int):=pF (Hr hb _) (Tq (Nat.mod_lt _ (by decide)))
  refine CW.vc Yt [0,1,2,4,5,6,7,10] (by kernel_rfl) ?_
  (repeat ((try refine Vc.mk' ?_);simp (config:= {maxSteps:=6000000}) only [go_sem,reduceCtorEq,Nat.reduceAdd,Nat.reduceLeDiff,Eo,Iz,Su,Nat.mul_one,M6,gm,KL,N6,hr,h1,h2,wB,h4,h5,cM hb h4,Ww h4,ea,Un]))
  rfl
def vd:=Bj uU 68 (Nk FX)
theorem rJ:B7 Tryz.prog tt.get vd:=Yt.add jn
theorem DL {u:Nat}(h:u < 10):Lib.decDigits u= [UInt8.ofNat (48+u)]:=by rw [Lib.decDigits,dif_pos h]
theorem JN {u:Nat}(h:¬u < 10):Lib.decDigits u=Lib.decDigits (u / 10) ++ [UInt8.ofNat (48+u % 10)]:=by rw [Lib.decDigits,dif_neg h]
theorem W9 {sep x:List UInt8}{xs:List (List UInt8)}:Lib.join (xs ++ [x]) sep=if xs.length=0 then x else Lib.join xs sep ++ sep ++ x:=by
 cases xs with
 |nil=>simp [Lib.join_one]
 |cons y r=>
  rw [List.cons_append,Lib.join_cons,Lib.join_cons]
  simp [Lib.joinTail,List.append_assoc]
def tk (l:List Int)(k:Nat):List UInt8:=Lib.join ((l.take k).map Lib.itoa) [32]
theorem iT {l:List Int}{k:Nat}(h:k < l.length):tk l (k+1)=(if k=0 then [] else tk l k ++ [32]) ++ Lib.itoa (at' l k):=by
 unfold tk
 rw [List.take_succ_eq_append_getElem h,List.map_append,List.map_cons,List.map_nil,W9,Cd _ _ h,List.length_map,List.length_take,Nat.min_eq_left (by omega)]
 by_cases h0:k=0
 ·rw [if_pos h0,if_pos h0];rfl
 ·rw [if_neg h0,if_neg h0]
def Dz (l:List Int):List UInt8:=if l.length=0 then [45] else tk l l.length
theorem mZ {b:AV}{k:Nat}(h:k < (DN b).length):1≤at' (DN b) k∧at' (DN b) k≤256:=by
 have:at' (DN b) k∈DN b:=by rw [Cd _ _ h];exact List.getElem_mem h
 obtain ⟨j,h1,h2,_⟩:=K8.1 this
 omega
theorem Kp {b:AV}(hb:Fw b):Ff b=Dz (DN b):=by
 unfold Ff Dz tk
 have e:(CB b).map Ti=(DN b).map Lib.itoa:=by rw [←kG hb];simp [O8,Ti]
 have e2:(CB b).length=(DN b).length:=by rw [←kG hb];simp [O8]
 rw [e,e2,List.take_length]
theorem Ix {l:List UInt8}:NG l l=true:=by rw [Gj];simp
end Go.Proofs.YthpibnpeaidabaaGreatDoor.Dm
