/- The graph package: what may be; the graph of a square of costs. -/
import Derived.Test.YthlhnangbinhoaaGreatDoorDmK
set_option linter.unusedVariables false
namespace Go.Proofs.YthlhnangbinhoaaGreatDoor.Gr
open Go.Dm Go.Proofs.YthlhnangbinhoaaGreatDoor.Dm
set_option maxHeartbeats 4000000
theorem D5{a b:Bool}(h:a=true ↔ b=true):Value.bool a=Value.bool b:=by rw[Bool.eq_iff_iff.2 h]
theorem drop_at {α:Type}[Inhabited α]{l:List α}{k:Nat}(h:k < l.length):l.drop k=at' l k :: l.drop (k+1):=by rw [BS _ _ h];exact List.drop_eq_getElem_cons h
theorem Bj {α:Type}[Inhabited α]{l:List α}{k:Nat}(h:k < l.length):l.take (k+1)=l.take k ++ [at' l k]:=by rw [BS _ _ h];exact List.take_succ_eq_append_getElem h
theorem at_mem{α:Type}[Inhabited α]{l:List α}{k:Nat}(h:k < l.length):at' l k∈l:=by rw[BS _ _ h];exact List.getElem_mem h
def G0:FuncId→BE:=fun _=> .none
theorem SD:Bp Tryz.prog tt.get G0:=⟨Am,fun _=>trivial⟩
def BP (a:Int):Bool:=decide (1≤a) && decide (a≤24)
def LP (a:Int):Bool:=decide (1≤a) && decide (a≤1000)
def F2 (f:Int→Bool):BE:= .pure (fun args _=>match args with | [x]=>GR .i64 x | _=>False) (fun args _=>match args with | [x]=> .bool (f (intOf x)) | _=>undef)
theorem eU:Ag Tryz.prog 126 (F2 BP):=by
 refine .mkPure Wd ?_
 intro args hp hpre top
 match args,hpre with
 | [x],hx=>
 rw [hx]
 refine AJ.Af Am Wd rfl 9 rfl [.tmp 2] rfl (show 1≤9 by decide) ?_
 refine CW.vc SD [0,2] (by kernel_rfl) ?_
 (repeat ((try refine Vc.mk' ?_);simp only [go_sem]))
 refine D5 ?_
 simp [BP];try omega
theorem nr:Ag Tryz.prog 127 (F2 LP):=by
 refine .mkPure We ?_
 intro args hp hpre top
 match args,hpre with
 | [x],hx=>
 rw [hx]
 refine AJ.Af Am We rfl 9 rfl [.tmp 2] rfl (show 1≤9 by decide) ?_
 refine CW.vc SD [0,2] (by kernel_rfl) ?_
 (repeat ((try refine Vc.mk' ?_);simp only [go_sem]))
 refine D5 ?_
 simp [LP];try omega
theorem ZD:Ag Tryz.prog 69 (F2 BP):=by
 refine .mkPure Pt ?_
 intro args hp hpre top
 match args,hpre with
 | [x],hx=>
 rw [hx]
 refine AJ.Af Am Pt rfl 9 rfl [.tmp 2] rfl (show 1≤9 by decide) ?_
 refine CW.vc SD [0,2] (by kernel_rfl) ?_
 (repeat ((try refine Vc.mk' ?_);simp only [go_sem]))
 refine D5 ?_
 simp [BP];try omega
def G1:=BV (BV (BV G0 126 (F2 BP)) 127 (F2 LP)) 69 (F2 BP)
theorem PV:Bp Tryz.prog tt.get G1:=((SD.add eU).add nr).add ZD
set_option maxHeartbeats 4000000
def cS(s:List Int)(a b:Nat):Int:=(s[a * 25+b]?).getD 0
def iS(is:List Bool)(a:Nat):Bool:=(is[a]?).getD false
def Mp(s:List Int)(a b:Nat):List C7:=if 0 < cS s a b∧0 < cS s b a then [⟨(a:Int),(b:Int),cS s a b⟩]else []
def OS(s:List Int)(a b:Nat):List C7:=(List.range b).flatMap fun j=>Mp s a j
def Ea (is:List Bool)(a:Nat):List Int:=((List.range a).filter (iS is)).map fun (i:Nat)=>(i:Int)
def FF(s:List Int)(is:List Bool)(a:Nat):List C7:=(List.range a).flatMap fun i=>if iS is i then OS s i 25 else []
theorem Yu (is:List Bool)(a:Nat):(Ea is a).length≤a:=by
 unfold Ea
 rw [List.length_map]
 exact Nat.le_trans (List.length_filter_le ..) (by simp)
theorem dS(s:List Int)(a b:Nat):(Mp s a b).length≤1:=by unfold Mp;split <;> simp
theorem Te (s:List Int)(a b:Nat):OS s a (b+1)=OS s a b ++ Mp s a b:=by simp [OS,List.range_succ]
theorem RU (s:List Int)(a:Nat):∀b,(OS s a b).length≤b
 |0=>by simp [OS]
 |b+1=>by
  have:=RU s a b
  have h2:=dS s a b
  rw [Te,List.length_append];omega
theorem J0 (s:List Int)(is:List Bool)(a:Nat):FF s is (a+1)=FF s is a ++ (if iS is a then OS s a 25 else []):=by simp [FF,List.range_succ]
theorem Ql (s:List Int)(is:List Bool):∀a,(FF s is a).length≤a * 25
 |0=>by simp [FF]
 |a+1=>by
  have:=Ql s is a
  have h2:=RU s a 25
  rw [J0,List.length_append,Nat.succ_mul]
  split
  ·omega
  ·simp;omega
theorem KQ (is:List Bool)(a:Nat):Ea is (a+1)=Ea is a ++ (if iS is a then [(a:Int)] else []):=by
 unfold Ea
 rw [List.range_succ,List.filter_append,List.map_append]
 cases h:iS is a <;> simp [h]
def qR (hp:Hp)(b:Nat):List Int:=match hp b with
 |some (.cells _ _ vs)=>vs.map intOf
 |_=> []
def qS (hp:Hp)(b:Nat):Prop:=match hp b with
 |some (.cells _ _ vs)=>vs=(vs.map intOf).map (Value.int .i64)∧vs.length=625
 |_=>False
theorem qT {hp:Hp}{b:Nat}(h:qS hp b):∃rw z s,hp b=some (.cells rw z (s.map (Value.int .i64)))∧s.length=625∧qR hp b=s:=by
 unfold qS at h
 split at h
 ·rename_i rw z vs hb
  refine ⟨rw,z,vs.map intOf,by rw [hb,←h.1],by simpa using h.2,by unfold qR;rw [hb]⟩
 ·exact h.elim
theorem dt (l:List Int):(l.map (Value.int .i64)).map intOf=l:=by rw [List.map_map];exact (List.map_congr_left (fun _ _=>rfl)).trans (List.map_id l)
theorem QT (l:List Bool):(l.map Value.bool).map Bs=l:=by rw [List.map_map];exact (List.map_congr_left (fun _ _=>rfl)).trans (List.map_id l)
def wL (nodes:List Int)(edges:List C7)(top:Nat):Value×A6×Nat:=(.agg ⟨[AA top nodes,AA (top+1) edges]⟩, [(top,AD AL nodes),(top+1,AD BC edges)],top+2)
def Z2:BE:= .det (fun args hp _=>match args with | [.pointer (some ⟨b,0,none⟩), .agg ⟨cs⟩]=>qS hp b∧cs=(cs.map Bs).map Value.bool∧cs.length=25 | _=>False) (fun args hp top=>match args with
 | [.pointer (some ⟨b,0,none⟩), .agg ⟨cs⟩]=>wL (Ea (cs.map Bs) 25) (FF (qR hp b) (cs.map Bs) 25) top
 |_=>(undef, [],top))
def cA (hp:Hp)(top b:Nat)(s:List Int)(is:List Bool)(a:Nat):SS:=
 ⟨[(0, .pointer (some ⟨b,0,none⟩),true),(4, .pointer (some ⟨top,0,none⟩),true),(5, .pointer (some ⟨top+1,0,none⟩),true),(9, .agg ⟨is.map Value.bool⟩,true),(10, .int .i64 (a:Int),true)],
  hp.Ac [(top,some (.cells true 0 [.slice none 0 0, .slice none 0 0])),(top+1,some (.cells true 0 [AA (top+2) (Ea is a),AA (top+3) (FF s is a)])),(top+2,AD AL (Ea is a)),(top+3,AD BC (FF s is a))],top+4⟩
def stT (hp:Hp)(top b:Nat)(s:List Int)(is:List Bool)(a j:Nat):SS:=
 ⟨[(0, .pointer (some ⟨b,0,none⟩),true),(4, .pointer (some ⟨top,0,none⟩),true),(5, .pointer (some ⟨top+1,0,none⟩),true),(6, .int .i64 (a:Int),true),(9, .agg ⟨is.map Value.bool⟩,true),(10, .int .i64 (a:Int),true),(22, .int .i64 (j:Int),true)],
  hp.Ac [(top,some (.cells true 0 [.slice none 0 0, .slice none 0 0])),(top+1,some (.cells true 0 [AA (top+2) (Ea is (a+1)),AA (top+3) (FF s is a ++ OS s a j)])),(top+2,AD AL (Ea is (a+1))),(top+3,AD BC (FF s is a ++ OS s a j))],top+4⟩
theorem AB6:Ag Tryz.prog 128 Z2:=by
 refine .Eh Wf ?_
 intro args hp top hpre hcl hsc
 match args,hpre with
 | [.pointer (some ⟨b,0,none⟩), .agg ⟨cs⟩],⟨h1,h2,h3⟩=>
 obtain ⟨rw_,z,s,hb,hsl,hso⟩:=qT h1
 generalize hi:cs.map Bs=is at h2
 have his:is.length=25:=by rw [←hi];simpa using h3
 subst h2
 simp only [hso,QT]
 have hbt:=hcl.lt _ _ hb
 have htk:List.take 25 (is.map Value.bool)=is.map Value.bool:=Nb his
 have hdr:List.drop 25 (is.map Value.bool)= []:=UR his
 have one:Au (is.map Value.bool)=true:=eG
 refine AJ.Af Am Wf rfl 61 rfl [.cell 4 185] rfl (show 2≤61 by decide) ?_
 refine CW.vc PV [0,1,3,4,5,6,7,8,9,10,11,15,22,23,42] (by kernel_rfl) ?_
 (repeat ((try refine Vc.mk' ?_);simp only [go_sem,his,List.length_map,htk]))
 refine CW.Bc (cA hp top b s is) (fun a=>a≤25) (fun a=>25 - a) 0 (Nat.zero_le _) ?_ ?_
 ·exact (by refine Al.mk' [top+1,top+2,top+3,top+4] hcl (by simp) (by simp) rfl (AF ?_) ?_ ?_ <;> simp [AE hbt,Cp,Ea,FF,DD,Dp])
 ·intro a ha
  have hnl:=Yu is a
  have hel:=Ql s is a
  by_cases hlt:a < 25
  ·have hlt2:(a:Int) < 25:=by omega
   have hla:Ea is (a+1)=Ea is a ++ (if iS is a then [(a:Int)] else []):=KQ is a
   have hw:Ad .i64 ((a:Int)+1)=((a+1:Nat):Int):=Ae hlt (by decide)
   have hn16:(Ea is a).length < 16777216:=by omega
   cases hia:iS is a with
   |false=>
    have hia2:=hia
    unfold iS at hia2
    refine CW.vc PV [0,1,3,4,5,6,7,8,9,10,11,15,22,23,42] (by kernel_rfl) ?_
    (repeat ((try refine Vc.mk' ?_);simp only [go_sem,Nat.mul_one,DT,his,List.length_map,cA,hlt,hlt2,hia2]))
    refine .mk (a+1) hlt (by omega) ((by refine Al.mk' [top,top+1,top+2,top+3] hcl (by simp) (by simp) rfl (AF ?_) ?_ ?_ <;> simp [AE hbt,Cp,hw,KQ,J0,hia]))
   |true=>
    have hia2:=hia
    unfold iS at hia2
    refine CW.vc PV [0,1,3,4,5,6,7,8,9,10,11,15,22,23,42] (by kernel_rfl) ?_
    (repeat ((try refine Vc.mk' ?_);simp only [go_sem,Nat.mul_one,DT,his,List.length_map,cA,hlt,hlt2,hia2,hn16]))
    refine CW.Bc (stT hp top b s is a) (fun j=>j≤25) (fun j=>25 - j) 0 (Nat.zero_le _) ?_ ?_
    ·exact (by refine Al.mk' [top,top+1,top+5,top+3] hcl (by simp) (by simp) rfl (AF ?_) ?_ ?_ <;> simp [AE hbt,Cp,KQ,hia,OS])
    ·intro j hj
     have hrl:=RU s a j
     by_cases hjl:j < 25
     ·have hjl2:(j:Int) < 25:=by omega
      have hw2:Ad .i64 ((j:Int)+1)=((j+1:Nat):Int):=Ae hjl (by decide)
      have i1:a * 25+j < 625:=by omega
      have i2:j * 25+a < 625:=by omega
      have h16:(FF s is a ++ OS s a j).length < 16777216:=by rw [List.length_append];omega
      have c1:(s[a * 25+j]?).getD 0=cS s a j:=rfl
      have c2:(s[j * 25+a]?).getD 0=cS s j a:=rfl
      have hrs:=Te s a j
      by_cases hc:0 < cS s a j∧0 < cS s j a
      ·have he:Mp s a j= [⟨(a:Int),(j:Int),cS s a j⟩]:=by unfold Mp;rw [if_pos hc]
       rw [he] at hrs
       refine CW.vc PV [0,1,3,4,5,6,7,8,9,10,11,15,22,23,42] (by kernel_rfl) ?_
       (repeat ((try refine Vc.mk' ?_);simp only [go_sem,hb,Bw hbt,Nat.mul_one,J7,hsl,List.length_map,stT,hlt,hjl,hjl2,i1,i2,c1,c2,hc.1,hc.2,h16]))
       refine .mk (j+1) hjl (by omega) ((by refine Al.mk' [top,top+1,top+2,top+5] hcl (by simp) (by simp) rfl (AF ?_) ?_ ?_ <;> simp [AE hbt,Cp,hw2,hrs]))
      ·have he:Mp s a j= []:=by unfold Mp;rw [if_neg hc]
       rw [he,List.append_nil] at hrs
       by_cases hc1:0 < cS s a j
       ·have hc2:¬0 < cS s j a:=fun h=>hc ⟨hc1,h⟩
        refine CW.vc PV [0,1,3,4,5,6,7,8,9,10,11,15,22,23,42] (by kernel_rfl) ?_
        (repeat ((try refine Vc.mk' ?_);simp only [go_sem,hb,Bw hbt,Nat.mul_one,J7,hsl,List.length_map,stT,hlt,hjl,hjl2,i1,i2,c1,c2,hc1,hc2]))
        refine .mk (j+1) hjl (by omega) ((by refine Al.mk' [top,top+1,top+2,top+3] hcl (by simp) (by simp) rfl (AF ?_) ?_ ?_ <;> simp [AE hbt,Cp,hw2,hrs]))
       ·refine CW.vc PV [0,1,3,4,5,6,7,8,9,10,11,15,22,23,42] (by kernel_rfl) ?_
        (repeat ((try refine Vc.mk' ?_);simp only [go_sem,hb,Bw hbt,Nat.mul_one,J7,hsl,List.length_map,stT,hlt,hjl,hjl2,i1,c1,hc1]))
        refine .mk (j+1) hjl (by omega) ((by refine Al.mk' [top,top+1,top+2,top+3] hcl (by simp) (by simp) rfl (AF ?_) ?_ ?_ <;> simp [AE hbt,Cp,hw2,hrs]))
     ·have hj2:j=25:=by omega
      subst hj2
      have hed:=J0 s is a
      rw [hia,if_pos rfl] at hed
      refine CW.vc PV [0,1,3,4,5,6,7,8,9,10,11,15,22,23,42] (by kernel_rfl) ?_
      (repeat ((try refine Vc.mk' ?_);simp only [go_sem,stT,Int.cast_ofNat_Int]))
      refine .mk (a+1) hlt (by omega) ((by refine Al.mk' [top,top+1,top+2,top+3] hcl (by simp) (by simp) rfl (AF ?_) ?_ ?_ <;> simp [AE hbt,Cp,hw,hed]))
  ·have ha2:a=25:=by omega
   subst ha2
   refine CW.vc PV [0,1,3,4,5,6,7,8,9,10,11,15,22,23,42] (by kernel_rfl) ?_
   (repeat ((try refine Vc.mk' ?_);simp only [go_sem,cA,Int.cast_ofNat_Int]))
   simp only [wL]
   (refine ⟨[top+2,top+3],by simp,by simp,by simp, ?_, ?_, ?_⟩ <;> simp [])
def G5:=BV G1 128 Z2
theorem EG:Bp Tryz.prog tt.get G5:=PV.add AB6
theorem LZ {α:Type}{p q:α→Bool}:∀ {l:List α},(∀a∈l,p a=q a)→l.filter p=l.filter q
 | [],_=>rfl
 |a :: l,h=>by
  have:=LZ (l:=l) fun b hb=>h b (List.mem_cons_of_mem _ hb)
  simp only [List.filter_cons,h a (List.mem_cons_self ..),this]
theorem G6 {α β:Type}{f g:α→List β}:∀ {l:List α},(∀a∈l,f a=g a)→l.flatMap f=l.flatMap g
 | [],_=>rfl
 |a :: l,h=>by rw [List.flatMap_cons,List.flatMap_cons,h a (List.mem_cons_self ..),G6 fun b hb=>h b (List.mem_cons_of_mem _ hb)]
theorem SJ {α:Type}{f g:Nat→α}{n i:Nat}{v:α}(hi:g i=v)(h:∀j,j < n→j≠i→g j=f j):((List.range n).map f).set i v=(List.range n).map g:=by
 apply List.ext_getElem?
 intro j
 rw [List.getElem?_set]
 by_cases e:i=j
 ·subst e
  rw [if_pos rfl]
  by_cases hl:i < n
  ·simp [hl,hi]
  ·simp [hl]
 ·rw [if_neg e]
  by_cases hl:j < n
  ·simp [hl,h j hl (fun e'=>e e'.symm)]
  ·simp [hl]
end Go.Proofs.YthlhnangbinhoaaGreatDoor.Gr
set_option linter.unusedVariables false
namespace Go.Proofs.YthlhnangbinhoaaGreatDoor.Gr
open Go.Dm Go.Proofs.YthlhnangbinhoaaGreatDoor.Dm
def JX (n:Int)(a:Int):Bool:=decide (a=n)
def Vh:List Int→List Int→Bool
 |_, []=>true
 |done,n :: l=>BP n && !done.any (JX n) && Vh (done ++ [n]) l
def pr (a b:Int)(x:AQ):Bool:=(decide (x.A=a) && decide (x.B=b)) || (decide (x.A=b) && decide (x.B=a))
def Cc (R:List Int)(x:AQ):Bool:= !decide (x.A=x.B) && R.any (JX x.A) && R.any (JX x.B) && LP x.Dx
def Yi (R:List Int):List AQ→List AQ→Int
 |_, []=>0
 |done,x :: l=>if Cc R x=false then 2 else if done.any (pr x.A x.B) then 7 else Yi R (done ++ [x]) l
def Ee (R:List Int)(l:List AQ):Int:=if Vh [] R=false then 2 else if 48 < l.length then 3 else Yi R [] l
def C6:List AQ→Int→Int→Int
 | [],_,_=>0
 |x :: l,a,b=>if pr a b x=true then x.Dx else C6 l a b
def Wq (R:List Int):List Bool:=(List.range 25).map fun (i:Nat)=>R.any (JX (i:Int))
def sL (l:List AQ):List Int:=(List.range 625).map fun i=>C6 l ((i / 25:Nat):Int) ((i % 25:Nat):Int)
theorem Uu(R:List Int):(Wq R).length=25:=by simp[Wq]
theorem kZ(l:List AQ):(sL l).length=625:=by simp[sL]
theorem M5 (R:List Int){a:Nat}(ha:a < 25):((Wq R)[a]?).getD false=R.any (JX (a:Int)):=by simp [Wq,ha]
theorem ZE (l:List AQ){a b:Nat}(ha:a < 25)(hb:b < 25):((sL l)[a * 25+b]?).getD 0=C6 l (a:Int) (b:Int):=by
 have h:a * 25+b < 625:=by omega
 have e1:(a * 25+b) / 25=a:=by omega
 have e2:(a * 25+b) % 25=b:=by omega
 unfold sL
 rw [List.getElem?_map,List.getElem?_range h]
 simp only [Option.map_some,Option.getD_some,e1,e2]
theorem jJ {done:List Int}{n:Int}(h:BP n=true):(Wq done).set n.toNat true=Wq (done ++ [n]):=by
 simp only [BP,Bool.and_eq_true,decide_eq_true_eq] at h
 unfold Wq
 apply SJ
 ·rw [List.any_append]
  have:JX ((n.toNat:Nat):Int) n=true:=by simp only [JX,decide_eq_true_eq];omega
  simp only [List.any_cons,this,Bool.true_or,Bool.or_true]
 ·intro j _ hne
  rw [List.any_append]
  have:JX (j:Int) n=false:=by simp only [JX,decide_eq_false_iff_not];omega
  simp [this]
theorem bf(a b:Int)(x:AQ):pr a b x=pr b a x:=by unfold pr;rw[Bool.or_comm]
theorem Q9:∀(l:List AQ)(a b:Int),C6 l a b=C6 l b a
 | [],_,_=>rfl
 |x :: l,a,b=>by rw[C6,C6,bf a b,Q9 l a b]
theorem TJ:∀(l:List AQ) (x:AQ) (a b:Int),l.any (pr a b)=false→C6 (l ++ [x]) a b=if pr a b x=true then x.Dx else 0
 | [],_,_,_,_=>rfl
 |y :: l,x,a,b,h=>by
  simp only [List.any_cons,Bool.or_eq_false_iff] at h
  rw [List.cons_append,C6,if_neg (by simp [h.1])]
  exact TJ l x a b h.2
theorem Q8:∀(l:List AQ) (x:AQ) (a b:Int),pr a b x=false→C6 (l ++ [x]) a b=C6 l a b
 | [],x,a,b,h=>by simp [C6,h]
 |y :: l,x,a,b,h=>by rw [List.cons_append,C6,C6,Q8 l x a b h]
theorem bg{a b:Int}{x:AQ}(h:pr a b x=true)(y:AQ):pr x.A x.B y=pr a b y:=by
 simp only[pr,Bool.or_eq_true,Bool.and_eq_true,decide_eq_true_eq]at h
 rcases h with⟨rfl,rfl⟩ | ⟨rfl,rfl⟩
 ·rfl
 ·exact bf _ _ _
theorem Yo {l:List AQ}{x:AQ}(h:l.any (pr x.A x.B)=false)(a b:Int):C6 (l ++ [x]) a b=if pr a b x=true then x.Dx else C6 l a b:=by
 cases hp:pr a b x with
 |false=>rw [Q8 l x a b hp];rfl
 |true=>
  have:l.any (pr a b)=false:=by
   rw [←h];congr 1;funext y;exact (bg hp y).symm
  rw [TJ l x a b this,hp]
  simp
theorem qG {done:List AQ}{x:AQ}(ha:BP x.A=true)(hb:BP x.B=true)(h:done.any (pr x.A x.B)=false) :
  ((sL done).set (x.A.toNat * 25+x.B.toNat) x.Dx).set (x.B.toNat * 25+x.A.toNat) x.Dx=sL (done ++ [x]):=by
 simp only [BP,Bool.and_eq_true,decide_eq_true_eq] at ha hb
 have key:∀j,j < 625→C6 (done ++ [x]) ((j / 25:Nat):Int) ((j % 25:Nat):Int)=if j=x.A.toNat * 25+x.B.toNat∨j=x.B.toNat * 25+x.A.toNat then x.Dx else C6 done ((j / 25:Nat):Int) ((j % 25:Nat):Int):=by
  intro j hj
  rw [Yo h]
  have:pr ((j / 25:Nat):Int) ((j % 25:Nat):Int) x=true ↔ (j=x.A.toNat * 25+x.B.toNat∨j=x.B.toNat * 25+x.A.toNat):=by
   simp only [pr,Bool.or_eq_true,Bool.and_eq_true,decide_eq_true_eq]
   omega
  by_cases hc:j=x.A.toNat * 25+x.B.toNat∨j=x.B.toNat * 25+x.A.toNat
  ·rw [if_pos hc,if_pos (this.2 hc)]
  ·rw [if_neg hc,if_neg (fun e=>hc (this.1 e))]
 unfold sL
 apply List.ext_getElem?
 intro j
 rw [List.getElem?_set,List.getElem?_set]
 by_cases hj:j < 625
 ·have hk:=key j hj
  simp only [List.length_set,List.length_map,List.length_range,List.getElem?_map,List.getElem?_range hj,Option.map_some,hk]
  by_cases h1:x.B.toNat * 25+x.A.toNat=j
  ·rw [if_pos h1,if_pos (by omega),if_pos (.inr h1.symm)]
  ·rw [if_neg h1]
   by_cases h2:x.A.toNat * 25+x.B.toNat=j
   ·rw [if_pos h2,if_pos (by omega),if_pos (.inl h2.symm)]
   ·rw [if_neg h2,if_neg (by omega)]
 ·rw [if_neg (by omega),if_neg (by omega)]
  simp [hj]
theorem Un:∀(l done:List Int),Vh done l=true→∀n∈l,BP n=true
 | [],_,_,_,h=>by cases h
 |m :: l,done,h,n,hn=>by
  simp only [Vh,Bool.and_eq_true] at h
  rcases List.mem_cons.1 hn with rfl | hn
  ·exact h.1.1
  ·exact Un l _ h.2 n hn
theorem Lz {R:List Int}(h:∀n∈R,BP n=true){n:Int}(hn:R.any (JX n)=true):BP n=true:=by
 obtain ⟨m,hm,e⟩:=List.any_eq_true.1 hn
 simp only [JX,decide_eq_true_eq] at e
 subst e;exact h m hm
structure Zg(R:List Int)(l:List AQ):Prop where
 ok:∀x∈l,Cc R x=true
 ne:l.Pairwise fun x y=>pr y.A y.B x=false
theorem Um {R:List Int}:∀(l done:List AQ),Yi R done l=0→(∀x∈l,Cc R x=true∧done.any (pr x.A x.B)=false)∧l.Pairwise fun x y=>pr y.A y.B x=false
 | [],_,_=>⟨by simp, .nil⟩
 |x :: l,done,h=>by
  unfold Yi at h
  split at h
  ·cases h
  ·rename_i h1
   split at h
   ·cases h
   ·rename_i h2
    obtain ⟨a,b⟩:=Um l _ h
    refine ⟨?_,List.pairwise_cons.2 ⟨?_,b⟩⟩
    ·intro y hy
     rcases List.mem_cons.1 hy with rfl | hy
     ·exact ⟨by simpa using h1,by simpa using h2⟩
     ·obtain ⟨c,d⟩:=a y hy
      rw [List.any_append,Bool.or_eq_false_iff] at d
      exact ⟨c,d.1⟩
    ·intro y hy
     obtain ⟨_,d⟩:=a y hy
     rw [List.any_append,Bool.or_eq_false_iff] at d
     simpa using d.2
def MN (l:List AQ)(a b:Int):List C7:=(l.filter (pr a b)).map fun x=>⟨a,b,x.Dx⟩
theorem filter_one {a b:Int}:∀ {l:List AQ},l.Pairwise (fun x y=>pr y.A y.B x=false)→MN l a b=if l.any (pr a b)=true then [⟨a,b,C6 l a b⟩] else []
 | [],_=>rfl
 |x :: l,h=>by
  obtain ⟨h1,h2⟩:=List.pairwise_cons.1 h
  have ih:=filter_one (a:=a) (b:=b) h2
  unfold MN at ih ⊢
  cases hp:pr a b x with
  |false=>
   have e1:(x :: l).filter (pr a b)=l.filter (pr a b):=by rw [List.filter_cons,hp];rfl
   have e2:C6 (x :: l) a b=C6 l a b:=by rw [C6,hp];rfl
   have e3:(x :: l).any (pr a b)=l.any (pr a b):=by rw [List.any_cons,hp,Bool.false_or]
   rw [e1,e2,e3,ih]
  |true=>
   have hn:l.any (pr a b)=false:=by
    rw [List.any_eq_false]
    intro y hy
    have:=h1 y hy
    intro hpy
    rw [←bg hpy x] at hp
    rw [hp] at this;cases this
   have e1:(x :: l).filter (pr a b)=x :: l.filter (pr a b):=by rw [List.filter_cons,hp];rfl
   have e2:C6 (x :: l) a b=x.Dx:=by rw [C6,hp];rfl
   have e3:(x :: l).any (pr a b)=true:=by rw [List.any_cons,hp,Bool.true_or]
   rw [e1,e2,e3,List.map_cons,ih,hn]
   rfl
theorem OG {R:List Int}{l:List AQ}(h:∀x∈l,Cc R x=true)(a b:Int):0 < C6 l a b ↔ l.any (pr a b)=true:=by
 induction l with
 |nil=>simp [C6]
 |cons x l ih=>
  have hx:=h x (List.mem_cons_self ..)
  have ih:=ih fun y hy=>h y (List.mem_cons_of_mem _ hy)
  rw [C6,List.any_cons]
  cases hp:pr a b x with
  |false=>simpa [hp] using ih
  |true=>
   simp only [Cc,LP,Bool.and_eq_true,decide_eq_true_eq] at hx
   simp;omega
def LH (l:List AQ)(a m:Nat):List C7:=(List.range m).flatMap fun (b:Nat)=>MN l (a:Int) (b:Int)
def De (R:List Int)(l:List AQ)(n:Nat):List C7:=(List.range n).flatMap fun (a:Nat)=>if R.any (JX (a:Int)) then LH l a 25 else []
def D1 (R:List Int)(n:Nat):List Int:=((List.range n).filter fun (i:Nat)=>R.any (JX (i:Int))).map fun (i:Nat)=>(i:Int)
theorem jr (R:List Int):Ea (Wq R) 25=D1 R 25:=by
 unfold Ea D1
 rw [LZ fun i hi=>show iS (Wq R) i=R.any (JX (i:Int)) from M5 R (List.mem_range.1 hi)]
theorem iE {R:List Int}{l:List AQ}(h:Zg R l):FF (sL l) (Wq R) 25=De R l 25:=by
 unfold FF De
 refine G6 fun a ha=> ?_
 have ha':=List.mem_range.1 ha
 have e1:iS (Wq R) a=R.any (JX (a:Int)):=M5 R ha'
 rw [e1]
 have:OS (sL l) a 25=LH l a 25:=by
  unfold OS LH
  refine G6 fun b hb=> ?_
  have hb':=List.mem_range.1 hb
  have c1:cS (sL l) a b=C6 l (a:Int) (b:Int):=ZE l ha' hb'
  have c2:cS (sL l) b a=C6 l (b:Int) (a:Int):=ZE l hb' ha'
  unfold Mp
  rw [c1,c2,Q9 l (b:Int) (a:Int),filter_one h.ne]
  by_cases hc:l.any (pr (a:Int) (b:Int))=true
  ·have:=(OG h.ok (a:Int) (b:Int)).2 hc
   rw [if_pos hc,if_pos ⟨this,this⟩]
  ·rw [if_neg hc,if_neg (fun e=>hc ((OG h.ok _ _).1 e.1))]
 rw [this]
theorem PE (R:List Int)(n:Nat):D1 R (n+1)=D1 R n ++ (if R.any (JX (n:Int)) then [(n:Int)] else []):=by
 unfold D1
 rw [List.range_succ,List.filter_append,List.map_append]
 cases h:R.any (JX (n:Int)) <;> simp [h]
theorem Yv (R:List Int)(n:Nat):(D1 R n).length≤n:=by
 unfold D1
 rw [List.length_map]
 exact Nat.le_trans (List.length_filter_le ..) (by simp)
theorem OT (l:List AQ)(a m:Nat):LH l a (m+1)=LH l a m ++ MN l (a:Int) (m:Int):=by simp [LH,List.range_succ]
theorem J1 (R:List Int)(l:List AQ)(n:Nat):De R l (n+1)=De R l n ++ (if R.any (JX (n:Int)) then LH l n 25 else []):=by simp [De,List.range_succ]
theorem XH(l:List AQ)(a b:Int):(MN l a b).length≤l.length:=by
 unfold MN;rw[List.length_map];exact List.length_filter_le ..
theorem RV (l:List AQ)(a:Nat):∀m,(LH l a m).length≤m * l.length
 |0=>by simp [LH]
 |m+1=>by
  have h1:=RV l a m
  have h2:=XH l (a:Int) (m:Int)
  rw [OT,List.length_append,Nat.succ_mul];omega
theorem Qm (R:List Int)(l:List AQ):∀n,(De R l n).length≤n * (25 * l.length)
 |0=>by simp [De]
 |n+1=>by
  have h1:=Qm R l n
  have h2:=RV l n 25
  rw [J1,List.length_append,Nat.succ_mul]
  split
  ·omega
  ·simp;omega
theorem eY {l:List AQ}{i:Nat}(h:i < l.length)(a b:Int):MN (l.take (i+1)) a b=MN (l.take i) a b ++ (if pr a b (at' l i)=true then [⟨a,b,(at' l i).Dx⟩] else []):=by
 rw [Bj h]
 unfold MN
 rw [List.filter_append,List.map_append]
 cases hp:pr a b (at' l i) <;> simp [hp]
def nO(R:List Int)(l:List AQ):List Int:=if Ee R l=0 then D1 R 25 else []
def eO(R:List Int)(l:List AQ):List C7:=if Ee R l=0 then De R l 25 else []
theorem Qs {R:List Int}{l:List AQ}(h:Ee R l=0):Vh [] R=true∧l.length≤48∧Yi R [] l=0:=by
 unfold Ee at h
 split at h
 ·cases h
 ·rename_i h1
  split at h
  ·cases h
  ·exact ⟨by simpa using h1,by omega,h⟩
theorem dj {R:List Int}{l:List AQ}(h:Yi R [] l=0):Zg R l:=⟨fun x hx=>((Um l [] h).1 x hx).1,(Um l [] h).2⟩
end Go.Proofs.YthlhnangbinhoaaGreatDoor.Gr
