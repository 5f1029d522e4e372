/- The graph package: what may be; the graph of a square of costs. -/
import Derived.Test.YthlhnangbinhoaaGreatDoorDmK
set_option linter.unusedVariables false
namespace Go.Proofs.YthlhnangbinhoaaGreatDoor.Gr
open Go.Dm Go.Proofs.YthlhnangbinhoaaGreatDoor.Dm
set_option maxHeartbeats 4000000
theorem Ee {a b:Bool}(h:a=true ↔ b=true):Value.bool a=Value.bool b:=by rw [Bool.eq_iff_iff.2 h]
theorem drop_at {α:Type}[Inhabited α]{l:List α}{k:Nat}(h:k < l.length):l.drop k=at' l k :: l.drop (k+1):=by rw [CO _ _ h];exact List.drop_eq_getElem_cons h
theorem DN {α:Type}[Inhabited α]{l:List α}{k:Nat}(h:k < l.length):l.take (k+1)=l.take k ++ [at' l k]:=by rw [CO _ _ h];exact List.take_succ_eq_append_getElem h
def G0:FuncId→Bb:=fun _=> .none
theorem SF:CQ Tryz.prog tt.get G0:=⟨BA,fun _=>trivial⟩
def CM (a:Int):Bool:=decide (1≤a) && decide (a≤24)
def QR (a:Int):Bool:=decide (1≤a) && decide (a≤1000)
def Jg (f:Int→Bool):Bb:= .pure (fun args _=>match args with | [x]=>Gx .i64 x | _=>False) (fun args _=>match args with | [x]=> .bool (f (intOf x)) | _=>undef)
theorem cg:A0 Tryz.prog 126 (Jg CM):=by
 refine .mkPure QT ?_
 intro args hp hpre top
 match args,hpre with
 | [x],hx=>
 rw [hx]
 refine AR.A5 BA QT rfl 9 rfl [.tmp 2] rfl (show 1≤9 by decide) ?_
 refine CW.vc SF [0,2] (by kernel_rfl) ?_
 (repeat ((try refine Vc.mk' ?_);simp only [go_sem]))
 refine Ee ?_
 simp [CM];try omega
theorem rY:A0 Tryz.prog 127 (Jg QR):=by
 refine .mkPure Qg ?_
 intro args hp hpre top
 match args,hpre with
 | [x],hx=>
 rw [hx]
 refine AR.A5 BA Qg rfl 9 rfl [.tmp 2] rfl (show 1≤9 by decide) ?_
 refine CW.vc SF [0,2] (by kernel_rfl) ?_
 (repeat ((try refine Vc.mk' ?_);simp only [go_sem]))
 refine Ee ?_
 simp [QR];try omega
theorem Za:A0 Tryz.prog 69 (Jg CM):=by
 refine .mkPure M7 ?_
 intro args hp hpre top
 match args,hpre with
 | [x],hx=>
 rw [hx]
 refine AR.A5 BA M7 rfl 9 rfl [.tmp 2] rfl (show 1≤9 by decide) ?_
 refine CW.vc SF [0,2] (by kernel_rfl) ?_
 (repeat ((try refine Vc.mk' ?_);simp only [go_sem]))
 refine Ee ?_
 simp [CM];try omega
def G1:=Bw (Bw (Bw G0 126 (Jg CM)) 127 (Jg QR)) 69 (Jg CM)
theorem Pk:CQ Tryz.prog tt.get G1:=((SF.add cg).add rY).add Za
set_option maxHeartbeats 4000000
theorem ADI {ρ:Nat→Nat}{l:List Value}:Az ρ (.agg ⟨l⟩)= .agg ⟨Co ρ l⟩:=rfl
def cS (s:List Int)(a b:Nat):Int:=(s[a * 25+b]?).getD 0
def iS (is:List Bool)(a:Nat):Bool:=(is[a]?).getD false
def NL (s:List Int)(a b:Nat):List DD:=if 0 < cS s a b∧0 < cS s b a then [⟨(a:Int),(b:Int),cS s a b⟩] else []
def Oc (s:List Int)(a b:Nat):List DD:=(List.range b).flatMap fun j=>NL s a j
def Em (is:List Bool)(a:Nat):List Int:=((List.range a).filter (iS is)).map fun (i:Nat)=>(i:Int)
def Fe (s:List Int)(is:List Bool)(a:Nat):List DD:=(List.range a).flatMap fun i=>if iS is i then Oc s i 25 else []
theorem Yc (is:List Bool)(a:Nat):(Em is a).length≤a:=by
 unfold Em
 rw [List.length_map]
 exact Nat.le_trans (List.length_filter_le ..) (by simp)
theorem dR (s:List Int)(a b:Nat):(NL s a b).length≤1:=by unfold NL;split <;> simp
theorem SX (s:List Int)(a b:Nat):Oc s a (b+1)=Oc s a b ++ NL s a b:=by simp [Oc,List.range_succ]
theorem RV (s:List Int)(a:Nat):∀b,(Oc s a b).length≤b
 |0=>by simp [Oc]
 |b+1=>by
  have:=RV s a b
  have h2:=dR s a b
  rw [SX,List.length_append];omega
theorem Kf (s:List Int)(is:List Bool)(a:Nat):Fe s is (a+1)=Fe s is a ++ (if iS is a then Oc s a 25 else []):=by simp [Fe,List.range_succ]
theorem Qo (s:List Int)(is:List Bool):∀a,(Fe s is a).length≤a * 25
 |0=>by simp [Fe]
 |a+1=>by
  have:=Qo s is a
  have h2:=RV s a 25
  rw [Kf,List.length_append,Nat.succ_mul]
  split
  ·omega
  ·simp;omega
theorem KE (is:List Bool)(a:Nat):Em is (a+1)=Em is a ++ (if iS is a then [(a:Int)] else []):=by
 unfold Em
 rw [List.range_succ,List.filter_append,List.map_append]
 cases h:iS is a <;> simp [h]
def nx (hp:Hp)(b:Nat):List Int:=match hp b with
 |some (.cells _ _ vs)=>vs.map intOf
 |_=> []
def qX (hp:Hp)(b:Nat):Prop:=match hp b with
 |some (.cells _ _ vs)=>vs=(vs.map intOf).map (Value.int .i64)∧vs.length=625
 |_=>False
theorem oL {hp:Hp}{b:Nat}(h:qX hp b):∃rw z s,hp b=some (.cells rw z (s.map (Value.int .i64)))∧s.length=625∧nx hp b=s:=by
 unfold qX at h
 split at h
 ·rename_i rw z vs hb
  refine ⟨rw,z,vs.map intOf,by rw [hb,←h.1],by simpa using h.2,by unfold nx;rw [hb]⟩
 ·exact h.elim
theorem cP (l:List Int):(l.map (Value.int .i64)).map intOf=l:=by rw [List.map_map];exact (List.map_congr_left (fun _ _=>rfl)).trans (List.map_id l)
theorem Rf (l:List Bool):(l.map Value.bool).map B2=l:=by rw [List.map_map];exact (List.map_congr_left (fun _ _=>rfl)).trans (List.map_id l)
def xm (nodes:List Int)(edges:List DD)(top:Nat):Value×BI×Nat:=(.agg ⟨[AA top nodes,AA (top+1) edges]⟩, [(top,AD AY nodes),(top+1,AD BT edges)],top+2)
def bO:Bb:= .det (fun args hp _=>match args with | [.pointer (some ⟨b,0,none⟩), .agg ⟨cs⟩]=>qX hp b∧cs=(cs.map B2).map Value.bool∧cs.length=25 | _=>False) (fun args hp top=>match args with
 | [.pointer (some ⟨b,0,none⟩), .agg ⟨cs⟩]=>xm (Em (cs.map B2) 25) (Fe (nx hp b) (cs.map B2) 25) top
 |_=>(undef, [],top))
def stS (hp:Hp)(top b:Nat)(s:List Int)(is:List Bool)(a:Nat):SS:=
 ⟨[(0, .pointer (some ⟨b,0,none⟩),true),(4, .pointer (some ⟨top,0,none⟩),true),(5, .pointer (some ⟨top+1,0,none⟩),true),(9, .agg ⟨is.map Value.bool⟩,true),(10, .int .i64 (a:Int),true)],
  hp.Av [(top,some (.cells true 0 [.slice none 0 0, .slice none 0 0])),(top+1,some (.cells true 0 [AA (top+2) (Em is a),AA (top+3) (Fe s is a)])),(top+2,AD AY (Em is a)),(top+3,AD BT (Fe s is a))],top+4⟩
def stT (hp:Hp)(top b:Nat)(s:List Int)(is:List Bool)(a j:Nat):SS:=
 ⟨[(0, .pointer (some ⟨b,0,none⟩),true),(4, .pointer (some ⟨top,0,none⟩),true),(5, .pointer (some ⟨top+1,0,none⟩),true),(6, .int .i64 (a:Int),true),(9, .agg ⟨is.map Value.bool⟩,true),(10, .int .i64 (a:Int),true),(22, .int .i64 (j:Int),true)],
  hp.Av [(top,some (.cells true 0 [.slice none 0 0, .slice none 0 0])),(top+1,some (.cells true 0 [AA (top+2) (Em is (a+1)),AA (top+3) (Fe s is a ++ Oc s a j)])),(top+2,AD AY (Em is (a+1))),(top+3,AD BT (Fe s is a ++ Oc s a j))],top+4⟩
theorem AAM:A0 Tryz.prog 128 bO:=by
 refine .Hq Qr ?_
 intro args hp top hpre hcl hsc
 match args,hpre with
 | [.pointer (some ⟨b,0,none⟩), .agg ⟨cs⟩],⟨h1,h2,h3⟩=>
 obtain ⟨rw_,z,s,hb,hsl,hso⟩:=oL h1
 generalize hi:cs.map B2=is at h2
 have his:is.length=25:=by rw [←hi];simpa using h3
 subst h2
 simp only [hso,Rf]
 have hbt:=hcl.lt _ _ hb
 have htk:List.take 25 (is.map Value.bool)=is.map Value.bool:=NB his
 have hdr:List.drop 25 (is.map Value.bool)= []:=Uf his
 have one:A3 (is.map Value.bool)=true:=dY
 refine AR.A5 BA Qr rfl 61 rfl [.cell 4 185] rfl (show 2≤61 by decide) ?_
 refine CW.vc Pk [0,1,3,4,5,6,7,8,9,10,11,15,22,23,42] (by kernel_rfl) ?_
 (repeat ((try refine Vc.mk' ?_);simp only [go_sem,his,List.length_map,htk]))
 refine CW.DC (stS hp top b s is) (fun a=>a≤25) (fun a=>25 - a) 0 (Nat.zero_le _) ?_ ?_
 ·exact (by refine BR.mk' [top+1,top+2,top+3,top+4] hcl (by simp) (by simp) rfl (AU ?_) ?_ ?_ <;> simp [AB hbt,Cs,Em,Fe,Ex,GL])
 ·intro a ha
  have hnl:=Yc is a
  have hel:=Qo s is a
  by_cases hlt:a < 25
  ·have hlt2:(a:Int) < 25:=by omega
   have hla:Em is (a+1)=Em is a ++ (if iS is a then [(a:Int)] else []):=KE is a
   have hw:Ap .i64 ((a:Int)+1)=((a+1:Nat):Int):=Bf hlt (by decide)
   have hn16:(Em is a).length < 16777216:=by omega
   cases hia:iS is a with
   |false=>
    have hia2:=hia
    unfold iS at hia2
    refine CW.vc Pk [0,1,3,4,5,6,7,8,9,10,11,15,22,23,42] (by kernel_rfl) ?_
    (repeat ((try refine Vc.mk' ?_);simp only [go_sem,Nat.mul_one,DU,his,List.length_map,stS,hlt,hlt2,hia2]))
    refine .mk (a+1) hlt (by omega) ((by refine BR.mk' [top,top+1,top+2,top+3] hcl (by simp) (by simp) rfl (AU ?_) ?_ ?_ <;> simp [AB hbt,Cs,hw,KE,Kf,hia]))
   |true=>
    have hia2:=hia
    unfold iS at hia2
    refine CW.vc Pk [0,1,3,4,5,6,7,8,9,10,11,15,22,23,42] (by kernel_rfl) ?_
    (repeat ((try refine Vc.mk' ?_);simp only [go_sem,Nat.mul_one,DU,his,List.length_map,stS,hlt,hlt2,hia2,hn16]))
    refine CW.DC (stT hp top b s is a) (fun j=>j≤25) (fun j=>25 - j) 0 (Nat.zero_le _) ?_ ?_
    ·exact (by refine BR.mk' [top,top+1,top+5,top+3] hcl (by simp) (by simp) rfl (AU ?_) ?_ ?_ <;> simp [AB hbt,Cs,KE,hia,Oc])
    ·intro j hj
     have hrl:=RV s a j
     by_cases hjl:j < 25
     ·have hjl2:(j:Int) < 25:=by omega
      have hw2:Ap .i64 ((j:Int)+1)=((j+1:Nat):Int):=Bf hjl (by decide)
      have i1:a * 25+j < 625:=by omega
      have i2:j * 25+a < 625:=by omega
      have h16:(Fe s is a ++ Oc s a j).length < 16777216:=by rw [List.length_append];omega
      have c1:(s[a * 25+j]?).getD 0=cS s a j:=rfl
      have c2:(s[j * 25+a]?).getD 0=cS s j a:=rfl
      have hrs:=SX s a j
      by_cases hc:0 < cS s a j∧0 < cS s j a
      ·have he:NL s a j= [⟨(a:Int),(j:Int),cS s a j⟩]:=by unfold NL;rw [if_pos hc]
       rw [he] at hrs
       refine CW.vc Pk [0,1,3,4,5,6,7,8,9,10,11,15,22,23,42] (by kernel_rfl) ?_
       (repeat ((try refine Vc.mk' ?_);simp only [go_sem,hb,Ae hbt,Nat.mul_one,Kq,hsl,List.length_map,stT,hlt,hjl,hjl2,i1,i2,c1,c2,hc.1,hc.2,h16]))
       refine .mk (j+1) hjl (by omega) ((by refine BR.mk' [top,top+1,top+2,top+5] hcl (by simp) (by simp) rfl (AU ?_) ?_ ?_ <;> simp [AB hbt,Cs,hw2,hrs]))
      ·have he:NL s a j= []:=by unfold NL;rw [if_neg hc]
       rw [he,List.append_nil] at hrs
       by_cases hc1:0 < cS s a j
       ·have hc2:¬0 < cS s j a:=fun h=>hc ⟨hc1,h⟩
        refine CW.vc Pk [0,1,3,4,5,6,7,8,9,10,11,15,22,23,42] (by kernel_rfl) ?_
        (repeat ((try refine Vc.mk' ?_);simp only [go_sem,hb,Ae hbt,Nat.mul_one,Kq,hsl,List.length_map,stT,hlt,hjl,hjl2,i1,i2,c1,c2,hc1,hc2]))
        refine .mk (j+1) hjl (by omega) ((by refine BR.mk' [top,top+1,top+2,top+3] hcl (by simp) (by simp) rfl (AU ?_) ?_ ?_ <;> simp [AB hbt,Cs,hw2,hrs]))
       ·refine CW.vc Pk [0,1,3,4,5,6,7,8,9,10,11,15,22,23,42] (by kernel_rfl) ?_
        (repeat ((try refine Vc.mk' ?_);simp only [go_sem,hb,Ae hbt,Nat.mul_one,Kq,hsl,List.length_map,stT,hlt,hjl,hjl2,i1,c1,hc1]))
        refine .mk (j+1) hjl (by omega) ((by refine BR.mk' [top,top+1,top+2,top+3] hcl (by simp) (by simp) rfl (AU ?_) ?_ ?_ <;> simp [AB hbt,Cs,hw2,hrs]))
     ·have hj2:j=25:=by omega
      subst hj2
      have hed:=Kf s is a
      rw [hia,if_pos rfl] at hed
      refine CW.vc Pk [0,1,3,4,5,6,7,8,9,10,11,15,22,23,42] (by kernel_rfl) ?_
      (repeat ((try refine Vc.mk' ?_);simp only [go_sem,stT,Int.cast_ofNat_Int]))
      refine .mk (a+1) hlt (by omega) ((by refine BR.mk' [top,top+1,top+2,top+3] hcl (by simp) (by simp) rfl (AU ?_) ?_ ?_ <;> simp [AB hbt,Cs,hw,hed]))
  ·have ha2:a=25:=by omega
   subst ha2
   refine CW.vc Pk [0,1,3,4,5,6,7,8,9,10,11,15,22,23,42] (by kernel_rfl) ?_
   (repeat ((try refine Vc.mk' ?_);simp only [go_sem,stS,Int.cast_ofNat_Int]))
   simp only [xm]
   (refine ⟨[top+2,top+3],by simp,by simp,by simp, ?_, ?_, ?_⟩ <;> simp [])
def G5:=Bw G1 128 bO
theorem FJ:CQ Tryz.prog tt.get G5:=Pk.add AAM
theorem Lw {α:Type}{p q:α→Bool}:∀ {l:List α},(∀a∈l,p a=q a)→l.filter p=l.filter q
 | [],_=>rfl
 |a :: l,h=>by
  have:=Lw (l:=l) fun b hb=>h b (List.mem_cons_of_mem _ hb)
  simp only [List.filter_cons,h a (List.mem_cons_self ..),this]
theorem HX {α β:Type}{f g:α→List β}:∀ {l:List α},(∀a∈l,f a=g a)→l.flatMap f=l.flatMap g
 | [],_=>rfl
 |a :: l,h=>by rw [List.flatMap_cons,List.flatMap_cons,h a (List.mem_cons_self ..),HX fun b hb=>h b (List.mem_cons_of_mem _ hb)]
theorem R3 {α:Type}{f g:Nat→α}{n i:Nat}{v:α}(hi:g i=v)(h:∀j,j < n→j≠i→g j=f j):((List.range n).map f).set i v=(List.range n).map g:=by
 apply List.ext_getElem?
 intro j
 rw [List.getElem?_set]
 by_cases e:i=j
 ·subst e
  rw [if_pos rfl]
  by_cases hl:i < n
  ·simp [hl,hi]
  ·simp [hl]
 ·rw [if_neg e]
  by_cases hl:j < n
  ·simp [hl,h j hl (fun e'=>e e'.symm)]
  ·simp [hl]
end Go.Proofs.YthlhnangbinhoaaGreatDoor.Gr
