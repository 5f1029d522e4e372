/- The graph package: what may be; the graph of a square of costs. -/
import Derived.Test.YtmppehipfpkepaaDmK
set_option linter.unusedVariables false
namespace Go.Proofs.Ytmppehipfpkepaa.Gr
open Go.Dm Go.Proofs.Ytmppehipfpkepaa.Dm
set_option maxHeartbeats 4000000
theorem OJ {a b:Bool}(h:a=true ↔ b=true):Value.bool a=Value.bool b:=by rw [Bool.eq_iff_iff.2 h]
theorem GU {α:Type}[Inhabited α]{l:List α}{k:Nat}(h:k < l.length):l.drop k=Aj l k :: l.drop (k+1):=by rw [Bj _ _ h];exact List.drop_eq_getElem_cons h
theorem CO {α:Type}[Inhabited α]{l:List α}{k:Nat}(h:k < l.length):l.take (k+1)=l.take k ++ [Aj l k]:=by rw [Bj _ _ h];exact List.take_succ_eq_append_getElem h
theorem at_mem {α:Type}[Inhabited α]{l:List α}{k:Nat}(h:k < l.length):Aj l k∈l:=by rw [Bj _ _ h];exact List.getElem_mem h
def G0:FuncId→Bp:=fun _=> .none
theorem Tl:Cf Try.prog tt.get G0:=⟨BE,fun _=>trivial⟩
def BH (a:Int):Bool:=decide (1≤a) && decide (a≤24)
def JD (a:Int):Bool:=decide (1≤a) && decide (a≤1000)
def GF (f:Int→Bool):Bp:= .pure (fun args _=>match args with | [x]=>EO .i64 x | _=>False) (fun args _=>match args with | [x]=> .bool (f (intOf x)) | _=>undef)
theorem jM:BK Try.prog 67 (GF BH):=by
 refine .mkPure YO ?_
 intro args hp hpre top
 match args,hpre with
 | [x],hx=>
 rw [hx]
 refine AL.Au BE YO rfl 9 rfl [.tmp 2] rfl (show 1≤9 by decide) ?_
 refine CW.vc Tl [0,2] (by kernel_rfl) ?_
 (repeat ((try refine Vc.mk' ?_);simp only [go_sem]))
 refine OJ ?_
 simp [BH];try omega
theorem um:BK Try.prog 68 (GF JD):=by
 refine .mkPure V4 ?_
 intro args hp hpre top
 match args,hpre with
 | [x],hx=>
 rw [hx]
 refine AL.Au BE V4 rfl 9 rfl [.tmp 2] rfl (show 1≤9 by decide) ?_
 refine CW.vc Tl [0,2] (by kernel_rfl) ?_
 (repeat ((try refine Vc.mk' ?_);simp only [go_sem]))
 refine OJ ?_
 simp [JD];try omega
theorem cV:BK Try.prog 71 (GF BH):=by
 refine .mkPure Vu ?_
 intro args hp hpre top
 match args,hpre with
 | [x],hx=>
 rw [hx]
 refine AL.Au BE Vu rfl 9 rfl [.tmp 2] rfl (show 1≤9 by decide) ?_
 refine CW.vc Tl [0,2] (by kernel_rfl) ?_
 (repeat ((try refine Vc.mk' ?_);simp only [go_sem]))
 refine OJ ?_
 simp [BH];try omega
def G1:=Bu (Bu (Bu G0 67 (GF BH)) 68 (GF JD)) 71 (GF BH)
theorem I5:Cf Try.prog tt.get G1:=((Tl.add jM).add um).add cV
set_option maxHeartbeats 4000000
def cS (s:List Int)(a b:Nat):Int:=(s[a * 25+b]?).getD 0
def iS (is:List Bool)(a:Nat):Bool:=(is[a]?).getD false
def OL (s:List Int)(a b:Nat):List BJ:=if 0 < cS s a b∧0 < cS s b a then [⟨(a:Int),(b:Int),cS s a b⟩] else []
def P6 (s:List Int)(a b:Nat):List BJ:=(List.range b).flatMap fun j=>OL s a j
def Fu (is:List Bool)(a:Nat):List Int:=((List.range a).filter (iS is)).map fun (i:Nat)=>(i:Int)
def Gu (s:List Int)(is:List Bool)(a:Nat):List BJ:=(List.range a).flatMap fun i=>if iS is i then P6 s i 25 else []
theorem aw (is:List Bool)(a:Nat):(Fu is a).length≤a:=by
 unfold Fu
 rw [List.length_map]
 exact Nat.le_trans (List.length_filter_le ..) (by simp)
theorem iw (s:List Int)(a b:Nat):(OL s a b).length≤1:=by unfold OL;split <;> simp
theorem VY (s:List Int)(a b:Nat):P6 s a (b+1)=P6 s a b ++ OL s a b:=by simp [P6,List.range_succ]
theorem Sq (s:List Int)(a:Nat):∀b,(P6 s a b).length≤b
 |0=>by simp [P6]
 |b+1=>by
  have:=Sq s a b
  have h2:=iw s a b
  rw [VY,List.length_append];omega
theorem MC (s:List Int)(is:List Bool)(a:Nat):Gu s is (a+1)=Gu s is a ++ (if iS is a then P6 s a 25 else []):=by simp [Gu,List.range_succ]
theorem SO (s:List Int)(is:List Bool):∀a,(Gu s is a).length≤a * 25
 |0=>by simp [Gu]
 |a+1=>by
  have:=SO s is a
  have h2:=Sq s a 25
  rw [MC,List.length_append,Nat.succ_mul]
  split
  ·omega
  ·simp;omega
theorem MW (is:List Bool)(a:Nat):Fu is (a+1)=Fu is a ++ (if iS is a then [(a:Int)] else []):=by
 unfold Fu
 rw [List.range_succ,List.filter_append,List.map_append]
 cases h:iS is a <;> simp [h]
def tc (hp:Hp)(b:Nat):List Int:=match hp b with
 |some (.cells _ _ vs)=>vs.map intOf
 |_=> []
def uj (hp:Hp)(b:Nat):Prop:=match hp b with
 |some (.cells _ _ vs)=>vs=(vs.map intOf).map (Value.int .i64)∧vs.length=625
 |_=>False
theorem rI {hp:Hp}{b:Nat}(h:uj hp b):∃rw z s,hp b=some (.cells rw z (s.map (Value.int .i64)))∧s.length=625∧tc hp b=s:=by
 unfold uj at h
 split at h
 ·rename_i rw z vs hb
  refine ⟨rw,z,vs.map intOf,by rw [hb,←h.1],by simpa using h.2,by unfold tc;rw [hb]⟩
 ·exact h.elim
theorem HT (l:List Int):(l.map (Value.int .i64)).map intOf=l:=by rw [List.map_map];exact (List.map_congr_left (fun _ _=>rfl)).trans (List.map_id l)
theorem LL (l:List Bool):(l.map Value.bool).map Cg=l:=by rw [List.map_map];exact (List.map_congr_left (fun _ _=>rfl)).trans (List.map_id l)
def zN (nodes:List Int)(edges:List BJ)(top:Nat):Value×BC×Nat:=(.agg ⟨[AK top nodes,AK (top+1) edges]⟩, [(top,AO Ab nodes),(top+1,AO A9 edges)],top+2)
def dU:Bp:= .det (fun args hp _=>match args with | [.pointer (some ⟨b,0,none⟩), .agg ⟨cs⟩]=>uj hp b∧cs=(cs.map Cg).map Value.bool∧cs.length=25 | _=>False) (fun args hp top=>match args with
 | [.pointer (some ⟨b,0,none⟩), .agg ⟨cs⟩]=>zN (Fu (cs.map Cg) 25) (Gu (tc hp b) (cs.map Cg) 25) top
 |_=>(undef, [],top))
def Qq (hp:Hp)(top b:Nat)(s:List Int)(is:List Bool)(a:Nat):SS:=
 ⟨[(0, .pointer (some ⟨b,0,none⟩),true),(4, .pointer (some ⟨top,0,none⟩),true),(5, .pointer (some ⟨top+1,0,none⟩),true),(9, .agg ⟨is.map Value.bool⟩,true),(10, .int .i64 (a:Int),true)],
  hp.AZ [(top,some (.cells true 0 [.slice none 0 0, .slice none 0 0])),(top+1,some (.cells true 0 [AK (top+2) (Fu is a),AK (top+3) (Gu s is a)])),(top+2,AO Ab (Fu is a)),(top+3,AO A9 (Gu s is a))],top+4⟩
def stT (hp:Hp)(top b:Nat)(s:List Int)(is:List Bool)(a j:Nat):SS:=
 ⟨[(0, .pointer (some ⟨b,0,none⟩),true),(4, .pointer (some ⟨top,0,none⟩),true),(5, .pointer (some ⟨top+1,0,none⟩),true),(6, .int .i64 (a:Int),true),(9, .agg ⟨is.map Value.bool⟩,true),(10, .int .i64 (a:Int),true),(22, .int .i64 (j:Int),true)],
  hp.AZ [(top,some (.cells true 0 [.slice none 0 0, .slice none 0 0])),(top+1,some (.cells true 0 [AK (top+2) (Fu is (a+1)),AK (top+3) (Gu s is a ++ P6 s a j)])),(top+2,AO Ab (Fu is (a+1))),(top+3,AO A9 (Gu s is a ++ P6 s a j))],top+4⟩
theorem ACD:BK Try.prog 69 dU:=by
 refine .Cc Xd ?_
 intro args hp top hpre hcl hsc
 match args,hpre with
 | [.pointer (some ⟨b,0,none⟩), .agg ⟨cs⟩],⟨h1,h2,h3⟩=>
 obtain ⟨rw_,z,s,hb,hsl,hso⟩:=rI h1
 generalize hi:cs.map Cg=is at h2
 have his:is.length=25:=by rw [←hi];simpa using h3
 subst h2
 simp only [hso,LL]
 have hbt:=hcl.lt _ _ hb
 have htk:List.take 25 (is.map Value.bool)=is.map Value.bool:=Oj his
 have hdr:List.drop 25 (is.map Value.bool)= []:=Wt his
 have one:BD (is.map Value.bool)=true:=gw
 refine AL.Au BE Xd rfl 61 rfl [.cell 4 76] rfl (show 2≤61 by decide) ?_
 refine CW.vc I5 [0,1,3,4,5,6,7,8,9,10,11,15,22,23,42] (by kernel_rfl) ?_
 (repeat ((try refine Vc.mk' ?_);simp only [go_sem,reduceCtorEq,Nat.reduceAdd,his,List.length_map,htk]))
 refine CW.CZ (Qq hp top b s is) (fun a=>a≤25) (fun a=>25 - a) 0 (Nat.zero_le _) ?_ ?_
 ·exact (by refine BO.mk' [top+1,top+2,top+3,top+4] hcl (by simp) (by simp) rfl (AV ?_) ?_ ?_ <;> simp [Ax,Cd,Ad,Ag,AD.nil,AD.cons,AF,AG,AM,Aw,AB,AH,AE.set,AE.refl,AA hbt,Ds,Fu,Gu,Dh,EN])
 ·intro a ha
  have hnl:=aw is a
  have hel:=SO s is a
  by_cases hlt:a < 25
  ·have hlt2:(a:Int) < 25:=by omega
   have hla:Fu is (a+1)=Fu is a ++ (if iS is a then [(a:Int)] else []):=MW is a
   have hw:BQ .i64 ((a:Int)+1)=((a+1:Nat):Int):=Av hlt (by decide)
   have hn16:(Fu is a).length < 16777216:=by omega
   cases hia:iS is a with
   |false=>
    have hia2:=hia
    unfold iS at hia2
    refine CW.vc I5 [0,1,3,4,5,6,7,8,9,10,11,15,22,23,42] (by kernel_rfl) ?_
    (repeat ((try refine Vc.mk' ?_);simp only [go_sem,reduceCtorEq,Nat.mul_one,EJ,his,List.length_map,Qq,hlt,hlt2,hia2]))
    refine .mk (a+1) hlt (by omega) ((by refine BO.mk' [top,top+1,top+2,top+3] hcl (by simp) (by simp) rfl (AV ?_) ?_ ?_ <;> simp [Ax,Cd,Ad,Ag,AD.nil,AD.cons,AF,AG,AQ,AM,Aw,Af,AB,AH,AE.set,AE.refl,AA hbt,Ds,hw,MW,MC,hia]))
   |true=>
    have hia2:=hia
    unfold iS at hia2
    refine CW.vc I5 [0,1,3,4,5,6,7,8,9,10,11,15,22,23,42] (by kernel_rfl) ?_
    (repeat ((try refine Vc.mk' ?_);simp only [go_sem,Nat.reduceAdd,Nat.reduceLeDiff,Nat.reduceEqDiff,Nat.mul_one,EJ,his,List.length_map,Qq,hlt,hlt2,hia2,hn16]))
    refine CW.CZ (stT hp top b s is a) (fun j=>j≤25) (fun j=>25 - j) 0 (Nat.zero_le _) ?_ ?_
    ·exact (by refine BO.mk' [top,top+1,top+5,top+3] hcl (by simp) (by simp) rfl (AV ?_) ?_ ?_ <;> simp [Ax,Cd,Ad,Ag,AD.nil,AD.cons,AF,AG,AQ,AM,Aw,Af,AB,AH,AE.set,AE.refl,AA hbt,Ds,MW,hia,P6])
    ·intro j hj
     have hrl:=Sq s a j
     by_cases hjl:j < 25
     ·have hjl2:(j:Int) < 25:=by omega
      have hw2:BQ .i64 ((j:Int)+1)=((j+1:Nat):Int):=Av hjl (by decide)
      have i1:a * 25+j < 625:=by omega
      have i2:j * 25+a < 625:=by omega
      have h16:(Gu s is a ++ P6 s a j).length < 16777216:=by rw [List.length_append];omega
      have c1:(s[a * 25+j]?).getD 0=cS s a j:=rfl
      have c2:(s[j * 25+a]?).getD 0=cS s j a:=rfl
      have hrs:=VY s a j
      by_cases hc:0 < cS s a j∧0 < cS s j a
      ·have he:OL s a j= [⟨(a:Int),(j:Int),cS s a j⟩]:=by unfold OL;rw [if_pos hc]
       rw [he] at hrs
       refine CW.vc I5 [0,1,3,4,5,6,7,8,9,10,11,15,22,23,42] (by kernel_rfl) ?_
       (repeat ((try refine Vc.mk' ?_);simp only [go_sem,Nat.reduceAdd,Nat.reduceMul,Nat.reduceLeDiff,Nat.reduceEqDiff,hb,AS hbt,Nat.mul_one,Fy,hsl,List.length_map,stT,hlt,hjl,hjl2,i1,i2,c1,c2,hc.1,hc.2,h16]))
       refine .mk (j+1) hjl (by omega) ((by refine BO.mk' [top,top+1,top+2,top+5] hcl (by simp) (by simp) rfl (AV ?_) ?_ ?_ <;> simp [Ax,Cd,Ad,Ag,AD.nil,AD.cons,AF,AG,AQ,AM,Aw,Af,AB,AH,AE.set,AE.refl,AA hbt,Ds,hw2,hrs]))
      ·have he:OL s a j= []:=by unfold OL;rw [if_neg hc]
       rw [he,List.append_nil] at hrs
       by_cases hc1:0 < cS s a j
       ·have hc2:¬0 < cS s j a:=fun h=>hc ⟨hc1,h⟩
        refine CW.vc I5 [0,1,3,4,5,6,7,8,9,10,11,15,22,23,42] (by kernel_rfl) ?_
        (repeat ((try refine Vc.mk' ?_);simp only [go_sem,hb,AS hbt,Nat.mul_one,Fy,hsl,List.length_map,stT,hlt,hjl,hjl2,i1,i2,c1,c2,hc1,hc2]))
        refine .mk (j+1) hjl (by omega) ((by refine BO.mk' [top,top+1,top+2,top+3] hcl (by simp) (by simp) rfl (AV ?_) ?_ ?_ <;> simp [Ax,Cd,Ad,Ag,AD.nil,AD.cons,AF,AG,AQ,AM,Aw,Af,AB,AH,AE.set,AE.refl,AA hbt,Ds,hw2,hrs]))
       ·refine CW.vc I5 [0,1,3,4,5,6,7,8,9,10,11,15,22,23,42] (by kernel_rfl) ?_
        (repeat ((try refine Vc.mk' ?_);simp only [go_sem,hb,AS hbt,Nat.mul_one,Fy,hsl,List.length_map,stT,hlt,hjl,hjl2,i1,c1,hc1]))
        refine .mk (j+1) hjl (by omega) ((by refine BO.mk' [top,top+1,top+2,top+3] hcl (by simp) (by simp) rfl (AV ?_) ?_ ?_ <;> simp [Ax,Cd,Ad,Ag,AD.nil,AD.cons,AF,AG,AQ,AM,Aw,Af,AB,AH,AE.set,AE.refl,AA hbt,Ds,hw2,hrs]))
     ·have hj2:j=25:=by omega
      subst hj2
      have hed:=MC s is a
      rw [hia,if_pos rfl] at hed
      refine CW.vc I5 [0,1,3,4,5,6,7,8,9,10,11,15,22,23,42] (by kernel_rfl) ?_
      (repeat ((try refine Vc.mk' ?_);simp only [go_sem,reduceCtorEq,Nat.reduceEqDiff,Int.reduceLT,stT,Int.cast_ofNat_Int]))
      refine .mk (a+1) hlt (by omega) ((by refine BO.mk' [top,top+1,top+2,top+3] hcl (by simp) (by simp) rfl (AV ?_) ?_ ?_ <;> simp [Ax,Cd,Ad,Ag,AD.nil,AD.cons,AF,AG,AQ,AM,Aw,Af,AB,AH,AE.set,AE.refl,AA hbt,Ds,hw,hed]))
  ·have ha2:a=25:=by omega
   subst ha2
   refine CW.vc I5 [0,1,3,4,5,6,7,8,9,10,11,15,22,23,42] (by kernel_rfl) ?_
   (repeat ((try refine Vc.mk' ?_);simp only [go_sem,reduceCtorEq,Nat.reduceAdd,Nat.reduceEqDiff,Int.reduceLT,Qq,Int.cast_ofNat_Int]))
   simp only [zN]
   (refine ⟨[top+2,top+3],by simp,by simp,by simp, ?_, ?_, ?_⟩ <;> simp [Ad,Ag,AD.nil,AD.cons,AQ,AM,Aw,Af,AB,AH,AE.set,AE.refl])
def G5:=Bu G1 69 dU
theorem EY:Cf Try.prog tt.get G5:=I5.add ACD
theorem KI {α:Type}{p q:α→Bool}:∀ {l:List α},(∀a∈l,p a=q a)→l.filter p=l.filter q
 | [],_=>rfl
 |a :: l,h=>by
  have:=KI (l:=l) fun b hb=>h b (List.mem_cons_of_mem _ hb)
  simp only [List.filter_cons,h a (List.mem_cons_self ..),this]
theorem JF {α β:Type}{f g:α→List β}:∀ {l:List α},(∀a∈l,f a=g a)→l.flatMap f=l.flatMap g
 | [],_=>rfl
 |a :: l,h=>by rw [List.flatMap_cons,List.flatMap_cons,h a (List.mem_cons_self ..),JF fun b hb=>h b (List.mem_cons_of_mem _ hb)]
theorem UL {α:Type}{f g:Nat→α}{n i:Nat}{v:α}(hi:g i=v)(h:∀j,j < n→j≠i→g j=f j):((List.range n).map f).set i v=(List.range n).map g:=by
 apply List.ext_getElem?
 intro j
 rw [List.getElem?_set]
 by_cases e:i=j
 ·subst e
  rw [if_pos rfl]
  by_cases hl:i < n
  ·simp [hl,hi]
  ·simp [hl]
 ·rw [if_neg e]
  by_cases hl:j < n
  ·simp [hl,h j hl (fun e'=>e e'.symm)]
  ·simp [hl]
end Go.Proofs.Ytmppehipfpkepaa.Gr
/- Hs and links, and their graph, without the program. -/
set_option linter.unusedVariables false
namespace Go.Proofs.Ytmppehipfpkepaa.Gr
open Go.Dm Go.Proofs.Ytmppehipfpkepaa.Dm
def FQ (n:Int)(a:Int):Bool:=decide (a=n)
def UC:List Int→List Int→Bool
 |_, []=>true
 |done,n :: l=>BH n && !done.any (FQ n) && UC (done ++ [n]) l
def pr (a b:Int)(x:AX):Bool:=(decide (x.A=a) && decide (x.B=b)) || (decide (x.A=b) && decide (x.B=a))
def CX (R:List Int)(x:AX):Bool:= !decide (x.A=x.B) && R.any (FQ x.A) && R.any (FQ x.B) && JD x.C2
def Zf (R:List Int):List AX→List AX→Int
 |_, []=>0
 |done,x :: l=>if CX R x=false then 2 else if done.any (pr x.A x.B) then 7 else Zf R (done ++ [x]) l
def DS (R:List Int)(l:List AX):Int:=if UC [] R=false then 2 else if 48 < l.length then 3 else Zf R [] l
def Cq:List AX→Int→Int→Int
 | [],_,_=>0
 |x :: l,a,b=>if pr a b x=true then x.C2 else Cq l a b
def NK (R:List Int):List Bool:=(List.range 25).map fun (i:Nat)=>R.any (FQ (i:Int))
def sL (l:List AX):List Int:=(List.range 625).map fun i=>Cq l ((i / 25:Nat):Int) ((i % 25:Nat):Int)
theorem WY (R:List Int):(NK R).length=25:=by simp [NK]
theorem kg (l:List AX):(sL l).length=625:=by simp [sL]
theorem PN (R:List Int){a:Nat}(ha:a < 25):((NK R)[a]?).getD false=R.any (FQ (a:Int)):=by simp [NK,ha]
theorem bg (l:List AX){a b:Nat}(ha:a < 25)(hb:b < 25):((sL l)[a * 25+b]?).getD 0=Cq l (a:Int) (b:Int):=by
 have h:a * 25+b < 625:=by omega
 have e1:(a * 25+b) / 25=a:=by omega
 have e2:(a * 25+b) % 25=b:=by omega
 unfold sL
 rw [List.getElem?_map,List.getElem?_range h]
 simp only [Option.map_some,Option.getD_some,e1,e2]
theorem jx {done:List Int}{n:Int}(h:BH n=true):(NK done).set n.toNat true=NK (done ++ [n]):=by
 simp only [BH,Bool.and_eq_true,decide_eq_true_eq] at h
 unfold NK
 apply UL
 ·rw [List.any_append]
  have:FQ ((n.toNat:Nat):Int) n=true:=by simp only [FQ,decide_eq_true_eq];omega
  simp only [List.any_cons,this,Bool.true_or,Bool.or_true]
 ·intro j _ hne
  rw [List.any_append]
  have:FQ (j:Int) n=false:=by simp only [FQ,decide_eq_false_iff_not];omega
  simp [this]
theorem fM (a b:Int)(x:AX):pr a b x=pr b a x:=by unfold pr;rw [Bool.or_comm]
theorem Sz:∀(l:List AX) (a b:Int),Cq l a b=Cq l b a
 | [],_,_=>rfl
 |x :: l,a,b=>by rw [Cq,Cq,fM a b,Sz l a b]
theorem TJ:∀ {l:List AX} {a b:Int},l.any (pr a b)=false→Cq l a b=0
 | [],_,_,_=>rfl
 |x :: l,a,b,h=>by
  simp only [List.any_cons,Bool.or_eq_false_iff] at h
  rw [Cq,if_neg (by simp [h.1])]
  exact TJ h.2
theorem U7:∀(l:List AX) (x:AX) (a b:Int),l.any (pr a b)=false→Cq (l ++ [x]) a b=if pr a b x=true then x.C2 else 0
 | [],_,_,_,_=>rfl
 |y :: l,x,a,b,h=>by
  simp only [List.any_cons,Bool.or_eq_false_iff] at h
  rw [List.cons_append,Cq,if_neg (by simp [h.1])]
  exact U7 l x a b h.2
theorem TN:∀(l:List AX) (x:AX) (a b:Int),pr a b x=false→Cq (l ++ [x]) a b=Cq l a b
 | [],x,a,b,h=>by simp [Cq,h]
 |y :: l,x,a,b,h=>by rw [List.cons_append,Cq,Cq,TN l x a b h]
theorem eB {a b:Int}{x:AX}(h:pr a b x=true)(y:AX):pr x.A x.B y=pr a b y:=by
 simp only [pr,Bool.or_eq_true,Bool.and_eq_true,decide_eq_true_eq] at h
 rcases h with ⟨rfl,rfl⟩ | ⟨rfl,rfl⟩
 ·rfl
 ·exact fM _ _ _
theorem af {l:List AX}{x:AX}(h:l.any (pr x.A x.B)=false)(a b:Int):Cq (l ++ [x]) a b=if pr a b x=true then x.C2 else Cq l a b:=by
 cases hp:pr a b x with
 |false=>rw [TN l x a b hp];rfl
 |true=>
  have:l.any (pr a b)=false:=by
   rw [←h];congr 1;funext y;exact (eB hp y).symm
  rw [U7 l x a b this,hp]
  simp
theorem rY {done:List AX}{x:AX}(ha:BH x.A=true)(hb:BH x.B=true)(h:done.any (pr x.A x.B)=false) :
  ((sL done).set (x.A.toNat * 25+x.B.toNat) x.C2).set (x.B.toNat * 25+x.A.toNat) x.C2=sL (done ++ [x]):=by
 simp only [BH,Bool.and_eq_true,decide_eq_true_eq] at ha hb
 have key:∀j,j < 625→Cq (done ++ [x]) ((j / 25:Nat):Int) ((j % 25:Nat):Int)=if j=x.A.toNat * 25+x.B.toNat∨j=x.B.toNat * 25+x.A.toNat then x.C2 else Cq done ((j / 25:Nat):Int) ((j % 25:Nat):Int):=by
  intro j hj
  rw [af h]
  have:pr ((j / 25:Nat):Int) ((j % 25:Nat):Int) x=true ↔ (j=x.A.toNat * 25+x.B.toNat∨j=x.B.toNat * 25+x.A.toNat):=by
   simp only [pr,Bool.or_eq_true,Bool.and_eq_true,decide_eq_true_eq]
   omega
  by_cases hc:j=x.A.toNat * 25+x.B.toNat∨j=x.B.toNat * 25+x.A.toNat
  ·rw [if_pos hc,if_pos (this.2 hc)]
  ·rw [if_neg hc,if_neg (fun e=>hc (this.1 e))]
 unfold sL
 apply List.ext_getElem?
 intro j
 rw [List.getElem?_set,List.getElem?_set]
 by_cases hj:j < 625
 ·have hk:=key j hj
  simp only [List.length_set,List.length_map,List.length_range,List.getElem?_map,List.getElem?_range hj,Option.map_some,hk]
  by_cases h1:x.B.toNat * 25+x.A.toNat=j
  ·rw [if_pos h1,if_pos (by omega),if_pos (.inr h1.symm)]
  ·rw [if_neg h1]
   by_cases h2:x.A.toNat * 25+x.B.toNat=j
   ·rw [if_pos h2,if_pos (by omega),if_pos (.inl h2.symm)]
   ·rw [if_neg h2,if_neg (by omega)]
 ·rw [if_neg (by omega),if_neg (by omega)]
  simp [hj]
/-! ### what is well -/
theorem KA:∀(l done:List Int),UC done l=true→∀n∈l,BH n=true
 | [],_,_,_,h=>by cases h
 |m :: l,done,h,n,hn=>by
  simp only [UC,Bool.and_eq_true] at h
  rcases List.mem_cons.1 hn with rfl | hn
  ·exact h.1.1
  ·exact KA l _ h.2 n hn
theorem K5 {R:List Int}(h:∀n∈R,BH n=true){n:Int}(hn:R.any (FQ n)=true):BH n=true:=by
 obtain ⟨m,hm,e⟩:=List.any_eq_true.1 hn
 simp only [FQ,decide_eq_true_eq] at e
 subst e;exact h m hm
structure RR (R:List Int) (l:List AX):Prop where
 ok:∀x∈l,CX R x=true
 ne:l.Pairwise fun x y=>pr y.A y.B x=false
theorem bI {R:List Int}:∀(l done:List AX),Zf R done l=0→(∀x∈l,CX R x=true∧done.any (pr x.A x.B)=false)∧l.Pairwise fun x y=>pr y.A y.B x=false
 | [],_,_=>⟨by simp, .nil⟩
 |x :: l,done,h=>by
  unfold Zf at h
  split at h
  ·cases h
  ·rename_i h1
   split at h
   ·cases h
   ·rename_i h2
    obtain ⟨a,b⟩:=bI l _ h
    refine ⟨?_,List.pairwise_cons.2 ⟨?_,b⟩⟩
    ·intro y hy
     rcases List.mem_cons.1 hy with rfl | hy
     ·exact ⟨by simpa using h1,by simpa using h2⟩
     ·obtain ⟨c,d⟩:=a y hy
      rw [List.any_append,Bool.or_eq_false_iff] at d
      exact ⟨c,d.1⟩
    ·intro y hy
     obtain ⟨_,d⟩:=a y hy
     rw [List.any_append,Bool.or_eq_false_iff] at d
     simpa using d.2
def Hj (l:List AX)(a b:Int):List BJ:=(l.filter (pr a b)).map fun x=>⟨a,b,x.C2⟩
theorem filter_one {a b:Int}:∀ {l:List AX},l.Pairwise (fun x y=>pr y.A y.B x=false)→Hj l a b=if l.any (pr a b)=true then [⟨a,b,Cq l a b⟩] else []
 | [],_=>rfl
 |x :: l,h=>by
  obtain ⟨h1,h2⟩:=List.pairwise_cons.1 h
  have ih:=filter_one (a:=a) (b:=b) h2
  unfold Hj at ih ⊢
  cases hp:pr a b x with
  |false=>
   have e1:(x :: l).filter (pr a b)=l.filter (pr a b):=by rw [List.filter_cons,hp];rfl
   have e2:Cq (x :: l) a b=Cq l a b:=by rw [Cq,hp];rfl
   have e3:(x :: l).any (pr a b)=l.any (pr a b):=by rw [List.any_cons,hp,Bool.false_or]
   rw [e1,e2,e3,ih]
  |true=>
   have hn:l.any (pr a b)=false:=by
    rw [List.any_eq_false]
    intro y hy
    have:=h1 y hy
    intro hpy
    rw [←eB hpy x] at hp
    rw [hp] at this;cases this
   have e1:(x :: l).filter (pr a b)=x :: l.filter (pr a b):=by rw [List.filter_cons,hp];rfl
   have e2:Cq (x :: l) a b=x.C2:=by rw [Cq,hp];rfl
   have e3:(x :: l).any (pr a b)=true:=by rw [List.any_cons,hp,Bool.true_or]
   rw [e1,e2,e3,List.map_cons,ih,hn]
   rfl
theorem Mq {R:List Int}{l:List AX}(h:∀x∈l,CX R x=true)(a b:Int):0 < Cq l a b ↔ l.any (pr a b)=true:=by
 induction l with
 |nil=>simp [Cq]
 |cons x l ih=>
  have hx:=h x (List.mem_cons_self ..)
  have ih:=ih fun y hy=>h y (List.mem_cons_of_mem _ hy)
  rw [Cq,List.any_cons]
  cases hp:pr a b x with
  |false=>simpa [hp] using ih
  |true=>
   simp only [CX,JD,Bool.and_eq_true,decide_eq_true_eq] at hx
   simp;omega
def H8 (l:List AX)(a m:Nat):List BJ:=(List.range m).flatMap fun (b:Nat)=>Hj l (a:Int) (b:Int)
def CF (R:List Int)(l:List AX)(n:Nat):List BJ:=(List.range n).flatMap fun (a:Nat)=>if R.any (FQ (a:Int)) then H8 l a 25 else []
def Cs (R:List Int)(n:Nat):List Int:=((List.range n).filter fun (i:Nat)=>R.any (FQ (i:Int))).map fun (i:Nat)=>(i:Int)
theorem ng (R:List Int):Fu (NK R) 25=Cs R 25:=by
 unfold Fu Cs
 rw [KI fun i hi=>show iS (NK R) i=R.any (FQ (i:Int)) from PN R (List.mem_range.1 hi)]
theorem oP {R:List Int}{l:List AX}(h:RR R l):Gu (sL l) (NK R) 25=CF R l 25:=by
 unfold Gu CF
 refine JF fun a ha=> ?_
 have ha':=List.mem_range.1 ha
 have e1:iS (NK R) a=R.any (FQ (a:Int)):=PN R ha'
 rw [e1]
 have:P6 (sL l) a 25=H8 l a 25:=by
  unfold P6 H8
  refine JF fun b hb=> ?_
  have hb':=List.mem_range.1 hb
  have c1:cS (sL l) a b=Cq l (a:Int) (b:Int):=bg l ha' hb'
  have c2:cS (sL l) b a=Cq l (b:Int) (a:Int):=bg l hb' ha'
  unfold OL
  rw [c1,c2,Sz l (b:Int) (a:Int),filter_one h.ne]
  by_cases hc:l.any (pr (a:Int) (b:Int))=true
  ·have:=(Mq h.ok (a:Int) (b:Int)).2 hc
   rw [if_pos hc,if_pos ⟨this,this⟩]
  ·rw [if_neg hc,if_neg (fun e=>hc ((Mq h.ok _ _).1 e.1))]
 rw [this]
theorem Qj (R:List Int)(n:Nat):Cs R (n+1)=Cs R n ++ (if R.any (FQ (n:Int)) then [(n:Int)] else []):=by
 unfold Cs
 rw [List.range_succ,List.filter_append,List.map_append]
 cases h:R.any (FQ (n:Int)) <;> simp [h]
theorem Ta (R:List Int)(n:Nat):(Cs R n).length≤n:=by
 unfold Cs
 rw [List.length_map]
 exact Nat.le_trans (List.length_filter_le ..) (by simp)
theorem Pz (l:List AX)(a m:Nat):H8 l a (m+1)=H8 l a m ++ Hj l (a:Int) (m:Int):=by simp [H8,List.range_succ]
theorem ME (R:List Int)(l:List AX)(n:Nat):CF R l (n+1)=CF R l n ++ (if R.any (FQ (n:Int)) then H8 l n 25 else []):=by simp [CF,List.range_succ]
theorem Zy (l:List AX)(a b:Int):(Hj l a b).length≤l.length:=by
 unfold Hj;rw [List.length_map];exact List.length_filter_le ..
theorem Si (l:List AX)(a:Nat):∀m,(H8 l a m).length≤m * l.length
 |0=>by simp [H8]
 |m+1=>by
  have h1:=Si l a m
  have h2:=Zy l (a:Int) (m:Int)
  rw [Pz,List.length_append,Nat.succ_mul];omega
theorem OD (R:List Int)(l:List AX):∀n,(CF R l n).length≤n * (25 * l.length)
 |0=>by simp [CF]
 |n+1=>by
  have h1:=OD R l n
  have h2:=Si l n 25
  rw [ME,List.length_append,Nat.succ_mul]
  split
  ·omega
  ·simp;omega
theorem jG {l:List AX}{i:Nat}(h:i < l.length)(a b:Int):Hj (l.take (i+1)) a b=Hj (l.take i) a b ++ (if pr a b (Aj l i)=true then [⟨a,b,(Aj l i).C2⟩] else []):=by
 rw [CO h]
 unfold Hj
 rw [List.filter_append,List.map_append]
 cases hp:pr a b (Aj l i) <;> simp [hp]
def nO (R:List Int)(l:List AX):List Int:=if DS R l=0 then Cs R 25 else []
def eO (R:List Int)(l:List AX):List BJ:=if DS R l=0 then CF R l 25 else []
theorem Cv {R:List Int}{l:List AX}(h:DS R l=0):UC [] R=true∧l.length≤48∧Zf R [] l=0:=by
 unfold DS at h
 split at h
 ·cases h
 ·rename_i h1
  split at h
  ·cases h
  ·exact ⟨by simpa using h1,by omega,h⟩
theorem Fb {R:List Int}{l:List AX}(h:Zf R [] l=0):RR R l:=⟨fun x hx=>((bI l [] h).1 x hx).1,(bI l [] h).2⟩
end Go.Proofs.Ytmppehipfpkepaa.Gr
/- graph.Of. -/
set_option linter.unusedVariables false
namespace Go.Proofs.Ytmppehipfpkepaa.Gr
open Go.Dm Go.Proofs.Ytmppehipfpkepaa.Dm
set_option maxHeartbeats 8000000
set_option maxRecDepth 20000
theorem Eb:G5 67=GF BH:=rfl
theorem Jp:G5 68=GF JD:=rfl
theorem AAv:G5 69=dU:=rfl
def FF (R:List Int)(l:List AX)(top:Nat):Value×BC×Nat:=
 (.tuple ⟨[.agg ⟨[AK top (nO R l),AK (top+1) (eO R l)]⟩, .int .i64 (DS R l)]⟩, [(top,AO Ab (nO R l)),(top+1,AO A9 (eO R l))],top+2)
def ET:Bp:= .det (fun args hp _=>match args with | [u,v]=>Dp Ab hp u∧Dp An hp v | _=>False) (fun args hp top=>match args with | [u,v]=>FF (Ab.rd hp u) (An.rd hp v) top | _=>(undef, [],top))
theorem Cb {R:List Int}{l:List AX}{top:Nat}{e:Int}(h:DS R l=e)(he:e≠0):FF R l top=(.tuple ⟨[.agg ⟨[.slice none 0 0, .slice none 0 0]⟩, .int .i64 e]⟩, [(top,none),(top+1,none)],top+2):=by
 unfold FF nO eO
 rw [h,if_neg he,if_neg he];rfl
theorem Sw {R:List Int}{l:List AX}{top:Nat}(h:DS R l=0):FF R l top=(.tuple ⟨[.agg ⟨[AK top (Cs R 25),AK (top+1) (CF R l 25)]⟩, .int .i64 0]⟩, [(top,AO Ab (Cs R 25)),(top+1,AO A9 (CF R l 25))],top+2):=by
 unfold FF nO eO
 rw [h,if_pos rfl,if_pos rfl]
def fq (hp:Hp)(top:Nat)(u v:Value)(R:List Int)(k:Nat):SS:=
 ⟨[(1,v,true),(4, .pointer (some ⟨top,0,none⟩),true),(6, .pointer (some ⟨top+1,0,none⟩),true),(7, .pointer (some ⟨top+2,0,none⟩),true),(12,u,true),(13, .int .i64 (R.length:Int),true),(14, .int .i64 (k:Int),true)],
  hp.AZ [(top,some (.cells true 0 [.slice none 0 0, .slice none 0 0])),(top+1,some (.cells true 0 ((sL []).map (Value.int .i64)))),(top+2,some (.cells true 0 ((NK (R.take k)).map Value.bool)))],top+3⟩
def UO (hp:Hp)(top:Nat)(v:Value)(R:List Int)(l:List AX)(k:Nat):SS:=
 ⟨[(4, .pointer (some ⟨top,0,none⟩),true),(6, .pointer (some ⟨top+1,0,none⟩),true),(7, .pointer (some ⟨top+2,0,none⟩),true),(34,v,true),(35, .int .i64 (l.length:Int),true),(36, .int .i64 (k:Int),true)],
  hp.AZ [(top,some (.cells true 0 [.slice none 0 0, .slice none 0 0])),(top+1,some (.cells true 0 ((sL (l.take k)).map (Value.int .i64)))),(top+2,some (.cells true 0 ((NK R).map Value.bool)))],top+3⟩
theorem xZ:Gw 625 (.int .i64 0)=(sL []).map (Value.int .i64):=by
 rw [Yo]
 have:sL [] = List.replicate 625 0:=by decide +kernel
 rw [this]
theorem sD:Gw 25 (.bool false)=(NK []).map Value.bool:=by
 rw [bH]
 have:NK [] = List.replicate 25 false:=by decide +kernel
 rw [this]
theorem Xw {R:List Int}(l:List AX)(h:UC [] R=false):DS R l=2:=by unfold DS;rw [if_pos h]
theorem oa {R:List Int}{l:List AX}(h:UC [] R=true)(hl:48 < l.length):DS R l=3:=by unfold DS;rw [if_neg (by simp [h]),if_pos hl]
theorem lC {R:List Int}{l:List AX}(h:UC [] R=true)(hl:¬48 < l.length):DS R l=Zf R [] l:=by unfold DS;rw [if_neg (by simp [h]),if_neg hl]
theorem vy:BK Try.prog 38 ET:=by
 refine .Cc Xu ?_
 intro args hp top hpre hcl hsc
 match args,hpre with
 | [u,v],⟨⟨R,h⟩,⟨l,g⟩⟩=>
 have hs:=h.low hcl
 have gs:=g.low hcl
 simp only [h.rd,g.rd]
 refine AL.Au BE Xu rfl 108 rfl [.cell 4 76, .tmp 5] rfl (show 2≤108 by decide) ?_
 refine CW.vc EY [0,1,4,5,6,7,9,11,12,13,14,15,25,32,34,35,36,37,40,79,1000019] (by kernel_rfl) ?_
 (repeat ((first | refine Vc.mk' ?_ | refine CW.CE EY 19 [0,1,4,5,6,7,9,11,12,13,14,15,25,32,34,35,36,37,40,79,1000019] [(5,14),(7,14),(11,14)] (by kernel_rfl) (by kernel_rfl) ?_ | skip);simp only [go_sem,Nat.reduceAdd,Bs h,oC,kz]))
 refine CW.CZ (fq hp top u v R) (fun k=>k≤R.length∧UC [] R=UC (R.take k) (R.drop k)) (fun k=>R.length - k) 0 ⟨Nat.zero_le _,rfl⟩ ?_ ?_
 ·exact (by refine BO.mk' [top,top+1,top+2] hcl (by simp) (by simp) rfl (AV ?_) ?_ ?_ <;> simp [Ax,Cd,Ad,Ag,BX,AD.nil,AD.cons,AF,AG,AM,Aw,AB,AH,AE.set,AE.refl,Sc.Ad (fun j hj=>AA hj) hs,Sc.Ad (fun j hj=>AA hj) gs,xZ,sD,Ds])
 ·rintro k ⟨hk,hm⟩
  by_cases hlt:k < R.length
  ·rw [GU hlt,UC] at hm
   generalize hn:Aj R k=n at hm
   cases c1:BH n with
   |false=>
    rw [c1,Bool.false_and,Bool.false_and] at hm
    simp only [Cb (Xw l hm) (by decide)]
    refine CW.vc EY [0,1,4,5,6,7,9,11,12,13,14,15,25,32,34,35,36,37,40,79,1000019] (by kernel_rfl) ?_
    (repeat ((first | refine Vc.mk' ?_ | refine CW.CE EY 19 [0,1,4,5,6,7,9,11,12,13,14,15,25,32,34,35,36,37,40,79,1000019] [(5,14),(7,14),(11,14)] (by kernel_rfl) (by kernel_rfl) ?_ | skip);simp only [go_sem,reduceCtorEq,Nat.reduceAdd,CN h,DM h,Ao hs,Eb,GF,hlt,fq,hn,c1]))
    (refine ⟨[top,top+1],by simp,by simp,by simp, ?_, ?_, ?_⟩ <;> simp [Ad,Ag,AD.nil,AD.cons,AM,Aw,AB,AH,AE.set,AE.refl])
   |true=>
    have hro:=c1
    simp only [BH,Bool.and_eq_true,decide_eq_true_eq] at hro
    have o0:0≤n:=by omega
    have o1:n < ((25:Nat):Int):=by omega
    have o2:n.toNat < 25:=by omega
    have o5:n.toNat≤24:=by omega
    have o4:((n.toNat:Nat):Int)=n:=by omega
    have hl1:CS tt.get hp 3 (BM u k)=(.int .i64 n,True):=by have:=DM h hlt;rw [Nat.mul_one,hn] at this;exact this
    have hil:=WY (R.take k)
    have hig:=PN (R.take k) o2
    rw [o4] at hig
    cases c2:(R.take k).any (FQ n) with
    |true=>
     rw [c2] at hig
     rw [c2,Bool.not_true,Bool.and_false,Bool.false_and] at hm
     simp only [Cb (Xw l hm) (by decide)]
     refine CW.vc EY [0,1,4,5,6,7,9,11,12,13,14,15,25,32,34,35,36,37,40,79,1000019] (by kernel_rfl) ?_
     (repeat ((first | refine Vc.mk' ?_ | refine CW.CE EY 19 [0,1,4,5,6,7,9,11,12,13,14,15,25,32,34,35,36,37,40,79,1000019] [(5,14),(7,14),(11,14)] (by kernel_rfl) (by kernel_rfl) ?_ | skip);simp only [go_sem,reduceCtorEq,Nat.reduceAdd,CN h,Ao hs,Eb,GF,hlt,fq,hl1,c1,o0,o1,o2,hig,hil,EJ,Nat.mul_one,List.length_map]))
     (refine ⟨[top,top+1],by simp,by simp,by simp, ?_, ?_, ?_⟩ <;> simp [Ad,Ag,AD.nil,AD.cons,AM,Aw,AB,AH,AE.set,AE.refl])
    |false=>
     rw [c2] at hig
     rw [c1,c2,Bool.not_false,Bool.and_self,Bool.true_and] at hm
     have hst:=jx (done:=R.take k) c1
     rw [←hn,←CO hlt,hn] at hst
     refine CW.vc EY [0,1,4,5,6,7,9,11,12,13,14,15,25,32,34,35,36,37,40,79,1000019] (by kernel_rfl) ?_
     (repeat ((first | refine Vc.mk' ?_ | refine CW.CE EY 19 [0,1,4,5,6,7,9,11,12,13,14,15,25,32,34,35,36,37,40,79,1000019] [(5,14),(7,14),(11,14)] (by kernel_rfl) (by kernel_rfl) ?_ | skip);simp only [go_sem,Nat.reduceLeDiff,CN h,Ao hs,Eb,GF,hlt,fq,hl1,c1,o0,o1,o2,o5,hig,hil,EJ,PM,Nat.mul_one,List.length_map,hst]))
     refine .mk (k+1) ⟨hlt, ?_⟩ (by omega) ((by refine BO.mk' [top,top+1,top+2] hcl (by simp) (by simp) rfl (AV ?_) ?_ ?_ <;> simp [Ax,Cd,Ad,Ag,BX,AD.nil,AD.cons,AF,AG,AM,Aw,AB,AH,AE.set,AE.refl,Sc.Ad (fun j hj=>AA hj) hs,Sc.Ad (fun j hj=>AA hj) gs,Ds,Av hlt h.le]))
     rw [hm,CO hlt,hn]
  ·have hk2:k=R.length:=by omega
   subst hk2
   have hG:UC [] R=true:=by rw [hm,List.drop_eq_nil_of_le (Nat.le_refl _)];rfl
   by_cases hl:48 < l.length
   ·have hl2:(48:Int) < (l.length:Int):=by omega
    simp only [Cb (oa hG hl) (by decide)]
    refine CW.vc EY [0,1,4,5,6,7,9,11,12,13,14,15,25,32,34,35,36,37,40,79,1000019] (by kernel_rfl) ?_
    (repeat ((first | refine Vc.mk' ?_ | refine CW.CE EY 19 [0,1,4,5,6,7,9,11,12,13,14,15,25,32,34,35,36,37,40,79,1000019] [(5,14),(7,14),(11,14)] (by kernel_rfl) (by kernel_rfl) ?_ | skip);simp only [go_sem,reduceCtorEq,Nat.reduceAdd,CB g,fq,Nat.lt_irrefl,decide_false,hl2]))
    (refine ⟨[top,top+1],by simp,by simp,by simp, ?_, ?_, ?_⟩ <;> simp [Ad,Ag,AD.nil,AD.cons,AM,Aw,AB,AH,AE.set,AE.refl])
   ·have hl2:¬(48:Int) < (l.length:Int):=by omega
    have hE:=lC hG hl
    have hR:=KA R [] hG
    refine CW.vc EY [0,1,4,5,6,7,9,11,12,13,14,15,25,32,34,35,36,37,40,79,1000019] (by kernel_rfl) ?_
    (repeat ((first | refine Vc.mk' ?_ | refine CW.CE EY 19 [0,1,4,5,6,7,9,11,12,13,14,15,25,32,34,35,36,37,40,79,1000019] [(5,14),(7,14),(11,14)] (by kernel_rfl) (by kernel_rfl) ?_ | skip);simp only [go_sem,CB g,fq,Nat.lt_irrefl,decide_false,hl2]))
    refine CW.CZ (UO hp top v R l) (fun k=>k≤l.length∧Zf R [] l=Zf R (l.take k) (l.drop k)∧∀x∈l.take k,CX R x=true) (fun k=>l.length - k) 0 ⟨Nat.zero_le _,rfl,by simp⟩ ?_ ?_
    ·exact (by refine BO.mk' [top,top+1,top+2] hcl (by simp) (by simp) rfl (AV ?_) ?_ ?_ <;> simp [Ax,Cd,Ad,Ag,BX,AD.nil,AD.cons,AF,AG,AM,Aw,AB,AH,AE.set,AE.refl,Sc.Ad (fun j hj=>AA hj) gs,List.take_length,Ds])
    ·rintro k ⟨hk,hm,hok⟩
     by_cases hlt:k < l.length
     ·rw [GU hlt,Zf] at hm
      have bad:CX R (Aj l k)=false→DS R l=2:=fun e=>by rw [hE,hm,if_pos e]
      have anyF:∀a,BH a=false→R.any (FQ a)=false:=fun a ha=>by
       cases h':R.any (FQ a) with
       |false=>rfl
       |true=>have:=K5 hR h';rw [ha] at this;cases this
      cases a1:BH (Aj l k).A with
      |false=>
       have e:=bad (by simp [CX,anyF _ a1])
       simp only [Cb e (by decide)]
       refine CW.vc EY [0,1,4,5,6,7,9,11,12,13,14,15,25,32,34,35,36,37,40,79,1000019] (by kernel_rfl) ?_
       (repeat ((first | refine Vc.mk' ?_ | refine CW.CE EY 19 [0,1,4,5,6,7,9,11,12,13,14,15,25,32,34,35,36,37,40,79,1000019] [(5,14),(7,14),(11,14)] (by kernel_rfl) (by kernel_rfl) ?_ | skip);simp only [go_sem,reduceCtorEq,Nat.reduceAdd,Nat.reduceLT,Nat.reduceEqDiff,B4 g,DN g,Ao gs,Eb,Jp,GF,hlt,UO,a1]))
       (refine ⟨[top,top+1],by simp,by simp,by simp, ?_, ?_, ?_⟩ <;> simp [Ad,Ag,AD.nil,AD.cons,AM,Aw,AB,AH,AE.set,AE.refl])
      |true=>
      cases b1:BH (Aj l k).B with
      |false=>
       have e:=bad (by simp [CX,anyF _ b1])
       simp only [Cb e (by decide)]
       refine CW.vc EY [0,1,4,5,6,7,9,11,12,13,14,15,25,32,34,35,36,37,40,79,1000019] (by kernel_rfl) ?_
       (repeat ((first | refine Vc.mk' ?_ | refine CW.CE EY 19 [0,1,4,5,6,7,9,11,12,13,14,15,25,32,34,35,36,37,40,79,1000019] [(5,14),(7,14),(11,14)] (by kernel_rfl) (by kernel_rfl) ?_ | skip);simp only [go_sem,reduceCtorEq,Nat.reduceAdd,Nat.reduceLT,Nat.reduceEqDiff,B4 g,DN g,Ao gs,Eb,Jp,GF,hlt,UO,a1,b1]))
       (refine ⟨[top,top+1],by simp,by simp,by simp, ?_, ?_, ?_⟩ <;> simp [Ad,Ag,AD.nil,AD.cons,AM,Aw,AB,AH,AE.set,AE.refl])
      |true=>
      have ra:=a1
      have rb:=b1
      simp only [BH,Bool.and_eq_true,decide_eq_true_eq] at ra rb
      have o0:0≤(Aj l k).A:=by omega
      have o1:(Aj l k).A < ((25:Nat):Int):=by omega
      have o2:(Aj l k).A.toNat < 25:=by omega
      have o5:(Aj l k).A.toNat≤24:=by omega
      have o4:(((Aj l k).A.toNat:Nat):Int)=(Aj l k).A:=by omega
      have q0:0≤(Aj l k).B:=by omega
      have q1:(Aj l k).B < ((25:Nat):Int):=by omega
      have q2:(Aj l k).B.toNat < 25:=by omega
      have q5:(Aj l k).B.toNat≤24:=by omega
      have q4:(((Aj l k).B.toNat:Nat):Int)=(Aj l k).B:=by omega
      have hil:=WY R
      have hia:=PN R o2
      have hib:=PN R q2
      rw [o4] at hia
      rw [q4] at hib
      have hsl:=kg (l.take k)
      have hv:=bg (l.take k) o2 q2
      rw [o4,q4] at hv
      have t1:(Aj l k).A.toNat * 25+(Aj l k).B.toNat < 625:=by omega
      have t2:(Aj l k).B.toNat * 25+(Aj l k).A.toNat < 625:=by omega
      have t3:(Aj l k).A.toNat * 25+(Aj l k).B.toNat≤624:=by omega
      have t4:(Aj l k).B.toNat * 25+(Aj l k).A.toNat≤624:=by omega
      have t5:(Aj l k).A.toNat * 25+((Aj l k).B.toNat+1)≤625:=by omega
      have t6:(Aj l k).B.toNat * 25+((Aj l k).A.toNat+1)≤625:=by omega
      cases a2:R.any (FQ (Aj l k).A) with
      |false=>
       have e:=bad (by simp [CX,a2])
       rw [a2] at hia
       simp only [Cb e (by decide)]
       refine CW.vc EY [0,1,4,5,6,7,9,11,12,13,14,15,25,32,34,35,36,37,40,79,1000019] (by kernel_rfl) ?_
       (repeat ((first | refine Vc.mk' ?_ | refine CW.CE EY 19 [0,1,4,5,6,7,9,11,12,13,14,15,25,32,34,35,36,37,40,79,1000019] [(5,14),(7,14),(11,14)] (by kernel_rfl) (by kernel_rfl) ?_ | skip);simp only [go_sem,reduceCtorEq,Nat.reduceAdd,Nat.reduceLT,Nat.reduceEqDiff,B4 g,DN g,Ao gs,Eb,Jp,GF,hlt,UO,a1,b1,o0,o1,o2,q0,q1,q2,hil,hia,hib,EJ,Nat.mul_one,List.length_map]))
       (refine ⟨[top,top+1],by simp,by simp,by simp, ?_, ?_, ?_⟩ <;> simp [Ad,Ag,AD.nil,AD.cons,AM,Aw,AB,AH,AE.set,AE.refl])
      |true=>
      rw [a2] at hia
      cases b2:R.any (FQ (Aj l k).B) with
      |false=>
       have e:=bad (by simp [CX,b2])
       rw [b2] at hib
       simp only [Cb e (by decide)]
       refine CW.vc EY [0,1,4,5,6,7,9,11,12,13,14,15,25,32,34,35,36,37,40,79,1000019] (by kernel_rfl) ?_
       (repeat ((first | refine Vc.mk' ?_ | refine CW.CE EY 19 [0,1,4,5,6,7,9,11,12,13,14,15,25,32,34,35,36,37,40,79,1000019] [(5,14),(7,14),(11,14)] (by kernel_rfl) (by kernel_rfl) ?_ | skip);simp only [go_sem,reduceCtorEq,Nat.reduceAdd,Nat.reduceLT,Nat.reduceEqDiff,B4 g,DN g,Ao gs,Eb,Jp,GF,hlt,UO,a1,b1,o0,o1,o2,q0,q1,q2,hil,hia,hib,EJ,Nat.mul_one,List.length_map]))
       (refine ⟨[top,top+1],by simp,by simp,by simp, ?_, ?_, ?_⟩ <;> simp [Ad,Ag,AD.nil,AD.cons,AM,Aw,AB,AH,AE.set,AE.refl])
      |true=>
      rw [b2] at hib
      by_cases ab:(Aj l k).A=(Aj l k).B
      ·have e:=bad (by simp [CX,ab])
       simp only [Cb e (by decide)]
       refine CW.vc EY [0,1,4,5,6,7,9,11,12,13,14,15,25,32,34,35,36,37,40,79,1000019] (by kernel_rfl) ?_
       (repeat ((first | refine Vc.mk' ?_ | refine CW.CE EY 19 [0,1,4,5,6,7,9,11,12,13,14,15,25,32,34,35,36,37,40,79,1000019] [(5,14),(7,14),(11,14)] (by kernel_rfl) (by kernel_rfl) ?_ | skip);simp only [go_sem,reduceCtorEq,Nat.reduceAdd,Nat.reduceLT,Nat.reduceEqDiff,B4 g,DN g,Ao gs,Eb,Jp,GF,hlt,UO,b1,q0,q1,q2,hil,hib,EJ,Nat.mul_one,List.length_map,ab]))
       (refine ⟨[top,top+1],by simp,by simp,by simp, ?_, ?_, ?_⟩ <;> simp [Ad,Ag,AD.nil,AD.cons,AM,Aw,AB,AH,AE.set,AE.refl])
      cases c3:JD (Aj l k).C2 with
      |false=>
       have e:=bad (by simp [CX,c3])
       simp only [Cb e (by decide)]
       refine CW.vc EY [0,1,4,5,6,7,9,11,12,13,14,15,25,32,34,35,36,37,40,79,1000019] (by kernel_rfl) ?_
       (repeat ((first | refine Vc.mk' ?_ | refine CW.CE EY 19 [0,1,4,5,6,7,9,11,12,13,14,15,25,32,34,35,36,37,40,79,1000019] [(5,14),(7,14),(11,14)] (by kernel_rfl) (by kernel_rfl) ?_ | skip);simp only [go_sem,reduceCtorEq,Nat.reduceAdd,Nat.reduceLT,Nat.reduceEqDiff,B4 g,DN g,Ao gs,Eb,Jp,GF,hlt,UO,a1,b1,o0,o1,o2,q0,q1,q2,hil,hia,hib,EJ,Nat.mul_one,List.length_map,ab,c3]))
       (refine ⟨[top,top+1],by simp,by simp,by simp, ?_, ?_, ?_⟩ <;> simp [Ad,Ag,AD.nil,AD.cons,AM,Aw,AB,AH,AE.set,AE.refl])
      |true=>
      have hlk:CX R (Aj l k)=true:=by simp [CX,a2,b2,ab,c3]
      rw [if_neg (by simp [hlk])] at hm
      have hpos:=Mq hok (Aj l k).A (Aj l k).B
      cases p:(l.take k).any (pr (Aj l k).A (Aj l k).B) with
      |true=>
       have hp:=hpos.2 p
       rw [if_pos p] at hm
       have e:DS R l=7:=by rw [hE,hm]
       simp only [Cb e (by decide)]
       refine CW.vc EY [0,1,4,5,6,7,9,11,12,13,14,15,25,32,34,35,36,37,40,79,1000019] (by kernel_rfl) ?_
       (repeat ((first | refine Vc.mk' ?_ | refine CW.CE EY 19 [0,1,4,5,6,7,9,11,12,13,14,15,25,32,34,35,36,37,40,79,1000019] [(5,14),(7,14),(11,14)] (by kernel_rfl) (by kernel_rfl) ?_ | skip);simp only [go_sem,reduceCtorEq,Nat.reduceAdd,Nat.reduceLT,Nat.reduceEqDiff,B4 g,DN g,Ao gs,Eb,Jp,GF,hlt,UO,a1,b1,o0,o1,o2,q0,q1,q2,hil,hia,hib,hsl,EJ,Fy,Nat.mul_one,List.length_map,ab,c3,t1,hv,hp]))
       (refine ⟨[top,top+1],by simp,by simp,by simp, ?_, ?_, ?_⟩ <;> simp [Ad,Ag,AD.nil,AD.cons,AM,Aw,AB,AH,AE.set,AE.refl])
      |false=>
       have hp:¬0 < Cq (l.take k) (Aj l k).A (Aj l k).B:=fun e=>by rw [hpos.1 e] at p;cases p
       rw [if_neg (by simp [p])] at hm
       have hss:=rY a1 b1 p
       rw [←CO hlt] at hss hm
       refine CW.vc EY [0,1,4,5,6,7,9,11,12,13,14,15,25,32,34,35,36,37,40,79,1000019] (by kernel_rfl) ?_
       (repeat ((first | refine Vc.mk' ?_ | refine CW.CE EY 19 [0,1,4,5,6,7,9,11,12,13,14,15,25,32,34,35,36,37,40,79,1000019] [(5,14),(7,14),(11,14)] (by kernel_rfl) (by kernel_rfl) ?_ | skip);simp only [go_sem,Nat.reduceAdd,Nat.reduceLT,Nat.reduceEqDiff,B4 g,DN g,Ao gs,Eb,Jp,GF,hlt,UO,a1,b1,o0,o1,o2,q0,q1,q2,hil,hia,hib,hsl,EJ,Fy,Nat.mul_one,List.length_map,ab,c3,t1,t2,t5,t6,hv,hp,List.length_set,H7,hss]))
       refine .mk (k+1) ⟨hlt,hm, ?_⟩ (by omega) ((by refine BO.mk' [top,top+1,top+2] hcl (by simp) (by simp) rfl (AV ?_) ?_ ?_ <;> simp [Ax,Cd,Ad,Ag,BX,AD.nil,AD.cons,AF,AG,AM,Aw,AB,AH,AE.set,AE.refl,Sc.Ad (fun j hj=>AA hj) gs,Ds,Av hlt g.le]))
       intro y hy
       rw [CO hlt] at hy
       rcases List.mem_append.1 hy with hy | hy
       ·exact hok y hy
       ·rw [List.mem_singleton.1 hy];exact hlk
     ·have hk2:k=l.length:=by omega
      subst hk2
      have htl:l.take l.length=l:=List.take_length
      have hz:Zf R [] l=0:=by rw [hm,List.drop_eq_nil_of_le (Nat.le_refl _)];rfl
      have hsl:=kg l
      have hil:=WY R
      have hb25:List.take 25 ((NK R).map Value.bool)=(NK R).map Value.bool:=Oj hil
      have e:DS R l=0:=by rw [hE,hz]
      have hEd:=oP (Fb hz)
      have hNd:=ng R
      simp only [Sw e]
      refine CW.vc EY [0,1,4,5,6,7,9,11,12,13,14,15,25,32,34,35,36,37,40,79,1000019] (by kernel_rfl) ?_
      (repeat ((first | refine Vc.mk' ?_ | refine CW.CE EY 19 [0,1,4,5,6,7,9,11,12,13,14,15,25,32,34,35,36,37,40,79,1000019] [(5,14),(7,14),(11,14)] (by kernel_rfl) (by kernel_rfl) ?_ | skip);simp only [go_sem,reduceCtorEq,Nat.reduceAdd,Nat.reduceEqDiff,AAv,dU,UO,Nat.lt_irrefl,decide_false,htl,hsl,hil,hb25,uj,tc,HT,LL,List.length_map,zN,hEd,hNd]))
      (refine ⟨[top+3,top+4],by simp,by simp,by simp, ?_, ?_, ?_⟩ <;> simp [Ad,Ag,AD.nil,AD.cons,AQ,AM,Aw,Af,AB,AH,AE.set,AE.refl])
end Go.Proofs.Ytmppehipfpkepaa.Gr
