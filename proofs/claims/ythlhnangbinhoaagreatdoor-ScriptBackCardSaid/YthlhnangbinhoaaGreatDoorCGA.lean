/- The graph package: what may be; the graph of a square of costs. -/
import Derived.Test.YthlhnangbinhoaaGreatDoorDmK
set_option linter.unusedSimpArgs false
set_option linter.unusedVariables false
namespace Go.Proofs.YthlhnangbinhoaaGreatDoor.Gr
open Go.Dm Go.Proofs.YthlhnangbinhoaaGreatDoor.Dm
set_option maxHeartbeats 4000000
theorem KY {a b:Bool}(h:a=true ↔ b=true):Value.bool a=Value.bool b:=by rw [Bool.eq_iff_iff.2 h]
theorem drop_at {α:Type}[Inhabited α]{l:List α}{k:Nat}(h:k < l.length):l.drop k=at' l k :: l.drop (k+1):=by rw [Cb _ _ h];exact List.drop_eq_getElem_cons h
theorem DV {α:Type}[Inhabited α]{l:List α}{k:Nat}(h:k < l.length):l.take (k+1)=l.take k ++ [at' l k]:=by rw [Cb _ _ h];exact List.take_succ_eq_append_getElem h
def G0:FuncId→Bz:=fun _=> .none
theorem Ss:DU Tryz.prog tt.get G0:=⟨Bu,fun _=>trivial⟩
def Ci (a:Int):Bool:=decide (1≤a) && decide (a≤24)
def RL (a:Int):Bool:=decide (1≤a) && decide (a≤1000)
def Ir (f:Int→Bool):Bz:= .pure (fun args _=>match args with | [x]=>Iy .i64 x | _=>False) (fun args _=>match args with | [x]=> .bool (f (intOf x)) | _=>undef)
theorem cM:BR Tryz.prog 126 (Ir Ci):=by
 refine .mkPure R0 ?_
 intro args hp hpre top
 match args,hpre with
 | [x],hx=>
 rw [hx]
 refine Ae.Bn Bu R0 rfl 9 rfl [.tmp 2] rfl (show 1≤9 by decide) ?_
 refine CW.vc Ss [0,2] (by kernel_rfl) ?_
 (repeat ((try refine Vc.mk' ?_);simp only [go_sem]))
 refine KY ?_
 simp [Ci];try omega
theorem pz:BR Tryz.prog 127 (Ir RL):=by
 refine .mkPure RI ?_
 intro args hp hpre top
 match args,hpre with
 | [x],hx=>
 rw [hx]
 refine Ae.Bn Bu RI rfl 9 rfl [.tmp 2] rfl (show 1≤9 by decide) ?_
 refine CW.vc Ss [0,2] (by kernel_rfl) ?_
 (repeat ((try refine Vc.mk' ?_);simp only [go_sem]))
 refine KY ?_
 simp [RL];try omega
theorem Z1:BR Tryz.prog 69 (Ir Ci):=by
 refine .mkPure Uv ?_
 intro args hp hpre top
 match args,hpre with
 | [x],hx=>
 rw [hx]
 refine Ae.Bn Bu Uv rfl 9 rfl [.tmp 2] rfl (show 1≤9 by decide) ?_
 refine CW.vc Ss [0,2] (by kernel_rfl) ?_
 (repeat ((try refine Vc.mk' ?_);simp only [go_sem]))
 refine KY ?_
 simp [Ci];try omega
def G1:=Cx (Cx (Cx G0 126 (Ir Ci)) 127 (Ir RL)) 69 (Ir Ci)
theorem QE:DU Tryz.prog tt.get G1:=((Ss.add cM).add pz).add Z1
set_option maxHeartbeats 4000000
theorem I9 {ρ:Nat→Nat}{l:List Value}:Av ρ (.agg ⟨l⟩)= .agg ⟨DA ρ l⟩:=rfl
def cS (s:List Int)(a b:Nat):Int:=(s[a * 25+b]?).getD 0
def iS (is:List Bool)(a:Nat):Bool:=(is[a]?).getD false
def OK (s:List Int)(a b:Nat):List Ds:=if 0 < cS s a b∧0 < cS s b a then [⟨(a:Int),(b:Int),cS s a b⟩] else []
def Pa (s:List Int)(a b:Nat):List Ds:=(List.range b).flatMap fun j=>OK s a j
def Fo (is:List Bool)(a:Nat):List Int:=((List.range a).filter (iS is)).map fun (i:Nat)=>(i:Int)
def Gv (s:List Int)(is:List Bool)(a:Nat):List Ds:=(List.range a).flatMap fun i=>if iS is i then Pa s i 25 else []
theorem Zv (is:List Bool)(a:Nat):(Fo is a).length≤a:=by
 unfold Fo
 rw [List.length_map]
 exact Nat.le_trans (List.length_filter_le ..) (by simp)
theorem cN (s:List Int)(a b:Nat):(OK s a b).length≤1:=by unfold OK;split <;> simp
theorem Tx (s:List Int)(a b:Nat):Pa s a (b+1)=Pa s a b ++ OK s a b:=by simp [Pa,List.range_succ]
theorem Q3 (s:List Int)(a:Nat):∀b,(Pa s a b).length≤b
 |0=>by simp [Pa]
 |b+1=>by
  have:=Q3 s a b
  have h2:=cN s a b
  rw [Tx,List.length_append];omega
theorem Lg (s:List Int)(is:List Bool)(a:Nat):Gv s is (a+1)=Gv s is a ++ (if iS is a then Pa s a 25 else []):=by simp [Gv,List.range_succ]
theorem Re (s:List Int)(is:List Bool):∀a,(Gv s is a).length≤a * 25
 |0=>by simp [Gv]
 |a+1=>by
  have:=Re s is a
  have h2:=Q3 s a 25
  rw [Lg,List.length_append,Nat.succ_mul]
  split
  ·omega
  ·simp;omega
theorem MB (is:List Bool)(a:Nat):Fo is (a+1)=Fo is a ++ (if iS is a then [(a:Int)] else []):=by
 unfold Fo
 rw [List.range_succ,List.filter_append,List.map_append]
 cases h:iS is a <;> simp [h]
def qj (hp:Hp)(b:Nat):List Int:=match hp b with
 |some (.cells _ _ vs)=>vs.map intOf
 |_=> []
def pj (hp:Hp)(b:Nat):Prop:=match hp b with
 |some (.cells _ _ vs)=>vs=(vs.map intOf).map (Value.int .i64)∧vs.length=625
 |_=>False
theorem pI {hp:Hp}{b:Nat}(h:pj hp b):∃rw z s,hp b=some (.cells rw z (s.map (Value.int .i64)))∧s.length=625∧qj hp b=s:=by
 unfold pj at h
 split at h
 ·rename_i rw z vs hb
  refine ⟨rw,z,vs.map intOf,by rw [hb,←h.1],by simpa using h.2,by unfold qj;rw [hb]⟩
 ·exact h.elim
theorem cI (l:List Int):(l.map (Value.int .i64)).map intOf=l:=by rw [List.map_map];exact (List.map_congr_left (fun _ _=>rfl)).trans (List.map_id l)
theorem R4 (l:List Bool):(l.map Value.bool).map CH=l:=by rw [List.map_map];exact (List.map_congr_left (fun _ _=>rfl)).trans (List.map_id l)
def uT (nodes:List Int)(edges:List Ds)(top:Nat):Value×BV×Nat:=(.agg ⟨[AA top nodes,AA (top+1) edges]⟩, [(top,AE Ad nodes),(top+1,AE Bh edges)],top+2)
def HB:Bz:= .det (fun args hp _=>match args with | [.pointer (some ⟨b,0,none⟩), .agg ⟨cs⟩]=>pj hp b∧cs=(cs.map CH).map Value.bool∧cs.length=25 | _=>False) (fun args hp top=>match args with
 | [.pointer (some ⟨b,0,none⟩), .agg ⟨cs⟩]=>uT (Fo (cs.map CH) 25) (Gv (qj hp b) (cs.map CH) 25) top
 |_=>(undef, [],top))
def stS (hp:Hp)(top b:Nat)(s:List Int)(is:List Bool)(a:Nat):SS:=
 ⟨[(0, .pointer (some ⟨b,0,none⟩),true),(4, .pointer (some ⟨top,0,none⟩),true),(5, .pointer (some ⟨top+1,0,none⟩),true),(9, .agg ⟨is.map Value.bool⟩,true),(10, .int .i64 (a:Int),true)],
  hp.A6 [(top,some (.cells true 0 [.slice none 0 0, .slice none 0 0])),(top+1,some (.cells true 0 [AA (top+2) (Fo is a),AA (top+3) (Gv s is a)])),(top+2,AE Ad (Fo is a)),(top+3,AE Bh (Gv s is a))],top+4⟩
def stT (hp:Hp)(top b:Nat)(s:List Int)(is:List Bool)(a j:Nat):SS:=
 ⟨[(0, .pointer (some ⟨b,0,none⟩),true),(4, .pointer (some ⟨top,0,none⟩),true),(5, .pointer (some ⟨top+1,0,none⟩),true),(6, .int .i64 (a:Int),true),(9, .agg ⟨is.map Value.bool⟩,true),(10, .int .i64 (a:Int),true),(22, .int .i64 (j:Int),true)],
  hp.A6 [(top,some (.cells true 0 [.slice none 0 0, .slice none 0 0])),(top+1,some (.cells true 0 [AA (top+2) (Fo is (a+1)),AA (top+3) (Gv s is a ++ Pa s a j)])),(top+2,AE Ad (Fo is (a+1))),(top+3,AE Bh (Gv s is a ++ Pa s a j))],top+4⟩
theorem zB:BR Tryz.prog 128 HB:=by
 refine .Jq RB ?_
 intro args hp top hpre hcl hsc
 match args,hpre with
 | [.pointer (some ⟨b,0,none⟩), .agg ⟨cs⟩],⟨h1,h2,h3⟩=>
 obtain ⟨rw_,z,s,hb,hsl,hso⟩:=pI h1
 generalize hi:cs.map CH=is at h2
 have his:is.length=25:=by rw [←hi];simpa using h3
 subst h2
 simp only [hso,R4]
 have hbt:=hcl.lt _ _ hb
 have htk:List.take 25 (is.map Value.bool)=is.map Value.bool:=NP his
 have hdr:List.drop 25 (is.map Value.bool)= []:=Vb his
 have one:A9 (is.map Value.bool)=true:=ew
 refine Ae.Bn Bu RB rfl 61 rfl [.cell 4 185] rfl (show 2≤61 by decide) ?_
 refine CW.vc QE [0,1,3,4,5,6,7,8,9,10,11,15,22,23,42] (by kernel_rfl) ?_
 (repeat ((try refine Vc.mk' ?_);simp only [go_sem,hb,AG hbt,Nat.mul_one,Du,CX,his,hsl,List.length_map,I9,one,htk,hdr]))
 refine CW.D9 (stS hp top b s is) (fun a=>a≤25) (fun a=>25 - a) 0 (Nat.zero_le _) ?_ ?_
 ·exact (by refine Bj.mk' [top+1,top+2,top+3,top+4] hcl (by simp) (by simp) rfl (Ac ?_) ?_ ?_ <;> simp [AB hbt,DH,Fo,Gv,J1,OG])
 ·intro a ha
  have hnl:=Zv is a
  have hel:=Re s is a
  by_cases hlt:a < 25
  ·have hlt2:(a:Int) < 25:=by omega
   have hla:Fo is (a+1)=Fo is a ++ (if iS is a then [(a:Int)] else []):=MB is a
   have hw:Ar .i64 ((a:Int)+1)=((a+1:Nat):Int):=B0 hlt (by decide)
   have hn16:(Fo is a).length < 16777216:=by omega
   cases hia:iS is a with
   |false=>
    have hia2:=hia
    unfold iS at hia2
    refine CW.vc QE [0,1,3,4,5,6,7,8,9,10,11,15,22,23,42] (by kernel_rfl) ?_
    (repeat ((try refine Vc.mk' ?_);simp only [go_sem,hb,AG hbt,Nat.mul_one,Du,CX,his,hsl,List.length_map,I9,stS,hlt,hlt2,hia2]))
    refine .mk (a+1) hlt (by omega) ((by refine Bj.mk' [top,top+1,top+2,top+3] hcl (by simp) (by simp) rfl (Ac ?_) ?_ ?_ <;> simp [AB hbt,DH,hw,MB,Lg,hia]))
   |true=>
    have hia2:=hia
    unfold iS at hia2
    refine CW.vc QE [0,1,3,4,5,6,7,8,9,10,11,15,22,23,42] (by kernel_rfl) ?_
    (repeat ((try refine Vc.mk' ?_);simp only [go_sem,hb,AG hbt,Nat.mul_one,Du,CX,his,hsl,List.length_map,I9,stS,hlt,hlt2,hia2,hn16]))
    refine CW.D9 (stT hp top b s is a) (fun j=>j≤25) (fun j=>25 - j) 0 (Nat.zero_le _) ?_ ?_
    ·exact (by refine Bj.mk' [top,top+1,top+5,top+3] hcl (by simp) (by simp) rfl (Ac ?_) ?_ ?_ <;> simp [AB hbt,DH,MB,hia,Pa])
    ·intro j hj
     have hrl:=Q3 s a j
     by_cases hjl:j < 25
     ·have hjl2:(j:Int) < 25:=by omega
      have hw2:Ar .i64 ((j:Int)+1)=((j+1:Nat):Int):=B0 hjl (by decide)
      have i1:a * 25+j < 625:=by omega
      have i2:j * 25+a < 625:=by omega
      have h16:(Gv s is a ++ Pa s a j).length < 16777216:=by rw [List.length_append];omega
      have c1:(s[a * 25+j]?).getD 0=cS s a j:=rfl
      have c2:(s[j * 25+a]?).getD 0=cS s j a:=rfl
      have hrs:=Tx s a j
      by_cases hc:0 < cS s a j∧0 < cS s j a
      ·have he:OK s a j= [⟨(a:Int),(j:Int),cS s a j⟩]:=by unfold OK;rw [if_pos hc]
       rw [he] at hrs
       refine CW.vc QE [0,1,3,4,5,6,7,8,9,10,11,15,22,23,42] (by kernel_rfl) ?_
       (repeat ((try refine Vc.mk' ?_);simp only [go_sem,hb,AG hbt,Nat.mul_one,Du,CX,his,hsl,List.length_map,I9,stT,hlt,hlt2,hjl,hjl2,i1,i2,c1,c2,hc.1,hc.2,h16]))
       refine .mk (j+1) hjl (by omega) ((by refine Bj.mk' [top,top+1,top+2,top+5] hcl (by simp) (by simp) rfl (Ac ?_) ?_ ?_ <;> simp [AB hbt,DH,hw2,hrs]))
      ·have he:OK s a j= []:=by unfold OK;rw [if_neg hc]
       rw [he,List.append_nil] at hrs
       by_cases hc1:0 < cS s a j
       ·have hc2:¬0 < cS s j a:=fun h=>hc ⟨hc1,h⟩
        refine CW.vc QE [0,1,3,4,5,6,7,8,9,10,11,15,22,23,42] (by kernel_rfl) ?_
        (repeat ((try refine Vc.mk' ?_);simp only [go_sem,hb,AG hbt,Nat.mul_one,Du,CX,his,hsl,List.length_map,I9,stT,hlt,hlt2,hjl,hjl2,i1,i2,c1,c2,hc1,hc2,h16]))
        refine .mk (j+1) hjl (by omega) ((by refine Bj.mk' [top,top+1,top+2,top+3] hcl (by simp) (by simp) rfl (Ac ?_) ?_ ?_ <;> simp [AB hbt,DH,hw2,hrs]))
       ·refine CW.vc QE [0,1,3,4,5,6,7,8,9,10,11,15,22,23,42] (by kernel_rfl) ?_
        (repeat ((try refine Vc.mk' ?_);simp only [go_sem,hb,AG hbt,Nat.mul_one,Du,CX,his,hsl,List.length_map,I9,stT,hlt,hlt2,hjl,hjl2,i1,i2,c1,c2,hc1,h16]))
        refine .mk (j+1) hjl (by omega) ((by refine Bj.mk' [top,top+1,top+2,top+3] hcl (by simp) (by simp) rfl (Ac ?_) ?_ ?_ <;> simp [AB hbt,DH,hw2,hrs]))
     ·have hj2:j=25:=by omega
      subst hj2
      have hed:=Lg s is a
      rw [hia,if_pos rfl] at hed
      refine CW.vc QE [0,1,3,4,5,6,7,8,9,10,11,15,22,23,42] (by kernel_rfl) ?_
      (repeat ((try refine Vc.mk' ?_);simp only [go_sem,hb,AG hbt,Nat.mul_one,Du,CX,his,hsl,List.length_map,I9,stT,hlt,hlt2,Int.cast_ofNat_Int]))
      refine .mk (a+1) hlt (by omega) ((by refine Bj.mk' [top,top+1,top+2,top+3] hcl (by simp) (by simp) rfl (Ac ?_) ?_ ?_ <;> simp [AB hbt,DH,hw,hed]))
  ·have ha2:a=25:=by omega
   subst ha2
   refine CW.vc QE [0,1,3,4,5,6,7,8,9,10,11,15,22,23,42] (by kernel_rfl) ?_
   (repeat ((try refine Vc.mk' ?_);simp only [go_sem,hb,AG hbt,Nat.mul_one,Du,CX,his,hsl,List.length_map,I9,stS,Int.cast_ofNat_Int]))
   simp only [uT]
   (refine ⟨[top+2,top+3],by simp,by simp,by simp, ?_, ?_, ?_⟩ <;> simp [])
def G5:=Cx G1 128 HB
theorem GU:DU Tryz.prog tt.get G5:=QE.add zB
theorem Mt {α:Type}{p q:α→Bool}:∀ {l:List α},(∀a∈l,p a=q a)→l.filter p=l.filter q
 | [],_=>rfl
 |a :: l,h=>by
  have:=Mt (l:=l) fun b hb=>h b (List.mem_cons_of_mem _ hb)
  simp only [List.filter_cons,h a (List.mem_cons_self ..),this]
theorem Ie {α β:Type}{f g:α→List β}:∀ {l:List α},(∀a∈l,f a=g a)→l.flatMap f=l.flatMap g
 | [],_=>rfl
 |a :: l,h=>by rw [List.flatMap_cons,List.flatMap_cons,h a (List.mem_cons_self ..),Ie fun b hb=>h b (List.mem_cons_of_mem _ hb)]
theorem S5 {α:Type}{f g:Nat→α}{n i:Nat}{v:α}(hi:g i=v)(h:∀j,j < n→j≠i→g j=f j):((List.range n).map f).set i v=(List.range n).map g:=by
 apply List.ext_getElem?
 intro j
 rw [List.getElem?_set]
 by_cases e:i=j
 ·subst e
  rw [if_pos rfl]
  by_cases hl:i < n
  ·simp [hl,hi]
  ·simp [hl]
 ·rw [if_neg e]
  by_cases hl:j < n
  ·simp [hl,h j hl (fun e'=>e e'.symm)]
  ·simp [hl]
end Go.Proofs.YthlhnangbinhoaaGreatDoor.Gr
