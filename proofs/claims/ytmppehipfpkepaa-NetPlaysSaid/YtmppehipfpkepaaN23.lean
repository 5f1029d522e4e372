/- The Bc: what lost leaves is a Bc; Stop. -/
import Derived.Test.YtmppehipfpkepaaN19
set_option linter.unusedVariables false
namespace Go.Proofs.Ytmppehipfpkepaa.Dm
open Go.Dm
set_option maxHeartbeats 16000000
set_option maxRecDepth 20000
def Ub (s:Ak):Ak:= {s with l:=C3 (Ay s) s.l}
def ed (n:Nat)(lv:Value)(s:Ak)(top:Nat):BC:=(Et n lv s top).2.1
theorem BW.lost {hp:Hp}{n top:Nat}{lv:Value}{s:Ak}(h:BW hp n lv s)(h8:n+7 < top)(lvs:Sc top lv):BW (hp.AZ (ed n lv s top)) n (N7 lv (C3 (Ay s) s.l)) (Ub s):=by
 have hA:=h.apart
 obtain ⟨A0,A1,A2,A3,A4,A5,A6,A7⟩:=hA
 have hkl:=Ug (p:=Ay s) (l:=s.l)
 have hn:=h.W.n
 have hdu:∀p∈Nk AP lv (C3 (Ay s) s.l),DQ p.1 lv→False:=fun p hp hA=>by
  rcases CT h.W.o with ⟨rfl,_⟩ | ⟨q,rfl,_⟩
  ·cases hp
  ·simp [Nk] at hp;subst hp;exact hA rfl
 have eU:ed n lv s top=(n+6,Bv s.last (N7 lv (C3 (Ay s) s.l))) :: (Nk AP lv (C3 (Ay s) s.l) ++ [(top,AO AJ (EM (Ay s) s.l))]):=rfl
 have off:∀j,DQ j lv→j≠top→j≠n+6→(hp.AZ (ed n lv s top)) j=hp j:=fun j h1 h2 h3=>by
  rw [eU]
  refine CG fun p hp=> ?_
  simp only [List.mem_cons,List.mem_append,List.not_mem_nil,or_false] at hp
  rcases hp with rfl | hp | rfl
  ·exact fun e=>h3 e.symm
  ·exact fun e=>hdu p hp (by rw [e];exact h1)
  ·exact fun e=>h2 e.symm
 have e6:(hp.AZ (ed n lv s top)) (n+6)=Bv s.last (N7 lv (C3 (Ay s) s.l)):=by
  rw [eU,Aa,CG,AB]
  intro p hp
  simp only [List.mem_append,List.mem_cons,List.not_mem_nil,or_false] at hp
  rcases hp with hp | rfl
  ·exact fun e=>hdu p hp (by rw [e];exact A6)
  ·exact fun e=>by simp only at e;omega
 refine ⟨(off _ A0 (by omega) (by omega)).trans h.h,(off _ A1 (by omega) (by omega)).trans h.L,(off _ A2 (by omega) (by omega)).trans h.C,(off _ A3 (by omega) (by omega)).trans h.S,(off _ A4 (by omega) (by omega)).trans h.P,(off _ A5 (by omega) (by omega)).trans h.M,h.pl,⟨e6, ?_,List.Pairwise.filter _ h.W.up,fun a ha=>h.W.tk a (List.mem_filter.1 ha).1,h.W.l0,h.W.l1,by show (C3 (Ay s) s.l).length≤1000000;omega⟩,fun hr=>(off _ (A7 hr) (by omega) (by omega)).trans (h.R hr),h.rn,h.T8,h.T7,h.RO,h.UN⟩
 show E0 AP _ (N7 lv (C3 (Ay s) s.l)) (C3 (Ay s) s.l)
 rcases CT h.W.o with ⟨rfl,hnil⟩ | ⟨q,rfl,hq⟩
 ·rw [hnil];exact .nil
 ·have hqt:q < top:=lvs
  have hq6:q≠n+6:=fun e=>A6 e.symm
  refine .Cy q _ ?_ (by omega)
  rw [eU]
  simp only [Nk,List.cons_append,List.nil_append,Aa,B6]
  rw [AH _ _ _ _ (by omega),AB];rfl
end Go.Proofs.Ytmppehipfpkepaa.Dm
/- The Bc: Stop. -/
set_option linter.unusedVariables false
namespace Go.Proofs.Ytmppehipfpkepaa.Dm
open Go.Dm
set_option maxHeartbeats 16000000
set_option maxRecDepth 20000
def IA (s:Ak)(a:Int):Int:=if NK s a=false then 2 else if D2 s a=true then 7 else 0
def GL (s:Ak)(a:Int):Ak:= {s with S:=Fs s.S a true s.sc,sc:=LD s.S a s.sc}
def Ep (n:Nat)(lv:Value)(s:Ak)(a:Int)(top:Nat):Value×BC×Nat:=
 if IA s a=0 then (.tuple ⟨[AK top (EM (Ay (GL s a)) s.l), .int .i64 0]⟩,(n+3,some (.map (Br (GL s a).S) (GL s a).sc)) :: (Et n lv (GL s a) top).2.1,top+1)
 else (.tuple ⟨[.slice none 0 0, .int .i64 (IA s a)]⟩, [],top)
noncomputable def Rt:Bp:= .det (fun args hp _=>match args with | [.pointer (some ⟨n,0,none⟩),a]=>F2 hp n∧EO .i64 a | _=>False) (fun args hp top=>match args with
 | [.pointer (some ⟨n,_,_⟩),a]=>Ep n (Wn hp n) (Im hp n) (intOf a) top | _=>(undef, [],top))
theorem uM:BK Try.prog 17 Rt:=by
 refine .Cc X5 ?_
 intro args hp top hpre hcl hsc
 match args,hpre with
 | [.pointer (some ⟨n,0,none⟩),a],⟨⟨lv,s,h⟩,ha⟩=>
 rw [ha]
 generalize intOf a=a
 simp only [h.s,h.v,BA]
 have hlow:=h.low hcl
 have n0:n < top:=by omega
 have n3:n+3 < top:=by omega
 have hh:=h.h
 have hS:=h.S
 have his:=h.is
 have rP:Dp Ab hp (AK (n+7) s.R)=True:=h.sR.P
 have rR:Ab.rd hp (AK (n+7) s.R)=s.R:=h.sR.rd
 refine AL.Au BE X5 rfl 31 rfl [.tmp 4, .tmp 5] rfl (show 2≤31 by decide) ?_
 cases c1:NK s a with
 |false=>
  have c1':s.R.any (GR a)=false:=c1
  have e:IA s a=2:=by unfold IA;rw [if_pos c1]
  refine CW.vc K4 [0,1,4,5,6,9,17] (by kernel_rfl) ?_
  (repeat ((try refine Vc.mk' ?_);simp only [go_sem,Nat.reduceAdd,hh,Bi,Kc,Ba,his,Vm,HV,rP,rR,c1']))
  simp only [e,Ep]
  (refine ⟨[],by simp,by simp,by simp, ?_, ?_, ?_⟩ <;> simp [Ad,Ag,AD.nil,AE.refl])
 |true=>
 have c1':s.R.any (GR a)=true:=c1
 cases c2:D2 s a with
 |true=>
  have c2':(BV s.S a).getD default=true:=c2
  have e:IA s a=7:=by unfold IA;rw [if_neg (by rw [c1];simp),if_pos c2]
  refine CW.vc K4 [0,1,4,5,6,9,17] (by kernel_rfl) ?_
  (repeat ((try refine Vc.mk' ?_);simp only [go_sem,Nat.reduceAdd,Nat.reduceLT,hh,Bi,hS,Kc,Ba,his,Vm,HV,rP,rR,c1',c2']))
  simp only [e,Ep]
  (refine ⟨[],by simp,by simp,by simp, ?_, ?_, ?_⟩ <;> simp [Ad,Ag,AD.nil,AE.refl])
 |false=>
  have c2':(BV s.S a).getD default=false:=c2
  have e:IA s a=0:=by unfold IA;rw [if_neg (by rw [c1];simp),if_neg (by rw [c2];simp)]
  have hN:BW (hp.set (n+3) (some (.map (Br (Fs s.S a true s.sc)) (LD s.S a s.sc)))) n lv (GL s a):=h.fi _ _
  have hNs:=hN.s
  have hNv:=hN.v
  have hNi:=hN.is
  refine CW.vc K4 [0,1,4,5,6,9,17] (by kernel_rfl) ?_
  (repeat ((try refine Vc.mk' ?_);simp only [go_sem,Nat.reduceAdd,Nat.reduceLT,hh,Bi,hS,Kc,Ba,his,Vm,HV,rP,rR,Yu,PC,c1',c2',hNs,hNv,hNi,Et]))
  have m3:¬top=n+3:=by omega
  have m6:¬top=n+6:=by omega
  have r3:¬n+3=top:=by omega
  have r6:¬n+6=top:=by omega
  have d36:¬n+3=n+6:=by omega
  have d63:¬n+6=n+3:=by omega
  have n6:n+6 < top:=by omega
  have w6:=h.W.h
  have lvs:=h.W.low hcl
  have el:(GL s a).l=s.l:=rfl
  have eL:(GL s a).last=s.last:=rfl
  have eC:(GL s a).S=Fs s.S a true s.sc:=rfl
  have ec:(GL s a).sc=LD s.S a s.sc:=rfl
  rcases CT h.W.o with ⟨rfl,hnil⟩ | ⟨q,rfl,hq⟩
  ·simp only [Ep,e,if_true,Et,N7,Nk,List.nil_append,el,eL,eC,ec]
   (refine ⟨[top],by simp,by simp,by simp, ?_, ?_, ?_⟩ <;> simp [Ad,Ag,AD.nil,AD.cons,AF,AG,BZ,AQ,AM,Af,AB,AH,Aa,B6,AE.set,AE.B5,AE.refl,C9,Bv,AA n3,AA n6,r3,r6])
  ·have hqt:q < top:=lvs
   have hqc:¬q=n+6:=fun e=>by rw [e,w6] at hq;exact absurd (EB hq) (by decide)
   have hcq:¬n+6=q:=fun e=>hqc e.symm
   have hq3:¬q=n+3:=fun e=>by rw [e,hS] at hq;cases hq
   have h3q:¬n+3=q:=fun e=>hq3 e.symm
   have a1:¬top=q:=by omega
   have b1:¬q=top:=by omega
   simp only [Ep,e,if_true,Et,N7,Nk,List.cons_append,List.nil_append,el,eL,eC,ec]
   (refine ⟨[top],by simp,by simp,by simp, ?_, ?_, ?_⟩ <;> simp [Ad,Ag,AD.nil,AD.cons,AF,AG,BZ,AQ,AM,Af,Bn.BN,AB,AH,Aa,B6,AE.set,AE.B5,AE.refl,C9,Bv,Df,Dv,AA n3,AA n6,AA hqt,r3,r6,hqc,hcq,hq3,h3q,b1,Bn.BN])
end Go.Proofs.Ytmppehipfpkepaa.Dm
/- The Bc: what Cut and Stop leave is a Bc. -/
set_option linter.unusedVariables false
namespace Go.Proofs.Ytmppehipfpkepaa.Dm
open Go.Dm
set_option maxHeartbeats 8000000
def ZP (s:Ak)(a b:Int):Ak:=if Ma s a b=0 then Ub (KF s a b) else s
def Qx (s:Ak)(a:Int):Ak:=if IA s a=0 then Ub (GL s a) else s
def UF (lv:Value)(s:Ak)(a b:Int):Value:=if Ma s a b=0 then N7 lv (Ub (KF s a b)).l else lv
def NS (lv:Value)(s:Ak)(a:Int):Value:=if IA s a=0 then N7 lv (Ub (GL s a)).l else lv
theorem BW.cut {hp:Hp}{n top:Nat}{lv:Value}{s:Ak}(h:BW hp n lv s)(h8:n+7 < top)(lvs:Sc top lv)(a b:Int):BW (hp.AZ (GG n lv s a b top).2.1) n (UF lv s a b) (ZP s a b):=by
 unfold GG ZP UF
 split
 ·exact (h.jK (KF s a b).C (KF s a b).cc).lost h8 lvs
 ·exact h
theorem BW.stop {hp:Hp}{n top:Nat}{lv:Value}{s:Ak}(h:BW hp n lv s)(h8:n+7 < top)(lvs:Sc top lv)(a:Int):BW (hp.AZ (Ep n lv s a top).2.1) n (NS lv s a) (Qx s a):=by
 unfold Ep Qx NS
 split
 ·exact (h.fi (GL s a).S (GL s a).sc).lost h8 lvs
 ·exact h
end Go.Proofs.Ytmppehipfpkepaa.Dm
/- NetCounts: its own counter. -/
set_option linter.unusedVariables false
namespace Go.Proofs.Ytmppehipfpkepaa.Dm
open Go.Dm
set_option maxHeartbeats 16000000
set_option maxRecDepth 20000
def cx (x:Ae):Nat:=((x.Bytes[0]?).getD 0).toNat
def dE (g:List Int)(x:Ae):List Int:=g.set (cx x) (BQ .i64 (Aj g (cx x)+1))
def aC (g:List Int)(l:List Ae):List Int:=l.foldl dE g
theorem Yx:∀(l:List Ae) (g:List Int),(aC g l).length=g.length
 | [],_=>rfl
 |x :: l,g=>by unfold aC;rw [List.foldl_cons];exact (Yx l (dE g x)).trans (by unfold dE;rw [List.length_set])
end Go.Proofs.Ytmppehipfpkepaa.Dm
