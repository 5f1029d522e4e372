/- The same messages? told. -/
import Derived.Test.YtmppehipfpkepaaNPL4
set_option linter.unusedVariables false
namespace Go.Proofs.Ytmppehipfpkepaa.Dm
open Go.Dm
set_option maxHeartbeats 16000000
set_option maxRecDepth 20000
theorem Yn {xo yo:Operand}{x y:Ae}:DI tt.get .neq 37 xo yo (.agg ⟨[.int .i64 x.B2, .int .i64 x.To, .string ⟨⟨x.Bytes⟩⟩]⟩) (.agg ⟨[.int .i64 y.B2, .int .i64 y.To, .string ⟨⟨y.Bytes⟩⟩]⟩)=(.bool (!decide (x=y)),True):=sm
theorem lL:BK Try.prog 76 (Gr.NX AJ):=by
 refine .Gx V5 ?_ ?_
 ·intro args hp h
  match args,h with
  | [u,v],_=>rfl
 intro args hp hpre top hcl hsc
 match args,hpre with
 | [u,v],⟨⟨l,h⟩,⟨m,g⟩⟩=>
 have hs:=h.low hcl
 have gs:=g.low hcl
 simp only [h.rd,g.rd]
 refine AL.Au BE V5 rfl 26 rfl [.tmp 4] rfl (show 2≤26 by decide) ?_
 by_cases hl:l.length=m.length
 ·have hl2:(l.length:Int)=(m.length:Int):=by omega
  refine CW.vc MG [0,1,4,5,10,14,25] (by kernel_rfl) ?_
  (repeat ((try refine Vc.mk' ?_);simp only [go_sem,Cx h,Cx g,hl2]))
  refine CW.CZ (Gr.bC hp top u v) (fun i=>i≤l.length∧l.take i=m.take i) (fun i=>l.length - i) 0 ⟨Nat.zero_le _,rfl⟩ ?_ ?_
  ·exact (by refine BO.mk' [] hcl (by simp) (by simp) rfl (AV ?_) ?_ ?_ <;> simp [Ax,Cd,Ad,AD.nil,AE.refl,Sc.Ad (fun j hj=>AA hj) hs,Sc.Ad (fun j hj=>AA hj) gs])
  ·rintro i ⟨hi,hm⟩
   by_cases hlt:i < l.length
   ·have hlm:i < m.length:=by omega
    have he:=Gr.Rr hl hlt hm
    by_cases c:Aj l i=Aj m i
    ·refine CW.vc MG [0,1,4,5,10,14,25] (by kernel_rfl) ?_
     (repeat ((try refine Vc.mk' ?_);simp only [go_sem,Cx h,GN h,Je h,GN g,Je g,Yn,EW,hlt,hlm,Gr.bC,c]))
     exact .mk (i+1) ⟨hlt,he.2 c⟩ (by omega) ((by refine BO.mk' [] hcl (by simp) (by simp) rfl (AV ?_) ?_ ?_ <;> simp [Ax,Cd,Ad,AD.nil,AE.refl,Sc.Ad (fun j hj=>AA hj) hs,Sc.Ad (fun j hj=>AA hj) gs,Av hlt h.le]))
    ·refine CW.vc MG [0,1,4,5,10,14,25] (by kernel_rfl) ?_
     (repeat ((try refine Vc.mk' ?_);simp only [go_sem,Cx h,GN h,Je h,GN g,Je g,Yn,EW,hlt,hlm,Gr.bC,c]))
     simp [Gr.PU c]
   ·have hi2:i=l.length:=by omega
    subst hi2
    refine CW.vc MG [0,1,4,5,10,14,25] (by kernel_rfl) ?_
    (repeat ((try refine Vc.mk' ?_);simp only [go_sem,Cx h,Gr.bC,Nat.lt_irrefl,decide_false]))
    rw [List.take_length,hl,List.take_length] at hm
    simp [hm]
 ·have hl2:¬(l.length:Int)=(m.length:Int):=by omega
  refine CW.vc MG [0,1,4,5,10,14,25] (by kernel_rfl) ?_
  (repeat ((try refine Vc.mk' ?_);simp only [go_sem,Cx h,Cx g,hl2]))
  simp [Gr.Vf hl]
noncomputable def G37:FuncId→Bp:=Bu G36 76 (Gr.NX AJ)
theorem S6:Cf Try.prog tt.get G37:=MG.add lL
theorem Z9:G37 76=Gr.NX AJ:=rfl
def zA:Ae:=⟨0,0, []⟩
def zk (l:List Ae)(i:Nat):List Ae:=List.replicate i zA ++ l.drop i
theorem og {l:List Ae}{i:Nat}(h:i≤l.length):(zk l i).length=l.length:=by unfold zk;simp;omega
theorem uk {l:List Ae}{i:Nat}(h:i < l.length):(zk l i).set i zA=zk l (i+1):=by
 unfold zk
 rw [List.set_append_right _ _ (by simp),List.length_replicate,Nat.sub_self,GU h,List.set_cons_zero,List.replicate_succ',List.append_assoc]
 rfl
theorem Kp {α:Type}{b:Nat}{l m:List α}(h:l.length=m.length):AK b l=AK b m:=by
 cases l with
 |nil=>cases m with
  |nil=>rfl
  |cons a m=>cases h
 |cons a l=>cases m with
  |nil=>cases h
  |cons c m=>simp only [List.length_cons,Nat.add_right_cancel_iff] at h;simp only [AK,h]
def Fw (v:Value):BC:=match v with
 | .slice (some ⟨b,_,_⟩) n _=> [(b,AO AJ (List.replicate n zA))]
 |_=> []
def yx (hp:Hp)(v:Value):Prop:= ∃b l,v=AK b l∧(l≠ []→hp b=AO AJ l)∧l.length≤1000000
theorem eY {hp:Hp}{b:Nat}{l:List Ae}(h:l≠ []→hp b=AO AJ l)(hl:l.length≤1000000):BU AJ hp (AK b l) l:=by
 by_cases c:l= []
 ·subst c;exact .nils
 ·exact .own (h c) (by omega)
def Mx:Bp:= .det (fun args hp _=>match args with | [v,w]=>yx hp v∧Dp AJ hp w | _=>False) (fun args hp top=>match args with
 | [v,w]=>(.bool (decide (AJ.rd hp v=AJ.rd hp w)),Fw v,top) | _=>(undef, [],top))
def xP (hp:Hp)(top b:Nat)(l:List Ae)(r:Bool)(i:Nat):SS:=⟨[(0,AK b l,true),(5, .bool r,true),(6, .int .i64 (i:Int),true)],hp.AZ [(b,AO AJ (zk l i))],top+0⟩
theorem vT:BK Try.prog 45 Mx:=by
 refine .Cc Xj ?_
 intro args hp top hpre hcl hsc
 match args,hpre with
 | [v,w],⟨⟨b,l,hv,hb,hl⟩,⟨m,g⟩⟩=>
 subst hv
 have h:BU AJ hp (AK b l) l:=eY hb hl
 have hs:=h.low hcl
 have gs:=g.low hcl
 simp only [h.rd,g.rd]
 have hP:Dp AJ hp (AK b l)=True:=h.P
 have hQ:AJ.rd hp (AK b l)=l:=h.rd
 have gP:Dp AJ hp w=True:=g.P
 have gQ:AJ.rd hp w=m:=g.rd
 refine AL.Au BE Xj rfl 21 rfl [.tmp 4] rfl (show 2≤21 by decide) ?_
 by_cases hne:l= []
 ·subst hne
  have e:AK b ([] :List Ae)= .slice none 0 0:=rfl
  rw [e]
  rw [e] at h hP hQ hs
  refine CW.vc S6 [0,1,4,5,6,13] (by kernel_rfl) ?_
  (repeat ((try refine Vc.mk' ?_);simp only [go_sem,h.P,h.rd,Z9,Gr.NX,gP,gQ]))
  refine CW.CZ (fun (i:Nat)=>(⟨[(0, .slice none 0 0,true),(5, .bool (decide ([] = m)),true),(6, .int .i64 (i:Int),true)],hp.AZ [],top+0⟩:SS)) (fun i=>i=0) (fun i=>0) 0 rfl ?_ ?_
  ·exact (by refine BO.mk' [] hcl (by simp) (by simp) rfl (AV ?_) ?_ ?_ <;> simp [Ax,Cd,Ad,AD.nil,AE.refl])
  ·rintro i rfl
   refine CW.vc S6 [0,1,4,5,6,13] (by kernel_rfl) ?_
   (repeat ((try refine Vc.mk' ?_);simp only [go_sem,Nat.reduceLT,Cx h]))
   (refine ⟨[],by simp,by simp,by simp, ?_, ?_, ?_⟩ <;> simp [Ad,AD.nil,AE.refl,Fw])
 ·replace hb:=hb hne
  have b0:b < top:=by
   cases l with
   |nil=>exact absurd rfl hne
   |cons a l=>exact hcl.lt _ _ hb
  have tU:Fw (AK b l)= [(b,AO AJ (zk l l.length))]:=by
   unfold Fw zk
   rw [List.drop_length,List.append_nil]
   cases l with
   |nil=>exact absurd rfl hne
   |cons a l=>rfl
  rw [tU]
  refine CW.vc S6 [0,1,4,5,6,13] (by kernel_rfl) ?_
  (repeat ((try refine Vc.mk' ?_);simp only [go_sem,h.P,h.rd,Z9,Gr.NX,gP,gQ]))
  have z0:zk l 0=l:=rfl
  refine CW.CZ (xP hp top b l (decide (l=m))) (fun i=>i≤l.length) (fun i=>l.length - i) 0 (Nat.zero_le _) ?_ ?_
  ·exact (by refine BO.mk' [] hcl (by simp) (by simp) rfl (AV ?_) ?_ ?_ <;> simp [Ax,Cd,Ad,AD.nil,AD.cons,AQ,AE.refl,AA b0,z0,hb,Sc.Ad (fun j hj=>AA hj) hs])
  ·intro i hi
   by_cases c1:i < l.length
   ·have stZ:∀ {h':Hp},h' b=AO AJ (zk l i)→Bg tt.get h' 37 (BM (AK b l) (i * 3)) (.agg ⟨[.int .i64 0, .int .i64 0, .string ⟨⟨[]⟩⟩]⟩)=([(b,AO AJ (zk l (i+1)))],True):=fun {h'} hz=>by
     have:=aZ hz (i:=i) (by rw [og hi];exact c1) (a0:=0) (a1:=0) (a2:= [])
     rw [Kp (og hi)] at this
     rw [this]
     rw [show (⟨0,0, []⟩:Ae)=zA from rfl,uk c1]
    refine CW.vc S6 [0,1,4,5,6,13] (by kernel_rfl) ?_
    (repeat ((try refine Vc.mk' ?_);simp only [go_sem,Cx h,GN h,xP,c1,stZ]))
    exact .mk (i+1) c1 (by omega) ((by refine BO.mk' [] hcl (by simp) (by simp) rfl (AV ?_) ?_ ?_ <;> simp [Ax,Cd,Ad,AD.nil,AD.cons,AQ,AB,AE.B5,AE.refl,AA b0,Sc.Ad (fun j hj=>AA hj) hs,Av c1 h.le]))
   ·have e:i=l.length:=by omega
    subst e
    refine CW.vc S6 [0,1,4,5,6,13] (by kernel_rfl) ?_
    (repeat ((try refine Vc.mk' ?_);simp only [go_sem,Cx h,xP,c1,decide_false]))
    (refine ⟨[],by simp,by simp,by simp, ?_, ?_, ?_⟩ <;> simp [Ad,AD.nil,AD.cons,AQ,AB,AE.B5,AE.refl,AA b0])
end Go.Proofs.Ytmppehipfpkepaa.Dm
/- own: a town in memory of its own. -/
set_option linter.unusedVariables false
namespace Go.Proofs.Ytmppehipfpkepaa.Dm
open Go.Dm
set_option maxHeartbeats 16000000
set_option maxRecDepth 20000
structure cw (hp:Hp) (r l u:Value):Prop where
 pr:Dp Ab hp r
 pl:Dp An hp l
 pu:Dp Ap hp u
 rr:DR (Ab.rd hp r).length Ph.bytes=true
 lr:DR (An.rd hp l).length ZY.bytes=true
 ur:DR (Ap.rd hp u).length Wu.bytes=true
def kF (R:List Int)(l:List AX)(u:List A8)(late:Value)(top:Nat):Value×BC×Nat:=(.agg ⟨[AK top R,AK (top+1) l,AK (top+2) u,late]⟩, [(top,AO Ab R),(top+1,AO An l),(top+2,AO Ap u)],top+3)
def WQ:Bp:= .det (fun args hp _=>match args with | [.agg ⟨[r,l,u, .int .i64 _]⟩]=>cw hp r l u | _=>False) (fun args hp top=>match args with
 | [.agg ⟨[r,l,u,late]⟩]=>kF (Ab.rd hp r) (An.rd hp l) (Ap.rd hp u) late top | _=>(undef, [],top))
theorem yL:BK Try.prog 20 WQ:=by
 refine .Cc WZ ?_
 intro args hp top hpre hcl hsc
 match args,hpre with
 | [.agg ⟨[r,l,u, .int .i64 late]⟩],T=>
 obtain ⟨R,hR⟩:=T.pr
 obtain ⟨ll,hL⟩:=T.pl
 obtain ⟨uu,hU⟩:=T.pu
 have rr:=T.rr
 have lr:=T.lr
 have ur:=T.ur
 rw [hR.rd] at rr
 rw [hL.rd] at lr
 rw [hU.rd] at ur
 have rs:=hR.low hcl
 have ls:=hL.low hcl
 have us:=hU.low hcl
 simp only [hR.rd,hL.rd,hU.rd]
 have ar1:∀ {h':Hp} {t:Nat},AE top [] h' hp→Ar tt.get h' t [40,40] (.slice none 0 0) r=some (AK t R, [(t,AO Ab R)],t+1):=fun {h'} {t} hk=>by
  have h:=hR.BT rs hk
  have:=pK (top:=t) ⟨_,h⟩ (by rw [h.rd];exact rr)
  rwa [h.rd] at this
 have ar2:∀ {h':Hp} {t:Nat},AE top [] h' hp→Ar tt.get h' t [50,50] (.slice none 0 0) l=some (AK t ll, [(t,AO An ll)],t+1):=fun {h'} {t} hk=>by
  have h:=hL.BT ls hk
  have:=gp (top:=t) ⟨_,h⟩ (by rw [h.rd];exact lr)
  rwa [h.rd] at this
 have ar3:∀ {h':Hp} {t:Nat},AE top [] h' hp→Ar tt.get h' t [39,39] (.slice none 0 0) u=some (AK t uu, [(t,AO Ap uu)],t+1):=fun {h'} {t} hk=>by
  have h:=hU.BT us hk
  have:=gq (top:=t) ⟨_,h⟩ (by rw [h.rd];exact ur)
  rwa [h.rd] at this
 refine AL.Au BE WZ rfl 21 rfl [.cell 2 52] rfl (show 1≤21 by decide) ?_
 refine CW.vc S6 [0,1,2,3,4,5,1000004] (by kernel_rfl) ?_
 (repeat ((first | refine Vc.mk' ?_ | refine CW.CE S6 4 [0,1,2,3,4,5,1000004] [(6,3),(10,3),(10,7),(13,3),(13,7),(13,11)] (by kernel_rfl) (by kernel_rfl) ?_ | skip);simp only [go_sem,reduceCtorEq,Nat.reduceAdd,Nat.reduceLeDiff,Nat.reduceEqDiff,ar1,ar2,ar3]))
 simp only [kF]
 (refine ⟨[top+2,top+3,top+4],by simp,by simp,by simp, ?_, ?_, ?_⟩ <;> simp [Ad,Ag,AD.nil,AD.cons,AQ,AM,Aw,Af,AB,AH,AE.set,AE.refl])
end Go.Proofs.Ytmppehipfpkepaa.Dm
/- The two nets in one memory. -/
set_option linter.unusedVariables false
namespace Go.Proofs.Ytmppehipfpkepaa.Dm
open Go.Dm
set_option maxHeartbeats 4000000
set_option maxRecDepth 20000
/-- the block of a slice -/
def LB (v:Value)(j:Nat):Prop:=match v with
 | .slice (some ⟨b,_,none⟩) _ _=>j=b
 |_=>False
def NB (n:Nat)(lv:Value)(j:Nat):Prop:=(n≤j∧j≤n+7)∨LB lv j
def RB (m:Nat)(v:Bh)(j:Nat):Prop:=j=m∨j=v.cb∨LB v.rv j∨LB v.lv j∨LB v.uv j∨LB v.wv j
theorem Js {α:Type}{E:Bn α}{hp hp':Hp}{v:Value}{l:List α}(h:BU E hp v l)(hk:∀j,LB v j→hp' j=hp j):BU E hp' v l:=by
 cases h with
 |nils=>exact .nils
 |emp=>exact .emp
 |rows b o c rw vs l hb hv ho hc hn=>exact .rows b o c rw vs l ((hk b rfl).trans hb) hv ho hc hn
theorem CD.off {hp hp':Hp}{m:Nat}{v:Bh}{t:As}(h:CD hp m v t)(hk:∀j,RB m v j→hp' j=hp j):CD hp' m v t:=
 ⟨(hk _ (.inl rfl)).trans h.h,Js h.R fun j hj=>hk j (.inr (.inr (.inl hj))),Js h.l fun j hj=>hk j (.inr (.inr (.inr (.inl hj)))),Js h.u fun j hj=>hk j (.inr (.inr (.inr (.inr (.inl hj))))),(hk _ (.inr (.inl rfl))).trans h.c,Js h.w fun j hj=>hk j (.inr (.inr (.inr (.inr (.inr hj))))),h.sl,h.kl,h.il,h.ll,h.ul,h.rl,h.lr,h.wl⟩
theorem BW.off {hp hp':Hp}{n:Nat}{lv:Value}{s:Ak}(h:BW hp n lv s)(hk:∀j,NB n lv j→hp' j=hp j):BW hp' n lv s:=by
 have k:∀j,n≤j→j≤n+7→hp' j=hp j:=fun j h1 h2=>hk j (.inl ⟨h1,h2⟩)
 refine ⟨(k _ (by omega) (by omega)).trans h.h,(k _ (by omega) (by omega)).trans h.L,(k _ (by omega) (by omega)).trans h.C,(k _ (by omega) (by omega)).trans h.S,(k _ (by omega) (by omega)).trans h.P,(k _ (by omega) (by omega)).trans h.M,h.pl,⟨(k _ (by omega) (by omega)).trans h.W.h,h.W.o.mono fun b _ c e=>hk b (.inr (by rw [e];rfl)),h.W.up,h.W.tk,h.W.l0,h.W.l1,h.W.n⟩,fun hr=>(k _ (by omega) (by omega)).trans (h.R hr),h.rn,h.T8,h.T7,h.RO,h.UN⟩
theorem ABp {hp:Hp}{top:Nat}{lv:Value}{l:List Ah}(o:E0 AP hp lv l)(h:Sc top lv){j:Nat}(hj:LB lv j):j < top:=by
 rcases CT o with ⟨rfl,_⟩ | ⟨q,rfl,_⟩
 ·cases hj
 ·have:j=q:=hj
  subst this;exact h
structure AU (F0:Hp) (base:Nat) (hp:Hp) (top n m:Nat) (lv:Value) (s:Ak) (v:Bh) (t:As):Prop where
 Bc:Gt hp n (n+8) hp top lv s
 ref:CD hp m v t
 sep:∀j,RB m v j→¬NB n lv j
 lt:∀j,RB m v j→j < top
 lo:∀j,RB m v j∨NB n lv j→base≤j
 kp:AE base [] hp F0
section
variable {F0:Hp} {base:Nat} {hp:Hp} {top n m:Nat} {lv:Value} {s:Ak} {v:Bh} {t:As}
theorem AU.qK (h:AU F0 base hp top n m lv s v t){j:Nat}(hj:NB n lv j):j < top:=by
 have:=h.Bc.tp
 rcases hj with hj | hj
 ·omega
 ·exact ABp h.Bc.Bc.W.o h.Bc.sc hj
theorem AU.bt (h:AU F0 base hp top n m lv s v t):base≤top:=Nat.le_trans (h.lo m (.inl (.inl rfl))) (Nat.le_of_lt (h.lt m (.inl rfl)))
/-- the Bc does something -/
theorem AU.VF (h:AU F0 base hp top n m lv s v t){us:BC}{lv':Value}{s':Ak}{top':Nat}(hM:Gt hp n (n+8) (hp.AZ us) top' lv' s')(hu:∀p∈us,NB n lv p.1∨top≤p.1)(hl:∀j,LB lv' j→LB lv j∨top≤j)(ht:top≤top'):AU F0 base (hp.AZ us) top' n m lv' s' v t:=by
 have off:∀j,RB m v j→(hp.AZ us) j=hp j:=fun j hj=>CG fun p hp e=>by
  have h1:=h.sep j hj
  have h2:=h.lt j hj
  rcases hu p hp with c | c
  ·exact h1 (e ▸ c)
  ·omega
 refine ⟨⟨fun _ _ _=>rfl,hM.nm,hM.tp,hM.Bc,hM.hi,hM.sc⟩,h.ref.off off,fun j hj hn=> ?_,fun j hj=>Nat.lt_of_lt_of_le (h.lt j hj) ht,fun j hj=> ?_,Eq.mpr (Fc fun p hp_=> ?_) h.kp⟩
 rcases hn with hn | hn
 ·exact h.sep j hj (.inl hn)
 ·rcases hl j hn with c | c
  ·exact h.sep j hj (.inr c)
  ·have:=h.lt j hj;omega
 ·rcases hj with hj | hj | hj
  ·exact h.lo j (.inl hj)
  ·exact h.lo j (.inr (.inl hj))
  ·rcases hl j hj with c | c
   ·exact h.lo j (.inr (.inr c))
   ·have:=h.bt;omega
 ·rcases hu p hp_ with c | c
  ·exact h.lo _ (.inr c)
  ·have:=h.bt;omega
/-- the document's Bc does something -/
theorem AU.we (h:AU F0 base hp top n m lv s v t){us:BC}{v':Bh}{t':As}{top':Nat}(hR:CD (hp.AZ us) m v' t')(hu:∀p∈us,p.1=m∨p.1=v.cb∨top≤p.1)(hv:∀j,RB m v' j→RB m v j∨(top≤j∧j < top'))(ht:top≤top'):AU F0 base (hp.AZ us) top' n m lv s v' t':=by
 have off:∀j,NB n lv j→(hp.AZ us) j=hp j:=fun j hj=>CG fun p hp e=>by
  rcases hu p hp with c | c | c
  ·exact h.sep m (.inl rfl) (by rw [←c,e];exact hj)
  ·exact h.sep v.cb (.inr (.inl rfl)) (by rw [←c,e];exact hj)
  ·have:=h.qK hj;omega
 refine ⟨⟨fun _ _ _=>rfl,h.Bc.nm,Nat.le_trans h.Bc.tp ht,h.Bc.Bc.off off,h.Bc.hi,MA h.Bc.Bc.W.o h.Bc.sc ht⟩,hR,fun j hj hn=> ?_,fun j hj=> ?_,fun j hj=> ?_,Eq.mpr (Fc fun p hp_=> ?_) h.kp⟩
 ·rcases hv j hj with c | c
  ·exact h.sep j c hn
  ·have:=h.qK hn;omega
 ·rcases hv j hj with c | c
  ·exact Nat.lt_of_lt_of_le (h.lt j c) ht
  ·exact c.2
 ·rcases hj with hj | hj
  ·rcases hv j hj with c | c
   ·exact h.lo j (.inl c)
   ·have:=h.bt;omega
  ·exact h.lo j (.inr hj)
 ·rcases hu p hp_ with c | c | c
  ·rw [c];exact h.lo _ (.inl (.inl rfl))
  ·rw [c];exact h.lo _ (.inl (.inr (.inl rfl)))
  ·have:=h.bt;omega
/-- other blocks are written -/
theorem AU.side (h:AU F0 base hp top n m lv s v t){us:BC}{top':Nat}(hu:∀p∈us,¬NB n lv p.1∧¬RB m v p.1)(hb:∀p∈us,base≤p.1)(ht:top≤top'):AU F0 base (hp.AZ us) top' n m lv s v t:=by
 have off1:∀j,NB n lv j→(hp.AZ us) j=hp j:=fun j hj=>CG fun p hp e=>(hu p hp).1 (e ▸ hj)
 have off2:∀j,RB m v j→(hp.AZ us) j=hp j:=fun j hj=>CG fun p hp e=>(hu p hp).2 (e ▸ hj)
 exact ⟨⟨fun _ _ _=>rfl,h.Bc.nm,Nat.le_trans h.Bc.tp ht,h.Bc.Bc.off off1,h.Bc.hi,MA h.Bc.Bc.W.o h.Bc.sc ht⟩,h.ref.off off2,h.sep,fun j hj=>Nat.lt_of_lt_of_le (h.lt j hj) ht,h.lo,by rw [Fc hb];exact h.kp⟩
theorem AU.new (h:AU F0 base hp top n m lv s v t)(o:Option BB):AU F0 base (hp.set top o) (top+1) n m lv s v t:=
 h.side (us:= [(top,o)]) (fun p hp=>by
  simp at hp;subst hp
  exact ⟨fun c=>Nat.lt_irrefl _ (h.qK c),fun c=>Nat.lt_irrefl _ (h.lt _ c)⟩) (fun p hp=>by simp at hp;subst hp;exact h.bt) (Nat.le_succ top)
theorem AU.Zm {us:BC}(hu:∀p∈us,NB n lv p.1∨top≤p.1){j:Nat}(h1:¬NB n lv j)(h2:j < top):(hp.AZ us) j=hp j:=CG fun p hp e=>by
 rcases hu p hp with c | c
 ·exact h1 (e ▸ c)
 ·omega
theorem AU.vw {us:BC}(hu:∀p∈us,RB m v p.1∨top≤p.1){j:Nat}(h1:¬RB m v j)(h2:j < top):(hp.AZ us) j=hp j:=CG fun p hp e=>by
 rcases hu p hp with c | c
 ·exact h1 (e ▸ c)
 ·omega
/-! ### what the net's functions write -/
theorem dv {p:Nat×Option BB}(o:E0 AP hp lv s.l)(hp_:p∈DJ lv):LB lv p.1:=by
 rcases CT o with ⟨rfl,_⟩ | ⟨q,rfl,_⟩
 ·cases hp_
 ·simp [DJ] at hp_;subst hp_;rfl
theorem du {p:Nat×Option BB}{l:List Ah}(o:E0 AP hp lv s.l)(hp_:p∈Nk AP lv l):LB lv p.1:=by
 rcases CT o with ⟨rfl,_⟩ | ⟨q,rfl,_⟩
 ·cases hp_
 ·simp [Nk] at hp_;subst hp_;rfl
theorem pE {l:List Ah}{j:Nat}(o:E0 AP hp lv s.l)(h:LB (N7 lv l) j):LB lv j:=by
 rcases CT o with ⟨rfl,_⟩ | ⟨q,rfl,_⟩
 ·cases h
 ·exact h
theorem AU.fE (h:AU F0 base hp top n m lv s v t)(a b:Int)(b_:List UInt8):∀p∈Ef n lv s a b b_ top,NB n lv p.1∨top≤p.1:=by
 intro p hp_
 unfold Ef C5 at hp_
 split at hp_
 ·cases hp_
 ·simp only [List.mem_append] at hp_
  rcases hp_ with hp_ | hp_
  ·simp [Fa.Cm] at hp_;rcases hp_ with rfl | rfl <;> (left;left;simp)
  ·unfold Fm at hp_
   split at hp_
   ·cases hp_
   ·simp only [List.mem_cons,List.mem_append,List.not_mem_nil,or_false] at hp_
    rcases hp_ with rfl | hp_ | rfl
    ·left;left;simp
    ·exact .inl (.inr (dv h.Bc.Bc.W.o hp_))
    ·exact .inr (Nat.le_refl _)
theorem AU.vV (h:AU F0 base hp top n m lv s v t){a b:Int}{b_:List UInt8}{j:Nat}(hj:LB (JQ lv s a b b_ top) j):LB lv j∨top≤j:=by
 unfold JQ at hj
 split at hj
 ·exact .inl hj
 ·have:j=top:=hj
  exact .inr (by omega)
theorem AU.send (h:AU F0 base hp top n m lv s v t)(hla:s.last < 999990)(a b:Int)(b_:List UInt8):AU F0 base (hp.AZ (Ef n lv s a b b_ top)) (Jg s a b b_ top) n m (JQ lv s a b b_ top) (NT s a b b_) v t:=by
 exact h.VF (h.Bc.send hla a b b_) (h.fE a b b_) (fun j hj=>h.vV hj) (by unfold Jg;split <;> omega)
theorem AU.s9 (h:AU F0 base hp top n m lv s v t):∀p∈Dr n lv s top,NB n lv p.1∨top≤p.1:=by
 intro p hp_
 unfold Dr at hp_
 split at hp_
 ·simp only [List.mem_cons] at hp_
  rcases hp_ with rfl | rfl | rfl | hp_
  ·left;left;simp
  ·left;left;simp
  ·exact .inr (Nat.le_refl _)
  ·rcases CQ h.Bc.Bc.W.o (FW s.l (s.now+1)) with ⟨_,c2⟩ | ⟨b,c0,_,c2⟩
   ·rw [show CM s=JU s.l (s.now+1) from rfl,c2] at hp_;cases hp_
   ·rw [show CM s=JU s.l (s.now+1) from rfl,c2] at hp_
    simp at hp_;subst hp_;exact .inl (.inr (by rw [c0];rfl))
 ·cases hp_
theorem AU.Wp (h:AU F0 base hp top n m lv s v t){j:Nat}(hj:LB (IB lv s) j):LB lv j:=by
 unfold IB at hj
 split at hj
 ·rcases CQ h.Bc.Bc.W.o (FW s.l (s.now+1)) with ⟨c1,_⟩ | ⟨b,c0,c1,_⟩
  ·rw [show JJ lv s.l 0 (CM s)=lv from c1] at hj;exact hj
  ·rw [show JJ lv s.l 0 (CM s)=_ from c1] at hj
   rw [c0];exact hj
 ·exact hj
theorem AU.tick (h:AU F0 base hp top n m lv s v t):AU F0 base (hp.AZ (Dr n lv s top)) (GO s top) n m (IB lv s) (MK s) v t:=by
 exact h.VF h.Bc.tick (h.s9) (fun j hj=> .inl (h.Wp hj)) (by unfold GO;split <;> omega)
theorem AU.ka (h:AU F0 base hp top n m lv s v t)(a b:Int):∀p∈Np n lv s a b top,NB n lv p.1∨top≤p.1:=by
 intro p hp_
 unfold Np GG at hp_
 split at hp_
 ·rcases List.mem_cons.1 hp_ with rfl | hp_
  ·left;left;simp
  ·rcases List.mem_cons.1 hp_ with rfl | hp_
   ·left;left;simp
   ·rcases List.mem_append.1 hp_ with hp_ | hp_
    ·exact .inl (.inr (du h.Bc.Bc.W.o hp_))
    ·simp at hp_;subst hp_;exact .inr (Nat.le_refl _)
 ·cases hp_
theorem AU.cF (h:AU F0 base hp top n m lv s v t){a b:Int}{j:Nat}(hj:LB (UF lv s a b) j):LB lv j:=by
 unfold UF at hj
 split at hj
 ·exact pE h.Bc.Bc.W.o hj
 ·exact hj
theorem AU.cut (h:AU F0 base hp top n m lv s v t)(a b:Int):AU F0 base (hp.AZ (Np n lv s a b top)) (Lp s a b top) n m (UF lv s a b) (ZP s a b) v t:=by
 exact h.VF (h.Bc.cut a b) (h.ka a b) (fun j hj=> .inl (h.cF hj)) (by unfold Lp;split <;> omega)
theorem AU.ef (h:AU F0 base hp top n m lv s v t)(a:Int):∀p∈JI n lv s a top,NB n lv p.1∨top≤p.1:=by
 intro p hp_
 unfold JI Ep at hp_
 split at hp_
 ·rcases List.mem_cons.1 hp_ with rfl | hp_
  ·left;left;simp
  ·rcases List.mem_cons.1 hp_ with rfl | hp_
   ·left;left;simp
   ·rcases List.mem_append.1 hp_ with hp_ | hp_
    ·exact .inl (.inr (du h.Bc.Bc.W.o hp_))
    ·simp at hp_;subst hp_;exact .inr (Nat.le_refl _)
 ·cases hp_
theorem AU.X8 (h:AU F0 base hp top n m lv s v t){a:Int}{j:Nat}(hj:LB (NS lv s a) j):LB lv j:=by
 unfold NS at hj
 split at hj
 ·exact pE h.Bc.Bc.W.o hj
 ·exact hj
theorem AU.stop (h:AU F0 base hp top n m lv s v t)(a:Int):AU F0 base (hp.AZ (JI n lv s a top)) (G7 s a top) n m (NS lv s a) (Qx s a) v t:=by
 exact h.VF (h.Bc.stop a) (h.ef a) (fun j hj=> .inl (h.X8 hj)) (by unfold G7;split <;> omega)
theorem AU.fO (h:AU F0 base hp top n m lv s v t)(a b:Int):∀p∈Gv n s a b,NB n lv p.1∨top≤p.1:=by
 intro p hp_
 unfold Gv at hp_
 split at hp_
 ·simp at hp_;subst hp_;left;left;simp
 ·cases hp_
theorem AU.UK (h:AU F0 base hp top n m lv s v t)(a b:Int):AU F0 base (hp.AZ (Gv n s a b)) top n m lv (Ng s a b) v t:=by
 exact h.VF (h.Bc.UK a b) (h.fO a b) (fun j hj=> .inl hj) (Nat.le_refl _)
theorem AU.aJ (h:AU F0 base hp top n m lv s v t)(a:Int):∀p∈Eu n s a,NB n lv p.1∨top≤p.1:=by
 intro p hp_
 unfold Eu at hp_
 split at hp_
 ·simp at hp_;subst hp_;left;left;simp
 ·cases hp_
theorem AU.start (h:AU F0 base hp top n m lv s v t)(a:Int):AU F0 base (hp.AZ (Eu n s a)) top n m lv (LZ s a) v t:=by
 exact h.VF (h.Bc.start a) (h.aJ a) (fun j hj=> .inl hj) (Nat.le_refl _)
end
end Go.Proofs.Ytmppehipfpkepaa.Dm
/- The two nets in one memory: what the document's functions leave. -/
set_option linter.unusedVariables false
namespace Go.Proofs.Ytmppehipfpkepaa.Dm
open Go.Dm
set_option maxHeartbeats 4000000
set_option maxRecDepth 20000
theorem Vj {α:Type}{E:Bn α}{hp:Hp}{w:Value}{l:List α}(h:BU E hp w l){j:Nat}(hj:LB w j):∃rw vs,hp j=some (.cells rw E.size vs):=by
 cases h with
 |nils=>cases hj
 |emp=>cases hj
 |rows b o c rw vs l hb hv ho hc hn=>
  have:j=b:=hj
  subst this;exact ⟨rw,vs,hb⟩
theorem CD.nem {hp:Hp}{m:Nat}{v:Bh}{t:As}(h:CD hp m v t){j:Nat}(hj:j=v.cb∨LB v.rv j∨LB v.lv j∨LB v.uv j∨LB v.wv j):j≠m:=by
 intro e
 subst e
 have hm:=h.h
 rcases hj with hj | hj | hj | hj | hj
 ·have:=h.c;rw [←hj,hm] at this;exact absurd (EB this) (by decide)
 ·obtain ⟨_,_,e⟩:=Vj h.R hj;rw [hm] at e;exact absurd (EB e) (by decide)
 ·obtain ⟨_,_,e⟩:=Vj h.l hj;rw [hm] at e;exact absurd (EB e) (by decide)
 ·obtain ⟨_,_,e⟩:=Vj h.u hj;rw [hm] at e;exact absurd (EB e) (by decide)
 ·obtain ⟨_,_,e⟩:=Vj h.w hj;rw [hm] at e;exact absurd (EB e) (by decide)
section
variable {F0:Hp} {base:Nat} {hp:Hp} {top n m:Nat} {lv:Value} {s:Ak} {v:Bh} {t:As}
theorem AU.sj (h:AU F0 base hp top n m lv s v t){us:BC}{v':Bh}{t':As}{top':Nat}(e:(hp.AZ us) m=Az v' t')(hu:∀p∈us,p.1=m∨top≤p.1)
  (e1:v'.rv=v.rv) (e2:v'.lv=v.lv) (e3:v'.uv=v.uv) (e4:v'.cb=v.cb) (s1:t'.R=t.R) (s2:t'.l=t.l) (s3:t'.u=t.u) (s4:t'.ic=t.ic)
  (hw:BU Be (hp.AZ us) v'.wv t'.w) (hb:∀j,LB v'.wv j→LB v.wv j∨(top≤j∧j < top')) (hsl:t'.st.length=25) (hkl:t'.ks.length=625) (hwl:t'.w.length≤1000000) (ht:top≤top'):AU F0 base (hp.AZ us) top' n m lv s v' t':=by
 have off:∀j,(j=v.cb∨LB v.rv j∨LB v.lv j∨LB v.uv j)→(hp.AZ us) j=hp j:=fun j hj=>CG fun p hp_ e=>by
  have h1:j≠m:=h.ref.nem (by rcases hj with c | c | c | c;exact .inl c;exact .inr (.inl c);exact .inr (.inr (.inl c));exact .inr (.inr (.inr (.inl c))))
  have h2:=h.lt j (by rcases hj with c | c | c | c;exact .inr (.inl c);exact .inr (.inr (.inl c));exact .inr (.inr (.inr (.inl c)));exact .inr (.inr (.inr (.inr (.inl c)))))
  rcases hu p hp_ with c | c
  ·exact h1 (e ▸ c)
  ·omega
 refine h.we ⟨e, ?_, ?_, ?_, ?_,hw,hsl,hkl, ?_, ?_, ?_, ?_, ?_,hwl⟩ (fun p hp_=> ?_) (fun j hj=> ?_) ht
 ·rw [e1,s1];exact Js h.ref.R fun j hj=>off j (.inr (.inl hj))
 ·rw [e2,s2];exact Js h.ref.l fun j hj=>off j (.inr (.inr (.inl hj)))
 ·rw [e3,s3];exact Js h.ref.u fun j hj=>off j (.inr (.inr (.inr hj)))
 ·rw [e4,s4];exact (off _ (.inl rfl)).trans h.ref.c
 ·rw [s4,s2];exact h.ref.il
 ·rw [s2];exact h.ref.ll
 ·rw [s3];exact h.ref.ul
 ·rw [s1];exact h.ref.rl
 ·rw [s2];exact h.ref.lr
 ·rcases hu p hp_ with c | c
  ·exact .inl c
  ·exact .inr (.inr c)
 ·unfold RB at hj ⊢
  rw [e1,e2,e3,e4] at hj
  rcases hj with c | c | c | c | c | c
  ·exact .inl (.inl c)
  ·exact .inl (.inr (.inl c))
  ·exact .inl (.inr (.inr (.inl c)))
  ·exact .inl (.inr (.inr (.inr (.inl c))))
  ·exact .inl (.inr (.inr (.inr (.inr (.inl c)))))
  ·rcases hb j c with c | c
   ·exact .inl (.inr (.inr (.inr (.inr (.inr c)))))
   ·exact .inr c
theorem AU.mt (h:AU F0 base hp top n m lv s v t):m < top:=h.lt m (.inl rfl)
theorem AU.AB8 (h:AU F0 base hp top n m lv s v t){us:BC}(hu:∀p∈us,p.1=m∨top≤p.1):BU Be (hp.AZ us) v.wv t.w:=Js h.ref.w fun j hj=>CG fun p hp_ e=>by
 have h1:=h.ref.nem (j:=j) (.inr (.inr (.inr (.inr hj))))
 have h2:=h.lt j (.inr (.inr (.inr (.inr (.inr hj)))))
 rcases hu p hp_ with c | c
 ·exact h1 (e ▸ c)
 ·omega
theorem NY {α:Type}{b j:Nat}{l:List α}(h:LB (AK b l) j):j=b:=by
 cases l with
 |nil=>cases h
 |cons a l=>exact h
/-- the state is written,its list stays -/
theorem AU.vm (h:AU F0 base hp top n m lv s v t){t':As}(s1:t'.R=t.R)(s2:t'.l=t.l)(s3:t'.u=t.u)(s4:t'.ic=t.ic)(s5:t'.w=t.w)(hsl:t'.st.length=25)(hkl:t'.ks.length=625):AU F0 base (hp.AZ [(m,Az v t')]) top n m lv s v t':=by
 have hu:∀p∈ [(m,Az v t')],p.1=m∨top≤p.1:=fun p hp_=>by simp at hp_;subst hp_;exact .inl rfl
 exact h.sj (by rw [Aa,B6,AB]) hu rfl rfl rfl rfl s1 s2 s3 s4 (by rw [s5];exact h.AB8 hu) (fun j hj=> .inl hj) hsl hkl (by rw [s5];exact h.ref.wl) (Nat.le_refl _)
/-- the state is written,with a list in a new block -/
theorem AU.AAy (h:AU F0 base hp top n m lv s v t){t':As}(s1:t'.R=t.R)(s2:t'.l=t.l)(s3:t'.u=t.u)(s4:t'.ic=t.ic)(hsl:t'.st.length=25)(hkl:t'.ks.length=625)(hwl:t'.w.length≤1000000):AU F0 base (hp.AZ [(m,Az {v with wv:=AK top t'.w} t'),(top,AO Be t'.w)]) (top+1) n m lv s {v with wv:=AK top t'.w} t':=by
 have hm:=h.mt
 refine h.sj (by rw [Aa,Aa,B6,AH _ _ _ _ (by omega),AB]) (fun p hp_=> ?_) rfl rfl rfl rfl s1 s2 s3 s4 (.own (by rw [Aa,Aa,B6,AB]) (by show t'.w.length≤_;omega)) (fun j hj=> ?_) hsl hkl hwl (Nat.le_succ _)
 ·simp at hp_;rcases hp_ with rfl | rfl
  ·exact .inl rfl
  ·exact .inr (Nat.le_refl _)
 ·have:=NY hj
  exact .inr ⟨by omega,by omega⟩
/-! ### Send -/
def Jf (t:As)(a b:Int)(m:List UInt8):FT:=if ¬DE t a b m.length=0 then ⟨0,0,0⟩ else Di t a b
noncomputable def Ia (n:Nat)(v:Bh)(t:As)(a b:Int)(m:List UInt8)(top:Nat):BC:=(GJ n v t a b m top).2.1
def IZ (t:As)(a b:Int)(m:List UInt8)(top:Nat):Nat:=if ¬DE t a b m.length=0 then top else if (Di t a b).Bb=0 then top else top+1
def ke (v:Bh)(t:As)(a b:Int)(m:List UInt8)(top:Nat):Bh:=if ¬DE t a b m.length=0 then v else if (Di t a b).Bb=0 then v else {v with wv:=AK top (TO t a b m).w}
theorem lI (n:Nat)(v:Bh)(t:As)(a b:Int)(m:List UInt8)(top:Nat):GJ n v t a b m top=(.tuple ⟨[.agg ⟨JV.enc (Jf t a b m)⟩, .int .i64 (DE t a b m.length)]⟩,Ia n v t a b m top,IZ t a b m top):=by
 unfold Ia Jf IZ GJ
 by_cases c:DE t a b m.length=0
 ·have c':¬¬DE t a b m.length=0:=fun h=>h c
  simp only [if_neg c']
  by_cases c2:(Di t a b).Bb=0
  ·simp only [if_pos c2,c]
  ·simp only [if_neg c2,c]
 ·simp only [if_pos c];rfl
theorem Rz (t:As)(Pd:Int)(m:Ae):(Sr t Pd m).w.length=t.w.length+1:=TC _ _ _
theorem AU.AA1 (h:AU F0 base hp top n m lv s v t)(a b:Int)(b_:List UInt8):AU F0 base (hp.AZ (Ia m v t a b b_ top)) (IZ t a b b_ top) n m lv s (ke v t a b b_ top) (TO t a b b_):=by
 unfold Ia IZ ke TO GJ
 by_cases c:DE t a b b_.length=0
 ·have c':¬¬DE t a b b_.length=0:=fun h=>h c
  simp only [if_neg c']
  have hk:(t.ks.set (a.toNat * 25+b.toNat) (NJ t a b)).length=625:=by rw [List.length_set];exact h.ref.kl
  have hl:t.w.length≤16382:=by
   unfold DE at c
   split at c
   ·cases c
   ·split at c
    ·cases c
    ·split at c
     ·cases c
     ·split at c
      ·cases c
      ·omega
  by_cases c2:(Di t a b).Bb=0
  ·simp only [if_pos c2]
   rw [c2]
   exact h.vm rfl rfl rfl rfl rfl h.ref.sl hk
  ·simp only [if_neg c2]
   rcases Pc t a b with e | e | e
   ·exact absurd e c2
   ·rw [e]
    have e1:G6 t a b b_ (1:Int).toNat=Sr (Dy t a b) (Di t a b).Ee ⟨a,b,b_⟩:=rfl
    rw [e1]
    exact h.AAy rfl rfl rfl rfl h.ref.sl hk (by rw [Rz];show t.w.length+1≤_;omega)
   ·rw [e]
    have e1:G6 t a b b_ (2:Int).toNat=Sr (Sr (Dy t a b) (Di t a b).Ee ⟨a,b,b_⟩) (Di t a b).Second ⟨a,b,b_⟩:=rfl
    rw [e1]
    exact h.AAy rfl rfl rfl rfl h.ref.sl hk (by rw [Rz,Rz];show t.w.length+1+1≤_;omega)
 ·simp only [if_pos c];exact h
/-! ### Tick -/
noncomputable def Fp (n:Nat)(v:Bh)(t:As)(top:Nat):BC:=(Hh n v t top).2.1
def FJ (t:As)(top:Nat):Nat:=if t.now < 1099511627776 then top+1 else top
def QF (v:Bh)(t:As):Bh:=if t.now < 1099511627776 then {v with wv:=UE v.wv (kR t)} else v
theorem mx (n:Nat)(v:Bh)(t:As)(top:Nat):Hh n v t top=(AK top (Jb t),Fp n v t top,FJ t top):=by
 unfold Fp FJ Jb Hh
 split <;> rfl
theorem ai {w:Value}{j:Nat}:∀ {k:Nat},LB (UE w k) j→LB w j
 |0,h=>h
 |k+1,h=>by
  refine ai (k:=k) ?_
  unfold UE at h
  revert h
  generalize UE w k=x
  intro h
  unfold Mb at h
  split at h
  ·split at h
   ·exact h
   ·cases h
  ·exact h
theorem AU.vp (h:AU F0 base hp top n m lv s v t):AU F0 base (hp.AZ (Fp m v t top)) (FJ t top) n m lv s (QF v t) (QS t):=by
 unfold Fp FJ QF QS Hh
 by_cases c:t.now < 1099511627776
 ·rw [if_pos c,if_pos c,if_pos c,if_pos c]
  have hm:=h.mt
  have hu:∀p∈ [(m,Az {v with wv:=UE v.wv (kR t)} (SC t)),(top,AO AJ (MZ t))],p.1=m∨top≤p.1:=fun p hp_=>by
   simp at hp_;rcases hp_ with rfl | rfl
   ·exact .inl rfl
   ·exact .inr (Nat.le_refl _)
  exact h.sj (by rw [Aa,Aa,B6,AH _ _ _ _ (by omega),AB]) hu rfl rfl rfl rfl rfl rfl rfl rfl (Tg (h.AB8 hu) (ACI t)) (fun j hj=> .inl (ai hj)) h.ref.sl h.ref.kl (by show (t.w.drop (kR t)).length≤_;rw [List.length_drop];have:=h.ref.wl;omega) (Nat.le_succ _)
 ·rw [if_neg c,if_neg c,if_neg c,if_neg c];exact h
theorem jR (h:AU F0 base hp top n m lv s v t):BU AJ (hp.AZ (Fp m v t top)) (AK top (Jb t)) (Jb t):=by
 unfold Fp Jb Hh
 by_cases c:t.now < 1099511627776
 ·simp only [if_pos c]
  refine .own (by rw [Aa,Aa,B6,AB]) ?_
  have:=h.ref.wl
  unfold MZ;rw [List.length_map,List.length_take];omega
 ·simp only [if_neg c];exact .nils
/-! ### Cut,Mend,Stop,Start -/
theorem AU.icR (h:AU F0 base hp top n m lv s v t){i:Nat}(hi:i < t.ic.length)(x:Bool):AU F0 base (hp.set v.cb (AO Bd (t.ic.set i x))) top n m lv s v (YW t i x):=
 h.we (us:= [(v.cb,AO Bd (t.ic.set i x))]) (h.ref.nT hi x) (fun p hp_=>by simp at hp_;subst hp_;exact .inr (.inl rfl)) (fun j hj=> .inl hj) (Nat.le_refl _)
theorem AU.vl (h:AU F0 base hp top n m lv s v t){t':As}(s1:t'.R=t.R)(s2:t'.l=t.l)(s3:t'.u=t.u)(s4:t'.ic=t.ic)(hsl:t'.st.length=25)(hkl:t'.ks.length=625)(hwl:t'.w.length≤1000000){o:Option BB}:AU F0 base (hp.AZ [(m,Az {v with wv:=AK (top+1) t'.w} t'),(top,o),(top+1,AO Be t'.w)]) (top+2) n m lv s {v with wv:=AK (top+1) t'.w} t':=by
 have hm:=h.mt
 refine h.sj (by rw [Aa,Aa,Aa,B6,AH _ _ _ _ (by omega),AH _ _ _ _ (by omega),AB]) (fun p hp_=> ?_) rfl rfl rfl rfl s1 s2 s3 s4 (.own (by rw [Aa,Aa,Aa,B6,AB]) (by show t'.w.length≤_;omega)) (fun j hj=> ?_) hsl hkl hwl (by omega)
 ·simp at hp_;rcases hp_ with rfl | rfl | rfl
  ·exact .inl rfl
  ·exact .inr (Nat.le_refl _)
  ·exact .inr (Nat.le_succ _)
 ·have:=NY hj
  exact .inr ⟨by omega,by omega⟩
noncomputable def Jz (n:Nat)(v:Bh)(t:As)(a b:Int)(top:Nat):BC:=(Ln n v t a b top).2.1
def KU (t:As)(a b:Int)(top:Nat):Nat:=if IL t a b=0 then top+2 else top
def aA (v:Bh)(t:As)(a b:Int)(top:Nat):Bh:=if IL t a b=0 then {v with wv:=AK (top+1) (Ut t a b).w} else v
theorem fR {a b:Int}(h:IL t a b=0):t.l.any (Gr.pr a b)=true∧Aj t.ic (GS t a b)=false:=by
 unfold IL at h
 cases e:t.l.any (Gr.pr a b) with
 |false=>rw [e,if_pos rfl] at h;cases h
 |true=>
  cases e2:Aj t.ic (GS t a b) with
  |false=>exact ⟨rfl,rfl⟩
  |true=>rw [e,e2] at h;exact absurd h (by decide)
theorem rq (n:Nat)(v:Bh)(t:As)(a b:Int)(top:Nat):Ln n v t a b top=(.tuple ⟨[AK top (L8 t a b), .int .i64 (IL t a b)]⟩,Jz n v t a b top,KU t a b top):=by
 unfold Jz KU L8 Ln IL
 cases e:t.l.any (Gr.pr a b) with
 |false=>rfl
 |true=>cases e2:Aj t.ic (GS t a b) <;> rfl
theorem AU.ABT (h:AU F0 base hp top n m lv s v t)(a b:Int):AU F0 base (hp.AZ (Jz m v t a b top)) (KU t a b top) n m lv s (aA v t a b top) (Ut t a b):=by
 unfold Jz KU aA Ut Ln
 by_cases c:IL t a b=0
 ·obtain ⟨c1,c2⟩:=fR c
  rw [if_pos c,if_pos c,if_pos c,if_neg (by rw [c1];simp),if_neg (by rw [c2];simp)]
  have hi:GS t a b < t.ic.length:=by rw [h.ref.il];exact M5 c1
  exact (h.icR hi true).vl (t':=GC (YW t (GS t a b) true)) rfl rfl rfl rfl h.ref.sl h.ref.kl (Nat.le_trans (List.length_filter_le _ _) h.ref.wl)
 ·rw [if_neg c,if_neg c,if_neg c]
  unfold IL at c
  cases e:t.l.any (Gr.pr a b) with
  |false=>rw [if_pos rfl];exact h
  |true=>
   cases e2:Aj t.ic (GS t a b) with
   |false=>rw [e,e2] at c;exact absurd rfl c
   |true=>rw [if_neg (by decide),if_pos rfl];exact h
theorem lD (h:AU F0 base hp top n m lv s v t)(a b:Int):BU AJ (hp.AZ (Jz m v t a b top)) (AK top (L8 t a b)) (L8 t a b):=by
 unfold Jz L8 Ln
 by_cases c:IL t a b=0
 ·obtain ⟨c1,c2⟩:=fR c
  rw [if_pos c,if_neg (by rw [c1];simp),if_neg (by rw [c2];simp)]
  refine .own (by rw [Aa,Aa,Aa,Aa,B6,AH _ _ _ _ (by omega),AB]) ?_
  have:=h.ref.wl
  have h2:(F9 (YW t (GS t a b) true)).length≤t.w.length:=by unfold F9;rw [List.length_map];exact List.length_filter_le _ _
  omega
 ·rw [if_neg c];exact .nils
noncomputable def IQ (v:Bh)(t:As)(a b:Int)(top:Nat):BC:=(Jc v t a b top).2.1
theorem nS (v:Bh)(t:As)(a b:Int)(top:Nat):Jc v t a b top=(.int .i64 (LX t a b),IQ v t a b top,top):=by
 unfold IQ Jc LX
 cases e:t.l.any (Gr.pr a b) with
 |false=>rfl
 |true=>cases e2:Aj t.ic (GS t a b) <;> rfl
theorem AU.ABJ (h:AU F0 base hp top n m lv s v t)(a b:Int):AU F0 base (hp.AZ (IQ v t a b top)) top n m lv s v (WO t a b):=by
 unfold IQ WO Jc LX
 cases e:t.l.any (Gr.pr a b) with
 |false=>exact h
 |true=>
  cases e2:Aj t.ic (GS t a b) with
  |false=>exact h
  |true=>
   have hi:GS t a b < t.ic.length:=by rw [h.ref.il];exact M5 e
   exact h.icR hi false
noncomputable def Gc (n:Nat)(v:Bh)(t:As)(a:Int)(top:Nat):BC:=(Ic n v t a top).2.1
def HY (t:As)(a:Int)(top:Nat):Nat:=if FL t a=0 then top+2 else top
def Sn (v:Bh)(t:As)(a:Int)(top:Nat):Bh:=if FL t a=0 then {v with wv:=AK (top+1) (QP t a).w} else v
theorem ZG {a:Int}(h:FL t a=0):t.R.any (GR a)=true∧Aj t.st a.toNat=false:=by
 unfold FL at h
 cases e:t.R.any (GR a) with
 |false=>rw [e,if_pos rfl] at h;cases h
 |true=>
  cases e2:Aj t.st a.toNat with
  |false=>exact ⟨rfl,rfl⟩
  |true=>rw [e,e2] at h;exact absurd h (by decide)
theorem lU (n:Nat)(v:Bh)(t:As)(a:Int)(top:Nat):Ic n v t a top=(.tuple ⟨[AK top (Jd t a), .int .i64 (FL t a)]⟩,Gc n v t a top,HY t a top):=by
 unfold Gc HY Jd Ic FL
 cases e:t.R.any (GR a) with
 |false=>rfl
 |true=>cases e2:Aj t.st a.toNat <;> rfl
theorem AU.wQ (h:AU F0 base hp top n m lv s v t)(a:Int):AU F0 base (hp.AZ (Gc m v t a top)) (HY t a top) n m lv s (Sn v t a top) (QP t a):=by
 unfold Gc HY Sn QP Ic
 by_cases c:FL t a=0
 ·obtain ⟨c1,c2⟩:=ZG c
  rw [if_pos c,if_pos c,if_pos c,if_neg (by rw [c1];simp),if_neg (by rw [c2];simp)]
  exact h.vl (t':=GC (Qq t a.toNat true)) rfl rfl rfl rfl (by show (t.st.set _ _).length=25;rw [List.length_set];exact h.ref.sl) h.ref.kl (Nat.le_trans (List.length_filter_le _ _) h.ref.wl)
 ·rw [if_neg c,if_neg c,if_neg c]
  unfold FL at c
  cases e:t.R.any (GR a) with
  |false=>rw [if_pos rfl];exact h
  |true=>
   cases e2:Aj t.st a.toNat with
   |false=>rw [e,e2] at c;exact absurd rfl c
   |true=>rw [if_neg (by decide),if_pos rfl];exact h
theorem fg (h:AU F0 base hp top n m lv s v t)(a:Int):BU AJ (hp.AZ (Gc m v t a top)) (AK top (Jd t a)) (Jd t a):=by
 unfold Gc Jd Ic
 by_cases c:FL t a=0
 ·obtain ⟨c1,c2⟩:=ZG c
  rw [if_pos c,if_neg (by rw [c1];simp),if_neg (by rw [c2];simp)]
  refine .own (by rw [Aa,Aa,Aa,B6,AH _ _ _ _ (by omega),AB]) ?_
  have:=h.ref.wl
  have h2:(F9 (Qq t a.toNat true)).length≤t.w.length:=by unfold F9;rw [List.length_map];exact List.length_filter_le _ _
  omega
 ·rw [if_neg c];exact .nils
noncomputable def F7 (n:Nat)(v:Bh)(t:As)(a:Int)(top:Nat):BC:=(Gd n v t a top).2.1
theorem jX (n:Nat)(v:Bh)(t:As)(a:Int)(top:Nat):Gd n v t a top=(.int .i64 (I3 t a),F7 n v t a top,top):=by
 unfold F7 Gd I3
 cases e:t.R.any (GR a) with
 |false=>rfl
 |true=>cases e2:Aj t.st a.toNat <;> rfl
theorem AU.yw (h:AU F0 base hp top n m lv s v t)(a:Int):AU F0 base (hp.AZ (F7 m v t a top)) top n m lv s v (Rq t a):=by
 unfold F7 Rq Gd I3
 cases e:t.R.any (GR a) with
 |false=>exact h
 |true=>
  cases e2:Aj t.st a.toNat with
  |false=>exact h
  |true=>exact h.vm rfl rfl rfl rfl rfl (by show (t.st.set _ _).length=25;rw [List.length_set];exact h.ref.sl) h.ref.kl
/-! ### where they write -/
theorem iu (n m:Nat)(v:Bh)(t:As)(a b:Int)(b_:List UInt8)(top:Nat):∀p∈Ia m v t a b b_ top,RB m v p.1∨top≤p.1:=by
 intro p hp_
 unfold Ia GJ at hp_
 split at hp_
 ·cases hp_
 ·split at hp_
  ·simp at hp_;subst hp_;exact .inl (.inl rfl)
  ·simp at hp_;rcases hp_ with rfl | rfl
   ·exact .inl (.inl rfl)
   ·exact .inr (Nat.le_refl _)
theorem US (n m:Nat)(v:Bh)(t:As)(top:Nat):∀p∈Fp m v t top,RB m v p.1∨top≤p.1:=by
 intro p hp_
 unfold Fp Hh at hp_
 split at hp_
 ·simp at hp_;rcases hp_ with rfl | rfl
  ·exact .inl (.inl rfl)
  ·exact .inr (Nat.le_refl _)
 ·cases hp_
theorem Y3 (n m:Nat)(v:Bh)(t:As)(a b:Int)(top:Nat):∀p∈Jz m v t a b top,RB m v p.1∨top≤p.1:=by
 intro p hp_
 unfold Jz Ln at hp_
 split at hp_
 ·cases hp_
 ·split at hp_
  ·cases hp_
  ·simp at hp_;rcases hp_ with rfl | rfl | rfl | rfl
   ·exact .inl (.inr (.inl rfl))
   ·exact .inl (.inl rfl)
   ·exact .inr (Nat.le_refl _)
   ·exact .inr (Nat.le_succ _)
theorem VL (n m:Nat)(v:Bh)(t:As)(a:Int)(top:Nat):∀p∈Gc m v t a top,RB m v p.1∨top≤p.1:=by
 intro p hp_
 unfold Gc Ic at hp_
 split at hp_
 ·cases hp_
 ·split at hp_
  ·cases hp_
  ·simp at hp_;rcases hp_ with rfl | rfl | rfl
   ·exact .inl (.inl rfl)
   ·exact .inr (Nat.le_refl _)
   ·exact .inr (Nat.le_succ _)
theorem mH {m:Nat}{v:Bh}{w:Value}{top j:Nat}(hw:∀j,LB w j→LB v.wv j∨top≤j)(h:RB m {v with wv:=w} j):RB m v j∨top≤j:=by
 unfold RB at h ⊢
 rcases h with c | c | c | c | c | c
 ·exact .inl (.inl c)
 ·exact .inl (.inr (.inl c))
 ·exact .inl (.inr (.inr (.inl c)))
 ·exact .inl (.inr (.inr (.inr (.inl c))))
 ·exact .inl (.inr (.inr (.inr (.inr (.inl c)))))
 ·rcases hw j c with c | c
  ·exact .inl (.inr (.inr (.inr (.inr (.inr c)))))
  ·exact .inr c
theorem UW {m:Nat}{v:Bh}{t:As}{top j:Nat}(h:RB m (QF v t) j):RB m v j∨top≤j:=by
 unfold QF at h
 split at h
 ·exact mH (fun j hj=> .inl (ai hj)) h
 ·exact .inl h
theorem ZS {m:Nat}{v:Bh}{t:As}{a b:Int}{top j:Nat}(h:RB m (aA v t a b top) j):RB m v j∨top≤j:=by
 unfold aA at h
 split at h
 ·exact mH (fun j hj=> .inr (by have:=NY hj;omega)) h
 ·exact .inl h
theorem UQ {m:Nat}{v:Bh}{t:As}{a:Int}{top j:Nat}(h:RB m (Sn v t a top) j):RB m v j∨top≤j:=by
 unfold Sn at h
 split at h
 ·exact mH (fun j hj=> .inr (by have:=NY hj;omega)) h
 ·exact .inl h
end
end Go.Proofs.Ytmppehipfpkepaa.Dm
