/- The document's comparison of scripts, walked for scripts of one content. -/
import Derived.Test.YthlhnangbinhoaaGreatDoorSPR
import Derived.Test.YthlhnangbinhoaaGreatDoorSBQ
import Derived.Test.YthlhnangbinhoaaGreatDoorSRF
set_option linter.unusedVariables false
namespace Go.Proofs.YthlhnangbinhoaaGreatDoor.Dm
open Go.Dm
set_option maxHeartbeats 64000000
set_option maxRecDepth 20000
theorem dW {d:Nat}{x:Bool}:Ij tt.get (d+1) 4 (.bool x) (.bool x)=some true:=by
 cases x <;> simp [Ij,Ke,xH]
theorem iL {o:CF}:Ij tt.get 64 79 (.agg ⟨AU.enc o⟩) (.agg ⟨AU.enc o⟩)=some true:=by
 cases o with | mk a0 a1 a2=>
 rw [Ij];simp only [HG,Xr,Iz]
 have p0:∀ {x:Value} {l:List Value},DE MT (x :: l) 0=some x:=rfl
 have p1:∀ {x0 x:Value} {l:List Value},DE MT (x0 :: x :: l) 1=some x:=rfl
 have p2:∀ {x0 x1 x:Value} {l:List Value},DE xH (x0 :: x1 :: x :: l) 2=some x:=rfl
 rw [show (63:Nat)=62+1 from rfl]
 simp only [eqFields,Gy (d:=61),Gy (d:=60),dW (d:=59),show ("Self" == "_")=false from rfl,show ("Claim" == "_")=false from rfl,show ("Ingress" == "_")=false from rfl,BX,Ke,p0,p1,p2]
 try simp
theorem jg {xo yo:Operand}{o:CF}:Cv tt.get .neq 79 xo yo (.agg ⟨AU.enc o⟩) (.agg ⟨AU.enc o⟩)=(.bool false,True):=by
 have h:Cv tt.get .neq 79 xo yo (.agg ⟨AU.enc o⟩) (.agg ⟨AU.enc o⟩)=KZ (DC tt.get .neq 79 xo yo (.agg ⟨AU.enc o⟩) (.agg ⟨AU.enc o⟩)):=by
  unfold Cv;rw [HG];unfold Re;rw [show kindOf tt.get 79=_ from rfl];rfl
 rw [h]
 have h2:DC tt.get .neq 79 xo yo (.agg ⟨AU.enc o⟩) (.agg ⟨AU.enc o⟩)=some (.bool false):=by
  simp only [DC,HG,Xr,iL];rfl
 rw [h2];rfl
theorem jh {xo yo:Operand}{o:AQ}:Cv tt.get .neq 81 xo yo (.agg ⟨AP.enc o⟩) (.agg ⟨AP.enc o⟩)=(.bool false,True):=by
 unfold Cv;rw [JO];cases o;simp [ZY,Gj,show kindOf tt.get 3=some (.int .i64) from rfl,Tz,Kr,B7,Gz,GD,intOf,HY]
theorem ji {xo yo:Operand}{o:Aq}:Cv tt.get .neq 83 xo yo (.agg ⟨AO.enc o⟩) (.agg ⟨AO.enc o⟩)=(.bool false,True):=by
 unfold Cv;rw [Hv];cases o;simp [Xs,Gj,show kindOf tt.get 3=some (.int .i64) from rfl,Tz,Et,B7,Gz,GD,intOf,HY]
theorem vO {xo yo:Operand}{o:A0}:Cv tt.get .neq 43 xo yo (.agg ⟨Aw.enc o⟩) (.agg ⟨Aw.enc o⟩)=(.bool false,True):=by
 have h:Cv tt.get .neq 43 xo yo (.agg ⟨Aw.enc o⟩) (.agg ⟨Aw.enc o⟩)=KZ (DC tt.get .neq 43 xo yo (.agg ⟨Aw.enc o⟩) (.agg ⟨Aw.enc o⟩)):=by
  unfold Cv;rw [Rt];unfold Re;rw [show kindOf tt.get 43=_ from rfl];rfl
 rw [h]
 have h2:DC tt.get .neq 43 xo yo (.agg ⟨Aw.enc o⟩) (.agg ⟨Aw.enc o⟩)=some (.bool false):=by
  simp only [DC,Rt,Xp,vw];rfl
 rw [h2];rfl
noncomputable def GP4:FuncId→BE:=BV rh 18 Qb
theorem Ov:Bp Tryz.prog tt.get GP4:=Qn.add wC
def Z1:BE:= .pure (fun args hp=>match args with | [v,w]=> ∃S,H5 hp v S∧H5 hp w S | _=>False) (fun _ _=> .bool true)
def Yh (v w:Value)(k:Nat)(i:Nat)(top:Nat):Cx:= [(2, .pointer (some ⟨top,0,none⟩),true),(3, .pointer (some ⟨top+1,0,none⟩),true),(k, .int .i64 (i:Int),true)]
def cA(hp:Hp)(top:Nat)(S:BW)(r k u r' k' u':Value)(sl i:Nat):SS:=⟨Yh .nilIface .nilIface sl i top,hp.Ac [(top,BO S r k u),(top+1,BO S r' k' u')],top+2⟩
theorem AB7:Ag Tryz.prog 32 Z1:=by
 refine .EK aO ?_ ?_
 ·rintro args hp h
  match args,h with
  | [_,_],_=>rfl
 intro args hp hpre top hcl hsc
 match args,hpre with
 | [_,_],⟨S,hS,hS'⟩=>
 obtain ⟨r,k,u,rfl,h1,h2,h3⟩:=hS.ex
 obtain ⟨r',k',u',rfl,q1,q2,q3⟩:=hS'.ex
 have l1:=hS.rl
 have l2:=hS.kl
 have l3:=hS.ul
 have s1:=h1.low hcl
 have s2:=h2.low hcl
 have s3:=h3.low hcl
 have z1:=q1.low hcl
 have z2:=q2.low hcl
 have z3:=q3.low hcl
 refine AJ.Af Am aO rfl 115 rfl [.tmp 4] rfl (show 2≤115 by decide) ?_
 refine CW.vc Ov [0,1,2,3,4,5,6,7,60,65,78,83,96,101,114] (by kernel_rfl) ?_
 (repeat ((try refine Vc.mk' ?_);simp (maxSteps:=6000000) only [go_sem,CS h1,BH h2,DB h3,CS q1,BH q2,DB q3]))
 refine CW.Bc (cA hp top S r k u r' k' u' 5) (fun i=>i≤S.R.length) (fun i=>S.R.length - i) 0 (Nat.zero_le _) ?_ ?_
 ·exact (by refine Al.mk' [top,top+1] hcl (by simp) (by simp) rfl (AF ?_) ?_ ?_ <;> simp [BO,Yh,Sc.Ao (fun j hj=>AE hj) s1,Sc.Ao (fun j hj=>AE hj) s2,Sc.Ao (fun j hj=>AE hj) s3,Sc.Ao (fun j hj=>AE hj) z1,Sc.Ao (fun j hj=>AE hj) z2,Sc.Ao (fun j hj=>AE hj) z3])
 intro i hi
 by_cases hlt:i < S.R.length
 ·have ii:((i:Int) < (S.R.length:Int)):=by omega
  have kk:Ad .i64 ((i:Int)+1)=((i+1:Nat):Int):=Ae hlt (by omega)
  have hq:=fun xo yo=>jg (xo:=xo) (yo:=yo) (o:=at' S.R i)
  simp only [Iz] at hq
  refine CW.vc Ov [0,1,2,3,4,5,6,7,60,65,78,83,96,101,114] (by kernel_rfl) ?_
  (repeat ((try refine Vc.mk' ?_);simp (maxSteps:=6000000) only [go_sem,cA,Yh,BO,ii,hlt,CS h1,DA h1,F8 h1,Ab s1,DA q1,F8 q1,Ab z1,hq,kk]))
  refine .mk (i+1) hlt (by omega) ((by refine Al.mk' [top,top+1] hcl (by simp) (by simp) rfl (AF ?_) ?_ ?_ <;> simp [BO,Yh,Sc.Ao (fun j hj=>AE hj) s1,Sc.Ao (fun j hj=>AE hj) s2,Sc.Ao (fun j hj=>AE hj) s3,Sc.Ao (fun j hj=>AE hj) z1,Sc.Ao (fun j hj=>AE hj) z2,Sc.Ao (fun j hj=>AE hj) z3]))
 have hk1:i=S.R.length:=by omega
 subst hk1
 refine CW.vc Ov [0,1,2,3,4,5,6,7,60,65,78,83,96,101,114] (by kernel_rfl) ?_
 (repeat ((try refine Vc.mk' ?_);simp (maxSteps:=6000000) only [go_sem,cA,Yh,BO,Int.lt_irrefl,decide_false,CS h1]))
 refine CW.Bc (cA hp top S r k u r' k' u' 6) (fun i=>i≤S.K.length) (fun i=>S.K.length - i) 0 (Nat.zero_le _) ?_ ?_
 ·exact (by refine Al.mk' [top,top+1] hcl (by simp) (by simp) rfl (AF ?_) ?_ ?_ <;> simp [BO,Yh,Sc.Ao (fun j hj=>AE hj) s1,Sc.Ao (fun j hj=>AE hj) s2,Sc.Ao (fun j hj=>AE hj) s3,Sc.Ao (fun j hj=>AE hj) z1,Sc.Ao (fun j hj=>AE hj) z2,Sc.Ao (fun j hj=>AE hj) z3])
 intro i hi
 by_cases hlt:i < S.K.length
 ·have ii:((i:Int) < (S.K.length:Int)):=by omega
  have kk:Ad .i64 ((i:Int)+1)=((i+1:Nat):Int):=Ae hlt (by omega)
  have hq:=fun xo yo=>jh (xo:=xo) (yo:=yo) (o:=at' S.K i)
  simp only [Kr] at hq
  refine CW.vc Ov [0,1,2,3,4,5,6,7,60,65,78,83,96,101,114] (by kernel_rfl) ?_
  (repeat ((try refine Vc.mk' ?_);simp (maxSteps:=6000000) only [go_sem,cA,Yh,BO,ii,hlt,BH h2,BG h2,B4 h2,Ab s2,BG q2,B4 q2,Ab z2,hq,kk]))
  refine .mk (i+1) hlt (by omega) ((by refine Al.mk' [top,top+1] hcl (by simp) (by simp) rfl (AF ?_) ?_ ?_ <;> simp [BO,Yh,Sc.Ao (fun j hj=>AE hj) s1,Sc.Ao (fun j hj=>AE hj) s2,Sc.Ao (fun j hj=>AE hj) s3,Sc.Ao (fun j hj=>AE hj) z1,Sc.Ao (fun j hj=>AE hj) z2,Sc.Ao (fun j hj=>AE hj) z3]))
 have hk1:i=S.K.length:=by omega
 subst hk1
 refine CW.vc Ov [0,1,2,3,4,5,6,7,60,65,78,83,96,101,114] (by kernel_rfl) ?_
 (repeat ((try refine Vc.mk' ?_);simp (maxSteps:=6000000) only [go_sem,cA,Yh,BO,Int.lt_irrefl,decide_false,BH h2]))
 refine CW.Bc (cA hp top S r k u r' k' u' 7) (fun i=>i≤S.U.length) (fun i=>S.U.length - i) 0 (Nat.zero_le _) ?_ ?_
 ·exact (by refine Al.mk' [top,top+1] hcl (by simp) (by simp) rfl (AF ?_) ?_ ?_ <;> simp [BO,Yh,Sc.Ao (fun j hj=>AE hj) s1,Sc.Ao (fun j hj=>AE hj) s2,Sc.Ao (fun j hj=>AE hj) s3,Sc.Ao (fun j hj=>AE hj) z1,Sc.Ao (fun j hj=>AE hj) z2,Sc.Ao (fun j hj=>AE hj) z3])
 intro i hi
 by_cases hlt:i < S.U.length
 ·have ii:((i:Int) < (S.U.length:Int)):=by omega
  have kk:Ad .i64 ((i:Int)+1)=((i+1:Nat):Int):=Ae hlt (by omega)
  have hq:=fun xo yo=>ji (xo:=xo) (yo:=yo) (o:=at' S.U i)
  simp only [Et] at hq
  refine CW.vc Ov [0,1,2,3,4,5,6,7,60,65,78,83,96,101,114] (by kernel_rfl) ?_
  (repeat ((try refine Vc.mk' ?_);simp (maxSteps:=6000000) only [go_sem,cA,Yh,BO,ii,hlt,DB h3,FZ h3,IU h3,Ab s3,FZ q3,IU q3,Ab z3,hq,kk]))
  refine .mk (i+1) hlt (by omega) ((by refine Al.mk' [top,top+1] hcl (by simp) (by simp) rfl (AF ?_) ?_ ?_ <;> simp [BO,Yh,Sc.Ao (fun j hj=>AE hj) s1,Sc.Ao (fun j hj=>AE hj) s2,Sc.Ao (fun j hj=>AE hj) s3,Sc.Ao (fun j hj=>AE hj) z1,Sc.Ao (fun j hj=>AE hj) z2,Sc.Ao (fun j hj=>AE hj) z3]))
 have hk1:i=S.U.length:=by omega
 subst hk1
 refine CW.vc Ov [0,1,2,3,4,5,6,7,60,65,78,83,96,101,114] (by kernel_rfl) ?_
 (repeat ((try refine Vc.mk' ?_);simp (maxSteps:=6000000) only [go_sem,cA,Yh,BO,Int.lt_irrefl,decide_false,DB h3]))
end Go.Proofs.YthlhnangbinhoaaGreatDoor.Dm
set_option linter.unusedVariables false
namespace Go.Proofs.YthlhnangbinhoaaGreatDoor.Dm
open Go.Dm
set_option maxHeartbeats 64000000
set_option maxRecDepth 20000
def tA(y:PR):Nat:=y.S.R.length+y.S.K.length+y.S.U.length+y.ops.length
theorem lH{x y:PR}{l:List UInt8}{i:Nat}(h:Cq x l i= .inl y):tA y≤tA x+1:=by
 unfold Cq at h
 split at h
 ·split at h
  ·cases h
  ·split at h
   ·cases h
   ·cases h;simp[tA];omega
 ·split at h
  ·cases h;exact Nat.le_succ _
  ·split at h
   ·cases h
   ·split at h
    ·cases h
    ·rename_i c S e
     cases h
     rcases lA e with⟨_,e1,e2,e3⟩ | ⟨_,el,rfl⟩ | ⟨_,el,rfl⟩ | ⟨_,el,rfl⟩ <;> simp[tA, *] <;> omega
theorem twN:(12:Int)≠0:=by decide
theorem thN:(3:Int)≠0:=by decide
theorem lG{x:PR}{e:Int×Nat}{l:List UInt8}{i:Nat}(h:Cq x l i= .inr e):e.1≠0:=by
 unfold Cq at h
 split at h
 ·split at h
  ·cases h;exact twN
  ·split at h <;> cases h
   exact thN
 ·split at h
  ·cases h
  ·split at h
   ·cases h;exact twN
   ·split at h <;> cases h
    exact twN
theorem bp:∀ {L:Ec}{x y:PR}{i:Nat},RZ x L i= .inl y→tA y≤tA x+L.length
 | [],x,y,i,h=>by cases h;exact Nat.le_refl _
 |l :: L,x,y,i,h=>by
  rw[RZ]at h
  split at h
  ·cases h
  ·rename_i z e
   have:=lH e
   have:=bp h
   rw[List.length_cons];omega
theorem bo:∀ {L:Ec}{x:PR}{e:Int×Nat}{i:Nat},RZ x L i= .inr e→e.1≠0
 | [],x,e,i,h=>by cases h
 |l :: L,x,e,i,h=>by
  rw[RZ]at h
  split at h
  ·rename_i e' q
   cases h
   exact lG q
  ·exact bo h
theorem wZ {s:List UInt8}{S:BW}{ops:List A0}(h:Vj s= .inl (S,ops)):S.R.length+S.K.length+S.U.length+ops.length≤65536:=by
 unfold Vj at h
 split at h
 ·cases h
 ·rename_i c
  split at h
  ·cases h
  ·rename_i x e
   have q:=bp e
   have hl:(li s).1.length≤s.length:=by
    have:=(M9 (s:=s) s.length (Nat.le_refl _)).2.1
    rw [Yn s]
    show (FT s s.length).1.length≤_
    omega
   have z:tA ⟨S0, [], -1, -1⟩=0:=rfl
   split at h
   ·cases h
   ·split at h <;> cases h
    unfold tA at q z;omega
theorem wY {s:List UInt8}{c:Int}{n:Nat}(h:Vj s= .inr (c,n)):c≠0:=by
 unfold Vj at h
 split at h
 ·cases h;decide
 ·split at h
  ·rename_i e;cases h;exact bo e
  ·split at h
   ·cases h;decide
   ·split at h
    ·cases h
    ·rename_i q;cases h;exact q
noncomputable def GP5:FuncId→BE:=BV GP4 32 Z1
theorem Z7:Bp Tryz.prog tt.get GP5:=Ov.add AB7
theorem yy:GP5 32=Z1:=rfl
def Ml:BE:= .pure (fun args hp=>match args with | [v,w]=> ∃S ops,QI hp v S ops∧QI hp w S ops | _=>False) (fun _ _=> .bool true)
def iv (top i:Nat):Cx:= [(2, .pointer (some ⟨top,0,none⟩),true),(3, .pointer (some ⟨top+1,0,none⟩),true),(5, .int .i64 (i:Int),true)]
def w7 (hp:Hp)(top:Nat)(S:BW)(r k u o r' k' u' o':Value)(i:Nat):SS:=⟨iv top i,hp.Ac [(top,some (.cells true 0 (Eb S r k u o))),(top+1,some (.cells true 0 (Eb S r' k' u' o')))],top+2⟩
theorem qH:Ag Tryz.prog 11 Ml:=by
 refine .EK aC ?_ ?_
 ·rintro args hp h
  match args,h with
  | [_,_],_=>rfl
 intro args hp hpre top hcl hsc
 match args,hpre with
 | [_,_],⟨S,ops,hS,hS'⟩=>
 obtain ⟨r,k,u,o,rfl,h1,h2,h3,h4⟩:=hS.ex
 obtain ⟨r',k',u',o',rfl,q1,q2,q3,q4⟩:=hS'.ex
 have l4:=hS.ol
 have s1:=h1.low hcl
 have s2:=h2.low hcl
 have s3:=h3.low hcl
 have s4:=h4.low hcl
 have z1:=q1.low hcl
 have z2:=q2.low hcl
 have z3:=q3.low hcl
 have z4:=q4.low hcl
 have hk:∀ {x y:Option A8},(∃S',H5 ((hp.set top x).set (top+1) y) (.agg ⟨[.int .i64 S.W, .int .i64 S.A, .int .i64 S.T, .int .i64 S.L,r,k,u]⟩) S'∧H5 ((hp.set top x).set (top+1) y) (.agg ⟨[.int .i64 S.W, .int .i64 S.A, .int .i64 S.T, .int .i64 S.L,r',k',u']⟩) S')=True:=fun {x y}=>by
  have q:∀ {α:Type} {E:B6 α} {v:Value} {l:List α},BF E hp v l→Sc top v→BF E ((hp.set top x).set (top+1) y) v l:=fun h hs=>(h.set hs (Nat.le_refl _)).set hs (Nat.le_succ _)
  exact eq_true ⟨S,⟨⟨r,k,u,rfl,q h1 s1,q h2 s2,q h3 s3⟩,hS.rl,hS.kl,hS.ul⟩,⟨⟨r',k',u',rfl,q q1 z1,q q2 z2,q q3 z3⟩,hS.rl,hS.kl,hS.ul⟩⟩
 refine AJ.Af Am aC rfl 39 rfl [.tmp 4] rfl (show 2≤39 by decide) ?_
 refine CW.vc Z7 [0,1,2,3,4,5,20,25,38] (by kernel_rfl) ?_
 (repeat ((try refine Vc.mk' ?_);simp (maxSteps:=6000000) only [go_sem,Eb,yy,Z1,hk,JB h4,JB q4]))
 refine CW.Bc (w7 hp top S r k u o r' k' u' o') (fun i=>i≤ops.length) (fun i=>ops.length - i) 0 (Nat.zero_le _) ?_ ?_
 ·exact (by refine Al.mk' [top,top+1] hcl (by simp) (by simp) rfl (AF ?_) ?_ ?_ <;> simp [Eb,iv,Sc.Ao (fun j hj=>AE hj) s1,Sc.Ao (fun j hj=>AE hj) s2,Sc.Ao (fun j hj=>AE hj) s3,Sc.Ao (fun j hj=>AE hj) s4,Sc.Ao (fun j hj=>AE hj) z1,Sc.Ao (fun j hj=>AE hj) z2,Sc.Ao (fun j hj=>AE hj) z3,Sc.Ao (fun j hj=>AE hj) z4])
 intro i hi
 by_cases hlt:i < ops.length
 ·have ii:((i:Int) < (ops.length:Int)):=by omega
  have kk:Ad .i64 ((i:Int)+1)=((i+1:Nat):Int):=Ae hlt (by omega)
  have hq:=fun xo yo=>vO (xo:=xo) (yo:=yo) (o:=at' ops i)
  simp only [Az] at hq
  refine CW.vc Z7 [0,1,2,3,4,5,20,25,38] (by kernel_rfl) ?_
  (repeat ((try refine Vc.mk' ?_);simp (maxSteps:=6000000) only [go_sem,w7,iv,Eb,ii,hlt,JB h4,Pv h4,U3 h4,Ab s4,Pv q4,U3 q4,Ab z4,hq,kk]))
  refine .mk (i+1) hlt (by omega) ((by refine Al.mk' [top,top+1] hcl (by simp) (by simp) rfl (AF ?_) ?_ ?_ <;> simp [Eb,iv,Sc.Ao (fun j hj=>AE hj) s1,Sc.Ao (fun j hj=>AE hj) s2,Sc.Ao (fun j hj=>AE hj) s3,Sc.Ao (fun j hj=>AE hj) s4,Sc.Ao (fun j hj=>AE hj) z1,Sc.Ao (fun j hj=>AE hj) z2,Sc.Ao (fun j hj=>AE hj) z3,Sc.Ao (fun j hj=>AE hj) z4]))
 have hk1:i=ops.length:=by omega
 subst hk1
 refine CW.vc Z7 [0,1,2,3,4,5,20,25,38] (by kernel_rfl) ?_
 (repeat ((try refine Vc.mk' ?_);simp (maxSteps:=6000000) only [go_sem,w7,iv,Eb,Int.lt_irrefl,decide_false,JB h4]))
noncomputable def xY:FuncId→BE:=BV GP5 11 Ml
theorem sX:Bp Tryz.prog tt.get xY:=Z7.add qH
theorem rr:xY 11=Ml:=rfl
theorem rm:xY 13=Qa (fun _=>True) DY:=rfl
theorem rq:xY 18=Qb:=rfl
theorem rj:xY 19=Jr:=rfl
theorem ru:xY 12=Jv:=rfl
def gq:BE:= .pure (fun args hp=>match args with | [.string ⟨⟨s⟩⟩]=>C8 hp∧hp 7=oX | _=>False) (fun _ _=> .bool true)
theorem ABe {c:Int}{n:Nat}{t:Nat}:s7 (.inr (c,n)) t=(.tuple ⟨[.agg ⟨Eb S0 (.slice none 0 0) (.slice none 0 0) (.slice none 0 0) (.slice none 0 0)⟩,Qx t]⟩, [(t,N8 c n)],t+1):=rfl
theorem ABf {S:BW}{ops:List A0}{t:Nat}:s7 (.inl (S,ops)) t=(.tuple ⟨[.agg ⟨Eb S (AA t S.R) (AA (t+1) S.K) (AA (t+2) S.U) (AA (t+3) ops)⟩, .nilIface]⟩, [(t,AD AU S.R),(t+1,AD AP S.K),(t+2,AD AO S.U),(t+3,AD Aw ops)],t+4):=rfl
theorem br {h:Hp}{a:Nat}{S:BW}{l:List A0}(hl:S.R.length+S.K.length+S.U.length+l.length≤65536)(h1:h a=AD AU S.R)(h2:h (a+1)=AD AP S.K)(h3:h (a+2)=AD AO S.U)(h4:h (a+3)=AD Aw l):QI h (.agg ⟨[.int .i64 S.W, .int .i64 S.A, .int .i64 S.T, .int .i64 S.L,AA a S.R,AA (a+1) S.K,AA (a+2) S.U,AA (a+3) l]⟩) S l:=
 ⟨⟨_,_,_,_,rfl,BF.DK h1 (by omega),BF.DK h2 (by omega),BF.DK h3 (by omega),BF.DK h4 (by omega)⟩,by omega,by omega,by omega,by omega⟩
theorem AB1 {h:Hp}:(∃S ops,QI h (.agg ⟨[.int .i64 0, .int .i64 0, .int .i64 0, .int .i64 0, .slice none 0 0, .slice none 0 0, .slice none 0 0, .slice none 0 0]⟩) S ops)=True:=
 eq_true ⟨S0, [],⟨_,_,_,_,rfl, .nils, .nils, .nils, .nils⟩,by decide,by decide,by decide,by decide⟩
theorem ACU {h:Hp}{t:Nat}{c n:Int}(hc:c≠0)(e:h t=N8 c n):YG h (.iface 51 (.pointer (some ⟨t,0,none⟩))) c n=True:=eq_true (.inr ⟨hc,t,rfl,e⟩)
theorem ACV {h:Hp}{n:Int}:YG h .nilIface 0 n=True:=eq_true (.inl ⟨rfl,rfl⟩)
theorem kJ:Ag Tryz.prog 5 gq:=by
 refine .EK ir ?_ ?_
 ·rintro args hp h
  match args,h with
  | [.string ⟨⟨s⟩⟩],_=>rfl
 intro args hp hpre top hcl hsc
 match args,hpre with
 | [.string ⟨⟨s⟩⟩],⟨hv,h7⟩=>
 have hp1:=hv.1
 have ht1:=hcl.lt _ _ hp1
 have ht5:=Em hcl hv
 have h70:=hcl.lt _ _ h7
 have hR:=wX s
 refine AJ.Af Am ir rfl 28 rfl [.tmp 2] rfl (show 1≤28 by decide) ?_
 cases ho:Vj s with
 |inl x=>
  obtain ⟨S,l⟩:=x
  have hl:=wZ ho
  rw [ho] at hR
  refine CW.vc sX [0,2,3,4,5,6] (by kernel_rfl) ?_
  have hE:∀ {h':Hp} {a b:Nat},h' a=AD AU S.R→h' (a+1)=AD AP S.K→h' (a+2)=AD AO S.U→h' (a+3)=AD Aw l→h' b=AD AU S.R→h' (b+1)=AD AP S.K→h' (b+2)=AD AO S.U→h' (b+3)=AD Aw l→(∃S' ops,QI h' (.agg ⟨[.int .i64 S.W, .int .i64 S.A, .int .i64 S.T, .int .i64 S.L,AA a S.R,AA (a+1) S.K,AA (a+2) S.U,AA (a+3) l]⟩) S' ops∧QI h' (.agg ⟨[.int .i64 S.W, .int .i64 S.A, .int .i64 S.T, .int .i64 S.L,AA b S.R,AA (b+1) S.K,AA (b+2) S.U,AA (b+3) l]⟩) S' ops)=True:=fun x1 x2 x3 x4 y1 y2 y3 y4=>eq_true ⟨S,l,br hl x1 x2 x3 x4,br hl y1 y2 y3 y4⟩
  (repeat ((try refine Vc.mk' ?_);simp (maxSteps:=6000000) only [go_sem,rr,rm,rq,rj,ru,Ml,Qa,Qb,Jr,Jv,hv,h7,Bw h70,CR ht5,FO ht5,AH,←hR,ho,tF,ABf,Eb,ia,hE,ACV]))
 |inr x=>
  obtain ⟨c,n⟩:=x
  have hc:=wY ho
  rw [ho] at hR
  refine CW.vc sX [0,2,3,4,5,6] (by kernel_rfl) ?_
  (repeat ((try refine Vc.mk' ?_);simp (maxSteps:=6000000) only [go_sem,rr,rm,rq,rj,ru,Ml,Qa,Qb,Jr,Jv,hv,h7,Bw h70,CR ht5,FO ht5,AH,←hR,ho,XJ,ABe,wg,Eb,S0,ia,Qx,AB1,ACU hc]))
end Go.Proofs.YthlhnangbinhoaaGreatDoor.Dm
