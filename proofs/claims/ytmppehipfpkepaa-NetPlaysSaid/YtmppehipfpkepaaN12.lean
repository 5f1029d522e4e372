/- The Bc: Contains of numbers, Mend, Start. -/
import Derived.Test.YtmppehipfpkepaaN8
set_option linter.unusedVariables false
namespace Go.Proofs.Ytmppehipfpkepaa.Dm
open Go.Dm
set_option maxHeartbeats 16000000
set_option maxRecDepth 20000
def GR (x a:Int):Bool:=decide (x=a)
def ye (l:List Int)(x:Int):Int:=if l.any (GR x) then (l.findIdx (GR x):Int) else -1
def Oy:Bp:= .pure (fun args hp=>match args with | [v,n]=>Dp Ab hp v∧EO .i64 n | _=>False) (fun args hp=>match args with | [v,n]=> .int .i64 (ye (Ab.rd hp v) (intOf n)) | _=>undef)
def sk (hp:Hp)(top:Nat)(v:Value)(x:Int)(n i:Nat):SS:=⟨[(0,v,true),(1, .int .i64 x,true),(7, .int .i64 (n:Int),true),(8, .int .i64 (i:Int),true)],hp.AZ [],top+0⟩
theorem TU:BK Try.prog 66 Oy:=by
 refine .Gx XV ?_ ?_
 ·intro args hp h
  match args,h with
  | [v,n],_=>rfl
 intro args hp hpre top hcl hsc
 match args,hpre with
 | [v,n],⟨⟨l,h⟩,hx⟩=>
 rw [hx]
 generalize intOf n=x
 have hs:=h.low hcl
 simp only [h.rd,BA]
 refine AL.Au BE XV rfl 19 rfl [.tmp 4] rfl (show 2≤19 by decide) ?_
 refine CW.vc My [0,1,4,5,7,8,9,16] (by kernel_rfl) ?_
 (repeat ((try refine Vc.mk' ?_);simp only [go_sem,Bs h]))
 refine CW.CZ (sk hp top v x l.length) (fun i=>i≤l.length∧∀j,j < i→GR x (Aj l j)=false) (fun i=>l.length - i) 0 ⟨Nat.zero_le _,fun j hj=>absurd hj (Nat.not_lt_zero _)⟩ ?_ ?_
 ·exact (by refine BO.mk' [] hcl (by simp) (by simp) rfl (AV ?_) ?_ ?_ <;> simp [Ax,Cd,Ad,AD.nil,AE.refl,Sc.Ad (fun j hj=>AA hj) hs])
 ·rintro i ⟨hi,hm⟩
  by_cases hlt:i < l.length
  ·by_cases hc:x=Aj l i
   ·have h1:l.any (GR x)=true:=List.any_eq_true.2 ⟨_,at_mem hlt,by simp [GR,←hc]⟩
    have h2:l.findIdx (GR x)=i:=by
     rw [List.findIdx_eq hlt]
     refine ⟨by rw [←Bj _ _ hlt];simp [GR,←hc],fun j hj=> ?_⟩
     have:=hm j hj
     rwa [Bj _ _ (by omega)] at this
    have e:ye l x=(i:Int):=by unfold ye;rw [if_pos h1,h2]
    refine CW.vc My [0,1,4,5,7,8,9,16] (by kernel_rfl) ?_
    (repeat ((try refine Vc.mk' ?_);simp only [go_sem,CN h,DM h,sk,hlt,←hc,e]))
   ·refine CW.vc My [0,1,4,5,7,8,9,16] (by kernel_rfl) ?_
    (repeat ((try refine Vc.mk' ?_);simp only [go_sem,CN h,DM h,sk,hlt,hc]))
    refine .mk (i+1) ⟨hlt,fun j hj=> ?_⟩ (by omega) ((by refine BO.mk' [] hcl (by simp) (by simp) rfl (AV ?_) ?_ ?_ <;> simp [Ax,Cd,Ad,AD.nil,AE.refl,Sc.Ad (fun j hj=>AA hj) hs,Av hlt h.le]))
    by_cases e:j < i
    ·exact hm j e
    ·have:j=i:=by omega
     subst this;simp [GR,hc]
  ·have hi2:i=l.length:=by omega
   subst hi2
   have e:ye l x= -1:=by
    unfold ye
    rw [if_neg]
    intro c
    obtain ⟨a,ha,hb⟩:=List.any_eq_true.1 c
    obtain ⟨j,hj,rfl⟩:=List.getElem_of_mem ha
    have:=hm j hj
    rw [Bj _ _ hj,hb] at this;cases this
   refine CW.vc My [0,1,4,5,7,8,9,16] (by kernel_rfl) ?_
   (repeat ((try refine Vc.mk' ?_);simp only [go_sem,sk,Nat.lt_irrefl,decide_false,e]))
def HV:Bp:= .pure (fun args hp=>match args with | [v,n]=>Dp Ab hp v∧EO .i64 n | _=>False) (fun args hp=>match args with | [v,n]=> .bool ((Ab.rd hp v).any (GR (intOf n))) | _=>undef)
noncomputable def pD:FuncId→Bp:=Bu Qy 66 Oy
theorem dM:Cf Try.prog tt.get pD:=My.add TU
theorem xg:pD 66=Oy:=rfl
theorem xI:BK Try.prog 37 HV:=by
 refine .Gx YJ ?_ ?_
 ·intro args hp h
  match args,h with
  | [v,n],_=>rfl
 intro args hp hpre top hcl hsc
 match args,hpre with
 | [v,n],⟨⟨l,h⟩,hx⟩=>
 rw [hx]
 generalize intOf n=x
 have hs:=h.low hcl
 have hP:Dp Ab hp v=True:=h.P
 have hR:=h.rd
 simp only [h.rd,BA]
 refine AL.Au BE YJ rfl 9 rfl [.tmp 4] rfl (show 2≤9 by decide) ?_
 have e:(!decide (ye l x < 0))=l.any (GR x):=by
  unfold ye
  cases c:l.any (GR x) with
  |true=>simp
  |false=>simp
 refine CW.vc dM [0,1,4] (by kernel_rfl) ?_
 (repeat ((try refine Vc.mk' ?_);simp only [go_sem,xg,Oy,hP,hR,e]))
noncomputable def Zj:FuncId→Bp:=Bu pD 37 HV
theorem LU:Cf Try.prog tt.get Zj:=dM.add xI
theorem Vv:Zj 37=HV:=rfl
theorem KX:Zj 29=Ba:=rfl
theorem Ry:Zj 30=B3:=rfl
/-! ### Mend -/
def Mg (s:Ak)(a b:Int):Bool:=(BV s.C (pk a b)).getD false
def D2 (s:Ak)(a:Int):Bool:=(BV s.S a).getD false
def Lg (s:Ak)(a b:Int):Int:=if DX s a b=0 then 2 else if Mg s a b=false then 6 else 0
def Gv (n:Nat)(s:Ak)(a b:Int):BC:=if Lg s a b=0 then [(n+2,some (.map (BR (Ix s.C (pk a b))) s.cc))] else []
noncomputable def Rh:Bp:= .det (fun args hp _=>match args with | [.pointer (some ⟨n,0,none⟩),a,b]=>F2 hp n∧EO .i64 a∧EO .i64 b | _=>False) (fun args hp top=>match args with
 | [.pointer (some ⟨n,_,_⟩),a,b]=>(.int .i64 (Lg (Im hp n) (intOf a) (intOf b)),Gv n (Im hp n) (intOf a) (intOf b),top) | _=>(undef, [],top))
theorem tD:BK Try.prog 16 Rh:=by
 refine .Cc Vi ?_
 intro args hp top hpre hcl hsc
 match args,hpre with
 | [.pointer (some ⟨n,0,none⟩),a,b],⟨⟨lv,s,h⟩,ha,hb⟩=>
 rw [ha,hb]
 generalize intOf a=a,intOf b=b
 simp only [h.s,BA]
 have hlow:=h.low hcl
 have n0:n < top:=by omega
 have n1:n+1 < top:=by omega
 have n2:n+2 < top:=by omega
 have hh:=h.h
 have hL:=h.L
 have hC:=h.C
 have his':∀ {o},F2 (hp.set top o) n=True:=fun {o}=>(h.BT hcl fun i hi=>AS hi (Nat.le_refl _)).is
 refine AL.Au BE Vi rfl 35 rfl [.tmp 6] rfl (show 3≤35 by decide) ?_
 by_cases c1:DX s a b=0
 ·have c1':(BV s.L ⟨min a b,max a b⟩).getD default=0:=c1
  have e:Lg s a b=2:=by unfold Lg;rw [if_pos c1]
  refine CW.vc LU [0,1,2,6,7,11,14,22] (by kernel_rfl) ?_
  (repeat ((try refine Vc.mk' ?_);simp only [go_sem,Nat.reduceAdd,Nat.reduceLT,hh,Bi,hL,KX,Ba,his',Ry,B3,AS n0,AS n1,c1']))
  simp only [e,Gv]
  (refine ⟨[],by simp,by simp,by simp, ?_, ?_, ?_⟩ <;> simp [Ad,AD.nil,AE.set,AE.refl])
 have c1':¬(BV s.L ⟨min a b,max a b⟩).getD default=0:=c1
 cases c2:Mg s a b with
 |false=>
  have c2':(BV s.C ⟨min a b,max a b⟩).getD default=false:=c2
  have e:Lg s a b=6:=by unfold Lg;rw [if_neg c1,if_pos c2]
  refine CW.vc LU [0,1,2,6,7,11,14,22] (by kernel_rfl) ?_
  (repeat ((try refine Vc.mk' ?_);simp only [go_sem,Nat.reduceAdd,Nat.reduceLT,hh,Bi,hL,hC,KX,Ba,his',Ry,B3,AS n0,AS n1,AS n2,c1',c2']))
  simp only [e,Gv]
  (refine ⟨[],by simp,by simp,by simp, ?_, ?_, ?_⟩ <;> simp [Ad,AD.nil,AE.set,AE.refl])
 |true=>
  have c2':(BV s.C ⟨min a b,max a b⟩).getD default=true:=c2
  have e:Lg s a b=0:=by unfold Lg;rw [if_neg c1,if_neg (by rw [c2];simp)]
  have m2:¬top=n+2:=by omega
  refine CW.vc LU [0,1,2,6,7,11,14,22] (by kernel_rfl) ?_
  (repeat ((try refine Vc.mk' ?_);simp only [go_sem,Nat.reduceAdd,Nat.reduceLT,hh,Bi,hL,hC,KX,Ba,his',Ry,B3,AS n0,AS n1,AS n2,c1',c2']))
  simp only [e,Gv,if_true]
  (refine ⟨[],by simp,by simp,by simp, ?_, ?_, ?_⟩ <;> simp [Ad,AD.nil,AD.cons,AF,BZ,AB,AE.set,AE.B5,AE.refl,Cn,AA n2,pk])
end Go.Proofs.Ytmppehipfpkepaa.Dm
/- The Bc: Start; what Mend and Start leave is a Bc. -/
set_option linter.unusedVariables false
namespace Go.Proofs.Ytmppehipfpkepaa.Dm
open Go.Dm
set_option maxHeartbeats 16000000
set_option maxRecDepth 20000
def NK (s:Ak)(a:Int):Bool:=s.R.any (GR a)
def IV (s:Ak)(a:Int):Int:=if NK s a=false then 2 else if D2 s a=false then 6 else 0
def Eu (n:Nat)(s:Ak)(a:Int):BC:=if IV s a=0 then [(n+3,some (.map (Br (Ix s.S a)) s.sc))] else []
noncomputable def Ob:Bp:= .det (fun args hp _=>match args with | [.pointer (some ⟨n,0,none⟩),a]=>F2 hp n∧EO .i64 a | _=>False) (fun args hp top=>match args with
 | [.pointer (some ⟨n,_,_⟩),a]=>(.int .i64 (IV (Im hp n) (intOf a)),Eu n (Im hp n) (intOf a),top) | _=>(undef, [],top))
theorem BW.sR {hp:Hp}{n:Nat}{lv:Value}{s:Ak}(h:BW hp n lv s):BU Ab hp (AK (n+7) s.R) s.R:=by
 by_cases c:s.R= []
 ·rw [c];exact .nils
 ·exact .own (h.R c) (by have:=h.rn;omega)
theorem ni:BK Try.prog 18 Ob:=by
 refine .Cc WD ?_
 intro args hp top hpre hcl hsc
 match args,hpre with
 | [.pointer (some ⟨n,0,none⟩),a],⟨⟨lv,s,h⟩,ha⟩=>
 rw [ha]
 generalize intOf a=a
 simp only [h.s,BA]
 have hlow:=h.low hcl
 have n0:n < top:=by omega
 have n3:n+3 < top:=by omega
 have hh:=h.h
 have hS:=h.S
 have his:=h.is
 have rP:Dp Ab hp (AK (n+7) s.R)=True:=h.sR.P
 have rR:Ab.rd hp (AK (n+7) s.R)=s.R:=h.sR.rd
 refine AL.Au BE WD rfl 29 rfl [.tmp 4] rfl (show 2≤29 by decide) ?_
 cases c1:NK s a with
 |false=>
  have c1':s.R.any (GR a)=false:=c1
  have e:IV s a=2:=by unfold IV;rw [if_pos c1]
  refine CW.vc LU [0,1,4,5,8,16] (by kernel_rfl) ?_
  (repeat ((try refine Vc.mk' ?_);simp only [go_sem,Nat.reduceAdd,hh,Bi,KX,Ba,his,Vv,HV,rP,rR,c1']))
  simp only [e,Eu]
  (refine ⟨[],by simp,by simp,by simp, ?_, ?_, ?_⟩ <;> simp [Ad,AD.nil,AE.refl])
 |true=>
 have c1':s.R.any (GR a)=true:=c1
 cases c2:D2 s a with
 |false=>
  have c2':(BV s.S a).getD default=false:=c2
  have e:IV s a=6:=by unfold IV;rw [if_neg (by rw [c1];simp),if_pos c2]
  refine CW.vc LU [0,1,4,5,8,16] (by kernel_rfl) ?_
  (repeat ((try refine Vc.mk' ?_);simp only [go_sem,Nat.reduceAdd,Nat.reduceLT,hh,Bi,hS,KX,Ba,his,Vv,HV,rP,rR,c1',c2']))
  simp only [e,Eu]
  (refine ⟨[],by simp,by simp,by simp, ?_, ?_, ?_⟩ <;> simp [Ad,AD.nil,AE.refl])
 |true=>
  have c2':(BV s.S a).getD default=true:=c2
  have e:IV s a=0:=by unfold IV;rw [if_neg (by rw [c1];simp),if_neg (by rw [c2];simp)]
  have m3:¬top=n+3:=by omega
  refine CW.vc LU [0,1,4,5,8,16] (by kernel_rfl) ?_
  (repeat ((try refine Vc.mk' ?_);simp only [go_sem,Nat.reduceAdd,Nat.reduceLT,hh,Bi,hS,KX,Ba,his,Vv,HV,rP,rR,c1',c2']))
  simp only [e,Eu,if_true]
  (refine ⟨[],by simp,by simp,by simp, ?_, ?_, ?_⟩ <;> simp [Ad,AD.nil,AD.cons,AF,BZ,AB,AE.B5,AE.refl,C9,AA n3])
/-! ### what they leave -/
def Ng (s:Ak)(a b:Int):Ak:=if Lg s a b=0 then {s with C:=Ix s.C (pk a b)} else s
def LZ (s:Ak)(a:Int):Ak:=if IV s a=0 then {s with S:=Ix s.S a} else s
theorem BW.apart {hp:Hp}{n:Nat}{lv:Value}{s:Ak}(h:BW hp n lv s):DQ n lv∧DQ (n+1) lv∧DQ (n+2) lv∧DQ (n+3) lv∧DQ (n+4) lv∧DQ (n+5) lv∧DQ (n+6) lv∧(s.R≠ []→DQ (n+7) lv):=by
 refine ⟨h.W.off (j:=n) fun vs e=> ?_,h.W.off (j:=n+1) fun vs e=> ?_,h.W.off (j:=n+2) fun vs e=> ?_,h.W.off (j:=n+3) fun vs e=> ?_,h.W.off (j:=n+4) fun vs e=> ?_,h.W.off (j:=n+5) fun vs e=> ?_,h.W.ap,fun hr=>h.W.off (j:=n+7) fun vs e=> ?_⟩
 ·rw [h.h] at e;exact absurd (EB e) (by decide)
 ·rw [h.L] at e;cases e
 ·rw [h.C] at e;cases e
 ·rw [h.S] at e;cases e
 ·rw [h.P] at e;exact absurd (EB e) (by decide)
 ·rw [h.M] at e;cases e
 ·rw [h.R hr] at e
  cases hl:s.R with
  |nil=>exact hr hl
  |cons x l=>rw [hl] at e;exact absurd (EB e) (by decide)
theorem BW.jK {hp:Hp}{n:Nat}{lv:Value}{s:Ak}(h:BW hp n lv s)(m:DA)(c:Nat):BW (hp.set (n+2) (some (.map (BR m) c))) n lv {s with C:=m,cc:=c}:=by
 have hA:=h.apart.2.2.1
 refine ⟨(AH _ _ _ _ (by omega)).trans h.h,(AH _ _ _ _ (by omega)).trans h.L,AB ..,(AH _ _ _ _ (by omega)).trans h.S,(AH _ _ _ _ (by omega)).trans h.P,(AH _ _ _ _ (by omega)).trans h.M,h.pl,⟨(AH _ _ _ _ (by omega)).trans h.W.h,h.W.o.mono fun b k x e=>AH _ _ _ _ (by subst e;exact fun e=>hA e.symm),h.W.up,h.W.tk,h.W.l0,h.W.l1,h.W.n⟩,fun hr=>(AH _ _ _ _ (by omega)).trans (h.R hr),h.rn,h.T8,h.T7,h.RO,h.UN⟩
theorem BW.fi {hp:Hp}{n:Nat}{lv:Value}{s:Ak}(h:BW hp n lv s)(m:Db)(c:Nat):BW (hp.set (n+3) (some (.map (Br m) c))) n lv {s with S:=m,sc:=c}:=by
 have hA:=h.apart.2.2.2.1
 refine ⟨(AH _ _ _ _ (by omega)).trans h.h,(AH _ _ _ _ (by omega)).trans h.L,(AH _ _ _ _ (by omega)).trans h.C,AB ..,(AH _ _ _ _ (by omega)).trans h.P,(AH _ _ _ _ (by omega)).trans h.M,h.pl,⟨(AH _ _ _ _ (by omega)).trans h.W.h,h.W.o.mono fun b k x e=>AH _ _ _ _ (by subst e;exact fun e=>hA e.symm),h.W.up,h.W.tk,h.W.l0,h.W.l1,h.W.n⟩,fun hr=>(AH _ _ _ _ (by omega)).trans (h.R hr),h.rn,h.T8,h.T7,h.RO,h.UN⟩
theorem BW.UK {hp:Hp}{n:Nat}{lv:Value}{s:Ak}(h:BW hp n lv s)(a b:Int):BW (hp.AZ (Gv n s a b)) n lv (Ng s a b):=by
 unfold Gv Ng
 split
 ·exact h.jK _ _
 ·exact h
theorem BW.start {hp:Hp}{n:Nat}{lv:Value}{s:Ak}(h:BW hp n lv s)(a:Int):BW (hp.AZ (Eu n s a)) n lv (LZ s a):=by
 unfold Eu LZ
 split
 ·exact h.fi _ _
 ·exact h
end Go.Proofs.Ytmppehipfpkepaa.Dm
/- The Bc: what lost asks of each message on its way. -/
set_option linter.unusedVariables false
namespace Go.Proofs.Ytmppehipfpkepaa.Dm
open Go.Dm
set_option maxHeartbeats 16000000
set_option maxRecDepth 20000
/-! ### up,of a Bc whose calendar is under work -/
structure OH (hp:Hp) (n:Nat) (s:Ak):Prop where
 h:∃rv pv lav nwv wv,hp n=some (.cells true 0 [rv, .map (some (n+1)), .map (some (n+2)), .map (some (n+3)),pv,lav,nwv,wv])
 L:hp (n+1)=some (.map (Bq s.L) s.lc)
 C:hp (n+2)=some (.map (BR s.C) s.cc)
 S:hp (n+3)=some (.map (Br s.S) s.sc)
def IP:Option BB→List MapEntry
 |some (.map es _)=>es
 |_=> []
def iB (hp:Hp)(n:Nat)(a b:Int):Bool:=decide (0 < (BV (Hr (IP (hp (n+1)))) (pk a b)).getD 0) && !((BV (Gs (IP (hp (n+2)))) (pk a b)).getD false) && !((BV (F1 (IP (hp (n+3)))) a).getD false) && !((BV (F1 (IP (hp (n+3)))) b).getD false)
theorem OH.eq {hp:Hp}{n:Nat}{s:Ak}(h:OH hp n s){a b:Int}:iB hp n a b=GQ s a b:=by
 unfold iB
 rw [h.L,h.C,h.S]
 simp only [IP,Hf,Gg,HI]
 rfl
theorem BW.up {hp:Hp}{n:Nat}{lv:Value}{s:Ak}(h:BW hp n lv s):OH hp n s:=⟨⟨_,_,_,_,_,h.h⟩,h.L,h.C,h.S⟩
def Qf:Bp:= .pure (fun args hp=>match args with | [.pointer (some ⟨n,0,none⟩),x,y]=>(∃s,OH hp n s)∧EO .i64 x∧EO .i64 y | _=>False) (fun args hp=>match args with | [.pointer (some ⟨n,_,_⟩),x,y]=> .bool (iB hp n (intOf x) (intOf y)) | _=>undef)
theorem yv:BK Try.prog 31 Qf:=by
 refine .Gx Ok ?_ ?_
 ·intro args hp h
  match args,h with
  | [.pointer (some ⟨n,0,none⟩),x,y],_=>rfl
 intro args hp hpre top hcl hsc
 match args,hpre with
 | [.pointer (some ⟨n,0,none⟩),x,y],⟨⟨s,h⟩,hx,hy⟩=>
 rw [hx,hy]
 generalize intOf x=x,intOf y=y
 simp only [h.eq,BA]
 have n3:n+3 < top:=hcl.lt _ _ h.S
 have n0:n < top:=by omega
 have n1:n+1 < top:=by omega
 have n2:n+2 < top:=by omega
 obtain ⟨rv,pv,lav,nwv,wv,hh⟩:=h.h
 have hL:=h.L
 have hC:=h.C
 have hS:=h.S
 refine AL.Au BE Ok rfl 45 rfl [.tmp 6] rfl (show 3≤45 by decide) ?_
 by_cases c1:0 < (BV s.L ⟨min x y,max x y⟩).getD default
 case neg=>
  have e:GQ s x y=false:=by unfold GQ DX pk;rw [show decide (0 < (BV s.L ⟨min x y,max x y⟩).getD 0)=false from decide_eq_false c1];simp
  rw [e]
  refine CW.vc JL [0,1,2,6,7] (by kernel_rfl) ?_
  (repeat ((try refine Vc.mk' ?_);simp only [go_sem,Nat.reduceAdd,Nat.reduceLT,hh,hL,Ho,B3,AS n0,AS n1,c1]))
 have e1:decide (0 < (BV s.L ⟨min x y,max x y⟩).getD 0)=true:=decide_eq_true c1
 cases c2:(BV s.C ⟨min x y,max x y⟩).getD default with
 |true=>
  have e:GQ s x y=false:=by unfold GQ DX pk;rw [show (BV s.C ⟨min x y,max x y⟩).getD false=true from c2];simp
  rw [e]
  refine CW.vc JL [0,1,2,6,7] (by kernel_rfl) ?_
  (repeat ((try refine Vc.mk' ?_);simp only [go_sem,Nat.reduceAdd,Nat.reduceLT,hh,hL,hC,Ho,B3,AS n0,AS n1,AS n2,c1,c2]))
 |false=>
 cases c3:(BV s.S x).getD default with
 |true=>
  have e:GQ s x y=false:=by unfold GQ DX pk;rw [show (BV s.S x).getD false=true from c3];simp
  rw [e]
  refine CW.vc JL [0,1,2,6,7] (by kernel_rfl) ?_
  (repeat ((try refine Vc.mk' ?_);simp only [go_sem,Nat.reduceAdd,Nat.reduceLT,hh,hL,hC,hS,Ho,B3,AS n0,AS n1,AS n2,AS n3,c1,c2,c3]))
 |false=>
 cases c4:(BV s.S y).getD default with
 |true=>
  have e:GQ s x y=false:=by unfold GQ DX pk;rw [show (BV s.S y).getD false=true from c4];simp
  rw [e]
  refine CW.vc JL [0,1,2,6,7] (by kernel_rfl) ?_
  (repeat ((try refine Vc.mk' ?_);simp only [go_sem,Nat.reduceAdd,Nat.reduceLT,hh,hL,hC,hS,Ho,B3,AS n0,AS n1,AS n2,AS n3,c1,c2,c3,c4]))
 |false=>
  have e:GQ s x y=true:=by unfold GQ DX pk;rw [e1,show (BV s.C ⟨min x y,max x y⟩).getD false=false from c2,show (BV s.S x).getD false=false from c3,show (BV s.S y).getD false=false from c4];rfl
  rw [e]
  refine CW.vc JL [0,1,2,6,7] (by kernel_rfl) ?_
  (repeat ((try refine Vc.mk' ?_);simp only [go_sem,Nat.reduceAdd,Nat.reduceLT,hh,hL,hC,hS,Ho,B3,AS n0,AS n1,AS n2,AS n3,c1,c2,c3,c4]))
noncomputable def mL:FuncId→Bp:=Bu Zj 31 Qf
theorem RX:Cf Try.prog tt.get mL:=LU.add yv
theorem bU:mL 31=Qf:=rfl
/-- the function that lost hands to Sift:the net's cell,the list's cell -/
def Na (nb ob:Nat):Value:= .func (.func 65) ⟨[]⟩ ⟨[.pointer (some ⟨nb,0,none⟩), .pointer (some ⟨ob,0,none⟩)]⟩
def v5:Value→Nat
 | .pointer (some ⟨b,_,_⟩)=>b
 |_=>0
def ER (hp:Hp)(nb:Nat):Nat:=v5 ((cellsOf (hp nb)).headD undef)
def fZ (hp:Hp)(ab:Nat):Value:=(cellsOf (hp ab)).headD undef
def wD:Value→Nat
 | .slice (some ⟨b,_,_⟩) _ _=>b
 |_=>0
def dx (hp:Hp)(ab:Nat):Prop:= ∃q m,hp ab=some (.cells true 0 [AK q m])∧(m≠ []→hp q=AO AJ m)∧m.length < 16777216
def Gf (hp:Hp)(ab:Nat)(s:Ae)(top:Nat):BC:=
 (ab,some (.cells true 0 [AK top (AJ.rd hp (fZ hp ab) ++ [s])])) :: Em (wD (fZ hp ab)) (AJ.rd hp (fZ hp ab)) top (AO AJ (AJ.rd hp (fZ hp ab) ++ [s]))
theorem kx {q top:Nat}{m:List Ae}{o:Option BB}:Em (wD (AK q m)) m top o=Em q m top o:=by cases m <;> rfl
theorem Fj {hp:Hp}{ab q:Nat}{m:List Ae}{s:Ae}{top:Nat}(h:hp ab=some (.cells true 0 [AK q m]))(h2:m≠ []→hp q=AO AJ m)(h3:m.length < 16777216) :
  Gf hp ab s top=(ab,some (.cells true 0 [AK top (m ++ [s])])) :: Em q m top (AO AJ (m ++ [s])):=by
 have e:fZ hp ab=AK q m:=by unfold fZ;rw [h];rfl
 have er:AJ.rd hp (AK q m)=m:=by
  by_cases hm:m= []
  ·subst hm;exact BU.nils.rd
  ·exact (BU.own (h2 hm) (by omega)).rd
 unfold Gf
 rw [e,er,kx]
theorem Rf {q top:Nat}{m:List Ae}{o:Option BB}(h:m≠ []):Em q m top o= [(q,none),(top,o)]:=by
 cases m with
 |nil=>exact absurd rfl h
 |cons a m=>rfl
def Ki:Bp:= .det (fun args hp _=>match args with | [.agg ⟨p⟩, .pointer (some ⟨nb,0,none⟩), .pointer (some ⟨ob,0,none⟩)]=>AJ.enc (AJ.dec p)=p∧(∃n,hp nb=some (.cells true 0 [.pointer (some ⟨n,0,none⟩)])∧∃s,OH hp n s)∧dx hp ob | _=>False)
 (fun args hp top=>match args with | [.agg ⟨p⟩, .pointer (some ⟨nb,_,_⟩), .pointer (some ⟨ob,_,_⟩)]=>if iB hp (ER hp nb) (AJ.dec p).B2 (AJ.dec p).To then (.bool true, [],top) else (.bool false,Gf hp ob (AJ.dec p) top,top+1) | _=>(undef, [],top))
theorem np:BK Try.prog 65 Ki:=by
 refine .Cc YU ?_
 intro args hp top hpre hcl hsc
 match args,hpre with
 | [.agg ⟨p⟩, .pointer (some ⟨nb,0,none⟩), .pointer (some ⟨ob,0,none⟩)],⟨hx,⟨n,h4,s,hN⟩,⟨q,m,h1,h2,h3⟩⟩=>
 generalize AJ.dec p=x at hx
 subst hx
 have hot:ob < top:=hcl.lt _ _ h1
 have hnt:nb < top:=hcl.lt _ _ h4
 have hno:¬nb=ob:=fun e=>by
  rw [e,h1] at h4
  cases m <;> simp [AK] at h4
 have hot1:¬top+1=ob:=by omega
 have hot0:¬top=ob:=by omega
 have hot2:¬top+2=ob:=by omega
 have nn3:n+3 < top:=hcl.lt _ _ hN.S
 have hk:∀ {o},OH (hp.set top o) n s:=fun {o}=>by
  obtain ⟨rv,pv,lav,nwv,wv,hh⟩:=hN.h
  exact ⟨⟨rv,pv,lav,nwv,wv,(AH _ _ _ _ (by omega)).trans hh⟩,(AH _ _ _ _ (by omega)).trans hN.L,(AH _ _ _ _ (by omega)).trans hN.C,(AH _ _ _ _ (by omega)).trans hN.S⟩
 have his:(∃s,OH hp n s)=True:=eq_true ⟨s,hN⟩
 have his2:∀ {o},(∃s,OH (hp.set top o) n s)=True:=fun {o}=>eq_true ⟨s,hk⟩
 have hs1:∀ {a b},iB hp n a b=GQ s a b:=fun {a b}=>hN.eq
 have hs2:∀ {o a b},iB (hp.set top o) n a b=GQ s a b:=fun {o a b}=>(hk (o:=o)).eq
 have hnetc:ER hp nb=n:=by unfold ER;rw [h4];rfl
 simp only [hnetc,hs1,Fj h1 h2 h3]
 refine AL.Au BE YU rfl 15 rfl [.tmp 4] rfl (show 3≤15 by decide) ?_
 cases c:GQ s x.B2 x.To with
 |true=>
  refine CW.vc RX [0,1,2,3,4,10] (by kernel_rfl) ?_
  (repeat ((try refine Vc.mk' ?_);simp only [go_sem,Nat.reduceAdd,h4,bU,Qf,his2,hs2,EW,c,AS hnt]))
  (refine ⟨[],by simp,by simp,by simp, ?_, ?_, ?_⟩ <;> simp [Ad,AD.nil,AE.set,AE.refl])
 |false=>
  by_cases hm:m= []
  ·subst hm
   rw [Dh] at h1
   refine CW.vc RX [0,1,2,3,4,10] (by kernel_rfl) ?_
   (repeat ((try refine Vc.mk' ?_);simp only [go_sem,Nat.reduceAdd,Nat.reduceMul,Nat.reduceLeDiff,h1,h4,bU,Qf,his2,hs2,EW,c,AS hot,AS hnt]))
   simp only [Em]
   (refine ⟨[top+2],by simp,by simp,by simp, ?_, ?_, ?_⟩ <;> simp [Ad,Ag,AD.nil,AD.cons,AF,AG,AQ,AM,Af,AB,AH,AE.set,AE.B5,AE.refl,AA hot,hot2])
  ·replace h2:=h2 hm
   have hqt:q < top:=by
    cases m with
    |nil=>exact absurd rfl hm
    |cons a m=>exact hcl.lt _ _ h2
   have hc:∀ {b:Nat},BS (AK b (m ++ [x]))= [AK b (m ++ [x])]:=fun {b}=>by cases m <;> rfl
   have ho:∀ {b:Nat},(AK b (m ++ [x])).oneCell' = true:=fun {b}=>by cases m <;> rfl
   have hqa:¬q=ob:=fun e=>by
    rw [e,h1] at h2
    cases m with
    |nil=>exact hm rfl
    |cons a m=>simp only [AO,Option.some.injEq,BB.cells.injEq] at h2;exact absurd h2.2.1 (by decide)
   have haq:¬ob=q:=fun e=>hqa e.symm
   have hqn:¬nb=q:=fun e=>by
    rw [←e,h4] at h2
    cases m with
    |nil=>exact hm rfl
    |cons a m=>simp only [AO,Option.some.injEq,BB.cells.injEq] at h2;exact absurd h2.2.1 (by decide)
   refine CW.vc RX [0,1,2,3,4,10] (by kernel_rfl) ?_
   (repeat ((try refine Vc.mk' ?_);simp only [go_sem,Nat.reduceAdd,Nat.reduceMul,Nat.reduceLeDiff,h1,h4,bU,Qf,his2,hs2,EW,c,h2,h3,AS hot,AS hnt,AS hqt,hc,ho,haq]))
   rw [Rf hm]
   (refine ⟨[top+2],by simp,by simp,by simp, ?_, ?_, ?_⟩ <;> simp [Ad,Ag,AD.nil,AD.cons,AF,AG,AQ,AM,Af,AB,AH,AE.set,AE.B5,AE.refl,AA hot,AA hqt,hot2,hqa,haq])
end Go.Proofs.Ytmppehipfpkepaa.Dm
/- The Bc: what Sift asks of each thing, when it sifts for lost. -/
set_option linter.unusedVariables false
namespace Go.Proofs.Ytmppehipfpkepaa.Dm
open Go.Dm
set_option maxHeartbeats 16000000
set_option maxRecDepth 20000
noncomputable def kn:FuncId→Bp:=Bu mL 65 Ki
theorem Re:Cf Try.prog tt.get kn:=RX.add np
theorem cg:kn 65=Ki:=rfl
def ACV (hp:Hp)(kv:Value)(x:Ae)(top:Nat):Value×BC×Nat:=match kv with
 | .func _ _ ⟨[.pointer (some ⟨nb,_,_⟩), .pointer (some ⟨ob,_,_⟩)]⟩=>if iB hp (ER hp nb) x.B2 x.To then (.bool false, [],top) else (.bool true,Gf hp ob x top,top+1)
 |_=>(undef, [],top)
def wo (hp:Hp)(b:Nat)(x:Ae)(top:Nat):Value×BC×Nat:=ACV hp ((cellsOf (hp b)).headD undef) x top
structure GI (hp:Hp) (b nb ob n:Nat) (s:Ak):Prop where
 b:hp b=some (.cells true 0 [Na nb ob])
 nb:hp nb=some (.cells true 0 [.pointer (some ⟨n,0,none⟩)])
 up:OH hp n s
def mo (hp:Hp)(b:Nat):Prop:= ∃nb ob n s,GI hp b nb ob n s∧dx hp ob
def Og:Bp:= .det (fun args hp _=>match args with | [.agg ⟨p⟩, .pointer (some ⟨b,0,none⟩)]=>AP.enc (AP.dec p)=p∧mo hp b | _=>False)
 (fun args hp top=>match args with | [.agg ⟨p⟩, .pointer (some ⟨b,_,_⟩)]=>wo hp b (Dl (AP.dec p)) top | _=>(undef, [],top))
theorem OH.BT {hp hp':Hp}{n top:Nat}{s:Ak}(h:OH hp n s)(hcl:Cl hp top)(hk:∀i,i < top→hp' i=hp i):OH hp' n s:=by
 have n3:n+3 < top:=hcl.lt _ _ h.S
 obtain ⟨rv,pv,lav,nwv,wv,hh⟩:=h.h
 exact ⟨⟨rv,pv,lav,nwv,wv,(hk _ (by omega)).trans hh⟩,(hk _ (by omega)).trans h.L,(hk _ (by omega)).trans h.C,(hk _ (by omega)).trans h.S⟩
theorem AAp:BK Try.prog 85 Og:=by
 refine .Cc XU ?_
 intro args hp top hpre hcl hsc
 match args,hpre with
 | [.agg ⟨p⟩, .pointer (some ⟨b,0,none⟩)],⟨hx,nb,ob,n,s,hK,q,m,h1,h2,h3⟩=>
 generalize AP.dec p=x at hx
 subst hx
 have hk:=hK.b
 have hnb:=hK.nb
 have hU:=hK.up
 simp only [Na] at hk
 have hbt:b < top:=hcl.lt _ _ hk
 have hbn:¬b=top:=by omega
 have hat:ob < top:=hcl.lt _ _ h1
 have hnt:nb < top:=hcl.lt _ _ hnb
 have hqk:m≠ []→q < top:=fun hm=>by
  have:=h2 hm
  cases m with
  |nil=>exact absurd rfl hm
  |cons a m=>exact hcl.lt _ _ this
 have hpreN:∀ {o},(∃n,(hp.set top o) nb=some (.cells true 0 [.pointer (some ⟨n,0,none⟩)])∧∃s,OH (hp.set top o) n s)=True:=fun {o}=>eq_true ⟨n,(AH _ _ _ _ (by omega)).trans hnb,s,hU.BT hcl fun i hi=>AH _ _ _ _ (by omega)⟩
 have hpreN2:∀ {o},(∃n,hp nb=some (.cells true 0 [.pointer (some ⟨n,0,none⟩)])∧∃s,OH (hp.set top o) n s)=True:=fun {o}=>eq_true ⟨n,hnb,s,hU.BT hcl fun i hi=>AH _ _ _ _ (by omega)⟩
 have hpreA:∀ {o},dx (hp.set top o) ob=True:=fun {o}=>eq_true ⟨q,m,(AH _ _ _ _ (by omega)).trans h1,fun hm=>(AH _ _ _ _ (by have:=hqk hm;omega)).trans (h2 hm),h3⟩
 have hres:∀ {o} {y:Ae} {t:Nat},Gf (hp.set top o) ob y t=Gf hp ob y t:=fun {o} {y} {t}=>by
  rw [Fj ((AH _ _ _ _ (by omega)).trans h1) (fun hm=>(AH _ _ _ _ (by have:=hqk hm;omega)).trans (h2 hm)) h3,Fj h1 h2 h3]
 have hnet:∀ {o},ER (hp.set top o) nb=n:=fun {o}=>by unfold ER;rw [AH _ _ _ _ (by omega),hnb];rfl
 have hnet0:ER hp nb=n:=by unfold ER;rw [hnb];rfl
 have hup:∀ {o a b},iB (hp.set top o) n a b=GQ s a b:=fun {o a b}=>(hU.BT hcl fun i hi=>AH _ _ _ _ (by omega)).eq
 have hx1:∀ {a c:Int} {t:List UInt8},AJ.enc (AJ.dec [.int .i64 a, .int .i64 c, .string ⟨⟨t⟩⟩])= [.int .i64 a, .int .i64 c, .string ⟨⟨t⟩⟩]:=fun {a c t}=>rfl
 have hR:wo hp b (Dl (AP.dec (AP.enc x))) top=if GQ s x.Fq x.NM then (.bool false, [],top) else (.bool true,Gf hp ob (Dl x) top,top+1):=by
  unfold wo
  rw [hK.b]
  show (if iB hp (ER hp nb) x.Fq x.NM then _ else _)=_
  rw [hnet0,hU.eq]
  rfl
 simp only [hR]
 refine AL.Au BE XU rfl 9 rfl [.tmp 3] rfl (show 2≤9 by decide) ?_
 cases c:GQ s x.Fq x.NM with
 |true=>
  refine CW.vc Re [0,1,2,3] (by kernel_rfl) ?_
  (repeat ((try refine Vc.mk' ?_);simp only [go_sem,Nat.reduceAdd,Dk,cg,Ki,hpreN2,hpreA,hres,hnet,hup,AS hnt,AS hbt,hk,c]))
  (refine ⟨[],by simp,by simp,by simp, ?_, ?_, ?_⟩ <;> simp [Ad,AD.nil,AE.set,AE.refl])
 |false=>
  have hot1:¬top+1=ob:=by omega
  have hot0:¬top=ob:=by omega
  have hot2:¬top+2=ob:=by omega
  by_cases hm:m= []
  ·subst hm
   have e:∀ {y:Ae} {t:Nat},Gf hp ob y t= [(ob,some (.cells true 0 [AK t [y]])),(t,AO AJ [y])]:=fun {y} {t}=>Fj h1 h2 h3
   rw [Dh] at h1
   refine CW.vc Re [0,1,2,3] (by kernel_rfl) ?_
   (repeat ((try refine Vc.mk' ?_);simp only [go_sem,Nat.reduceAdd,Dk,cg,Ki,hpreN2,hpreA,hres,hnet,hup,AS hnt,AS hbt,hk,c,e]))
   (refine ⟨[top+1],by simp,by simp,by simp, ?_, ?_, ?_⟩ <;> simp [Ad,Ag,AD.nil,AD.cons,AF,AG,AQ,AM,Af,AB,AE.set,AE.B5,AE.refl,AA hat,Dl,AS hat])
  ·have h2':=h2 hm
   have hqt:=hqk hm
   have e:∀ {y:Ae} {t:Nat},Gf hp ob y t= [(ob,some (.cells true 0 [AK t (m ++ [y])])),(q,none),(t,AO AJ (m ++ [y]))]:=fun {y} {t}=>by rw [Fj h1 h2 h3,Rf hm]
   have hqa:¬q=ob:=fun e=>by
    rw [e,h1] at h2'
    cases m with
    |nil=>exact hm rfl
    |cons a m=>simp only [AO,Option.some.injEq,BB.cells.injEq] at h2';exact absurd h2'.2.1 (by decide)
   have haq:¬ob=q:=fun e=>hqa e.symm
   refine CW.vc Re [0,1,2,3] (by kernel_rfl) ?_
   (repeat ((try refine Vc.mk' ?_);simp only [go_sem,Nat.reduceAdd,Dk,cg,Ki,hpreN2,hpreA,hres,hnet,hup,AS hnt,AS hbt,hk,c,e]))
   (refine ⟨[top+1],by simp,by simp,by simp, ?_, ?_, ?_⟩ <;> simp [Ad,Ag,AD.nil,AD.cons,AF,AG,AQ,AM,Af,AB,AH,AE.set,AE.B5,AE.refl,AA hat,AA hqt,hqa,haq,Dl,AS hat,AS hqt])
end Go.Proofs.Ytmppehipfpkepaa.Dm
