/- Comparing: cmp. -/
import Derived.Test.YtmppehipfpkepaaDmK
import Derived.Test.YtmppehipfpkepaaDmI
set_option linter.unusedVariables false
namespace Go.Proofs.Ytmppehipfpkepaa.Dm
open Go.Dm
set_option maxHeartbeats 4000000
theorem GU {α:Type}[Inhabited α]{l:List α}{k:Nat}(h:k < l.length):l.drop k=Aj l k :: l.drop (k+1):=by rw [Bj _ _ h];exact List.drop_eq_getElem_cons h
theorem CO {α:Type}[Inhabited α]{l:List α}{k:Nat}(h:k < l.length):l.take (k+1)=l.take k ++ [Aj l k]:=by rw [Bj _ _ h];exact List.take_succ_eq_append_getElem h
theorem at_mem {α:Type}[Inhabited α]{l:List α}{k:Nat}(h:k < l.length):Aj l k∈l:=by rw [Bj _ _ h];exact List.getElem_mem h
def G0:FuncId→Bp:=fun _=> .none
theorem Tl:Cf Try.prog tt.get G0:=⟨BE,fun _=>trivial⟩
def Ib (k:IntKind):Bp:= .pure (fun args _=>match args with | [x]=>EO k x | _=>False) (fun _ _=> .bool false)
theorem vX:BK Try.prog 80 (Ib .u64):=by
 refine .mkPure Xz ?_
 intro args hp hpre top
 match args,hpre with
 | [x],hx=>
 rw [hx]
 refine AL.Au BE Xz rfl 6 rfl [.tmp 2] rfl (show 1≤6 by decide) ?_
 refine CW.vc Tl [0,2] (by kernel_rfl) ?_
 (repeat ((try refine Vc.mk' ?_);simp only [go_sem]))
theorem uD:BK Try.prog 81 (Ib .i64):=by
 refine .mkPure WM ?_
 intro args hp hpre top
 match args,hpre with
 | [x],hx=>
 rw [hx]
 refine AL.Au BE WM rfl 6 rfl [.tmp 2] rfl (show 1≤6 by decide) ?_
 refine CW.vc Tl [0,2] (by kernel_rfl) ?_
 (repeat ((try refine Vc.mk' ?_);simp only [go_sem]))
def Iu (a b:Int):Int:=if a < b then -1 else if b < a then 1 else 0
def Nm (k:IntKind):Bp:= .pure (fun args _=>match args with | [x,y]=>EO k x∧EO k y | _=>False) (fun args _=>match args with | [x,y]=> .int .i64 (Iu (intOf x) (intOf y)) | _=>undef)
def G1:FuncId→Bp:=Bu (Bu G0 80 (Ib .u64)) 81 (Ib .i64)
theorem I5:Cf Try.prog tt.get G1:=(Tl.add vX).add uD
theorem xa:G1 80=Ib .u64:=rfl
theorem xV:G1 81=Ib .i64:=rfl
theorem qa:BK Try.prog 60 (Nm .u64):=by
 refine .mkPure YA ?_
 intro args hp hpre top
 match args,hpre with
 | [x,y],⟨hx,hy⟩=>
 rw [hx,hy]
 generalize intOf x=x,intOf y=y
 refine AL.Au BE YA rfl 20 rfl [.tmp 4] rfl (show 2≤20 by decide) ?_
 by_cases c1:x < y
 ·have e:Iu x y= -1:=by unfold Iu;rw [if_pos c1]
  refine CW.vc I5 [0,1,4,5,6,11,12,13,16,19] (by kernel_rfl) ?_
  (repeat ((try refine Vc.mk' ?_);simp only [go_sem,xa,Ib,c1,e]))
 ·by_cases c2:y < x
  ·have e:Iu x y=1:=by unfold Iu;rw [if_neg c1,if_pos c2]
   refine CW.vc I5 [0,1,4,5,6,11,12,13,16,19] (by kernel_rfl) ?_
   (repeat ((try refine Vc.mk' ?_);simp only [go_sem,xa,Ib,c1,c2,e]))
  ·have e:Iu x y=0:=by unfold Iu;rw [if_neg c1,if_neg c2]
   refine CW.vc I5 [0,1,4,5,6,11,12,13,16,19] (by kernel_rfl) ?_
   (repeat ((try refine Vc.mk' ?_);simp only [go_sem,xa,Ib,c1,c2,e]))
theorem rE:BK Try.prog 61 (Nm .i64):=by
 refine .mkPure WS ?_
 intro args hp hpre top
 match args,hpre with
 | [x,y],⟨hx,hy⟩=>
 rw [hx,hy]
 generalize intOf x=x,intOf y=y
 refine AL.Au BE WS rfl 20 rfl [.tmp 4] rfl (show 2≤20 by decide) ?_
 by_cases c1:x < y
 ·have e:Iu x y= -1:=by unfold Iu;rw [if_pos c1]
  refine CW.vc I5 [0,1,4,5,6,11,12,13,16,19] (by kernel_rfl) ?_
  (repeat ((try refine Vc.mk' ?_);simp only [go_sem,xV,Ib,c1,e]))
 ·by_cases c2:y < x
  ·have e:Iu x y=1:=by unfold Iu;rw [if_neg c1,if_pos c2]
   refine CW.vc I5 [0,1,4,5,6,11,12,13,16,19] (by kernel_rfl) ?_
   (repeat ((try refine Vc.mk' ?_);simp only [go_sem,xV,Ib,c1,c2,e]))
  ·have e:Iu x y=0:=by unfold Iu;rw [if_neg c1,if_neg c2]
   refine CW.vc I5 [0,1,4,5,6,11,12,13,16,19] (by kernel_rfl) ?_
   (repeat ((try refine Vc.mk' ?_);simp only [go_sem,xV,Ib,c1,c2,e]))
def jn (l:List Int):Int:=(l.find? fun x=> !decide (x=0)).getD 0
def eA:Bp:= .pure (fun args hp=>match args with | [v]=>Dp Ab hp v | _=>False) (fun args hp=>match args with | [v]=> .int .i64 (jn (Ab.rd hp v)) | _=>undef)
def vO (hp:Hp)(top:Nat)(v:Value)(n i:Nat):SS:=⟨[(3, .int .i64 0,true),(6,v,true),(7, .int .i64 (n:Int),true),(8, .int .i64 (i:Int),true)],hp.AZ [],top+0⟩
theorem AB7:BK Try.prog 59 eA:=by
 refine .Gx YE ?_ ?_
 ·intro args hp h
  match args,h with
  | [v],_=>rfl
 intro args hp hpre top hcl hsc
 match args,hpre with
 | [v],⟨l,h⟩=>
 have hs:=h.low hcl
 simp only [h.rd]
 refine AL.Au BE YE rfl 18 rfl [.tmp 2] rfl (show 1≤18 by decide) ?_
 refine CW.vc I5 [0,2,3,5,6,7,8,9,14] (by kernel_rfl) ?_
 (repeat ((try refine Vc.mk' ?_);simp only [go_sem,Bs h]))
 refine CW.CZ (vO hp top v l.length) (fun i=>i≤l.length∧jn l=jn (l.drop i)) (fun i=>l.length - i) 0 ⟨Nat.zero_le _,rfl⟩ ?_ ?_
 ·exact (by refine BO.mk' [] hcl (by simp) (by simp) rfl (AV ?_) ?_ ?_ <;> simp [Ax,Cd,Ad,AD.nil,AE.refl,Sc.Ad (fun j hj=>AA hj) hs])
 ·rintro i ⟨hi,hm⟩
  by_cases hlt:i < l.length
  ·rw [GU hlt] at hm
   by_cases c:Aj l i=0
   ·have hm2:jn l=jn (l.drop (i+1)):=by rw [hm];simp [jn,c]
    refine CW.vc I5 [0,2,3,5,6,7,8,9,14] (by kernel_rfl) ?_
    (repeat ((try refine Vc.mk' ?_);simp only [go_sem,CN h,DM h,vO,hlt,c]))
    exact .mk (i+1) ⟨hlt,hm2⟩ (by omega) ((by refine BO.mk' [] hcl (by simp) (by simp) rfl (AV ?_) ?_ ?_ <;> simp [Ax,Cd,Ad,AD.nil,AE.refl,Sc.Ad (fun j hj=>AA hj) hs,Av hlt h.le]))
   ·have hm2:jn l=Aj l i:=by rw [hm];simp [jn,c]
    refine CW.vc I5 [0,2,3,5,6,7,8,9,14] (by kernel_rfl) ?_
    (repeat ((try refine Vc.mk' ?_);simp only [go_sem,CN h,DM h,vO,hlt,c,hm2]))
  ·have hi2:i=l.length:=by omega
   subst hi2
   have hm2:jn l=0:=by rw [hm,List.drop_eq_nil_of_le (Nat.le_refl _)];rfl
   refine CW.vc I5 [0,2,3,5,6,7,8,9,14] (by kernel_rfl) ?_
   (repeat ((try refine Vc.mk' ?_);simp only [go_sem,vO,Nat.lt_irrefl,decide_false,hm2]))
theorem PT {n:Int}(h:0≤n)(h2:n < 18446744073709551616):BQ .u64 n=n:=dC (by simpa [IntKind.signed,IntKind.bits] using h) (by simpa [IntKind.signed,IntKind.bits] using h2)
def xz (a x b y:Int):Int:=jn [Iu a b,Iu x y]
def jj (a x b y:Int):Bool:=decide (a < b) || (decide (a=b) && decide (x < y))
theorem oA (a x b y:Int):decide (xz a x b y < 0)=jj a x b y:=by
 unfold xz jj jn Iu
 by_cases h1:a < b
 ·simp [h1]
 ·by_cases h2:b < a
  ·have:¬a=b:=by omega
   simp [h1,h2,this]
  ·have h3:a=b:=by omega
   subst h3
   by_cases h4:x < y
   ·simp [h4]
   ·by_cases h5:y < x <;> simp [h4,h5]
theorem UY {a x b y c z:Int}(h:jj a x b y=true)(g:jj b y c z=true):jj a x c z=true:=by
 simp only [jj,Bool.or_eq_true,Bool.and_eq_true,decide_eq_true_eq] at h g ⊢
 omega
theorem wR {hp:Hp}{b:Nat}{x y:Int}(h:hp b=some (.cells true 1 [.int .i64 x, .int .i64 y])):BU Ab hp (.slice (some ⟨b,0,none⟩) 2 2) [x,y]:=
 .rows b 0 2 true _ [x,y] h rfl (Nat.le_refl 2) (Nat.le_refl 2) (show 2≤9223372036854775807 by decide)
theorem ABA {hp:Hp}{b:Nat}{x y:Int}(h:hp b=some (.cells true 1 [.int .i64 x, .int .i64 y])):Dp Ab hp (.slice (some ⟨b,0,none⟩) 2 2)=True:=(wR h).P
theorem x9 {hp:Hp}{b:Nat}{x y:Int}(h:hp b=some (.cells true 1 [.int .i64 x, .int .i64 y])):Ab.rd hp (.slice (some ⟨b,0,none⟩) 2 2)= [x,y]:=(wR h).rd
theorem cQ {α:Type}[Inhabited α]{p:α→Bool}:∀ {l:List α} {i:Nat},i≤l.length→(∀k,k < i→p (Aj l k)=true)→(i < l.length→p (Aj l i)=false)→(l.takeWhile p).length=i
 | [],i,h,_,_=>by simp at h;simp [h]
 |a :: l,0,_,_,h2=>by
  have:=h2 (by simp)
  simp only [Aj,List.getElem?_cons_zero,Option.getD_some] at this
  simp [this]
 |a :: l,i+1,h,h1,h2=>by
  have h0:=h1 0 (by omega)
  simp only [Aj,List.getElem?_cons_zero,Option.getD_some] at h0
  rw [List.takeWhile_cons,h0,if_pos rfl,List.length_cons,cQ (i:=i) (by simpa using h) (fun k hk=>by have:=h1 (k+1) (by omega);simpa [Aj] using this) (fun hl=>by have:=h2 (by simpa using hl);simpa [Aj] using this)]
def He (hp:Hp)(cb:Nat):Value:=((cellsOf (hp cb))[2]?).getD undef
def Eo (hp:Hp)(cb:Nat):Int:=intOf (((cellsOf (hp cb))[1]?).getD undef)
def Ye (hp:Hp)(cb:Nat):Prop:= ∃t k lv,hp cb=some (.cells true 0 [.bool t,k,lv])
def G2:FuncId→Bp:=Bu (Bu (Bu G1 60 (Nm .u64)) 61 (Nm .i64)) 59 eA
theorem a7:Cf Try.prog tt.get G2:=((I5.add qa).add rE).add AB7
theorem ACK:G2 60=Nm .u64:=rfl
theorem ACF:G2 61=Nm .i64:=rfl
theorem ACd:G2 59=eA:=rfl
end Go.Proofs.Ytmppehipfpkepaa.Dm
/- Which is ahead, and where it goes: things of api.Arrive. -/
set_option linter.unusedVariables false
namespace Go.Proofs.Ytmppehipfpkepaa.Dm
open Go.Dm
set_option maxHeartbeats 8000000
set_option maxRecDepth 20000
def Uf (a b:Ah):Int:=xz a.at_ a.CA b.at_ b.CA
def GB (a b:Ah):Bool:=jj a.at_ a.CA b.at_ b.CA
def HJ:Bp:= .pure (fun args _=>match args with | [.agg ⟨p⟩, .agg ⟨q⟩]=>AP.enc (AP.dec p)=p∧AP.enc (AP.dec q)=q | _=>False) (fun args _=>match args with
 | [.agg ⟨p⟩, .agg ⟨q⟩]=> .int .i64 (Uf (AP.dec p) (AP.dec q)) | _=>undef)
theorem gy:BK Try.prog 58 HJ:=by
 refine .Gx V7 ?_ ?_
 ·intro args hp h
  match args,h with
  | [.agg ⟨p⟩, .agg ⟨q⟩],_=>rfl
 intro args hp hpre top hcl hsc
 match args,hpre with
 | [.agg ⟨p⟩, .agg ⟨q⟩],⟨hx,hy⟩=>
 generalize AP.dec p=x at hx
 generalize AP.dec q=y at hy
 subst hx
 subst hy
 simp only [AP.h]
 refine AL.Au BE V7 rfl 17 rfl [.tmp 4] rfl (show 2≤17 by decide) ?_
 refine CW.vc a7 [0,1,2,3,4] (by kernel_rfl) ?_
 have e1:∀ {h':Hp} {b:Nat},h' b=some (.cells true 1 [.int .i64 (Iu x.at_ y.at_), .int .i64 (Iu x.CA y.CA)])→Dp Ab h' (.slice (some ⟨b,0,none⟩) 2 2)=True:=ABA
 have e2:∀ {h':Hp} {b:Nat},h' b=some (.cells true 1 [.int .i64 (Iu x.at_ y.at_), .int .i64 (Iu x.CA y.CA)])→Ab.rd h' (.slice (some ⟨b,0,none⟩) 2 2)= [Iu x.at_ y.at_,Iu x.CA y.CA]:=x9
 have e3:jn [Iu x.at_ y.at_,Iu x.CA y.CA] = Uf x y:=rfl
 (repeat ((try refine Vc.mk' ?_);simp only [go_sem,reduceCtorEq,Nat.reduceAdd,Nat.reduceMul,Nat.reduceLT,Nat.reduceLeDiff,ACK,ACF,Nm,ACd,eA,Dk,e1,e2,e3]))
def yW:FuncId→Bp:=Bu G2 58 HJ
theorem OC:Cf Try.prog tt.get yW:=a7.add gy
theorem RY:yW 58=HJ:=rfl
/-! ### where it goes -/
def OR (l:List Ah):Prop:=l.Pairwise fun a b=>GB a b=true
def QK (l:List Ah)(t:Ah):Nat:=l.countP fun a=>GB a t
theorem eo (l:List Ah)(t:Ah):QK l t≤l.length:=List.countP_le_length
theorem ep {l:List Ah}{t:Ah}{i:Nat}(hi:i≤l.length)(h1:∀k,k < i→GB (Aj l k) t=true)(h2:∀k,i≤k→k < l.length→GB (Aj l k) t=false):QK l t=i:=by
 unfold QK
 conv=>lhs;rw [←List.take_append_drop i l]
 rw [List.countP_append]
 have e1:(l.take i).countP (fun a=>GB a t)=i:=by
  have:(l.take i).countP (fun a=>GB a t)=(l.take i).length:=by
   rw [List.countP_eq_length]
   intro a ha
   obtain ⟨k,hk,rfl⟩:=List.getElem_of_mem ha
   rw [List.length_take] at hk
   have:=h1 k (by omega)
   rw [Bj _ _ (by omega)] at this
   rwa [List.getElem_take]
  rw [this,List.length_take];omega
 have e2:(l.drop i).countP (fun a=>GB a t)=0:=by
  rw [List.countP_eq_zero]
  intro a ha
  obtain ⟨k,hk,rfl⟩:=List.getElem_of_mem ha
  rw [List.length_drop] at hk
  have:=h2 (i+k) (by omega) (by omega)
  rw [Bj _ _ (by omega)] at this
  rw [List.getElem_drop];simp [this]
 rw [e1,e2];rfl
theorem WT {l:List Ah}(h:OR l){t:Ah}{j k:Nat}(hjk:j≤k)(hk:k < l.length)(hl:GB (Aj l k) t=true):GB (Aj l j) t=true:=by
 rcases Nat.lt_or_ge j k with h1 | h1
 ·have:=List.pairwise_iff_getElem.1 h j k (by omega) hk h1
  rw [Bj _ _ hk] at hl
  rw [Bj _ _ (by omega)]
  exact UY this hl
 ·rwa [show j=k by omega]
def dt (hp:Hp)(v:Value):Prop:= ∃l,BU AP hp v l∧OR l∧l.length≤281474976710656
def Om:Bp:= .pure (fun args hp=>match args with | [v, .agg ⟨p⟩, .func (.func 58) ⟨[]⟩ ⟨[]⟩]=>dt hp v∧AP.enc (AP.dec p)=p | _=>False) (fun args hp=>match args with
 | [v, .agg ⟨p⟩,_]=> .tuple ⟨[.int .i64 (QK (AP.rd hp v) (AP.dec p):Int), .bool (decide (QK (AP.rd hp v) (AP.dec p) < (AP.rd hp v).length) && decide (Uf (Aj (AP.rd hp v) (QK (AP.rd hp v) (AP.dec p))) (AP.dec p)=0))]⟩ | _=>undef)
def SH (hp:Hp)(top:Nat)(v:Value)(t:Ah)(n:Nat)(p:Nat×Nat):SS:=
 ⟨[(0,v,true),(2, .func (.func 58) ⟨[]⟩ ⟨[]⟩,true),(4, .pointer (some ⟨top,0,none⟩),true),(8, .int .i64 (n:Int),true),(9, .int .i64 (p.1:Int),true),(10, .int .i64 (p.2:Int),true)],
  hp.AZ [(top,some (.cells true 0 (AP.enc t)))],top+1⟩
theorem qq:BK Try.prog 57 Om:=by
 refine .Gx WG ?_ ?_
 ·intro args hp h
  match args,h with
  | [v, .agg ⟨p⟩, .func (.func 58) ⟨[]⟩ ⟨[]⟩],_=>rfl
 intro args hp hpre top hcl hsc
 match args,hpre with
 | [v, .agg ⟨p⟩, .func (.func 58) ⟨[]⟩ ⟨[]⟩],⟨⟨l,h,hup,hl48⟩,hx⟩=>
 generalize AP.dec p=t at hx
 subst hx
 have hs:=h.low hcl
 simp only [h.rd]
 have hl63:=h.le
 refine AL.Au BE WG rfl 49 rfl [.tmp 6, .tmp 7] rfl (show 3≤49 by decide) ?_
 refine CW.vc OC [0,1,2,4,6,7,8,9,10,11,17,31] (by kernel_rfl) ?_
 (repeat ((try refine Vc.mk' ?_);simp only [go_sem,Nat.reduceAdd,EH h,Dk]))
 refine CW.CZ (SH hp top v t l.length) (fun p=>p.1≤p.2∧p.2≤l.length∧(∀k,k < p.1→GB (Aj l k) t=true)∧(∀k,p.2≤k→k < l.length→GB (Aj l k) t=false)) (fun p=>p.2 - p.1) (0,l.length) ⟨Nat.zero_le _,Nat.le_refl _,fun k hk=>absurd hk (Nat.not_lt_zero _),fun k h1 h2=>absurd h2 (by omega)⟩ ?_ ?_
 ·exact (by refine BO.mk' [top] hcl (by simp) (by simp) rfl (AV ?_) ?_ ?_ <;> simp [Ax,Cd,Ad,Ag,AD.nil,AD.cons,AF,AG,AM,AB,AE.set,AE.refl,Sc.Ad (fun j hj=>AA hj) hs,Dk])
 ·rintro ⟨i,j⟩ ⟨hij,hjn,hlo,hhi⟩
  by_cases hlt:i < j
  ·obtain ⟨m,hm⟩:∃m,m=(i+j) / 2:=⟨_,rfl⟩
   have hmid:BQ .i64 ((BQ .u64 (BQ .i64 ((i:Int)+(j:Int)))).fdiv (Int.ofNat (Nat.pow 2 ((Int.toNat 1).min 64))))=(m:Int):=by
    have hlt2:i < j:=hlt
    have hjn2:j≤l.length:=hjn
    have e0:BQ .i64 ((i:Int)+(j:Int))=(i:Int)+(j:Int):=wrap64 (by omega) (by omega)
    have e1:BQ .u64 ((i:Int)+(j:Int))=(i:Int)+(j:Int):=PT (by omega) (by omega)
    have e2:((i:Int)+(j:Int)).fdiv 2=(m:Int):=by rw [Int.fdiv_eq_ediv_of_nonneg _ (by decide)];omega
    have e3:BQ .i64 (m:Int)=(m:Int):=wrap64 (by omega) (by omega)
    rw [e0,e1,show (Int.ofNat (Nat.pow 2 ((Int.toNat 1).min 64)))=2 from rfl,e2,e3]
   have hlt2:i < j:=hlt
   have hjn2:j≤l.length:=hjn
   have hml:m < l.length:=by omega
   have hc:=oA (Aj l m).at_ (Aj l m).CA t.at_ t.CA
   change decide (Uf (Aj l m) t < 0)=GB (Aj l m) t at hc
   cases c1:GB (Aj l m) t with
   |true=>
    rw [c1] at hc
    have hc2:Uf (Aj l m) t < 0:=of_decide_eq_true hc
    refine CW.vc OC [0,1,2,4,6,7,8,9,10,11,17,31] (by kernel_rfl) ?_
    (repeat ((try refine Vc.mk' ?_);simp only [go_sem,Nat.reduceAdd,Int.reduceLE,EX h,Fz h,Ao hs,RY,HJ,Dk,SH,hlt,hmid,hml,hc2]))
    refine .mk (m+1,j) ⟨by omega,hjn,fun k hk=>WT hup (show k≤m by omega) hml c1,hhi⟩ (show j - (m+1) < j - i by omega) ((by refine BO.mk' [top] hcl (by simp) (by simp) rfl (AV ?_) ?_ ?_ <;> simp [Ax,Cd,Ad,Ag,AD.nil,AD.cons,AF,AG,AM,AB,AE.set,AE.refl,Sc.Ad (fun j hj=>AA hj) hs,Dk,Av hml hl63]))
   |false=>
    rw [c1] at hc
    have hc2:¬Uf (Aj l m) t < 0:=of_decide_eq_false hc
    refine CW.vc OC [0,1,2,4,6,7,8,9,10,11,17,31] (by kernel_rfl) ?_
    (repeat ((try refine Vc.mk' ?_);simp only [go_sem,Nat.reduceAdd,Int.reduceLE,EX h,Fz h,Ao hs,RY,HJ,Dk,SH,hlt,hmid,hml,hc2]))
    refine .mk (i,m) ⟨by omega,by omega,hlo,fun k hk hkl=> ?_⟩ (show m - i < j - i by omega) ((by refine BO.mk' [top] hcl (by simp) (by simp) rfl (AV ?_) ?_ ?_ <;> simp [Ax,Cd,Ad,Ag,AD.nil,AD.cons,AF,AG,AM,AB,AE.set,AE.refl,Sc.Ad (fun j hj=>AA hj) hs,Dk]))
    cases c3:GB (Aj l k) t with
    |false=>rfl
    |true=>rw [WT hup hk hkl c3] at c1;cases c1
  ·have hij2:i≤j:=hij
   have e:i=j:=by omega
   subst e
   have hb:=ep hjn hlo hhi
   by_cases hil:i < l.length
   ·refine CW.vc OC [0,1,2,4,6,7,8,9,10,11,17,31] (by kernel_rfl) ?_
    (repeat ((try refine Vc.mk' ?_);simp only [go_sem,Nat.reduceAdd,EX h,Fz h,Ao hs,RY,HJ,Dk,SH,Nat.lt_irrefl,decide_false,hil,hb]))
   ·refine CW.vc OC [0,1,2,4,6,7,8,9,10,11,17,31] (by kernel_rfl) ?_
    (repeat ((try refine Vc.mk' ?_);simp only [go_sem,Nat.reduceAdd,RY,HJ,Dk,SH,Nat.lt_irrefl,decide_false,hil,hb]))
    rfl
end Go.Proofs.Ytmppehipfpkepaa.Dm
/- slices.Insert at things of api.Arrive, run: there is room, in the midst. -/
set_option linter.unusedVariables false
namespace Go.Proofs.Ytmppehipfpkepaa.Dm
open Go.Dm Go.RowKit Go.Lib
set_option maxHeartbeats 4000000
set_option maxRecDepth 100000
theorem aD:Y8 Try.prog 62 5:=by
 intro B off n c i Vb vo vc cc cv ty tyv fz fzv w hi hroom hn63 hvb hB hfz hlim hV hfv hvl ho1 ho2
 have hz2:¬((i:Int)=(n:Int)):=by omega
 have hw1:IntKind.i64.wrap ((i:Int)+1)=(i:Int)+1:=by rw [IntKind.wrap_i64];omega
 have hw2:IntKind.i64.wrap ((n:Int)+1)=(n:Int)+1:=by rw [IntKind.wrap_i64];omega
 have htn:((i:Int)+1).toNat=i+1:=by omega
 have htm:((n:Int)+1).toNat=n+1:=by omega
 have hsa:w.shape? Vb=some (tyv,cv.size):=by simp [World.shape?,hV]
 have hsb:w.shape? B=some (ty,cc.size):=by simp [World.shape?,hB]
 have hfa:w.frozen? ⟨Vb,vo,none⟩=false:=by simp [World.frozen?,hV];omega
 have hfe:w.frozen? ⟨Vb,cv.size,none⟩=false:=by simp [World.frozen?,hV];omega
 have hov:∀lb cb,(callFunc 82 #[.slice (some ⟨Vb,vo,none⟩) 1 vc, .slice (some ⟨B,off+(i+1) * 5,none⟩) lb cb]).run Try.prog w= .ok (.value (.bool false)) w:=fun lb cb=>by
  rw [run_callFunc_extern Try.func82 (by kernel_rfl) (by kernel_rfl) (by kernel_rfl) (e:=Extern.SlicesOverlaps.overlaps #[114,114] #[4]) (by kernel_rfl),
   Lib.run_overlaps_apart w 114 4 124 Try.underlying114 5 (fun w=>(BE _ _ (by kernel_rfl:tt.get 124=some EA)).CJ w) ⟨Vb,vo,none⟩ ⟨B,off+(i+1) * 5,none⟩ 1 vc lb cb hvb tyv ty cv.size cc.size hsa hsb (by omega) hfa hfe]
  rfl
 have cp1:∀(W:World),W.heap=w.heap→W.os=w.os→W.tape=w.tape→W.output=w.output→∀r dc sc,∃w',(Builtin.copy_ #[114,114] r #[.slice (some ⟨B,off+(i+1) * 5,none⟩) (n - i) dc, .slice (some ⟨B,off+i * 5,none⟩) (n+1 - i) sc]).run Try.prog W= .ok (.int .i64 ((n - i:Nat):Int)) w'∧
   At B (.cells ⟨Am cc.toList (off+(i+1) * 5) ((cc.toList.drop (off+i * 5)).take ((n - i) * 5))⟩ ty fz) w w':=fun W h1 h2 h3 h4 r dc sc=>by
  obtain ⟨w',e1,e2⟩:=PO (P:=Try.prog) (r:=r) (ts2:=114) (dc:=dc) (sc:=sc) (sl:=n+1 - i) (dl:=n - i) (m:=n - i) Try.underlying114 (BE _ _ (by kernel_rfl:tt.get 124=some EA)) W (by rw [h1];exact hB) hfz (by rw [h1];exact hB) (Nat.min_eq_right (by omega)) (o:=off+(i+1) * 5) (so:=off+i * 5) (show off+(i+1) * 5+(n - i) * 5≤cc.size by omega) (show off+i * 5+(n - i) * 5≤cc.size by omega) ho1
  exact ⟨w',e1,e2.here,by rw [e2.size,h1],fun k hk=>by rw [e2.Z6 k hk,h1],by rw [e2.os,h2],by rw [e2.tape,h3],by rw [e2.output,h4]⟩
 have cp2:∀(W:World) (C1:Array Value),C1.size=cc.size→At B (.cells C1 ty fz) w W→∀r dc,∃w',(Builtin.copy_ #[114,114] r #[.slice (some ⟨B,off+i * 5,none⟩) (n+1 - i) dc, .slice (some ⟨Vb,vo,none⟩) 1 vc]).run Try.prog W= .ok (.int .i64 ((1:Nat):Int)) w'∧
   At B (.cells ⟨Am C1.toList (off+i * 5) ((cv.toList.drop vo).take (1 * 5))⟩ ty fz) w w':=fun W C1 hs hW r dc=>by
  obtain ⟨w',e1,e2⟩:=PO (P:=Try.prog) (r:=r) (ts2:=114) (dc:=dc) (sc:=vc) (sl:=1) (dl:=n+1 - i) (m:=1) Try.underlying114 (BE _ _ (by kernel_rfl:tt.get 124=some EA)) W hW.here hfz (by rw [hW.Z6 Vb hvb];exact hV) (Nat.min_eq_left (by omega)) (o:=off+i * 5) (so:=vo) (show off+i * 5+1 * 5≤C1.size by omega) (show vo+1 * 5≤cv.size by omega) ho2
  exact ⟨w',e1,e2.here,by rw [e2.size,hW.size],fun k hk=>by rw [e2.Z6 k hk,hW.Z6 k hk],by rw [e2.os,hW.os],by rw [e2.tape,hW.tape],by rw [e2.output,hW.output]⟩
 have hsz:(⟨Am cc.toList (off+(i+1) * 5) ((cc.toList.drop (off+i * 5)).take ((n - i) * 5))⟩:Array Value).size=cc.size:=by
  have:(Am cc.toList (off+(i+1) * 5) ((cc.toList.drop (off+i * 5)).take ((n - i) * 5))).length=cc.toList.length:=CY (by simp;omega)
  simpa using this
 have mixed:Try.prog.follows Departure.mixedOrders=true:=by kernel_rfl
 have hb1:(0:Int)≤(i:Int)+1:=by omega
 have hin:i≤n:=by omega
 have hb2:¬(c=i+1):=by omega
 have hb3:(i:Int)≤(n:Int)+1:=by omega
 have hb4:¬(c=i):=by omega
 go_enter Try.func62,Try.ntmps62
 go_wp2_with (simp only [hov])
 go_region_law_o (refine Uy rfl _ _ 114 114 rfl _ _ (by simp [Act.eval,Act.put]) (by simp [Act.eval,Act.put]) (cp1 w.drew rfl rfl rfl rfl _ (c - (i+1)) (c - i)) ?_;intro W1 hW1)
 go_wp2_with (refine Qk rfl _ _ 114 114 rfl _ _ rfl rfl (cp2 W1 _ hsz hW1 _ (c - i)) ?_;intro W2 hW2)
 go_ret
 exact ⟨rfl,hW2⟩
end Go.Proofs.Ytmppehipfpkepaa.Dm
/- slices.Insert at things of api.Arrive, run: there is no room, in the midst. -/
set_option linter.unusedVariables false
namespace Go.Proofs.Ytmppehipfpkepaa.Dm
open Go.Dm Go.RowKit Go.Lib
set_option maxHeartbeats 4000000
set_option maxRecDepth 100000
theorem bx:cz Try.prog 62 5 48 124:=by
 intro B off n c i Vb vo vc cc cv ty tyv fz fzv w hi hnc hroom hbig hvb hB hlim hV hvl ho1 ho2
 have hj:=BE _ _ (by kernel_rfl:tt.get 124=some EA)
 obtain ⟨y,hy,hys,hyb,hyz⟩:=hj.info
 have hys':y.size=5:=hys
 have hyb':y.bytes=48:=hyb
 have hz2:¬((i:Int)=(n:Int)):=by omega
 have hc:c=n:=by omega
 subst hc
 unfold DR at hbig
 simp only [Bool.and_eq_true] at hbig
 have hb1:=Nat.le_of_ble_eq_true hbig.1
 have hb2:=Nat.le_of_ble_eq_true hbig.2
 have hold:(Builtin.firstCells y.size i (.slice (some ⟨B,off,none⟩) i c)).run Try.prog w.drew= .ok ((cc.toList.drop off).take (i * 5)).toArray w.drew:=by
  rw [hys']
  by_cases hz:i * 5=0
  ·simp [Builtin.firstCells,loadCells,hz,loadCellsFrom]
  ·simp only [Builtin.firstCells,loadCells,Go.Dm.run_loadCellsFrom Try.prog w.drew B off cc ty fz hB (i * 5) 0 #[] (by omega)]
   simp
 have hnc:=SV (need:=c+1) (N6:=c) (by omega)
 have hrz:=fun tyr=>Lib.run_append_grow_zeros (P:=Try.prog) w 114 3 tyr 124 y _ .i64 .i64 Try.underlying114 Try.underlying3 hy hyz (some ⟨B,off,none⟩) i c ((cc.toList.drop off).take (i * 5)) hold (c+1 - i) (by omega) (by omega) (by omega) (by omega) (by rw [hyb'];omega) (by rw [hyb',show i+(c+1 - i)=c+1 by omega];omega)
 rw [show i+(c+1 - i)=c+1 by omega] at hrz
 have hkk:(c:Int)+1 - (i:Int)=((c+1 - i:Nat):Int):=by omega
 rw [←hkk] at hrz
 have hG:c+1≤grownCap w (c+1) c 124:=grownCap_ge w _ _ _
 have hG63:grownCap w (c+1) c 124≤9223372036854775807:=by
  have:=grownCap_le_maxLen w (c+1) c 124 (by unfold maxLen;omega)
  unfold maxLen at this
  omega
 generalize grownCap w (c+1) c 124=G at hrz hG hG63
 obtain ⟨ROW,hROW⟩:∃ROW:Array Value,ROW=((cc.toList.drop off).take (i * 5)).toArray ++ Builtin.zeroCells (EA).zero.cells (c+1 - i) ++ Builtin.zeroCells (EA).zero.cells (G - (c+1)):=⟨_,rfl⟩
 rw [←hROW] at hrz
 have hz3:(EA).zero.cells.size=5:=by kernel_rfl
 have hZ1:=HQ (EA).zero.cells (c+1 - i)
 have hZ2:=HQ (EA).zero.cells (G - (c+1))
 rw [hz3] at hZ1 hZ2
 have hRL:ROW.toList=(cc.toList.drop off).take (i * 5) ++ (Builtin.zeroCells (EA).zero.cells (c+1 - i)).toList ++ (Builtin.zeroCells (EA).zero.cells (G - (c+1))).toList:=by rw [hROW];simp
 generalize hz1':(Builtin.zeroCells (EA).zero.cells (c+1 - i)).toList=Z1 at hRL
 generalize hz2':(Builtin.zeroCells (EA).zero.cells (G - (c+1))).toList=Z2 at hRL
 have hL1:Z1.length=(c+1 - i) * 5:=by rw [←hz1',Array.length_toList,hZ1]
 have hL2:Z2.length=(G - (c+1)) * 5:=by rw [←hz2',Array.length_toList,hZ2]
 clear hROW hz1' hz2' hZ1 hZ2
 have hRs:ROW.size=G * 5:=by
  rw [←Array.length_toList,hRL];simp [hL1,hL2];omega
 have hVs:=dn hV
 have hBs:=dn hB
 obtain ⟨W0,hW0⟩:∃W0,W0=w.drew.alloc (.cells ROW 124):=⟨_,rfl⟩
 have n0:W0.heap[w.heap.size]? = some (.cells ROW 124 (0,0)):=by rw [hW0];exact vY w _
 have n1:∀k,k≠w.heap.size→W0.heap[k]? = w.heap[k]? :=fun k hk=>by rw [hW0];exact pf w _ hk
 have n2:W0.heap.size=w.heap.size+1∧W0.os=w.os∧W0.tape=w.tape∧W0.output=w.output:=by rw [hW0];exact ⟨jA w _,rfl,rfl,rfl⟩
 rw [←hW0] at hrz
 have cpA:∀r dc,∃w',(Builtin.copy_ #[114,114] r #[.slice (some ⟨w.heap.size,i * 5,none⟩) (c+1 - i) dc, .slice (some ⟨Vb,vo,none⟩) 1 vc]).run Try.prog W0= .ok (.int .i64 ((1:Nat):Int)) w'∧
   At w.heap.size (.cells ⟨Am ROW.toList (i * 5) ((cv.toList.drop vo).take (1 * 5))⟩ 124 (0,0)) W0 w':=fun r dc=>
  PO (P:=Try.prog) (r:=r) (ts2:=114) (dc:=dc) (sc:=vc) (sl:=1) (dl:=c+1 - i) (m:=1) Try.underlying114 hj W0 n0 (Nat.le_refl _) (by rw [n1 Vb (by omega)];exact hV) (Nat.min_eq_left (by omega)) (o:=i * 5) (so:=vo) (show i * 5+1 * 5≤ROW.size by omega) (show vo+1 * 5≤cv.size by omega) ho2
 have hsz:(⟨Am ROW.toList (i * 5) ((cv.toList.drop vo).take (1 * 5))⟩:Array Value).size=ROW.size:=by
  have:(Am ROW.toList (i * 5) ((cv.toList.drop vo).take (1 * 5))).length=ROW.toList.length:=CY (by simp;omega)
  simpa using this
 have cpB:∀(W W1:World) (C1:Array Value),C1.size=ROW.size→At w.heap.size (.cells C1 124 (0,0)) W0 W1→W.heap=W1.heap→W.os=W1.os→W.tape=W1.tape→W.output=W1.output→∀r dc sc,∃w',(Builtin.copy_ #[114,114] r #[.slice (some ⟨w.heap.size,(i+1) * 5,none⟩) (c - i) dc, .slice (some ⟨B,off+i * 5,none⟩) (c - i) sc]).run Try.prog W= .ok (.int .i64 ((c - i:Nat):Int)) w'∧
   At w.heap.size (.cells ⟨Am C1.toList ((i+1) * 5) ((cc.toList.drop (off+i * 5)).take ((c - i) * 5))⟩ 124 (0,0)) W0 w':=fun W W1 C1 hs hW h1 h2 h3 h4 r dc sc=>by
  obtain ⟨w',e1,e2⟩:=PO (P:=Try.prog) (r:=r) (ts2:=114) (dc:=dc) (sc:=sc) (sl:=c - i) (dl:=c - i) (m:=c - i) Try.underlying114 hj W (by rw [h1];exact hW.here) (Nat.le_refl _) (by rw [h1,hW.Z6 B (by omega),n1 B (by omega)];exact hB) (Nat.min_eq_left (Nat.le_refl _)) (o:=(i+1) * 5) (so:=off+i * 5) (show (i+1) * 5+(c - i) * 5≤C1.size by omega) (show off+i * 5+(c - i) * 5≤cc.size by omega) ho1
  exact ⟨w',e1,e2.here,by rw [e2.size,h1,hW.size],fun k hk=>by rw [e2.Z6 k hk,h1,hW.Z6 k hk],by rw [e2.os,h2,hW.os],by rw [e2.tape,h3,hW.tape],by rw [e2.output,h4,hW.output]⟩
 have hw1:IntKind.i64.wrap ((i:Int)+1)=(i:Int)+1:=by rw [IntKind.wrap_i64];omega
 have hw2:IntKind.i64.wrap ((c:Int)+1)=(c:Int)+1:=by rw [IntKind.wrap_i64];omega
 have hw3:IntKind.i64.wrap ((c:Int)+1 - (i:Int))=(c:Int)+1 - (i:Int):=by rw [IntKind.wrap_i64];omega
 have htn:((i:Int)+1).toNat=i+1:=by omega
 have mixed:Try.prog.follows Departure.mixedOrders=true:=by kernel_rfl
 have hb1:(0:Int)≤(i:Int)+1:=by omega
 have hin:i≤c:=by omega
 have hb3:(i:Int)≤(c:Int):=by omega
 have hb4:¬(c=i):=by omega
 have hGi:¬(G=i):=by omega
 have hGim:¬(G=i+1):=by omega
 have hlast:Am (Am ROW.toList (i * 5) ((cv.toList.drop vo).take (1 * 5))) ((i+1) * 5) ((cc.toList.drop (off+i * 5)).take ((c - i) * 5)) =
   (cc.toList.drop off).take (i * 5) ++ (cv.toList.drop vo).take (1 * 5) ++ (cc.toList.drop (off+i * 5)).take ((c - i) * 5) ++ Z2:=by
  rw [hRL,show (i+1) * 5=i * 5+5 by omega]
  exact bK (x:=5) (s:=(c - i) * 5) (by simp;omega) (by simp;omega) (by simp;omega) (by rw [hL1];omega)
 clear hkk hold hnc hbig hy hyz hys hyb hys' hyb' hRL hL1 hW0 hz3
 go_enter Try.func62,Try.ntmps62
 go_wp2_with (first
  | (at_builtin;refine Lib.wpList_append_run _ rfl _ _ _ _ rfl _ _ rfl rfl _ _ (hrz _) ?_)
  | (refine Qk rfl _ _ 114 114 rfl _ _ rfl rfl (cpA _ (G - i)) ?_;intro W1 hW1))
 go_region_law_o (refine Uy rfl _ _ 114 114 rfl _ _ (by simp [Act.eval,Act.put]) (by simp [Act.eval,Act.put]) (cpB W1.drew W1 _ hsz hW1 rfl rfl rfl rfl _ (G - (i+1)) (c - i)) ?_;intro W2 hW2)
 go_wp2
 go_ret
 rw [hlast] at hW2
 exact ⟨G,Z2,hG,hL2,rfl,by simpa only [List.append_assoc,Nat.one_mul] using hW2.here,by rw [hW2.size,n2.1],fun k hk=>by rw [hW2.Z6 k hk,n1 k hk],by rw [hW2.os,n2.2.1],by rw [hW2.tape,n2.2.2.1],by rw [hW2.output,n2.2.2.2]⟩
end Go.Proofs.Ytmppehipfpkepaa.Dm
/- slices.Delete at things of api.Arrive, run. -/
set_option linter.unusedVariables false
namespace Go.Proofs.Ytmppehipfpkepaa.Dm
open Go.Dm Go.RowKit Go.Lib
set_option maxHeartbeats 4000000
set_option maxRecDepth 100000
theorem AB1:aq Try.prog 63 5:=by
 intro B off n c i j cc ty fz w hij hjn hnc hn63 hB hfz hlim ho
 have hj:=BE _ _ (by kernel_rfl:tt.get 124=some EA)
 have hts:=BE _ _ (by kernel_rfl:tt.get 114=some OZ)
 have hz1:¬((i:Int)=(j:Int)):=by omega
 have hb1:(i:Int)≤(j:Int):=by omega
 have hb2:(j:Int)≤(n:Int):=by omega
 have hb3:(n:Int)≤(c:Int):=by omega
 have hin:i≤n:=by omega
 have hij2:i≤j:=by omega
 have mixed:Try.prog.follows Departure.mixedOrders=true:=by kernel_rfl
 have hoz:BD (BS (EA).zero)=true:=by kernel_rfl
 have ap:∀(W:World),W.heap=w.heap→W.os=w.os→W.tape=w.tape→W.output=w.output→∀(r:TypeId) (so sc:Nat),so+(n - j) * 5≤cc.size→((cc.toList.drop so).take ((n - j) * 5))=((cc.toList.drop (off+j * 5)).take ((n - j) * 5))→
   ∃w',(Builtin.append_ #[114,114] r #[.slice (some ⟨B,off,none⟩) i c, .slice (some ⟨B,so,none⟩) (n - j) sc]).run Try.prog W= .ok (.slice (some ⟨B,off,none⟩) (i+(n - j)) c) w'∧
    At B (.cells ⟨Am cc.toList (off+i * 5) ((cc.toList.drop (off+j * 5)).take ((n - j) * 5))⟩ ty fz) w w':=fun W h1 h2 h3 h4 r so sc hso hsrc=>by
  obtain ⟨w',e1,e2⟩:=ck (P:=Try.prog) (r:=r) (sc:=sc) (n:=n - j) (sl:=i) (cap:=c) Try.underlying114 hj W (by rw [h1];exact hB) hfz (by rw [h1];exact hB) (by omega) (o:=off) (so:=so) (show off+(i+(n - j)) * 5≤cc.size by omega) hso (by rw [show (n - j) * (EA).size=(n - j) * 5 from rfl,hsrc];exact ho)
  rw [show (n - j) * (EA).size=(n - j) * 5 from rfl,hsrc] at e2
  exact ⟨w',e1,e2.here,by rw [e2.size,h1],fun k hk=>by rw [e2.Z6 k hk,h1],by rw [e2.os,h2],by rw [e2.tape,h3],by rw [e2.output,h4]⟩
 have cl:∀(W:World) (C1:Array Value),C1.size=cc.size→At B (.cells C1 ty fz) w W→∀(r:TypeId) (sc:Nat),∃w',(Builtin.clear_ #[114] r #[.slice (some ⟨B,off+(i+(n - j)) * 5,none⟩) (n - (i+(n - j))) sc]).run Try.prog W= .ok undef w'∧
    At B (.cells ⟨Am C1.toList (off+(i+(n - j)) * 5) (Ci EA (n - (i+(n - j))))⟩ ty fz) w w':=fun W C1 hs hW r sc=>by
  obtain ⟨w',e1,e2⟩:=jI (P:=Try.prog) (r:=r) (cap:=sc) (n:=n - (i+(n - j))) Try.underlying114 hj W hW.here hfz (o:=off+(i+(n - j)) * 5) (show off+(i+(n - j)) * 5+(n - (i+(n - j))) * 5≤C1.size by omega) hoz
  exact ⟨w',e1,e2.here,by rw [e2.size,hW.size],fun k hk=>by rw [e2.Z6 k hk,hW.Z6 k hk],by rw [e2.os,hW.os],by rw [e2.tape,hW.tape],by rw [e2.output,hW.output]⟩
 have hsz:(⟨Am cc.toList (off+i * 5) ((cc.toList.drop (off+j * 5)).take ((n - j) * 5))⟩:Array Value).size=cc.size:=by
  have:(Am cc.toList (off+i * 5) ((cc.toList.drop (off+j * 5)).take ((n - j) * 5))).length=cc.toList.length:=CY (by simp;omega)
  simpa using this
 have hlz:(Ci EA (n - (i+(n - j)))).length=(j - i) * 5:=by
  rw [DZ hj,show n - (i+(n - j))=j - i by omega];rfl
 have hic:i≤c:=by omega
 have hjc:j≤c:=by omega
 have hcl:¬(c=i+(n - j)):=by omega
 have hlt:i+(n - j)≤n:=by omega
 have hlen:n - (j - i)=i+(n - j):=by omega
 rw [hlen]
 clear hoz
 by_cases hcj:c=j
 ·have hso:((cc.toList.drop off).take ((n - j) * 5))=((cc.toList.drop (off+j * 5)).take ((n - j) * 5)):=by rw [show n - j=0 by omega];simp
  have ap2:=ap w.drew rfl rfl rfl rfl 114 off (c - j) (by omega) hso
  have hn:n=j:=by omega
  clear ap hso hjn hnc hin hjc hb2 hb3 hlt hlen
  subst hcj
  subst hn
  simp only [Nat.sub_self,Nat.add_zero] at ap2 cl hlz hcl hsz ⊢
  go_enter Try.func63,Try.ntmps63
  go_wp2
  go_region_law_o (refine step_append rfl _ _ 114 114 rfl _ _ (by simp [Act.eval,Act.put]) (by simp [Act.eval,Act.put]) ap2 ?_;intro W1 hW1)
  go_wp2_with (refine Oe rfl _ 114 rfl _ rfl (cl W1 _ hsz hW1 _ (n - i)) ?_;intro W2 hW2)
  go_ret
  exact ⟨rfl,_,hlz,hW2⟩
 ·have ap2:=ap w.drew rfl rfl rfl rfl 114 (off+j * 5) (c - j) (by omega) rfl
  clear ap
  go_enter Try.func63,Try.ntmps63
  go_wp2
  go_region_law_o (refine step_append rfl _ _ 114 114 rfl _ _ (by simp [Act.eval,Act.put]) (by simp [Act.eval,Act.put]) ap2 ?_;intro W1 hW1)
  go_wp2_with (refine Oe rfl _ 114 rfl _ rfl (cl W1 _ hsz hW1 _ (c - (i+(n - j)))) ?_;intro W2 hW2)
  go_ret
  exact ⟨rfl,_,hlz,hW2⟩
end Go.Proofs.Ytmppehipfpkepaa.Dm
/- slices.Insert and slices.Delete at things of api.Arrive. -/
set_option linter.unusedVariables false
namespace Go.Proofs.Ytmppehipfpkepaa.Dm
open Go.Dm
set_option maxHeartbeats 8000000
set_option maxRecDepth 20000
theorem nM:BK Try.prog 62 (Ts AP 48):=by
 refine ⟨⟨_,XF.toFTOk⟩,fun args hp top hpre=> ?_⟩
 match args,hpre with
 | [v,_, .slice (some ⟨xb,0,none⟩) 1 1],⟨l,i,a,h,rfl,hi,hx,hap,hroom⟩=>
 simp only [BA,Int.toNat_natCast,h.Rn.rd,hx,El,AP.h]
 by_cases hlt:i < l.length
 ·cases h with
  |nil=>simp at hlt
  |Cy b l hb hn=>exact ig aD bx hb hx hap hlt hroom
 ·have hi2:i=l.length:=by omega
  subst hi2
  refine AL.closed fun hcl hsc=> ?_
  have hS:=h.Rn
  have hs:=hS.low hcl
  have hne:¬(((1:Nat):Int)=0):=by decide
  have hapA:Ar tt.get hp top [114,114] v (.slice (some ⟨xb,0,none⟩) 1 1)=some (Df top (l.length+1),DJ v ++ [(top,Dv AP (H4 l l.length a))],top+1):=
   Vr F6 It rfl IX rfl rfl h hx hroom
  have hxT:BU AP hp (.slice (some ⟨xb,0,none⟩) 1 1) [a]:=BU.one hx
  refine AL.Au BE XF rfl 95 rfl [.tmp 6] rfl (show 3≤95 by decide) ?_
  refine CW.vc OC [0,1,2,6,7,8,9,16,22,31,68] (by kernel_rfl) ?_
  (repeat ((try refine Vc.mk' ?_);simp only [go_sem,Nat.reduceAdd,EH hS,Y0 hS,EH hxT,hne,hapA]))
  exact ⟨rfl,rfl,rfl⟩
theorem ABV:j6 Try.prog 63:=by
 intro base n c i w hin hnc
 have hb2:(i:Int)≤(n:Int):=by omega
 have hb3:(n:Int)≤(c:Int):=by omega
 go_enter Try.func63,Try.ntmps63
 go_wp2
 all_goals (go_ret;exact ⟨rfl,rfl⟩)
theorem j8:BK Try.prog 63 (MD AP):=vk dw AB1 ABV
def ACN:FuncId→Bp:=Bu (Bu (Bu yW 57 Om) 62 (Ts AP 48)) 63 (MD AP)
theorem Wr:Cf Try.prog tt.get ACN:=((OC.add qq).add nM).add j8
end Go.Proofs.Ytmppehipfpkepaa.Dm
/- A calendar of api.Arrive: none, New, Put. -/
set_option linter.unusedVariables false
namespace Go.Proofs.Ytmppehipfpkepaa.Dm
open Go.Dm
set_option maxHeartbeats 8000000
set_option maxRecDepth 20000
def EI:Bp:= .pure (fun args hp=>match args with | [.pointer (some ⟨cb,0,none⟩)]=>Ye hp cb | [.pointer none]=>True | _=>False)
 (fun args hp=>match args with | [.pointer (some ⟨cb,_,_⟩)]=> .bool (!Cg ((cellsOf (hp cb)).headD undef)) | _=> .bool true)
theorem gD:BK Try.prog 54 EI:=by
 refine .Gx Rg ?_ ?_
 ·intro args hp h
  match args,h with
  | [.pointer (some ⟨cb,0,none⟩)],_=>rfl
  | [.pointer none],_=>rfl
 intro args hp hpre top hcl hsc
 match args,hpre with
 | [.pointer (some ⟨cb,0,none⟩)],⟨t,k,lv,h⟩=>
  refine AL.Au BE Rg rfl 12 rfl [.tmp 2] rfl (show 1≤12 by decide) ?_
  cases t with
  |true=>
   refine CW.vc Wr [0,2] (by kernel_rfl) ?_
   (repeat ((try refine Vc.mk' ?_);simp only [go_sem,Nat.reduceAdd,h,List.headD_cons]))
  |false=>
   refine CW.vc Wr [0,2] (by kernel_rfl) ?_
   (repeat ((try refine Vc.mk' ?_);simp only [go_sem,Nat.reduceAdd,h,List.headD_cons]))
 | [.pointer none],_=>
  refine AL.Au BE Rg rfl 12 rfl [.tmp 2] rfl (show 1≤12 by decide) ?_
  refine CW.vc Wr [0,2] (by kernel_rfl) ?_
  (repeat ((try refine Vc.mk' ?_);simp only [go_sem]))
/-- a calendar -/
structure Cp (hp:Hp) (cb:Nat) (last:Int) (lv:Value) (l:List Ah):Prop where
 h:hp cb=some (.cells true 0 [.bool true, .int .i64 last,lv])
 o:E0 AP hp lv l
 up:OR l
 tk:∀a∈l,1≤a.CA∧a.CA≤last
 l0:0≤last
 l1:last≤1000000
 n:l.length≤1000000
theorem Cp.ap {hp:Hp}{cb:Nat}{last:Int}{lv:Value}{l:List Ah}(C:Cp hp cb last lv l):DQ cb lv:=by
 cases C.o with
 |nil=>trivial
 |Cy b l h hn=>
  intro e
  subst e
  have:=C.h
  rw [h] at this
  simp only [Option.some.injEq,BB.cells.injEq] at this
  exact absurd this.2.1 (by decide)
theorem Cp.low {hp:Hp}{cb:Nat}{last:Int}{lv:Value}{l:List Ah}(C:Cp hp cb last lv l){top:Nat}(hcl:Cl hp top):Sc top lv:=C.o.Rn.low hcl
theorem MS {t:Ah}:∀ {l:List Ah},OR l→l.take (QK l t)=l.filter (fun a=>GB a t)∧l.drop (QK l t)=l.filter (fun a=> !GB a t)
 | [],_=>⟨rfl,rfl⟩
 |a :: l,h=>by
  obtain ⟨h1,h2⟩:=List.pairwise_cons.1 h
  have ih:=MS (t:=t) h2
  unfold QK at ih ⊢
  cases c:GB a t with
  |true=>
   rw [List.countP_cons,c]
   simp only [List.filter_cons,c,if_true,Bool.not_true,Bool.false_eq_true,if_false,List.take_succ_cons,List.drop_succ_cons]
   exact ⟨by rw [ih.1],ih.2⟩
  |false=>
   have hall:∀b∈l,GB b t=false:=by
    intro b hb
    cases c2:GB b t with
    |false=>rfl
    |true=>rw [show GB a t=true from UY (h1 b hb) c2] at c;cases c
   have e0:l.countP (fun a=>GB a t)=0:=List.countP_eq_zero.2 fun b hb=>by simp [hall b hb]
   have e1:l.filter (fun a=>GB a t)= []:=List.filter_eq_nil_iff.2 fun b hb=>by simp [hall b hb]
   have e2:l.filter (fun a=> !GB a t)=l:=List.filter_eq_self.2 fun b hb=>by simp [hall b hb]
   rw [List.countP_cons,c,e0]
   simp [c,e1,e2]
def FO (l:List Ah)(t:Ah):List Ah:=H4 l (QK l t) t
theorem ju {l:List Ah}(h:OR l)(t:Ah):FO l t=l.filter (fun a=>GB a t) ++ t :: l.filter (fun a=> !GB a t):=by
 unfold FO H4
 rw [(MS h).1,(MS h).2]
theorem QA (l:List Ah)(t:Ah):(FO l t).length=l.length+1:=VP (eo l t) t
theorem Mv {l:List Ah}{t a:Ah}:a∈FO l t ↔ a=t∨a∈l:=by
 unfold FO H4
 rw [List.mem_append,List.mem_cons]
 constructor
 ·rintro (h | h | h)
  ·exact .inr (List.mem_of_mem_take h)
  ·exact .inl h
  ·exact .inr (List.mem_of_mem_drop h)
 ·rintro (h | h)
  ·exact .inr (.inl h)
  ·have:=(List.take_append_drop (QK l t) l) ▸ h
   rcases List.mem_append.1 this with h | h
   ·exact .inl h
   ·exact .inr (.inr h)
theorem O3 {l:List Ah}(h:OR l){t:Ah}(ht:∀a∈l,a.CA < t.CA):OR (FO l t):=by
 rw [ju h]
 unfold OR
 rw [List.pairwise_append]
 refine ⟨h.filter _,List.pairwise_cons.2 ⟨fun b hb=> ?_,h.filter _⟩,fun a ha b hb=> ?_⟩
 ·obtain ⟨h1,h2⟩:=List.mem_filter.1 hb
  have h3:=ht b h1
  simp only [GB,jj,Bool.not_eq_true',Bool.or_eq_false_iff,Bool.and_eq_false_iff,decide_eq_false_iff_not] at h2
  simp only [GB,jj,Bool.or_eq_true,Bool.and_eq_true,decide_eq_true_eq]
  omega
 ·have h1:=(List.mem_filter.1 ha).2
  rcases List.mem_cons.1 hb with rfl | hb
  ·exact h1
  ·obtain ⟨h2,h3⟩:=List.mem_filter.1 hb
   have h4:=ht b h2
   simp only [GB,jj,Bool.not_eq_true',Bool.or_eq_false_iff,Bool.and_eq_false_iff,decide_eq_false_iff_not] at h3
   simp only [GB,jj,Bool.or_eq_true,Bool.and_eq_true,decide_eq_true_eq] at h1 ⊢
   omega
def XG (a:Value)(k:Int)(v:Value):Ah:=AP.dec (a :: .int .i64 k :: BS v)
def Ja (cb:Nat)(last:Int)(lv:Value)(l:List Ah)(t:Ah)(top:Nat):Value×BC×Nat:=
 (.int .i64 (last+1),(cb,some (.cells true 0 [.bool true, .int .i64 (last+1),Df top (l.length+1)])) :: (DJ lv ++ [(top,Dv AP (FO l t))]),top+1)
def S4 (hp:Hp)(cb:Nat)(a v:Value):Prop:= ∃last lv l,Cp hp cb last lv l∧last < 1000000∧l.length < 1000000∧EO .u64 a∧∃x:Ae,v= .agg ⟨AJ.enc x⟩
def JN:Bp:= .det (fun args hp _=>match args with | [.pointer (some ⟨cb,0,none⟩),a,v]=>S4 hp cb a v | _=>False) (fun args hp top=>match args with
 | [.pointer (some ⟨cb,_,_⟩),a,v]=>Ja cb (Eo hp cb) (He hp cb) (AP.rd hp (He hp cb)) (XG a (Eo hp cb+1) v) top | _=>(undef, [],top))
def oG:FuncId→Bp:=Bu ACN 54 EI
theorem SN:Cf Try.prog tt.get oG:=Wr.add gD
theorem QX:oG 54=EI:=rfl
theorem dk:oG 57=Om:=rfl
theorem Yi:oG 62=Ts AP 48:=rfl
theorem mi:BK Try.prog 34 JN:=by
 refine .Cc W3 ?_
 intro args hp top hpre hcl hsc
 match args,hpre with
 | [.pointer (some ⟨cb,0,none⟩),a,v],⟨last,lv,l,C,hl1,hn1,ha,hv⟩=>
 rw [ha];generalize intOf a=a;obtain ⟨v,rfl⟩:=hv
 have hh:=C.h
 have hcbt:cb < top:=hcl.lt _ _ hh
 have hctn:¬top=cb:=by omega
 have hl0:=C.l0
 have hw:BQ .i64 (last+1)=last+1:=wrap64 (by omega) (by omega)
 simp only [He,Eo,hh,El,List.getElem?_cons_succ,List.getElem?_cons_zero,Option.getD_some,BA,C.o.Rn.rd]
 have lvs:=C.low hcl
 refine AL.Au BE W3 rfl 50 rfl [.tmp 6] rfl (show 3≤50 by decide) ?_
 have hic:∀ {h':Hp},h' cb=some (.cells true 0 [.bool true, .int .i64 last,lv])→Ye h' cb=True:=fun h=>eq_true ⟨_,_,_,h⟩
 have hrd:∀ {h':Hp},AE top [cb] h' hp→AP.rd h' lv=l:=fun {h'} hk=>(C.o.mono fun b n c e=>by subst e;exact hk b lvs (by simp only [List.mem_singleton];exact fun e=>C.ap e.symm)).Rn.rd
 have hbp:∀ {h':Hp},AE top [cb] h' hp→dt h' lv=True:=fun {h'} hk=>
  eq_true ⟨l,(C.o.mono fun b n c e=>by subst e;exact hk b lvs (by simp only [List.mem_singleton];exact fun e=>C.ap e.symm)).Rn,C.up,by omega⟩
 have hT:XG (.int .u64 a) (last+1) (.agg ⟨AJ.enc v⟩)=(Ah.mk a (last+1) v.B2 v.To v.Bytes):=rfl
 have hte:AP.enc (Ah.mk a (last+1) v.B2 v.To v.Bytes)= .int .u64 a :: .int .i64 (last+1) :: BS (.agg ⟨AJ.enc v⟩):=rfl
 simp only [hT]
 have hlb:=eo l (Ah.mk a (last+1) v.B2 v.To v.Bytes)
 have hroom:DR (l.length+1) 48=true:=Ou (by omega) (by omega)
 have hIP:∀ {h':Hp} {xb:Nat},AE top [cb] h' hp→h' xb=some (.cells true 5 [.int .u64 a, .int .i64 (last+1), .int .i64 v.B2, .int .i64 v.To, .string ⟨⟨v.Bytes⟩⟩])→top≤xb→kc AP 48 h' lv (.int .i64 ((QK l (Ah.mk a (last+1) v.B2 v.To v.Bytes):Nat):Int)) xb=True:=fun {h'} {xb} hk hx hxb=>
  eq_true ⟨l,_,(Ah.mk a (last+1) v.B2 v.To v.Bytes),C.o.mono fun b n c e=>by subst e;exact hk b lvs (by simp only [List.mem_singleton];exact fun e=>C.ap e.symm),rfl,hlb,hx,by
   have:=lvs
   cases C.o with
   |nil=>trivial
   |Cy b l h hn=>exact Nat.ne_of_gt (Nat.lt_of_lt_of_le (show b < top from this) hxb),hroom⟩
 have hap:=C.ap
 have ho:=C.o
 cases ho with
 |nil=>
  refine CW.vc SN [0,1,2,5,6,7,8,11] (by kernel_rfl) ?_
  (repeat ((try refine Vc.mk' ?_);simp only [go_sem,Nat.reduceAdd,Nat.reduceMul,Nat.reduceLeDiff,Nat.reduceEqDiff,QX,EI,dk,Om,Yi,Ts,List.headD_cons,AE.B5,List.mem_singleton,hh,hctn,hw,hic,hrd,hbp,AS hcbt,hIP,cH,DJ,Df,Dv]))
  have hc2:¬top+3=cb:=by omega
  simp only [Ja,DJ,Df,Dv,FO,List.nil_append]
  (refine ⟨[top+3],by simp,by simp,by simp, ?_, ?_, ?_⟩ <;> simp [Ad,Ag,AD.nil,AD.cons,AF,AG,AM,Bn.BN,AB,AH,AE.set,AE.B5,AE.refl,hc2,AA hcbt,Bn.BN])
 |Cy b l hb hn=>
  have hbt:b < top:=lvs
  have hcb:¬cb=b:=hap
  have hbc:¬b=cb:=fun e=>hap e.symm
  have hne1:¬cb=top:=by omega
  have hne2:¬b=top:=by omega
  refine CW.vc SN [0,1,2,5,6,7,8,11] (by kernel_rfl) ?_
  (repeat ((try refine Vc.mk' ?_);simp only [go_sem,Nat.reduceAdd,Nat.reduceMul,Nat.reduceLeDiff,Nat.reduceEqDiff,QX,EI,dk,Om,Yi,Ts,List.headD_cons,AE.B5,List.mem_singleton,hh,hctn,hw,hic,hrd,hbp,AS hcbt,hIP,cH,DJ,Df,Dv,hcb,hbc,AS hbt,hb]))
  have hc2:¬top+3=cb:=by omega
  have hb2:¬top+3=b:=by omega
  simp only [Ja,DJ,Df,Dv,FO,List.cons_append,List.nil_append]
  (refine ⟨[top+3],by simp,by simp,by simp, ?_, ?_, ?_⟩ <;> simp [Ad,Ag,AD.nil,AD.cons,AF,AG,AM,Bn.BN,AB,AH,AE.set,AE.B5,AE.refl,hc2,AA hcbt,AA hbt,hcb,hbc,Bn.BN])
end Go.Proofs.Ytmppehipfpkepaa.Dm
/- A calendar of api.Arrive: New, Len, Next, Take. -/
set_option linter.unusedVariables false
namespace Go.Proofs.Ytmppehipfpkepaa.Dm
open Go.Dm
set_option maxHeartbeats 8000000
set_option maxRecDepth 20000
def JO:Bp:= .det (fun args _ _=>args= []) (fun _ _ top=>(.pointer (some ⟨top,0,none⟩), [(top,some (.cells true 0 [.bool true, .int .i64 0, .slice none 0 0]))],top+1))
theorem mr:BK Try.prog 41 JO:=by
 refine .Cc Ws ?_
 intro args hp top hpre hcl hsc
 subst hpre
 refine AL.Au BE Ws rfl 3 rfl [.tmp 0] rfl (show 0≤3 by decide) ?_
 refine CW.vc SN [0] (by kernel_rfl) ?_
 (repeat ((try refine Vc.mk' ?_);simp only [go_sem,Nat.reduceAdd,Nat.reduceLeDiff]))
 (refine ⟨[top],by simp,by simp,by simp, ?_, ?_, ?_⟩ <;> simp [Ad,Ag,AD.nil,AD.cons,AF,AG,AM,AB,AE.set,AE.refl])
def TG (hp:Hp)(cb:Nat):Prop:= ∃last lv l,Cp hp cb last lv l
def Gj:Bp:= .pure (fun args hp=>match args with | [.pointer (some ⟨cb,0,none⟩)]=>TG hp cb | _=>False) (fun args hp=>match args with
 | [.pointer (some ⟨cb,_,_⟩)]=> .int .i64 ((AP.rd hp (He hp cb)).length:Int) | _=>undef)
theorem lE:BK Try.prog 32 Gj:=by
 refine .Gx Xi ?_ ?_
 ·intro args hp h
  match args,h with
  | [.pointer (some ⟨cb,0,none⟩)],_=>rfl
 intro args hp hpre top hcl hsc
 match args,hpre with
 | [.pointer (some ⟨cb,0,none⟩)],⟨last,lv,l,C⟩=>
 have hh:=C.h
 have hS:=C.o.Rn
 have lvs:=C.low hcl
 have hic:∀ {h':Hp},h' cb=some (.cells true 0 [.bool true, .int .i64 last,lv])→Ye h' cb=True:=fun h=>eq_true ⟨_,_,_,h⟩
 simp only [He,hh,El,List.getElem?_cons_succ,List.getElem?_cons_zero,Option.getD_some,hS.rd]
 refine AL.Au BE Xi rfl 10 rfl [.tmp 2] rfl (show 1≤10 by decide) ?_
 refine CW.vc SN [0,2,4] (by kernel_rfl) ?_
 (repeat ((try refine Vc.mk' ?_);simp only [go_sem,Nat.reduceAdd,QX,EI,List.headD_cons,hh,hic,EH hS]))
def Dl (a:Ah):Ae:=⟨a.Fq,a.NM,a.Ff⟩
def JU (l:List Ah)(now:Int):Nat:=(l.takeWhile fun a=>decide (a.at_≤now)).length
def EP (l:List Ah)(k:Nat):List (Ae):=(l.take k).map Dl
theorem FW (l:List Ah)(now:Int):JU l now≤l.length:=(List.takeWhile_sublist _).length_le
def HU (cb:Nat)(last:Int)(lv:Value)(l:List Ah)(k:Nat)(top:Nat):Value×BC×Nat:=
 (AK top (EP l k),(cb,some (.cells true 0 [.bool true, .int .i64 last,JJ lv l 0 k])) :: (top,AO AJ (EP l k)) :: MY AP lv l 0 k,top+1)
def QN (hp:Hp)(cb:Nat)(a:Value):Prop:=(∃last lv l,Cp hp cb last lv l)∧EO .u64 a
def Kr:Bp:= .det (fun args hp _=>match args with | [.pointer (some ⟨cb,0,none⟩),a]=>QN hp cb a | _=>False) (fun args hp top=>match args with
 | [.pointer (some ⟨cb,_,_⟩),a]=>HU cb (Eo hp cb) (He hp cb) (AP.rd hp (He hp cb)) (JU (AP.rd hp (He hp cb)) (intOf a)) top | _=>(undef, [],top))
def vL:FuncId→Bp:=Bu (Bu (Bu oG 34 JN) 41 JO) 32 Gj
theorem J4:Cf Try.prog tt.get vL:=((SN.add mi).add mr).add lE
theorem jN:vL 54=EI:=rfl
theorem Oi:vL 63=MD AP:=rfl
def Pf (hp:Hp)(top cb:Nat)(now:Int)(lv:Value)(l:List Ah)(i:Nat):SS:=
 ⟨[(0, .pointer (some ⟨cb,0,none⟩),true),(1, .int .u64 now,true),(5,AK top (EP l i),true),(13,lv,true),(14, .int .i64 (l.length:Int),true),(15, .int .i64 (i:Int),true)],hp.AZ [(top,AO AJ (EP l i))],top+1⟩
theorem ZD {l:List Ah}{i:Nat}(h:i < l.length):EP l (i+1)=EP l i ++ [Dl (Aj l i)]:=by
 unfold EP;rw [CO h,List.map_append];rfl
theorem cT {l:List Ah}{i:Nat}(h:i≤l.length):(EP l i).length=i:=by unfold EP;simp;omega
theorem CQ {hp:Hp}{lv:Value}{l:List Ah}(h:E0 AP hp lv l){i:Nat}(hi:i≤l.length):(JJ lv l 0 i=lv∧MY AP lv l 0 i= [])∨
  ∃b,lv= .slice (some ⟨b,0,none⟩) l.length l.length∧JJ lv l 0 i= .slice (some ⟨b,0,none⟩) (FU l 0 i).length (FU l 0 i).length∧MY AP lv l 0 i= [(b,some (.cells true 5 (AP.flat (FU l 0 i))))]:=by
 by_cases e:0=i
 ·left;simp [JJ,MY,e]
 ·cases h with
  |nil=>simp at hi;omega
  |Cy b l h hn=>right;exact ⟨b,rfl,by simp [JJ,e,Df],by simp [MY,e,Dv];rfl⟩
theorem gC:BK Try.prog 35 Kr:=by
 refine .Cc XZ ?_
 intro args hp top hpre hcl hsc
 match args,hpre with
 | [.pointer (some ⟨cb,0,none⟩),av],⟨⟨last,lv,l,C⟩,ha⟩=>
 rw [ha]
 generalize intOf av=now
 have hh:=C.h
 have hcbt:cb < top:=hcl.lt _ _ hh
 have hS:=C.o.Rn
 have lvs:=C.low hcl
 have hn:=C.n
 have hl63:l.length≤9223372036854775807:=by omega
 have hcc:¬top=cb:=by omega
 have hic:∀ {h':Hp},h' cb=some (.cells true 0 [.bool true, .int .i64 last,lv])→Ye h' cb=True:=fun h=>eq_true ⟨_,_,_,h⟩
 simp only [He,Eo,hh,El,List.getElem?_cons_succ,List.getElem?_cons_zero,Option.getD_some,BA,hS.rd]
 have hcp:∀ {h':Hp} {i:Nat},i≤l.length→AE top [] h' hp→nA AP h' lv (.int .i64 0) (.int .i64 (i:Int))=True:=fun {h'} {i} hi hk=>
  eq_true ⟨l,0,i,C.o.mono fun b n c e=>by subst e;exact hk b lvs (by simp),rfl,rfl,Nat.zero_le _,hi⟩
 have hrd:∀ {h':Hp},AE top [] h' hp→AP.rd h' lv=l:=fun {h'} hk=>(C.o.mono fun b n c e=>by subst e;exact hk b lvs (by simp)).Rn.rd
 refine AL.Au BE XZ rfl 40 rfl [.tmp 4] rfl (show 2≤40 by decide) ?_
 refine CW.vc J4 [0,1,4,5,7,9,13,14,15,16,22] (by kernel_rfl) ?_
 (repeat ((try refine Vc.mk' ?_);simp only [go_sem,Nat.reduceAdd,jN,EI,List.headD_cons,hh,hic,EH hS]))
 refine CW.CZ (Pf hp top cb now lv l) (fun i=>i≤l.length∧∀k,k < i→decide ((Aj l k).at_≤now)=true) (fun i=>l.length - i) 0 ⟨Nat.zero_le _,fun k hk=>absurd hk (Nat.not_lt_zero _)⟩ ?_ ?_
 ·have h0:EP l 0= []:=rfl
  exact (by refine BO.mk' [top] hcl (by simp) (by simp) rfl (AV ?_) ?_ ?_ <;> simp [Ax,Cd,Ad,AD.nil,AD.cons,AM,AE.refl,Sc.Ad (fun j hj=>AA hj) lvs,AA hcbt,h0,Dh,EN])
 ·rintro i ⟨hi,hlo⟩
  have hol:=cT hi
  have h16:(EP l i).length < 16777216:=by omega
  have hos:BU AJ (hp.set top (AO AJ (EP l i))) (AK top (EP l i)) (EP l i):= .own (AB ..) (by omega)
  have hfin:(i < l.length→decide ((Aj l i).at_≤now)=false)→JU l now=i:=fun h=>cQ hi hlo h
  by_cases hlt:i < l.length
  ·by_cases c1:now < (Aj l i).at_
   ·have hk:=hfin fun _=>decide_eq_false (by omega)
    rw [hk]
    rcases CQ C.o hi with ⟨e1,e2⟩ | ⟨b,e0,e1,e2⟩
    ·refine CW.vc J4 [0,1,4,5,7,9,13,14,15,16,22] (by kernel_rfl) ?_
     (repeat ((try refine Vc.mk' ?_);simp only [go_sem,reduceCtorEq,Nat.reduceAdd,hh,Oi,MD,EX hS,Fz hS,hS.oc,hS.cl,hS.rd,Bf lvs,Ao lvs,Pf,hlt,c1,hol,Dk,hcp,AS hcbt,hi,e1,e2]))
     simp only [HU,e1,e2]
     (refine ⟨[top],by simp,by simp,by simp, ?_, ?_, ?_⟩ <;> simp [Ad,Ag,AD.nil,AD.cons,AF,AG,AQ,AM,Af,AB,AH,AE.set,AE.B5,AE.refl,Sc.Ad (fun j hj=>AA hj) lvs,AA hcbt,hcc])
    ·have lvb:=lvs
     rw [e0] at lvb
     have hbt:b < top:=lvb
     have hap:cb≠b:=by have:=C.ap;rw [e0] at this;exact this
     have hbc:¬b=cb:=fun e=>hap e.symm
     have hcb:¬cb=b:=hap
     have hbt2:¬top=b:=by omega
     refine CW.vc J4 [0,1,4,5,7,9,13,14,15,16,22] (by kernel_rfl) ?_
     (repeat ((try refine Vc.mk' ?_);simp only [go_sem,reduceCtorEq,Nat.reduceAdd,hh,Oi,MD,EX hS,Fz hS,hS.rd,Bf lvs,Ao lvs,Pf,hlt,c1,hol,Dk,hcp,AS hcbt,hi,e1,e2,hcb]))
     simp only [HU,e1,e2]
     (refine ⟨[top],by simp,by simp,by simp, ?_, ?_, ?_⟩ <;> simp [Ad,Ag,AD.nil,AD.cons,AF,AG,AQ,AM,Af,Bn.BN,AB,AH,AE.set,AE.B5,AE.refl,AA hcbt,AA hbt,Bn.BN,hcc,hbc,hcb,hbt2])
   ·have hst:=ZD hlt
    refine CW.vc J4 [0,1,4,5,7,9,13,14,15,16,22] (by kernel_rfl) ?_
    (repeat ((try refine Vc.mk' ?_);simp only [go_sem,reduceCtorEq,Nat.reduceAdd,Nat.reduceMul,Nat.reduceLeDiff,EX hS,Fz hS,Ao lvs,Pf,hlt,c1,h16,Dk]))
    refine .mk (i+1) ⟨hlt,fun k hk=> ?_⟩ (by omega) ((by refine BO.mk' [top+3] hcl (by simp) (by simp) rfl (AV ?_) ?_ ?_ <;> simp [Ax,Cd,Ad,AD.nil,AD.cons,AQ,AM,Af,AB,AE.set,AE.refl,Sc.Ad (fun j hj=>AA hj) lvs,AA hcbt,hst,Dl,Av hlt hl63]))
    by_cases e:k < i
    ·exact of_decide_eq_true (hlo k e)
    ·have e2:k=i:=by omega
     subst e2
     omega
  ·have hi2:i=l.length:=by omega
   subst hi2
   have hk:=hfin fun h=>absurd h (Nat.lt_irrefl _)
   rw [hk]
   rcases CQ C.o hi with ⟨e1,e2⟩ | ⟨b,e0,e1,e2⟩
   ·refine CW.vc J4 [0,1,4,5,7,9,13,14,15,16,22] (by kernel_rfl) ?_
    (repeat ((try refine Vc.mk' ?_);simp only [go_sem,Nat.reduceAdd,hh,Oi,MD,hS.oc,hS.cl,hS.rd,Bf lvs,Pf,Nat.lt_irrefl,decide_false,hol,hcp,AS hcbt,hi,e1,e2]))
    simp only [HU,e1,e2]
    (refine ⟨[top],by simp,by simp,by simp, ?_, ?_, ?_⟩ <;> simp [Ad,Ag,AD.nil,AD.cons,AF,AG,AQ,AM,Af,AB,AH,AE.set,AE.B5,AE.refl,Sc.Ad (fun j hj=>AA hj) lvs,AA hcbt,hcc])
   ·have lvb:=lvs
    rw [e0] at lvb
    have hbt:b < top:=lvb
    have hap:cb≠b:=by have:=C.ap;rw [e0] at this;exact this
    have hbc:¬b=cb:=fun e=>hap e.symm
    have hcb:¬cb=b:=hap
    have hbt2:¬top=b:=by omega
    refine CW.vc J4 [0,1,4,5,7,9,13,14,15,16,22] (by kernel_rfl) ?_
    (repeat ((try refine Vc.mk' ?_);simp only [go_sem,Nat.reduceAdd,hh,Oi,MD,hS.rd,Bf lvs,Pf,Nat.lt_irrefl,decide_false,hol,hcp,AS hcbt,hi,e1,e2,hcb]))
    simp only [HU,e1,e2]
    (refine ⟨[top],by simp,by simp,by simp, ?_, ?_, ?_⟩ <;> simp [Ad,Ag,AD.nil,AD.cons,AF,AG,AQ,AM,Af,Bn.BN,AB,AH,AE.set,AE.B5,AE.refl,AA hcbt,AA hbt,Bn.BN,hcc,hbc,hcb,hbt2])
end Go.Proofs.Ytmppehipfpkepaa.Dm
