/- The document's graph of routers and links. -/
import Derived.Test.YtmppehipfpkepaaNGO
set_option linter.unusedVariables false
namespace Go.Proofs.Ytmppehipfpkepaa.Gr
open Go.Dm Go.Proofs.Ytmppehipfpkepaa.Dm
set_option maxHeartbeats 8000000
set_option maxRecDepth 20000
theorem Sg {α:Type}[Inhabited α]{p:α→Bool}{l:List α}{j:Nat}(h:j < l.length):(l.take (j+1)).any p=((l.take j).any p || p (Aj l j)):=by
 rw [CO h,List.any_append];simp
def CR:Bp:= .pure (fun args hp=>match args with | [v,n]=>Dp Ab hp v∧EO .i64 n | _=>False) (fun args hp=>match args with
 | [v,n]=> .bool ((Ab.rd hp v).any (FQ (intOf n))) | _=>undef)
def tM (hp:Hp)(top:Nat)(v:Value)(x:Int)(i:Nat):SS:=⟨[(0,v,true),(1, .int .i64 x,true),(5, .int .i64 (i:Int),true)],hp.AZ [],top+0⟩
theorem uX:BK Try.prog 72 CR:=by
 refine .Gx Vo ?_ ?_
 ·intro args hp h
  match args,h with
  | [v,n],_=>rfl
 intro args hp hpre top hcl hsc
 match args,hpre with
 | [v,n],⟨⟨l,h⟩,hx⟩=>
 rw [hx]
 generalize intOf n=x
 have hs:=h.low hcl
 simp only [h.rd,BA]
 refine AL.Au BE Vo rfl 18 rfl [.tmp 4] rfl (show 2≤18 by decide) ?_
 refine CW.vc EY [0,1,4,5,9,17] (by kernel_rfl) ?_
 (repeat ((try refine Vc.mk' ?_);simp only [go_sem]))
 refine CW.CZ (tM hp top v x) (fun i=>i≤l.length∧(l.take i).any (FQ x)=false) (fun i=>l.length - i) 0 ⟨Nat.zero_le _,rfl⟩ ?_ ?_
 ·exact (by refine BO.mk' [] hcl (by simp) (by simp) rfl (AV ?_) ?_ ?_ <;> simp [Ax,Cd,Ad,AD.nil,AE.refl,Sc.Ad (fun j hj=>AA hj) hs])
 ·rintro i ⟨hi,hm⟩
  by_cases hlt:i < l.length
  ·have hst:=Sg (p:=FQ x) hlt
   rw [hm,Bool.false_or] at hst
   by_cases hc:Aj l i=x
   ·have h1:l.any (FQ x)=true:=List.any_eq_true.2 ⟨_,at_mem hlt,by simp [FQ,hc]⟩
    refine CW.vc EY [0,1,4,5,9,17] (by kernel_rfl) ?_
    (repeat ((try refine Vc.mk' ?_);simp only [go_sem,Bs h,CN h,DM h,tM,hlt,hc,h1]))
   ·have h1:FQ x (Aj l i)=false:=by simp [FQ,hc]
    rw [h1] at hst
    refine CW.vc EY [0,1,4,5,9,17] (by kernel_rfl) ?_
    (repeat ((try refine Vc.mk' ?_);simp only [go_sem,Bs h,CN h,DM h,tM,hlt,hc]))
    exact .mk (i+1) ⟨hlt,hst⟩ (by omega) ((by refine BO.mk' [] hcl (by simp) (by simp) rfl (AV ?_) ?_ ?_ <;> simp [Ax,Cd,Ad,AD.nil,AE.refl,Sc.Ad (fun j hj=>AA hj) hs,Av hlt h.le]))
  ·have hi2:i=l.length:=by omega
   subst hi2
   rw [List.take_length] at hm
   refine CW.vc EY [0,1,4,5,9,17] (by kernel_rfl) ?_
   (repeat ((try refine Vc.mk' ?_);simp only [go_sem,Bs h,tM,Nat.lt_irrefl,decide_false,hm]))
def G15:=Bu G5 72 CR
theorem E6:Cf Try.prog tt.get G15:=EY.add uX
theorem Ge:G15 72=CR:=rfl
theorem L7:G15 71=GF BH:=rfl
def gb (hp:Hp)(top:Nat)(u v:Value)(k:Nat):SS:=
 ⟨[(0,u,true),(1,v,true),(4, .pointer (some ⟨top,0,none⟩),true),(6, .int .i64 (k:Int),true)],hp.AZ [(top,some (.cells true 0 [.slice none 0 0, .slice none 0 0]))],top+1⟩
def ZQ (hp:Hp)(top:Nat)(u v:Value)(k:Nat):SS:=
 ⟨[(0,u,true),(1,v,true),(4, .pointer (some ⟨top,0,none⟩),true),(7, .int .i64 (k:Int),true)],hp.AZ [(top,some (.cells true 0 [.slice none 0 0, .slice none 0 0]))],top+1⟩
def w5 (hp:Hp)(top:Nat)(u v:Value)(x:AX)(k j:Nat):SS:=
 ⟨[(0,u,true),(1,v,true),(4, .pointer (some ⟨top,0,none⟩),true),(7, .int .i64 (k:Int),true),(8, .pointer (some ⟨top+1,0,none⟩),true),(9, .int .i64 (j:Int),true)],
  hp.AZ [(top,some (.cells true 0 [.slice none 0 0, .slice none 0 0])),(top+1,some (.cells true 0 (An.enc x)))],top+2⟩
def qX (hp:Hp)(top:Nat)(u v:Value)(R:List Int)(l:List AX)(n:Nat):SS:=
 ⟨[(0,u,true),(1,v,true),(4, .pointer (some ⟨top+1,0,none⟩),true),(10, .pointer (some ⟨top+2,0,none⟩),true),(11, .int .i64 (n:Int),true)],
  hp.AZ [(top,AO Ab (Cs R n)),(top+1,some (.cells true 0 [.slice none 0 0, .slice none 0 0])),(top+2,some (.cells true 0 [AK top (Cs R n),AK (top+3) (CF R l n)])),(top+3,AO A9 (CF R l n))],top+4⟩
def xx (hp:Hp)(top:Nat)(u v:Value)(R:List Int)(l:List AX)(n m:Nat):SS:=
 ⟨[(0,u,true),(1,v,true),(4, .pointer (some ⟨top+1,0,none⟩),true),(10, .pointer (some ⟨top+2,0,none⟩),true),(11, .int .i64 (n:Int),true),(12, .int .i64 (m:Int),true)],
  hp.AZ [(top,AO Ab (Cs R (n+1))),(top+1,some (.cells true 0 [.slice none 0 0, .slice none 0 0])),(top+2,some (.cells true 0 [AK top (Cs R (n+1)),AK (top+3) (CF R l n ++ H8 l n m)])),(top+3,AO A9 (CF R l n ++ H8 l n m))],top+4⟩
def uB (hp:Hp)(top:Nat)(u v:Value)(R:List Int)(l:List AX)(n m i:Nat):SS:=
 ⟨[(0,u,true),(1,v,true),(4, .pointer (some ⟨top+1,0,none⟩),true),(10, .pointer (some ⟨top+2,0,none⟩),true),(11, .int .i64 (n:Int),true),(12, .int .i64 (m:Int),true),(13, .int .i64 (i:Int),true)],
  hp.AZ [(top,AO Ab (Cs R (n+1))),(top+1,some (.cells true 0 [.slice none 0 0, .slice none 0 0])),(top+2,some (.cells true 0 [AK top (Cs R (n+1)),AK (top+3) (CF R l n ++ H8 l n m ++ Hj (l.take i) (n:Int) (m:Int))])),(top+3,AO A9 (CF R l n ++ H8 l n m ++ Hj (l.take i) (n:Int) (m:Int)))],top+4⟩
theorem nc {R:List Int}{l:List AX}(hR:∀n∈R,BH n=true)(h:∀x∈l,CX R x=true)(n:Nat):H8 l n 1= []:=by
 have:Hj l (n:Int) ((0:Nat):Int)= []:=by
  unfold Hj
  have:l.filter (pr (n:Int) ((0:Nat):Int))= []:=by
   rw [List.filter_eq_nil_iff]
   intro x hx
   have hk:=h x hx
   simp only [CX,Bool.and_eq_true] at hk
   have ha:=K5 hR hk.1.1.2
   have hb:=K5 hR hk.1.2
   simp only [BH,Bool.and_eq_true,decide_eq_true_eq] at ha hb
   simp only [pr,Bool.or_eq_true,Bool.and_eq_true,decide_eq_true_eq]
   omega
  rw [this];rfl
 rw [Pz,this];rfl
theorem any_zero {R:List Int}(hR:∀n∈R,BH n=true):R.any (FQ ((0:Nat):Int))=false:=by
 rw [List.any_eq_false]
 intro x hx
 have:=hR x hx
 simp only [BH,Bool.and_eq_true,decide_eq_true_eq] at this
 simp only [FQ,decide_eq_true_eq];omega
theorem w8:BK Try.prog 42 ET:=by
 refine .Cc X3 ?_
 intro args hp top hpre hcl hsc
 match args,hpre with
 | [u,v],⟨⟨R,h⟩,⟨l,g⟩⟩=>
 have hs:=h.low hcl
 have gs:=g.low hcl
 simp only [h.rd,g.rd]
 refine AL.Au BE X3 rfl 197 rfl [.cell 4 76, .tmp 5] rfl (show 2≤197 by decide) ?_
 refine CW.vc E6 [0,1,4,5,6,7,8,9,10,11,12,13,17,35,39,44,79,83,123,126,132,140,146,182] (by kernel_rfl) ?_
 (repeat ((try refine Vc.mk' ?_);simp only [go_sem]))
 refine CW.CZ (gb hp top u v) (fun k=>k≤R.length∧UC [] R=UC (R.take k) (R.drop k)) (fun k=>R.length - k) 0 ⟨Nat.zero_le _,rfl⟩ ?_ ?_
 ·exact (by refine BO.mk' [top] hcl (by simp) (by simp) rfl (AV ?_) ?_ ?_ <;> simp [Ax,Cd,Ad,Ag,AD.nil,AD.cons,AF,AG,AM,AB,AE.set,AE.refl,Sc.Ad (fun j hj=>AA hj) hs,Sc.Ad (fun j hj=>AA hj) gs])
 ·rintro k ⟨hk,hm⟩
  by_cases hlt:k < R.length
  ·have hT:BU Ab hp (Pv 1 u 0 k) (R.take k):=h.take hk
   have hTs:=hT.low hcl
   rw [GU hlt,UC] at hm
   generalize hn:Aj R k=n at hm
   have hk1:(k:Int)≤(R.length:Int):=by omega
   cases c1:BH n with
   |false=>
    rw [c1,Bool.false_and,Bool.false_and] at hm
    simp only [Cb (Xw l hm) (by decide)]
    refine CW.vc E6 [0,1,4,5,6,7,8,9,10,11,12,13,17,35,39,44,79,83,123,126,132,140,146,182] (by kernel_rfl) ?_
    (repeat ((try refine Vc.mk' ?_);simp only [go_sem,Nat.reduceAdd,Bs h,CN h,DM h,Xf h,Ao hs,Ka h hs HH,L7,GF,Ge,CR,hT.P,hT.rd,CK hTs,Bf hTs,hlt,hk1,gb,hn,c1]))
    (refine ⟨[top,top+1],by simp,by simp,by simp, ?_, ?_, ?_⟩ <;> simp [Ad,Ag,AD.nil,AD.cons,AM,Aw,AB,AH,AE.set,AE.refl])
   |true=>
    cases c2:(R.take k).any (FQ n) with
    |true=>
     rw [c2,Bool.not_true,Bool.and_false,Bool.false_and] at hm
     simp only [Cb (Xw l hm) (by decide)]
     refine CW.vc E6 [0,1,4,5,6,7,8,9,10,11,12,13,17,35,39,44,79,83,123,126,132,140,146,182] (by kernel_rfl) ?_
     (repeat ((try refine Vc.mk' ?_);simp only [go_sem,Nat.reduceAdd,Bs h,CN h,DM h,Xf h,Ao hs,Ka h hs HH,L7,GF,Ge,CR,hT.P,hT.rd,CK hTs,Bf hTs,hlt,hk1,gb,hn,c1,c2]))
     (refine ⟨[top,top+1],by simp,by simp,by simp, ?_, ?_, ?_⟩ <;> simp [Ad,Ag,AD.nil,AD.cons,AM,Aw,AB,AH,AE.set,AE.refl])
    |false=>
     rw [c1,c2,Bool.not_false,Bool.and_self,Bool.true_and] at hm
     refine CW.vc E6 [0,1,4,5,6,7,8,9,10,11,12,13,17,35,39,44,79,83,123,126,132,140,146,182] (by kernel_rfl) ?_
     (repeat ((try refine Vc.mk' ?_);simp only [go_sem,Bs h,CN h,DM h,Xf h,Ao hs,Ka h hs HH,L7,GF,Ge,CR,hT.P,hT.rd,CK hTs,Bf hTs,hlt,hk1,gb,hn,c1,c2]))
     refine .mk (k+1) ⟨hlt, ?_⟩ (by omega) ((by refine BO.mk' [top] hcl (by simp) (by simp) rfl (AV ?_) ?_ ?_ <;> simp [Ax,Cd,Ad,Ag,AD.nil,AD.cons,AF,AG,AM,AB,AE.set,AE.refl,Sc.Ad (fun j hj=>AA hj) hs,Sc.Ad (fun j hj=>AA hj) gs,Av hlt h.le]))
     rw [hm,CO hlt,hn]
  ·have hk2:k=R.length:=by omega
   subst hk2
   have hG:UC [] R=true:=by rw [hm,List.drop_eq_nil_of_le (Nat.le_refl _)];rfl
   by_cases hl:48 < l.length
   ·have hl2:(48:Int) < (l.length:Int):=by omega
    simp only [Cb (oa hG hl) (by decide)]
    refine CW.vc E6 [0,1,4,5,6,7,8,9,10,11,12,13,17,35,39,44,79,83,123,126,132,140,146,182] (by kernel_rfl) ?_
    (repeat ((try refine Vc.mk' ?_);simp only [go_sem,Nat.reduceAdd,Bs h,CB g,gb,Nat.lt_irrefl,decide_false,hl2]))
    (refine ⟨[top,top+1],by simp,by simp,by simp, ?_, ?_, ?_⟩ <;> simp [Ad,Ag,AD.nil,AD.cons,AM,Aw,AB,AH,AE.set,AE.refl])
   ·have hl2:¬(48:Int) < (l.length:Int):=by omega
    have hE:=lC hG hl
    have hR:=KA R [] hG
    refine CW.vc E6 [0,1,4,5,6,7,8,9,10,11,12,13,17,35,39,44,79,83,123,126,132,140,146,182] (by kernel_rfl) ?_
    (repeat ((try refine Vc.mk' ?_);simp only [go_sem,Bs h,CB g,gb,Nat.lt_irrefl,decide_false,hl2]))
    refine CW.CZ (ZQ hp top u v) (fun k=>k≤l.length∧Zf R [] l=Zf R (l.take k) (l.drop k)∧∀x∈l.take k,CX R x=true) (fun k=>l.length - k) 0 ⟨Nat.zero_le _,rfl,by simp⟩ ?_ ?_
    ·exact (by refine BO.mk' [top] hcl (by simp) (by simp) rfl (AV ?_) ?_ ?_ <;> simp [Ax,Cd,Ad,Ag,AD.nil,AD.cons,AF,AG,AM,AB,AE.set,AE.refl,Sc.Ad (fun j hj=>AA hj) hs,Sc.Ad (fun j hj=>AA hj) gs])
    ·rintro k ⟨hk,hm,hok⟩
     by_cases hlt:k < l.length
     ·rw [GU hlt,Zf] at hm
      have bad:CX R (Aj l k)=false→DS R l=2:=fun e=>by rw [hE,hm,if_pos e]
      by_cases ab:(Aj l k).A=(Aj l k).B
      ·have e:=bad (by simp [CX,ab])
       simp only [Cb e (by decide)]
       refine CW.vc E6 [0,1,4,5,6,7,8,9,10,11,12,13,17,35,39,44,79,83,123,126,132,140,146,182] (by kernel_rfl) ?_
       (repeat ((try refine Vc.mk' ?_);simp only [go_sem,reduceCtorEq,Nat.reduceAdd,Nat.reduceLT,h.P,h.rd,CK hs,Bf hs,CB g,B4 g,DN g,Ao gs,Ge,CR,hlt,ZQ,ab]))
       (refine ⟨[top,top+1],by simp,by simp,by simp, ?_, ?_, ?_⟩ <;> simp [Ad,Ag,AD.nil,AD.cons,AM,Aw,AB,AH,AE.set,AE.refl])
      cases a2:R.any (FQ (Aj l k).A) with
      |false=>
       have e:=bad (by simp [CX,a2])
       simp only [Cb e (by decide)]
       refine CW.vc E6 [0,1,4,5,6,7,8,9,10,11,12,13,17,35,39,44,79,83,123,126,132,140,146,182] (by kernel_rfl) ?_
       (repeat ((try refine Vc.mk' ?_);simp only [go_sem,reduceCtorEq,Nat.reduceAdd,Nat.reduceLT,h.P,h.rd,CK hs,Bf hs,CB g,B4 g,DN g,Ao gs,Ge,CR,hlt,ZQ,ab,a2]))
       (refine ⟨[top,top+1],by simp,by simp,by simp, ?_, ?_, ?_⟩ <;> simp [Ad,Ag,AD.nil,AD.cons,AM,Aw,AB,AH,AE.set,AE.refl])
      |true=>
      cases b2:R.any (FQ (Aj l k).B) with
      |false=>
       have e:=bad (by simp [CX,b2])
       simp only [Cb e (by decide)]
       refine CW.vc E6 [0,1,4,5,6,7,8,9,10,11,12,13,17,35,39,44,79,83,123,126,132,140,146,182] (by kernel_rfl) ?_
       (repeat ((try refine Vc.mk' ?_);simp only [go_sem,reduceCtorEq,Nat.reduceAdd,Nat.reduceLT,h.P,h.rd,CK hs,Bf hs,CB g,B4 g,DN g,Ao gs,Ge,CR,hlt,ZQ,ab,a2,b2]))
       (refine ⟨[top,top+1],by simp,by simp,by simp, ?_, ?_, ?_⟩ <;> simp [Ad,Ag,AD.nil,AD.cons,AM,Aw,AB,AH,AE.set,AE.refl])
      |true=>
      by_cases c1:(Aj l k).C2 < 1
      ·have e:=bad (by simp only [CX,JD];rw [decide_eq_false (by omega:¬1≤(Aj l k).C2),Bool.false_and,Bool.and_false])
       simp only [Cb e (by decide)]
       refine CW.vc E6 [0,1,4,5,6,7,8,9,10,11,12,13,17,35,39,44,79,83,123,126,132,140,146,182] (by kernel_rfl) ?_
       (repeat ((try refine Vc.mk' ?_);simp only [go_sem,reduceCtorEq,Nat.reduceAdd,Nat.reduceLT,h.P,h.rd,CK hs,Bf hs,CB g,B4 g,DN g,Ao gs,Ge,CR,hlt,ZQ,ab,a2,b2,c1]))
       (refine ⟨[top,top+1],by simp,by simp,by simp, ?_, ?_, ?_⟩ <;> simp [Ad,Ag,AD.nil,AD.cons,AM,Aw,AB,AH,AE.set,AE.refl])
      by_cases c2:(1000:Int) < (Aj l k).C2
      ·have e:=bad (by simp only [CX,JD];rw [decide_eq_false (by omega:¬(Aj l k).C2≤1000),Bool.and_false,Bool.and_false])
       simp only [Cb e (by decide)]
       refine CW.vc E6 [0,1,4,5,6,7,8,9,10,11,12,13,17,35,39,44,79,83,123,126,132,140,146,182] (by kernel_rfl) ?_
       (repeat ((try refine Vc.mk' ?_);simp only [go_sem,reduceCtorEq,Nat.reduceAdd,Nat.reduceLT,h.P,h.rd,CK hs,Bf hs,CB g,B4 g,DN g,Ao gs,Ge,CR,hlt,ZQ,ab,a2,b2,c1,c2]))
       (refine ⟨[top,top+1],by simp,by simp,by simp, ?_, ?_, ?_⟩ <;> simp [Ad,Ag,AD.nil,AD.cons,AM,Aw,AB,AH,AE.set,AE.refl])
      have hlk:CX R (Aj l k)=true:=by simp only [CX,JD,a2,b2,Bool.and_true,Bool.and_eq_true,Bool.not_eq_true',decide_eq_false_iff_not,decide_eq_true_eq];exact ⟨ab,by omega,by omega⟩
      rw [if_neg (by simp [hlk])] at hm
      refine CW.vc E6 [0,1,4,5,6,7,8,9,10,11,12,13,17,35,39,44,79,83,123,126,132,140,146,182] (by kernel_rfl) ?_
      (repeat ((try refine Vc.mk' ?_);simp only [go_sem,Nat.reduceAdd,Nat.reduceLT,h.P,h.rd,CK hs,Bf hs,CB g,B4 g,DN g,Ao gs,Ge,CR,hlt,ZQ,ab,a2,b2,c1,c2]))
      refine CW.CZ (w5 hp top u v (Aj l k) k) (fun j=>j≤k∧(l.take j).any (pr (Aj l k).A (Aj l k).B)=false) (fun j=>k - j) 0 ⟨Nat.zero_le _,by simp⟩ ?_ ?_
      ·exact (by refine BO.mk' [top,top+1] hcl (by simp) (by simp) rfl (AV ?_) ?_ ?_ <;> simp [Ax,Cd,Ad,Ag,AD.nil,AD.cons,AF,AG,AM,Aw,AB,AH,AE.set,AE.refl,Sc.Ad (fun j hj=>AA hj) hs,Sc.Ad (fun j hj=>AA hj) gs,YM])
      ·rintro j ⟨hj,hjm⟩
       by_cases hjk:j < k
       ·have hjl:j < l.length:=by omega
        have hst:=Sg (p:=pr (Aj l k).A (Aj l k).B) hjl
        rw [hjm,Bool.false_or] at hst
        have hpb:(decide ((Aj l j).A=(Aj l k).A) && decide ((Aj l j).B=(Aj l k).B) || decide ((Aj l j).A=(Aj l k).B) && decide ((Aj l j).B=(Aj l k).A))=pr (Aj l k).A (Aj l k).B (Aj l j):=rfl
        refine CW.vc E6 [0,1,4,5,6,7,8,9,10,11,12,13,17,35,39,44,79,83,123,126,132,140,146,182] (by kernel_rfl) ?_
        (repeat ((try refine Vc.mk' ?_);simp only [go_sem,Nat.reduceAdd,Nat.reduceLT,B4 g,Ha g,Hg g,HM g,HG g,Ao gs,w5,hjk,hjl,hpb]))
        refine ⟨fun h=>⟨h,fun h2=>⟨h,h2⟩⟩, ?_⟩
        repeat (refine Vc.mk' ?_;(repeat ((try refine Vc.mk' ?_);simp only [go_sem])))
        refine Le.mk (fun c=> ?_) (fun c=> ?_)
        ·have hany:(l.take k).any (pr (Aj l k).A (Aj l k).B)=true:=by
          rw [List.any_eq_true]
          exact ⟨Aj l j,by rw [Bj _ _ hjl];exact List.mem_take_iff_getElem.2 ⟨j,by omega,rfl⟩,c⟩
         rw [if_pos hany] at hm
         have e:DS R l=7:=by rw [hE,hm]
         simp only [Cb e (by decide)]
         (repeat ((try refine Vc.mk' ?_);simp only [go_sem,reduceCtorEq,Nat.reduceAdd]))
         (refine ⟨[top,top+1],by simp,by simp,by simp, ?_, ?_, ?_⟩ <;> simp [Ad,Ag,AD.nil,AD.cons,AM,Aw,AB,AH,AE.set,AE.refl])
        ·rw [c] at hst
         (repeat ((try refine Vc.mk' ?_);simp only [go_sem]))
         exact .mk (j+1) ⟨hjk,hst⟩ (by omega) ((by refine BO.mk' [top,top+1] hcl (by simp) (by simp) rfl (AV ?_) ?_ ?_ <;> simp [Ax,Cd,Ad,Ag,AD.nil,AD.cons,AF,AG,AM,Aw,AB,AH,AE.set,AE.refl,Sc.Ad (fun j hj=>AA hj) hs,Sc.Ad (fun j hj=>AA hj) gs,YM,Av hjl g.le]))
       ·have hj2:j=k:=by omega
        subst hj2
        rw [if_neg (by simp [hjm])] at hm
        rw [←CO hlt] at hm
        refine CW.vc E6 [0,1,4,5,6,7,8,9,10,11,12,13,17,35,39,44,79,83,123,126,132,140,146,182] (by kernel_rfl) ?_
        (repeat ((try refine Vc.mk' ?_);simp only [go_sem,Nat.reduceEqDiff,w5,Nat.lt_irrefl,decide_false]))
        refine .mk (j+1) ⟨hlt,hm, ?_⟩ (by omega) ((by refine BO.mk' [top] hcl (by simp) (by simp) rfl (AV ?_) ?_ ?_ <;> simp [Ax,Cd,Ad,Ag,AD.nil,AD.cons,AF,AG,AM,AB,AH,AE.set,AE.refl,Sc.Ad (fun j hj=>AA hj) hs,Sc.Ad (fun j hj=>AA hj) gs,Av hlt g.le]))
        intro y hy
        rw [CO hlt] at hy
        rcases List.mem_append.1 hy with hy | hy
        ·exact hok y hy
        ·rw [List.mem_singleton.1 hy];exact hlk
     ·have hk2:k=l.length:=by omega
      subst hk2
      rw [List.take_length] at hok
      have hz:Zf R [] l=0:=by rw [hm,List.drop_eq_nil_of_le (Nat.le_refl _)];rfl
      have e:DS R l=0:=by rw [hE,hz]
      have hz0:Cs R 1= []:=by rw [Qj,any_zero hR];rfl
      have hz1:CF R l 1= []:=by rw [ME,any_zero hR];rfl
      have hl48:l.length≤48:=by omega
      simp only [Sw e]
      refine CW.vc E6 [0,1,4,5,6,7,8,9,10,11,12,13,17,35,39,44,79,83,123,126,132,140,146,182] (by kernel_rfl) ?_
      (repeat ((try refine Vc.mk' ?_);simp only [go_sem,Nat.reduceAdd,CB g,ZQ,Nat.lt_irrefl,decide_false]))
      refine CW.CZ (qX hp top u v R l) (fun n=>1≤n∧n≤25) (fun n=>25 - n) 1 ⟨Nat.le_refl _,by decide⟩ ?_ ?_
      ·exact (by refine BO.mk' [top+2,top,top+1,top+3] hcl (by simp) (by simp) rfl (AV ?_) ?_ ?_ <;> simp [Ax,Cd,Ad,Ag,AD.nil,AD.cons,AF,AG,AM,Aw,AB,AH,AE.set,AE.refl,Sc.Ad (fun j hj=>AA hj) hs,Sc.Ad (fun j hj=>AA hj) gs,hz0,hz1,Dh,EN])
      ·rintro n ⟨hn1,hn⟩
       have hnl:=Ta R n
       have hel:=OD R l n
       have hel2:(CF R l n).length≤30000:=by
        have:n * (25 * l.length)≤25 * (25 * 48):=Nat.mul_le_mul hn (Nat.mul_le_mul_left _ hl48)
        omega
       by_cases hlt:n < 25
       ·have hlt2:¬(24:Int) < (n:Int):=by omega
        have hlt3:(n:Int)≤24:=by omega
        have hw:BQ .i64 ((n:Int)+1)=((n+1:Nat):Int):=Av hlt (by decide)
        have hns:=Qj R n
        have hes:=ME R l n
        cases ha:R.any (FQ (n:Int)) with
        |false=>
         rw [ha,if_neg (by simp),List.append_nil] at hns hes
         refine CW.vc E6 [0,1,4,5,6,7,8,9,10,11,12,13,17,35,39,44,79,83,123,126,132,140,146,182] (by kernel_rfl) ?_
         (repeat ((try refine Vc.mk' ?_);simp only [go_sem,Nat.reduceEqDiff,h.P,h.rd,CK hs,Bf hs,Ge,CR,qX,hlt2,ha]))
         exact .mk (n+1) ⟨by omega,hlt⟩ (by omega) ((by refine BO.mk' [top,top+1,top+2,top+3] hcl (by simp) (by simp) rfl (AV ?_) ?_ ?_ <;> simp [Ax,Cd,Ad,Ag,AD.nil,AD.cons,AF,AG,AQ,AM,Aw,Af,AB,AH,AE.set,AE.refl,Sc.Ad (fun j hj=>AA hj) hs,Sc.Ad (fun j hj=>AA hj) gs,hns,hes,hw]))
        |true=>
         rw [ha,if_pos rfl] at hns hes
         have h16:(Cs R n).length < 16777216:=by omega
         have hr1:=nc hR hok n
         refine CW.vc E6 [0,1,4,5,6,7,8,9,10,11,12,13,17,35,39,44,79,83,123,126,132,140,146,182] (by kernel_rfl) ?_
         (repeat ((try refine Vc.mk' ?_);simp only [go_sem,reduceCtorEq,Nat.reduceAdd,Nat.reduceMul,Nat.reduceLeDiff,Nat.reduceEqDiff,h.P,h.rd,CK hs,Bf hs,Ge,CR,qX,hlt2,ha,h16]))
         refine CW.CZ (xx hp top u v R l n) (fun m=>1≤m∧m≤25) (fun m=>25 - m) 1 ⟨Nat.le_refl _,by decide⟩ ?_ ?_
         ·exact (by refine BO.mk' [top+5,top+1,top+2,top+3] hcl (by simp) (by simp) rfl (AV ?_) ?_ ?_ <;> simp [Ax,Cd,Ad,Ag,AD.nil,AD.cons,AF,AG,AQ,AM,Aw,Af,AB,AH,AE.set,AE.refl,Sc.Ad (fun j hj=>AA hj) hs,Sc.Ad (fun j hj=>AA hj) gs,hns,hr1])
         ·rintro m ⟨hm1,hmm⟩
          have hrl:=Si l n m
          have hrl2:(H8 l n m).length≤1200:=by
           have:m * l.length≤25 * 48:=Nat.mul_le_mul hmm hl48
           omega
          by_cases hmt:m < 25
          ·have hmt2:¬(24:Int) < (m:Int):=by omega
           have hmt3:(m:Int)≤24:=by omega
           have hwm:BQ .i64 ((m:Int)+1)=((m+1:Nat):Int):=Av hmt (by decide)
           have hrs:=Pz l n m
           refine CW.vc E6 [0,1,4,5,6,7,8,9,10,11,12,13,17,35,39,44,79,83,123,126,132,140,146,182] (by kernel_rfl) ?_
           (repeat ((try refine Vc.mk' ?_);simp only [go_sem,xx,hmt2]))
           refine CW.CZ (uB hp top u v R l n m) (fun i=>i≤l.length) (fun i=>l.length - i) 0 (Nat.zero_le _) ?_ ?_
           ·have hi0:Hj ([] :List AX) (n:Int) (m:Int)= []:=rfl
            exact (by refine BO.mk' [top,top+1,top+2,top+3] hcl (by simp) (by simp) rfl (AV ?_) ?_ ?_ <;> simp [Ax,Cd,Ad,Ag,AD.nil,AD.cons,AF,AG,AQ,AM,Aw,Af,AB,AH,AE.set,AE.refl,Sc.Ad (fun j hj=>AA hj) hs,Sc.Ad (fun j hj=>AA hj) gs,hi0,List.take_zero,List.append_nil])
           ·intro i hi
            have hil:=Zy (l.take i) (n:Int) (m:Int)
            have hil2:(l.take i).length≤48:=by rw [List.length_take];omega
            by_cases hit:i < l.length
            ·have his:=jG hit (n:Int) (m:Int)
             have h16e:(CF R l n ++ H8 l n m ++ Hj (l.take i) (n:Int) (m:Int)).length < 16777216:=by rw [List.length_append,List.length_append];omega
             have hpb:(decide ((Aj l i).A=(n:Int)) && decide ((Aj l i).B=(m:Int)) || decide ((Aj l i).B=(n:Int)) && decide ((Aj l i).A=(m:Int)))=pr (n:Int) (m:Int) (Aj l i):=by
              unfold pr;rw [Bool.and_comm (decide ((Aj l i).B=(n:Int)))]
             cases hp1:pr (n:Int) (m:Int) (Aj l i) with
             |true=>
              rw [hp1,if_pos rfl] at his
              refine CW.vc E6 [0,1,4,5,6,7,8,9,10,11,12,13,17,35,39,44,79,83,123,126,132,140,146,182] (by kernel_rfl) ?_
              (repeat ((try refine Vc.mk' ?_);simp only [go_sem,CB g,B4 g,Ha g,Hg g,HM g,HG g,Ao gs,uB,hit,hpb,hp1]))
              refine ⟨fun h=>⟨h,fun h2=>⟨h,h2⟩⟩, ?_⟩
              repeat (refine Vc.mk' ?_;(repeat ((try refine Vc.mk' ?_);simp only [go_sem,Nat.reduceAdd,Nat.reduceMul,Nat.reduceLeDiff,Nat.reduceEqDiff,B4 g,cC g,a6 g,Ao gs,hit,h16e])))
              exact .mk (i+1) hit (by omega) ((by refine BO.mk' [top,top+1,top+2,top+5] hcl (by simp) (by simp) rfl (AV ?_) ?_ ?_ <;> simp [Ax,Cd,Ad,Ag,AD.nil,AD.cons,AF,AG,AQ,AM,Aw,Af,AB,AH,AE.set,AE.refl,Sc.Ad (fun j hj=>AA hj) hs,Sc.Ad (fun j hj=>AA hj) gs,his,Av hit g.le,List.append_assoc]))
             |false=>
              rw [hp1,if_neg (by simp),List.append_nil] at his
              refine CW.vc E6 [0,1,4,5,6,7,8,9,10,11,12,13,17,35,39,44,79,83,123,126,132,140,146,182] (by kernel_rfl) ?_
              (repeat ((try refine Vc.mk' ?_);simp only [go_sem,CB g,B4 g,Ha g,Hg g,HM g,HG g,Ao gs,uB,hit,hpb,hp1]))
              refine ⟨fun h=>⟨h,fun h2=>⟨h,h2⟩⟩, ?_⟩
              repeat (refine Vc.mk' ?_;(repeat ((try refine Vc.mk' ?_);simp only [go_sem])))
              exact .mk (i+1) hit (by omega) ((by refine BO.mk' [top,top+1,top+2,top+3] hcl (by simp) (by simp) rfl (AV ?_) ?_ ?_ <;> simp [Ax,Cd,Ad,Ag,AD.nil,AD.cons,AF,AG,AQ,AM,Aw,Af,AB,AH,AE.set,AE.refl,Sc.Ad (fun j hj=>AA hj) hs,Sc.Ad (fun j hj=>AA hj) gs,his,Av hit g.le]))
            ·have hi2:i=l.length:=by omega
             subst hi2
             refine CW.vc E6 [0,1,4,5,6,7,8,9,10,11,12,13,17,35,39,44,79,83,123,126,132,140,146,182] (by kernel_rfl) ?_
             (repeat ((try refine Vc.mk' ?_);simp only [go_sem,Nat.reduceEqDiff,CB g,uB,Nat.lt_irrefl,decide_false,List.take_length]))
             exact .mk (m+1) ⟨by omega,hmt⟩ (by omega) ((by refine BO.mk' [top,top+1,top+2,top+3] hcl (by simp) (by simp) rfl (AV ?_) ?_ ?_ <;> simp [Ax,Cd,Ad,Ag,AD.nil,AD.cons,AF,AG,AQ,AM,Aw,Af,AB,AH,AE.set,AE.refl,Sc.Ad (fun j hj=>AA hj) hs,Sc.Ad (fun j hj=>AA hj) gs,hrs,hwm,List.append_assoc]))
          ·have hm2:m=25:=by omega
           subst hm2
           refine CW.vc E6 [0,1,4,5,6,7,8,9,10,11,12,13,17,35,39,44,79,83,123,126,132,140,146,182] (by kernel_rfl) ?_
           (repeat ((try refine Vc.mk' ?_);simp only [go_sem,Nat.reduceEqDiff,Int.reduceLT,xx,Int.cast_ofNat_Int]))
           exact .mk (n+1) ⟨by omega,hlt⟩ (by omega) ((by refine BO.mk' [top,top+1,top+2,top+3] hcl (by simp) (by simp) rfl (AV ?_) ?_ ?_ <;> simp [Ax,Cd,Ad,Ag,AD.nil,AD.cons,AF,AG,AQ,AM,Aw,Af,AB,AH,AE.set,AE.refl,Sc.Ad (fun j hj=>AA hj) hs,Sc.Ad (fun j hj=>AA hj) gs,hes,hw]))
       ·have hn2:n=25:=by omega
        subst hn2
        refine CW.vc E6 [0,1,4,5,6,7,8,9,10,11,12,13,17,35,39,44,79,83,123,126,132,140,146,182] (by kernel_rfl) ?_
        (repeat ((try refine Vc.mk' ?_);simp only [go_sem,Nat.reduceAdd,Nat.reduceEqDiff,Int.reduceLT,qX,Int.cast_ofNat_Int]))
        (refine ⟨[top,top+3],by simp,by simp,by simp, ?_, ?_, ?_⟩ <;> simp [Ad,Ag,AD.nil,AD.cons,AQ,AM,Aw,Af,AB,AH,AE.set,AE.refl])
def G16:=Bu G15 42 ET
theorem ZK:Cf Try.prog tt.get G16:=E6.add w8
end Go.Proofs.Ytmppehipfpkepaa.Gr
/- Are two lists, two graphs the same (the document). -/
set_option linter.unusedVariables false
namespace Go.Proofs.Ytmppehipfpkepaa.Gr
open Go.Dm Go.Proofs.Ytmppehipfpkepaa.Dm
set_option maxHeartbeats 8000000
set_option maxRecDepth 20000
theorem Rr {α:Type}[Inhabited α]{l m:List α}{i:Nat}(hl:l.length=m.length)(hi:i < l.length)(h:l.take i=m.take i):l.take (i+1)=m.take (i+1) ↔ Aj l i=Aj m i:=by
 rw [CO hi,CO (by omega),h]
 constructor
 ·intro e;simpa using e
 ·intro e;rw [e]
theorem PU {α:Type}[Inhabited α]{l m:List α}{i:Nat}(h:¬Aj l i=Aj m i):¬l=m:=fun e=>h (by rw [e])
theorem Vf {α:Type}{l m:List α}(h:¬l.length=m.length):¬l=m:=fun e=>h (by rw [e])
def NX {α:Type}[DecidableEq α](E:Bn α):Bp:= .pure (fun args hp=>match args with | [u,v]=>Dp E hp u∧Dp E hp v | _=>False) (fun args hp=>match args with | [u,v]=> .bool (decide (E.rd hp u=E.rd hp v)) | _=>undef)
def bC (hp:Hp)(top:Nat)(u v:Value)(i:Nat):SS:=⟨[(0,u,true),(1,v,true),(5, .int .i64 (i:Int),true)],hp.AZ [],top+0⟩
theorem zg (a b:Ej):(decide (a.To=b.To) && decide (a.C2=b.C2))=decide (a=b):=by
 rw [Bool.eq_iff_iff];simp only [Bool.and_eq_true,decide_eq_true_eq];cases a;cases b;simp
theorem s6 (a b:BJ):(decide (a.B2=b.B2) && (decide (a.To=b.To) && decide (a.C2=b.C2)))=decide (a=b):=by
 rw [Bool.eq_iff_iff];simp only [Bool.and_eq_true,decide_eq_true_eq];cases a;cases b;simp
theorem Q5:BK Try.prog 53 (NX Bw):=by
 refine .Gx X2 ?_ ?_
 ·intro args hp h
  match args,h with
  | [u,v],_=>rfl
 intro args hp hpre top hcl hsc
 match args,hpre with
 | [u,v],⟨⟨l,h⟩,⟨m,g⟩⟩=>
 have hs:=h.low hcl
 have gs:=g.low hcl
 simp only [h.rd,g.rd]
 refine AL.Au BE X2 rfl 26 rfl [.tmp 4] rfl (show 2≤26 by decide) ?_
 by_cases hl:l.length=m.length
 ·have hl2:(l.length:Int)=(m.length:Int):=by omega
  refine CW.vc ZK [0,1,4,5,10,14,25] (by kernel_rfl) ?_
  (repeat ((try refine Vc.mk' ?_);simp only [go_sem,Kd h,Kd g,hl2]))
  refine CW.CZ (bC hp top u v) (fun i=>i≤l.length∧l.take i=m.take i) (fun i=>l.length - i) 0 ⟨Nat.zero_le _,rfl⟩ ?_ ?_
  ·exact (by refine BO.mk' [] hcl (by simp) (by simp) rfl (AV ?_) ?_ ?_ <;> simp [Ax,Cd,Ad,AD.nil,AE.refl,Sc.Ad (fun j hj=>AA hj) hs,Sc.Ad (fun j hj=>AA hj) gs])
  ·rintro i ⟨hi,hm⟩
   by_cases hlt:i < l.length
   ·have hlm:i < m.length:=by omega
    have he:=Rr hl hlt hm
    refine CW.vc ZK [0,1,4,5,10,14,25] (by kernel_rfl) ?_
    (repeat ((try refine Vc.mk' ?_);simp only [go_sem,Kd h,ZE h,eM h,ZE g,eM g,hlt,hlm,bC,zg]))
    refine Le.mk (fun c=> ?_) (fun c=> ?_)
    ·simp only [Bool.not_eq_true',decide_eq_false_iff_not] at c
     (repeat ((try refine Vc.mk' ?_);simp only [go_sem]))
     simp [PU c]
    ·simp only [Bool.not_eq_false',decide_eq_true_eq] at c
     (repeat ((try refine Vc.mk' ?_);simp only [go_sem]))
     exact .mk (i+1) ⟨hlt,he.2 c⟩ (by omega) ((by refine BO.mk' [] hcl (by simp) (by simp) rfl (AV ?_) ?_ ?_ <;> simp [Ax,Cd,Ad,AD.nil,AE.refl,Sc.Ad (fun j hj=>AA hj) hs,Sc.Ad (fun j hj=>AA hj) gs,Av hlt h.le]))
   ·have hi2:i=l.length:=by omega
    subst hi2
    refine CW.vc ZK [0,1,4,5,10,14,25] (by kernel_rfl) ?_
    (repeat ((try refine Vc.mk' ?_);simp only [go_sem,Kd h,bC,Nat.lt_irrefl,decide_false]))
    rw [List.take_length,hl,List.take_length] at hm
    simp [hm]
 ·have hl2:¬(l.length:Int)=(m.length:Int):=by omega
  refine CW.vc ZK [0,1,4,5,10,14,25] (by kernel_rfl) ?_
  (repeat ((try refine Vc.mk' ?_);simp only [go_sem,Kd h,Kd g,hl2]))
  simp [Vf hl]
def ACJ:=Bu G16 53 (NX Bw)
theorem MB:Cf Try.prog tt.get ACJ:=ZK.add Q5
/-- two graphs -/
def PB:Bp:= .pure (fun args hp=>match args with | [.agg ⟨[a,b]⟩, .agg ⟨[c,d]⟩]=>(Dp Ab hp a∧Dp A9 hp b)∧Dp Ab hp c∧Dp A9 hp d | _=>False) (fun args hp=>match args with
 | [.agg ⟨[a,b]⟩, .agg ⟨[c,d]⟩]=> .bool (decide (Ab.rd hp a=Ab.rd hp c∧A9.rd hp b=A9.rd hp d)) | _=>undef)
def yI (hp:Hp)(top:Nat)(a b c d:Value)(i:Nat):SS:=⟨[(2, .pointer (some ⟨top,0,none⟩),true),(3, .pointer (some ⟨top+1,0,none⟩),true),(5, .int .i64 (i:Int),true)],hp.AZ [(top,some (.cells true 0 [a,b])),(top+1,some (.cells true 0 [c,d]))],top+2⟩
def zh (hp:Hp)(top:Nat)(a b c d:Value)(i:Nat):SS:=⟨[(2, .pointer (some ⟨top,0,none⟩),true),(3, .pointer (some ⟨top+1,0,none⟩),true),(6, .int .i64 (i:Int),true)],hp.AZ [(top,some (.cells true 0 [a,b])),(top+1,some (.cells true 0 [c,d]))],top+2⟩
theorem dq:BK Try.prog 25 PB:=by
 refine .Gx Xn ?_ ?_
 ·intro args hp h
  match args,h with
  | [.agg ⟨[a,b]⟩, .agg ⟨[c,d]⟩],_=>rfl
 intro args hp hpre top hcl hsc
 match args,hpre with
 | [.agg ⟨[a,b]⟩, .agg ⟨[c,d]⟩],⟨⟨⟨la,ha⟩,⟨lb,hb⟩⟩,⟨lc,hc⟩,⟨ld,hd⟩⟩=>
 have as1:=ha.low hcl
 have bs:=hb.low hcl
 have cs:=hc.low hcl
 have ds:=hd.low hcl
 simp only [ha.rd,hb.rd,hc.rd,hd.rd]
 refine AL.Au BE Xn rfl 59 rfl [.tmp 4] rfl (show 2≤59 by decide) ?_
 by_cases h1:la.length=lc.length
 ·have h1':(la.length:Int)=(lc.length:Int):=by omega
  by_cases h2:lb.length=ld.length
  ·have h2':(lb.length:Int)=(ld.length:Int):=by omega
   refine CW.vc MB [0,1,2,3,4,5,6,22,27,40,45,58] (by kernel_rfl) ?_
   (repeat ((try refine Vc.mk' ?_);simp only [go_sem,reduceCtorEq,Nat.reduceAdd,Bs ha,B9 hb,Bs hc,B9 hd,h1',h2']))
   refine CW.CZ (yI hp top a b c d) (fun i=>i≤la.length∧la.take i=lc.take i) (fun i=>la.length - i) 0 ⟨Nat.zero_le _,rfl⟩ ?_ ?_
   ·exact (by refine BO.mk' [top,top+1] hcl (by simp) (by simp) rfl (AV ?_) ?_ ?_ <;> simp [Ax,Cd,Ad,Ag,AD.nil,AD.cons,AF,AG,AM,Aw,AB,AH,AE.set,AE.refl,Sc.Ad (fun j hj=>AA hj) as1,Sc.Ad (fun j hj=>AA hj) bs,Sc.Ad (fun j hj=>AA hj) cs,Sc.Ad (fun j hj=>AA hj) ds])
   ·rintro i ⟨hi,hm⟩
    by_cases hlt:i < la.length
    ·have hlm:i < lc.length:=by omega
     have he:=Rr h1 hlt hm
     refine CW.vc MB [0,1,2,3,4,5,6,22,27,40,45,58] (by kernel_rfl) ?_
     (repeat ((try refine Vc.mk' ?_);simp only [go_sem,reduceCtorEq,Nat.reduceAdd,Bs ha,CN ha,DM ha,Ao as1,CN hc,DM hc,Ao cs,hlt,hlm,yI]))
     refine Le.mk (fun q=> ?_) (fun q=> ?_)
     ·simp only [Bool.not_eq_true',decide_eq_false_iff_not] at q
      (repeat ((try refine Vc.mk' ?_);simp only [go_sem]))
      simp [PU q]
     ·simp only [Bool.not_eq_false',decide_eq_true_eq] at q
      (repeat ((try refine Vc.mk' ?_);simp only [go_sem]))
      exact .mk (i+1) ⟨hlt,he.2 q⟩ (by omega) ((by refine BO.mk' [top,top+1] hcl (by simp) (by simp) rfl (AV ?_) ?_ ?_ <;> simp [Ax,Cd,Ad,Ag,AD.nil,AD.cons,AF,AG,AM,Aw,AB,AH,AE.set,AE.refl,Sc.Ad (fun j hj=>AA hj) as1,Sc.Ad (fun j hj=>AA hj) bs,Sc.Ad (fun j hj=>AA hj) cs,Sc.Ad (fun j hj=>AA hj) ds,Av hlt ha.le]))
    ·have hi2:i=la.length:=by omega
     subst hi2
     rw [List.take_length,h1,List.take_length] at hm
     refine CW.vc MB [0,1,2,3,4,5,6,22,27,40,45,58] (by kernel_rfl) ?_
     (repeat ((try refine Vc.mk' ?_);simp only [go_sem,reduceCtorEq,Nat.reduceAdd,Bs ha,yI,Nat.lt_irrefl,decide_false]))
     refine CW.CZ (zh hp top a b c d) (fun i=>i≤lb.length∧lb.take i=ld.take i) (fun i=>lb.length - i) 0 ⟨Nat.zero_le _,rfl⟩ ?_ ?_
     ·exact (by refine BO.mk' [top,top+1] hcl (by simp) (by simp) rfl (AV ?_) ?_ ?_ <;> simp [Ax,Cd,Ad,Ag,AD.nil,AD.cons,AF,AG,AM,Aw,AB,AH,AE.set,AE.refl,Sc.Ad (fun j hj=>AA hj) as1,Sc.Ad (fun j hj=>AA hj) bs,Sc.Ad (fun j hj=>AA hj) cs,Sc.Ad (fun j hj=>AA hj) ds])
     ·rintro i ⟨hi,hm2⟩
      by_cases hlt:i < lb.length
      ·have hlm:i < ld.length:=by omega
       have he:=Rr h2 hlt hm2
       refine CW.vc MB [0,1,2,3,4,5,6,22,27,40,45,58] (by kernel_rfl) ?_
       (repeat ((try refine Vc.mk' ?_);simp only [go_sem,reduceCtorEq,Nat.reduceAdd,B9 hb,Dn hb,Ez hb,Ao bs,Dn hd,Ez hd,Ao ds,hlt,hlm,zh,s6]))
       refine Le.mk (fun q=> ?_) (fun q=> ?_)
       ·simp only [Bool.not_eq_true',decide_eq_false_iff_not] at q
        (repeat ((try refine Vc.mk' ?_);simp only [go_sem]))
        simp [PU q]
       ·simp only [Bool.not_eq_false',decide_eq_true_eq] at q
        (repeat ((try refine Vc.mk' ?_);simp only [go_sem]))
        exact .mk (i+1) ⟨hlt,he.2 q⟩ (by omega) ((by refine BO.mk' [top,top+1] hcl (by simp) (by simp) rfl (AV ?_) ?_ ?_ <;> simp [Ax,Cd,Ad,Ag,AD.nil,AD.cons,AF,AG,AM,Aw,AB,AH,AE.set,AE.refl,Sc.Ad (fun j hj=>AA hj) as1,Sc.Ad (fun j hj=>AA hj) bs,Sc.Ad (fun j hj=>AA hj) cs,Sc.Ad (fun j hj=>AA hj) ds,Av hlt hb.le]))
      ·have hi2:i=lb.length:=by omega
       subst hi2
       rw [List.take_length,h2,List.take_length] at hm2
       refine CW.vc MB [0,1,2,3,4,5,6,22,27,40,45,58] (by kernel_rfl) ?_
       (repeat ((try refine Vc.mk' ?_);simp only [go_sem,reduceCtorEq,Nat.reduceAdd,B9 hb,zh,Nat.lt_irrefl,decide_false]))
       simp [hm,hm2]
  ·have h2':¬(lb.length:Int)=(ld.length:Int):=by omega
   refine CW.vc MB [0,1,2,3,4,5,6,22,27,40,45,58] (by kernel_rfl) ?_
   (repeat ((try refine Vc.mk' ?_);simp only [go_sem,reduceCtorEq,Nat.reduceAdd,Bs ha,B9 hb,Bs hc,B9 hd,h1',h2']))
   simp [Vf h2]
 ·have h1':¬(la.length:Int)=(lc.length:Int):=by omega
  refine CW.vc MB [0,1,2,3,4,5,6,22,27,40,45,58] (by kernel_rfl) ?_
  (repeat ((try refine Vc.mk' ?_);simp only [go_sem,reduceCtorEq,Nat.reduceAdd,Bs ha,B9 hb,Bs hc,B9 hd,h1']))
  simp [Vf h1]
def nW:=Bu ACJ 25 PB
theorem Eg:Cf Try.prog tt.get nW:=MB.add dq
end Go.Proofs.Ytmppehipfpkepaa.Gr
/- What a graph is, and who is near, without the program. -/
set_option linter.unusedVariables false
namespace Go.Proofs.Ytmppehipfpkepaa.Gr
open Go.Dm Go.Proofs.Ytmppehipfpkepaa.Dm
def goN:Int→List Int→Bool
 |_, []=>true
 |last,n :: l=>BH n && decide (last < n) && goN n l
def Px (N:List Int)(x:BJ):Bool:= !decide (x.B2=x.To) && N.any (FQ x.B2) && N.any (FQ x.To) && JD x.C2
def YX (y x:BJ):Bool:=decide (y.B2 < x.B2) || (decide (y.B2=x.B2) && decide (y.To < x.To))
def wb (N:List Int):BJ→List BJ→Bool
 |_, []=>true
 |y,x :: l=>Px N x && YX y x && wb N x l
def N1 (N:List Int)(E:List BJ):Bool:=goN 0 N && decide (E.length≤384) && wb N ⟨0,0,0⟩ E
def N2 (N:List Int)(E:List BJ):Int:=if N1 N E=true then 0 else 2
theorem pN:∀(l:List Int) (last:Int),goN last l=true→(∀n∈l,BH n=true∧last < n)∧l.Pairwise (· < ·)
 | [],_,_=>⟨by simp, .nil⟩
 |m :: l,last,h=>by
  simp only [goN,Bool.and_eq_true,decide_eq_true_eq] at h
  obtain ⟨⟨h1,h2⟩,h3⟩:=h
  obtain ⟨a,b⟩:=pN l m h3
  refine ⟨fun n hn=> ?_,List.pairwise_cons.2 ⟨fun n hn=>(a n hn).2,b⟩⟩
  rcases List.mem_cons.1 hn with rfl | hn
  ·exact ⟨h1,h2⟩
  ·have:=a n hn;exact ⟨this.1,by omega⟩
def Ik (E:List BJ)(n:Int):List Ej:=(E.filter fun x=>decide (x.B2=n)).map fun x=>⟨x.To,x.C2⟩
theorem iO (E:List BJ)(n:Int):(Ik E n).length≤E.length:=by
 unfold Ik;rw [List.length_map];exact List.length_filter_le ..
theorem ba {E:List BJ}{i:Nat}(h:i < E.length)(n:Int):Ik (E.take (i+1)) n=Ik (E.take i) n ++ (if (Aj E i).B2=n then [⟨(Aj E i).To,(Aj E i).C2⟩] else []):=by
 rw [CO h]
 unfold Ik
 rw [List.filter_append,List.map_append]
 by_cases hp:(Aj E i).B2=n <;> simp [hp]
def jl (N:List Int)(E:List BJ)(n:Int):Bool:=N1 N E && N.any (FQ n)
def je (N:List Int)(E:List BJ)(n:Int):Int:=if jl N E n=true then 0 else 2
def PR (N:List Int)(E:List BJ)(n:Int):List Ej:=if jl N E n=true then Ik E n else []
theorem tn {N:List Int}{E:List BJ}(h:N1 N E=true):E.length≤384:=by
 simp only [N1,Bool.and_eq_true,decide_eq_true_eq] at h;exact h.1.2
/-- the first edge -/
theorem vZ {N:List Int}{x:BJ}(hN:∀n∈N,BH n=true)(h:Px N x=true):YX ⟨0,0,0⟩ x=true:=by
 simp only [Px,Bool.and_eq_true] at h
 have:=K5 hN h.1.1.2
 simp only [BH,Bool.and_eq_true,decide_eq_true_eq] at this
 simp only [YX,Bool.or_eq_true,decide_eq_true_eq]
 left;omega
end Go.Proofs.Ytmppehipfpkepaa.Gr
/- The document's Check of a graph. -/
set_option linter.unusedVariables false
namespace Go.Proofs.Ytmppehipfpkepaa.Gr
open Go.Dm Go.Proofs.Ytmppehipfpkepaa.Dm
set_option maxHeartbeats 8000000
set_option maxRecDepth 20000
theorem Fv:nW 72=CR:=rfl
theorem I2:nW 71=GF BH:=rfl
def QJ:Bp:= .pure (fun args hp=>match args with | [.agg ⟨[a,b]⟩]=>Dp Ab hp a∧Dp A9 hp b | _=>False) (fun args hp=>match args with
 | [.agg ⟨[a,b]⟩]=> .int .i64 (N2 (Ab.rd hp a) (A9.rd hp b)) | _=>undef)
def Zc (N:List Int)(k:Nat):Int:=((N.take k).getLast?).getD 0
theorem T0 {N:List Int}{k:Nat}(h:k < N.length):Zc N (k+1)=Aj N k:=by
 unfold Zc;rw [CO h];simp
def ZC (E:List BJ)(k:Nat):BJ:=((E.take k).getLast?).getD ⟨0,0,0⟩
theorem SG {E:List BJ}{k:Nat}(h:k < E.length):ZC E (k+1)=Aj E k:=by
 unfold ZC;rw [CO h];simp
theorem oY {N:List Int}(E:List BJ)(h:goN 0 N=false):N2 N E=2:=by simp [N2,N1,h]
theorem wu (N:List Int){E:List BJ}(h:¬E.length≤384):N2 N E=2:=by simp [N2,N1,h]
theorem zF {N:List Int}{E:List BJ}(h:goN 0 N=true)(h2:E.length≤384):N2 N E=if wb N ⟨0,0,0⟩ E=true then 0 else 2:=by simp [N2,N1,h,h2]
theorem cK {N:List Int}{k:Nat}(h0:0 < k)(h:k≤N.length):Zc N k=Aj N (k - 1):=by
 have:=T0 (N:=N) (k:=k - 1) (by omega)
 rwa [Nat.sub_add_cancel h0] at this
theorem bz {E:List BJ}{k:Nat}(h0:0 < k)(h:k≤E.length):ZC E k=Aj E (k - 1):=by
 have:=SG (E:=E) (k:=k - 1) (by omega)
 rwa [Nat.sub_add_cancel h0] at this
theorem VN {k n:Nat}(h0:0 < k)(h:k≤n)(hn:n≤9223372036854775807):BQ .i64 ((k:Int) - 1)=((k - 1:Nat):Int):=by
 rw [wrap64 (by omega) (by omega)];omega
def bX (hp:Hp)(top:Nat)(a b:Value)(k:Nat):SS:=⟨[(1, .pointer (some ⟨top,0,none⟩),true),(3, .int .i64 (k:Int),true)],hp.AZ [(top,some (.cells true 0 [a,b]))],top+1⟩
def RI (hp:Hp)(top:Nat)(a b:Value)(k:Nat):SS:=⟨[(1, .pointer (some ⟨top,0,none⟩),true),(4, .int .i64 (k:Int),true)],hp.AZ [(top,some (.cells true 0 [a,b]))],top+1⟩
theorem ja:BK Try.prog 87 QJ:=by
 refine .Gx WV ?_ ?_
 ·intro args hp h
  match args,h with
  | [.agg ⟨[a,b]⟩],_=>rfl
 intro args hp hpre top hcl hsc
 match args,hpre with
 | [.agg ⟨[a,b]⟩],⟨⟨N,ha⟩,⟨E,hb⟩⟩=>
 have as1:=ha.low hcl
 have bs:=hb.low hcl
 simp only [ha.rd,hb.rd]
 refine AL.Au BE WV rfl 113 rfl [.tmp 2] rfl (show 1≤113 by decide) ?_
 refine CW.vc Eg [0,1,2,3,4,5,6,11,38,42,47,85,87,112] (by kernel_rfl) ?_
 (repeat ((try refine Vc.mk' ?_);simp only [go_sem]))
 refine CW.CZ (bX hp top a b) (fun k=>k≤N.length∧goN 0 N=goN (Zc N k) (N.drop k)) (fun k=>N.length - k) 0 ⟨Nat.zero_le _,rfl⟩ ?_ ?_
 ·exact (by refine BO.mk' [top] hcl (by simp) (by simp) rfl (AV ?_) ?_ ?_ <;> simp [Ax,Cd,Ad,Ag,AD.nil,AD.cons,AF,AG,AM,AB,AE.set,AE.refl,Sc.Ad (fun j hj=>AA hj) as1,Sc.Ad (fun j hj=>AA hj) bs])
 ·rintro k ⟨hk,hm⟩
  by_cases hlt:k < N.length
  ·rw [GU hlt,goN] at hm
   have hls:=T0 hlt
   generalize hn:Aj N k=n at hm hls
   cases c1:BH n with
   |false=>
    rw [c1,Bool.false_and,Bool.false_and] at hm
    have e:=oY E hm
    refine CW.vc Eg [0,1,2,3,4,5,6,11,38,42,47,85,87,112] (by kernel_rfl) ?_
    (repeat ((try refine Vc.mk' ?_);simp only [go_sem,Nat.reduceAdd,Bs ha,CN ha,DM ha,Ao as1,I2,GF,hlt,bX,hn,c1,e]))
   |true=>
    rw [c1,Bool.true_and] at hm
    by_cases k0:0 < k
    ·have k1:(0:Int) < (k:Int):=by omega
     have k2:=VN k0 hk ha.le
     have k3:k - 1 < N.length:=by omega
     have k4:=cK k0 hk
     have k5:(((k - 1:Nat)):Int) < (N.length:Int):=by omega
     by_cases c2:Aj N (k - 1) < n
     ·rw [k4,decide_eq_true c2,Bool.true_and] at hm
      refine CW.vc Eg [0,1,2,3,4,5,6,11,38,42,47,85,87,112] (by kernel_rfl) ?_
      (repeat ((try refine Vc.mk' ?_);simp only [go_sem,Nat.reduceAdd,Bs ha,CN ha,DM ha,Ao as1,I2,GF,hlt,bX,hn,c1,k1,k2,k3,k5,c2]))
      exact .mk (k+1) ⟨hlt,by rw [hls];exact hm⟩ (by omega) ((by refine BO.mk' [top] hcl (by simp) (by simp) rfl (AV ?_) ?_ ?_ <;> simp [Ax,Cd,Ad,Ag,AD.nil,AD.cons,AF,AG,AM,AB,AE.set,AE.refl,Sc.Ad (fun j hj=>AA hj) as1,Sc.Ad (fun j hj=>AA hj) bs,Av hlt ha.le]))
     ·rw [k4,decide_eq_false c2,Bool.false_and] at hm
      have e:=oY E hm
      refine CW.vc Eg [0,1,2,3,4,5,6,11,38,42,47,85,87,112] (by kernel_rfl) ?_
      (repeat ((try refine Vc.mk' ?_);simp only [go_sem,Nat.reduceAdd,Bs ha,CN ha,DM ha,Ao as1,I2,GF,hlt,bX,hn,c1,k1,k2,k3,k5,c2,e]))
    ·have k0:k=0:=by omega
     have k1:¬(0:Int) < (k:Int):=by omega
     have hro:=c1
     simp only [BH,Bool.and_eq_true,decide_eq_true_eq] at hro
     have hz:Zc N k=0:=by rw [k0];rfl
     rw [hz,decide_eq_true (by omega:(0:Int) < n),Bool.true_and] at hm
     refine CW.vc Eg [0,1,2,3,4,5,6,11,38,42,47,85,87,112] (by kernel_rfl) ?_
     (repeat ((try refine Vc.mk' ?_);simp only [go_sem,Nat.reduceAdd,Bs ha,CN ha,DM ha,Ao as1,I2,GF,hlt,bX,hn,c1,k1]))
     exact .mk (k+1) ⟨hlt,by rw [hls];exact hm⟩ (by omega) ((by refine BO.mk' [top] hcl (by simp) (by simp) rfl (AV ?_) ?_ ?_ <;> simp [Ax,Cd,Ad,Ag,AD.nil,AD.cons,AF,AG,AM,AB,AE.set,AE.refl,Sc.Ad (fun j hj=>AA hj) as1,Sc.Ad (fun j hj=>AA hj) bs,Av hlt ha.le]))
  ·have hk2:k=N.length:=by omega
   subst hk2
   have hG:goN 0 N=true:=by rw [hm,List.drop_eq_nil_of_le (Nat.le_refl _)];rfl
   have hN:∀n∈N,BH n=true:=fun n hn=>((pN N 0 hG).1 n hn).1
   by_cases hl:E.length≤384
   ·have hl2:¬(384:Int) < (E.length:Int):=by omega
    have hE:=zF hG hl
    refine CW.vc Eg [0,1,2,3,4,5,6,11,38,42,47,85,87,112] (by kernel_rfl) ?_
    (repeat ((try refine Vc.mk' ?_);simp only [go_sem,Nat.reduceAdd,Bs ha,B9 hb,bX,Nat.lt_irrefl,decide_false,hl2]))
    refine CW.CZ (RI hp top a b) (fun k=>k≤E.length∧wb N ⟨0,0,0⟩ E=wb N (ZC E k) (E.drop k)) (fun k=>E.length - k) 0 ⟨Nat.zero_le _,rfl⟩ ?_ ?_
    ·exact (by refine BO.mk' [top] hcl (by simp) (by simp) rfl (AV ?_) ?_ ?_ <;> simp [Ax,Cd,Ad,Ag,AD.nil,AD.cons,AF,AG,AM,AB,AE.set,AE.refl,Sc.Ad (fun j hj=>AA hj) as1,Sc.Ad (fun j hj=>AA hj) bs])
    ·rintro k ⟨hk,hm⟩
     by_cases hlt:k < E.length
     ·rw [GU hlt,wb] at hm
      have hls:=SG hlt
      have bad:Px N (Aj E k)=false→N2 N E=2:=fun e=>by rw [hE,hm,e,Bool.false_and,Bool.false_and];rfl
      by_cases ab:(Aj E k).B2=(Aj E k).To
      ·have e:=bad (by simp [Px,ab])
       refine CW.vc Eg [0,1,2,3,4,5,6,11,38,42,47,85,87,112] (by kernel_rfl) ?_
       (repeat ((try refine Vc.mk' ?_);simp only [go_sem,reduceCtorEq,Nat.reduceAdd,Nat.reduceLT,ha.P,ha.rd,CK as1,Bf as1,B9 hb,Dn hb,Ez hb,Ao bs,Fv,CR,hlt,RI,Ht,ab,e]))
      cases a2:N.any (FQ (Aj E k).B2) with
      |false=>
       have e:=bad (by simp [Px,a2])
       refine CW.vc Eg [0,1,2,3,4,5,6,11,38,42,47,85,87,112] (by kernel_rfl) ?_
       (repeat ((try refine Vc.mk' ?_);simp only [go_sem,reduceCtorEq,Nat.reduceAdd,Nat.reduceLT,ha.P,ha.rd,CK as1,Bf as1,B9 hb,Dn hb,Ez hb,Ao bs,Fv,CR,hlt,RI,Ht,ab,a2,e]))
      |true=>
      cases b2:N.any (FQ (Aj E k).To) with
      |false=>
       have e:=bad (by simp [Px,b2])
       refine CW.vc Eg [0,1,2,3,4,5,6,11,38,42,47,85,87,112] (by kernel_rfl) ?_
       (repeat ((try refine Vc.mk' ?_);simp only [go_sem,reduceCtorEq,Nat.reduceAdd,Nat.reduceLT,ha.P,ha.rd,CK as1,Bf as1,B9 hb,Dn hb,Ez hb,Ao bs,Fv,CR,hlt,RI,Ht,ab,a2,b2,e]))
      |true=>
      by_cases c1:(Aj E k).C2 < 1
      ·have e:=bad (by simp only [Px,JD];rw [decide_eq_false (by omega:¬1≤(Aj E k).C2),Bool.false_and,Bool.and_false])
       refine CW.vc Eg [0,1,2,3,4,5,6,11,38,42,47,85,87,112] (by kernel_rfl) ?_
       (repeat ((try refine Vc.mk' ?_);simp only [go_sem,reduceCtorEq,Nat.reduceAdd,Nat.reduceLT,ha.P,ha.rd,CK as1,Bf as1,B9 hb,Dn hb,Ez hb,Ao bs,Fv,CR,hlt,RI,Ht,ab,a2,b2,c1,e]))
      by_cases c2:(1000:Int) < (Aj E k).C2
      ·have e:=bad (by simp only [Px,JD];rw [decide_eq_false (by omega:¬(Aj E k).C2≤1000),Bool.and_false,Bool.and_false])
       refine CW.vc Eg [0,1,2,3,4,5,6,11,38,42,47,85,87,112] (by kernel_rfl) ?_
       (repeat ((try refine Vc.mk' ?_);simp only [go_sem,reduceCtorEq,Nat.reduceAdd,Nat.reduceLT,ha.P,ha.rd,CK as1,Bf as1,B9 hb,Dn hb,Ez hb,Ao bs,Fv,CR,hlt,RI,Ht,ab,a2,b2,c1,c2,e]))
      have hed:Px N (Aj E k)=true:=by simp only [Px,JD,a2,b2,Bool.and_true,Bool.and_eq_true,Bool.not_eq_true',decide_eq_false_iff_not,decide_eq_true_eq];exact ⟨ab,by omega,by omega⟩
      by_cases k0:0 < k
      ·have k1:(0:Int) < (k:Int):=by omega
       have k2:=VN k0 hk hb.le
       have k3:k - 1 < E.length:=by omega
       have k4:=bz k0 hk
       have k5:(((k - 1:Nat)):Int) < (E.length:Int):=by omega
       rw [hed,Bool.true_and,k4] at hm
       by_cases f1:(Aj E k).B2 < (Aj E (k - 1)).B2
       ·have e:N2 N E=2:=by
         have:YX (Aj E (k - 1)) (Aj E k)=false:=by simp only [YX,Bool.or_eq_false_iff,Bool.and_eq_false_iff,decide_eq_false_iff_not];omega
         rw [hE,hm,this,Bool.false_and];rfl
        refine CW.vc Eg [0,1,2,3,4,5,6,11,38,42,47,85,87,112] (by kernel_rfl) ?_
        (repeat ((try refine Vc.mk' ?_);simp only [go_sem,reduceCtorEq,Nat.reduceAdd,Nat.reduceLT,Nat.reduceEqDiff,ha.P,ha.rd,CK as1,Bf as1,B9 hb,Dn hb,Ez hb,Ao bs,Fv,CR,hlt,RI,Ht,ab,a2,b2,c1,c2,k1,k2,k3,k5,f1,e]))
       by_cases f2:(Aj E (k - 1)).B2=(Aj E k).B2
       ·by_cases f3:(Aj E (k - 1)).To < (Aj E k).To
        ·have hl:YX (Aj E (k - 1)) (Aj E k)=true:=by simp only [YX,Bool.or_eq_true,Bool.and_eq_true,decide_eq_true_eq];omega
         rw [hl,Bool.true_and] at hm
         refine CW.vc Eg [0,1,2,3,4,5,6,11,38,42,47,85,87,112] (by kernel_rfl) ?_
         (repeat ((try refine Vc.mk' ?_);simp only [go_sem,reduceCtorEq,Nat.reduceAdd,Nat.reduceLT,Nat.reduceEqDiff,ha.P,ha.rd,CK as1,Bf as1,B9 hb,Dn hb,Ez hb,Ao bs,Fv,CR,hlt,RI,Ht,ab,a2,b2,c1,c2,k1,k2,k3,k5,f2,f3,Int.lt_irrefl]))
         exact .mk (k+1) ⟨hlt,by rw [hls];exact hm⟩ (by omega) ((by refine BO.mk' [top] hcl (by simp) (by simp) rfl (AV ?_) ?_ ?_ <;> simp [Ax,Cd,Ad,Ag,AD.nil,AD.cons,AF,AG,AM,AB,AH,AE.set,AE.refl,Sc.Ad (fun j hj=>AA hj) as1,Sc.Ad (fun j hj=>AA hj) bs,Av hlt hb.le]))
        ·have e:N2 N E=2:=by
          have:YX (Aj E (k - 1)) (Aj E k)=false:=by simp only [YX,Bool.or_eq_false_iff,Bool.and_eq_false_iff,decide_eq_false_iff_not];omega
          rw [hE,hm,this,Bool.false_and];rfl
         refine CW.vc Eg [0,1,2,3,4,5,6,11,38,42,47,85,87,112] (by kernel_rfl) ?_
         (repeat ((try refine Vc.mk' ?_);simp only [go_sem,reduceCtorEq,Nat.reduceAdd,Nat.reduceLT,Nat.reduceEqDiff,ha.P,ha.rd,CK as1,Bf as1,B9 hb,Dn hb,Ez hb,Ao bs,Fv,CR,hlt,RI,Ht,ab,a2,b2,c1,c2,k1,k2,k3,k5,f2,f3,Int.lt_irrefl,e]))
       ·have hl:YX (Aj E (k - 1)) (Aj E k)=true:=by simp only [YX,Bool.or_eq_true,Bool.and_eq_true,decide_eq_true_eq];omega
        rw [hl,Bool.true_and] at hm
        refine CW.vc Eg [0,1,2,3,4,5,6,11,38,42,47,85,87,112] (by kernel_rfl) ?_
        (repeat ((try refine Vc.mk' ?_);simp only [go_sem,reduceCtorEq,Nat.reduceAdd,Nat.reduceLT,Nat.reduceEqDiff,ha.P,ha.rd,CK as1,Bf as1,B9 hb,Dn hb,Ez hb,Ao bs,Fv,CR,hlt,RI,Ht,ab,a2,b2,c1,c2,k1,k2,k3,k5,f1,f2]))
        exact .mk (k+1) ⟨hlt,by rw [hls];exact hm⟩ (by omega) ((by refine BO.mk' [top] hcl (by simp) (by simp) rfl (AV ?_) ?_ ?_ <;> simp [Ax,Cd,Ad,Ag,AD.nil,AD.cons,AF,AG,AM,AB,AH,AE.set,AE.refl,Sc.Ad (fun j hj=>AA hj) as1,Sc.Ad (fun j hj=>AA hj) bs,Av hlt hb.le]))
      ·have k1:¬(0:Int) < (k:Int):=by omega
       have hz:ZC E k=⟨0,0,0⟩:=by rw [(by omega:k=0)];rfl
       rw [hed,Bool.true_and,hz,vZ hN hed,Bool.true_and] at hm
       refine CW.vc Eg [0,1,2,3,4,5,6,11,38,42,47,85,87,112] (by kernel_rfl) ?_
       (repeat ((try refine Vc.mk' ?_);simp only [go_sem,reduceCtorEq,Nat.reduceAdd,Nat.reduceLT,ha.P,ha.rd,CK as1,Bf as1,B9 hb,Dn hb,Ez hb,Ao bs,Fv,CR,hlt,RI,Ht,ab,a2,b2,c1,c2,k1]))
       exact .mk (k+1) ⟨hlt,by rw [hls];exact hm⟩ (by omega) ((by refine BO.mk' [top] hcl (by simp) (by simp) rfl (AV ?_) ?_ ?_ <;> simp [Ax,Cd,Ad,Ag,AD.nil,AD.cons,AF,AG,AM,AB,AH,AE.set,AE.refl,Sc.Ad (fun j hj=>AA hj) as1,Sc.Ad (fun j hj=>AA hj) bs,Av hlt hb.le]))
     ·have hk2:k=E.length:=by omega
      subst hk2
      have e:N2 N E=0:=by rw [hE,hm,List.drop_eq_nil_of_le (Nat.le_refl _)];rfl
      refine CW.vc Eg [0,1,2,3,4,5,6,11,38,42,47,85,87,112] (by kernel_rfl) ?_
      (repeat ((try refine Vc.mk' ?_);simp only [go_sem,Nat.reduceAdd,B9 hb,RI,Nat.lt_irrefl,decide_false,e]))
   ·have hl2:(384:Int) < (E.length:Int):=by omega
    have e:=wu N hl
    refine CW.vc Eg [0,1,2,3,4,5,6,11,38,42,47,85,87,112] (by kernel_rfl) ?_
    (repeat ((try refine Vc.mk' ?_);simp only [go_sem,Nat.reduceAdd,Bs ha,B9 hb,bX,Nat.lt_irrefl,decide_false,hl2,e]))
def G19:=Bu nW 87 QJ
theorem VK:Cf Try.prog tt.get G19:=Eg.add ja
theorem Sf:G19 87=QJ:=rfl
theorem W9:G19 72=CR:=rfl
end Go.Proofs.Ytmppehipfpkepaa.Gr
/- The document's Near. -/
set_option linter.unusedVariables false
namespace Go.Proofs.Ytmppehipfpkepaa.Gr
open Go.Dm Go.Proofs.Ytmppehipfpkepaa.Dm
set_option maxHeartbeats 8000000
set_option maxRecDepth 20000
def Gp (N:List Int)(E:List BJ)(n:Int)(top:Nat):Value×BC×Nat:=
 (.tuple ⟨[AK top (PR N E n), .int .i64 (je N E n)]⟩, [(top,AO Bw (PR N E n))],top+1)
def Io:Bp:= .det (fun args hp _=>match args with | [.agg ⟨[a,b]⟩,n]=>(Dp Ab hp a∧Dp A9 hp b)∧EO .i64 n | _=>False) (fun args hp top=>match args with
 | [.agg ⟨[a,b]⟩,n]=>Gp (Ab.rd hp a) (A9.rd hp b) (intOf n) top | _=>(undef, [],top))
theorem xW {N:List Int}{E:List BJ}(h:N1 N E=true):N2 N E=0:=by simp [N2,h]
theorem xH {N:List Int}{E:List BJ}(h:N1 N E=false):N2 N E=2:=by simp [N2,h]
theorem AA8 {N:List Int}{E:List BJ}(h:N1 N E=false)(n:Int):jl N E n=false:=by simp [jl,h]
theorem AAu (N:List Int)(E:List BJ){n:Int}(h:N.any (FQ n)=false):jl N E n=false:=by simp [jl,h]
theorem ACe {N:List Int}{E:List BJ}{n:Int}(h:N1 N E=true)(h2:N.any (FQ n)=true):jl N E n=true:=by simp [jl,h,h2]
theorem Ux {N:List Int}{E:List BJ}{n:Int}{top:Nat}(h:jl N E n=false):Gp N E n top=(.tuple ⟨[.slice none 0 0, .int .i64 2]⟩, [(top,none)],top+1):=by
 simp [Gp,PR,je,h,AK,AO]
theorem fp {N:List Int}{E:List BJ}{n:Int}{top:Nat}(h:jl N E n=true):Gp N E n top=(.tuple ⟨[AK top (Ik E n), .int .i64 0]⟩, [(top,AO Bw (Ik E n))],top+1):=by
 simp [Gp,PR,je,h]
def sQ (hp:Hp)(top:Nat)(a b:Value)(n:Int)(E:List BJ)(k:Nat):SS:=
 ⟨[(1, .int .i64 n,true),(2, .pointer (some ⟨top+1,0,none⟩),true),(6,AK top (Ik (E.take k) n),true),(7, .int .i64 (k:Int),true)],hp.AZ [(top,AO Bw (Ik (E.take k) n)),(top+1,some (.cells true 0 [a,b]))],top+2⟩
theorem od:BK Try.prog 79 Io:=by
 refine .Cc XD ?_
 intro args hp top hpre hcl hsc
 match args,hpre with
 | [.agg ⟨[a,b]⟩,nv],⟨⟨⟨N,ha⟩,⟨E,hb⟩⟩,hx⟩=>
 rw [hx]
 generalize intOf nv=n
 have as1:=ha.low hcl
 have bs:=hb.low hcl
 simp only [ha.rd,hb.rd,BA]
 refine AL.Au BE XD rfl 50 rfl [.tmp 4, .tmp 5] rfl (show 2≤50 by decide) ?_
 cases c1:N1 N E with
 |false=>
  have e:=xH c1
  simp only [Ux (AA8 c1 n)]
  refine CW.vc VK [0,1,2,4,5,6,7,17,22,32] (by kernel_rfl) ?_
  (repeat ((try refine Vc.mk' ?_);simp only [go_sem,Nat.reduceAdd,Int.reduceEq,ha.P,ha.rd,CK as1,Bf as1,hb.P,hb.rd,CK bs,Bf bs,Sf,QJ,W9,CR,e]))
  (refine ⟨[top+1],by simp,by simp,by simp, ?_, ?_, ?_⟩ <;> simp [Ad,Ag,AD.nil,AD.cons,AM,AH,AE.set,AE.refl])
 |true=>
 have e:=xW c1
 cases c2:N.any (FQ n) with
 |false=>
  simp only [Ux (AAu N E c2)]
  refine CW.vc VK [0,1,2,4,5,6,7,17,22,32] (by kernel_rfl) ?_
  (repeat ((try refine Vc.mk' ?_);simp only [go_sem,Nat.reduceAdd,ha.P,ha.rd,CK as1,Bf as1,hb.P,hb.rd,CK bs,Bf bs,Sf,QJ,W9,CR,e,c2]))
  (refine ⟨[top+1],by simp,by simp,by simp, ?_, ?_, ?_⟩ <;> simp [Ad,Ag,AD.nil,AD.cons,AM,AH,AE.set,AE.refl])
 |true=>
  simp only [fp (ACe c1 c2)]
  have h384:=tn c1
  refine CW.vc VK [0,1,2,4,5,6,7,17,22,32] (by kernel_rfl) ?_
  (repeat ((try refine Vc.mk' ?_);simp only [go_sem,Nat.reduceAdd,ha.P,ha.rd,CK as1,Bf as1,hb.P,hb.rd,CK bs,Bf bs,Sf,QJ,W9,CR,e,c2]))
  refine CW.CZ (sQ hp top a b n E) (fun k=>k≤E.length) (fun k=>E.length - k) 0 (Nat.zero_le _) ?_ ?_
  ·have h0:Ik [] n= []:=rfl
   exact (by refine BO.mk' [top+1,top] hcl (by simp) (by simp) rfl (AV ?_) ?_ ?_ <;> simp [Ax,Cd,Ad,Ag,AD.nil,AD.cons,AF,AG,AM,Aw,AB,AH,AE.set,AE.refl,Sc.Ad (fun j hj=>AA hj) as1,Sc.Ad (fun j hj=>AA hj) bs,List.take_zero,h0,Dh,EN])
  ·intro k hk
   have hnl:=iO (E.take k) n
   have htl:(E.take k).length≤384:=by rw [List.length_take];omega
   have h16:(Ik (E.take k) n).length < 16777216:=by omega
   by_cases hlt:k < E.length
   ·have hst:=ba hlt n
    by_cases hc:(Aj E k).B2=n
    ·rw [if_pos hc] at hst
     refine CW.vc VK [0,1,2,4,5,6,7,17,22,32] (by kernel_rfl) ?_
     (repeat ((try refine Vc.mk' ?_);simp only [go_sem,reduceCtorEq,Nat.reduceAdd,Nat.reduceMul,Nat.reduceLeDiff,B9 hb,Dn hb,TX hb,Se hb,cu hb,bG hb,a5 hb,bp hb,Ao bs,hlt,sQ,hc,h16]))
     exact .mk (k+1) hlt (by omega) ((by refine BO.mk' [top+3,top+1] hcl (by simp) (by simp) rfl (AV ?_) ?_ ?_ <;> simp [Ax,Cd,Ad,Ag,AD.nil,AD.cons,AF,AG,AQ,AM,Aw,Af,AB,AH,AE.set,AE.refl,Sc.Ad (fun j hj=>AA hj) as1,Sc.Ad (fun j hj=>AA hj) bs,hst,Av hlt hb.le]))
    ·rw [if_neg hc,List.append_nil] at hst
     refine CW.vc VK [0,1,2,4,5,6,7,17,22,32] (by kernel_rfl) ?_
     (repeat ((try refine Vc.mk' ?_);simp only [go_sem,Nat.reduceAdd,B9 hb,Dn hb,TX hb,Se hb,Ao bs,hlt,sQ,hc]))
     exact .mk (k+1) hlt (by omega) ((by refine BO.mk' [top,top+1] hcl (by simp) (by simp) rfl (AV ?_) ?_ ?_ <;> simp [Ax,Cd,Ad,Ag,AD.nil,AD.cons,AF,AG,AQ,AM,Aw,Af,AB,AH,AE.set,AE.refl,Sc.Ad (fun j hj=>AA hj) as1,Sc.Ad (fun j hj=>AA hj) bs,hst,Av hlt hb.le]))
   ·have hk2:k=E.length:=by omega
    subst hk2
    refine CW.vc VK [0,1,2,4,5,6,7,17,22,32] (by kernel_rfl) ?_
    (repeat ((try refine Vc.mk' ?_);simp only [go_sem,Nat.reduceAdd,B9 hb,sQ,Nat.lt_irrefl,decide_false,List.take_length]))
    (refine ⟨[top],by simp,by simp,by simp, ?_, ?_, ?_⟩ <;> simp [Ad,Ag,AD.nil,AD.cons,AQ,AM,Af,AB,AH,AE.set,AE.refl])
end Go.Proofs.Ytmppehipfpkepaa.Gr
