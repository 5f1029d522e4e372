/- The document's graph of routers and links. -/
import Derived.Test.YthlhnangbinhoaaGreatDoorCGO
set_option linter.unusedVariables false
namespace Go.Proofs.YthlhnangbinhoaaGreatDoor.Gr
open Go.Dm Go.Proofs.YthlhnangbinhoaaGreatDoor.Dm
set_option maxHeartbeats 8000000
set_option maxRecDepth 20000
theorem V4 {α:Type}[Inhabited α]{p:α→Bool}{l:List α}{j:Nat}(h:j < l.length):(l.take (j+1)).any p=((l.take j).any p || p (at' l j)):=by
 rw [Bj h,List.any_append];simp
def D6:BE:= .pure (fun args hp=>match args with | [v,n]=>Dy AL hp v∧GR .i64 n | _=>False) (fun args hp=>match args with
 | [v,n]=> .bool ((AL.rd hp v).any (JX (intOf n))) | _=>undef)
def qY (hp:Hp)(top:Nat)(v:Value)(x:Int)(i:Nat):SS:=⟨[(0,v,true),(1, .int .i64 x,true),(5, .int .i64 (i:Int),true)],hp.Ac [],top+0⟩
theorem oW:Ag Tryz.prog 130 D6:=by
 refine .EK Wh ?_ ?_
 ·intro args hp h
  match args,h with
  | [v,n],_=>rfl
 intro args hp hpre top hcl hsc
 match args,hpre with
 | [v,n],⟨⟨l,h⟩,hx⟩=>
 rw [hx]
 generalize intOf n=x
 have hs:=h.low hcl
 simp only [h.rd,intOf_int]
 refine AJ.Af Am Wh rfl 18 rfl [.tmp 4] rfl (show 2≤18 by decide) ?_
 refine CW.vc EG [0,1,4,5,9,17] (by kernel_rfl) ?_
 (repeat ((try refine Vc.mk' ?_);simp only [go_sem]))
 refine CW.Bc (qY hp top v x) (fun i=>i≤l.length∧(l.take i).any (JX x)=false) (fun i=>l.length - i) 0 ⟨Nat.zero_le _,rfl⟩ ?_ ?_
 ·exact (by refine Al.mk' [] hcl (by simp) (by simp) rfl (AF ?_) ?_ ?_ <;> simp [Sc.Ao (fun j hj=>AE hj) hs])
 ·rintro i ⟨hi,hm⟩
  by_cases hlt:i < l.length
  ·have hst:=V4 (p:=JX x) hlt
   rw [hm,Bool.false_or] at hst
   by_cases hc:at' l i=x
   ·have h1:l.any (JX x)=true:=List.any_eq_true.2 ⟨_,at_mem hlt,by simp [JX,hc]⟩
    refine CW.vc EG [0,1,4,5,9,17] (by kernel_rfl) ?_
    (repeat ((try refine Vc.mk' ?_);simp only [go_sem,Ef h,Ct h,Dh h,qY,hlt,hc,h1]))
   ·have h1:JX x (at' l i)=false:=by simp [JX,hc]
    rw [h1] at hst
    refine CW.vc EG [0,1,4,5,9,17] (by kernel_rfl) ?_
    (repeat ((try refine Vc.mk' ?_);simp only [go_sem,Ef h,Ct h,Dh h,qY,hlt,hc]))
    exact .mk (i+1) ⟨hlt,hst⟩ (by omega) ((by refine Al.mk' [] hcl (by simp) (by simp) rfl (AF ?_) ?_ ?_ <;> simp [Sc.Ao (fun j hj=>AE hj) hs,Ae hlt h.le]))
  ·have hi2:i=l.length:=by omega
   subst hi2
   rw [List.take_length] at hm
   refine CW.vc EG [0,1,4,5,9,17] (by kernel_rfl) ?_
   (repeat ((try refine Vc.mk' ?_);simp only [go_sem,Ef h,qY,Nat.lt_irrefl,decide_false,hm]))
def G15:=BV G5 130 D6
theorem D7:Bp Tryz.prog tt.get G15:=EG.add oW
theorem E9:G15 130=D6:=rfl
theorem Jc:G15 69=F2 BP:=rfl
def fK (hp:Hp)(top:Nat)(u v:Value)(k:Nat):SS:=
 ⟨[(0,u,true),(1,v,true),(4, .pointer (some ⟨top,0,none⟩),true),(6, .int .i64 (k:Int),true)],hp.Ac [(top,some (.cells true 0 [.slice none 0 0, .slice none 0 0]))],top+1⟩
def Xa (hp:Hp)(top:Nat)(u v:Value)(k:Nat):SS:=
 ⟨[(0,u,true),(1,v,true),(4, .pointer (some ⟨top,0,none⟩),true),(7, .int .i64 (k:Int),true)],hp.Ac [(top,some (.cells true 0 [.slice none 0 0, .slice none 0 0]))],top+1⟩
def wy (hp:Hp)(top:Nat)(u v:Value)(x:AQ)(k j:Nat):SS:=
 ⟨[(0,u,true),(1,v,true),(4, .pointer (some ⟨top,0,none⟩),true),(7, .int .i64 (k:Int),true),(8, .pointer (some ⟨top+1,0,none⟩),true),(9, .int .i64 (j:Int),true)],
  hp.Ac [(top,some (.cells true 0 [.slice none 0 0, .slice none 0 0])),(top+1,some (.cells true 0 (AP.enc x)))],top+2⟩
def qe (hp:Hp)(top:Nat)(u v:Value)(R:List Int)(l:List AQ)(n:Nat):SS:=
 ⟨[(0,u,true),(1,v,true),(4, .pointer (some ⟨top+1,0,none⟩),true),(10, .pointer (some ⟨top+2,0,none⟩),true),(11, .int .i64 (n:Int),true)],
  hp.Ac [(top,AD AL (D1 R n)),(top+1,some (.cells true 0 [.slice none 0 0, .slice none 0 0])),(top+2,some (.cells true 0 [AA top (D1 R n),AA (top+3) (De R l n)])),(top+3,AD BC (De R l n))],top+4⟩
def wz (hp:Hp)(top:Nat)(u v:Value)(R:List Int)(l:List AQ)(n m:Nat):SS:=
 ⟨[(0,u,true),(1,v,true),(4, .pointer (some ⟨top+1,0,none⟩),true),(10, .pointer (some ⟨top+2,0,none⟩),true),(11, .int .i64 (n:Int),true),(12, .int .i64 (m:Int),true)],
  hp.Ac [(top,AD AL (D1 R (n+1))),(top+1,some (.cells true 0 [.slice none 0 0, .slice none 0 0])),(top+2,some (.cells true 0 [AA top (D1 R (n+1)),AA (top+3) (De R l n ++ LH l n m)])),(top+3,AD BC (De R l n ++ LH l n m))],top+4⟩
def qf (hp:Hp)(top:Nat)(u v:Value)(R:List Int)(l:List AQ)(n m i:Nat):SS:=
 ⟨[(0,u,true),(1,v,true),(4, .pointer (some ⟨top+1,0,none⟩),true),(10, .pointer (some ⟨top+2,0,none⟩),true),(11, .int .i64 (n:Int),true),(12, .int .i64 (m:Int),true),(13, .int .i64 (i:Int),true)],
  hp.Ac [(top,AD AL (D1 R (n+1))),(top+1,some (.cells true 0 [.slice none 0 0, .slice none 0 0])),(top+2,some (.cells true 0 [AA top (D1 R (n+1)),AA (top+3) (De R l n ++ LH l n m ++ MN (l.take i) (n:Int) (m:Int))])),(top+3,AD BC (De R l n ++ LH l n m ++ MN (l.take i) (n:Int) (m:Int)))],top+4⟩
theorem kU {R:List Int}{l:List AQ}(hR:∀n∈R,BP n=true)(h:∀x∈l,Cc R x=true)(n:Nat):LH l n 1= []:=by
 have:MN l (n:Int) ((0:Nat):Int)= []:=by
  unfold MN
  have:l.filter (pr (n:Int) ((0:Nat):Int))= []:=by
   rw [List.filter_eq_nil_iff]
   intro x hx
   have hk:=h x hx
   simp only [Cc,Bool.and_eq_true] at hk
   have ha:=Lz hR hk.1.1.2
   have hb:=Lz hR hk.1.2
   simp only [BP,Bool.and_eq_true,decide_eq_true_eq] at ha hb
   simp only [pr,Bool.or_eq_true,Bool.and_eq_true,decide_eq_true_eq]
   omega
  rw [this];rfl
 rw [OT,this];rfl
theorem any_zero {R:List Int}(hR:∀n∈R,BP n=true):R.any (JX ((0:Nat):Int))=false:=by
 rw [List.any_eq_false]
 intro x hx
 have:=hR x hx
 simp only [BP,Bool.and_eq_true,decide_eq_true_eq] at this
 simp only [JX,decide_eq_true_eq];omega
theorem wV:Ag Tryz.prog 108 F4:=by
 refine .Eh Wb ?_
 intro args hp top hpre hcl hsc
 match args,hpre with
 | [u,v],⟨⟨R,h⟩,⟨l,g⟩⟩=>
 have hs:=h.low hcl
 have gs:=g.low hcl
 simp only [h.rd,g.rd]
 refine AJ.Af Am Wb rfl 197 rfl [.cell 4 185, .tmp 5] rfl (show 2≤197 by decide) ?_
 refine CW.vc D7 [0,1,4,5,6,7,8,9,10,11,12,13,17,35,39,44,79,83,123,126,132,140,146,182] (by kernel_rfl) ?_
 (repeat ((try refine Vc.mk' ?_);simp only [go_sem]))
 refine CW.Bc (fK hp top u v) (fun k=>k≤R.length∧Vh [] R=Vh (R.take k) (R.drop k)) (fun k=>R.length - k) 0 ⟨Nat.zero_le _,rfl⟩ ?_ ?_
 ·exact (by refine Al.mk' [top] hcl (by simp) (by simp) rfl (AF ?_) ?_ ?_ <;> simp [Sc.Ao (fun j hj=>AE hj) hs,Sc.Ao (fun j hj=>AE hj) gs])
 ·rintro k ⟨hk,hm⟩
  by_cases hlt:k < R.length
  ·have hT:BF AL hp (GK 1 u 0 k) (R.take k):=h.take hk
   have hTs:=hT.low hcl
   rw [drop_at hlt,Vh] at hm
   generalize hn:at' R k=n at hm
   have hk1:(k:Int)≤(R.length:Int):=by omega
   cases c1:BP n with
   |false=>
    rw [c1,Bool.false_and,Bool.false_and] at hm
    simp only [Bt (Ud l hm) (by decide)]
    refine CW.vc D7 [0,1,4,5,6,7,8,9,10,11,12,13,17,35,39,44,79,83,123,126,132,140,146,182] (by kernel_rfl) ?_
    (repeat ((try refine Vc.mk' ?_);simp only [go_sem,Ef h,Ct h,Dh h,VO h,Ab hs,FN h hs Ey,Jc,F2,E9,D6,hT.P,hT.rd,FM hTs,EO hTs,hlt,hk1,fK,hn,c1]))
    (refine ⟨[top,top+1],by simp,by simp,by simp, ?_, ?_, ?_⟩ <;> simp [])
   |true=>
    cases c2:(R.take k).any (JX n) with
    |true=>
     rw [c2,Bool.not_true,Bool.and_false,Bool.false_and] at hm
     simp only [Bt (Ud l hm) (by decide)]
     refine CW.vc D7 [0,1,4,5,6,7,8,9,10,11,12,13,17,35,39,44,79,83,123,126,132,140,146,182] (by kernel_rfl) ?_
     (repeat ((try refine Vc.mk' ?_);simp only [go_sem,Ef h,Ct h,Dh h,VO h,Ab hs,FN h hs Ey,Jc,F2,E9,D6,hT.P,hT.rd,FM hTs,EO hTs,hlt,hk1,fK,hn,c1,c2]))
     (refine ⟨[top,top+1],by simp,by simp,by simp, ?_, ?_, ?_⟩ <;> simp [])
    |false=>
     rw [c1,c2,Bool.not_false,Bool.and_self,Bool.true_and] at hm
     refine CW.vc D7 [0,1,4,5,6,7,8,9,10,11,12,13,17,35,39,44,79,83,123,126,132,140,146,182] (by kernel_rfl) ?_
     (repeat ((try refine Vc.mk' ?_);simp only [go_sem,Ef h,Ct h,Dh h,VO h,Ab hs,FN h hs Ey,Jc,F2,E9,D6,hT.P,hT.rd,FM hTs,EO hTs,hlt,hk1,fK,hn,c1,c2]))
     refine .mk (k+1) ⟨hlt, ?_⟩ (by omega) ((by refine Al.mk' [top] hcl (by simp) (by simp) rfl (AF ?_) ?_ ?_ <;> simp [Sc.Ao (fun j hj=>AE hj) hs,Sc.Ao (fun j hj=>AE hj) gs,Ae hlt h.le]))
     rw [hm,Bj hlt,hn]
  ·have hk2:k=R.length:=by omega
   subst hk2
   have hG:Vh [] R=true:=by rw [hm,List.drop_eq_nil_of_le (Nat.le_refl _)];rfl
   by_cases hl:48 < l.length
   ·have hl2:(48:Int) < (l.length:Int):=by omega
    simp only [Bt (iQ hG hl) (by decide)]
    refine CW.vc D7 [0,1,4,5,6,7,8,9,10,11,12,13,17,35,39,44,79,83,123,126,132,140,146,182] (by kernel_rfl) ?_
    (repeat ((try refine Vc.mk' ?_);simp only [go_sem,Ef h,BH g,fK,Nat.lt_irrefl,decide_false,hl2]))
    (refine ⟨[top,top+1],by simp,by simp,by simp, ?_, ?_, ?_⟩ <;> simp [])
   ·have hl2:¬(48:Int) < (l.length:Int):=by omega
    have hE:=iR hG hl
    have hR:=Un R [] hG
    refine CW.vc D7 [0,1,4,5,6,7,8,9,10,11,12,13,17,35,39,44,79,83,123,126,132,140,146,182] (by kernel_rfl) ?_
    (repeat ((try refine Vc.mk' ?_);simp only [go_sem,Ef h,BH g,fK,Nat.lt_irrefl,decide_false,hl2]))
    refine CW.Bc (Xa hp top u v) (fun k=>k≤l.length∧Yi R [] l=Yi R (l.take k) (l.drop k)∧∀x∈l.take k,Cc R x=true) (fun k=>l.length - k) 0 ⟨Nat.zero_le _,rfl,by simp⟩ ?_ ?_
    ·exact (by refine Al.mk' [top] hcl (by simp) (by simp) rfl (AF ?_) ?_ ?_ <;> simp [Sc.Ao (fun j hj=>AE hj) hs,Sc.Ao (fun j hj=>AE hj) gs])
    ·rintro k ⟨hk,hm,hok⟩
     by_cases hlt:k < l.length
     ·rw [drop_at hlt,Yi] at hm
      have bad:Cc R (at' l k)=false→Ee R l=2:=fun e=>by rw [hE,hm,if_pos e]
      by_cases ab:(at' l k).A=(at' l k).B
      ·have e:=bad (by simp [Cc,ab])
       simp only [Bt e (by decide)]
       refine CW.vc D7 [0,1,4,5,6,7,8,9,10,11,12,13,17,35,39,44,79,83,123,126,132,140,146,182] (by kernel_rfl) ?_
       (repeat ((try refine Vc.mk' ?_);simp only [go_sem,h.P,h.rd,FM hs,EO hs,BH g,BG g,B4 g,Ab gs,E9,D6,hlt,Xa,ab]))
       (refine ⟨[top,top+1],by simp,by simp,by simp, ?_, ?_, ?_⟩ <;> simp [])
      cases a2:R.any (JX (at' l k).A) with
      |false=>
       have e:=bad (by simp [Cc,a2])
       simp only [Bt e (by decide)]
       refine CW.vc D7 [0,1,4,5,6,7,8,9,10,11,12,13,17,35,39,44,79,83,123,126,132,140,146,182] (by kernel_rfl) ?_
       (repeat ((try refine Vc.mk' ?_);simp only [go_sem,h.P,h.rd,FM hs,EO hs,BH g,BG g,B4 g,Ab gs,E9,D6,hlt,Xa,ab,a2]))
       (refine ⟨[top,top+1],by simp,by simp,by simp, ?_, ?_, ?_⟩ <;> simp [])
      |true=>
      cases b2:R.any (JX (at' l k).B) with
      |false=>
       have e:=bad (by simp [Cc,b2])
       simp only [Bt e (by decide)]
       refine CW.vc D7 [0,1,4,5,6,7,8,9,10,11,12,13,17,35,39,44,79,83,123,126,132,140,146,182] (by kernel_rfl) ?_
       (repeat ((try refine Vc.mk' ?_);simp only [go_sem,h.P,h.rd,FM hs,EO hs,BH g,BG g,B4 g,Ab gs,E9,D6,hlt,Xa,ab,a2,b2]))
       (refine ⟨[top,top+1],by simp,by simp,by simp, ?_, ?_, ?_⟩ <;> simp [])
      |true=>
      by_cases c1:(at' l k).Dx < 1
      ·have e:=bad (by simp only [Cc,LP];rw [decide_eq_false (by omega:¬1≤(at' l k).Dx),Bool.false_and,Bool.and_false])
       simp only [Bt e (by decide)]
       refine CW.vc D7 [0,1,4,5,6,7,8,9,10,11,12,13,17,35,39,44,79,83,123,126,132,140,146,182] (by kernel_rfl) ?_
       (repeat ((try refine Vc.mk' ?_);simp only [go_sem,h.P,h.rd,FM hs,EO hs,BH g,BG g,B4 g,Ab gs,E9,D6,hlt,Xa,ab,a2,b2,c1]))
       (refine ⟨[top,top+1],by simp,by simp,by simp, ?_, ?_, ?_⟩ <;> simp [])
      by_cases c2:(1000:Int) < (at' l k).Dx
      ·have e:=bad (by simp only [Cc,LP];rw [decide_eq_false (by omega:¬(at' l k).Dx≤1000),Bool.and_false,Bool.and_false])
       simp only [Bt e (by decide)]
       refine CW.vc D7 [0,1,4,5,6,7,8,9,10,11,12,13,17,35,39,44,79,83,123,126,132,140,146,182] (by kernel_rfl) ?_
       (repeat ((try refine Vc.mk' ?_);simp only [go_sem,h.P,h.rd,FM hs,EO hs,BH g,BG g,B4 g,Ab gs,E9,D6,hlt,Xa,ab,a2,b2,c1,c2]))
       (refine ⟨[top,top+1],by simp,by simp,by simp, ?_, ?_, ?_⟩ <;> simp [])
      have hlk:Cc R (at' l k)=true:=by simp only [Cc,LP,a2,b2,Bool.and_true,Bool.and_eq_true,Bool.not_eq_true',decide_eq_false_iff_not,decide_eq_true_eq];exact ⟨ab,by omega,by omega⟩
      rw [if_neg (by simp [hlk])] at hm
      refine CW.vc D7 [0,1,4,5,6,7,8,9,10,11,12,13,17,35,39,44,79,83,123,126,132,140,146,182] (by kernel_rfl) ?_
      (repeat ((try refine Vc.mk' ?_);simp only [go_sem,h.P,h.rd,FM hs,EO hs,BH g,BG g,B4 g,Ab gs,E9,D6,hlt,Xa,ab,a2,b2,c1,c2]))
      refine CW.Bc (wy hp top u v (at' l k) k) (fun j=>j≤k∧(l.take j).any (pr (at' l k).A (at' l k).B)=false) (fun j=>k - j) 0 ⟨Nat.zero_le _,by simp⟩ ?_ ?_
      ·exact (by refine Al.mk' [top,top+1] hcl (by simp) (by simp) rfl (AF ?_) ?_ ?_ <;> simp [Sc.Ao (fun j hj=>AE hj) hs,Sc.Ao (fun j hj=>AE hj) gs,Kr])
      ·rintro j ⟨hj,hjm⟩
       by_cases hjk:j < k
       ·have hjl:j < l.length:=by omega
        have hst:=V4 (p:=pr (at' l k).A (at' l k).B) hjl
        rw [hjm,Bool.false_or] at hst
        have hpb:(decide ((at' l j).A=(at' l k).A) && decide ((at' l j).B=(at' l k).B) || decide ((at' l j).A=(at' l k).B) && decide ((at' l j).B=(at' l k).A))=pr (at' l k).A (at' l k).B (at' l j):=rfl
        refine CW.vc D7 [0,1,4,5,6,7,8,9,10,11,12,13,17,35,39,44,79,83,123,126,132,140,146,182] (by kernel_rfl) ?_
        (repeat ((try refine Vc.mk' ?_);simp only [go_sem,BG g,Fj g,Fh g,Fk g,Fi g,Ab gs,wy,hjk,hjl,hpb]))
        refine ⟨fun h=>⟨h,fun h2=>⟨h,h2⟩⟩, ?_⟩
        repeat (refine Vc.mk' ?_;(repeat ((try refine Vc.mk' ?_);simp only [go_sem])))
        refine JV.mk (fun c=> ?_) (fun c=> ?_)
        ·have hany:(l.take k).any (pr (at' l k).A (at' l k).B)=true:=by
          rw [List.any_eq_true]
          exact ⟨at' l j,by rw [BS _ _ hjl];exact List.mem_take_iff_getElem.2 ⟨j,by omega,rfl⟩,c⟩
         rw [if_pos hany] at hm
         have e:Ee R l=7:=by rw [hE,hm]
         simp only [Bt e (by decide)]
         (repeat ((try refine Vc.mk' ?_);simp only [go_sem]))
         (refine ⟨[top,top+1],by simp,by simp,by simp, ?_, ?_, ?_⟩ <;> simp [])
        ·rw [c] at hst
         (repeat ((try refine Vc.mk' ?_);simp only [go_sem]))
         exact .mk (j+1) ⟨hjk,hst⟩ (by omega) ((by refine Al.mk' [top,top+1] hcl (by simp) (by simp) rfl (AF ?_) ?_ ?_ <;> simp [Sc.Ao (fun j hj=>AE hj) hs,Sc.Ao (fun j hj=>AE hj) gs,Kr,Ae hjl g.le]))
       ·have hj2:j=k:=by omega
        subst hj2
        rw [if_neg (by simp [hjm])] at hm
        rw [←Bj hlt] at hm
        refine CW.vc D7 [0,1,4,5,6,7,8,9,10,11,12,13,17,35,39,44,79,83,123,126,132,140,146,182] (by kernel_rfl) ?_
        (repeat ((try refine Vc.mk' ?_);simp only [go_sem,wy,Nat.lt_irrefl,decide_false]))
        refine .mk (j+1) ⟨hlt,hm, ?_⟩ (by omega) ((by refine Al.mk' [top] hcl (by simp) (by simp) rfl (AF ?_) ?_ ?_ <;> simp [Sc.Ao (fun j hj=>AE hj) hs,Sc.Ao (fun j hj=>AE hj) gs,Ae hlt g.le]))
        intro y hy
        rw [Bj hlt] at hy
        rcases List.mem_append.1 hy with hy | hy
        ·exact hok y hy
        ·rw [List.mem_singleton.1 hy];exact hlk
     ·have hk2:k=l.length:=by omega
      subst hk2
      rw [List.take_length] at hok
      have hz:Yi R [] l=0:=by rw [hm,List.drop_eq_nil_of_le (Nat.le_refl _)];rfl
      have e:Ee R l=0:=by rw [hE,hz]
      have hz0:D1 R 1= []:=by rw [PE,any_zero hR];rfl
      have hz1:De R l 1= []:=by rw [J1,any_zero hR];rfl
      have hl48:l.length≤48:=by omega
      simp only [XG e]
      refine CW.vc D7 [0,1,4,5,6,7,8,9,10,11,12,13,17,35,39,44,79,83,123,126,132,140,146,182] (by kernel_rfl) ?_
      (repeat ((try refine Vc.mk' ?_);simp only [go_sem,BH g,Xa,Nat.lt_irrefl,decide_false]))
      refine CW.Bc (qe hp top u v R l) (fun n=>1≤n∧n≤25) (fun n=>25 - n) 1 ⟨Nat.le_refl _,by decide⟩ ?_ ?_
      ·exact (by refine Al.mk' [top+2,top,top+1,top+3] hcl (by simp) (by simp) rfl (AF ?_) ?_ ?_ <;> simp [Sc.Ao (fun j hj=>AE hj) hs,Sc.Ao (fun j hj=>AE hj) gs,hz0,hz1,DD,Dp])
      ·rintro n ⟨hn1,hn⟩
       have hnl:=Yv R n
       have hel:=Qm R l n
       have hel2:(De R l n).length≤30000:=by
        have:n * (25 * l.length)≤25 * (25 * 48):=Nat.mul_le_mul hn (Nat.mul_le_mul_left _ hl48)
        omega
       by_cases hlt:n < 25
       ·have hlt2:¬(24:Int) < (n:Int):=by omega
        have hlt3:(n:Int)≤24:=by omega
        have hw:Ad .i64 ((n:Int)+1)=((n+1:Nat):Int):=Ae hlt (by decide)
        have hns:=PE R n
        have hes:=J1 R l n
        cases ha:R.any (JX (n:Int)) with
        |false=>
         rw [ha,if_neg (by simp),List.append_nil] at hns hes
         refine CW.vc D7 [0,1,4,5,6,7,8,9,10,11,12,13,17,35,39,44,79,83,123,126,132,140,146,182] (by kernel_rfl) ?_
         (repeat ((try refine Vc.mk' ?_);simp only [go_sem,h.P,h.rd,FM hs,EO hs,E9,D6,qe,hlt2,ha]))
         exact .mk (n+1) ⟨by omega,hlt⟩ (by omega) ((by refine Al.mk' [top,top+1,top+2,top+3] hcl (by simp) (by simp) rfl (AF ?_) ?_ ?_ <;> simp [Sc.Ao (fun j hj=>AE hj) hs,Sc.Ao (fun j hj=>AE hj) gs,hns,hes,hw]))
        |true=>
         rw [ha,if_pos rfl] at hns hes
         have h16:(D1 R n).length < 16777216:=by omega
         have hr1:=kU hR hok n
         refine CW.vc D7 [0,1,4,5,6,7,8,9,10,11,12,13,17,35,39,44,79,83,123,126,132,140,146,182] (by kernel_rfl) ?_
         (repeat ((try refine Vc.mk' ?_);simp only [go_sem,h.P,h.rd,FM hs,EO hs,E9,D6,qe,hlt2,ha,h16]))
         refine CW.Bc (wz hp top u v R l n) (fun m=>1≤m∧m≤25) (fun m=>25 - m) 1 ⟨Nat.le_refl _,by decide⟩ ?_ ?_
         ·exact (by refine Al.mk' [top+5,top+1,top+2,top+3] hcl (by simp) (by simp) rfl (AF ?_) ?_ ?_ <;> simp [Sc.Ao (fun j hj=>AE hj) hs,Sc.Ao (fun j hj=>AE hj) gs,hns,hr1])
         ·rintro m ⟨hm1,hmm⟩
          have hrl:=RV l n m
          have hrl2:(LH l n m).length≤1200:=by
           have:m * l.length≤25 * 48:=Nat.mul_le_mul hmm hl48
           omega
          by_cases hmt:m < 25
          ·have hmt2:¬(24:Int) < (m:Int):=by omega
           have hmt3:(m:Int)≤24:=by omega
           have hwm:Ad .i64 ((m:Int)+1)=((m+1:Nat):Int):=Ae hmt (by decide)
           have hrs:=OT l n m
           refine CW.vc D7 [0,1,4,5,6,7,8,9,10,11,12,13,17,35,39,44,79,83,123,126,132,140,146,182] (by kernel_rfl) ?_
           (repeat ((try refine Vc.mk' ?_);simp only [go_sem,wz,hmt2]))
           refine CW.Bc (qf hp top u v R l n m) (fun i=>i≤l.length) (fun i=>l.length - i) 0 (Nat.zero_le _) ?_ ?_
           ·have hi0:MN ([] :List AQ) (n:Int) (m:Int)= []:=rfl
            exact (by refine Al.mk' [top,top+1,top+2,top+3] hcl (by simp) (by simp) rfl (AF ?_) ?_ ?_ <;> simp [Sc.Ao (fun j hj=>AE hj) hs,Sc.Ao (fun j hj=>AE hj) gs,hi0,List.take_zero,List.append_nil])
           ·intro i hi
            have hil:=XH (l.take i) (n:Int) (m:Int)
            have hil2:(l.take i).length≤48:=by rw [List.length_take];omega
            by_cases hit:i < l.length
            ·have his:=eY hit (n:Int) (m:Int)
             have h16e:(De R l n ++ LH l n m ++ MN (l.take i) (n:Int) (m:Int)).length < 16777216:=by rw [List.length_append,List.length_append];omega
             have hpb:(decide ((at' l i).A=(n:Int)) && decide ((at' l i).B=(m:Int)) || decide ((at' l i).B=(n:Int)) && decide ((at' l i).A=(m:Int)))=pr (n:Int) (m:Int) (at' l i):=by
              unfold pr;rw [Bool.and_comm (decide ((at' l i).B=(n:Int)))]
             cases hp1:pr (n:Int) (m:Int) (at' l i) with
             |true=>
              rw [hp1,if_pos rfl] at his
              refine CW.vc D7 [0,1,4,5,6,7,8,9,10,11,12,13,17,35,39,44,79,83,123,126,132,140,146,182] (by kernel_rfl) ?_
              (repeat ((try refine Vc.mk' ?_);simp only [go_sem,BH g,BG g,Fj g,Fh g,Fk g,Fi g,Ab gs,qf,hit,hpb,hp1]))
              refine ⟨fun h=>⟨h,fun h2=>⟨h,h2⟩⟩, ?_⟩
              repeat (refine Vc.mk' ?_;(repeat ((try refine Vc.mk' ?_);simp only [go_sem,BG g,ZO g,ZG g,Ab gs,hit,h16e])))
              exact .mk (i+1) hit (by omega) ((by refine Al.mk' [top,top+1,top+2,top+5] hcl (by simp) (by simp) rfl (AF ?_) ?_ ?_ <;> simp [Sc.Ao (fun j hj=>AE hj) hs,Sc.Ao (fun j hj=>AE hj) gs,his,Ae hit g.le,List.append_assoc]))
             |false=>
              rw [hp1,if_neg (by simp),List.append_nil] at his
              refine CW.vc D7 [0,1,4,5,6,7,8,9,10,11,12,13,17,35,39,44,79,83,123,126,132,140,146,182] (by kernel_rfl) ?_
              (repeat ((try refine Vc.mk' ?_);simp only [go_sem,BH g,BG g,Fj g,Fh g,Fk g,Fi g,Ab gs,qf,hit,hpb,hp1]))
              refine ⟨fun h=>⟨h,fun h2=>⟨h,h2⟩⟩, ?_⟩
              repeat (refine Vc.mk' ?_;(repeat ((try refine Vc.mk' ?_);simp only [go_sem])))
              exact .mk (i+1) hit (by omega) ((by refine Al.mk' [top,top+1,top+2,top+3] hcl (by simp) (by simp) rfl (AF ?_) ?_ ?_ <;> simp [Sc.Ao (fun j hj=>AE hj) hs,Sc.Ao (fun j hj=>AE hj) gs,his,Ae hit g.le]))
            ·have hi2:i=l.length:=by omega
             subst hi2
             refine CW.vc D7 [0,1,4,5,6,7,8,9,10,11,12,13,17,35,39,44,79,83,123,126,132,140,146,182] (by kernel_rfl) ?_
             (repeat ((try refine Vc.mk' ?_);simp only [go_sem,BH g,qf,Nat.lt_irrefl,decide_false,List.take_length]))
             exact .mk (m+1) ⟨by omega,hmt⟩ (by omega) ((by refine Al.mk' [top,top+1,top+2,top+3] hcl (by simp) (by simp) rfl (AF ?_) ?_ ?_ <;> simp [Sc.Ao (fun j hj=>AE hj) hs,Sc.Ao (fun j hj=>AE hj) gs,hrs,hwm,List.append_assoc]))
          ·have hm2:m=25:=by omega
           subst hm2
           refine CW.vc D7 [0,1,4,5,6,7,8,9,10,11,12,13,17,35,39,44,79,83,123,126,132,140,146,182] (by kernel_rfl) ?_
           (repeat ((try refine Vc.mk' ?_);simp only [go_sem,wz,Int.cast_ofNat_Int]))
           exact .mk (n+1) ⟨by omega,hlt⟩ (by omega) ((by refine Al.mk' [top,top+1,top+2,top+3] hcl (by simp) (by simp) rfl (AF ?_) ?_ ?_ <;> simp [Sc.Ao (fun j hj=>AE hj) hs,Sc.Ao (fun j hj=>AE hj) gs,hes,hw]))
       ·have hn2:n=25:=by omega
        subst hn2
        refine CW.vc D7 [0,1,4,5,6,7,8,9,10,11,12,13,17,35,39,44,79,83,123,126,132,140,146,182] (by kernel_rfl) ?_
        (repeat ((try refine Vc.mk' ?_);simp only [go_sem,qe,Int.cast_ofNat_Int]))
        (refine ⟨[top,top+3],by simp,by simp,by simp, ?_, ?_, ?_⟩ <;> simp [])
def G16:=BV G15 108 F4
theorem Ou:Bp Tryz.prog tt.get G16:=D7.add wV
end Go.Proofs.YthlhnangbinhoaaGreatDoor.Gr
