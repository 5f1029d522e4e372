/- graph.Of. -/
import Derived.Test.YthlhnangbinhoaaGreatDoorCGP
set_option linter.unusedVariables false
namespace Go.Proofs.YthlhnangbinhoaaGreatDoor.Gr
open Go.Dm Go.Proofs.YthlhnangbinhoaaGreatDoor.Dm
set_option maxHeartbeats 8000000
set_option maxRecDepth 20000
theorem DN:G5 126=F2 BP:=rfl
theorem HN:G5 127=F2 LP:=rfl
theorem yq:G5 128=Z2:=rfl
def GO (R:List Int)(l:List AQ)(top:Nat):Value×A6×Nat:=
 (.tuple ⟨[.agg ⟨[AA top (nO R l),AA (top+1) (eO R l)]⟩, .int .i64 (Ee R l)]⟩, [(top,AD AL (nO R l)),(top+1,AD BC (eO R l))],top+2)
def F4:BE:= .det (fun args hp _=>match args with | [u,v]=>Dy AL hp u∧Dy AP hp v | _=>False) (fun args hp top=>match args with | [u,v]=>GO (AL.rd hp u) (AP.rd hp v) top | _=>(undef, [],top))
theorem Bt {R:List Int}{l:List AQ}{top:Nat}{e:Int}(h:Ee R l=e)(he:e≠0):GO R l top=(.tuple ⟨[.agg ⟨[.slice none 0 0, .slice none 0 0]⟩, .int .i64 e]⟩, [(top,none),(top+1,none)],top+2):=by
 unfold GO nO eO
 rw [h,if_neg he,if_neg he];rfl
theorem XG {R:List Int}{l:List AQ}{top:Nat}(h:Ee R l=0):GO R l top=(.tuple ⟨[.agg ⟨[AA top (D1 R 25),AA (top+1) (De R l 25)]⟩, .int .i64 0]⟩, [(top,AD AL (D1 R 25)),(top+1,AD BC (De R l 25))],top+2):=by
 unfold GO nO eO
 rw [h,if_pos rfl,if_pos rfl]
def fJ (hp:Hp)(top:Nat)(u v:Value)(R:List Int)(k:Nat):SS:=
 ⟨[(1,v,true),(4, .pointer (some ⟨top,0,none⟩),true),(6, .pointer (some ⟨top+1,0,none⟩),true),(7, .pointer (some ⟨top+2,0,none⟩),true),(12,u,true),(13, .int .i64 (R.length:Int),true),(14, .int .i64 (k:Int),true)],
  hp.Ac [(top,some (.cells true 0 [.slice none 0 0, .slice none 0 0])),(top+1,some (.cells true 0 ((sL []).map (Value.int .i64)))),(top+2,some (.cells true 0 ((Wq (R.take k)).map Value.bool)))],top+3⟩
def SV (hp:Hp)(top:Nat)(v:Value)(R:List Int)(l:List AQ)(k:Nat):SS:=
 ⟨[(4, .pointer (some ⟨top,0,none⟩),true),(6, .pointer (some ⟨top+1,0,none⟩),true),(7, .pointer (some ⟨top+2,0,none⟩),true),(34,v,true),(35, .int .i64 (l.length:Int),true),(36, .int .i64 (k:Int),true)],
  hp.Ac [(top,some (.cells true 0 [.slice none 0 0, .slice none 0 0])),(top+1,some (.cells true 0 ((sL (l.take k)).map (Value.int .i64)))),(top+2,some (.cells true 0 ((Wq R).map Value.bool)))],top+3⟩
theorem wb:C3 625 (.int .i64 0)=(sL []).map (Value.int .i64):=by
 rw [XF]
 have:sL [] = List.replicate 625 0:=by decide +kernel
 rw [this]
theorem od:C3 25 (.bool false)=(Wq []).map Value.bool:=by
 rw [Y8]
 have:Wq [] = List.replicate 25 false:=by decide +kernel
 rw [this]
theorem Ud {R:List Int}(l:List AQ)(h:Vh [] R=false):Ee R l=2:=by unfold Ee;rw [if_pos h]
theorem iQ {R:List Int}{l:List AQ}(h:Vh [] R=true)(hl:48 < l.length):Ee R l=3:=by unfold Ee;rw [if_neg (by simp [h]),if_pos hl]
theorem iR {R:List Int}{l:List AQ}(h:Vh [] R=true)(hl:¬48 < l.length):Ee R l=Yi R [] l:=by unfold Ee;rw [if_neg (by simp [h]),if_neg hl]
theorem ABE:Ag Tryz.prog 103 F4:=by
 refine .Eh WW ?_
 intro args hp top hpre hcl hsc
 match args,hpre with
 | [u,v],⟨⟨R,h⟩,⟨l,g⟩⟩=>
 have hs:=h.low hcl
 have gs:=g.low hcl
 simp only [h.rd,g.rd]
 refine AJ.Af Am WW rfl 108 rfl [.cell 4 185, .tmp 5] rfl (show 2≤108 by decide) ?_
 refine CW.vc EG [0,1,4,5,6,7,9,11,12,13,14,15,25,32,34,35,36,37,40,79,1000019] (by kernel_rfl) ?_
 (repeat ((first | refine Vc.mk' ?_ | refine CW.Db EG 19 [0,1,4,5,6,7,9,11,12,13,14,15,25,32,34,35,36,37,40,79,1000019] [(5,14),(7,14),(11,14)] (by kernel_rfl) (by kernel_rfl) ?_ | skip);simp only [go_sem,Ef h,jw,jv]))
 refine CW.Bc (fJ hp top u v R) (fun k=>k≤R.length∧Vh [] R=Vh (R.take k) (R.drop k)) (fun k=>R.length - k) 0 ⟨Nat.zero_le _,rfl⟩ ?_ ?_
 ·exact (by refine Al.mk' [top,top+1,top+2] hcl (by simp) (by simp) rfl (AF ?_) ?_ ?_ <;> simp [Sc.Ao (fun j hj=>AE hj) hs,Sc.Ao (fun j hj=>AE hj) gs,wb,od,Cp])
 ·rintro k ⟨hk,hm⟩
  by_cases hlt:k < R.length
  ·rw [drop_at hlt,Vh] at hm
   generalize hn:at' R k=n at hm
   cases c1:BP n with
   |false=>
    rw [c1,Bool.false_and,Bool.false_and] at hm
    simp only [Bt (Ud l hm) (by decide)]
    refine CW.vc EG [0,1,4,5,6,7,9,11,12,13,14,15,25,32,34,35,36,37,40,79,1000019] (by kernel_rfl) ?_
    (repeat ((first | refine Vc.mk' ?_ | refine CW.Db EG 19 [0,1,4,5,6,7,9,11,12,13,14,15,25,32,34,35,36,37,40,79,1000019] [(5,14),(7,14),(11,14)] (by kernel_rfl) (by kernel_rfl) ?_ | skip);simp only [go_sem,Ct h,Dh h,Ab hs,DN,F2,hlt,fJ,hn,c1]))
    (refine ⟨[top,top+1],by simp,by simp,by simp, ?_, ?_, ?_⟩ <;> simp [])
   |true=>
    have hro:=c1
    simp only [BP,Bool.and_eq_true,decide_eq_true_eq] at hro
    have o0:0≤n:=by omega
    have o1:n < ((25:Nat):Int):=by omega
    have o2:n.toNat < 25:=by omega
    have o5:n.toNat≤24:=by omega
    have o4:((n.toNat:Nat):Int)=n:=by omega
    have hl1:BN tt.get hp 3 (Ah u k)=(.int .i64 n,True):=by have:=Dh h hlt;rw [Nat.mul_one,hn] at this;exact this
    have hil:=Uu (R.take k)
    have hig:=M5 (R.take k) o2
    rw [o4] at hig
    cases c2:(R.take k).any (JX n) with
    |true=>
     rw [c2] at hig
     rw [c2,Bool.not_true,Bool.and_false,Bool.false_and] at hm
     simp only [Bt (Ud l hm) (by decide)]
     refine CW.vc EG [0,1,4,5,6,7,9,11,12,13,14,15,25,32,34,35,36,37,40,79,1000019] (by kernel_rfl) ?_
     (repeat ((first | refine Vc.mk' ?_ | refine CW.Db EG 19 [0,1,4,5,6,7,9,11,12,13,14,15,25,32,34,35,36,37,40,79,1000019] [(5,14),(7,14),(11,14)] (by kernel_rfl) (by kernel_rfl) ?_ | skip);simp only [go_sem,Ct h,Ab hs,DN,F2,hlt,fJ,hl1,c1,o0,o1,o2,hig,hil,DT,Nat.mul_one,List.length_map]))
     (refine ⟨[top,top+1],by simp,by simp,by simp, ?_, ?_, ?_⟩ <;> simp [])
    |false=>
     rw [c2] at hig
     rw [c1,c2,Bool.not_false,Bool.and_self,Bool.true_and] at hm
     have hst:=jJ (done:=R.take k) c1
     rw [←hn,←Bj hlt,hn] at hst
     refine CW.vc EG [0,1,4,5,6,7,9,11,12,13,14,15,25,32,34,35,36,37,40,79,1000019] (by kernel_rfl) ?_
     (repeat ((first | refine Vc.mk' ?_ | refine CW.Db EG 19 [0,1,4,5,6,7,9,11,12,13,14,15,25,32,34,35,36,37,40,79,1000019] [(5,14),(7,14),(11,14)] (by kernel_rfl) (by kernel_rfl) ?_ | skip);simp only [go_sem,Ct h,Ab hs,DN,F2,hlt,fJ,hl1,c1,o0,o1,o2,o5,hig,hil,DT,NX,Nat.mul_one,List.length_map,hst]))
     refine .mk (k+1) ⟨hlt, ?_⟩ (by omega) ((by refine Al.mk' [top,top+1,top+2] hcl (by simp) (by simp) rfl (AF ?_) ?_ ?_ <;> simp [Sc.Ao (fun j hj=>AE hj) hs,Sc.Ao (fun j hj=>AE hj) gs,Cp,Ae hlt h.le]))
     rw [hm,Bj hlt,hn]
  ·have hk2:k=R.length:=by omega
   subst hk2
   have hG:Vh [] R=true:=by rw [hm,List.drop_eq_nil_of_le (Nat.le_refl _)];rfl
   by_cases hl:48 < l.length
   ·have hl2:(48:Int) < (l.length:Int):=by omega
    simp only [Bt (iQ hG hl) (by decide)]
    refine CW.vc EG [0,1,4,5,6,7,9,11,12,13,14,15,25,32,34,35,36,37,40,79,1000019] (by kernel_rfl) ?_
    (repeat ((first | refine Vc.mk' ?_ | refine CW.Db EG 19 [0,1,4,5,6,7,9,11,12,13,14,15,25,32,34,35,36,37,40,79,1000019] [(5,14),(7,14),(11,14)] (by kernel_rfl) (by kernel_rfl) ?_ | skip);simp only [go_sem,BH g,fJ,Nat.lt_irrefl,decide_false,hl2]))
    (refine ⟨[top,top+1],by simp,by simp,by simp, ?_, ?_, ?_⟩ <;> simp [])
   ·have hl2:¬(48:Int) < (l.length:Int):=by omega
    have hE:=iR hG hl
    have hR:=Un R [] hG
    refine CW.vc EG [0,1,4,5,6,7,9,11,12,13,14,15,25,32,34,35,36,37,40,79,1000019] (by kernel_rfl) ?_
    (repeat ((first | refine Vc.mk' ?_ | refine CW.Db EG 19 [0,1,4,5,6,7,9,11,12,13,14,15,25,32,34,35,36,37,40,79,1000019] [(5,14),(7,14),(11,14)] (by kernel_rfl) (by kernel_rfl) ?_ | skip);simp only [go_sem,BH g,fJ,Nat.lt_irrefl,decide_false,hl2]))
    refine CW.Bc (SV hp top v R l) (fun k=>k≤l.length∧Yi R [] l=Yi R (l.take k) (l.drop k)∧∀x∈l.take k,Cc R x=true) (fun k=>l.length - k) 0 ⟨Nat.zero_le _,rfl,by simp⟩ ?_ ?_
    ·exact (by refine Al.mk' [top,top+1,top+2] hcl (by simp) (by simp) rfl (AF ?_) ?_ ?_ <;> simp [Sc.Ao (fun j hj=>AE hj) gs,List.take_length,Cp])
    ·rintro k ⟨hk,hm,hok⟩
     by_cases hlt:k < l.length
     ·rw [drop_at hlt,Yi] at hm
      have bad:Cc R (at' l k)=false→Ee R l=2:=fun e=>by rw [hE,hm,if_pos e]
      have anyF:∀a,BP a=false→R.any (JX a)=false:=fun a ha=>by
       cases h':R.any (JX a) with
       |false=>rfl
       |true=>have:=Lz hR h';rw [ha] at this;cases this
      cases a1:BP (at' l k).A with
      |false=>
       have e:=bad (by simp [Cc,anyF _ a1])
       simp only [Bt e (by decide)]
       refine CW.vc EG [0,1,4,5,6,7,9,11,12,13,14,15,25,32,34,35,36,37,40,79,1000019] (by kernel_rfl) ?_
       (repeat ((first | refine Vc.mk' ?_ | refine CW.Db EG 19 [0,1,4,5,6,7,9,11,12,13,14,15,25,32,34,35,36,37,40,79,1000019] [(5,14),(7,14),(11,14)] (by kernel_rfl) (by kernel_rfl) ?_ | skip);simp only [go_sem,BG g,B4 g,Ab gs,DN,HN,F2,hlt,SV,a1]))
       (refine ⟨[top,top+1],by simp,by simp,by simp, ?_, ?_, ?_⟩ <;> simp [])
      |true=>
      cases b1:BP (at' l k).B with
      |false=>
       have e:=bad (by simp [Cc,anyF _ b1])
       simp only [Bt e (by decide)]
       refine CW.vc EG [0,1,4,5,6,7,9,11,12,13,14,15,25,32,34,35,36,37,40,79,1000019] (by kernel_rfl) ?_
       (repeat ((first | refine Vc.mk' ?_ | refine CW.Db EG 19 [0,1,4,5,6,7,9,11,12,13,14,15,25,32,34,35,36,37,40,79,1000019] [(5,14),(7,14),(11,14)] (by kernel_rfl) (by kernel_rfl) ?_ | skip);simp only [go_sem,BG g,B4 g,Ab gs,DN,HN,F2,hlt,SV,a1,b1]))
       (refine ⟨[top,top+1],by simp,by simp,by simp, ?_, ?_, ?_⟩ <;> simp [])
      |true=>
      have ra:=a1
      have rb:=b1
      simp only [BP,Bool.and_eq_true,decide_eq_true_eq] at ra rb
      have o0:0≤(at' l k).A:=by omega
      have o1:(at' l k).A < ((25:Nat):Int):=by omega
      have o2:(at' l k).A.toNat < 25:=by omega
      have o5:(at' l k).A.toNat≤24:=by omega
      have o4:(((at' l k).A.toNat:Nat):Int)=(at' l k).A:=by omega
      have q0:0≤(at' l k).B:=by omega
      have q1:(at' l k).B < ((25:Nat):Int):=by omega
      have q2:(at' l k).B.toNat < 25:=by omega
      have q5:(at' l k).B.toNat≤24:=by omega
      have q4:(((at' l k).B.toNat:Nat):Int)=(at' l k).B:=by omega
      have hil:=Uu R
      have hia:=M5 R o2
      have hib:=M5 R q2
      rw [o4] at hia
      rw [q4] at hib
      have hsl:=kZ (l.take k)
      have hv:=ZE (l.take k) o2 q2
      rw [o4,q4] at hv
      have t1:(at' l k).A.toNat * 25+(at' l k).B.toNat < 625:=by omega
      have t2:(at' l k).B.toNat * 25+(at' l k).A.toNat < 625:=by omega
      have t3:(at' l k).A.toNat * 25+(at' l k).B.toNat≤624:=by omega
      have t4:(at' l k).B.toNat * 25+(at' l k).A.toNat≤624:=by omega
      have t5:(at' l k).A.toNat * 25+((at' l k).B.toNat+1)≤625:=by omega
      have t6:(at' l k).B.toNat * 25+((at' l k).A.toNat+1)≤625:=by omega
      cases a2:R.any (JX (at' l k).A) with
      |false=>
       have e:=bad (by simp [Cc,a2])
       rw [a2] at hia
       simp only [Bt e (by decide)]
       refine CW.vc EG [0,1,4,5,6,7,9,11,12,13,14,15,25,32,34,35,36,37,40,79,1000019] (by kernel_rfl) ?_
       (repeat ((first | refine Vc.mk' ?_ | refine CW.Db EG 19 [0,1,4,5,6,7,9,11,12,13,14,15,25,32,34,35,36,37,40,79,1000019] [(5,14),(7,14),(11,14)] (by kernel_rfl) (by kernel_rfl) ?_ | skip);simp only [go_sem,BG g,B4 g,Ab gs,DN,HN,F2,hlt,SV,a1,b1,o0,o1,o2,q0,q1,q2,hil,hia,hib,DT,Nat.mul_one,List.length_map]))
       (refine ⟨[top,top+1],by simp,by simp,by simp, ?_, ?_, ?_⟩ <;> simp [])
      |true=>
      rw [a2] at hia
      cases b2:R.any (JX (at' l k).B) with
      |false=>
       have e:=bad (by simp [Cc,b2])
       rw [b2] at hib
       simp only [Bt e (by decide)]
       refine CW.vc EG [0,1,4,5,6,7,9,11,12,13,14,15,25,32,34,35,36,37,40,79,1000019] (by kernel_rfl) ?_
       (repeat ((first | refine Vc.mk' ?_ | refine CW.Db EG 19 [0,1,4,5,6,7,9,11,12,13,14,15,25,32,34,35,36,37,40,79,1000019] [(5,14),(7,14),(11,14)] (by kernel_rfl) (by kernel_rfl) ?_ | skip);simp only [go_sem,BG g,B4 g,Ab gs,DN,HN,F2,hlt,SV,a1,b1,o0,o1,o2,q0,q1,q2,hil,hia,hib,DT,Nat.mul_one,List.length_map]))
       (refine ⟨[top,top+1],by simp,by simp,by simp, ?_, ?_, ?_⟩ <;> simp [])
      |true=>
      rw [b2] at hib
      by_cases ab:(at' l k).A=(at' l k).B
      ·have e:=bad (by simp [Cc,ab])
       simp only [Bt e (by decide)]
       refine CW.vc EG [0,1,4,5,6,7,9,11,12,13,14,15,25,32,34,35,36,37,40,79,1000019] (by kernel_rfl) ?_
       (repeat ((first | refine Vc.mk' ?_ | refine CW.Db EG 19 [0,1,4,5,6,7,9,11,12,13,14,15,25,32,34,35,36,37,40,79,1000019] [(5,14),(7,14),(11,14)] (by kernel_rfl) (by kernel_rfl) ?_ | skip);simp only [go_sem,BG g,B4 g,Ab gs,DN,HN,F2,hlt,SV,b1,q0,q1,q2,hil,hib,DT,Nat.mul_one,List.length_map,ab]))
       (refine ⟨[top,top+1],by simp,by simp,by simp, ?_, ?_, ?_⟩ <;> simp [])
      cases c3:LP (at' l k).Dx with
      |false=>
       have e:=bad (by simp [Cc,c3])
       simp only [Bt e (by decide)]
       refine CW.vc EG [0,1,4,5,6,7,9,11,12,13,14,15,25,32,34,35,36,37,40,79,1000019] (by kernel_rfl) ?_
       (repeat ((first | refine Vc.mk' ?_ | refine CW.Db EG 19 [0,1,4,5,6,7,9,11,12,13,14,15,25,32,34,35,36,37,40,79,1000019] [(5,14),(7,14),(11,14)] (by kernel_rfl) (by kernel_rfl) ?_ | skip);simp only [go_sem,BG g,B4 g,Ab gs,DN,HN,F2,hlt,SV,a1,b1,o0,o1,o2,q0,q1,q2,hil,hia,hib,DT,Nat.mul_one,List.length_map,ab,c3]))
       (refine ⟨[top,top+1],by simp,by simp,by simp, ?_, ?_, ?_⟩ <;> simp [])
      |true=>
      have hlk:Cc R (at' l k)=true:=by simp [Cc,a2,b2,ab,c3]
      rw [if_neg (by simp [hlk])] at hm
      have hpos:=OG hok (at' l k).A (at' l k).B
      cases p:(l.take k).any (pr (at' l k).A (at' l k).B) with
      |true=>
       have hp:=hpos.2 p
       rw [if_pos p] at hm
       have e:Ee R l=7:=by rw [hE,hm]
       simp only [Bt e (by decide)]
       refine CW.vc EG [0,1,4,5,6,7,9,11,12,13,14,15,25,32,34,35,36,37,40,79,1000019] (by kernel_rfl) ?_
       (repeat ((first | refine Vc.mk' ?_ | refine CW.Db EG 19 [0,1,4,5,6,7,9,11,12,13,14,15,25,32,34,35,36,37,40,79,1000019] [(5,14),(7,14),(11,14)] (by kernel_rfl) (by kernel_rfl) ?_ | skip);simp only [go_sem,BG g,B4 g,Ab gs,DN,HN,F2,hlt,SV,a1,b1,o0,o1,o2,q0,q1,q2,hil,hia,hib,hsl,DT,J7,Nat.mul_one,List.length_map,ab,c3,t1,hv,hp]))
       (refine ⟨[top,top+1],by simp,by simp,by simp, ?_, ?_, ?_⟩ <;> simp [])
      |false=>
       have hp:¬0 < C6 (l.take k) (at' l k).A (at' l k).B:=fun e=>by rw [hpos.1 e] at p;cases p
       rw [if_neg (by simp [p])] at hm
       have hss:=qG a1 b1 p
       rw [←Bj hlt] at hss hm
       refine CW.vc EG [0,1,4,5,6,7,9,11,12,13,14,15,25,32,34,35,36,37,40,79,1000019] (by kernel_rfl) ?_
       (repeat ((first | refine Vc.mk' ?_ | refine CW.Db EG 19 [0,1,4,5,6,7,9,11,12,13,14,15,25,32,34,35,36,37,40,79,1000019] [(5,14),(7,14),(11,14)] (by kernel_rfl) (by kernel_rfl) ?_ | skip);simp only [go_sem,BG g,B4 g,Ab gs,DN,HN,F2,hlt,SV,a1,b1,o0,o1,o2,q0,q1,q2,hil,hia,hib,hsl,DT,J7,Nat.mul_one,List.length_map,ab,c3,t1,t2,t5,t6,hv,hp,List.length_set,XX,hss]))
       refine .mk (k+1) ⟨hlt,hm, ?_⟩ (by omega) ((by refine Al.mk' [top,top+1,top+2] hcl (by simp) (by simp) rfl (AF ?_) ?_ ?_ <;> simp [Sc.Ao (fun j hj=>AE hj) gs,Cp,Ae hlt g.le]))
       intro y hy
       rw [Bj hlt] at hy
       rcases List.mem_append.1 hy with hy | hy
       ·exact hok y hy
       ·rw [List.mem_singleton.1 hy];exact hlk
     ·have hk2:k=l.length:=by omega
      subst hk2
      have htl:l.take l.length=l:=List.take_length
      have hz:Yi R [] l=0:=by rw [hm,List.drop_eq_nil_of_le (Nat.le_refl _)];rfl
      have hsl:=kZ l
      have hil:=Uu R
      have hb25:List.take 25 ((Wq R).map Value.bool)=(Wq R).map Value.bool:=Nb hil
      have e:Ee R l=0:=by rw [hE,hz]
      have hEd:=iE (dj hz)
      have hNd:=jr R
      simp only [XG e]
      refine CW.vc EG [0,1,4,5,6,7,9,11,12,13,14,15,25,32,34,35,36,37,40,79,1000019] (by kernel_rfl) ?_
      (repeat ((first | refine Vc.mk' ?_ | refine CW.Db EG 19 [0,1,4,5,6,7,9,11,12,13,14,15,25,32,34,35,36,37,40,79,1000019] [(5,14),(7,14),(11,14)] (by kernel_rfl) (by kernel_rfl) ?_ | skip);simp only [go_sem,yq,Z2,SV,Nat.lt_irrefl,decide_false,htl,hsl,hil,hb25,qS,qR,dt,QT,List.length_map,wL,hEd,hNd]))
      (refine ⟨[top+3,top+4],by simp,by simp,by simp, ?_, ?_, ?_⟩ <;> simp [])
end Go.Proofs.YthlhnangbinhoaaGreatDoor.Gr
