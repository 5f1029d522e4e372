/- graph.Of. -/
import Derived.Test.YthlhnangbinhoaaGreatDoorCGP
set_option linter.unusedVariables false
namespace Go.Proofs.YthlhnangbinhoaaGreatDoor.Gr
open Go.Dm Go.Proofs.YthlhnangbinhoaaGreatDoor.Dm
set_option maxHeartbeats 8000000
set_option maxRecDepth 20000
theorem Db:G5 126=Jg CM:=rfl
theorem Hj:G5 127=Jg QR:=rfl
theorem ACf:G5 128=bO:=rfl
def J2 (R:List Int)(l:List Ak)(top:Nat):Value×BI×Nat:=
 (.tuple ⟨[.agg ⟨[AA top (nO R l),AA (top+1) (eO R l)]⟩, .int .i64 (Gs R l)]⟩, [(top,AD AY (nO R l)),(top+1,AD BT (eO R l))],top+2)
def Mj:Bb:= .det (fun args hp _=>match args with | [u,v]=>GQ AY hp u∧GQ Ad hp v | _=>False) (fun args hp top=>match args with | [u,v]=>J2 (AY.rd hp u) (Ad.rd hp v) top | _=>(undef, [],top))
theorem D1 {R:List Int}{l:List Ak}{top:Nat}{e:Int}(h:Gs R l=e)(he:e≠0):J2 R l top=(.tuple ⟨[.agg ⟨[.slice none 0 0, .slice none 0 0]⟩, .int .i64 e]⟩, [(top,none),(top+1,none)],top+2):=by
 unfold J2 nO eO
 rw [h,if_neg he,if_neg he];rfl
theorem fQ {R:List Int}{l:List Ak}{top:Nat}(h:Gs R l=0):J2 R l top=(.tuple ⟨[.agg ⟨[AA top (QC R 25),AA (top+1) (P7 R l 25)]⟩, .int .i64 0]⟩, [(top,AD AY (QC R 25)),(top+1,AD BT (P7 R l 25))],top+2):=by
 unfold J2 nO eO
 rw [h,if_pos rfl,if_pos rfl]
def dz (hp:Hp)(top:Nat)(u v:Value)(R:List Int)(k:Nat):SS:=
 ⟨[(1,v,true),(4, .pointer (some ⟨top,0,none⟩),true),(6, .pointer (some ⟨top+1,0,none⟩),true),(7, .pointer (some ⟨top+2,0,none⟩),true),(12,u,true),(13, .int .i64 (R.length:Int),true),(14, .int .i64 (k:Int),true)],
  hp.Av [(top,some (.cells true 0 [.slice none 0 0, .slice none 0 0])),(top+1,some (.cells true 0 ((sL []).map (Value.int .i64)))),(top+2,some (.cells true 0 ((V7 (R.take k)).map Value.bool)))],top+3⟩
def R9 (hp:Hp)(top:Nat)(v:Value)(R:List Int)(l:List Ak)(k:Nat):SS:=
 ⟨[(4, .pointer (some ⟨top,0,none⟩),true),(6, .pointer (some ⟨top+1,0,none⟩),true),(7, .pointer (some ⟨top+2,0,none⟩),true),(34,v,true),(35, .int .i64 (l.length:Int),true),(36, .int .i64 (k:Int),true)],
  hp.Av [(top,some (.cells true 0 [.slice none 0 0, .slice none 0 0])),(top+1,some (.cells true 0 ((sL (l.take k)).map (Value.int .i64)))),(top+2,some (.cells true 0 ((V7 R).map Value.bool)))],top+3⟩
theorem ua:DV 625 (.int .i64 0)=(sL []).map (Value.int .i64):=by
 rw [WW]
 have:sL [] = List.replicate 625 0:=by decide +kernel
 rw [this]
theorem oD:DV 25 (.bool false)=(V7 []).map Value.bool:=by
 rw [ZI]
 have:V7 [] = List.replicate 25 false:=by decide +kernel
 rw [this]
theorem fb {R:List Int}(l:List Ak)(h:aG [] R=false):Gs R l=2:=by unfold Gs;rw [if_pos h]
theorem ux {R:List Int}{l:List Ak}(h:aG [] R=true)(hl:48 < l.length):Gs R l=3:=by unfold Gs;rw [if_neg (by simp [h]),if_pos hl]
theorem vp {R:List Int}{l:List Ak}(h:aG [] R=true)(hl:¬48 < l.length):Gs R l=mq R [] l:=by unfold Gs;rw [if_neg (by simp [h]),if_neg hl]
theorem AAz:A0 Tryz.prog 103 Mj:=by
 refine .Hq QJ ?_
 intro args hp top hpre hcl hsc
 match args,hpre with
 | [u,v],⟨⟨R,h⟩,⟨l,g⟩⟩=>
 have hs:=h.low hcl
 have gs:=g.low hcl
 simp only [h.rd,g.rd]
 refine AR.A5 BA QJ rfl 108 rfl [.cell 4 185, .tmp 5] rfl (show 2≤108 by decide) ?_
 refine CW.vc FJ [0,1,4,5,6,7,9,11,12,13,14,15,25,32,34,35,36,37,40,79,1000019] (by kernel_rfl) ?_
 (repeat ((first | refine Vc.mk' ?_ | refine CW.Ei FJ 19 [0,1,4,5,6,7,9,11,12,13,14,15,25,32,34,35,36,37,40,79,1000019] [(5,14),(7,14),(11,14)] (by kernel_rfl) (by kernel_rfl) ?_ | skip);simp only [go_sem,Xb h,mZ,gk]))
 refine CW.DC (dz hp top u v R) (fun k=>k≤R.length∧aG [] R=aG (R.take k) (R.drop k)) (fun k=>R.length - k) 0 ⟨Nat.zero_le _,rfl⟩ ?_ ?_
 ·exact (by refine BR.mk' [top,top+1,top+2] hcl (by simp) (by simp) rfl (AU ?_) ?_ ?_ <;> simp [Sc.Az (fun j hj=>AB hj) hs,Sc.Az (fun j hj=>AB hj) gs,ua,oD,Cs])
 ·rintro k ⟨hk,hm⟩
  by_cases hlt:k < R.length
  ·rw [drop_at hlt,aG] at hm
   generalize hn:at' R k=n at hm
   cases c1:CM n with
   |false=>
    rw [c1,Bool.false_and,Bool.false_and] at hm
    simp only [D1 (fb l hm) (by decide)]
    refine CW.vc FJ [0,1,4,5,6,7,9,11,12,13,14,15,25,32,34,35,36,37,40,79,1000019] (by kernel_rfl) ?_
    (repeat ((first | refine Vc.mk' ?_ | refine CW.Ei FJ 19 [0,1,4,5,6,7,9,11,12,13,14,15,25,32,34,35,36,37,40,79,1000019] [(5,14),(7,14),(11,14)] (by kernel_rfl) (by kernel_rfl) ?_ | skip);simp only [go_sem,Ib h,M6 h,Bh hs,Db,Jg,hlt,dz,hn,c1]))
    (refine ⟨[top,top+1],by simp,by simp,by simp, ?_, ?_, ?_⟩ <;> simp [])
   |true=>
    have hro:=c1
    simp only [CM,Bool.and_eq_true,decide_eq_true_eq] at hro
    have o0:0≤n:=by omega
    have o1:n < ((25:Nat):Int):=by omega
    have o2:n.toNat < 25:=by omega
    have o5:n.toNat≤24:=by omega
    have o4:((n.toNat:Nat):Int)=n:=by omega
    have hl1:A4 tt.get hp 3 (Ag u k)=(.int .i64 n,True):=by have:=M6 h hlt;rw [Nat.mul_one,hn] at this;exact this
    have hil:=UT (R.take k)
    have hig:=Mu (R.take k) o2
    rw [o4] at hig
    cases c2:(R.take k).any (SC n) with
    |true=>
     rw [c2] at hig
     rw [c2,Bool.not_true,Bool.and_false,Bool.false_and] at hm
     simp only [D1 (fb l hm) (by decide)]
     refine CW.vc FJ [0,1,4,5,6,7,9,11,12,13,14,15,25,32,34,35,36,37,40,79,1000019] (by kernel_rfl) ?_
     (repeat ((first | refine Vc.mk' ?_ | refine CW.Ei FJ 19 [0,1,4,5,6,7,9,11,12,13,14,15,25,32,34,35,36,37,40,79,1000019] [(5,14),(7,14),(11,14)] (by kernel_rfl) (by kernel_rfl) ?_ | skip);simp only [go_sem,Ib h,Bh hs,Db,Jg,hlt,dz,hl1,c1,o0,o1,o2,hig,hil,DU,Nat.mul_one,List.length_map]))
     (refine ⟨[top,top+1],by simp,by simp,by simp, ?_, ?_, ?_⟩ <;> simp [])
    |false=>
     rw [c2] at hig
     rw [c1,c2,Bool.not_false,Bool.and_self,Bool.true_and] at hm
     have hst:=lg (done:=R.take k) c1
     rw [←hn,←DN hlt,hn] at hst
     refine CW.vc FJ [0,1,4,5,6,7,9,11,12,13,14,15,25,32,34,35,36,37,40,79,1000019] (by kernel_rfl) ?_
     (repeat ((first | refine Vc.mk' ?_ | refine CW.Ei FJ 19 [0,1,4,5,6,7,9,11,12,13,14,15,25,32,34,35,36,37,40,79,1000019] [(5,14),(7,14),(11,14)] (by kernel_rfl) (by kernel_rfl) ?_ | skip);simp only [go_sem,Ib h,Bh hs,Db,Jg,hlt,dz,hl1,c1,o0,o1,o2,o5,hig,hil,DU,NV,Nat.mul_one,List.length_map,hst]))
     refine .mk (k+1) ⟨hlt, ?_⟩ (by omega) ((by refine BR.mk' [top,top+1,top+2] hcl (by simp) (by simp) rfl (AU ?_) ?_ ?_ <;> simp [Sc.Az (fun j hj=>AB hj) hs,Sc.Az (fun j hj=>AB hj) gs,Cs,Bf hlt h.le]))
     rw [hm,DN hlt,hn]
  ·have hk2:k=R.length:=by omega
   subst hk2
   have hG:aG [] R=true:=by rw [hm,List.drop_eq_nil_of_le (Nat.le_refl _)];rfl
   by_cases hl:48 < l.length
   ·have hl2:(48:Int) < (l.length:Int):=by omega
    simp only [D1 (ux hG hl) (by decide)]
    refine CW.vc FJ [0,1,4,5,6,7,9,11,12,13,14,15,25,32,34,35,36,37,40,79,1000019] (by kernel_rfl) ?_
    (repeat ((first | refine Vc.mk' ?_ | refine CW.Ei FJ 19 [0,1,4,5,6,7,9,11,12,13,14,15,25,32,34,35,36,37,40,79,1000019] [(5,14),(7,14),(11,14)] (by kernel_rfl) (by kernel_rfl) ?_ | skip);simp only [go_sem,G4 g,dz,Nat.lt_irrefl,decide_false,hl2]))
    (refine ⟨[top,top+1],by simp,by simp,by simp, ?_, ?_, ?_⟩ <;> simp [])
   ·have hl2:¬(48:Int) < (l.length:Int):=by omega
    have hE:=vp hG hl
    have hR:=ZO R [] hG
    refine CW.vc FJ [0,1,4,5,6,7,9,11,12,13,14,15,25,32,34,35,36,37,40,79,1000019] (by kernel_rfl) ?_
    (repeat ((first | refine Vc.mk' ?_ | refine CW.Ei FJ 19 [0,1,4,5,6,7,9,11,12,13,14,15,25,32,34,35,36,37,40,79,1000019] [(5,14),(7,14),(11,14)] (by kernel_rfl) (by kernel_rfl) ?_ | skip);simp only [go_sem,G4 g,dz,Nat.lt_irrefl,decide_false,hl2]))
    refine CW.DC (R9 hp top v R l) (fun k=>k≤l.length∧mq R [] l=mq R (l.take k) (l.drop k)∧∀x∈l.take k,E8 R x=true) (fun k=>l.length - k) 0 ⟨Nat.zero_le _,rfl,by simp⟩ ?_ ?_
    ·exact (by refine BR.mk' [top,top+1,top+2] hcl (by simp) (by simp) rfl (AU ?_) ?_ ?_ <;> simp [Sc.Az (fun j hj=>AB hj) gs,List.take_length,Cs])
    ·rintro k ⟨hk,hm,hok⟩
     by_cases hlt:k < l.length
     ·rw [drop_at hlt,mq] at hm
      have bad:E8 R (at' l k)=false→Gs R l=2:=fun e=>by rw [hE,hm,if_pos e]
      have anyF:∀a,CM a=false→R.any (SC a)=false:=fun a ha=>by
       cases h':R.any (SC a) with
       |false=>rfl
       |true=>have:=Yn hR h';rw [ha] at this;cases this
      cases a1:CM (at' l k).A with
      |false=>
       have e:=bad (by simp [E8,anyF _ a1])
       simp only [D1 e (by decide)]
       refine CW.vc FJ [0,1,4,5,6,7,9,11,12,13,14,15,25,32,34,35,36,37,40,79,1000019] (by kernel_rfl) ?_
       (repeat ((first | refine Vc.mk' ?_ | refine CW.Ei FJ 19 [0,1,4,5,6,7,9,11,12,13,14,15,25,32,34,35,36,37,40,79,1000019] [(5,14),(7,14),(11,14)] (by kernel_rfl) (by kernel_rfl) ?_ | skip);simp only [go_sem,C1 g,DY g,Bh gs,Db,Hj,Jg,hlt,R9,a1]))
       (refine ⟨[top,top+1],by simp,by simp,by simp, ?_, ?_, ?_⟩ <;> simp [])
      |true=>
      cases b1:CM (at' l k).B with
      |false=>
       have e:=bad (by simp [E8,anyF _ b1])
       simp only [D1 e (by decide)]
       refine CW.vc FJ [0,1,4,5,6,7,9,11,12,13,14,15,25,32,34,35,36,37,40,79,1000019] (by kernel_rfl) ?_
       (repeat ((first | refine Vc.mk' ?_ | refine CW.Ei FJ 19 [0,1,4,5,6,7,9,11,12,13,14,15,25,32,34,35,36,37,40,79,1000019] [(5,14),(7,14),(11,14)] (by kernel_rfl) (by kernel_rfl) ?_ | skip);simp only [go_sem,C1 g,DY g,Bh gs,Db,Hj,Jg,hlt,R9,a1,b1]))
       (refine ⟨[top,top+1],by simp,by simp,by simp, ?_, ?_, ?_⟩ <;> simp [])
      |true=>
      have ra:=a1
      have rb:=b1
      simp only [CM,Bool.and_eq_true,decide_eq_true_eq] at ra rb
      have o0:0≤(at' l k).A:=by omega
      have o1:(at' l k).A < ((25:Nat):Int):=by omega
      have o2:(at' l k).A.toNat < 25:=by omega
      have o5:(at' l k).A.toNat≤24:=by omega
      have o4:(((at' l k).A.toNat:Nat):Int)=(at' l k).A:=by omega
      have q0:0≤(at' l k).B:=by omega
      have q1:(at' l k).B < ((25:Nat):Int):=by omega
      have q2:(at' l k).B.toNat < 25:=by omega
      have q5:(at' l k).B.toNat≤24:=by omega
      have q4:(((at' l k).B.toNat:Nat):Int)=(at' l k).B:=by omega
      have hil:=UT R
      have hia:=Mu R o2
      have hib:=Mu R q2
      rw [o4] at hia
      rw [q4] at hib
      have hsl:=kV (l.take k)
      have hv:=YI (l.take k) o2 q2
      rw [o4,q4] at hv
      have t1:(at' l k).A.toNat * 25+(at' l k).B.toNat < 625:=by omega
      have t2:(at' l k).B.toNat * 25+(at' l k).A.toNat < 625:=by omega
      have t3:(at' l k).A.toNat * 25+(at' l k).B.toNat≤624:=by omega
      have t4:(at' l k).B.toNat * 25+(at' l k).A.toNat≤624:=by omega
      have t5:(at' l k).A.toNat * 25+((at' l k).B.toNat+1)≤625:=by omega
      have t6:(at' l k).B.toNat * 25+((at' l k).A.toNat+1)≤625:=by omega
      cases a2:R.any (SC (at' l k).A) with
      |false=>
       have e:=bad (by simp [E8,a2])
       rw [a2] at hia
       simp only [D1 e (by decide)]
       refine CW.vc FJ [0,1,4,5,6,7,9,11,12,13,14,15,25,32,34,35,36,37,40,79,1000019] (by kernel_rfl) ?_
       (repeat ((first | refine Vc.mk' ?_ | refine CW.Ei FJ 19 [0,1,4,5,6,7,9,11,12,13,14,15,25,32,34,35,36,37,40,79,1000019] [(5,14),(7,14),(11,14)] (by kernel_rfl) (by kernel_rfl) ?_ | skip);simp only [go_sem,C1 g,DY g,Bh gs,Db,Hj,Jg,hlt,R9,a1,b1,o0,o1,o2,q0,q1,q2,hil,hia,hib,DU,Nat.mul_one,List.length_map]))
       (refine ⟨[top,top+1],by simp,by simp,by simp, ?_, ?_, ?_⟩ <;> simp [])
      |true=>
      rw [a2] at hia
      cases b2:R.any (SC (at' l k).B) with
      |false=>
       have e:=bad (by simp [E8,b2])
       rw [b2] at hib
       simp only [D1 e (by decide)]
       refine CW.vc FJ [0,1,4,5,6,7,9,11,12,13,14,15,25,32,34,35,36,37,40,79,1000019] (by kernel_rfl) ?_
       (repeat ((first | refine Vc.mk' ?_ | refine CW.Ei FJ 19 [0,1,4,5,6,7,9,11,12,13,14,15,25,32,34,35,36,37,40,79,1000019] [(5,14),(7,14),(11,14)] (by kernel_rfl) (by kernel_rfl) ?_ | skip);simp only [go_sem,C1 g,DY g,Bh gs,Db,Hj,Jg,hlt,R9,a1,b1,o0,o1,o2,q0,q1,q2,hil,hia,hib,DU,Nat.mul_one,List.length_map]))
       (refine ⟨[top,top+1],by simp,by simp,by simp, ?_, ?_, ?_⟩ <;> simp [])
      |true=>
      rw [b2] at hib
      by_cases ab:(at' l k).A=(at' l k).B
      ·have e:=bad (by simp [E8,ab])
       simp only [D1 e (by decide)]
       refine CW.vc FJ [0,1,4,5,6,7,9,11,12,13,14,15,25,32,34,35,36,37,40,79,1000019] (by kernel_rfl) ?_
       (repeat ((first | refine Vc.mk' ?_ | refine CW.Ei FJ 19 [0,1,4,5,6,7,9,11,12,13,14,15,25,32,34,35,36,37,40,79,1000019] [(5,14),(7,14),(11,14)] (by kernel_rfl) (by kernel_rfl) ?_ | skip);simp only [go_sem,C1 g,DY g,Bh gs,Db,Hj,Jg,hlt,R9,b1,q0,q1,q2,hil,hib,DU,Nat.mul_one,List.length_map,ab]))
       (refine ⟨[top,top+1],by simp,by simp,by simp, ?_, ?_, ?_⟩ <;> simp [])
      cases c3:QR (at' l k).EB with
      |false=>
       have e:=bad (by simp [E8,c3])
       simp only [D1 e (by decide)]
       refine CW.vc FJ [0,1,4,5,6,7,9,11,12,13,14,15,25,32,34,35,36,37,40,79,1000019] (by kernel_rfl) ?_
       (repeat ((first | refine Vc.mk' ?_ | refine CW.Ei FJ 19 [0,1,4,5,6,7,9,11,12,13,14,15,25,32,34,35,36,37,40,79,1000019] [(5,14),(7,14),(11,14)] (by kernel_rfl) (by kernel_rfl) ?_ | skip);simp only [go_sem,C1 g,DY g,Bh gs,Db,Hj,Jg,hlt,R9,a1,b1,o0,o1,o2,q0,q1,q2,hil,hia,hib,DU,Nat.mul_one,List.length_map,ab,c3]))
       (refine ⟨[top,top+1],by simp,by simp,by simp, ?_, ?_, ?_⟩ <;> simp [])
      |true=>
      have hlk:E8 R (at' l k)=true:=by simp [E8,a2,b2,ab,c3]
      rw [if_neg (by simp [hlk])] at hm
      have hpos:=OX hok (at' l k).A (at' l k).B
      cases p:(l.take k).any (pr (at' l k).A (at' l k).B) with
      |true=>
       have hp:=hpos.2 p
       rw [if_pos p] at hm
       have e:Gs R l=7:=by rw [hE,hm]
       simp only [D1 e (by decide)]
       refine CW.vc FJ [0,1,4,5,6,7,9,11,12,13,14,15,25,32,34,35,36,37,40,79,1000019] (by kernel_rfl) ?_
       (repeat ((first | refine Vc.mk' ?_ | refine CW.Ei FJ 19 [0,1,4,5,6,7,9,11,12,13,14,15,25,32,34,35,36,37,40,79,1000019] [(5,14),(7,14),(11,14)] (by kernel_rfl) (by kernel_rfl) ?_ | skip);simp only [go_sem,C1 g,DY g,Bh gs,Db,Hj,Jg,hlt,R9,a1,b1,o0,o1,o2,q0,q1,q2,hil,hia,hib,hsl,DU,Kq,Nat.mul_one,List.length_map,ab,c3,t1,hv,hp]))
       (refine ⟨[top,top+1],by simp,by simp,by simp, ?_, ?_, ?_⟩ <;> simp [])
      |false=>
       have hp:¬0 < DB (l.take k) (at' l k).A (at' l k).B:=fun e=>by rw [hpos.1 e] at p;cases p
       rw [if_neg (by simp [p])] at hm
       have hss:=qn a1 b1 p
       rw [←DN hlt] at hss hm
       refine CW.vc FJ [0,1,4,5,6,7,9,11,12,13,14,15,25,32,34,35,36,37,40,79,1000019] (by kernel_rfl) ?_
       (repeat ((first | refine Vc.mk' ?_ | refine CW.Ei FJ 19 [0,1,4,5,6,7,9,11,12,13,14,15,25,32,34,35,36,37,40,79,1000019] [(5,14),(7,14),(11,14)] (by kernel_rfl) (by kernel_rfl) ?_ | skip);simp only [go_sem,C1 g,DY g,Bh gs,Db,Hj,Jg,hlt,R9,a1,b1,o0,o1,o2,q0,q1,q2,hil,hia,hib,hsl,DU,Kq,Nat.mul_one,List.length_map,ab,c3,t1,t2,t5,t6,hv,hp,List.length_set,Wd,hss]))
       refine .mk (k+1) ⟨hlt,hm, ?_⟩ (by omega) ((by refine BR.mk' [top,top+1,top+2] hcl (by simp) (by simp) rfl (AU ?_) ?_ ?_ <;> simp [Sc.Az (fun j hj=>AB hj) gs,Cs,Bf hlt g.le]))
       intro y hy
       rw [DN hlt] at hy
       rcases List.mem_append.1 hy with hy | hy
       ·exact hok y hy
       ·rw [List.mem_singleton.1 hy];exact hlk
     ·have hk2:k=l.length:=by omega
      subst hk2
      have htl:l.take l.length=l:=List.take_length
      have hz:mq R [] l=0:=by rw [hm,List.drop_eq_nil_of_le (Nat.le_refl _)];rfl
      have hsl:=kV l
      have hil:=UT R
      have hb25:List.take 25 ((V7 R).map Value.bool)=(V7 R).map Value.bool:=NB hil
      have e:Gs R l=0:=by rw [hE,hz]
      have hEd:=ed (eC hz)
      have hNd:=iY R
      simp only [fQ e]
      refine CW.vc FJ [0,1,4,5,6,7,9,11,12,13,14,15,25,32,34,35,36,37,40,79,1000019] (by kernel_rfl) ?_
      (repeat ((first | refine Vc.mk' ?_ | refine CW.Ei FJ 19 [0,1,4,5,6,7,9,11,12,13,14,15,25,32,34,35,36,37,40,79,1000019] [(5,14),(7,14),(11,14)] (by kernel_rfl) (by kernel_rfl) ?_ | skip);simp only [go_sem,ACf,bO,R9,Nat.lt_irrefl,decide_false,htl,hsl,hil,hb25,qX,nx,cP,Rf,List.length_map,xm,hEd,hNd]))
      (refine ⟨[top+3,top+4],by simp,by simp,by simp, ?_, ?_, ?_⟩ <;> simp [])
end Go.Proofs.YthlhnangbinhoaaGreatDoor.Gr
