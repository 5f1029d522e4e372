/- graph.Of. -/
import Derived.Test.YthlhnangbinhoaaGreatDoorCGP
set_option linter.unusedSimpArgs false
set_option linter.unusedVariables false
namespace Go.Proofs.YthlhnangbinhoaaGreatDoor.Gr
open Go.Dm Go.Proofs.YthlhnangbinhoaaGreatDoor.Dm
set_option maxHeartbeats 8000000
set_option maxRecDepth 20000
theorem Cw:G5 126=Ir Ci:=rfl
theorem EX:G5 127=Ir RL:=rfl
theorem Iv:G5 128=HB:=rfl
def Il (R:List Int)(l:List Ap)(top:Nat):Value×BV×Nat:=
 (.tuple ⟨[.agg ⟨[AA top (nO R l),AA (top+1) (eO R l)]⟩, .int .i64 (IC R l)]⟩, [(top,AE Ad (nO R l)),(top+1,AE Bh (eO R l))],top+2)
def E3:Bz:= .det (fun args hp _=>match args with | [u,v]=>G6 Ad hp u∧G6 Af hp v | _=>False) (fun args hp top=>match args with | [u,v]=>Il (Ad.rd hp u) (Af.rd hp v) top | _=>(undef, [],top))
theorem El {R:List Int}{l:List Ap}{top:Nat}{e:Int}(h:IC R l=e)(he:e≠0):Il R l top=(.tuple ⟨[.agg ⟨[.slice none 0 0, .slice none 0 0]⟩, .int .i64 e]⟩, [(top,none),(top+1,none)],top+2):=by
 unfold Il nO eO
 rw [h,if_neg he,if_neg he];rfl
theorem jd {R:List Int}{l:List Ap}{top:Nat}(h:IC R l=0):Il R l top=(.tuple ⟨[.agg ⟨[AA top (Rk R 25),AA (top+1) (RG R l 25)]⟩, .int .i64 0]⟩, [(top,AE Ad (Rk R 25)),(top+1,AE Bh (RG R l 25))],top+2):=by
 unfold Il nO eO
 rw [h,if_pos rfl,if_pos rfl]
def cW (hp:Hp)(top:Nat)(u v:Value)(R:List Int)(k:Nat):SS:=
 ⟨[(1,v,true),(4, .pointer (some ⟨top,0,none⟩),true),(6, .pointer (some ⟨top+1,0,none⟩),true),(7, .pointer (some ⟨top+2,0,none⟩),true),(12,u,true),(13, .int .i64 (R.length:Int),true),(14, .int .i64 (k:Int),true)],
  hp.A6 [(top,some (.cells true 0 [.slice none 0 0, .slice none 0 0])),(top+1,some (.cells true 0 ((sL []).map (Value.int .i64)))),(top+2,some (.cells true 0 ((Wj (R.take k)).map Value.bool)))],top+3⟩
def Si (hp:Hp)(top:Nat)(v:Value)(R:List Int)(l:List Ap)(k:Nat):SS:=
 ⟨[(4, .pointer (some ⟨top,0,none⟩),true),(6, .pointer (some ⟨top+1,0,none⟩),true),(7, .pointer (some ⟨top+2,0,none⟩),true),(34,v,true),(35, .int .i64 (l.length:Int),true),(36, .int .i64 (k:Int),true)],
  hp.A6 [(top,some (.cells true 0 [.slice none 0 0, .slice none 0 0])),(top+1,some (.cells true 0 ((sL (l.take k)).map (Value.int .i64)))),(top+2,some (.cells true 0 ((Wj R).map Value.bool)))],top+3⟩
theorem uO:Dp 625 (.int .i64 0)=(sL []).map (Value.int .i64):=by
 rw [Qq]
 have:sL [] = List.replicate 625 0:=by decide +kernel
 rw [this]
theorem rM:Dp 25 (.bool false)=(Wj []).map Value.bool:=by
 rw [Z4]
 have:Wj [] = List.replicate 25 false:=by decide +kernel
 rw [this]
theorem gA {R:List Int}(l:List Ap)(h:bA [] R=false):IC R l=2:=by unfold IC;rw [if_pos h]
theorem u5 {R:List Int}{l:List Ap}(h:bA [] R=true)(hl:48 < l.length):IC R l=3:=by unfold IC;rw [if_neg (by simp [h]),if_pos hl]
theorem uZ {R:List Int}{l:List Ap}(h:bA [] R=true)(hl:¬48 < l.length):IC R l=iC R [] l:=by unfold IC;rw [if_neg (by simp [h]),if_neg hl]
theorem iw:BR Tryz.prog 103 E3:=by
 refine .Jq Qy ?_
 intro args hp top hpre hcl hsc
 match args,hpre with
 | [u,v],⟨⟨R,h⟩,⟨l,g⟩⟩=>
 have hs:=h.low hcl
 have gs:=g.low hcl
 simp only [h.rd,g.rd]
 refine Ae.Bn Bu Qy rfl 108 rfl [.cell 4 185, .tmp 5] rfl (show 2≤108 by decide) ?_
 refine CW.vc GU [0,1,4,5,6,7,9,11,12,13,14,15,25,32,34,35,36,37,40,79,1000019] (by kernel_rfl) ?_
 (repeat ((first | refine Vc.mk' ?_ | refine CW.Ia GU 19 [0,1,4,5,6,7,9,11,12,13,14,15,25,32,34,35,36,37,40,79,1000019] [(5,14),(7,14),(11,14)] (by kernel_rfl) (by kernel_rfl) ?_ | skip);simp only [go_sem,DQ h,Cg h,DD h,EB h,ED h,h.P,h.oc,h.cl,h.rd,h.ref,Aj hs,AZ hs,AY hs,AX h hs Cq,BM g,BL g,Bq g,Bp g,Bo g,BD g,BC g,BB g,BG g,BF g,BE g,g.P,g.oc,g.cl,g.rd,g.ref,Aj gs,AZ gs,AY gs,AX g gs BZ,Cw,EX,Ir,Iv,HB,Fk,Fi]))
 refine CW.D9 (cW hp top u v R) (fun k=>k≤R.length∧bA [] R=bA (R.take k) (R.drop k)) (fun k=>R.length - k) 0 ⟨Nat.zero_le _,rfl⟩ ?_ ?_
 ·exact (by refine Bj.mk' [top,top+1,top+2] hcl (by simp) (by simp) rfl (Ac ?_) ?_ ?_ <;> simp [Sc.Av (fun j hj=>AB hj) hs,Sc.Av (fun j hj=>AB hj) gs,uO,rM,DH])
 ·rintro k ⟨hk,hm⟩
  by_cases hlt:k < R.length
  ·rw [drop_at hlt,bA] at hm
   generalize hn:at' R k=n at hm
   cases c1:Ci n with
   |false=>
    rw [c1,Bool.false_and,Bool.false_and] at hm
    simp only [El (gA l hm) (by decide)]
    refine CW.vc GU [0,1,4,5,6,7,9,11,12,13,14,15,25,32,34,35,36,37,40,79,1000019] (by kernel_rfl) ?_
    (repeat ((first | refine Vc.mk' ?_ | refine CW.Ia GU 19 [0,1,4,5,6,7,9,11,12,13,14,15,25,32,34,35,36,37,40,79,1000019] [(5,14),(7,14),(11,14)] (by kernel_rfl) (by kernel_rfl) ?_ | skip);simp only [go_sem,DQ h,Cg h,DD h,EB h,ED h,h.P,h.oc,h.cl,h.rd,h.ref,Aj hs,AZ hs,AY hs,AX h hs Cq,BM g,BL g,Bq g,Bp g,Bo g,BD g,BC g,BB g,BG g,BF g,BE g,g.P,g.oc,g.cl,g.rd,g.ref,Aj gs,AZ gs,AY gs,AX g gs BZ,Cw,EX,Ir,Iv,HB,Fk,Fi,hlt,cW,hn,c1]))
    (refine ⟨[top,top+1],by simp,by simp,by simp, ?_, ?_, ?_⟩ <;> simp [])
   |true=>
    have hro:=c1
    simp only [Ci,Bool.and_eq_true,decide_eq_true_eq] at hro
    have o0:0≤n:=by omega
    have o1:n < ((25:Nat):Int):=by omega
    have o2:n.toNat < 25:=by omega
    have o5:n.toNat≤24:=by omega
    have o4:((n.toNat:Nat):Int)=n:=by omega
    have hl1:BA tt.get hp 3 (Ag u k)=(.int .i64 n,True):=by have:=DD h hlt;rw [Nat.mul_one,hn] at this;exact this
    have hil:=VR (R.take k)
    have hig:=OH (R.take k) o2
    rw [o4] at hig
    cases c2:(R.take k).any (Sv n) with
    |true=>
     rw [c2] at hig
     rw [c2,Bool.not_true,Bool.and_false,Bool.false_and] at hm
     simp only [El (gA l hm) (by decide)]
     refine CW.vc GU [0,1,4,5,6,7,9,11,12,13,14,15,25,32,34,35,36,37,40,79,1000019] (by kernel_rfl) ?_
     (repeat ((first | refine Vc.mk' ?_ | refine CW.Ia GU 19 [0,1,4,5,6,7,9,11,12,13,14,15,25,32,34,35,36,37,40,79,1000019] [(5,14),(7,14),(11,14)] (by kernel_rfl) (by kernel_rfl) ?_ | skip);simp only [go_sem,DQ h,Cg h,DD h,EB h,ED h,h.P,h.oc,h.cl,h.rd,h.ref,Aj hs,AZ hs,AY hs,AX h hs Cq,BM g,BL g,Bq g,Bp g,Bo g,BD g,BC g,BB g,BG g,BF g,BE g,g.P,g.oc,g.cl,g.rd,g.ref,Aj gs,AZ gs,AY gs,AX g gs BZ,Cw,EX,Ir,Iv,HB,Fk,Fi,hlt,cW,hn,hl1,c1,o0,o1,o2,o5,hig,hil,CX,Nat.mul_one,List.length_map]))
     (refine ⟨[top,top+1],by simp,by simp,by simp, ?_, ?_, ?_⟩ <;> simp [])
    |false=>
     rw [c2] at hig
     rw [c1,c2,Bool.not_false,Bool.and_self,Bool.true_and] at hm
     have hst:=gQ (done:=R.take k) c1
     rw [←hn,←DV hlt,hn] at hst
     refine CW.vc GU [0,1,4,5,6,7,9,11,12,13,14,15,25,32,34,35,36,37,40,79,1000019] (by kernel_rfl) ?_
     (repeat ((first | refine Vc.mk' ?_ | refine CW.Ia GU 19 [0,1,4,5,6,7,9,11,12,13,14,15,25,32,34,35,36,37,40,79,1000019] [(5,14),(7,14),(11,14)] (by kernel_rfl) (by kernel_rfl) ?_ | skip);simp only [go_sem,DQ h,Cg h,DD h,EB h,ED h,h.P,h.oc,h.cl,h.rd,h.ref,Aj hs,AZ hs,AY hs,AX h hs Cq,BM g,BL g,Bq g,Bp g,Bo g,BD g,BC g,BB g,BG g,BF g,BE g,g.P,g.oc,g.cl,g.rd,g.ref,Aj gs,AZ gs,AY gs,AX g gs BZ,Cw,EX,Ir,Iv,HB,Fk,Fi,hlt,cW,hn,hl1,c1,o0,o1,o2,o5,hig,hil,CX,Nh,Nat.mul_one,List.length_map,hst]))
     refine .mk (k+1) ⟨hlt, ?_⟩ (by omega) ((by refine Bj.mk' [top,top+1,top+2] hcl (by simp) (by simp) rfl (Ac ?_) ?_ ?_ <;> simp [Sc.Av (fun j hj=>AB hj) hs,Sc.Av (fun j hj=>AB hj) gs,DH,B0 hlt h.le]))
     rw [hm,DV hlt,hn]
  ·have hk2:k=R.length:=by omega
   subst hk2
   have hG:bA [] R=true:=by rw [hm,List.drop_eq_nil_of_le (Nat.le_refl _)];rfl
   by_cases hl:48 < l.length
   ·have hl2:(48:Int) < (l.length:Int):=by omega
    simp only [El (u5 hG hl) (by decide)]
    refine CW.vc GU [0,1,4,5,6,7,9,11,12,13,14,15,25,32,34,35,36,37,40,79,1000019] (by kernel_rfl) ?_
    (repeat ((first | refine Vc.mk' ?_ | refine CW.Ia GU 19 [0,1,4,5,6,7,9,11,12,13,14,15,25,32,34,35,36,37,40,79,1000019] [(5,14),(7,14),(11,14)] (by kernel_rfl) (by kernel_rfl) ?_ | skip);simp only [go_sem,DQ h,Cg h,DD h,EB h,ED h,h.P,h.oc,h.cl,h.rd,h.ref,Aj hs,AZ hs,AY hs,AX h hs Cq,BM g,BL g,Bq g,Bp g,Bo g,BD g,BC g,BB g,BG g,BF g,BE g,g.P,g.oc,g.cl,g.rd,g.ref,Aj gs,AZ gs,AY gs,AX g gs BZ,Cw,EX,Ir,Iv,HB,Fk,Fi,cW,Nat.lt_irrefl,decide_false,hl2]))
    (refine ⟨[top,top+1],by simp,by simp,by simp, ?_, ?_, ?_⟩ <;> simp [])
   ·have hl2:¬(48:Int) < (l.length:Int):=by omega
    have hE:=uZ hG hl
    have hR:=Yp R [] hG
    refine CW.vc GU [0,1,4,5,6,7,9,11,12,13,14,15,25,32,34,35,36,37,40,79,1000019] (by kernel_rfl) ?_
    (repeat ((first | refine Vc.mk' ?_ | refine CW.Ia GU 19 [0,1,4,5,6,7,9,11,12,13,14,15,25,32,34,35,36,37,40,79,1000019] [(5,14),(7,14),(11,14)] (by kernel_rfl) (by kernel_rfl) ?_ | skip);simp only [go_sem,DQ h,Cg h,DD h,EB h,ED h,h.P,h.oc,h.cl,h.rd,h.ref,Aj hs,AZ hs,AY hs,AX h hs Cq,BM g,BL g,Bq g,Bp g,Bo g,BD g,BC g,BB g,BG g,BF g,BE g,g.P,g.oc,g.cl,g.rd,g.ref,Aj gs,AZ gs,AY gs,AX g gs BZ,Cw,EX,Ir,Iv,HB,Fk,Fi,cW,Nat.lt_irrefl,decide_false,hl2]))
    refine CW.D9 (Si hp top v R l) (fun k=>k≤l.length∧iC R [] l=iC R (l.take k) (l.drop k)∧∀x∈l.take k,GD R x=true) (fun k=>l.length - k) 0 ⟨Nat.zero_le _,rfl,by simp⟩ ?_ ?_
    ·exact (by refine Bj.mk' [top,top+1,top+2] hcl (by simp) (by simp) rfl (Ac ?_) ?_ ?_ <;> simp [Sc.Av (fun j hj=>AB hj) gs,List.take_length,DH])
    ·rintro k ⟨hk,hm,hok⟩
     by_cases hlt:k < l.length
     ·rw [drop_at hlt,iC] at hm
      have bad:GD R (at' l k)=false→IC R l=2:=fun e=>by rw [hE,hm,if_pos e]
      have anyF:∀a,Ci a=false→R.any (Sv a)=false:=fun a ha=>by
       cases h':R.any (Sv a) with
       |false=>rfl
       |true=>have:=Zw hR h';rw [ha] at this;cases this
      cases a1:Ci (at' l k).A with
      |false=>
       have e:=bad (by simp [GD,anyF _ a1])
       simp only [El e (by decide)]
       refine CW.vc GU [0,1,4,5,6,7,9,11,12,13,14,15,25,32,34,35,36,37,40,79,1000019] (by kernel_rfl) ?_
       (repeat ((first | refine Vc.mk' ?_ | refine CW.Ia GU 19 [0,1,4,5,6,7,9,11,12,13,14,15,25,32,34,35,36,37,40,79,1000019] [(5,14),(7,14),(11,14)] (by kernel_rfl) (by kernel_rfl) ?_ | skip);simp only [go_sem,DQ h,Cg h,DD h,EB h,ED h,h.P,h.oc,h.cl,h.rd,h.ref,Aj hs,AZ hs,AY hs,AX h hs Cq,BM g,BL g,Bq g,Bp g,Bo g,BD g,BC g,BB g,BG g,BF g,BE g,g.P,g.oc,g.cl,g.rd,g.ref,Aj gs,AZ gs,AY gs,AX g gs BZ,Cw,EX,Ir,Iv,HB,Fk,Fi,hlt,Si,a1]))
       (refine ⟨[top,top+1],by simp,by simp,by simp, ?_, ?_, ?_⟩ <;> simp [])
      |true=>
      cases b1:Ci (at' l k).B with
      |false=>
       have e:=bad (by simp [GD,anyF _ b1])
       simp only [El e (by decide)]
       refine CW.vc GU [0,1,4,5,6,7,9,11,12,13,14,15,25,32,34,35,36,37,40,79,1000019] (by kernel_rfl) ?_
       (repeat ((first | refine Vc.mk' ?_ | refine CW.Ia GU 19 [0,1,4,5,6,7,9,11,12,13,14,15,25,32,34,35,36,37,40,79,1000019] [(5,14),(7,14),(11,14)] (by kernel_rfl) (by kernel_rfl) ?_ | skip);simp only [go_sem,DQ h,Cg h,DD h,EB h,ED h,h.P,h.oc,h.cl,h.rd,h.ref,Aj hs,AZ hs,AY hs,AX h hs Cq,BM g,BL g,Bq g,Bp g,Bo g,BD g,BC g,BB g,BG g,BF g,BE g,g.P,g.oc,g.cl,g.rd,g.ref,Aj gs,AZ gs,AY gs,AX g gs BZ,Cw,EX,Ir,Iv,HB,Fk,Fi,hlt,Si,a1,b1]))
       (refine ⟨[top,top+1],by simp,by simp,by simp, ?_, ?_, ?_⟩ <;> simp [])
      |true=>
      have ra:=a1
      have rb:=b1
      simp only [Ci,Bool.and_eq_true,decide_eq_true_eq] at ra rb
      have o0:0≤(at' l k).A:=by omega
      have o1:(at' l k).A < ((25:Nat):Int):=by omega
      have o2:(at' l k).A.toNat < 25:=by omega
      have o5:(at' l k).A.toNat≤24:=by omega
      have o4:(((at' l k).A.toNat:Nat):Int)=(at' l k).A:=by omega
      have q0:0≤(at' l k).B:=by omega
      have q1:(at' l k).B < ((25:Nat):Int):=by omega
      have q2:(at' l k).B.toNat < 25:=by omega
      have q5:(at' l k).B.toNat≤24:=by omega
      have q4:(((at' l k).B.toNat:Nat):Int)=(at' l k).B:=by omega
      have hil:=VR R
      have hia:=OH R o2
      have hib:=OH R q2
      rw [o4] at hia
      rw [q4] at hib
      have hsl:=mn (l.take k)
      have hv:=Ze (l.take k) o2 q2
      rw [o4,q4] at hv
      have t1:(at' l k).A.toNat * 25+(at' l k).B.toNat < 625:=by omega
      have t2:(at' l k).B.toNat * 25+(at' l k).A.toNat < 625:=by omega
      have t3:(at' l k).A.toNat * 25+(at' l k).B.toNat≤624:=by omega
      have t4:(at' l k).B.toNat * 25+(at' l k).A.toNat≤624:=by omega
      have t5:(at' l k).A.toNat * 25+((at' l k).B.toNat+1)≤625:=by omega
      have t6:(at' l k).B.toNat * 25+((at' l k).A.toNat+1)≤625:=by omega
      cases a2:R.any (Sv (at' l k).A) with
      |false=>
       have e:=bad (by simp [GD,a2])
       rw [a2] at hia
       simp only [El e (by decide)]
       refine CW.vc GU [0,1,4,5,6,7,9,11,12,13,14,15,25,32,34,35,36,37,40,79,1000019] (by kernel_rfl) ?_
       (repeat ((first | refine Vc.mk' ?_ | refine CW.Ia GU 19 [0,1,4,5,6,7,9,11,12,13,14,15,25,32,34,35,36,37,40,79,1000019] [(5,14),(7,14),(11,14)] (by kernel_rfl) (by kernel_rfl) ?_ | skip);simp only [go_sem,DQ h,Cg h,DD h,EB h,ED h,h.P,h.oc,h.cl,h.rd,h.ref,Aj hs,AZ hs,AY hs,AX h hs Cq,BM g,BL g,Bq g,Bp g,Bo g,BD g,BC g,BB g,BG g,BF g,BE g,g.P,g.oc,g.cl,g.rd,g.ref,Aj gs,AZ gs,AY gs,AX g gs BZ,Cw,EX,Ir,Iv,HB,Fk,Fi,hlt,Si,a1,b1,o0,o1,o2,o5,q0,q1,q2,q5,hil,hia,hib,hsl,CX,Du,Nat.mul_one,List.length_map]))
       (refine ⟨[top,top+1],by simp,by simp,by simp, ?_, ?_, ?_⟩ <;> simp [])
      |true=>
      rw [a2] at hia
      cases b2:R.any (Sv (at' l k).B) with
      |false=>
       have e:=bad (by simp [GD,b2])
       rw [b2] at hib
       simp only [El e (by decide)]
       refine CW.vc GU [0,1,4,5,6,7,9,11,12,13,14,15,25,32,34,35,36,37,40,79,1000019] (by kernel_rfl) ?_
       (repeat ((first | refine Vc.mk' ?_ | refine CW.Ia GU 19 [0,1,4,5,6,7,9,11,12,13,14,15,25,32,34,35,36,37,40,79,1000019] [(5,14),(7,14),(11,14)] (by kernel_rfl) (by kernel_rfl) ?_ | skip);simp only [go_sem,DQ h,Cg h,DD h,EB h,ED h,h.P,h.oc,h.cl,h.rd,h.ref,Aj hs,AZ hs,AY hs,AX h hs Cq,BM g,BL g,Bq g,Bp g,Bo g,BD g,BC g,BB g,BG g,BF g,BE g,g.P,g.oc,g.cl,g.rd,g.ref,Aj gs,AZ gs,AY gs,AX g gs BZ,Cw,EX,Ir,Iv,HB,Fk,Fi,hlt,Si,a1,b1,o0,o1,o2,o5,q0,q1,q2,q5,hil,hia,hib,hsl,CX,Du,Nat.mul_one,List.length_map]))
       (refine ⟨[top,top+1],by simp,by simp,by simp, ?_, ?_, ?_⟩ <;> simp [])
      |true=>
      rw [b2] at hib
      by_cases ab:(at' l k).A=(at' l k).B
      ·have e:=bad (by simp [GD,ab])
       simp only [El e (by decide)]
       refine CW.vc GU [0,1,4,5,6,7,9,11,12,13,14,15,25,32,34,35,36,37,40,79,1000019] (by kernel_rfl) ?_
       (repeat ((first | refine Vc.mk' ?_ | refine CW.Ia GU 19 [0,1,4,5,6,7,9,11,12,13,14,15,25,32,34,35,36,37,40,79,1000019] [(5,14),(7,14),(11,14)] (by kernel_rfl) (by kernel_rfl) ?_ | skip);simp only [go_sem,DQ h,Cg h,DD h,EB h,ED h,h.P,h.oc,h.cl,h.rd,h.ref,Aj hs,AZ hs,AY hs,AX h hs Cq,BM g,BL g,Bq g,Bp g,Bo g,BD g,BC g,BB g,BG g,BF g,BE g,g.P,g.oc,g.cl,g.rd,g.ref,Aj gs,AZ gs,AY gs,AX g gs BZ,Cw,EX,Ir,Iv,HB,Fk,Fi,hlt,Si,a1,b1,o0,o1,o2,o5,q0,q1,q2,q5,hil,hia,hib,hsl,CX,Du,Nat.mul_one,List.length_map,ab]))
       (refine ⟨[top,top+1],by simp,by simp,by simp, ?_, ?_, ?_⟩ <;> simp [])
      cases c3:RL (at' l k).Er with
      |false=>
       have e:=bad (by simp [GD,c3])
       simp only [El e (by decide)]
       refine CW.vc GU [0,1,4,5,6,7,9,11,12,13,14,15,25,32,34,35,36,37,40,79,1000019] (by kernel_rfl) ?_
       (repeat ((first | refine Vc.mk' ?_ | refine CW.Ia GU 19 [0,1,4,5,6,7,9,11,12,13,14,15,25,32,34,35,36,37,40,79,1000019] [(5,14),(7,14),(11,14)] (by kernel_rfl) (by kernel_rfl) ?_ | skip);simp only [go_sem,DQ h,Cg h,DD h,EB h,ED h,h.P,h.oc,h.cl,h.rd,h.ref,Aj hs,AZ hs,AY hs,AX h hs Cq,BM g,BL g,Bq g,Bp g,Bo g,BD g,BC g,BB g,BG g,BF g,BE g,g.P,g.oc,g.cl,g.rd,g.ref,Aj gs,AZ gs,AY gs,AX g gs BZ,Cw,EX,Ir,Iv,HB,Fk,Fi,hlt,Si,a1,b1,o0,o1,o2,o5,q0,q1,q2,q5,hil,hia,hib,hsl,CX,Du,Nat.mul_one,List.length_map,ab,c3]))
       (refine ⟨[top,top+1],by simp,by simp,by simp, ?_, ?_, ?_⟩ <;> simp [])
      |true=>
      have hlk:GD R (at' l k)=true:=by simp [GD,a2,b2,ab,c3]
      rw [if_neg (by simp [hlk])] at hm
      have hpos:=PM hok (at' l k).A (at' l k).B
      cases p:(l.take k).any (pr (at' l k).A (at' l k).B) with
      |true=>
       have hp:=hpos.2 p
       rw [if_pos p] at hm
       have e:IC R l=7:=by rw [hE,hm]
       simp only [El e (by decide)]
       refine CW.vc GU [0,1,4,5,6,7,9,11,12,13,14,15,25,32,34,35,36,37,40,79,1000019] (by kernel_rfl) ?_
       (repeat ((first | refine Vc.mk' ?_ | refine CW.Ia GU 19 [0,1,4,5,6,7,9,11,12,13,14,15,25,32,34,35,36,37,40,79,1000019] [(5,14),(7,14),(11,14)] (by kernel_rfl) (by kernel_rfl) ?_ | skip);simp only [go_sem,DQ h,Cg h,DD h,EB h,ED h,h.P,h.oc,h.cl,h.rd,h.ref,Aj hs,AZ hs,AY hs,AX h hs Cq,BM g,BL g,Bq g,Bp g,Bo g,BD g,BC g,BB g,BG g,BF g,BE g,g.P,g.oc,g.cl,g.rd,g.ref,Aj gs,AZ gs,AY gs,AX g gs BZ,Cw,EX,Ir,Iv,HB,Fk,Fi,hlt,Si,a1,b1,o0,o1,o2,o5,q0,q1,q2,q5,hil,hia,hib,hsl,CX,Du,Nat.mul_one,List.length_map,ab,c3,t1,t3,t5,hv,hp]))
       (refine ⟨[top,top+1],by simp,by simp,by simp, ?_, ?_, ?_⟩ <;> simp [])
      |false=>
       have hp:¬0 < Dk (l.take k) (at' l k).A (at' l k).B:=fun e=>by rw [hpos.1 e] at p;cases p
       rw [if_neg (by simp [p])] at hm
       have hss:=oB a1 b1 p
       rw [←DV hlt] at hss hm
       refine CW.vc GU [0,1,4,5,6,7,9,11,12,13,14,15,25,32,34,35,36,37,40,79,1000019] (by kernel_rfl) ?_
       (repeat ((first | refine Vc.mk' ?_ | refine CW.Ia GU 19 [0,1,4,5,6,7,9,11,12,13,14,15,25,32,34,35,36,37,40,79,1000019] [(5,14),(7,14),(11,14)] (by kernel_rfl) (by kernel_rfl) ?_ | skip);simp only [go_sem,DQ h,Cg h,DD h,EB h,ED h,h.P,h.oc,h.cl,h.rd,h.ref,Aj hs,AZ hs,AY hs,AX h hs Cq,BM g,BL g,Bq g,Bp g,Bo g,BD g,BC g,BB g,BG g,BF g,BE g,g.P,g.oc,g.cl,g.rd,g.ref,Aj gs,AZ gs,AY gs,AX g gs BZ,Cw,EX,Ir,Iv,HB,Fk,Fi,hlt,Si,a1,b1,o0,o1,o2,o5,q0,q1,q2,q5,hil,hia,hib,hsl,CX,Du,Nat.mul_one,List.length_map,ab,c3,t1,t2,t3,t4,t5,t6,hv,hp,List.length_set,W7,hss]))
       refine .mk (k+1) ⟨hlt,hm, ?_⟩ (by omega) ((by refine Bj.mk' [top,top+1,top+2] hcl (by simp) (by simp) rfl (Ac ?_) ?_ ?_ <;> simp [Sc.Av (fun j hj=>AB hj) gs,DH,B0 hlt g.le]))
       intro y hy
       rw [DV hlt] at hy
       rcases List.mem_append.1 hy with hy | hy
       ·exact hok y hy
       ·rw [List.mem_singleton.1 hy];exact hlk
     ·have hk2:k=l.length:=by omega
      subst hk2
      have htl:l.take l.length=l:=List.take_length
      have hz:iC R [] l=0:=by rw [hm,List.drop_eq_nil_of_le (Nat.le_refl _)];rfl
      have hsl:=mn l
      have hil:=VR R
      have hb25:List.take 25 ((Wj R).map Value.bool)=(Wj R).map Value.bool:=NP hil
      have e:IC R l=0:=by rw [hE,hz]
      have hEd:=lD (eR hz)
      have hNd:=nI R
      simp only [jd e]
      refine CW.vc GU [0,1,4,5,6,7,9,11,12,13,14,15,25,32,34,35,36,37,40,79,1000019] (by kernel_rfl) ?_
      (repeat ((first | refine Vc.mk' ?_ | refine CW.Ia GU 19 [0,1,4,5,6,7,9,11,12,13,14,15,25,32,34,35,36,37,40,79,1000019] [(5,14),(7,14),(11,14)] (by kernel_rfl) (by kernel_rfl) ?_ | skip);simp only [go_sem,DQ h,Cg h,DD h,EB h,ED h,h.P,h.oc,h.cl,h.rd,h.ref,Aj hs,AZ hs,AY hs,AX h hs Cq,BM g,BL g,Bq g,Bp g,Bo g,BD g,BC g,BB g,BG g,BF g,BE g,g.P,g.oc,g.cl,g.rd,g.ref,Aj gs,AZ gs,AY gs,AX g gs BZ,Cw,EX,Ir,Iv,HB,Fk,Fi,Si,Nat.lt_irrefl,decide_false,htl,hsl,hil,hb25,pj,qj,cI,R4,List.length_map,uT,hEd,hNd]))
      (refine ⟨[top+3,top+4],by simp,by simp,by simp, ?_, ?_, ?_⟩ <;> simp [])
end Go.Proofs.YthlhnangbinhoaaGreatDoor.Gr
