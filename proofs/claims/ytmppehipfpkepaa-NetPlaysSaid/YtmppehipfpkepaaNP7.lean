/- The document's Bc: the fate of a message. -/
import Derived.Test.YtmppehipfpkepaaNP4
set_option linter.unusedVariables false
namespace Go.Proofs.Ytmppehipfpkepaa.Dm
open Go.Dm
set_option maxHeartbeats 16000000
set_option maxRecDepth 20000
def bZ (a b n:Int)(r:A8):Bool:=decide (r.B2=a) && (decide (r.To=b) && decide (r.RF=n))
def G8 (r:A8):FT:=if r.Kind=1 then ⟨0,0,0⟩ else if r.Kind=2 then ⟨2,0,r.By⟩ else ⟨1,r.By,0⟩
def Jq (u:List A8)(a b n:Int):FT:=match u.find? (bZ a b n) with
 |none=>⟨1,0,0⟩
 |some r=>G8 r
def NJ (s:As)(a b:Int):Int:=BQ .i64 ((s.ks[a.toNat * 25+b.toNat]?).getD 0+1)
def Dy (s:As)(a b:Int):As:= {s with ks:=s.ks.set (a.toNat * 25+b.toNat) (NJ s a b)}
def Di (s:As)(a b:Int):FT:=Jq s.u a b (NJ s a b)
noncomputable def P9:Bp:= .det (fun args hp _=>match args with | [.pointer (some ⟨n,0,none⟩),a,b]=>GM hp n∧(EO .i64 a∧EO .i64 b)∧(1≤intOf a∧intOf a≤24)∧1≤intOf b∧intOf b≤24 | _=>False) (fun args hp top=>match args with
 | [.pointer (some ⟨n,_,_⟩),a,b]=>(.agg ⟨JV.enc (Di (IH hp n) (intOf a) (intOf b))⟩, [(n,Az (OA hp n) (Dy (IH hp n) (intOf a) (intOf b)))],top) | _=>(undef, [],top))
def fz:Option BB:=some (.cells true 0 [.int .i64 0, .int .i64 0, .int .i64 0])
def xR (hp:Hp)(top n:Nat)(v:Bh)(s:As)(a b:Int)(i:Nat):SS:=⟨[(0, .pointer (some ⟨n,0,none⟩),true),(1, .int .i64 a,true),(2, .int .i64 b,true),(6, .pointer (some ⟨top,0,none⟩),true),(7, .int .i64 (i:Int),true)],hp.AZ [(n,Az v (Dy s a b)),(top,fz)],top+1⟩
theorem b6 {u:List A8}{a b n:Int}(h:∀j,j < u.length→bZ a b n (Aj u j)=false):Jq u a b n=⟨1,0,0⟩:=by
 unfold Jq
 rw [List.find?_eq_none.2]
 intro r hr
 obtain ⟨j,hj,rfl⟩:=List.getElem_of_mem hr
 have:=h j hj
 rw [Bj _ _ hj] at this
 rw [this];simp
theorem dI {α:Type}[Inhabited α]{p:α→Bool}:∀ {u:List α} {i:Nat},i < u.length→(∀j,j < i→p (Aj u j)=false)→p (Aj u i)=true→u.find? p=some (Aj u i)
 | [],i,h,_,_=>absurd h (Nat.not_lt_zero _)
 |x :: u,0,_,_,hp=>by rw [List.find?_cons];have:p x=true:=hp;rw [this];rfl
 |x :: u,i+1,h,hm,hp=>by
  rw [List.find?_cons]
  have h0:p x=false:=hm 0 (by omega)
  rw [h0]
  exact dI (u:=u) (by simpa using h) (fun j hj=>hm (j+1) (by omega)) hp
theorem pH {u:List A8}{a b n:Int}{i:Nat}(hi:i < u.length)(h:∀j,j < i→bZ a b n (Aj u j)=false)(hp:bZ a b n (Aj u i)=true):Jq u a b n=G8 (Aj u i):=by
 unfold Jq
 rw [dI hi h hp]
theorem lY:BK Try.prog 74 P9:=by
 refine .Cc YS ?_
 intro args hp top hpre hcl hsc
 match args,hpre with
 | [.pointer (some ⟨n,0,none⟩),a,b],⟨⟨v,s,h⟩,⟨ha,hb⟩,⟨a1,a2⟩,b1,b2⟩=>
 rw [ha,hb]
 generalize intOf a=a at a1 a2 ⊢
 generalize intOf b=b at b1 b2 ⊢
 simp only [h.s,h.v,BA]
 have hh:=h.h
 have hu:=h.u
 have us:=hu.low hcl
 have us1:=us
 have rs1:=h.R.low hcl
 have ls1:=h.l.low hcl
 have ws1:=h.w.low hcl
 have hcb:=h.qG hcl
 have n0:n < top:=hcl.lt _ _ hh
 have hnt:¬top=n:=by omega
 have hnt2:¬n=top:=by omega
 have hnt3:¬top+1=n:=by omega
 have hnt4:¬n=top+1:=by omega
 have hT:=Cz (wv:=v.wv) h.sl h.kl
 have hix:a.toNat * 25+b.toNat < 625:=by omega
 have ha0:0≤a:=by omega
 have hb0:0≤b:=by omega
 have ha1:a < ((25:Nat):Int):=by omega
 have hb1:b < ((25:Nat):Int):=by omega
 have hix1:31+(a.toNat * 25+b.toNat) < 657:=by omega
 have hix2:31+(a.toNat * 25+(b.toNat+1))≤657:=by omega
 have hix3:31+(a.toNat * 25+b.toNat)+1≤657:=by omega
 have hT2:=Cz (wv:=v.wv) h.sl (ks:=s.ks.set (a.toNat * 25+b.toNat) (NJ s a b)) (by rw [List.length_set];exact h.kl)
 have hKS:∀ {x0 x1 x2 x3 x4 x5 w:Value},((x0 :: x1 :: x2 :: x3 :: x4 :: x5 :: DG s.st s.ks w)[31+(a.toNat * 25+b.toNat)]?).getD undef= .int .i64 ((s.ks[a.toNat * 25+b.toNat]?).getD 0):=eQ h.sl h.kl hix
 have hSK:∀ {x0 x1 x2 x3 x4 x5 w:Value} {z:Int},Am (x0 :: x1 :: x2 :: x3 :: x4 :: x5 :: DG s.st s.ks w) (31+(a.toNat * 25+b.toNat)) [.int .i64 z] = x0 :: x1 :: x2 :: x3 :: x4 :: x5 :: DG s.st (s.ks.set (a.toNat * 25+b.toNat) z) w:=fun {_} {_} {_} {_} {_} {_} {_} {z}=>aK h.sl h.kl hix z
 have hK2:∀ {x0 x1 x2 x3 x4 x5 w:Value},((x0 :: x1 :: x2 :: x3 :: x4 :: x5 :: DG s.st (s.ks.set (a.toNat * 25+b.toNat) (NJ s a b)) w)[31+(a.toNat * 25+b.toNat)]?).getD undef= .int .i64 (NJ s a b):=fun {_} {_} {_} {_} {_} {_} {_}=>by
  rw [eQ h.sl (by rw [List.length_set];exact h.kl) hix,List.getElem?_set_self (by rw [h.kl];exact hix)];rfl
 have hn1:BQ .i64 ((s.ks[a.toNat * 25+b.toNat]?).getD 0+1)=NJ s a b:=rfl
 refine AL.Au BE YS rfl 75 rfl [.cell 6 28] rfl (show 3≤75 by decide) ?_
 refine CW.vc Jo [0,1,2,6,7,8,28,60,63,67] (by kernel_rfl) ?_
 (repeat ((try refine Vc.mk' ?_);simp only [go_sem,Nat.reduceAdd,hh,Az,Dy,hT,hKS,hSK,AS n0,ha0,hb0,ha1,hb1,hix1,hix2,Nat.mul_one,hn1]))
 refine CW.CZ (xR hp top n v s a b) (fun i=>i≤s.u.length∧∀j,j < i→bZ a b (NJ s a b) (Aj s.u j)=false) (fun i=>s.u.length - i) 0 ⟨Nat.zero_le _,fun j hj=>absurd hj (Nat.not_lt_zero _)⟩ ?_ ?_
 ·exact (by refine BO.mk' [top] hcl (by simp) (by simp) rfl (AV ?_) ?_ ?_ <;> simp [Ax,Cd,Ad,Ag,AD.nil,AD.cons,AF,AG,AM,AB,AH,AE.set,AE.B5,AE.refl,Az,Dy,CU,D4,AA n0,AA hcb,Sc.Ad (fun j hj=>AA hj) rs1,Sc.Ad (fun j hj=>AA hj) ls1,Sc.Ad (fun j hj=>AA hj) us1,Sc.Ad (fun j hj=>AA hj) ws1,hnt,hnt2,fz])
 ·rintro i ⟨hi,hm⟩
  by_cases hlt:i < s.u.length
  ·have miss:bZ a b (NJ s a b) (Aj s.u i)=false→∀j,j < i+1→bZ a b (NJ s a b) (Aj s.u j)=false:=fun hc j hj=>by
    by_cases e:j < i
    ·exact hm j e
    ·have:j=i:=by omega
     subst this;exact hc
   have hit:bZ a b (NJ s a b) (Aj s.u i)=true→Di s a b=G8 (Aj s.u i):=fun hc=>pH hlt hm hc
   have wi:BQ .i64 ((i:Int)+1)=((i+1:Nat):Int):=Av hlt hu.le
   have hp_:bZ a b (NJ s a b) (Aj s.u i)=(decide ((Aj s.u i).B2=a) && (decide ((Aj s.u i).To=b) && decide ((Aj s.u i).RF=NJ s a b))):=rfl
   have hu2:∀ {o:Option BB},BU Ap (hp.set n o) v.uv s.u:=fun {o}=>O8 hu hh (by decide)
   have ldR:∀ {o:Option BB},_:=fun {o:Option BB}=>Oh (hu2 (o:=o)) hlt
   cases q1:decide ((Aj s.u i).B2=a) <;> cases q2:decide ((Aj s.u i).To=b) <;> cases q3:decide ((Aj s.u i).RF=NJ s a b)
   all_goals
    rw [q1,q2,q3] at hp_
    refine CW.vc Jo [0,1,2,6,7,8,28,60,63,67] (by kernel_rfl) ?_
    (repeat ((try refine Vc.mk' ?_);simp only [go_sem,reduceCtorEq,Nat.reduceAdd,Nat.reduceLT,Az,Dy,hT2,hK2,AS n0,FY hu,JA hu,Ao us,ha0,hb0,ha1,hb1,hix1,Nat.mul_one,xR,hlt,ldR,q1,q2,q3,Kx,wi]))
    first
    |exact .mk (i+1) ⟨hlt,miss hp_⟩ (by omega) ((by refine BO.mk' [top] hcl (by simp) (by simp) rfl (AV ?_) ?_ ?_ <;> simp [Ax,Cd,Ad,Ag,AD.nil,AD.cons,AF,AG,AM,AB,AH,AE.set,AE.B5,AE.refl,Az,Dy,CU,D4,AA n0,AA hcb,Sc.Ad (fun j hj=>AA hj) rs1,Sc.Ad (fun j hj=>AA hj) ls1,Sc.Ad (fun j hj=>AA hj) us1,Sc.Ad (fun j hj=>AA hj) ws1,hnt2,hnt4,fz]))
    |skip
   have e:=hit hp_
   by_cases k1:(Aj s.u i).Kind=1
   ·have e2:Di s a b=⟨0,0,0⟩:=by rw [e];unfold G8;rw [if_pos k1]
    (repeat ((try refine Vc.mk' ?_);simp only [go_sem,reduceCtorEq,Nat.reduceAdd,fz,k1]))
    simp only [e2]
    (refine ⟨[],by simp,by simp,by simp, ?_, ?_, ?_⟩ <;> simp [Ad,Ag,AD.nil,AD.cons,AF,AG,AB,AH,AE.set,AE.B5,AE.refl,CU,D4,AA n0,AA hcb,Sc.Ad (fun j hj=>AA hj) rs1,Sc.Ad (fun j hj=>AA hj) ls1,Sc.Ad (fun j hj=>AA hj) us1,Sc.Ad (fun j hj=>AA hj) ws1,hnt2,hnt4])
   by_cases k2:(Aj s.u i).Kind=2
   ·have e2:Di s a b=⟨2,0,(Aj s.u i).By⟩:=by rw [e];unfold G8;rw [if_neg k1,if_pos k2]
    (repeat ((try refine Vc.mk' ?_);simp only [go_sem,reduceCtorEq,Nat.reduceAdd,Nat.reduceLeDiff,Int.reduceEq,fz,k2]))
    simp only [e2]
    (refine ⟨[],by simp,by simp,by simp, ?_, ?_, ?_⟩ <;> simp [Ad,Ag,AD.nil,AD.cons,AF,AG,AB,AH,AE.set,AE.B5,AE.refl,CU,D4,AA n0,AA hcb,Sc.Ad (fun j hj=>AA hj) rs1,Sc.Ad (fun j hj=>AA hj) ls1,Sc.Ad (fun j hj=>AA hj) us1,Sc.Ad (fun j hj=>AA hj) ws1,hnt2,hnt4])
   ·have e2:Di s a b=⟨1,(Aj s.u i).By,0⟩:=by rw [e];unfold G8;rw [if_neg k1,if_neg k2]
    (repeat ((try refine Vc.mk' ?_);simp only [go_sem,reduceCtorEq,Nat.reduceAdd,Nat.reduceLeDiff,fz,k1,k2]))
    simp only [e2]
    (refine ⟨[],by simp,by simp,by simp, ?_, ?_, ?_⟩ <;> simp [Ad,Ag,AD.nil,AD.cons,AF,AG,AB,AH,AE.set,AE.B5,AE.refl,CU,D4,AA n0,AA hcb,Sc.Ad (fun j hj=>AA hj) rs1,Sc.Ad (fun j hj=>AA hj) ls1,Sc.Ad (fun j hj=>AA hj) us1,Sc.Ad (fun j hj=>AA hj) ws1,hnt2,hnt4])
  ·have hi2:i=s.u.length:=by omega
   subst hi2
   have e:Di s a b=⟨1,0,0⟩:=b6 hm
   refine CW.vc Jo [0,1,2,6,7,8,28,60,63,67] (by kernel_rfl) ?_
   (repeat ((try refine Vc.mk' ?_);simp only [go_sem,Nat.reduceAdd,Nat.reduceLT,Nat.reduceLeDiff,Az,Dy,hT2,AS n0,FY hu,xR,Nat.lt_irrefl,decide_false,fz]))
   simp only [e]
   (refine ⟨[],by simp,by simp,by simp, ?_, ?_, ?_⟩ <;> simp [Ad,Ag,AD.nil,AD.cons,AF,AG,AB,AH,AE.set,AE.B5,AE.refl,CU,D4,AA n0,AA hcb,Sc.Ad (fun j hj=>AA hj) rs1,Sc.Ad (fun j hj=>AA hj) ls1,Sc.Ad (fun j hj=>AA hj) us1,Sc.Ad (fun j hj=>AA hj) ws1,hnt2])
end Go.Proofs.Ytmppehipfpkepaa.Dm
/- The document's Bc: Send. -/
set_option linter.unusedVariables false
namespace Go.Proofs.Ytmppehipfpkepaa.Dm
open Go.Dm
set_option maxHeartbeats 16000000
set_option maxRecDepth 20000
noncomputable def zz:FuncId→Bp:=Bu (Bu (Bu (Bu G31 52 Ft) 78 HN) 75 OI) 74 P9
theorem II:Cf Try.prog tt.get zz:=(((Jo.add pB).add yD).add uN).add lY
theorem Jk:zz 73=GP:=rfl
theorem N8:zz 52=Ft:=rfl
theorem fL:zz 75=OI:=rfl
theorem Sd:zz 74=P9:=rfl
def DE (s:As)(a b:Int)(len:Nat):Int:=if s.l.any (Gr.pr a b)=false then 2 else if 512 < len then 3 else if Mz s a b=false then 9 else if 16382 < s.w.length then 8 else 0
def atR (s:As)(Pd:Int):Int:=BQ .u64 (s.now+BQ .u64 (BQ .i64 (s.late+Pd)))
def Sr (s:As)(Pd:Int)(m:Ae):As:= {s with w:=JX s.w (atR s Pd) m}
def G6 (s:As)(a b:Int)(m:List UInt8):Nat→As
 |0=>Dy s a b
 |1=>Sr (Dy s a b) (Di s a b).Ee ⟨a,b,m⟩
 |_=>Sr (Sr (Dy s a b) (Di s a b).Ee ⟨a,b,m⟩) (Di s a b).Second ⟨a,b,m⟩
theorem jD (r:A8):(G8 r).Bb=0∨(G8 r).Bb=1∨(G8 r).Bb=2:=by
 unfold G8
 split
 ·exact .inl rfl
 ·split
  ·exact .inr (.inr rfl)
  ·exact .inr (.inl rfl)
theorem Pc (s:As)(a b:Int):(Di s a b).Bb=0∨(Di s a b).Bb=1∨(Di s a b).Bb=2:=by
 unfold Di Jq
 split
 ·exact .inr (.inl rfl)
 ·exact jD _
noncomputable def GJ (n:Nat)(v:Bh)(s:As)(a b:Int)(m:List UInt8)(top:Nat):Value×BC×Nat:=
 if ¬DE s a b m.length=0 then (.tuple ⟨[.agg ⟨[.int .i64 0, .int .i64 0, .int .i64 0]⟩, .int .i64 (DE s a b m.length)]⟩, [],top)
 else if (Di s a b).Bb=0 then (.tuple ⟨[.agg ⟨JV.enc (Di s a b)⟩, .int .i64 0]⟩, [(n,Az v (Dy s a b))],top)
 else (.tuple ⟨[.agg ⟨JV.enc (Di s a b)⟩, .int .i64 0]⟩, [(n,Az {v with wv:=AK top (G6 s a b m (Di s a b).Bb.toNat).w} (G6 s a b m (Di s a b).Bb.toNat)),(top,AO Be (G6 s a b m (Di s a b).Bb.toNat).w)],top+1)
noncomputable def PJ:Bp:= .det (fun args hp _=>match args with | [.pointer (some ⟨n,0,none⟩),a,b,m]=>GM hp n∧EO .i64 a∧EO .i64 b∧T6 m | _=>False) (fun args hp top=>match args with
 | [.pointer (some ⟨n,_,_⟩),a,b,m]=>GJ n (OA hp n) (IH hp n) (intOf a) (intOf b) (strOf m) top | _=>(undef, [],top))
theorem CD.ask {hp:Hp}{n:Nat}{v:Bh}{s:As}(h:CD hp n v s)(a b:Int):CD (hp.set n (Az v (Dy s a b))) n v (Dy s a b):=
 h.tm _ (AB ..) (fun j hj _=>AH _ _ _ _ hj) rfl rfl rfl rfl rfl rfl rfl rfl (O8 h.w h.h (by decide)) h.sl (by show (s.ks.set _ _).length=625;rw [List.length_set];exact h.kl) h.wl
theorem CD.put {hp:Hp}{n top:Nat}{v:Bh}{s:As}(h:CD hp n v s)(ht:hp top=none)(hn:n≠top)(hl:s.w.length < 1000000)(a:Int)(m:Ae):CD ((hp.set n (Az {v with wv:=AK top (JX s.w a m)} {s with w:=JX s.w a m})).set top (AO Be (JX s.w a m))) n {v with wv:=AK top (JX s.w a m)} {s with w:=JX s.w a m}:=by
 have hwl:=TC s.w a m
 refine h.tm _ ((AH _ _ _ _ hn).trans (AB ..)) (fun j hj hne=> ?_) rfl rfl rfl rfl rfl rfl rfl rfl (.own (AB ..) (by show (JX s.w a m).length≤_;omega)) h.sl h.kl (by show (JX s.w a m).length≤_;omega)
 have:j≠top:=fun e=>hne (by rw [e];exact ht)
 rw [AH _ _ _ _ this,AH _ _ _ _ hj]
theorem CD.fresh {hp:Hp}{n x:Nat}{v:Bh}{s:As}(h:CD hp n v s)(hx:hp x=none)(o:Option BB):CD (hp.set x o) n v s:=by
 have hn:n≠x:=fun e=>by have:=h.h;rw [e,hx] at this;cases this
 refine h.tm _ ((AH _ _ _ _ hn).trans h.h) (fun j hj hne=>AH _ _ _ _ fun e=>hne (by rw [e];exact hx)) rfl rfl rfl rfl rfl rfl rfl rfl (iK h.w hx) h.sl h.kl h.wl
theorem pW:BK Try.prog 44 PJ:=by
 refine .Cc XQ ?_
 intro args hp top hpre hcl hsc
 match args,hpre with
 | [.pointer (some ⟨n,0,none⟩),a,b,m],⟨⟨v,s,h⟩,ha,hb,hm⟩=>
 rw [ha,hb,hm]
 generalize intOf a=a
 generalize intOf b=b
 generalize strOf m=m
 simp only [h.s,h.v,BA,D1]
 have hh:=h.h
 have us1:=h.u.low hcl
 have rs1:=h.R.low hcl
 have ls1:=h.l.low hcl
 have ws1:=h.w.low hcl
 have hcb:=h.qG hcl
 have n0:n < top:=hcl.lt _ _ hh
 have hnt0:¬top=n:=by omega
 have hnt1:¬top+1=n:=by omega
 have hnt2:¬top+2=n:=by omega
 have hnt3:¬top+3=n:=by omega
 have hnt4:¬top+4=n:=by omega
 have hnu0:¬n=top:=by omega
 have hnu1:¬n=top+1:=by omega
 have hnu2:¬n=top+2:=by omega
 have hnu3:¬n=top+3:=by omega
 have hnu4:¬n=top+4:=by omega
 have hno:∀k,hp (top+k)=none:=fun k=>by
  cases e:hp (top+k) with
  |none=>rfl
  |some o=>exact absurd (hcl.lt _ _ e) (by omega)
 have hT:=Cz (wv:=v.wv) h.sl h.kl
 have hW:=Md (wv:=v.wv) h.sl h.kl
 have R0:∀ {o:Option BB},CD (hp.set top o) n v s:=fun {o}=>h.fresh (hno 0) o
 have i0:∀ {o:Option BB},GM (hp.set top o) n=True:=fun {o}=>R0.is
 have s0:∀ {o:Option BB},IH (hp.set top o) n=s:=fun {o}=>R0.s
 have v0:∀ {o:Option BB},OA (hp.set top o) n=v:=fun {o}=>R0.v
 refine AL.Au BE XQ rfl 82 rfl [.cell 8 28, .tmp 9] rfl (show 4≤82 by decide) ?_
 cases c1:s.l.any (Gr.pr a b) with
 |false=>
  have e:UM s.l a b= -1:=by unfold UM;rw [if_neg (by rw [c1];simp)]
  have e2:DE s a b m.length=2:=by unfold DE;rw [if_pos c1]
  refine CW.vc II [0,1,2,3,8,9,10,11,16,20,26,33,45,64] (by kernel_rfl) ?_
  (repeat ((try refine Vc.mk' ?_);simp only [go_sem,Nat.reduceAdd,Int.reduceLT,Jk,GP,i0,s0,e]))
  simp only [GJ,e2]
  (refine ⟨[],by simp,by simp,by simp, ?_, ?_, ?_⟩ <;> simp [Ad,Ag,AD.nil,AE.set,AE.refl])
 |true=>
 have e:UM s.l a b=((s.l.findIdx (Gr.pr a b):Nat):Int):=by unfold UM;rw [if_pos c1]
 have e0:¬((s.l.findIdx (Gr.pr a b):Nat):Int) < 0:=by omega
 obtain ⟨⟨a1,a2⟩,b1,b2⟩:=JE h.lr c1
 by_cases c2:512 < m.length
 ·have c2':512 < (m.length:Int):=by omega
  have e2:DE s a b m.length=3:=by unfold DE;rw [if_neg (by rw [c1];simp),if_pos c2]
  refine CW.vc II [0,1,2,3,8,9,10,11,16,20,26,33,45,64] (by kernel_rfl) ?_
  (repeat ((try refine Vc.mk' ?_);simp only [go_sem,Nat.reduceAdd,Jk,GP,i0,s0,Lf,e,e0,c2']))
  simp only [GJ,e2]
  (refine ⟨[],by simp,by simp,by simp, ?_, ?_, ?_⟩ <;> simp [Ad,Ag,AD.nil,AE.set,AE.refl])
 have c2':¬512 < (m.length:Int):=by omega
 cases c3:Mz s a b with
 |false=>
  have e2:DE s a b m.length=9:=by unfold DE;rw [if_neg (by rw [c1];simp),if_neg c2,if_pos c3]
  refine CW.vc II [0,1,2,3,8,9,10,11,16,20,26,33,45,64] (by kernel_rfl) ?_
  (repeat ((try refine Vc.mk' ?_);simp only [go_sem,Nat.reduceAdd,Jk,GP,N8,Ft,i0,s0,Lf,e,e0,c2',c3]))
  simp only [GJ,e2]
  (refine ⟨[],by simp,by simp,by simp, ?_, ?_, ?_⟩ <;> simp [Ad,Ag,AD.nil,AE.set,AE.refl])
 |true=>
 have hw:=h.w
 have ws:=ws1
 by_cases c4:16382 < s.w.length
 ·have c4':16382 < (s.w.length:Int):=by omega
  have e2:DE s a b m.length=8:=by unfold DE;rw [if_neg (by rw [c1];simp),if_neg c2,if_neg (by rw [c3];simp),if_pos c4]
  refine CW.vc II [0,1,2,3,8,9,10,11,16,20,26,33,45,64] (by kernel_rfl) ?_
  (repeat ((try refine Vc.mk' ?_);simp only [go_sem,Nat.reduceAdd,hh,Az,hT,hW,AS n0,Jk,GP,N8,Ft,i0,s0,Lf,e,e0,c2',c3,c4',FG hw]))
  simp only [GJ,e2]
  (refine ⟨[],by simp,by simp,by simp, ?_, ?_, ?_⟩ <;> simp [Ad,Ag,AD.nil,AE.set,AE.refl])
 have c4':¬16382 < (s.w.length:Int):=by omega
 have e2:DE s a b m.length=0:=by unfold DE;rw [if_neg (by rw [c1];simp),if_neg c2,if_neg (by rw [c3];simp),if_neg c4]
 have R1:∀ {o:Option BB},CD ((hp.set top o).set n (Az v (Dy s a b))) n v (Dy s a b):=fun {o}=>R0.ask a b
 have R3:∀ {o p q:Option BB},CD ((((hp.set top o).set n (Az v (Dy s a b))).set (top+1) p).set (top+2) q) n v (Dy s a b):=fun {o p q}=>
  ((R1 (o:=o)).fresh (by rw [AH _ _ _ _ hnt1,AH _ _ _ _ (by omega)];exact hno 1) p).fresh (by rw [AH _ _ _ _ (by omega),AH _ _ _ _ hnt2,AH _ _ _ _ (by omega)];exact hno 2) q
 have i3:∀ {o p q:Option BB},GM ((((hp.set top o).set n (Az v (Dy s a b))).set (top+1) p).set (top+2) q) n=True:=fun {o p q}=>R3.is
 have s3:∀ {o p q:Option BB},IH ((((hp.set top o).set n (Az v (Dy s a b))).set (top+1) p).set (top+2) q) n=Dy s a b:=fun {o p q}=>R3.s
 have v3:∀ {o p q:Option BB},OA ((((hp.set top o).set n (Az v (Dy s a b))).set (top+1) p).set (top+2) q) n=v:=fun {o p q}=>R3.v
 have hAw:(Dy s a b).w=s.w:=rfl
 have hwl:s.w.length < 1000000:=by omega
 have hT3:∀ {w:Value},(DG (Dy s a b).st (Dy s a b).ks w).length=651:=fun {w}=>Cz h.sl (by show (s.ks.set _ _).length=625;rw [List.length_set];exact h.kl)
 have hW3:∀ {w:Value},((DG (Dy s a b).st (Dy s a b).ks w)[650]?).getD undef=w:=fun {w}=>Md h.sl (by show (s.ks.set _ _).length=625;rw [List.length_set];exact h.kl)
 have hA1:(Dy s a b).late=s.late:=rfl
 have hA2:(Dy s a b).now=s.now:=rfl
 have hA3:(Dy s a b).ic=s.ic:=rfl
 simp only [Az,hA1,hA2,hA3] at i3 s3 v3
 obtain ⟨F,hF⟩:∃F,Di s a b=F:=⟨_,rfl⟩
 have hcop:=Pc s a b
 rw [hF] at hcop
 rcases hcop with hc | hc | hc
 ·refine CW.vc II [0,1,2,3,8,9,10,11,16,20,26,33,45,64] (by kernel_rfl) ?_
  (repeat ((try refine Vc.mk' ?_);simp only [go_sem,reduceCtorEq,Nat.reduceAdd,Nat.reduceLeDiff,Nat.reduceEqDiff,Int.reduceLT,hh,Az,hT,hW,AS n0,Jk,GP,N8,Ft,Sd,P9,i0,s0,v0,Lf,e,e0,c2',c3,c4',FG hw,a1,a2,b1,b2,hF,hc,LF,hnt0]))
  simp only [GJ,e2,hF,hc,not_true_eq_false,if_false,if_true]
  (refine ⟨[],by simp,by simp,by simp, ?_, ?_, ?_⟩ <;> simp [Ad,Ag,AD.nil,AD.cons,AF,AG,AB,AH,AE.set,AE.B5,AE.refl,Az,Dy,CU,D4,AA n0,AA hcb,Sc.Ad (fun j hj=>AA hj) rs1,Sc.Ad (fun j hj=>AA hj) ls1,Sc.Ad (fun j hj=>AA hj) us1,Sc.Ad (fun j hj=>AA hj) ws1,hnu0,hnu1,hnu2,LF,hc])
 ·refine CW.vc II [0,1,2,3,8,9,10,11,16,20,26,33,45,64] (by kernel_rfl) ?_
  (repeat ((try refine Vc.mk' ?_);simp only [go_sem,reduceCtorEq,Nat.reduceAdd,Nat.reduceLT,Nat.reduceLeDiff,Nat.reduceEqDiff,Int.reduceLT,hh,Az,hT,hW,AS n0,Jk,GP,N8,Ft,fL,OI,Sd,P9,i0,s0,v0,Lf,e,e0,c2',c3,c4',FG hw,a1,a2,b1,b2,hF,hc,LF,i3,s3,v3,hAw,hwl,hnt0,hnt1,hnt3,EW,Ml,TP,hT3,hA1,hA2,hA3]))
  have hw1:(G6 s a b m 1).w=JX s.w (BQ .u64 (s.now+BQ .u64 (BQ .i64 (s.late+F.Ee)))) ⟨a,b,m⟩:=by rw [←hF];rfl
  have hs1:Az {v with wv:=AK top (G6 s a b m 1).w} (G6 s a b m 1)=Az {v with wv:=AK top (G6 s a b m 1).w} {Dy s a b with w:=(G6 s a b m 1).w}:=rfl
  have ht1:(1:Int).toNat=1:=rfl
  simp only [GJ,e2,hF,hc,not_true_eq_false,if_false,if_neg (show ¬(1:Int)=0 by decide),ht1,hs1]
  rw [hw1]
  (refine ⟨[top+3],by simp,by simp,by simp, ?_, ?_, ?_⟩ <;> simp [Ad,Ag,AD.nil,AD.cons,AF,AG,AQ,AM,Af,AB,AH,AE.set,AE.B5,AE.refl,Az,Dy,CU,D4,AA n0,AA hcb,Sc.Ad (fun j hj=>AA hj) rs1,Sc.Ad (fun j hj=>AA hj) ls1,Sc.Ad (fun j hj=>AA hj) us1,hnu0,hnu3,LF,hc])
 ·obtain ⟨w1,hw1⟩:∃w1,JX s.w (BQ .u64 (s.now+BQ .u64 (BQ .i64 (s.late+F.Ee)))) ⟨a,b,m⟩=w1:=⟨_,rfl⟩
  have hw1l:w1.length < 1000000:=by rw [←hw1,TC];omega
  have R4:∀ {o p q:Option BB},CD ((((((hp.set top o).set n (Az v (Dy s a b))).set (top+1) p).set (top+2) q).set n (Az {v with wv:=AK (top+3) w1} {Dy s a b with w:=w1})).set (top+3) (AO Be w1)) n {v with wv:=AK (top+3) w1} {Dy s a b with w:=w1}:=fun {o p q}=>by
   have:=(R3 (o:=o) (p:=p) (q:=q)).put (top:=top+3) (by rw [AH _ _ _ _ (by omega),AH _ _ _ _ (by omega),AH _ _ _ _ hnt3,AH _ _ _ _ (by omega)];exact hno 3) hnu3 (by show s.w.length < 1000000;omega) (BQ .u64 (s.now+BQ .u64 (BQ .i64 (s.late+F.Ee)))) ⟨a,b,m⟩
   rw [show (Dy s a b).w=s.w from rfl,hw1] at this
   exact this
  have i4:∀ {o p q:Option BB},GM ((((((hp.set top o).set n (Az v (Dy s a b))).set (top+1) p).set (top+2) q).set n (Az {v with wv:=AK (top+3) w1} {Dy s a b with w:=w1})).set (top+3) (AO Be w1)) n=True:=fun {o p q}=>R4.is
  have s4:∀ {o p q:Option BB},IH ((((((hp.set top o).set n (Az v (Dy s a b))).set (top+1) p).set (top+2) q).set n (Az {v with wv:=AK (top+3) w1} {Dy s a b with w:=w1})).set (top+3) (AO Be w1)) n= {Dy s a b with w:=w1}:=fun {o p q}=>R4.s
  have v4:∀ {o p q:Option BB},OA ((((((hp.set top o).set n (Az v (Dy s a b))).set (top+1) p).set (top+2) q).set n (Az {v with wv:=AK (top+3) w1} {Dy s a b with w:=w1})).set (top+3) (AO Be w1)) n= {v with wv:=AK (top+3) w1}:=fun {o p q}=>R4.v
  simp only [Az,hA1,hA2,hA3] at i4 s4 v4
  refine CW.vc II [0,1,2,3,8,9,10,11,16,20,26,33,45,64] (by kernel_rfl) ?_
  (repeat ((try refine Vc.mk' ?_);simp only [go_sem,reduceCtorEq,Nat.reduceAdd,Nat.reduceLT,Nat.reduceLeDiff,Nat.reduceEqDiff,Int.reduceLT,hh,Az,hT,hW,AS n0,Jk,GP,N8,Ft,fL,OI,Sd,P9,i0,s0,v0,Lf,e,e0,c2',c3,c4',FG hw,a1,a2,b1,b2,hF,hc,LF,i3,s3,v3,hAw,hwl,hw1,hw1l,i4,s4,v4,hnt0,hnt1,hnt2,hnt3,hnt4,EW,Ml,TP,hT3,hA1,hA2,hA3]))
  have hw2:(G6 s a b m 2).w=JX w1 (BQ .u64 (s.now+BQ .u64 (BQ .i64 (s.late+F.Second)))) ⟨a,b,m⟩:=by rw [←hw1,←hF];rfl
  have hs2:Az {v with wv:=AK top (G6 s a b m 2).w} (G6 s a b m 2)=Az {v with wv:=AK top (G6 s a b m 2).w} {Dy s a b with w:=(G6 s a b m 2).w}:=rfl
  have ht2:(2:Int).toNat=2:=rfl
  simp only [GJ,e2,hF,hc,not_true_eq_false,if_false,if_neg (show ¬(2:Int)=0 by decide),ht2,hs2]
  rw [hw2]
  (refine ⟨[top+4],by simp,by simp,by simp, ?_, ?_, ?_⟩ <;> simp [Ad,Ag,AD.nil,AD.cons,AF,AG,AQ,AM,Af,AB,AH,AE.set,AE.B5,AE.refl,Az,Dy,CU,D4,AA n0,AA hcb,Sc.Ad (fun j hj=>AA hj) rs1,Sc.Ad (fun j hj=>AA hj) ls1,Sc.Ad (fun j hj=>AA hj) us1,hnu0,hnu4,LF,hc])
end Go.Proofs.Ytmppehipfpkepaa.Dm
/- The document's Bc: Tick. -/
set_option linter.unusedVariables false
namespace Go.Proofs.Ytmppehipfpkepaa.Dm
open Go.Dm
set_option maxHeartbeats 16000000
set_option maxRecDepth 20000
def UE (v:Value):Nat→Value
 |0=>v
 |k+1=>Mb 4 (UE v k) 1
theorem Tg {hp:Hp}{v:Value}{w:List D6}(h:BU Be hp v w):∀ {k:Nat},k≤w.length→BU Be hp (UE v k) (w.drop k)
 |0,_=>h
 |k+1,hk=>by
  have ih:=Tg h (k:=k) (by omega)
  have:=ih.drop (n:=1) (by rw [List.length_drop];omega)
  rw [List.drop_drop] at this
  exact this
def QT (s:As):Int:=BQ .u64 (s.now+1)
def kR (s:As):Nat:=(s.w.takeWhile fun x=>decide (x.At≤QT s)).length
def wm (x:D6):Ae:=⟨x.HD,x.PY,x.Hq⟩
theorem ACI (s:As):kR s≤s.w.length:=(List.takeWhile_sublist _).length_le
def SC (s:As):As:= {s with now:=QT s,w:=s.w.drop (kR s)}
def MZ (s:As):List Ae:=(s.w.take (kR s)).map wm
noncomputable def Hh (n:Nat)(v:Bh)(s:As)(top:Nat):Value×BC×Nat:=
 if s.now < 1099511627776 then (AK top (MZ s), [(n,Az {v with wv:=UE v.wv (kR s)} (SC s)),(top,AO AJ (MZ s))],top+1) else (.slice none 0 0, [],top)
noncomputable def PD:Bp:= .det (fun args hp _=>match args with | [.pointer (some ⟨n,0,none⟩)]=>GM hp n | _=>False) (fun args hp top=>match args with
 | [.pointer (some ⟨n,_,_⟩)]=>Hh n (OA hp n) (IH hp n) top | _=>(undef, [],top))
def Tt (s:As)(k:Nat):List Ae:=(s.w.take k).map wm
theorem iJ {s:As}{k:Nat}(h:k < s.w.length):Tt s (k+1)=Tt s k ++ [⟨(Aj s.w k).HD,(Aj s.w k).PY,(Aj s.w k).Hq⟩]:=by
 unfold Tt;rw [CO h,List.map_append];rfl
def qc (hp:Hp)(top n:Nat)(v:Bh)(s:As)(k:Nat):SS:=⟨[(0, .pointer (some ⟨n,0,none⟩),true),(3,AK top (Tt s k),true)],hp.AZ [(n,Az {v with wv:=UE v.wv k} {s with now:=QT s}),(top,AO AJ (Tt s k))],top+1⟩
theorem nP:BK Try.prog 46 PD:=by
 refine .Cc V8 ?_
 intro args hp top hpre hcl hsc
 match args,hpre with
 | [.pointer (some ⟨n,0,none⟩)],⟨v,s,h⟩=>
 simp only [h.s,h.v]
 have hh:=h.h
 have us1:=h.u.low hcl
 have rs1:=h.R.low hcl
 have ls1:=h.l.low hcl
 have hw:=h.w
 have hcb:=h.qG hcl
 have n0:n < top:=hcl.lt _ _ hh
 have hnt0:¬top=n:=by omega
 have hnu0:¬n=top:=by omega
 have hnt1:¬top+1=n:=by omega
 have hnu1:¬n=top+1:=by omega
 have hnt2:¬top+2=n:=by omega
 have hnu2:¬n=top+2:=by omega
 have hT:=Cz (wv:=v.wv) h.sl h.kl
 have hW:=Md (wv:=v.wv) h.sl h.kl
 have hT2:∀ {w:Value},(DG s.st s.ks w).length=651:=fun {w}=>Cz h.sl h.kl
 have hW2:∀ {w:Value},((DG s.st s.ks w)[650]?).getD undef=w:=fun {w}=>Md h.sl h.kl
 have hSW:∀ {w:Value} {x:Value},Am (DG s.st s.ks w) 650 [x] = DG s.st s.ks x:=fun {w} {x}=>Nl h.sl h.kl x
 have hnw:BQ .u64 (s.now+1)=QT s:=rfl
 have hwr:∀ {ρ:Nat→Nat} {k:Nat},k≤s.w.length→(∀j,j < top→ρ j=j)→Ad ρ (UE v.wv k)=UE v.wv k:=fun {ρ} {k} hk hr=>((Tg hw hk).low hcl).Ad hr
 refine AL.Au BE V8 rfl 55 rfl [.tmp 2] rfl (show 1≤55 by decide) ?_
 by_cases c:s.now < 1099511627776
 case neg=>
  refine CW.vc II [0,2,3,8,35] (by kernel_rfl) ?_
  (repeat ((try refine Vc.mk' ?_);simp only [go_sem,Nat.reduceAdd,Nat.reduceLT,hh,Az,hT,c]))
  simp only [Hh,if_neg c]
  (refine ⟨[],by simp,by simp,by simp, ?_, ?_, ?_⟩ <;> simp [Ad,AD.nil,AE.refl])
 refine CW.vc II [0,2,3,8,35] (by kernel_rfl) ?_
 (repeat ((try refine Vc.mk' ?_);simp only [go_sem,Nat.reduceAdd,Nat.reduceLT,Nat.reduceLeDiff,hh,Az,hT,hnw,c]))
 refine CW.CZ (qc hp top n v s) (fun k=>k≤s.w.length∧∀j,j < k→decide ((Aj s.w j).At≤QT s)=true) (fun k=>s.w.length - k) 0 ⟨Nat.zero_le _,fun j hj=>absurd hj (Nat.not_lt_zero _)⟩ ?_ ?_
 ·have e0:Tt s 0= []:=rfl
  have e1:UE v.wv 0=v.wv:=rfl
  have ws1:=hw.low hcl
  exact (by refine BO.mk' [top] hcl (by simp) (by simp) rfl (AV ?_) ?_ ?_ <;> simp [Ax,Cd,Ad,Ag,AD.nil,AD.cons,AF,AG,AM,AB,AH,AE.B5,AE.refl,Az,CU,D4,AA n0,AA hcb,Sc.Ad (fun j hj=>AA hj) rs1,Sc.Ad (fun j hj=>AA hj) ls1,Sc.Ad (fun j hj=>AA hj) us1,hnt0,hnu0,e0,e1,Dh,EN,Sc.Ad (fun j hj=>AA hj) ws1])
 ·rintro k ⟨hk,hm⟩
  have hwk:=Tg hw hk
  have wks:=hwk.low hcl
  have hwl:(s.w.drop k).length=s.w.length - k:=List.length_drop
  have hol:(Tt s k).length≤s.w.length:=by unfold Tt;rw [List.length_map,List.length_take];omega
  have hwk2:∀ {o:Option BB},BU Be (hp.set n o) (UE v.wv k) (s.w.drop k):=fun {o}=>O8 hwk hh (by decide)
  have fin:(k=s.w.length∨¬(Aj s.w k).At≤QT s)→kR s=k:=fun hc=>cQ hk hm fun hlt=>by
   rcases hc with hc | hc
   ·omega
   ·exact decide_eq_false hc
  by_cases c1:k < s.w.length
  ·have d0:Aj (s.w.drop k) 0=Aj s.w k:=by unfold Aj;rw [List.getElem?_drop];rfl
   have c1':(0:Int) < ((s.w.drop k).length:Int):=by omega
   have c1n:0 < (s.w.drop k).length:=by omega
   have fA:AI tt.get 144 (BM (UE v.wv k) 0) 0=(BM (UE v.wv k) 0,True):=Qd hwk (i:=0) c1n
   have fB:AI tt.get 144 (BM (UE v.wv k) 0) 1=(BM (UE v.wv k) 1,True):=Qi hwk (i:=0) c1n
   have lA:∀ {o:Option BB},CS tt.get (hp.set n o) 32 (BM (UE v.wv k) 0)=(.int .u64 (Aj s.w k).At,True):=fun {o}=>by
    have:=PZ (hwk2 (o:=o)) (i:=0) c1n
    rw [d0] at this
    exact this
   have lM:∀ {o:Option BB},CS tt.get (hp.set n o) 37 (BM (UE v.wv k) 1)=(.agg ⟨[.int .i64 (Aj s.w k).HD, .int .i64 (Aj s.w k).PY, .string ⟨⟨(Aj s.w k).Hq⟩⟩]⟩,True):=fun {o}=>by
    have:=(hwk2 (o:=o)).sub (tt:=tt.get) (e:=37) ED rfl (i:=0) (f:=1) c1n (by decide)
    rw [d0] at this
    exact this
   have hol2:(Tt s k).length < 16777216:=by have:=h.wl;omega
   have hsu:=iJ c1
   by_cases c2:(Aj s.w k).At≤QT s
   ·have c2':¬QT s < (Aj s.w k).At:=by omega
    refine CW.vc II [0,2,3,8,35] (by kernel_rfl) ?_
    have lS:∀ {o:Option BB},DU tt.get (hp.set n o) 71 (UE v.wv k) (some (.int .i64 1)) none=(UE v.wv (k+1),True):=fun {o}=>YC (hwk2 (o:=o)) (by decide) (by omega)
    have hwk3:=Tg hw (k:=k+1) c1
    have oc3:=hwk3.oc
    have cl3:=hwk3.cl
    have wks3:=hwk3.low hcl
    (repeat ((try refine Vc.mk' ?_);simp only [go_sem,reduceCtorEq,Nat.reduceAdd,Nat.reduceMul,Nat.reduceLT,Nat.reduceLeDiff,Int.reduceLE,Az,hSW,hT2,hW2,AS n0,FG hwk,KY hwk,Ao wks,Ka hwk wks GA,qc,c1',c2',fA,fB,lA,lM,hol2,lS,oc3,cl3,EW,Ml]))
    refine .mk (k+1) ⟨c1,fun j hj=> ?_⟩ (by omega) ((by refine BO.mk' [top+2] hcl (by simp) (by simp) rfl (AV ?_) ?_ ?_ <;> simp [Ax,Cd,Ad,Ag,AD.nil,AD.cons,AF,AG,AQ,AM,Af,AB,AH,AE.set,AE.B5,AE.refl,Az,CU,D4,AA n0,AA hcb,Sc.Ad (fun j hj=>AA hj) rs1,Sc.Ad (fun j hj=>AA hj) ls1,Sc.Ad (fun j hj=>AA hj) us1,hnu0,hnt2,hsu,Sc.Ad (fun j hj=>AA hj) wks3]))
    by_cases e:j < k
    ·exact of_decide_eq_true (hm j e)
    ·have:j=k:=by omega
     subst this;exact c2
   ·have c2':QT s < (Aj s.w k).At:=by omega
    refine CW.vc II [0,2,3,8,35] (by kernel_rfl) ?_
    (repeat ((try refine Vc.mk' ?_);simp only [go_sem,Nat.reduceAdd,Nat.reduceLT,Int.reduceLE,Az,hT2,hW2,AS n0,FG hwk,KY hwk,Ao wks,qc,c1',c2',fA,lA]))
    have ek:=fin (.inr c2)
    simp only [Hh,if_pos c,SC,MZ,ek]
    (refine ⟨[top],by simp,by simp,by simp, ?_, ?_, ?_⟩ <;> simp [Ad,Ag,AD.nil,AD.cons,AF,AG,AQ,AM,Af,AB,AH,AE.set,AE.B5,AE.refl,Az,CU,D4,AA n0,AA hcb,Sc.Ad (fun j hj=>AA hj) rs1,Sc.Ad (fun j hj=>AA hj) ls1,Sc.Ad (fun j hj=>AA hj) us1,hnu0,Tt,hk,Sc.Ad (fun j hj=>AA hj) wks])
  ·have c1':¬(0:Int) < ((s.w.drop k).length:Int):=by omega
   refine CW.vc II [0,2,3,8,35] (by kernel_rfl) ?_
   (repeat ((try refine Vc.mk' ?_);simp only [go_sem,Nat.reduceAdd,Az,hT2,hW2,AS n0,FG hwk,qc,c1']))
   have ek:=fin (.inl (by omega))
   simp only [Hh,if_pos c,SC,MZ,ek]
   (refine ⟨[top],by simp,by simp,by simp, ?_, ?_, ?_⟩ <;> simp [Ad,Ag,AD.nil,AD.cons,AF,AG,AQ,AM,Af,AB,AH,AE.set,AE.B5,AE.refl,Az,CU,D4,AA n0,AA hcb,Sc.Ad (fun j hj=>AA hj) rs1,Sc.Ad (fun j hj=>AA hj) ls1,Sc.Ad (fun j hj=>AA hj) us1,hnu0,Tt,hk,Sc.Ad (fun j hj=>AA hj) wks])
end Go.Proofs.Ytmppehipfpkepaa.Dm
