/- Parse's frame. -/
import Derived.Test.YthlhnangbinhoaaGreatDoorSP
set_option linter.unusedSimpArgs false
set_option linter.unusedVariables false
namespace Go.Proofs.YthlhnangbinhoaaGreatDoor.Dm
open Go.Dm
set_option maxHeartbeats 64000000
set_option maxRecDepth 20000
mutual
theorem aQ {n m:Nat}(hnm:n≤m):∀ {v:Value},Sc n v→Sc m v
 | .bool _,_=>trivial
 | .int _ _,_=>trivial
 | .float _ _,_=>trivial
 | .complex _ _ _,_=>trivial
 | .string _,_=>trivial
 | .pointer none,_=>trivial
 | .pointer (some ⟨_,_,_⟩),h=>Nat.lt_of_lt_of_le h hnm
 | .slice none _ _,_=>trivial
 | .slice (some ⟨_,_,none⟩) _ _,h=>Nat.lt_of_lt_of_le h hnm
 | .slice (some ⟨_,_,some _⟩) _ _,_=>trivial
 | .map none,_=>trivial
 | .map (some _),h=>Nat.lt_of_lt_of_le h hnm
 | .chan _,_=>trivial
 | .func _ ⟨_⟩ ⟨_⟩,h=>⟨Oh hnm h.1,Oh hnm h.2⟩
 | .nilFunc,_=>trivial
 | .iface _ v,h=>aQ hnm (v:=v) h
 | .nilIface,_=>trivial
 | .agg ⟨l⟩,h=>Oh hnm (l:=l) h
 | .tuple ⟨l⟩,h=>Oh hnm (l:=l) h
theorem Oh {n m:Nat}(hnm:n≤m):∀ {l:List Value},Pv n l→Pv m l
 | [],_=>trivial
 |_ :: _,h=>⟨aQ hnm h.1,Oh hnm h.2⟩
end
theorem uI {n m:Nat}(hnm:n≤m):∀ {o:BI},ye n o→ye m o
 | .cells _ _ _,h=>Oh hnm h
 | .map _ _,h=>fun e he=>⟨aQ hnm (h e he).1,aQ hnm (h e he).2⟩
 | .iter _ _,_=>trivial
 | .miter _ _ _ _,h=>Nat.lt_of_lt_of_le h hnm
 | .raw _ _,_=>trivial
def Hu (CP:CR→Prop)(chk:CR→Int):Bz:= .det (fun args hp _=>match args with | [.string ⟨⟨s⟩⟩]=>s.length < 4294967281∧(∀x,s.length≤65536→iQ s= .inl x→CP x.S)∧Cp hp | _=>False) (fun args _ top=>match args with | [s]=>sW (Md chk (strOf s)) top | _=>(undef, [],top))
def vP:FuncId→Bz:=Cx iI 39 GZ
theorem PG:DU Tryz.prog tt.get vP:=BK.add vE
def YJ (CP:CR→Prop)(chk:CR→Int):FuncId→Bz:=Cx vP 23 (LG CP chk)
theorem gq {CP:CR→Prop}{chk:CR→Int}(h:BR Tryz.prog 23 (LG CP chk)):DU Tryz.prog tt.get (YJ CP chk):=PG.add h
theorem gU (CP:CR→Prop)(chk:CR→Int):YJ CP chk 23=LG CP chk:=rfl
theorem IM (CP:CR→Prop)(chk:CR→Int):YJ CP chk 39=GZ:=rfl
theorem Z8 (CP:CR→Prop)(chk:CR→Int):YJ CP chk 38=OQ:=rfl
theorem Eo (CP:CR→Prop)(chk:CR→Int):YJ CP chk 37=Ab:=rfl
theorem RC (CP:CR→Prop)(chk:CR→Int):YJ CP chk 35=F7:=rfl
theorem GG (CP:CR→Prop)(chk:CR→Int):YJ CP chk 36=Ew:=rfl
theorem AC5:(∃fn,FTOk Tryz.prog 33 fn)=True:=eq_true ⟨_,Qf.toFTOk⟩
def vZ:Value:= .slice none 0 0
theorem AAQ {hp:Hp}{top e b:Nat}{u:FrameMode}(he:hp e=IW .nilIface) :
  Cy Tryz.prog 33 [.pointer (some ⟨e,0,none⟩), .pointer (some ⟨b,0,none⟩)] u hp top fun u' hp' top'=>u' = u∧hp' = hp∧top' = top:=by
 refine Cy.Bn Bu Qf rfl 5 rfl [] rfl (post:=fun _ hp' top'=>hp' = hp∧top' = top) (Nat.le_of_ble_eq_true rfl) (fun _ _ _ h=>⟨rfl,h⟩) ?_
 have he':hp e=some (.cells true 0 [.nilIface]):=he
 refine CW.vc HE [0,1,3] (by kernel_rfl) ?_
 (repeat ((try refine Vc.mk' ?_);simp (maxSteps:=6000000) only [go_sem,he',T9]))
theorem AA4 {hp:Hp}{top e b:Nat}{u:FrameMode}{t:TypeId}{v:Value}{S:CR}{r k w o:Value}(he:hp e=IW (.iface t v))(hb:hp b=Bw S r k w o) :
  Cy Tryz.prog 33 [.pointer (some ⟨e,0,none⟩), .pointer (some ⟨b,0,none⟩)] u hp top fun u' hp' top'=>u' = u∧hp' = hp.set b (Bw S0 vZ vZ vZ vZ)∧top' = top:=by
 refine Cy.Bn Bu Qf rfl 5 rfl [] rfl (post:=fun _ hp' top'=>hp' = hp.set b (Bw S0 vZ vZ vZ vZ)∧top' = top) (Nat.le_of_ble_eq_true rfl) (fun _ _ _ h=>⟨rfl,h⟩) ?_
 have he':hp e=some (.cells true 0 [.iface t v]):=he
 have hb':hp b=some (.cells true 0 [.int .i64 S.W, .int .i64 S.A, .int .i64 S.T, .int .i64 S.L,r,k,w,o]):=hb
 refine CW.vc HE [0,1,3] (by kernel_rfl) ?_
 (repeat ((try refine Vc.mk' ?_);simp (maxSteps:=6000000) only [go_sem,he',hb',OD]))
 rfl
theorem Hq {hp h:Hp}{top t n:Nat}{c:Int}{S:CR}{v1 v2 v3 v4:Value}{fr:DZ}(h0:h top=Bw S v1 v2 v3 v4)(h1:h (top+1)=IW .nilIface)(h2:h (top+2)=some (.cells true 0 [.int .i64 n]))(ht:top+3≤t)(hk:Bc top [] h hp)
  (f2:Zm fr 2=(.pointer (some ⟨top,0,none⟩),true)) (f3:Zm fr 3=(.pointer (some ⟨top+1,0,none⟩),true)) :
  LV Tryz.prog tt.get [.cell 2 29, .cell 3 38] (fun v1 h1 top1=>top≤top1∧∃bs,UJ hp top bs (sW (.inr (c,n)) top) v1 h1 top1) fr [(34, [.pointer (some ⟨top+2,0,none⟩), .pointer (some ⟨top+1,0,none⟩)]),(33, [.pointer (some ⟨top+1,0,none⟩), .pointer (some ⟨top,0,none⟩)])] (xh c false) h t:=by
 rw [JC]
 refine ⟨nofun,(Wq (c:=c) (a:=top+2) (e:=top+1) (n:=n) (v:= .nilIface) h2 h1 (by omega) (by omega)).mono ?_⟩
 rintro u' hp' top' ⟨rfl,rfl,rfl⟩
 rw [show settle (xh c true)= .returning from rfl,JC]
 refine ⟨nofun,(AA4 (e:=top+1) (b:=top) (S:=S) (r:=v1) (k:=v2) (w:=v3) (o:=v4) (t:=51) (v:= .pointer (some ⟨t+1,0,none⟩)) (by simp [B5,CZ,AF,IW,I1]) (by simp [B5,CZ,AQ,h0,show ¬top=t by omega,show ¬top=t+1 by omega])).mono ?_⟩
 rintro u' hp' top' ⟨rfl,rfl,rfl⟩
 rw [show settle .returning= .returning from rfl,Vw]
 simp (maxSteps:=6000000) only [go_sem,IW,I1,I2,Bw,vZ,f2,f3,sW,Z0,S0]
 refine ⟨by omega, ?_⟩
 have e1:¬t+1=top:=by omega
 have e2:¬t=top:=by omega
 have e3:top≤t:=by omega
 have e4:top≤t+1:=by omega
 have hk1:Bc top [top] h hp:=fun i hi _=>hk i hi (by simp)
 (refine ⟨[t+1],by simp,by simp;omega,by simp, ?_, ?_, ?_⟩ <;> simp [AG ht,hk1,e1,e2,e3,e4])
def Js (hp:Hp)(top:Nat)(x:Sq):SS:=⟨[(0, .string ⟨⟨x.s⟩⟩,true),(2, .pointer (some ⟨top,0,none⟩),true),(3, .pointer (some ⟨top+1,0,none⟩),true),(4, .pointer (some ⟨top+2,0,none⟩),true),(5, .int .i64 x.last,true),(6, .int .i64 x.G4,true)],
 hp.A6 [(top,Bw x.S (AA (top+3) x.S.R) (AA (top+4) x.S.K) (AA (top+5) x.S.U) (AA (top+6) x.ops)),(top+1,IW .nilIface),(top+2,some (.cells true 0 [.int .i64 (x.n:Int)])),(top+3,AE AL x.S.R),(top+4,AE Af x.S.K),(top+5,AE AJ x.S.U),(top+6,AE A7 x.ops)],top+7⟩
theorem SM {hp h1:Hp}{top t:Nat}{fr:DZ}(x:Sq)(a b c d:Nat)(hcl:Cl hp top)(nd: [a,b,c,d].Nodup)(ge:top+3≤a∧top+3≤b∧top+3≤c∧top+3≤d)
  (f0:KI fr 0=some (.string ⟨⟨x.s⟩⟩,true)) (f2:KI fr 2=some (.pointer (some ⟨top,0,none⟩),true)) (f3:KI fr 3=some (.pointer (some ⟨top+1,0,none⟩),true)) (f4:KI fr 4=some (.pointer (some ⟨top+2,0,none⟩),true)) (f5:KI fr 5=some (.int .i64 x.last,true)) (f6:KI fr 6=some (.int .i64 x.G4,true))
  (hk:Bc top [] h1 hp) (m0:h1 top=Bw x.S (AA a x.S.R) (AA b x.S.K) (AA c x.S.U) (AA d x.ops)) (m1:h1 (top+1)=IW .nilIface) (m2:h1 (top+2)=some (.cells true 0 [.int .i64 (x.n:Int)]))
  (m3:x.S.R= []∨h1 a=AE AL x.S.R) (m4:x.S.K= []∨h1 b=AE Af x.S.K) (m5:x.S.U= []∨h1 c=AE AJ x.S.U) (m6:x.ops= []∨h1 d=AE A7 x.ops) :
  ∃ρ,Bj ρ (top+3) (Js hp top x) ⟨fr,h1,t⟩:=by
 have r0:rn (top+3) [a,b,c,d] t top=top:=AB (by omega)
 have r1:rn (top+3) [a,b,c,d] t (top+1)=top+1:=AB (by omega)
 have r2:rn (top+3) [a,b,c,d] t (top+2)=top+2:=AB (by omega)
 have r3:rn (top+3) [a,b,c,d] t (top+3)=a:=Dq (top+3) _ _ 0
 have r4:rn (top+3) [a,b,c,d] t (top+4)=b:=Dq (top+3) _ _ 1
 have r5:rn (top+3) [a,b,c,d] t (top+5)=c:=Dq (top+3) _ _ 2
 have r6:rn (top+3) [a,b,c,d] t (top+6)=d:=Dq (top+3) _ _ 3
 have hcl3:Cl hp (top+3):=⟨fun i o e=>by have:=hcl.lt i o e;omega,fun i o e=>uI (by omega) (hcl.sc i o e)⟩
 refine Bj.mk' [a,b,c,d] hcl3 nd (by simpa using ge) (n:=4) rfl (Ac ?_) ?_ ?_
 ·simp [Gk,f0,f2,f3,f4,f5,f6,Av,r0,r1,r2]
 ·intro i hi hm
  by_cases h:i < top
  ·exact hk i h (by simp)
  ·have:i=top∨i=top+1∨i=top+2:=by omega
   exact absurd (by rcases this with rfl | rfl | rfl <;> simp) hm
 ·have q:∀ {α:Type} (E:B9 α) (b:Nat) (l:List α),(l= []∨h1 b=AE E l)→(AE E l=none∨h1 b=AE E l):=fun E b l h=>h.imp (fun h=>by rw [h];rfl) id
  simp only [Hx.cons,Hx.nil,and_true,r0,r1,r2,r3,r4,r5,r6,m0,m1,m2,Aa]
  refine ⟨.inr ?_, .inr ?_, .inr ?_,q _ _ _ m3,q _ _ _ m4,q _ _ _ m5,q _ _ _ m6⟩
  ·simp [Bw,Jm,Im,DA,Av,Al,r3,r4,r5,r6]
  ·simp [IW,Jm,Im,DA,Av]
  ·simp [Jm,Im,DA,Av]
theorem rH {hp h:Hp}{top:Nat}{x:Sq}{n:Int}{fr:DZ}(h0:h top=Bw x.S (AA (top+3) x.S.R) (AA (top+4) x.S.K) (AA (top+5) x.S.U) (AA (top+6) x.ops))(h1:h (top+1)=IW .nilIface)(h2:h (top+2)=some (.cells true 0 [.int .i64 n]))
  (m3:h (top+3)=AE AL x.S.R) (m4:h (top+4)=AE Af x.S.K) (m5:h (top+5)=AE AJ x.S.U) (m6:h (top+6)=AE A7 x.ops) (hk:Bc top [] h hp)
  (f2:Zm fr 2=(.pointer (some ⟨top,0,none⟩),true)) (f3:Zm fr 3=(.pointer (some ⟨top+1,0,none⟩),true)) :
  LV Tryz.prog tt.get [.cell 2 29, .cell 3 38] (fun v1 h1 top1=>top≤top1∧∃bs,UJ hp top bs (sW (.inl (x.S,x.ops)) top) v1 h1 top1) fr [(34, [.pointer (some ⟨top+2,0,none⟩), .pointer (some ⟨top+1,0,none⟩)]),(33, [.pointer (some ⟨top+1,0,none⟩), .pointer (some ⟨top,0,none⟩)])] .returning h (top+7):=by
 rw [JC]
 refine ⟨nofun,(W6 (a:=top+2) (e:=top+1) (n:=n) (v:= .nilIface) h2 h1).mono ?_⟩
 rintro u' hp' top' ⟨rfl,rfl,rfl⟩
 rw [show settle .returning= .returning from rfl,JC]
 refine ⟨nofun,(AAQ (e:=top+1) h1).mono ?_⟩
 rintro u' hp' top' ⟨rfl,rfl,rfl⟩
 rw [show settle .returning= .returning from rfl,Vw]
 have h1':hp' (top+1)=some (.cells true 0 [.nilIface]):=h1
 simp (maxSteps:=6000000) only [go_sem,h0,h1',Bw,f2,f3,sW,Z0]
 have r3:rn top [top+3,top+4,top+5,top+6] (top+7) top=top+3:=E0 _ _ _
 have r4:rn top [top+3,top+4,top+5,top+6] (top+7) (top+1)=top+4:=Dq _ _ _ 1
 have r5:rn top [top+3,top+4,top+5,top+6] (top+7) (top+2)=top+5:=Dq _ _ _ 2
 have r6:rn top [top+3,top+4,top+5,top+6] (top+7) (top+3)=top+6:=Dq _ _ _ 3
 refine ⟨[top+3,top+4,top+5,top+6],by simp,by simp,by simp, ?_, ?_, ?_⟩
 ·simp [r3,r4,r5,r6]
 ·intro i hi hm;exact hk i hi (by simp)
 ·simp [r3,r4,r5,r6,m3,m4,m5,m6]
theorem eC (S:CR)(last:Int):Br S (Hy [112,108,97,121]) (H3 [112,108,97,121]) last=⟨0,S,none⟩:=rfl
theorem Yb (S:CR)(w:List UInt8)(ws:Ld)(last:Int):((Br S w ws last).ch=0∧(Br S w ws last).now=none)∨
  ((Br S w ws last).ch=1∧(Br S w ws last).S.R=S.R∧(Br S w ws last).S.K=S.K∧(Br S w ws last).S.U=S.U)∨
  ((Br S w ws last).ch=2∧(∃c,(Br S w ws last).S.R=S.R ++ [c])∧(Br S w ws last).S.K=S.K∧(Br S w ws last).S.U=S.U)∨
  ((Br S w ws last).ch=3∧(∃c,(Br S w ws last).S.K=S.K ++ [c])∧(Br S w ws last).S.R=S.R∧(Br S w ws last).S.U=S.U)∨
  ((Br S w ws last).ch=4∧(∃c,(Br S w ws last).S.U=S.U ++ [c])∧(Br S w ws last).S.R=S.R∧(Br S w ws last).S.K=S.K):=by
 unfold Br
 repeat' split
 all_goals simp
structure YA (s:List UInt8) (x:Sq):Prop where
 k:∃k,x.s.length < k∧Ru (s.length+1) (pO s)=Ru k x
 l:x.S.R.length+x.S.K.length+x.S.U.length+x.ops.length+x.s.length≤s.length
 n:x.n+x.s.length≤s.length
 p:x.G4≤x.n
theorem YA.bad {s:List UInt8}{x:Sq}(h:YA s x)(hne:¬x.s= [])(chk:CR→Int)(hl:¬65536 < s.length){e:Int×Nat}(he:ER x= .inr e):Md chk s= .inr e:=by
 obtain ⟨k,h1,h2⟩:=h.k
 obtain ⟨k,rfl⟩:∃j,k=j+1:=⟨k - 1,by omega⟩
 unfold Md
 rw [if_neg hl]
 unfold iQ
 rw [h2,Ru,if_neg hne,he]
theorem YA.end {s:List UInt8}{x:Sq}(h:YA s x)(he:x.s= []):iQ s=if 0≤x.G4 then .inl x else .inr (12,x.n):=by
 obtain ⟨k,h1,h2⟩:=h.k
 obtain ⟨k,rfl⟩:∃j,k=j+1:=⟨k - 1,by omega⟩
 unfold iQ
 rw [h2,Ru,if_pos he]
theorem YA.next {s:List UInt8}{x y:Sq}(h:YA s x)(hne:¬x.s= [])(he:ER x= .inl y)(hi:(Da x.s).2.2=true)(hy:y.s=(Da x.s).2.1)(hn:y.n=x.n+1)(hp:y.G4≤y.n)
  (hl:y.S.R.length+y.S.K.length+y.S.U.length+y.ops.length≤x.S.R.length+x.S.K.length+x.S.U.length+x.ops.length+1):YA s y∧y.s.length < x.s.length:=by
 obtain ⟨k,h1,h2⟩:=h.k
 obtain ⟨k,rfl⟩:∃j,k=j+1:=⟨k - 1,by omega⟩
 have hc:=(bP x.s).2.2 hi
 have:=h.l
 have:=h.n
 rw [←hy] at hc
 refine ⟨⟨⟨k,by omega, ?_⟩,by omega,by omega,hp⟩,hc⟩
 rw [h2,Ru,if_neg hne,he]
theorem ABF {CP:CR→Prop}{chk:CR→Int}(hCk:BR Tryz.prog 23 (LG CP chk)):BR Tryz.prog 13 (Hu CP chk):=by
 refine ⟨⟨_,cC⟩,fun args hp top hpre=>Ae.Jq fun hcl hsc=> ?_⟩
 match args,hpre with
 | [.string ⟨⟨s⟩⟩],⟨hs,hCP,hv⟩=>
 have ht5:=FE hcl hv
 have env:=gq hCk
 simp only [AU]
 refine Ae.UH Bu cC rfl 70 rfl [.cell 2 29, .cell 3 38] rfl (Nat.le_of_ble_eq_true rfl) ?_
 refine CD.seq (CD.of (CW.vc env [0,2,3,4,5,6,7,8,9,10,11,15,18,34,42,50,66] (by kernel_rfl) ?_))
 (repeat ((try refine Vc.mk' ?_);simp (maxSteps:=6000000) only [go_sem]))
 refine CD.seq (CD.of (CW.vc env [0,2,3,4,5,6,7,8,9,10,11,15,18,34,42,50,66] (by kernel_rfl) ?_))
 (repeat ((try refine Vc.mk' ?_);simp (maxSteps:=6000000) only [go_sem]))
 refine CD.seq (CD.region env [0,2,3,4,5,6,7,8,9,10,11,15,18,34,42,50,66] (by kernel_rfl) ?_)
 simp (maxSteps:=6000000) only [go_sem,Pn,AC5,EY,GS]
 refine CD.seq (CD.region env [0,2,3,4,5,6,7,8,9,10,11,15,18,34,42,50,66] (by kernel_rfl) ?_)
 simp (maxSteps:=6000000) only [go_sem,Pn,AAi,EY,GS]
 have hsl:(s.length≤281474976710656):=by omega
 have hz0:(3:Int)=3:=rfl
 by_cases hlen:65536 < s.length
 ·have e:Md chk s= .inr (3,0):=by unfold Md;rw [if_pos hlen]
  rw [e]
  have hl:(65536:Int) < (s.length:Int):=by omega
  refine CD.of (CW.vc env [0,2,3,4,5,6,7,8,9,10,11,15,18,34,42,50,66] (by kernel_rfl) ?_)
  (repeat ((try refine Vc.mk' ?_);simp (maxSteps:=6000000) only [go_sem,RC,F7,hl,intOf_int,CV]))
  exact Hq (c:=3) (n:=0) (S:=S0) (by simp [AQ,AF];rfl) (by simp [AQ,AF];rfl) (by simp [AF]) (by omega) (by simp [Bc.set,Bc.refl]) rfl rfl
 have hl:¬(65536:Int) < (s.length:Int):=by omega
 refine CD.of (CW.vc env [0,2,3,4,5,6,7,8,9,10,11,15,18,34,42,50,66] (by kernel_rfl) ?_)
 (repeat ((try refine Vc.mk' ?_);simp (maxSteps:=6000000) only [go_sem,RC,F7,hl,intOf_int,CV]))
 refine CW.D9 (Js hp top) (YA s) (fun x=>x.s.length) (pO s) ⟨⟨s.length+1,Nat.lt_succ_self _,rfl⟩,by simp [pO,S0],by simp [pO],by simp [pO]⟩ ?_ ?_
 ·refine SM (pO s) (top+3) (top+4) (top+5) (top+6) hcl (by simp) ⟨by omega,by omega,by omega,by omega⟩ rfl rfl rfl rfl rfl rfl ?_ ?_ ?_ ?_ (.inl rfl) (.inl rfl) (.inl rfl) (.inl rfl)
  ·simp []
  ·simp [];rfl
  ·simp [];rfl
  ·simp [];rfl
 ·rintro x hx
  have hL:=hx.l
  have hN:=hx.n
  have hP:=hx.p
  have hv0:=hv
  obtain ⟨_,⟨ml,hml⟩,_,_⟩:=hv0
  have t2:2 < top:=by omega
  have hmx:(∃m,hp 2=some (QB 1 (.int .i64 m)))=True:=eq_true ⟨ml,hml⟩
  have KP:∀ {o0 o1 o2 o3 o4 o5 o6:Option BI},Bc top [] (hp.A6 [(top,o0),(top+1,o1),(top+2,o2),(top+3,o3),(top+4,o4),(top+5,o5),(top+6,o6)]) hp:=by
   intros;simp [B5,CZ,Bc.set,Bc.refl]
  by_cases c2:x.s= []
  ·have hM:=hx.end c2
   have c2':Wu x.s [] = true:=by rw [c2];rfl
   by_cases p:0≤x.G4
   ·have p':¬x.G4 < 0:=by omega
    rw [if_pos p] at hM
    have hF:Md chk s=if chk x.S=0 then .inl (x.S,x.ops) else .inr (chk x.S,x.G4.toNat):=by unfold Md;rw [if_neg hlen,hM]
    have hcp:=hCP x (by omega) hM
    have hpt:((x.G4.toNat:Nat):Int)=x.G4:=Int.toNat_of_nonneg p
    have hSV:∀ {h':Hp},h' (top+3)=AE AL x.S.R→h' (top+4)=AE Af x.S.K→h' (top+5)=AE AJ x.S.U→Sw h' (.agg ⟨[.int .i64 x.S.W, .int .i64 x.S.A, .int .i64 x.S.T, .int .i64 x.S.L,AA (top+3) x.S.R,AA (top+4) x.S.K,AA (top+5) x.S.U]⟩) x.S:=fun a b c=>⟨⟨_,_,_,rfl,BJ.IP a (by omega),BJ.IP b (by omega),BJ.IP c (by omega)⟩,by omega,by omega,by omega⟩
    have hE:∀ {h':Hp},h' (top+3)=AE AL x.S.R→h' (top+4)=AE Af x.S.K→h' (top+5)=AE AJ x.S.U→(∃S,Sw h' (.agg ⟨[.int .i64 x.S.W, .int .i64 x.S.A, .int .i64 x.S.T, .int .i64 x.S.L,AA (top+3) x.S.R,AA (top+4) x.S.K,AA (top+5) x.S.U]⟩) S∧CP S)=True:=fun a b c=>eq_true ⟨_,hSV a b c,hcp⟩
    have hD:∀ {h':Hp},h' (top+3)=AE AL x.S.R→h' (top+4)=AE Af x.S.K→h' (top+5)=AE AJ x.S.U→Mr h' (.agg ⟨[.int .i64 x.S.W, .int .i64 x.S.A, .int .i64 x.S.T, .int .i64 x.S.L,AA (top+3) x.S.R,AA (top+4) x.S.K,AA (top+5) x.S.U]⟩)=x.S:=fun a b c=>(hSV a b c).d
    by_cases c3:chk x.S=0
    ·rw [if_pos c3] at hF
     rw [hF]
     refine CW.vc env [0,2,3,4,5,6,7,8,9,10,11,15,18,34,42,50,66] (by kernel_rfl) ?_
     (repeat ((try refine Vc.mk' ?_);simp (maxSteps:=6000000) only [go_sem,Js,Bw,c2',p',Bool.not_false,Bool.not_true,Eo,Ab,Bi,Ah,decide_false,decide_true,gU,LG,hE,hD,hv,AO ht5,AP ht5,c3,IW]))
     exact rH (n:=x.G4) (by simp [AQ,AF,Bw]) (by simp [AQ,AF,IW]) (by simp [AQ,AF]) (by simp [AQ,AF]) (by simp [AQ,AF]) (by simp [AQ,AF]) (by simp [AQ,AF]) (by simp [Bc.set,Bc.refl]) rfl rfl
    ·rw [if_neg c3] at hF
     rw [hF]
     refine CW.vc env [0,2,3,4,5,6,7,8,9,10,11,15,18,34,42,50,66] (by kernel_rfl) ?_
     (repeat ((try refine Vc.mk' ?_);simp (maxSteps:=6000000) only [go_sem,Js,Bw,c2',p',Bool.not_false,Bool.not_true,Eo,Ab,Bi,Ah,decide_false,decide_true,gU,LG,hE,hD,hv,AO ht5,AP ht5,c3,RC,F7,intOf_int]))
     exact Hq (S:=x.S) (n:=x.G4.toNat) (by simp [AQ,AF];rfl) (by simp [AQ,AF]) (by rw [hpt];simp [AQ,AF]) (by omega) (by simp [Bc.set,Bc.refl]) rfl rfl
   ·have p':(x.G4 < 0)=True:=eq_true (by omega)
    rw [if_neg p] at hM
    have hF:Md chk s= .inr (12,x.n):=by unfold Md;rw [if_neg hlen,hM]
    rw [hF]
    refine CW.vc env [0,2,3,4,5,6,7,8,9,10,11,15,18,34,42,50,66] (by kernel_rfl) ?_
    (repeat ((try refine Vc.mk' ?_);simp (maxSteps:=6000000) only [go_sem,Js,c2',p',Bool.not_false,Bool.not_true,Eo,Ab,BT,Ah,decide_false,decide_true]))
    exact Hq (S:=x.S) (n:=x.n) (c:=12) (by simp [AQ,AF];rfl) (by simp [AQ,AF]) (by simp [AQ,AF]) (by omega) (by simp [Bc.set,Bc.refl]) rfl rfl
  ·have hne:Wu x.s [] = false:=by rw [PS];simpa using c2
   have m1:(x.s.length < 4294967281)=True:=eq_true (by omega)
   have hcl2:=bP x.s
   have m2:((Da x.s).1.length < 4294967281)=True:=eq_true (by omega)
   have m3:((Da x.s).1.length≤100000)=True:=eq_true (by omega)
   cases hi:(Da x.s).2.2 with
   |false=>
    have e:Md chk s= .inr (12,x.n):=hx.bad c2 chk hlen (by unfold ER;rw [if_pos hi])
    rw [e]
    refine CW.vc env [0,2,3,4,5,6,7,8,9,10,11,15,18,34,42,50,66] (by kernel_rfl) ?_
    (repeat ((try refine Vc.mk' ?_);simp (maxSteps:=6000000) only [go_sem,Js,hne,GG,Ew,Ly,m1,hmx,AG t2,hi,Eo,Ab,BT,c2,Ah,decide_false,decide_true]))
    exact Hq (S:=x.S) (n:=x.n) (c:=12) (by simp [AQ,AF];rfl) (by simp [AQ,AF]) (by simp [AQ,AF]) (by omega) (by simp [Bc.set,Bc.refl]) rfl rfl
   |true=>
    have kk:Ar .i64 ((x.n:Int)+1)=((x.n+1:Nat):Int):=B0 (n:=4294967281) (by omega) (by omega)
    have hif:¬((Da x.s).2.2=false):=by rw [hi];simp
    by_cases p:0≤x.G4
    ·have p':¬x.G4 < 0:=by omega
     cases ho:PV (Da x.s).1 with
     |none=>
      have e:Md chk s= .inr (12,x.n):=hx.bad c2 chk hlen (by unfold ER;rw [if_neg hif,if_pos p,ho])
      rw [e]
      have hR:∀t,nz (Da x.s).1 t= .inr (Fp 12, [],t):=fun t=>G9 ho
      refine CW.vc env [0,2,3,4,5,6,7,8,9,10,11,15,18,34,42,50,66] (by kernel_rfl) ?_
      (repeat ((try refine Vc.mk' ?_);simp (maxSteps:=6000000) only [go_sem,Js,hne,GG,Ew,Ly,m1,hmx,AG t2,hi,Eo,Ab,Bi,c2,Ah,decide_false,decide_true,p',Bool.not_false,Bool.not_true,Z8,OQ,m2,hv,AO ht5,AP ht5,AU,hR]))
      exact Hq (S:=x.S) (n:=x.n) (c:=12) (by simp [AQ,AF];rfl) (by simp [AQ,AF]) (by simp [AQ,AF]) (by omega) (by simp [Bc.set,Bc.refl]) rfl rfl
     |some o=>
      have hR:∀t,nz (Da x.s).1 t= .inl (.agg ⟨A7.enc o⟩, [],t):=fun t=>mr ho
      by_cases hq:x.ops.length=512
      ·have e:Md chk s= .inr (3,x.n):=hx.bad c2 chk hlen (by unfold ER;rw [if_neg hif,if_pos p,ho];simp only [hq,if_true])
       rw [e]
       have hq':((x.ops.length:Int)=512)=True:=eq_true (by omega)
       refine CW.vc env [0,2,3,4,5,6,7,8,9,10,11,15,18,34,42,50,66] (by kernel_rfl) ?_
       (repeat ((try refine Vc.mk' ?_);simp (maxSteps:=6000000) only [go_sem,Js,Bw,hne,GG,Ew,Ly,m1,hmx,AG t2,hi,Eo,Ab,Bi,c2,Ah,decide_false,decide_true,p',Bool.not_false,Bool.not_true,Z8,OQ,m2,hv,AO ht5,AP ht5,AU,hR,hq',RC,F7,intOf_int,Aw]))
       exact Hq (S:=x.S) (n:=x.n) (c:=3) (by simp [AQ,AF];rfl) (by simp [AQ,AF]) (by simp [AQ,AF]) (by omega) (by simp [Bc.set,Bc.refl]) rfl rfl
      ·have hq':¬(x.ops.length:Int)=512:=by omega
       have hap:∀ {h':Hp} {q t:Nat},h' (top+6)=AE A7 x.ops→h' q=some (.cells true 7 (A7.enc o))→AR tt.get h' t [27,27] (AA (top+6) x.ops) (.slice (some ⟨q,0,none⟩) 1 1)=some (AA t (x.ops ++ [o]),Ck (top+6) x.ops t (AE A7 (x.ops ++ [o])),t+1):=fun {h'} {q} {t} a1 a2=>by
        have e3:cellsOf (h' q)=A7.enc o:=by rw [a2];rfl
        have:=YO (hp:=h') (b:=top+6) (top:=t) (k:=q) a1 (by rw [e3];exact a2) (by rw [e3,A7.h]) (Dc (by omega) (by decide))
        rwa [e3,A7.h] at this
       simp only [Aw] at hap
       refine CW.vc env [0,2,3,4,5,6,7,8,9,10,11,15,18,34,42,50,66] (by kernel_rfl) ?_
       (repeat ((try refine Vc.mk' ?_);simp (maxSteps:=6000000) only [go_sem,Js,Bw,hne,GG,Ew,Ly,m1,hmx,AG t2,hi,Eo,Ab,Bi,c2,Ah,decide_false,decide_true,p',Bool.not_false,Bool.not_true,Z8,OQ,m2,hv,AO ht5,AP ht5,AU,hR,hq',RC,F7,intOf_int,Aw,hap,kk]))
       have hst:ER x= .inl {x with ops:=x.ops ++ [o],n:=x.n+1,s:=(Da x.s).2.1}:=by unfold ER;rw [if_neg hif,if_pos p,ho];simp only [hq,if_false]
       obtain ⟨n1,n2⟩:=hx.next c2 hst hi rfl rfl (by show x.G4≤((x.n+1:Nat):Int);omega) (by show x.S.R.length+x.S.K.length+x.S.U.length+(x.ops ++ [o]).length≤_;simp;omega)
       refine .mk _ n1 n2 (SM _ (top+3) (top+4) (top+5) (top+9) hcl (by simp) ⟨by omega,by omega,by omega,by omega⟩ rfl rfl rfl rfl rfl rfl ?_ ?_ ?_ ?_ ?_ ?_ ?_ ?_)
       ·simp [Bc.set,Bc.refl]
       ·simp [AQ,AF,Bw]
       ·simp [AQ,AF]
       ·simp [AQ,AF]
       ·right;simp [AQ,AF]
       ·right;simp [AQ,AF]
       ·right;simp [AQ,AF]
       ·right;simp [AQ,AF]
    ·have p':(x.G4 < 0)=True:=eq_true (by omega)
     -- <set>
     have c0:∀ {h':Hp},h' top=Bw x.S (AA (top+3) x.S.R) (AA (top+4) x.S.K) (AA (top+5) x.S.U) (AA (top+6) x.ops)→(Ct h' top 4=AA (top+3) x.S.R∧Ct h' top 5=AA (top+4) x.S.K∧Ct h' top 6=AA (top+5) x.S.U∧Ct h' top 7=AA (top+6) x.ops):=fun {h'} e=>by
      have e:h' top=some (.cells true 0 [.int .i64 x.S.W, .int .i64 x.S.A, .int .i64 x.S.T, .int .i64 x.S.L,AA (top+3) x.S.R,AA (top+4) x.S.K,AA (top+5) x.S.U,AA (top+6) x.ops]):=e
      simp [Ct,e]
     have hAt:∀ {h':Hp},h' top=Bw x.S (AA (top+3) x.S.R) (AA (top+4) x.S.K) (AA (top+5) x.S.U) (AA (top+6) x.ops)→h' (top+3)=AE AL x.S.R→h' (top+4)=AE Af x.S.K→h' (top+5)=AE AJ x.S.U→Wl h' top x.S (top+3) (top+4) (top+5) (AA (top+6) x.ops):=fun a b c d=>⟨a,b,c,d,by omega,by omega,by omega,by omega,by omega,by omega,bq,aM⟩
     have hpre:∀ {h':Hp},h' top=Bw x.S (AA (top+3) x.S.R) (AA (top+4) x.S.K) (AA (top+5) x.S.U) (AA (top+6) x.ops)→h' (top+3)=AE AL x.S.R→h' (top+4)=AE Af x.S.K→h' (top+5)=AE AJ x.S.U→(∃S r k u ov,Wl h' top S r k u ov∧r < top+7∧k < top+7∧u < top+7)=True:=fun a b c d=>eq_true ⟨_,_,_,_,_,hAt a b c d,by omega,by omega,by omega⟩
     have hS:∀ {h':Hp},h' top=Bw x.S (AA (top+3) x.S.R) (AA (top+4) x.S.K) (AA (top+5) x.S.U) (AA (top+6) x.ops)→h' (top+3)=AE AL x.S.R→h' (top+4)=AE Af x.S.K→h' (top+5)=AE AJ x.S.U→oY h' top=x.S:=fun a b c d=>(hAt a b c d).s
     have hw:Hy (Da x.s).1=at' (CE (Da x.s).1) 0:=rfl
     have hws:H3 (Da x.s).1=(CE (Da x.s).1).drop 1:=rfl
     by_cases c4:(Da x.s).1= [112,108,97,121]
     ·by_cases c5:x.last=0
      ·have hqe:Br x.S (Hy (Da x.s).1) (H3 (Da x.s).1) x.last=⟨0,x.S,none⟩:=by rw [c4];exact eC _ _
       have e:Md chk s= .inr (12,x.n):=hx.bad c2 chk hlen (by unfold ER;rw [if_neg hif,if_neg p,if_neg (fun h=>h.2 c5),hqe])
       rw [e]
       have hres:∀ {h':Hp},h' top=Bw x.S (AA (top+3) x.S.R) (AA (top+4) x.S.K) (AA (top+5) x.S.U) (AA (top+6) x.ops)→Ax h' top (top+7) ⟨0,x.S,none⟩= .inr (Fp 12, [],top+7):=fun _=>rfl
       have c4':=eq_true c4
       rw [c5] at hqe
       refine CW.vc env [0,2,3,4,5,6,7,8,9,10,11,15,18,34,42,50,66] (by kernel_rfl) ?_
       (repeat ((try refine Vc.mk' ?_);simp (maxSteps:=6000000) only [go_sem,Js,hne,GG,Ew,Ly,m1,hmx,AG t2,hi,Eo,Ab,Bi,c2,Ah,decide_false,decide_true,p',Bool.not_false,Bool.not_true,IM,GZ,m3,hv,AO ht5,AP ht5,AU,intOf_int,hpre,hS,←hw,←hws,hqe,hres,c4',c5]))
       exact Hq (S:=x.S) (n:=x.n) (c:=12) (by simp [AQ,AF];rfl) (by simp [AQ,AF]) (by simp [AQ,AF]) (by omega) (by simp [Bc.set,Bc.refl]) rfl rfl
      ·have hst:ER x= .inl {x with G4:=x.n,n:=x.n+1,s:=(Da x.s).2.1}:=by unfold ER;rw [if_neg hif,if_neg p,if_pos ⟨c4,c5⟩]
       obtain ⟨n1,n2⟩:=hx.next c2 hst hi rfl rfl (by show (x.n:Int)≤((x.n+1:Nat):Int);omega) (by show x.S.R.length+x.S.K.length+x.S.U.length+x.ops.length≤_;omega)
       have c4':=eq_true c4
       refine CW.vc env [0,2,3,4,5,6,7,8,9,10,11,15,18,34,42,50,66] (by kernel_rfl) ?_
       (repeat ((try refine Vc.mk' ?_);simp (maxSteps:=6000000) only [go_sem,Js,hne,GG,Ew,Ly,m1,hmx,AG t2,hi,Eo,Ab,Bi,c2,Ah,decide_false,decide_true,p',Bool.not_false,Bool.not_true,IM,GZ,m3,hv,AO ht5,AP ht5,AU,intOf_int,hpre,hS,c4',c5,kk]))
       refine .mk _ n1 n2 (SM _ (top+3) (top+4) (top+5) (top+6) hcl (by simp) ⟨by omega,by omega,by omega,by omega⟩ rfl rfl rfl rfl rfl rfl ?_ ?_ ?_ ?_ ?_ ?_ ?_ ?_)
       ·simp [Bc.set,Bc.refl]
       ·simp [AQ,AF]
       ·simp [AQ,AF]
       ·simp [AQ,AF]
       ·right;simp [AQ,AF]
       ·right;simp [AQ,AF]
       ·right;simp [AQ,AF]
       ·right;simp [AQ,AF]
     have c4n:¬((Da x.s).1= [112,108,97,121]∧x.last≠0):=fun h=>c4 h.1
     have hst0:∀q,Br x.S (Hy (Da x.s).1) (H3 (Da x.s).1) x.last=q→ER x=(match q.now with | none=> .inr (12,x.n) | some m=> .inl {x with S:=q.S,last:=m,n:=x.n+1,s:=(Da x.s).2.1}):=fun q hq=>by unfold ER;rw [if_neg hif,if_neg p,if_neg c4n,hq];cases q.now <;> rfl
     have hc:=Yb x.S (Hy (Da x.s).1) (H3 (Da x.s).1) x.last
     generalize hqe:Br x.S (Hy (Da x.s).1) (H3 (Da x.s).1) x.last=q at hc hst0
     obtain ⟨ch,S',now⟩:=q
     replace hst0:=hst0 _ rfl
     rcases hc with ⟨e1,e2⟩ | ⟨e1,e2,e3,e4⟩ | ⟨e1,⟨el,e2⟩,e3,e4⟩ | ⟨e1,⟨el,e2⟩,e3,e4⟩ | ⟨e1,⟨el,e2⟩,e3,e4⟩
     ·replace e1:ch=0:=e1
      subst e1
      replace e2:now=none:=e2
      subst e2
      have hres:∀ {h':Hp},h' top=Bw x.S (AA (top+3) x.S.R) (AA (top+4) x.S.K) (AA (top+5) x.S.U) (AA (top+6) x.ops)→Ax h' top (top+7) ⟨0,S',none⟩= .inr (Fp 12, [],top+7):=fun _=>rfl
      have e:Md chk s= .inr (12,x.n):=hx.bad c2 chk hlen hst0
      rw [e]
      refine CW.vc env [0,2,3,4,5,6,7,8,9,10,11,15,18,34,42,50,66] (by kernel_rfl) ?_
      (repeat ((try refine Vc.mk' ?_);simp (maxSteps:=6000000) only [go_sem,Js,hne,GG,Ew,Ly,m1,hmx,AG t2,hi,Eo,Ab,Bi,c2,Ah,decide_false,decide_true,p',Bool.not_false,Bool.not_true,IM,GZ,m3,hv,AO ht5,AP ht5,AU,intOf_int,hpre,hS,←hw,←hws,hqe,hres,c4]))
      exact Hq (S:=x.S) (n:=x.n) (c:=12) (by simp [AQ,AF];rfl) (by simp [AQ,AF]) (by simp [AQ,AF]) (by omega) (by simp [Bc.set,Bc.refl]) rfl rfl
     ·replace e1:ch=1:=e1
      subst e1
      replace e2:S'.R=x.S.R:=e2
      replace e3:S'.K=x.S.K:=e3
      replace e4:S'.U=x.S.U:=e4
      cases now with
      |none=>
       have hres:∀ {h':Hp},h' top=Bw x.S (AA (top+3) x.S.R) (AA (top+4) x.S.K) (AA (top+5) x.S.U) (AA (top+6) x.ops)→Ax h' top (top+7) ⟨1,S',none⟩= .inr (Fp 12, [(top,Bw S' (AA (top+3) x.S.R) (AA (top+4) x.S.K) (AA (top+5) x.S.U) (AA (top+6) x.ops))],top+7):=fun e=>by
        obtain ⟨k1,k2,k3,k4⟩:=c0 e
        simp only [Ax,F3,Fs,k1,k2,k3,k4]
       have e:Md chk s= .inr (12,x.n):=hx.bad c2 chk hlen hst0
       rw [e]
       refine CW.vc env [0,2,3,4,5,6,7,8,9,10,11,15,18,34,42,50,66] (by kernel_rfl) ?_
       (repeat ((try refine Vc.mk' ?_);simp (maxSteps:=6000000) only [go_sem,Js,hne,GG,Ew,Ly,m1,hmx,AG t2,hi,Eo,Ab,Bi,c2,Ah,decide_false,decide_true,p',Bool.not_false,Bool.not_true,IM,GZ,m3,hv,AO ht5,AP ht5,AU,intOf_int,hpre,hS,←hw,←hws,hqe,hres,c4]))
       exact Hq (S:=S') (n:=x.n) (c:=12) (by simp [AQ,AF];rfl) (by simp [AQ,AF]) (by simp [AQ,AF]) (by omega) (by simp [Bc.set,Bc.refl]) rfl rfl
      |some m=>
       have hres:∀ {h':Hp},h' top=Bw x.S (AA (top+3) x.S.R) (AA (top+4) x.S.K) (AA (top+5) x.S.U) (AA (top+6) x.ops)→Ax h' top (top+7) ⟨1,S',some m⟩= .inl (.int .i64 m, [(top,Bw S' (AA (top+3) x.S.R) (AA (top+4) x.S.K) (AA (top+5) x.S.U) (AA (top+6) x.ops))],top+7):=fun e=>by
        obtain ⟨k1,k2,k3,k4⟩:=c0 e
        simp only [Ax,F3,Fs,k1,k2,k3,k4]
       have hll:S'.R.length+S'.K.length+S'.U.length+x.ops.length≤x.S.R.length+x.S.K.length+x.S.U.length+x.ops.length+1:=by
        rw [e2,e3,e4]
        omega
       obtain ⟨n1,n2⟩:=hx.next c2 hst0 hi rfl rfl (by show x.G4≤((x.n+1:Nat):Int);omega) hll
       refine CW.vc env [0,2,3,4,5,6,7,8,9,10,11,15,18,34,42,50,66] (by kernel_rfl) ?_
       (repeat ((try refine Vc.mk' ?_);simp (maxSteps:=6000000) only [go_sem,Js,hne,GG,Ew,Ly,m1,hmx,AG t2,hi,Eo,Ab,Bi,c2,Ah,decide_false,decide_true,p',Bool.not_false,Bool.not_true,IM,GZ,m3,hv,AO ht5,AP ht5,AU,intOf_int,hpre,hS,←hw,←hws,hqe,hres,c4,kk]))
       refine .mk _ n1 n2 (SM _ (top+3) (top+4) (top+5) (top+6) hcl (by simp) ⟨by omega,by omega,by omega,by omega⟩ rfl rfl rfl rfl rfl rfl ?_ ?_ ?_ ?_ ?_ ?_ ?_ ?_)
       ·simp [Bc.set,Bc.refl,e2,e3,e4]
       ·simp [AQ,AF,e2,e3,e4]
       ·simp [AQ,AF,e2,e3,e4]
       ·simp [AQ,AF,e2,e3,e4]
       ·right;simp [AQ,AF,e2,e3,e4]
       ·right;simp [AQ,AF,e2,e3,e4]
       ·right;simp [AQ,AF,e2,e3,e4]
       ·right;simp [AQ,AF,e2,e3,e4]
     ·replace e1:ch=2:=e1
      subst e1
      replace e2:S'.R=x.S.R ++ [el]:=e2
      replace e3:S'.K=x.S.K:=e3
      replace e4:S'.U=x.S.U:=e4
      have zb:∃z,DB (AA (top+3) x.S.R) (top+7)=z∧(z=top+3∨z=top+7):=⟨_,rfl,by unfold DB AA;cases x.S.R <;> simp⟩
      obtain ⟨z,hz,hz2⟩:=zb
      have z0:¬top=z:=by omega
      have z1:¬top+1=z:=by omega
      have z2:¬top+2=z:=by omega
      have z4:¬top+4=z:=by omega
      have z5:¬top+5=z:=by omega
      have z6:¬top+6=z:=by omega
      have zk:top≤z:=by omega
      cases now with
      |none=>
       have hres:∀ {h':Hp},h' top=Bw x.S (AA (top+3) x.S.R) (AA (top+4) x.S.K) (AA (top+5) x.S.U) (AA (top+6) x.ops)→Ax h' top (top+7) ⟨2,S',none⟩= .inr (Fp 12, [(z,none),(top+7,AE AL S'.R),(top,Bw S' (AA (top+7) S'.R) (AA (top+4) x.S.K) (AA (top+5) x.S.U) (AA (top+6) x.ops))],top+8):=fun e=>by
        obtain ⟨k1,k2,k3,k4⟩:=c0 e
        simp only [Ax,F3,Fs,k1,k2,k3,k4,hz]
       have e:Md chk s= .inr (12,x.n):=hx.bad c2 chk hlen hst0
       rw [e]
       refine CW.vc env [0,2,3,4,5,6,7,8,9,10,11,15,18,34,42,50,66] (by kernel_rfl) ?_
       (repeat ((try refine Vc.mk' ?_);simp (maxSteps:=6000000) only [go_sem,Js,hne,GG,Ew,Ly,m1,hmx,AG t2,hi,Eo,Ab,Bi,c2,Ah,decide_false,decide_true,p',Bool.not_false,Bool.not_true,IM,GZ,m3,hv,AO ht5,AP ht5,AU,intOf_int,hpre,hS,←hw,←hws,hqe,hres,c4,z0,z1,z2,z4,z5,z6]))
       exact Hq (S:=S') (n:=x.n) (c:=12) (by simp [AQ,AF,z0,z1,z2,z4,z5,z6];rfl) (by simp [AQ,AF,z0,z1,z2,z4,z5,z6]) (by simp [AQ,AF,z0,z1,z2,z4,z5,z6]) (by omega) (by simp [Bc.set,Bc.refl,z0,z1,z2,z4,z5,z6,zk]) rfl rfl
      |some m=>
       have hres:∀ {h':Hp},h' top=Bw x.S (AA (top+3) x.S.R) (AA (top+4) x.S.K) (AA (top+5) x.S.U) (AA (top+6) x.ops)→Ax h' top (top+7) ⟨2,S',some m⟩= .inl (.int .i64 m, [(z,none),(top+7,AE AL S'.R),(top,Bw S' (AA (top+7) S'.R) (AA (top+4) x.S.K) (AA (top+5) x.S.U) (AA (top+6) x.ops))],top+8):=fun e=>by
        obtain ⟨k1,k2,k3,k4⟩:=c0 e
        simp only [Ax,F3,Fs,k1,k2,k3,k4,hz]
       have hll:S'.R.length+S'.K.length+S'.U.length+x.ops.length≤x.S.R.length+x.S.K.length+x.S.U.length+x.ops.length+1:=by
        rw [e2,e3,e4]
        simp only [List.length_append,List.length_cons,List.length_nil]
        omega
       obtain ⟨n1,n2⟩:=hx.next c2 hst0 hi rfl rfl (by show x.G4≤((x.n+1:Nat):Int);omega) hll
       refine CW.vc env [0,2,3,4,5,6,7,8,9,10,11,15,18,34,42,50,66] (by kernel_rfl) ?_
       (repeat ((try refine Vc.mk' ?_);simp (maxSteps:=6000000) only [go_sem,Js,hne,GG,Ew,Ly,m1,hmx,AG t2,hi,Eo,Ab,Bi,c2,Ah,decide_false,decide_true,p',Bool.not_false,Bool.not_true,IM,GZ,m3,hv,AO ht5,AP ht5,AU,intOf_int,hpre,hS,←hw,←hws,hqe,hres,c4,kk,z0,z1,z2,z4,z5,z6]))
       refine .mk _ n1 n2 (SM _ (top+7) (top+4) (top+5) (top+6) hcl (by simp) ⟨by omega,by omega,by omega,by omega⟩ rfl rfl rfl rfl rfl rfl ?_ ?_ ?_ ?_ ?_ ?_ ?_ ?_)
       ·simp [Bc.set,Bc.refl,z0,z1,z2,z4,z5,z6,e2,e3,e4,zk]
       ·simp [AQ,AF,z0,z1,z2,z4,z5,z6,e2,e3,e4]
       ·simp [AQ,AF,z0,z1,z2,z4,z5,z6,e2,e3,e4]
       ·simp [AQ,AF,z0,z1,z2,z4,z5,z6,e2,e3,e4]
       ·right;simp [AQ,AF,z0,z1,z2,z4,z5,z6,e2,e3,e4]
       ·right;simp [AQ,AF,z0,z1,z2,z4,z5,z6,e2,e3,e4]
       ·right;simp [AQ,AF,z0,z1,z2,z4,z5,z6,e2,e3,e4]
       ·right;simp [AQ,AF,z0,z1,z2,z4,z5,z6,e2,e3,e4]
     ·replace e1:ch=3:=e1
      subst e1
      replace e2:S'.K=x.S.K ++ [el]:=e2
      replace e3:S'.R=x.S.R:=e3
      replace e4:S'.U=x.S.U:=e4
      have zb:∃z,DB (AA (top+4) x.S.K) (top+7)=z∧(z=top+4∨z=top+7):=⟨_,rfl,by unfold DB AA;cases x.S.K <;> simp⟩
      obtain ⟨z,hz,hz2⟩:=zb
      have z0:¬top=z:=by omega
      have z1:¬top+1=z:=by omega
      have z2:¬top+2=z:=by omega
      have z3:¬top+3=z:=by omega
      have z5:¬top+5=z:=by omega
      have z6:¬top+6=z:=by omega
      have zk:top≤z:=by omega
      cases now with
      |none=>
       have hres:∀ {h':Hp},h' top=Bw x.S (AA (top+3) x.S.R) (AA (top+4) x.S.K) (AA (top+5) x.S.U) (AA (top+6) x.ops)→Ax h' top (top+7) ⟨3,S',none⟩= .inr (Fp 12, [(z,none),(top+7,AE Af S'.K),(top,Bw S' (AA (top+3) x.S.R) (AA (top+7) S'.K) (AA (top+5) x.S.U) (AA (top+6) x.ops))],top+8):=fun e=>by
        obtain ⟨k1,k2,k3,k4⟩:=c0 e
        simp only [Ax,F3,Fs,k1,k2,k3,k4,hz]
       have e:Md chk s= .inr (12,x.n):=hx.bad c2 chk hlen hst0
       rw [e]
       refine CW.vc env [0,2,3,4,5,6,7,8,9,10,11,15,18,34,42,50,66] (by kernel_rfl) ?_
       (repeat ((try refine Vc.mk' ?_);simp (maxSteps:=6000000) only [go_sem,Js,hne,GG,Ew,Ly,m1,hmx,AG t2,hi,Eo,Ab,Bi,c2,Ah,decide_false,decide_true,p',Bool.not_false,Bool.not_true,IM,GZ,m3,hv,AO ht5,AP ht5,AU,intOf_int,hpre,hS,←hw,←hws,hqe,hres,c4,z0,z1,z2,z3,z5,z6]))
       exact Hq (S:=S') (n:=x.n) (c:=12) (by simp [AQ,AF,z0,z1,z2,z3,z5,z6];rfl) (by simp [AQ,AF,z0,z1,z2,z3,z5,z6]) (by simp [AQ,AF,z0,z1,z2,z3,z5,z6]) (by omega) (by simp [Bc.set,Bc.refl,z0,z1,z2,z3,z5,z6,zk]) rfl rfl
      |some m=>
       have hres:∀ {h':Hp},h' top=Bw x.S (AA (top+3) x.S.R) (AA (top+4) x.S.K) (AA (top+5) x.S.U) (AA (top+6) x.ops)→Ax h' top (top+7) ⟨3,S',some m⟩= .inl (.int .i64 m, [(z,none),(top+7,AE Af S'.K),(top,Bw S' (AA (top+3) x.S.R) (AA (top+7) S'.K) (AA (top+5) x.S.U) (AA (top+6) x.ops))],top+8):=fun e=>by
        obtain ⟨k1,k2,k3,k4⟩:=c0 e
        simp only [Ax,F3,Fs,k1,k2,k3,k4,hz]
       have hll:S'.R.length+S'.K.length+S'.U.length+x.ops.length≤x.S.R.length+x.S.K.length+x.S.U.length+x.ops.length+1:=by
        rw [e2,e3,e4]
        simp only [List.length_append,List.length_cons,List.length_nil]
        omega
       obtain ⟨n1,n2⟩:=hx.next c2 hst0 hi rfl rfl (by show x.G4≤((x.n+1:Nat):Int);omega) hll
       refine CW.vc env [0,2,3,4,5,6,7,8,9,10,11,15,18,34,42,50,66] (by kernel_rfl) ?_
       (repeat ((try refine Vc.mk' ?_);simp (maxSteps:=6000000) only [go_sem,Js,hne,GG,Ew,Ly,m1,hmx,AG t2,hi,Eo,Ab,Bi,c2,Ah,decide_false,decide_true,p',Bool.not_false,Bool.not_true,IM,GZ,m3,hv,AO ht5,AP ht5,AU,intOf_int,hpre,hS,←hw,←hws,hqe,hres,c4,kk,z0,z1,z2,z3,z5,z6]))
       refine .mk _ n1 n2 (SM _ (top+3) (top+7) (top+5) (top+6) hcl (by simp) ⟨by omega,by omega,by omega,by omega⟩ rfl rfl rfl rfl rfl rfl ?_ ?_ ?_ ?_ ?_ ?_ ?_ ?_)
       ·simp [Bc.set,Bc.refl,z0,z1,z2,z3,z5,z6,e2,e3,e4,zk]
       ·simp [AQ,AF,z0,z1,z2,z3,z5,z6,e2,e3,e4]
       ·simp [AQ,AF,z0,z1,z2,z3,z5,z6,e2,e3,e4]
       ·simp [AQ,AF,z0,z1,z2,z3,z5,z6,e2,e3,e4]
       ·right;simp [AQ,AF,z0,z1,z2,z3,z5,z6,e2,e3,e4]
       ·right;simp [AQ,AF,z0,z1,z2,z3,z5,z6,e2,e3,e4]
       ·right;simp [AQ,AF,z0,z1,z2,z3,z5,z6,e2,e3,e4]
       ·right;simp [AQ,AF,z0,z1,z2,z3,z5,z6,e2,e3,e4]
     ·replace e1:ch=4:=e1
      subst e1
      replace e2:S'.U=x.S.U ++ [el]:=e2
      replace e3:S'.R=x.S.R:=e3
      replace e4:S'.K=x.S.K:=e4
      have zb:∃z,DB (AA (top+5) x.S.U) (top+7)=z∧(z=top+5∨z=top+7):=⟨_,rfl,by unfold DB AA;cases x.S.U <;> simp⟩
      obtain ⟨z,hz,hz2⟩:=zb
      have z0:¬top=z:=by omega
      have z1:¬top+1=z:=by omega
      have z2:¬top+2=z:=by omega
      have z3:¬top+3=z:=by omega
      have z4:¬top+4=z:=by omega
      have z6:¬top+6=z:=by omega
      have zk:top≤z:=by omega
      cases now with
      |none=>
       have hres:∀ {h':Hp},h' top=Bw x.S (AA (top+3) x.S.R) (AA (top+4) x.S.K) (AA (top+5) x.S.U) (AA (top+6) x.ops)→Ax h' top (top+7) ⟨4,S',none⟩= .inr (Fp 12, [(z,none),(top+7,AE AJ S'.U),(top,Bw S' (AA (top+3) x.S.R) (AA (top+4) x.S.K) (AA (top+7) S'.U) (AA (top+6) x.ops))],top+8):=fun e=>by
        obtain ⟨k1,k2,k3,k4⟩:=c0 e
        simp only [Ax,F3,Fs,k1,k2,k3,k4,hz]
       have e:Md chk s= .inr (12,x.n):=hx.bad c2 chk hlen hst0
       rw [e]
       refine CW.vc env [0,2,3,4,5,6,7,8,9,10,11,15,18,34,42,50,66] (by kernel_rfl) ?_
       (repeat ((try refine Vc.mk' ?_);simp (maxSteps:=6000000) only [go_sem,Js,hne,GG,Ew,Ly,m1,hmx,AG t2,hi,Eo,Ab,Bi,c2,Ah,decide_false,decide_true,p',Bool.not_false,Bool.not_true,IM,GZ,m3,hv,AO ht5,AP ht5,AU,intOf_int,hpre,hS,←hw,←hws,hqe,hres,c4,z0,z1,z2,z3,z4,z6]))
       exact Hq (S:=S') (n:=x.n) (c:=12) (by simp [AQ,AF,z0,z1,z2,z3,z4,z6];rfl) (by simp [AQ,AF,z0,z1,z2,z3,z4,z6]) (by simp [AQ,AF,z0,z1,z2,z3,z4,z6]) (by omega) (by simp [Bc.set,Bc.refl,z0,z1,z2,z3,z4,z6,zk]) rfl rfl
      |some m=>
       have hres:∀ {h':Hp},h' top=Bw x.S (AA (top+3) x.S.R) (AA (top+4) x.S.K) (AA (top+5) x.S.U) (AA (top+6) x.ops)→Ax h' top (top+7) ⟨4,S',some m⟩= .inl (.int .i64 m, [(z,none),(top+7,AE AJ S'.U),(top,Bw S' (AA (top+3) x.S.R) (AA (top+4) x.S.K) (AA (top+7) S'.U) (AA (top+6) x.ops))],top+8):=fun e=>by
        obtain ⟨k1,k2,k3,k4⟩:=c0 e
        simp only [Ax,F3,Fs,k1,k2,k3,k4,hz]
       have hll:S'.R.length+S'.K.length+S'.U.length+x.ops.length≤x.S.R.length+x.S.K.length+x.S.U.length+x.ops.length+1:=by
        rw [e2,e3,e4]
        simp only [List.length_append,List.length_cons,List.length_nil]
        omega
       obtain ⟨n1,n2⟩:=hx.next c2 hst0 hi rfl rfl (by show x.G4≤((x.n+1:Nat):Int);omega) hll
       refine CW.vc env [0,2,3,4,5,6,7,8,9,10,11,15,18,34,42,50,66] (by kernel_rfl) ?_
       (repeat ((try refine Vc.mk' ?_);simp (maxSteps:=6000000) only [go_sem,Js,hne,GG,Ew,Ly,m1,hmx,AG t2,hi,Eo,Ab,Bi,c2,Ah,decide_false,decide_true,p',Bool.not_false,Bool.not_true,IM,GZ,m3,hv,AO ht5,AP ht5,AU,intOf_int,hpre,hS,←hw,←hws,hqe,hres,c4,kk,z0,z1,z2,z3,z4,z6]))
       refine .mk _ n1 n2 (SM _ (top+3) (top+4) (top+7) (top+6) hcl (by simp) ⟨by omega,by omega,by omega,by omega⟩ rfl rfl rfl rfl rfl rfl ?_ ?_ ?_ ?_ ?_ ?_ ?_ ?_)
       ·simp [Bc.set,Bc.refl,z0,z1,z2,z3,z4,z6,e2,e3,e4,zk]
       ·simp [AQ,AF,z0,z1,z2,z3,z4,z6,e2,e3,e4]
       ·simp [AQ,AF,z0,z1,z2,z3,z4,z6,e2,e3,e4]
       ·simp [AQ,AF,z0,z1,z2,z3,z4,z6,e2,e3,e4]
       ·right;simp [AQ,AF,z0,z1,z2,z3,z4,z6,e2,e3,e4]
       ·right;simp [AQ,AF,z0,z1,z2,z3,z4,z6,e2,e3,e4]
       ·right;simp [AQ,AF,z0,z1,z2,z3,z4,z6,e2,e3,e4]
       ·right;simp [AQ,AF,z0,z1,z2,z3,z4,z6,e2,e3,e4]
end Go.Proofs.YthlhnangbinhoaaGreatDoor.Dm
