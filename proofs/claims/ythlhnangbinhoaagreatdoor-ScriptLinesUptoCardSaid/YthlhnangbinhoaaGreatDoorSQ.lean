/- Parse's frame. -/
import Derived.Test.YthlhnangbinhoaaGreatDoorSP
set_option linter.unusedVariables false
namespace Go.Proofs.YthlhnangbinhoaaGreatDoor.Dm
open Go.Dm
set_option maxHeartbeats 64000000
set_option maxRecDepth 20000
mutual
theorem aD {n m:Nat}(hnm:n≤m):∀ {v:Value},Sc n v→Sc m v
 | .bool _,_=>trivial
 | .int _ _,_=>trivial
 | .float _ _,_=>trivial
 | .complex _ _ _,_=>trivial
 | .string _,_=>trivial
 | .pointer none,_=>trivial
 | .pointer (some ⟨_,_,_⟩),h=>Nat.lt_of_lt_of_le h hnm
 | .slice none _ _,_=>trivial
 | .slice (some ⟨_,_,none⟩) _ _,h=>Nat.lt_of_lt_of_le h hnm
 | .slice (some ⟨_,_,some _⟩) _ _,_=>trivial
 | .map none,_=>trivial
 | .map (some _),h=>Nat.lt_of_lt_of_le h hnm
 | .chan _,_=>trivial
 | .func _ ⟨_⟩ ⟨_⟩,h=>⟨OA hnm h.1,OA hnm h.2⟩
 | .nilFunc,_=>trivial
 | .iface _ v,h=>aD hnm (v:=v) h
 | .nilIface,_=>trivial
 | .agg ⟨l⟩,h=>OA hnm (l:=l) h
 | .tuple ⟨l⟩,h=>OA hnm (l:=l) h
theorem OA {n m:Nat}(hnm:n≤m):∀ {l:List Value},PB n l→PB m l
 | [],_=>trivial
 |_ :: _,h=>⟨aD hnm h.1,OA hnm h.2⟩
end
theorem uE {n m:Nat}(hnm:n≤m):∀ {o:A7},yz n o→yz m o
 | .cells _ _ _,h=>OA hnm h
 | .map _ _,h=>fun e he=>⟨aD hnm (h e he).1,aD hnm (h e he).2⟩
 | .iter _ _,_=>trivial
 | .miter _ _ _ _,h=>Nat.lt_of_lt_of_le h hnm
 | .raw _ _,_=>trivial
def bb (CP:CK→Prop)(chk:CK→Int):Bb:= .det (fun args hp _=>match args with | [.string ⟨⟨s⟩⟩]=>s.length < 4294967281∧(∀x,s.length≤65536→paM s= .inl x→CP x.S)∧C7 hp | _=>False) (fun args _ top=>match args with | [s]=>yn (S9 chk (strOf s)) top | _=>(undef, [],top))
def wy:FuncId→Bb:=Bw fi 39 Fk
theorem Oa:CQ Tryz.prog tt.get wy:=BB.add xK
def XV (CP:CK→Prop)(chk:CK→Int):FuncId→Bb:=Bw wy 23 (Jl CP chk)
theorem gW {CP:CK→Prop}{chk:CK→Int}(h:A0 Tryz.prog 23 (Jl CP chk)):CQ Tryz.prog tt.get (XV CP chk):=Oa.add h
theorem jh (CP:CK→Prop)(chk:CK→Int):XV CP chk 23=Jl CP chk:=rfl
theorem IC (CP:CK→Prop)(chk:CK→Int):XV CP chk 39=Fk:=rfl
theorem ZU (CP:CK→Prop)(chk:CK→Int):XV CP chk 38=M3:=rfl
theorem EC (CP:CK→Prop)(chk:CK→Int):XV CP chk 37=Ac:=rfl
theorem Zf (CP:CK→Prop)(chk:CK→Int):XV CP chk 35=F5:=rfl
theorem E5 (CP:CK→Prop)(chk:CK→Int):XV CP chk 36=D7:=rfl
theorem AD2:(∃fn,FTOk Tryz.prog 33 fn)=True:=eq_true ⟨_,P2.toFTOk⟩
def vZ:Value:= .slice none 0 0
theorem AB1 {hp:Hp}{top e b:Nat}{u:FrameMode}(he:hp e=HN .nilIface) :
  Cg Tryz.prog 33 [.pointer (some ⟨e,0,none⟩), .pointer (some ⟨b,0,none⟩)] u hp top fun u' hp' top'=>u' = u∧hp' = hp∧top' = top:=by
 refine Cg.A5 BA P2 rfl 5 rfl [] rfl (post:=fun _ hp' top'=>hp' = hp∧top' = top) (Nat.le_of_ble_eq_true rfl) (fun _ _ _ h=>⟨rfl,h⟩) ?_
 have he':hp e=some (.cells true 0 [.nilIface]):=he
 refine CW.vc F1 [0,1,3] (by kernel_rfl) ?_
 (repeat ((try refine Vc.mk' ?_);simp (maxSteps:=6000000) only [go_sem,he',tN]))
theorem AAU {hp:Hp}{top e b:Nat}{u:FrameMode}{t:TypeId}{v:Value}{S:CK}{r k w o:Value}(he:hp e=HN (.iface t v))(hb:hp b=Bk S r k w o) :
  Cg Tryz.prog 33 [.pointer (some ⟨e,0,none⟩), .pointer (some ⟨b,0,none⟩)] u hp top fun u' hp' top'=>u' = u∧hp' = hp.set b (Bk S0 vZ vZ vZ vZ)∧top' = top:=by
 refine Cg.A5 BA P2 rfl 5 rfl [] rfl (post:=fun _ hp' top'=>hp' = hp.set b (Bk S0 vZ vZ vZ vZ)∧top' = top) (Nat.le_of_ble_eq_true rfl) (fun _ _ _ h=>⟨rfl,h⟩) ?_
 have he':hp e=some (.cells true 0 [.iface t v]):=he
 have hb':hp b=some (.cells true 0 [.int .i64 S.W, .int .i64 S.A, .int .i64 S.T, .int .i64 S.L,r,k,w,o]):=hb
 refine CW.vc F1 [0,1,3] (by kernel_rfl) ?_
 (repeat ((try refine Vc.mk' ?_);simp (maxSteps:=6000000) only [go_sem,he',hb',jq]))
 rfl
theorem Ga {hp h:Hp}{top t n:Nat}{c:Int}{S:CK}{v1 v2 v3 v4:Value}{fr:C6}(h0:h top=Bk S v1 v2 v3 v4)(h1:h (top+1)=HN .nilIface)(h2:h (top+2)=some (.cells true 0 [.int .i64 n]))(ht:top+3≤t)(hk:BQ top [] h hp)
  (f2:Yp fr 2=(.pointer (some ⟨top,0,none⟩),true)) (f3:Yp fr 3=(.pointer (some ⟨top+1,0,none⟩),true)) :
  LV Tryz.prog tt.get [.cell 2 29, .cell 3 38] (fun v1 h1 top1=>top≤top1∧∃bs,Tp hp top bs (yn (.inr (c,n)) top) v1 h1 top1) fr [(34, [.pointer (some ⟨top+2,0,none⟩), .pointer (some ⟨top+1,0,none⟩)]),(33, [.pointer (some ⟨top+1,0,none⟩), .pointer (some ⟨top,0,none⟩)])] (yh c false) h t:=by
 rw [Ht]
 refine ⟨nofun,(Xs (c:=c) (a:=top+2) (e:=top+1) (n:=n) (v:= .nilIface) h2 h1 (by omega) (by omega)).mono ?_⟩
 rintro u' hp' top' ⟨rfl,rfl,rfl⟩
 rw [show settle (yh c true)= .returning from rfl,Ht]
 refine ⟨nofun,(AAU (e:=top+1) (b:=top) (S:=S) (r:=v1) (k:=v2) (w:=v3) (o:=v4) (t:=51) (v:= .pointer (some ⟨t+1,0,none⟩)) (by simp [Bt,CG,AG,HN,RX]) (by simp [Bt,CG,AZ,h0,show ¬top=t by omega,show ¬top=t+1 by omega])).mono ?_⟩
 rintro u' hp' top' ⟨rfl,rfl,rfl⟩
 rw [show settle .returning= .returning from rfl,Ts]
 simp (maxSteps:=6000000) only [go_sem,HN,RX,OT,Bk,vZ,f2,f3,yn,Yl,S0]
 refine ⟨by omega, ?_⟩
 have e1:¬t+1=top:=by omega
 have e2:¬t=top:=by omega
 have e3:top≤t:=by omega
 have e4:top≤t+1:=by omega
 have hk1:BQ top [top] h hp:=fun i hi _=>hk i hi (by simp)
 (refine ⟨[t+1],by simp,by simp;omega,by simp, ?_, ?_, ?_⟩ <;> simp [hk1,e1,e2,e3,e4])
def Im (hp:Hp)(top:Nat)(x:du):SS:=⟨[(0, .string ⟨⟨x.s⟩⟩,true),(2, .pointer (some ⟨top,0,none⟩),true),(3, .pointer (some ⟨top+1,0,none⟩),true),(4, .pointer (some ⟨top+2,0,none⟩),true),(5, .int .i64 x.last,true),(6, .int .i64 x.GP,true)],
 hp.Av [(top,Bk x.S (AA (top+3) x.S.R) (AA (top+4) x.S.K) (AA (top+5) x.S.U) (AA (top+6) x.ops)),(top+1,HN .nilIface),(top+2,some (.cells true 0 [.int .i64 (x.n:Int)])),(top+3,AD AL x.S.R),(top+4,AD Ad x.S.K),(top+5,AD AJ x.S.U),(top+6,AD Aw x.ops)],top+7⟩
theorem Rj {hp h1:Hp}{top t:Nat}{fr:C6}(x:du)(a b c d:Nat)(hcl:Cl hp top)(nd: [a,b,c,d].Nodup)(ge:top+3≤a∧top+3≤b∧top+3≤c∧top+3≤d)
  (f0:Jk fr 0=some (.string ⟨⟨x.s⟩⟩,true)) (f2:Jk fr 2=some (.pointer (some ⟨top,0,none⟩),true)) (f3:Jk fr 3=some (.pointer (some ⟨top+1,0,none⟩),true)) (f4:Jk fr 4=some (.pointer (some ⟨top+2,0,none⟩),true)) (f5:Jk fr 5=some (.int .i64 x.last,true)) (f6:Jk fr 6=some (.int .i64 x.GP,true))
  (hk:BQ top [] h1 hp) (m0:h1 top=Bk x.S (AA a x.S.R) (AA b x.S.K) (AA c x.S.U) (AA d x.ops)) (m1:h1 (top+1)=HN .nilIface) (m2:h1 (top+2)=some (.cells true 0 [.int .i64 (x.n:Int)]))
  (m3:x.S.R= []∨h1 a=AD AL x.S.R) (m4:x.S.K= []∨h1 b=AD Ad x.S.K) (m5:x.S.U= []∨h1 c=AD AJ x.S.U) (m6:x.ops= []∨h1 d=AD Aw x.ops) :
  ∃ρ,BR ρ (top+3) (Im hp top x) ⟨fr,h1,t⟩:=by
 have r0:rn (top+3) [a,b,c,d] t top=top:=AB (by omega)
 have r1:rn (top+3) [a,b,c,d] t (top+1)=top+1:=AB (by omega)
 have r2:rn (top+3) [a,b,c,d] t (top+2)=top+2:=AB (by omega)
 have r3:rn (top+3) [a,b,c,d] t (top+3)=a:=DE (top+3) _ _ 0
 have r4:rn (top+3) [a,b,c,d] t (top+4)=b:=DE (top+3) _ _ 1
 have r5:rn (top+3) [a,b,c,d] t (top+5)=c:=DE (top+3) _ _ 2
 have r6:rn (top+3) [a,b,c,d] t (top+6)=d:=DE (top+3) _ _ 3
 have hcl3:Cl hp (top+3):=⟨fun i o e=>by have:=hcl.lt i o e;omega,fun i o e=>uE (by omega) (hcl.sc i o e)⟩
 refine BR.mk' [a,b,c,d] hcl3 nd (by simpa using ge) (n:=4) rfl (AU ?_) ?_ ?_
 ·simp [Ge,f0,f2,f3,f4,f5,f6,Az,r0,r1,r2]
 ·intro i hi hm
  by_cases h:i < top
  ·exact hk i h (by simp)
  ·have:i=top∨i=top+1∨i=top+2:=by omega
   exact absurd (by rcases this with rfl | rfl | rfl <;> simp) hm
 ·have q:∀ {α:Type} (E:B8 α) (b:Nat) (l:List α),(l= []∨h1 b=AD E l)→(AD E l=none∨h1 b=AD E l):=fun E b l h=>h.imp (fun h=>by rw [h];rfl) id
  simp only [Gd.cons,Gd.nil,and_true,r0,r1,r2,r3,r4,r5,r6,m0,m1,m2,AP]
  refine ⟨.inr ?_, .inr ?_, .inr ?_,q _ _ _ m3,q _ _ _ m4,q _ _ _ m5,q _ _ _ m6⟩
  ·simp [Bk,IU,Iw,Co,Az,Ab,r4,r5,r6]
  ·simp [HN,IU,Iw,Co,Az]
  ·simp [IU,Iw,Co,Az]
theorem pY {hp h:Hp}{top:Nat}{x:du}{n:Int}{fr:C6}(h0:h top=Bk x.S (AA (top+3) x.S.R) (AA (top+4) x.S.K) (AA (top+5) x.S.U) (AA (top+6) x.ops))(h1:h (top+1)=HN .nilIface)(h2:h (top+2)=some (.cells true 0 [.int .i64 n]))
  (m3:h (top+3)=AD AL x.S.R) (m4:h (top+4)=AD Ad x.S.K) (m5:h (top+5)=AD AJ x.S.U) (m6:h (top+6)=AD Aw x.ops) (hk:BQ top [] h hp)
  (f2:Yp fr 2=(.pointer (some ⟨top,0,none⟩),true)) (f3:Yp fr 3=(.pointer (some ⟨top+1,0,none⟩),true)) :
  LV Tryz.prog tt.get [.cell 2 29, .cell 3 38] (fun v1 h1 top1=>top≤top1∧∃bs,Tp hp top bs (yn (.inl (x.S,x.ops)) top) v1 h1 top1) fr [(34, [.pointer (some ⟨top+2,0,none⟩), .pointer (some ⟨top+1,0,none⟩)]),(33, [.pointer (some ⟨top+1,0,none⟩), .pointer (some ⟨top,0,none⟩)])] .returning h (top+7):=by
 rw [Ht]
 refine ⟨nofun,(XQ (a:=top+2) (e:=top+1) (n:=n) (v:= .nilIface) h2 h1).mono ?_⟩
 rintro u' hp' top' ⟨rfl,rfl,rfl⟩
 rw [show settle .returning= .returning from rfl,Ht]
 refine ⟨nofun,(AB1 (e:=top+1) h1).mono ?_⟩
 rintro u' hp' top' ⟨rfl,rfl,rfl⟩
 rw [show settle .returning= .returning from rfl,Ts]
 have h1':hp' (top+1)=some (.cells true 0 [.nilIface]):=h1
 simp (maxSteps:=6000000) only [go_sem,h0,h1',Bk,f2,f3,yn,Yl]
 have r3:rn top [top+3,top+4,top+5,top+6] (top+7) top=top+3:=EF _ _ _
 have r4:rn top [top+3,top+4,top+5,top+6] (top+7) (top+1)=top+4:=DE _ _ _ 1
 have r5:rn top [top+3,top+4,top+5,top+6] (top+7) (top+2)=top+5:=DE _ _ _ 2
 have r6:rn top [top+3,top+4,top+5,top+6] (top+7) (top+3)=top+6:=DE _ _ _ 3
 refine ⟨[top+3,top+4,top+5,top+6],by simp,by simp,by simp, ?_, ?_, ?_⟩
 ·simp [r4,r5,r6]
 ·intro i hi hm;exact hk i hi (by simp)
 ·simp [r4,r5,r6,m3,m4,m5,m6]
theorem cq (S:CK)(last:Int):Bn S (Ov [112,108,97,121]) (Ox [112,108,97,121]) last=⟨0,S,none⟩:=rfl
theorem YP (S:CK)(w:List UInt8)(ws:Ha)(last:Int):((Bn S w ws last).ch=0∧(Bn S w ws last).now=none)∨
  ((Bn S w ws last).ch=1∧(Bn S w ws last).S.R=S.R∧(Bn S w ws last).S.K=S.K∧(Bn S w ws last).S.U=S.U)∨
  ((Bn S w ws last).ch=2∧(∃c,(Bn S w ws last).S.R=S.R ++ [c])∧(Bn S w ws last).S.K=S.K∧(Bn S w ws last).S.U=S.U)∨
  ((Bn S w ws last).ch=3∧(∃c,(Bn S w ws last).S.K=S.K ++ [c])∧(Bn S w ws last).S.R=S.R∧(Bn S w ws last).S.U=S.U)∨
  ((Bn S w ws last).ch=4∧(∃c,(Bn S w ws last).S.U=S.U ++ [c])∧(Bn S w ws last).S.R=S.R∧(Bn S w ws last).S.K=S.K):=by
 unfold Bn
 repeat' split
 all_goals simp
structure WA (s:List UInt8) (x:du):Prop where
 k:∃k,x.s.length < k∧v7 (s.length+1) (xg s)=v7 k x
 l:x.S.R.length+x.S.K.length+x.S.U.length+x.ops.length+x.s.length≤s.length
 n:x.n+x.s.length≤s.length
 p:x.GP≤x.n
theorem WA.bad {s:List UInt8}{x:du}(h:WA s x)(hne:¬x.s= [])(chk:CK→Int)(hl:¬65536 < s.length){e:Int×Nat}(he:Fo x= .inr e):S9 chk s= .inr e:=by
 obtain ⟨k,h1,h2⟩:=h.k
 obtain ⟨k,rfl⟩:∃j,k=j+1:=⟨k - 1,by omega⟩
 unfold S9
 rw [if_neg hl]
 unfold paM
 rw [h2,v7,if_neg hne,he]
theorem WA.end {s:List UInt8}{x:du}(h:WA s x)(he:x.s= []):paM s=if 0≤x.GP then .inl x else .inr (12,x.n):=by
 obtain ⟨k,h1,h2⟩:=h.k
 obtain ⟨k,rfl⟩:∃j,k=j+1:=⟨k - 1,by omega⟩
 unfold paM
 rw [h2,v7,if_pos he]
theorem WA.next {s:List UInt8}{x y:du}(h:WA s x)(hne:¬x.s= [])(he:Fo x= .inl y)(hi:(DJ x.s).2.2=true)(hy:y.s=(DJ x.s).2.1)(hn:y.n=x.n+1)(hp:y.GP≤y.n)
  (hl:y.S.R.length+y.S.K.length+y.S.U.length+y.ops.length≤x.S.R.length+x.S.K.length+x.S.U.length+x.ops.length+1):WA s y∧y.s.length < x.s.length:=by
 obtain ⟨k,h1,h2⟩:=h.k
 obtain ⟨k,rfl⟩:∃j,k=j+1:=⟨k - 1,by omega⟩
 have hc:=(bT x.s).2.2 hi
 have:=h.l
 have:=h.n
 rw [←hy] at hc
 refine ⟨⟨⟨k,by omega, ?_⟩,by omega,by omega,hp⟩,hc⟩
 rw [h2,v7,if_neg hne,he]
theorem zZ {CP:CK→Prop}{chk:CK→Int}(hCk:A0 Tryz.prog 23 (Jl CP chk)):A0 Tryz.prog 13 (bb CP chk):=by
 refine ⟨⟨_,aM⟩,fun args hp top hpre=>AR.Hq fun hcl hsc=> ?_⟩
 match args,hpre with
 | [.string ⟨⟨s⟩⟩],⟨hs,hCP,hv⟩=>
 have ht5:=Fc hcl hv
 have env:=gW hCk
 simp only [AH]
 refine AR.TN BA aM rfl 70 rfl [.cell 2 29, .cell 3 38] rfl (Nat.le_of_ble_eq_true rfl) ?_
 refine CD.seq (CD.of (CW.vc env [0,2,3,4,5,6,7,8,9,10,11,15,18,34,42,50,66] (by kernel_rfl) ?_))
 (repeat ((try refine Vc.mk' ?_);simp (maxSteps:=6000000) only [go_sem]))
 refine CD.seq (CD.of (CW.vc env [0,2,3,4,5,6,7,8,9,10,11,15,18,34,42,50,66] (by kernel_rfl) ?_))
 (repeat ((try refine Vc.mk' ?_);simp (maxSteps:=6000000) only [go_sem]))
 refine CD.seq (CD.region env [0,2,3,4,5,6,7,8,9,10,11,15,18,34,42,50,66] (by kernel_rfl) ?_)
 simp (maxSteps:=6000000) only [go_sem,PD,AD2,Ek,FX]
 refine CD.seq (CD.region env [0,2,3,4,5,6,7,8,9,10,11,15,18,34,42,50,66] (by kernel_rfl) ?_)
 simp (maxSteps:=6000000) only [go_sem,PD,ABt]
 have hsl:(s.length≤281474976710656):=by omega
 have hz0:(3:Int)=3:=rfl
 by_cases hlen:65536 < s.length
 ·have e:S9 chk s= .inr (3,0):=by unfold S9;rw [if_pos hlen]
  rw [e]
  have hl:(65536:Int) < (s.length:Int):=by omega
  refine CD.of (CW.vc env [0,2,3,4,5,6,7,8,9,10,11,15,18,34,42,50,66] (by kernel_rfl) ?_)
  (repeat ((try refine Vc.mk' ?_);simp (maxSteps:=6000000) only [go_sem,Zf,F5,hl,intOf_int,A8]))
  exact Ga (c:=3) (n:=0) (S:=S0) (by simp [AZ,AG];rfl) (by simp [AZ,AG];rfl) (by simp [AG]) (by omega) (by simp [BQ.set,BQ.refl]) rfl rfl
 have hl:¬(65536:Int) < (s.length:Int):=by omega
 refine CD.of (CW.vc env [0,2,3,4,5,6,7,8,9,10,11,15,18,34,42,50,66] (by kernel_rfl) ?_)
 (repeat ((try refine Vc.mk' ?_);simp (maxSteps:=6000000) only [go_sem,hl,intOf_int,A8]))
 refine CW.DC (Im hp top) (WA s) (fun x=>x.s.length) (xg s) ⟨⟨s.length+1,Nat.lt_succ_self _,rfl⟩,by simp [xg,S0],by simp [xg],by simp [xg]⟩ ?_ ?_
 ·refine Rj (xg s) (top+3) (top+4) (top+5) (top+6) hcl (by simp) ⟨by omega,by omega,by omega,by omega⟩ rfl rfl rfl rfl rfl rfl ?_ ?_ ?_ ?_ (.inl rfl) (.inl rfl) (.inl rfl) (.inl rfl)
  ·simp []
  ·simp [];rfl
  ·simp [];rfl
  ·simp [];rfl
 ·rintro x hx
  have hL:=hx.l
  have hN:=hx.n
  have hP:=hx.p
  have hv0:=hv
  obtain ⟨_,⟨ml,hml⟩,_,_⟩:=hv0
  have t2:2 < top:=by omega
  have hmx:(∃m,hp 2=some (Ph 1 (.int .i64 m)))=True:=eq_true ⟨ml,hml⟩
  have KP:∀ {o0 o1 o2 o3 o4 o5 o6:Option A7},BQ top [] (hp.Av [(top,o0),(top+1,o1),(top+2,o2),(top+3,o3),(top+4,o4),(top+5,o5),(top+6,o6)]) hp:=by
   intros;simp [Bt,CG,BQ.set,BQ.refl]
  by_cases c2:x.s= []
  ·have hM:=hx.end c2
   have c2':Xl x.s [] = true:=by rw [c2];rfl
   by_cases p:0≤x.GP
   ·have p':¬x.GP < 0:=by omega
    rw [if_pos p] at hM
    have hF:S9 chk s=if chk x.S=0 then .inl (x.S,x.ops) else .inr (chk x.S,x.GP.toNat):=by unfold S9;rw [if_neg hlen,hM]
    have hcp:=hCP x (by omega) hM
    have hpt:((x.GP.toNat:Nat):Int)=x.GP:=Int.toNat_of_nonneg p
    have hSV:∀ {h':Hp},h' (top+3)=AD AL x.S.R→h' (top+4)=AD Ad x.S.K→h' (top+5)=AD AJ x.S.U→SH h' (.agg ⟨[.int .i64 x.S.W, .int .i64 x.S.A, .int .i64 x.S.T, .int .i64 x.S.L,AA (top+3) x.S.R,AA (top+4) x.S.K,AA (top+5) x.S.U]⟩) x.S:=fun a b c=>⟨⟨_,_,_,rfl,BP.JF a (by omega),BP.JF b (by omega),BP.JF c (by omega)⟩,by omega,by omega,by omega⟩
    have hE:∀ {h':Hp},h' (top+3)=AD AL x.S.R→h' (top+4)=AD Ad x.S.K→h' (top+5)=AD AJ x.S.U→(∃S,SH h' (.agg ⟨[.int .i64 x.S.W, .int .i64 x.S.A, .int .i64 x.S.T, .int .i64 x.S.L,AA (top+3) x.S.R,AA (top+4) x.S.K,AA (top+5) x.S.U]⟩) S∧CP S)=True:=fun a b c=>eq_true ⟨_,hSV a b c,hcp⟩
    have hD:∀ {h':Hp},h' (top+3)=AD AL x.S.R→h' (top+4)=AD Ad x.S.K→h' (top+5)=AD AJ x.S.U→Lv h' (.agg ⟨[.int .i64 x.S.W, .int .i64 x.S.A, .int .i64 x.S.T, .int .i64 x.S.L,AA (top+3) x.S.R,AA (top+4) x.S.K,AA (top+5) x.S.U]⟩)=x.S:=fun a b c=>(hSV a b c).d
    by_cases c3:chk x.S=0
    ·rw [if_pos c3] at hF
     rw [hF]
     refine CW.vc env [0,2,3,4,5,6,7,8,9,10,11,15,18,34,42,50,66] (by kernel_rfl) ?_
     (repeat ((try refine Vc.mk' ?_);simp (maxSteps:=6000000) only [go_sem,Im,Bk,c2',p',Bool.not_false,Bool.not_true,EC,Ac,BU,decide_false,decide_true,jh,Jl,hE,hD,hv,AQ ht5,BW ht5,c3,HN]))
     exact pY (n:=x.GP) (by simp [AZ,AG,Bk]) (by simp [AG,HN]) (by simp [AZ,AG]) (by simp [AZ,AG]) (by simp [AZ,AG]) (by simp [AZ,AG]) (by simp [AZ,AG]) (by simp [BQ.set,BQ.refl]) rfl rfl
    ·rw [if_neg c3] at hF
     rw [hF]
     refine CW.vc env [0,2,3,4,5,6,7,8,9,10,11,15,18,34,42,50,66] (by kernel_rfl) ?_
     (repeat ((try refine Vc.mk' ?_);simp (maxSteps:=6000000) only [go_sem,Im,Bk,c2',p',Bool.not_false,Bool.not_true,EC,Ac,BU,decide_false,jh,Jl,hE,hD,hv,AQ ht5,BW ht5,c3,Zf,F5,intOf_int]))
     exact Ga (S:=x.S) (n:=x.GP.toNat) (by simp [AZ,AG];rfl) (by simp [AZ,AG]) (by rw [hpt];simp [AG]) (by omega) (by simp [BQ.set,BQ.refl]) rfl rfl
   ·have p':(x.GP < 0)=True:=eq_true (by omega)
    rw [if_neg p] at hM
    have hF:S9 chk s= .inr (12,x.n):=by unfold S9;rw [if_neg hlen,hM]
    rw [hF]
    refine CW.vc env [0,2,3,4,5,6,7,8,9,10,11,15,18,34,42,50,66] (by kernel_rfl) ?_
    (repeat ((try refine Vc.mk' ?_);simp (maxSteps:=6000000) only [go_sem,Im,c2',p',Bool.not_true,EC,Ac,BG,decide_true]))
    exact Ga (S:=x.S) (n:=x.n) (c:=12) (by simp [AZ,AG];rfl) (by simp [AZ,AG]) (by simp [AZ,AG]) (by omega) (by simp [BQ.set,BQ.refl]) rfl rfl
  ·have hne:Xl x.s [] = false:=by rw [OW];simpa using c2
   have m1:(x.s.length < 4294967281)=True:=eq_true (by omega)
   have hcl2:=bT x.s
   have m2:((DJ x.s).1.length < 4294967281)=True:=eq_true (by omega)
   have m3:((DJ x.s).1.length≤100000)=True:=eq_true (by omega)
   cases hi:(DJ x.s).2.2 with
   |false=>
    have e:S9 chk s= .inr (12,x.n):=hx.bad c2 chk hlen (by unfold Fo;rw [if_pos hi])
    rw [e]
    refine CW.vc env [0,2,3,4,5,6,7,8,9,10,11,15,18,34,42,50,66] (by kernel_rfl) ?_
    (repeat ((try refine Vc.mk' ?_);simp (maxSteps:=6000000) only [go_sem,Im,hne,E5,D7,Ka,m1,hmx,Ae t2,hi,EC,Ac,BG]))
    exact Ga (S:=x.S) (n:=x.n) (c:=12) (by simp [AZ,AG];rfl) (by simp [AZ,AG]) (by simp [AZ,AG]) (by omega) (by simp [BQ.set,BQ.refl]) rfl rfl
   |true=>
    have kk:Ap .i64 ((x.n:Int)+1)=((x.n+1:Nat):Int):=Bf (n:=4294967281) (by omega) (by omega)
    have hif:¬((DJ x.s).2.2=false):=by rw [hi];simp
    by_cases p:0≤x.GP
    ·have p':¬x.GP < 0:=by omega
     cases ho:P5 (DJ x.s).1 with
     |none=>
      have e:S9 chk s= .inr (12,x.n):=hx.bad c2 chk hlen (by unfold Fo;rw [if_neg hif,if_pos p,ho])
      rw [e]
      have hR:∀t,ny (DJ x.s).1 t= .inr (En 12, [],t):=fun t=>Fj ho
      refine CW.vc env [0,2,3,4,5,6,7,8,9,10,11,15,18,34,42,50,66] (by kernel_rfl) ?_
      (repeat ((try refine Vc.mk' ?_);simp (maxSteps:=6000000) only [go_sem,Im,hne,E5,D7,Ka,m1,hmx,Ae t2,hi,EC,Ac,BU,decide_false,p',Bool.not_false,ZU,M3,m2,hv,AQ ht5,BW ht5,AH,hR]))
      exact Ga (S:=x.S) (n:=x.n) (c:=12) (by simp [AZ,AG];rfl) (by simp [AZ,AG]) (by simp [AZ,AG]) (by omega) (by simp [BQ.set,BQ.refl]) rfl rfl
     |some o=>
      have hR:∀t,ny (DJ x.s).1 t= .inl (.agg ⟨Aw.enc o⟩, [],t):=fun t=>il ho
      by_cases hq:x.ops.length=512
      ·have e:S9 chk s= .inr (3,x.n):=hx.bad c2 chk hlen (by unfold Fo;rw [if_neg hif,if_pos p,ho];simp only [hq,if_true])
       rw [e]
       have hq':((x.ops.length:Int)=512)=True:=eq_true (by omega)
       refine CW.vc env [0,2,3,4,5,6,7,8,9,10,11,15,18,34,42,50,66] (by kernel_rfl) ?_
       (repeat ((try refine Vc.mk' ?_);simp (maxSteps:=6000000) only [go_sem,Im,Bk,hne,E5,D7,Ka,m1,hmx,Ae t2,hi,EC,Ac,BU,decide_false,decide_true,p',Bool.not_false,ZU,M3,m2,hv,AQ ht5,BW ht5,AH,hR,hq',Zf,F5,intOf_int,Ai]))
       exact Ga (S:=x.S) (n:=x.n) (c:=3) (by simp [AZ,AG];rfl) (by simp [AZ,AG]) (by simp [AZ,AG]) (by omega) (by simp [BQ.set,BQ.refl]) rfl rfl
      ·have hq':¬(x.ops.length:Int)=512:=by omega
       have hap:∀ {h':Hp} {q t:Nat},h' (top+6)=AD Aw x.ops→h' q=some (.cells true 7 (Aw.enc o))→AM tt.get h' t [27,27] (AA (top+6) x.ops) (.slice (some ⟨q,0,none⟩) 1 1)=some (AA t (x.ops ++ [o]),CC (top+6) x.ops t (AD Aw (x.ops ++ [o])),t+1):=fun {h'} {q} {t} a1 a2=>by
        have e3:cellsOf (h' q)=Aw.enc o:=by rw [a2];rfl
        have:=l8 (hp:=h') (b:=top+6) (top:=t) (k:=q) a1 (by rw [e3];exact a2) (by rw [e3,Aw.h]) (CL (by omega) (by decide))
        rwa [e3,Aw.h] at this
       simp only [Ai] at hap
       refine CW.vc env [0,2,3,4,5,6,7,8,9,10,11,15,18,34,42,50,66] (by kernel_rfl) ?_
       (repeat ((try refine Vc.mk' ?_);simp (maxSteps:=6000000) only [go_sem,Im,Bk,hne,E5,D7,Ka,m1,hmx,Ae t2,hi,EC,Ac,BU,decide_false,p',Bool.not_false,ZU,M3,m2,hv,AQ ht5,BW ht5,AH,hR,hq',intOf_int,Ai,hap,kk]))
       have hst:Fo x= .inl {x with ops:=x.ops ++ [o],n:=x.n+1,s:=(DJ x.s).2.1}:=by unfold Fo;rw [if_neg hif,if_pos p,ho];simp only [hq,if_false]
       obtain ⟨n1,n2⟩:=hx.next c2 hst hi rfl rfl (by show x.GP≤((x.n+1:Nat):Int);omega) (by show x.S.R.length+x.S.K.length+x.S.U.length+(x.ops ++ [o]).length≤_;simp;omega)
       refine .mk _ n1 n2 (Rj _ (top+3) (top+4) (top+5) (top+9) hcl (by simp) ⟨by omega,by omega,by omega,by omega⟩ rfl rfl rfl rfl rfl rfl ?_ ?_ ?_ ?_ ?_ ?_ ?_ ?_)
       ·simp [BQ.set,BQ.refl]
       ·simp [AZ,AG,Bk]
       ·simp [AZ,AG]
       ·simp [AG]
       ·right;simp [AZ,AG]
       ·right;simp [AZ,AG]
       ·right;simp [AZ,AG]
       ·right;simp [AZ,AG]
    ·have p':(x.GP < 0)=True:=eq_true (by omega)
     -- <set>
     have c0:∀ {h':Hp},h' top=Bk x.S (AA (top+3) x.S.R) (AA (top+4) x.S.K) (AA (top+5) x.S.U) (AA (top+6) x.ops)→(Cd h' top 4=AA (top+3) x.S.R∧Cd h' top 5=AA (top+4) x.S.K∧Cd h' top 6=AA (top+5) x.S.U∧Cd h' top 7=AA (top+6) x.ops):=fun {h'} e=>by
      have e:h' top=some (.cells true 0 [.int .i64 x.S.W, .int .i64 x.S.A, .int .i64 x.S.T, .int .i64 x.S.L,AA (top+3) x.S.R,AA (top+4) x.S.K,AA (top+5) x.S.U,AA (top+6) x.ops]):=e
      simp [Cd,e]
     have hAt:∀ {h':Hp},h' top=Bk x.S (AA (top+3) x.S.R) (AA (top+4) x.S.K) (AA (top+5) x.S.U) (AA (top+6) x.ops)→h' (top+3)=AD AL x.S.R→h' (top+4)=AD Ad x.S.K→h' (top+5)=AD AJ x.S.U→WN h' top x.S (top+3) (top+4) (top+5) (AA (top+6) x.ops):=fun a b c d=>⟨a,b,c,d,by omega,by omega,by omega,by omega,by omega,by omega,ay,aH⟩
     have hpre:∀ {h':Hp},h' top=Bk x.S (AA (top+3) x.S.R) (AA (top+4) x.S.K) (AA (top+5) x.S.U) (AA (top+6) x.ops)→h' (top+3)=AD AL x.S.R→h' (top+4)=AD Ad x.S.K→h' (top+5)=AD AJ x.S.U→(∃S r k u ov,WN h' top S r k u ov∧r < top+7∧k < top+7∧u < top+7)=True:=fun a b c d=>eq_true ⟨_,_,_,_,_,hAt a b c d,by omega,by omega,by omega⟩
     have hS:∀ {h':Hp},h' top=Bk x.S (AA (top+3) x.S.R) (AA (top+4) x.S.K) (AA (top+5) x.S.U) (AA (top+6) x.ops)→h' (top+3)=AD AL x.S.R→h' (top+4)=AD Ad x.S.K→h' (top+5)=AD AJ x.S.U→oE h' top=x.S:=fun a b c d=>(hAt a b c d).s
     have hw:Ov (DJ x.s).1=at' (Bm (DJ x.s).1) 0:=rfl
     have hws:Ox (DJ x.s).1=(Bm (DJ x.s).1).drop 1:=rfl
     by_cases c4:(DJ x.s).1= [112,108,97,121]
     ·by_cases c5:x.last=0
      ·have hqe:Bn x.S (Ov (DJ x.s).1) (Ox (DJ x.s).1) x.last=⟨0,x.S,none⟩:=by rw [c4];exact cq _ _
       have e:S9 chk s= .inr (12,x.n):=hx.bad c2 chk hlen (by unfold Fo;rw [if_neg hif,if_neg p,if_neg (fun h=>h.2 c5),hqe])
       rw [e]
       have hres:∀ {h':Hp},h' top=Bk x.S (AA (top+3) x.S.R) (AA (top+4) x.S.K) (AA (top+5) x.S.U) (AA (top+6) x.ops)→Al h' top (top+7) ⟨0,x.S,none⟩= .inr (En 12, [],top+7):=fun _=>rfl
       have c4':=eq_true c4
       rw [c5] at hqe
       refine CW.vc env [0,2,3,4,5,6,7,8,9,10,11,15,18,34,42,50,66] (by kernel_rfl) ?_
       (repeat ((try refine Vc.mk' ?_);simp (maxSteps:=6000000) only [go_sem,Im,hne,E5,D7,Ka,m1,hmx,Ae t2,hi,EC,Ac,BU,AV,decide_true,p',Bool.not_false,Bool.not_true,IC,Fk,m3,hv,AQ ht5,BW ht5,AH,intOf_int,hpre,hS,←hw,←hws,hqe,hres,c4',c5]))
       exact Ga (S:=x.S) (n:=x.n) (c:=12) (by simp [AZ,AG];rfl) (by simp [AZ,AG]) (by simp [AZ,AG]) (by omega) (by simp [BQ.set,BQ.refl]) rfl rfl
      ·have hst:Fo x= .inl {x with GP:=x.n,n:=x.n+1,s:=(DJ x.s).2.1}:=by unfold Fo;rw [if_neg hif,if_neg p,if_pos ⟨c4,c5⟩]
       obtain ⟨n1,n2⟩:=hx.next c2 hst hi rfl rfl (by show (x.n:Int)≤((x.n+1:Nat):Int);omega) (by show x.S.R.length+x.S.K.length+x.S.U.length+x.ops.length≤_;omega)
       have c4':=eq_true c4
       refine CW.vc env [0,2,3,4,5,6,7,8,9,10,11,15,18,34,42,50,66] (by kernel_rfl) ?_
       (repeat ((try refine Vc.mk' ?_);simp (maxSteps:=6000000) only [go_sem,Im,hne,E5,D7,Ka,m1,hmx,Ae t2,hi,EC,Ac,BU,AV,decide_false,decide_true,p',Bool.not_false,Bool.not_true,AH,intOf_int,c4',c5,kk]))
       refine .mk _ n1 n2 (Rj _ (top+3) (top+4) (top+5) (top+6) hcl (by simp) ⟨by omega,by omega,by omega,by omega⟩ rfl rfl rfl rfl rfl rfl ?_ ?_ ?_ ?_ ?_ ?_ ?_ ?_)
       ·simp [BQ.set,BQ.refl]
       ·simp [AZ,AG]
       ·simp [AZ,AG]
       ·simp [AG]
       ·right;simp [AZ,AG]
       ·right;simp [AZ,AG]
       ·right;simp [AZ,AG]
       ·right;simp [AZ,AG]
     have c4n:¬((DJ x.s).1= [112,108,97,121]∧x.last≠0):=fun h=>c4 h.1
     have hst0:∀q,Bn x.S (Ov (DJ x.s).1) (Ox (DJ x.s).1) x.last=q→Fo x=(match q.now with | none=> .inr (12,x.n) | some m=> .inl {x with S:=q.S,last:=m,n:=x.n+1,s:=(DJ x.s).2.1}):=fun q hq=>by unfold Fo;rw [if_neg hif,if_neg p,if_neg c4n,hq];cases q.now <;> rfl
     have hc:=YP x.S (Ov (DJ x.s).1) (Ox (DJ x.s).1) x.last
     generalize hqe:Bn x.S (Ov (DJ x.s).1) (Ox (DJ x.s).1) x.last=q at hc hst0
     obtain ⟨ch,S',now⟩:=q
     replace hst0:=hst0 _ rfl
     rcases hc with ⟨e1,e2⟩ | ⟨e1,e2,e3,e4⟩ | ⟨e1,⟨el,e2⟩,e3,e4⟩ | ⟨e1,⟨el,e2⟩,e3,e4⟩ | ⟨e1,⟨el,e2⟩,e3,e4⟩
     ·replace e1:ch=0:=e1
      subst e1
      replace e2:now=none:=e2
      subst e2
      have hres:∀ {h':Hp},h' top=Bk x.S (AA (top+3) x.S.R) (AA (top+4) x.S.K) (AA (top+5) x.S.U) (AA (top+6) x.ops)→Al h' top (top+7) ⟨0,S',none⟩= .inr (En 12, [],top+7):=fun _=>rfl
      have e:S9 chk s= .inr (12,x.n):=hx.bad c2 chk hlen hst0
      rw [e]
      refine CW.vc env [0,2,3,4,5,6,7,8,9,10,11,15,18,34,42,50,66] (by kernel_rfl) ?_
      (repeat ((try refine Vc.mk' ?_);simp (maxSteps:=6000000) only [go_sem,Im,hne,E5,D7,Ka,m1,hmx,Ae t2,hi,EC,Ac,BU,AV,decide_false,decide_true,p',Bool.not_false,Bool.not_true,IC,Fk,m3,hv,AQ ht5,BW ht5,AH,intOf_int,hpre,hS,←hw,←hws,hqe,hres,c4]))
      exact Ga (S:=x.S) (n:=x.n) (c:=12) (by simp [AZ,AG];rfl) (by simp [AZ,AG]) (by simp [AZ,AG]) (by omega) (by simp [BQ.set,BQ.refl]) rfl rfl
     ·replace e1:ch=1:=e1
      subst e1
      replace e2:S'.R=x.S.R:=e2
      replace e3:S'.K=x.S.K:=e3
      replace e4:S'.U=x.S.U:=e4
      cases now with
      |none=>
       have hres:∀ {h':Hp},h' top=Bk x.S (AA (top+3) x.S.R) (AA (top+4) x.S.K) (AA (top+5) x.S.U) (AA (top+6) x.ops)→Al h' top (top+7) ⟨1,S',none⟩= .inr (En 12, [(top,Bk S' (AA (top+3) x.S.R) (AA (top+4) x.S.K) (AA (top+5) x.S.U) (AA (top+6) x.ops))],top+7):=fun e=>by
        obtain ⟨k1,k2,k3,k4⟩:=c0 e
        simp only [Al,Ev,Er,k1,k2,k3,k4]
       have e:S9 chk s= .inr (12,x.n):=hx.bad c2 chk hlen hst0
       rw [e]
       refine CW.vc env [0,2,3,4,5,6,7,8,9,10,11,15,18,34,42,50,66] (by kernel_rfl) ?_
       (repeat ((try refine Vc.mk' ?_);simp (maxSteps:=6000000) only [go_sem,Im,hne,E5,D7,Ka,m1,hmx,Ae t2,hi,EC,Ac,BU,AV,decide_false,decide_true,p',Bool.not_false,Bool.not_true,IC,Fk,m3,hv,AQ ht5,BW ht5,AH,intOf_int,hpre,hS,←hw,←hws,hqe,hres,c4]))
       exact Ga (S:=S') (n:=x.n) (c:=12) (by simp [AG];rfl) (by simp [AZ,AG]) (by simp [AZ,AG]) (by omega) (by simp [BQ.set,BQ.refl]) rfl rfl
      |some m=>
       have hres:∀ {h':Hp},h' top=Bk x.S (AA (top+3) x.S.R) (AA (top+4) x.S.K) (AA (top+5) x.S.U) (AA (top+6) x.ops)→Al h' top (top+7) ⟨1,S',some m⟩= .inl (.int .i64 m, [(top,Bk S' (AA (top+3) x.S.R) (AA (top+4) x.S.K) (AA (top+5) x.S.U) (AA (top+6) x.ops))],top+7):=fun e=>by
        obtain ⟨k1,k2,k3,k4⟩:=c0 e
        simp only [Al,Ev,Er,k1,k2,k3,k4]
       have hll:S'.R.length+S'.K.length+S'.U.length+x.ops.length≤x.S.R.length+x.S.K.length+x.S.U.length+x.ops.length+1:=by
        rw [e2,e3,e4]
        omega
       obtain ⟨n1,n2⟩:=hx.next c2 hst0 hi rfl rfl (by show x.GP≤((x.n+1:Nat):Int);omega) hll
       refine CW.vc env [0,2,3,4,5,6,7,8,9,10,11,15,18,34,42,50,66] (by kernel_rfl) ?_
       (repeat ((try refine Vc.mk' ?_);simp (maxSteps:=6000000) only [go_sem,Im,hne,E5,D7,Ka,m1,hmx,Ae t2,hi,EC,Ac,BU,AV,decide_false,decide_true,p',Bool.not_false,Bool.not_true,IC,Fk,m3,hv,AQ ht5,BW ht5,AH,intOf_int,hpre,hS,←hw,←hws,hqe,hres,c4,kk]))
       refine .mk _ n1 n2 (Rj _ (top+3) (top+4) (top+5) (top+6) hcl (by simp) ⟨by omega,by omega,by omega,by omega⟩ rfl rfl rfl rfl rfl rfl ?_ ?_ ?_ ?_ ?_ ?_ ?_ ?_)
       ·simp [BQ.set,BQ.refl]
       ·simp [AZ,AG,e2,e3,e4]
       ·simp [AZ,AG]
       ·simp [AG]
       ·right;simp [AZ,AG,e2]
       ·right;simp [AZ,AG,e3]
       ·right;simp [AZ,AG,e4]
       ·right;simp [AZ,AG]
     ·replace e1:ch=2:=e1
      subst e1
      replace e2:S'.R=x.S.R ++ [el]:=e2
      replace e3:S'.K=x.S.K:=e3
      replace e4:S'.U=x.S.U:=e4
      have zb:∃z,Cn (AA (top+3) x.S.R) (top+7)=z∧(z=top+3∨z=top+7):=⟨_,rfl,by unfold Cn AA;cases x.S.R <;> simp⟩
      obtain ⟨z,hz,hz2⟩:=zb
      have z0:¬top=z:=by omega
      have z1:¬top+1=z:=by omega
      have z2:¬top+2=z:=by omega
      have z4:¬top+4=z:=by omega
      have z5:¬top+5=z:=by omega
      have z6:¬top+6=z:=by omega
      have zk:top≤z:=by omega
      cases now with
      |none=>
       have hres:∀ {h':Hp},h' top=Bk x.S (AA (top+3) x.S.R) (AA (top+4) x.S.K) (AA (top+5) x.S.U) (AA (top+6) x.ops)→Al h' top (top+7) ⟨2,S',none⟩= .inr (En 12, [(z,none),(top+7,AD AL S'.R),(top,Bk S' (AA (top+7) S'.R) (AA (top+4) x.S.K) (AA (top+5) x.S.U) (AA (top+6) x.ops))],top+8):=fun e=>by
        obtain ⟨k1,k2,k3,k4⟩:=c0 e
        simp only [Al,Ev,Er,k1,k2,k3,k4,hz]
       have e:S9 chk s= .inr (12,x.n):=hx.bad c2 chk hlen hst0
       rw [e]
       refine CW.vc env [0,2,3,4,5,6,7,8,9,10,11,15,18,34,42,50,66] (by kernel_rfl) ?_
       (repeat ((try refine Vc.mk' ?_);simp (maxSteps:=6000000) only [go_sem,Im,hne,E5,D7,Ka,m1,hmx,Ae t2,hi,EC,Ac,BU,AV,decide_false,decide_true,p',Bool.not_false,Bool.not_true,IC,Fk,m3,hv,AQ ht5,BW ht5,AH,intOf_int,hpre,hS,←hw,←hws,hqe,hres,c4]))
       exact Ga (S:=S') (n:=x.n) (c:=12) (by simp [AG];rfl) (by simp [AZ,AG,z1]) (by simp [AZ,AG,z2]) (by omega) (by simp [BQ.set,BQ.refl,zk]) rfl rfl
      |some m=>
       have hres:∀ {h':Hp},h' top=Bk x.S (AA (top+3) x.S.R) (AA (top+4) x.S.K) (AA (top+5) x.S.U) (AA (top+6) x.ops)→Al h' top (top+7) ⟨2,S',some m⟩= .inl (.int .i64 m, [(z,none),(top+7,AD AL S'.R),(top,Bk S' (AA (top+7) S'.R) (AA (top+4) x.S.K) (AA (top+5) x.S.U) (AA (top+6) x.ops))],top+8):=fun e=>by
        obtain ⟨k1,k2,k3,k4⟩:=c0 e
        simp only [Al,Ev,Er,k1,k2,k3,k4,hz]
       have hll:S'.R.length+S'.K.length+S'.U.length+x.ops.length≤x.S.R.length+x.S.K.length+x.S.U.length+x.ops.length+1:=by
        rw [e2,e3,e4]
        simp only [List.length_append,List.length_cons,List.length_nil]
        omega
       obtain ⟨n1,n2⟩:=hx.next c2 hst0 hi rfl rfl (by show x.GP≤((x.n+1:Nat):Int);omega) hll
       refine CW.vc env [0,2,3,4,5,6,7,8,9,10,11,15,18,34,42,50,66] (by kernel_rfl) ?_
       (repeat ((try refine Vc.mk' ?_);simp (maxSteps:=6000000) only [go_sem,Im,hne,E5,D7,Ka,m1,hmx,Ae t2,hi,EC,Ac,BU,AV,decide_false,decide_true,p',Bool.not_false,Bool.not_true,IC,Fk,m3,hv,AQ ht5,BW ht5,AH,intOf_int,hpre,hS,←hw,←hws,hqe,hres,c4,kk,z2]))
       refine .mk _ n1 n2 (Rj _ (top+7) (top+4) (top+5) (top+6) hcl (by simp) ⟨by omega,by omega,by omega,by omega⟩ rfl rfl rfl rfl rfl rfl ?_ ?_ ?_ ?_ ?_ ?_ ?_ ?_)
       ·simp [BQ.set,BQ.refl,e2,zk]
       ·simp [AZ,AG,e2,e3,e4]
       ·simp [AZ,AG,z1,e2]
       ·simp [AG,e2]
       ·right;simp [AZ,AG,e2]
       ·right;simp [AZ,AG,z4,e2,e3]
       ·right;simp [AZ,AG,z5,e2,e4]
       ·right;simp [AZ,AG,z6,e2]
     ·replace e1:ch=3:=e1
      subst e1
      replace e2:S'.K=x.S.K ++ [el]:=e2
      replace e3:S'.R=x.S.R:=e3
      replace e4:S'.U=x.S.U:=e4
      have zb:∃z,Cn (AA (top+4) x.S.K) (top+7)=z∧(z=top+4∨z=top+7):=⟨_,rfl,by unfold Cn AA;cases x.S.K <;> simp⟩
      obtain ⟨z,hz,hz2⟩:=zb
      have z0:¬top=z:=by omega
      have z1:¬top+1=z:=by omega
      have z2:¬top+2=z:=by omega
      have z3:¬top+3=z:=by omega
      have z5:¬top+5=z:=by omega
      have z6:¬top+6=z:=by omega
      have zk:top≤z:=by omega
      cases now with
      |none=>
       have hres:∀ {h':Hp},h' top=Bk x.S (AA (top+3) x.S.R) (AA (top+4) x.S.K) (AA (top+5) x.S.U) (AA (top+6) x.ops)→Al h' top (top+7) ⟨3,S',none⟩= .inr (En 12, [(z,none),(top+7,AD Ad S'.K),(top,Bk S' (AA (top+3) x.S.R) (AA (top+7) S'.K) (AA (top+5) x.S.U) (AA (top+6) x.ops))],top+8):=fun e=>by
        obtain ⟨k1,k2,k3,k4⟩:=c0 e
        simp only [Al,Ev,Er,k1,k2,k3,k4,hz]
       have e:S9 chk s= .inr (12,x.n):=hx.bad c2 chk hlen hst0
       rw [e]
       refine CW.vc env [0,2,3,4,5,6,7,8,9,10,11,15,18,34,42,50,66] (by kernel_rfl) ?_
       (repeat ((try refine Vc.mk' ?_);simp (maxSteps:=6000000) only [go_sem,Im,hne,E5,D7,Ka,m1,hmx,Ae t2,hi,EC,Ac,BU,AV,decide_false,decide_true,p',Bool.not_false,Bool.not_true,IC,Fk,m3,hv,AQ ht5,BW ht5,AH,intOf_int,hpre,hS,←hw,←hws,hqe,hres,c4]))
       exact Ga (S:=S') (n:=x.n) (c:=12) (by simp [AG];rfl) (by simp [AZ,AG,z1]) (by simp [AZ,AG,z2]) (by omega) (by simp [BQ.set,BQ.refl,zk]) rfl rfl
      |some m=>
       have hres:∀ {h':Hp},h' top=Bk x.S (AA (top+3) x.S.R) (AA (top+4) x.S.K) (AA (top+5) x.S.U) (AA (top+6) x.ops)→Al h' top (top+7) ⟨3,S',some m⟩= .inl (.int .i64 m, [(z,none),(top+7,AD Ad S'.K),(top,Bk S' (AA (top+3) x.S.R) (AA (top+7) S'.K) (AA (top+5) x.S.U) (AA (top+6) x.ops))],top+8):=fun e=>by
        obtain ⟨k1,k2,k3,k4⟩:=c0 e
        simp only [Al,Ev,Er,k1,k2,k3,k4,hz]
       have hll:S'.R.length+S'.K.length+S'.U.length+x.ops.length≤x.S.R.length+x.S.K.length+x.S.U.length+x.ops.length+1:=by
        rw [e2,e3,e4]
        simp only [List.length_append,List.length_cons,List.length_nil]
        omega
       obtain ⟨n1,n2⟩:=hx.next c2 hst0 hi rfl rfl (by show x.GP≤((x.n+1:Nat):Int);omega) hll
       refine CW.vc env [0,2,3,4,5,6,7,8,9,10,11,15,18,34,42,50,66] (by kernel_rfl) ?_
       (repeat ((try refine Vc.mk' ?_);simp (maxSteps:=6000000) only [go_sem,Im,hne,E5,D7,Ka,m1,hmx,Ae t2,hi,EC,Ac,BU,AV,decide_false,decide_true,p',Bool.not_false,Bool.not_true,IC,Fk,m3,hv,AQ ht5,BW ht5,AH,intOf_int,hpre,hS,←hw,←hws,hqe,hres,c4,kk,z2]))
       refine .mk _ n1 n2 (Rj _ (top+3) (top+7) (top+5) (top+6) hcl (by simp) ⟨by omega,by omega,by omega,by omega⟩ rfl rfl rfl rfl rfl rfl ?_ ?_ ?_ ?_ ?_ ?_ ?_ ?_)
       ·simp [BQ.set,BQ.refl,e2,zk]
       ·simp [AZ,AG,e2,e3,e4]
       ·simp [AZ,AG,z1,e2]
       ·simp [AG,e2]
       ·right;simp [AZ,AG,z3,e2,e3]
       ·right;simp [AZ,AG,e2]
       ·right;simp [AZ,AG,z5,e2,e4]
       ·right;simp [AZ,AG,z6,e2]
     ·replace e1:ch=4:=e1
      subst e1
      replace e2:S'.U=x.S.U ++ [el]:=e2
      replace e3:S'.R=x.S.R:=e3
      replace e4:S'.K=x.S.K:=e4
      have zb:∃z,Cn (AA (top+5) x.S.U) (top+7)=z∧(z=top+5∨z=top+7):=⟨_,rfl,by unfold Cn AA;cases x.S.U <;> simp⟩
      obtain ⟨z,hz,hz2⟩:=zb
      have z0:¬top=z:=by omega
      have z1:¬top+1=z:=by omega
      have z2:¬top+2=z:=by omega
      have z3:¬top+3=z:=by omega
      have z4:¬top+4=z:=by omega
      have z6:¬top+6=z:=by omega
      have zk:top≤z:=by omega
      cases now with
      |none=>
       have hres:∀ {h':Hp},h' top=Bk x.S (AA (top+3) x.S.R) (AA (top+4) x.S.K) (AA (top+5) x.S.U) (AA (top+6) x.ops)→Al h' top (top+7) ⟨4,S',none⟩= .inr (En 12, [(z,none),(top+7,AD AJ S'.U),(top,Bk S' (AA (top+3) x.S.R) (AA (top+4) x.S.K) (AA (top+7) S'.U) (AA (top+6) x.ops))],top+8):=fun e=>by
        obtain ⟨k1,k2,k3,k4⟩:=c0 e
        simp only [Al,Ev,Er,k1,k2,k3,k4,hz]
       have e:S9 chk s= .inr (12,x.n):=hx.bad c2 chk hlen hst0
       rw [e]
       refine CW.vc env [0,2,3,4,5,6,7,8,9,10,11,15,18,34,42,50,66] (by kernel_rfl) ?_
       (repeat ((try refine Vc.mk' ?_);simp (maxSteps:=6000000) only [go_sem,Im,hne,E5,D7,Ka,m1,hmx,Ae t2,hi,EC,Ac,BU,AV,decide_false,decide_true,p',Bool.not_false,Bool.not_true,IC,Fk,m3,hv,AQ ht5,BW ht5,AH,intOf_int,hpre,hS,←hw,←hws,hqe,hres,c4]))
       exact Ga (S:=S') (n:=x.n) (c:=12) (by simp [AG];rfl) (by simp [AZ,AG,z1]) (by simp [AZ,AG,z2]) (by omega) (by simp [BQ.set,BQ.refl,zk]) rfl rfl
      |some m=>
       have hres:∀ {h':Hp},h' top=Bk x.S (AA (top+3) x.S.R) (AA (top+4) x.S.K) (AA (top+5) x.S.U) (AA (top+6) x.ops)→Al h' top (top+7) ⟨4,S',some m⟩= .inl (.int .i64 m, [(z,none),(top+7,AD AJ S'.U),(top,Bk S' (AA (top+3) x.S.R) (AA (top+4) x.S.K) (AA (top+7) S'.U) (AA (top+6) x.ops))],top+8):=fun e=>by
        obtain ⟨k1,k2,k3,k4⟩:=c0 e
        simp only [Al,Ev,Er,k1,k2,k3,k4,hz]
       have hll:S'.R.length+S'.K.length+S'.U.length+x.ops.length≤x.S.R.length+x.S.K.length+x.S.U.length+x.ops.length+1:=by
        rw [e2,e3,e4]
        simp only [List.length_append,List.length_cons,List.length_nil]
        omega
       obtain ⟨n1,n2⟩:=hx.next c2 hst0 hi rfl rfl (by show x.GP≤((x.n+1:Nat):Int);omega) hll
       refine CW.vc env [0,2,3,4,5,6,7,8,9,10,11,15,18,34,42,50,66] (by kernel_rfl) ?_
       (repeat ((try refine Vc.mk' ?_);simp (maxSteps:=6000000) only [go_sem,Im,hne,E5,D7,Ka,m1,hmx,Ae t2,hi,EC,Ac,BU,AV,decide_false,decide_true,p',Bool.not_false,Bool.not_true,IC,Fk,m3,hv,AQ ht5,BW ht5,AH,intOf_int,hpre,hS,←hw,←hws,hqe,hres,c4,kk,z2]))
       refine .mk _ n1 n2 (Rj _ (top+3) (top+4) (top+7) (top+6) hcl (by simp) ⟨by omega,by omega,by omega,by omega⟩ rfl rfl rfl rfl rfl rfl ?_ ?_ ?_ ?_ ?_ ?_ ?_ ?_)
       ·simp [BQ.set,BQ.refl,e2,zk]
       ·simp [AZ,AG,e2,e3,e4]
       ·simp [AZ,AG,z1,e2]
       ·simp [AG,e2]
       ·right;simp [AZ,AG,z3,e2,e3]
       ·right;simp [AZ,AG,z4,e2,e4]
       ·right;simp [AZ,AG,e2]
       ·right;simp [AZ,AG,z6,e2]
end Go.Proofs.YthlhnangbinhoaaGreatDoor.Dm
