/- Parse. -/
import Derived.Test.YthlhnangbinhoaaGreatDoorSL
set_option linter.unusedVariables false
namespace Go.Proofs.YthlhnangbinhoaaGreatDoor.Dm
open Go.Dm
set_option maxHeartbeats 64000000
set_option maxRecDepth 20000
mutual
theorem kO:∀v:Value,Ao id v=v
 | .bool _=>rfl
 | .int _ _=>rfl
 | .float _ _=>rfl
 | .complex _ _ _=>rfl
 | .string _=>rfl
 | .pointer none=>rfl
 | .pointer (some ⟨_,_,_⟩)=>rfl
 | .slice none _ _=>rfl
 | .slice (some ⟨_,_,none⟩) _ _=>rfl
 | .slice (some ⟨_,_,some _⟩) _ _=>rfl
 | .map none=>rfl
 | .map (some _)=>rfl
 | .chan _=>rfl
 | .func f ⟨a⟩ ⟨b⟩=>by rw [Ao,NQ a,NQ b]
 | .nilFunc=>rfl
 | .iface t v=>by rw [Ao,kO v]
 | .nilIface=>rfl
 | .agg ⟨l⟩=>by rw [Ao,NQ l]
 | .tuple ⟨l⟩=>by rw [Ao,NQ l]
theorem NQ:∀l:List Value,Cg id l=l
 | []=>rfl
 |v :: l=>by rw[Cg,kO v,NQ l]
end
structure R4 where
 S:BW
 ops:List A0
 last:Int
 Cf:Int
 n:Nat
 s:List UInt8
def NB (l:List UInt8):List UInt8:=at' (Bl l) 0
def NA(l:List UInt8):Ec:=(Bl l).drop 1
def D2 (x:R4):R4 ⊕ (Int×Nat):=
 if (C4 x.s).2.2=false then .inr (12,x.n)
 else if 0≤x.Cf then match ON (C4 x.s).1 with
  |none=> .inr (12,x.n)
  |some o=>if x.ops.length=512 then .inr (3,x.n) else .inl {x with ops:=x.ops ++ [o],n:=x.n+1,s:=(C4 x.s).2.1}
 else if (C4 x.s).1= [112,108,97,121]∧x.last≠0 then .inl {x with Cf:=x.n,n:=x.n+1,s:=(C4 x.s).2.1}
 else match (C9 x.S (NB (C4 x.s).1) (NA (C4 x.s).1) x.last).now with
  |none=> .inr (12,x.n)
  |some m=> .inl {x with S:=(C9 x.S (NB (C4 x.s).1) (NA (C4 x.s).1) x.last).S,last:=m,n:=x.n+1,s:=(C4 x.s).2.1}
def SL:Nat→R4→R4 ⊕ (Int×Nat)
 |0,x=> .inl x
 |k+1,x=>if x.s= []then .inl x else match D2 x with
  | .inr e=> .inr e
  | .inl y=>SL k y
def S0:BW:=⟨0,0,0,0, [], [], []⟩
def sy(s:List UInt8):R4:=⟨S0, [],0, -1,0,s⟩
def ya (s:List UInt8):R4 ⊕ (Int×Nat):=match SL (s.length+1) (sy s) with
 | .inr e=> .inr e
 | .inl x=>if 0≤x.Cf then .inl x else .inr (12,x.n)
def XA (chk:BW→Int)(s:List UInt8):(BW×List A0) ⊕ (Int×Nat):=
 if 65536 < s.length then .inr (3,0) else match ya s with
 | .inr e=> .inr e
 | .inl x=>if chk x.S=0 then .inl (x.S,x.ops) else .inr (chk x.S,x.Cf.toNat)
def Eb(S:BW)(r k u o:Value):List Value:= [.int .i64 S.W, .int .i64 S.A, .int .i64 S.T, .int .i64 S.L,r,k,u,o]
def s7 (x:(BW×List A0) ⊕ (Int×Nat))(t:Nat):Value×A6×Nat:=match x with
 | .inl (S,ops)=>(.tuple ⟨[.agg ⟨Eb S (AA t S.R) (AA (t+1) S.K) (AA (t+2) S.U) (AA (t+3) ops)⟩, .nilIface]⟩, [(t,AD AU S.R),(t+1,AD AP S.K),(t+2,AD AO S.U),(t+3,AD Aw ops)],t+4)
 | .inr (c,n)=>(.tuple ⟨[.agg ⟨Eb S0 (.slice none 0 0) (.slice none 0 0) (.slice none 0 0) (.slice none 0 0)⟩,Qx t]⟩, [(t,N8 c n)],t+1)
structure H5 (hp:Hp) (v:Value) (S:BW):Prop where
 ex:∃r k u,v= .agg ⟨[.int .i64 S.W, .int .i64 S.A, .int .i64 S.T, .int .i64 S.L,r,k,u]⟩∧BF AU hp r S.R∧BF AP hp k S.K∧BF AO hp u S.U
 rl:S.R.length≤1000000
 kl:S.K.length≤1000000
 ul:S.U.length≤1000000
def GP (hp:Hp)(v:Value):BW:=⟨intOf ((B7 v)[0]?.getD undef),intOf ((B7 v)[1]?.getD undef),intOf ((B7 v)[2]?.getD undef),intOf ((B7 v)[3]?.getD undef),AU.rd hp ((B7 v)[4]?.getD undef),AP.rd hp ((B7 v)[5]?.getD undef),AO.rd hp ((B7 v)[6]?.getD undef)⟩
theorem H5.d {hp:Hp}{v:Value}{S:BW}(h:H5 hp v S):GP hp v=S:=by
 obtain ⟨r,k,u,rfl,h1,h2,h3⟩:=h.ex
 simp [GP,B7,intOf,h1.rd,h2.rd,h3.rd]
def GM (CP:BW→Prop)(chk:BW→Int):BE:= .pure (fun args hp=>match args with | [v]=>(∃S,H5 hp v S∧CP S)∧C8 hp | _=>False) (fun args hp=>match args with | [v]=> .int .i64 (chk (GP hp v)) | _=>undef)
end Go.Proofs.YthlhnangbinhoaaGreatDoor.Dm
set_option linter.unusedVariables false
namespace Go.Proofs.YthlhnangbinhoaaGreatDoor.Dm
open Go.Dm
set_option maxHeartbeats 64000000
set_option maxRecDepth 20000
mutual
theorem Zk {n m:Nat}(hnm:n≤m):∀ {v:Value},Sc n v→Sc m v
 | .bool _,_=>trivial
 | .int _ _,_=>trivial
 | .float _ _,_=>trivial
 | .complex _ _ _,_=>trivial
 | .string _,_=>trivial
 | .pointer none,_=>trivial
 | .pointer (some ⟨_,_,_⟩),h=>Nat.lt_of_lt_of_le h hnm
 | .slice none _ _,_=>trivial
 | .slice (some ⟨_,_,none⟩) _ _,h=>Nat.lt_of_lt_of_le h hnm
 | .slice (some ⟨_,_,some _⟩) _ _,_=>trivial
 | .map none,_=>trivial
 | .map (some _),h=>Nat.lt_of_lt_of_le h hnm
 | .chan _,_=>trivial
 | .func _ ⟨_⟩ ⟨_⟩,h=>⟨Nn hnm h.1,Nn hnm h.2⟩
 | .nilFunc,_=>trivial
 | .iface _ v,h=>Zk hnm (v:=v) h
 | .nilIface,_=>trivial
 | .agg ⟨l⟩,h=>Nn hnm (l:=l) h
 | .tuple ⟨l⟩,h=>Nn hnm (l:=l) h
theorem Nn{n m:Nat}(hnm:n≤m):∀ {l:List Value},QH n l→QH m l
 | [],_=>trivial
 |_ :: _,h=>⟨Zk hnm h.1,Nn hnm h.2⟩
end
theorem tu {n m:Nat}(hnm:n≤m):∀ {o:A8},xZ n o→xZ m o
 | .cells _ _ _,h=>Nn hnm h
 | .map _ _,h=>fun e he=>⟨Zk hnm (h e he).1,Zk hnm (h e he).2⟩
 | .iter _ _,_=>trivial
 | .miter _ _ _ _,h=>Nat.lt_of_lt_of_le h hnm
 | .raw _ _,_=>trivial
def Qa (CP:BW→Prop)(chk:BW→Int):BE:= .det (fun args hp _=>match args with | [.string ⟨⟨s⟩⟩]=>(∀x,s.length≤65536→ya s= .inl x→CP x.S)∧C8 hp | _=>False) (fun args _ top=>match args with | [s]=>s7 (XA chk (strOf s)) top | _=>(undef, [],top))
def tY:FuncId→BE:=BV fw 39 UM
theorem N4:Bp Tryz.prog tt.get tY:=L8.add wj
def Vr (CP:BW→Prop)(chk:BW→Int):FuncId→BE:=BV tY 23 (GM CP chk)
theorem iI {CP:BW→Prop}{chk:BW→Int}(h:Ag Tryz.prog 23 (GM CP chk)):Bp Tryz.prog tt.get (Vr CP chk):=N4.add h
theorem tb (CP:BW→Prop)(chk:BW→Int):Vr CP chk 23=GM CP chk:=rfl
theorem tf (CP:BW→Prop)(chk:BW→Int):Vr CP chk 39=UM:=rfl
theorem td (CP:BW→Prop)(chk:BW→Int):Vr CP chk 38=QZ:=rfl
theorem tc (CP:BW→Prop)(chk:BW→Int):Vr CP chk 37=Bx:=rfl
theorem fx (CP:BW→Prop)(chk:BW→Int):Vr CP chk 35=GW:=rfl
theorem tZ (CP:BW→Prop)(chk:BW→Int):Vr CP chk 36=UH:=rfl
theorem AEM:(∃fn,FTOk Tryz.prog 33 fn)=True:=eq_true ⟨_,Uh.toFTOk⟩
def vZ:Value:= .slice none 0 0
theorem ABi {hp:Hp}{top e b:Nat}{u:FrameMode}(he:hp e=F5 .nilIface) :
  Cd Tryz.prog 33 [.pointer (some ⟨e,0,none⟩), .pointer (some ⟨b,0,none⟩)] u hp top fun u' hp' top'=>u' = u∧hp' = hp∧top' = top:=by
 refine Cd.Af Am Uh rfl 5 rfl [] rfl (post:=fun _ hp' top'=>hp' = hp∧top' = top) (Nat.le_of_ble_eq_true rfl) (fun _ _ _ h=>⟨rfl,h⟩) ?_
 have he':hp e=some (.cells true 0 [.nilIface]):=he
 refine CW.vc FW [0,1,3] (by kernel_rfl) ?_
 (repeat ((try refine Vc.mk' ?_);simp (maxSteps:=6000000) only [go_sem,he',ss]))
theorem ABh {hp:Hp}{top e b:Nat}{u:FrameMode}{t:TypeId}{v:Value}{S:BW}{r k w o:Value}(he:hp e=F5 (.iface t v))(hb:hp b=Cb S r k w o) :
  Cd Tryz.prog 33 [.pointer (some ⟨e,0,none⟩), .pointer (some ⟨b,0,none⟩)] u hp top fun u' hp' top'=>u' = u∧hp' = hp.set b (Cb S0 vZ vZ vZ vZ)∧top' = top:=by
 refine Cd.Af Am Uh rfl 5 rfl [] rfl (post:=fun _ hp' top'=>hp' = hp.set b (Cb S0 vZ vZ vZ vZ)∧top' = top) (Nat.le_of_ble_eq_true rfl) (fun _ _ _ h=>⟨rfl,h⟩) ?_
 have he':hp e=some (.cells true 0 [.iface t v]):=he
 have hb':hp b=some (.cells true 0 [.int .i64 S.W, .int .i64 S.A, .int .i64 S.T, .int .i64 S.L,r,k,w,o]):=hb
 refine CW.vc FW [0,1,3] (by kernel_rfl) ?_
 (repeat ((try refine Vc.mk' ?_);simp (maxSteps:=6000000) only [go_sem,he',hb',jk]))
 rfl
theorem j9 {hp h:Hp}{top t n:Nat}{c:Int}{fr:Cx}(h0:∃S v1 v2 v3 v4,h top=Cb S v1 v2 v3 v4)(h1:h (top+1)=F5 .nilIface)(h2:h (top+2)=some (.cells true 0 [.int .i64 n]))(ht:top+3≤t)(hk:BK top [] h hp)
  (f2:Yp fr 2=(.pointer (some ⟨top,0,none⟩),true)) (f3:Yp fr 3=(.pointer (some ⟨top+1,0,none⟩),true)) :
  LV Tryz.prog tt.get [.cell 2 29, .cell 3 38] (fun v1 h1 top1=>top≤top1∧∃bs,T6 hp top bs (s7 (.inr (c,n)) top) v1 h1 top1) fr [(34, [.pointer (some ⟨top+2,0,none⟩), .pointer (some ⟨top+1,0,none⟩)]),(33, [.pointer (some ⟨top+1,0,none⟩), .pointer (some ⟨top,0,none⟩)])] (yb c false) h t:=by
 obtain ⟨S,v1,v2,v3,v4,h0⟩:=h0
 rw [HP]
 refine ⟨nofun,(WD (c:=c) (a:=top+2) (e:=top+1) (n:=n) (v:= .nilIface) h2 h1 (by omega) (by omega)).mono ?_⟩
 rintro u' hp' top' ⟨rfl,rfl,rfl⟩
 rw [show settle (yb c true)= .returning from rfl,HP]
 refine ⟨nofun,(ABh (e:=top+1) (b:=top) (S:=S) (r:=v1) (k:=v2) (w:=v3) (o:=v4) (t:=51) (v:= .pointer (some ⟨t+1,0,none⟩)) (by simp [BR,Bh,AY,F5,Qx]) (by simp [BR,Bh,Aj,h0,show ¬top=t by omega,show ¬top=t+1 by omega])).mono ?_⟩
 rintro u' hp' top' ⟨rfl,rfl,rfl⟩
 rw [show settle .returning= .returning from rfl,T4]
 simp (maxSteps:=6000000) only [go_sem,F5,Qx,N8,Cb,vZ,f2,f3,s7,Eb,S0]
 refine ⟨by omega, ?_⟩
 have e1:¬t+1=top:=by omega
 have e2:¬t=top:=by omega
 have e3:top≤t:=by omega
 have e4:top≤t+1:=by omega
 have hk1:BK top [top] h hp:=fun i hi _=>hk i hi (by simp)
 (refine ⟨[t+1],by simp,by simp;omega,by simp, ?_, ?_, ?_⟩ <;> simp [hk1,e1,e2,e3,e4])
def w4 (hp:Hp)(top:Nat)(x:R4):SS:=⟨[(0, .string ⟨⟨x.s⟩⟩,true),(2, .pointer (some ⟨top,0,none⟩),true),(3, .pointer (some ⟨top+1,0,none⟩),true),(4, .pointer (some ⟨top+2,0,none⟩),true),(5, .int .i64 x.last,true),(6, .int .i64 x.Cf,true)],
 hp.Ac [(top,Cb x.S (AA (top+3) x.S.R) (AA (top+4) x.S.K) (AA (top+5) x.S.U) (AA (top+6) x.ops)),(top+1,F5 .nilIface),(top+2,some (.cells true 0 [.int .i64 (x.n:Int)])),(top+3,AD AU x.S.R),(top+4,AD AP x.S.K),(top+5,AD AO x.S.U),(top+6,AD Aw x.ops)],top+7⟩
theorem Zh {hp h1:Hp}{top t:Nat}{fr:Cx}(x:R4)(a b c d:Nat)(hcl:Cl hp top)(nd: [a,b,c,d].Nodup)(ge:top+3≤a∧top+3≤b∧top+3≤c∧top+3≤d)
  (f0:Hx fr 0=some (.string ⟨⟨x.s⟩⟩,true)) (f2:Hx fr 2=some (.pointer (some ⟨top,0,none⟩),true)) (f3:Hx fr 3=some (.pointer (some ⟨top+1,0,none⟩),true)) (f4:Hx fr 4=some (.pointer (some ⟨top+2,0,none⟩),true)) (f5:Hx fr 5=some (.int .i64 x.last,true)) (f6:Hx fr 6=some (.int .i64 x.Cf,true))
  (hk:BK top [] h1 hp) (m0:h1 top=Cb x.S (AA a x.S.R) (AA b x.S.K) (AA c x.S.U) (AA d x.ops)) (m1:h1 (top+1)=F5 .nilIface) (m2:h1 (top+2)=some (.cells true 0 [.int .i64 (x.n:Int)]))
  (m3:x.S.R= []∨h1 a=AD AU x.S.R) (m4:x.S.K= []∨h1 b=AD AP x.S.K) (m5:x.S.U= []∨h1 c=AD AO x.S.U) (m6:x.ops= []∨h1 d=AD Aw x.ops) :
  ∃ρ,Al ρ (top+3) (w4 hp top x) ⟨fr,h1,t⟩:=by
 have r0:rn (top+3) [a,b,c,d] t top=top:=AE (by omega)
 have r1:rn (top+3) [a,b,c,d] t (top+1)=top+1:=AE (by omega)
 have r2:rn (top+3) [a,b,c,d] t (top+2)=top+2:=AE (by omega)
 have r3:rn (top+3) [a,b,c,d] t (top+3)=a:=Ci (top+3) _ _ 0
 have r4:rn (top+3) [a,b,c,d] t (top+4)=b:=Ci (top+3) _ _ 1
 have r5:rn (top+3) [a,b,c,d] t (top+5)=c:=Ci (top+3) _ _ 2
 have r6:rn (top+3) [a,b,c,d] t (top+6)=d:=Ci (top+3) _ _ 3
 have hcl3:Cl hp (top+3):=⟨fun i o e=>by have:=hcl.lt i o e;omega,fun i o e=>tu (by omega) (hcl.sc i o e)⟩
 refine Al.mk' [a,b,c,d] hcl3 nd (by simpa using ge) (n:=4) rfl (AF ?_) ?_ ?_
 ·simp [Ha,f0,f2,f3,f4,f5,f6,Ao,r0,r1,r2]
 ·intro i hi hm
  by_cases h:i < top
  ·exact hk i h (by simp)
  ·have:i=top∨i=top+1∨i=top+2:=by omega
   exact absurd (by rcases this with rfl | rfl | rfl <;> simp) hm
 ·have q:∀ {α:Type} (E:B6 α) (b:Nat) (l:List α),(l= []∨h1 b=AD E l)→(AD E l=none∨h1 b=AD E l):=fun E b l h=>h.imp (fun h=>by rw [h];rfl) id
  simp only [FQ.cons,FQ.nil,and_true,r0,r1,r2,r3,r4,r5,r6,m0,m1,m2,Ai]
  refine ⟨.inr ?_, .inr ?_, .inr ?_,q _ _ _ m3,q _ _ _ m4,q _ _ _ m5,q _ _ _ m6⟩
  ·simp [Cb,GN,HE,Cg,Ao,Av,r4,r5,r6]
  ·simp [F5,GN,HE,Cg,Ao]
  ·simp [GN,HE,Cg,Ao]
theorem ph {hp h:Hp}{top:Nat}{x:R4}{n:Int}{fr:Cx}(h0:h top=Cb x.S (AA (top+3) x.S.R) (AA (top+4) x.S.K) (AA (top+5) x.S.U) (AA (top+6) x.ops))(h1:h (top+1)=F5 .nilIface)(h2:h (top+2)=some (.cells true 0 [.int .i64 n]))
  (m3:h (top+3)=AD AU x.S.R) (m4:h (top+4)=AD AP x.S.K) (m5:h (top+5)=AD AO x.S.U) (m6:h (top+6)=AD Aw x.ops) (hk:BK top [] h hp)
  (f2:Yp fr 2=(.pointer (some ⟨top,0,none⟩),true)) (f3:Yp fr 3=(.pointer (some ⟨top+1,0,none⟩),true)) :
  LV Tryz.prog tt.get [.cell 2 29, .cell 3 38] (fun v1 h1 top1=>top≤top1∧∃bs,T6 hp top bs (s7 (.inl (x.S,x.ops)) top) v1 h1 top1) fr [(34, [.pointer (some ⟨top+2,0,none⟩), .pointer (some ⟨top+1,0,none⟩)]),(33, [.pointer (some ⟨top+1,0,none⟩), .pointer (some ⟨top,0,none⟩)])] .returning h (top+7):=by
 rw [HP]
 refine ⟨nofun,(WE (a:=top+2) (e:=top+1) (n:=n) (v:= .nilIface) h2 h1).mono ?_⟩
 rintro u' hp' top' ⟨rfl,rfl,rfl⟩
 rw [show settle .returning= .returning from rfl,HP]
 refine ⟨nofun,(ABi (e:=top+1) h1).mono ?_⟩
 rintro u' hp' top' ⟨rfl,rfl,rfl⟩
 rw [show settle .returning= .returning from rfl,T4]
 have h1':hp' (top+1)=some (.cells true 0 [.nilIface]):=h1
 simp (maxSteps:=6000000) only [go_sem,h0,h1',Cb,f2,f3,s7,Eb]
 have r3:rn top [top+3,top+4,top+5,top+6] (top+7) top=top+3:=Eu _ _ _
 have r4:rn top [top+3,top+4,top+5,top+6] (top+7) (top+1)=top+4:=Ci _ _ _ 1
 have r5:rn top [top+3,top+4,top+5,top+6] (top+7) (top+2)=top+5:=Ci _ _ _ 2
 have r6:rn top [top+3,top+4,top+5,top+6] (top+7) (top+3)=top+6:=Ci _ _ _ 3
 refine ⟨[top+3,top+4,top+5,top+6],by simp,by simp,by simp, ?_, ?_, ?_⟩
 ·simp [r4,r5,r6]
 ·intro i hi hm;exact hk i hi (by simp)
 ·simp [r4,r5,r6,m3,m4,m5,m6]
def gL(S:BW)(q:cm):Prop:=(q.ch=0∧q.S=S∧q.now=none)∨(q.ch=1∧q.S.R=S.R∧q.S.K=S.K∧q.S.U=S.U)∨(q.ch=2∧(∃c,q.S.R=S.R ++ [c])∧q.S.K=S.K∧q.S.U=S.U)∨
  (q.ch=3∧(∃c,q.S.K=S.K ++ [c])∧q.S.R=S.R∧q.S.U=S.U)∨(q.ch=4∧(∃c,q.S.U=S.U ++ [c])∧q.S.R=S.R∧q.S.K=S.K)
theorem ZN (S:BW)(w:List UInt8)(ws:Ec)(last:Int):gL S (C9 S w ws last):=by
 unfold gL C9
 repeat' split
 all_goals simp
abbrev cn (h:Hp) (top:Nat) (S:BW) (o:Value):Prop:=h top=Cb S (AA (top+3) S.R) (AA (top+4) S.K) (AA (top+5) S.U) o∧h (top+3)=AD AU S.R∧h (top+4)=AD AP S.K∧h (top+5)=AD AO S.U
theorem qL (top:Nat){S:BW}(o:Value){q:cm}(hc:gL S q):∃us t a b c,top+7≤t∧ [a,b,c,top+6].Nodup∧(top+3≤a∧top+3≤b∧top+3≤c)∧q.S.R.length+q.S.K.length+q.S.U.length≤S.R.length+S.K.length+S.U.length+1∧(∀(h:Hp) i,i=top+1∨i=top+2∨i=top+6∨i < top→h.Ac us i=h i)∧
  ∀h,cn h top S o→Hs h top (top+7) q=(match q.now with | some m=> .inl (.int .i64 m,us,t) | none=> .inr (QA 12,us,t))∧h.Ac us top=Cb q.S (AA a q.S.R) (AA b q.S.K) (AA c q.S.U) o∧h.Ac us a=AD AU q.S.R∧h.Ac us b=AD AP q.S.K∧h.Ac us c=AD AO q.S.U:=by
 refine ⟨SP (fun _=>Cb S (AA (top+3) S.R) (AA (top+4) S.K) (AA (top+5) S.U) o) top (top+7) q,SO (top+7) q,if q.ch=2 then top+7 else top+3,if q.ch=3 then top+7 else top+4,if q.ch=4 then top+7 else top+5, ?_⟩
 have zb:∀ {α:Type} (l:List α) (d:Nat),Jm (AA d l) (top+7)=d∨Jm (AA d l) (top+7)=top+7:=fun l d=>by cases l <;> simp [Jm,AA]
 have z1:=zb S.R (top+3)
 have z2:=zb S.K (top+4)
 have z3:=zb S.U (top+5)
 rcases hc with ⟨c,c2,c3⟩ | ⟨c,c2,c3,c4⟩ | ⟨c,⟨_,c2⟩,c3,c4⟩ | ⟨c,⟨_,c2⟩,c3,c4⟩ | ⟨c,⟨_,c2⟩,c3,c4⟩
 all_goals
  rcases z1 with z1 | z1 <;> rcases z2 with z2 | z2 <;> rcases z3 with z3 | z3
  all_goals
   simp only [c,Hs,SO,SP,Cs,Cb,List.getElem?_cons_succ,List.getElem?_cons_zero,Option.getD_some,z1,z2,z3]
   refine ⟨by simp,by simp,by simp, ?_, ?_,fun h e=> ?_⟩
   ·first | rw [c2,c3,c4] | rw [c2]
    try simp only [List.length_append,List.length_singleton]
    omega
   ·intro h i hi
    simp [BR,Bh,Hp.set]
    repeat (first | rfl | omega | split)
   ·obtain ⟨e1,e2,e3,e4⟩:=e
    rw [Cb] at e1
    simp [e1,e2,e3,e4,BR,Bh,Hp.set,c2,c3,z1,z2,z3]
    try simp [c4]
    try (cases q.now <;> rfl)
structure Vu (s:List UInt8) (x:R4):Prop where
 k:∃k,x.s.length < k∧SL (s.length+1) (sy s)=SL k x
 l:x.S.R.length+x.S.K.length+x.S.U.length+x.ops.length+x.s.length≤s.length
 n:x.n+x.s.length≤s.length
 p:x.Cf≤x.n
theorem Vu.bad {s:List UInt8}{x:R4}(h:Vu s x)(hne:¬x.s= [])(chk:BW→Int)(hl:¬65536 < s.length){e:Int×Nat}(he:D2 x= .inr e):XA chk s= .inr e:=by
 obtain ⟨k,h1,h2⟩:=h.k
 obtain ⟨k,rfl⟩:∃j,k=j+1:=⟨k - 1,by omega⟩
 unfold XA
 rw [if_neg hl]
 unfold ya
 rw [h2,SL,if_neg hne,he]
theorem Vu.end {s:List UInt8}{x:R4}(h:Vu s x)(he:x.s= []):ya s=if 0≤x.Cf then .inl x else .inr (12,x.n):=by
 obtain ⟨k,h1,h2⟩:=h.k
 obtain ⟨k,rfl⟩:∃j,k=j+1:=⟨k - 1,by omega⟩
 unfold ya
 rw [h2,SL,if_pos he]
theorem Vu.next {s:List UInt8}{x y:R4}(h:Vu s x)(hne:¬x.s= [])(he:D2 x= .inl y)(hi:(C4 x.s).2.2=true)(hy:y.s=(C4 x.s).2.1)(hn:y.n=x.n+1)(hp:y.Cf≤y.n)
  (hl:y.S.R.length+y.S.K.length+y.S.U.length+y.ops.length≤x.S.R.length+x.S.K.length+x.S.U.length+x.ops.length+1):Vu s y∧y.s.length < x.s.length:=by
 obtain ⟨k,h1,h2⟩:=h.k
 obtain ⟨k,rfl⟩:∃j,k=j+1:=⟨k - 1,by omega⟩
 have hc:=(Z4 x.s).2.2 hi
 have:=h.l
 have:=h.n
 rw [←hy] at hc
 refine ⟨⟨⟨k,by omega, ?_⟩,by omega,by omega,hp⟩,hc⟩
 rw [h2,SL,if_neg hne,he]
theorem ABg {CP:BW→Prop}{chk:BW→Int}(hCk:Ag Tryz.prog 23 (GM CP chk)):Ag Tryz.prog 13 (Qa CP chk):=by
 refine ⟨⟨_,bH⟩,fun args hp top hpre=>AJ.Eh fun hcl hsc=> ?_⟩
 match args,hpre with
 | [.string ⟨⟨s⟩⟩],⟨hCP,hv⟩=>
 have ht5:=Em hcl hv
 have eN:=iI hCk
 simp only [AH]
 refine AJ.TU Am bH rfl 70 rfl [.cell 2 29, .cell 3 38] rfl (Nat.le_of_ble_eq_true rfl) ?_
 refine CD.seq (CD.of (CW.vc eN [0,2,3,4,5,6,7,8,9,10,11,15,18,34,42,50,66] (by kernel_rfl) ?_))
 (repeat ((try refine Vc.mk' ?_);simp (maxSteps:=6000000) only [go_sem]))
 refine CD.seq (CD.of (CW.vc eN [0,2,3,4,5,6,7,8,9,10,11,15,18,34,42,50,66] (by kernel_rfl) ?_))
 (repeat ((try refine Vc.mk' ?_);simp (maxSteps:=6000000) only [go_sem]))
 refine CD.seq (CD.region eN [0,2,3,4,5,6,7,8,9,10,11,15,18,34,42,50,66] (by kernel_rfl) ?_)
 simp (maxSteps:=6000000) only [go_sem,Oo,AEM,Ex,FP]
 refine CD.seq (CD.region eN [0,2,3,4,5,6,7,8,9,10,11,15,18,34,42,50,66] (by kernel_rfl) ?_)
 simp (maxSteps:=6000000) only [go_sem,Oo,AAW]
 have hz0:(3:Int)=3:=rfl
 by_cases hlen:65536 < s.length
 ·have e:XA chk s= .inr (3,0):=by unfold XA;rw [if_pos hlen]
  rw [e]
  have hl:(65536:Int) < (s.length:Int):=by omega
  refine CD.of (CW.vc eN [0,2,3,4,5,6,7,8,9,10,11,15,18,34,42,50,66] (by kernel_rfl) ?_)
  (repeat ((try refine Vc.mk' ?_);simp (maxSteps:=6000000) only [go_sem,fx,GW,hl,intOf_int,Ap]))
  exact j9 (c:=3) (n:=0) ⟨S0,_,_,_,_,by simp [Aj,AY];rfl⟩ (by simp [Aj,AY];rfl) (by simp [AY]) (by omega) (by simp [BK.set,BK.refl]) rfl rfl
 have hl:¬(65536:Int) < (s.length:Int):=by omega
 have hsl:(s.length≤281474976710656):=by omega
 refine CD.of (CW.vc eN [0,2,3,4,5,6,7,8,9,10,11,15,18,34,42,50,66] (by kernel_rfl) ?_)
 (repeat ((try refine Vc.mk' ?_);simp (maxSteps:=6000000) only [go_sem,hl,intOf_int,Ap]))
 refine CW.Bc (w4 hp top) (Vu s) (fun x=>x.s.length) (sy s) ⟨⟨s.length+1,Nat.lt_succ_self _,rfl⟩,by simp [sy,S0],by simp [sy],by simp [sy]⟩ ?_ ?x
 ·refine Zh (sy s) (top+3) (top+4) (top+5) (top+6) hcl (by simp) ⟨by omega,by omega,by omega,by omega⟩ rfl rfl rfl rfl rfl rfl ?_ ?_ ?_ ?_ (.inl rfl) (.inl rfl) (.inl rfl) (.inl rfl)
  ·simp []
  ·simp [];rfl
  ·simp [];rfl
  ·simp [];rfl
 rintro x hx
 have hL:=hx.l
 have hN:=hx.n
 have hP:=hx.p
 obtain ⟨ml,hml⟩:=hv.2.1
 have t2:2 < top:=by omega
 have hmx:(∃m,hp 2=some (Pc 1 (.int .i64 m)))=True:=eq_true ⟨ml,hml⟩
 have m1:(x.s.length < 4294967281)=True:=eq_true (by omega)
 have hcl2:=Z4 x.s
 have m2:((C4 x.s).1.length < 4294967281)=True:=eq_true (by omega)
 have m3:((C4 x.s).1.length≤100000)=True:=eq_true (by omega)
 have kk:Ad .i64 ((x.n:Int)+1)=((x.n+1:Nat):Int):=Ae (n:=4294967281) (by omega) (by omega)
 have hA:∀ {h':Hp},cn h' top x.S (AA (top+6) x.ops)→Vv h' top x.S (top+3) (top+4) (top+5) (AA (top+6) x.ops):=fun h=>⟨h.1,h.2.1,h.2.2.1,h.2.2.2,by omega,by omega,by omega,by omega,by omega,by omega,bZ,bX⟩
 have hpre:∀ {h':Hp},cn h' top x.S (AA (top+6) x.ops)→(∃S r k u ov,Vv h' top S r k u ov∧r < top+7∧k < top+7∧u < top+7)=True:=fun h=>eq_true ⟨_,_,_,_,_,hA h,by omega,by omega,by omega⟩
 have hS:∀ {h':Hp},cn h' top x.S (AA (top+6) x.ops)→qJ h' top=x.S:=fun h=>(hA h).s
 have hSV:∀ {h':Hp},cn h' top x.S (AA (top+6) x.ops)→H5 h' (.agg ⟨[.int .i64 x.S.W, .int .i64 x.S.A, .int .i64 x.S.T, .int .i64 x.S.L,AA (top+3) x.S.R,AA (top+4) x.S.K,AA (top+5) x.S.U]⟩) x.S:=fun h=>⟨⟨_,_,_,rfl,BF.DK h.2.1 (by omega),BF.DK h.2.2.1 (by omega),BF.DK h.2.2.2 (by omega)⟩,by omega,by omega,by omega⟩
 have hD:∀ {h':Hp},cn h' top x.S (AA (top+6) x.ops)→GP h' (.agg ⟨[.int .i64 x.S.W, .int .i64 x.S.A, .int .i64 x.S.T, .int .i64 x.S.L,AA (top+3) x.S.R,AA (top+4) x.S.K,AA (top+5) x.S.U]⟩)=x.S:=fun h=>(hSV h).d
 have hw:NB (C4 x.s).1=at' (Bl (C4 x.s).1) 0:=rfl
 have hws:NA (C4 x.s).1=(Bl (C4 x.s).1).drop 1:=rfl
 have T:=True.intro
 rcases Classical.em (x.s= []) with c2 | c2
 case' x.inl=>
  have hM:=hx.end c2
  rcases Classical.em (x.Cf < 0) with p | p
 case' x.inl.inl=>
  have hF:XA chk s= .inr (12,x.n):=by unfold XA;rw [if_neg hlen,hM,if_neg (by omega)]
  have hf:=T
 case' x.inl.inr=>
  rw [if_pos (by omega)] at hM
  have hE:∀ {h':Hp},cn h' top x.S (AA (top+6) x.ops)→(∃S,H5 h' (.agg ⟨[.int .i64 x.S.W, .int .i64 x.S.A, .int .i64 x.S.T, .int .i64 x.S.L,AA (top+3) x.S.R,AA (top+4) x.S.K,AA (top+5) x.S.U]⟩) S∧CP S)=True:=fun h=>eq_true ⟨_,hSV h,hCP x (by omega) hM⟩
  have hF:XA chk s=if chk x.S=0 then .inl (x.S,x.ops) else .inr (chk x.S,x.Cf.toNat):=by unfold XA;rw [if_neg hlen,hM]
  have hpt:((x.Cf.toNat:Nat):Int)=x.Cf:=Int.toNat_of_nonneg (by omega)
  rcases Classical.em (chk x.S=0) with c3 | c3
 case' x.inl.inr.inl=>
  rw [if_pos c3] at hF
  have hf:=And.intro @hE c3
 case' x.inl.inr.inr=>
  rw [if_neg c3] at hF
  have hf:=And.intro @hE (And.intro c3 hpt)
 case' x.inr=>cases hi:(C4 x.s).2.2
 case' x.inr.false=>
  have hF:XA chk s= .inr (12,x.n):=hx.bad c2 chk hlen (by unfold D2;rw [if_pos hi])
  have p:=T
  have hf:=hi
 case' x.inr.true=>
  have hif:¬((C4 x.s).2.2=false):=by rw [hi];simp
  rcases Classical.em (x.Cf < 0) with p | p
 case' x.inr.true.inr=>
  have p1:0≤x.Cf:=by omega
  rcases ho:ON (C4 x.s).1 with _ | o
 case' x.inr.true.inr.none=>
  have hF:XA chk s= .inr (12,x.n):=hx.bad c2 chk hlen (by unfold D2;rw [if_neg hif,if_pos p1,ho])
  have hR:∀t,pd (C4 x.s).1 t= .inr (QA 12, [],t):=fun t=>RL ho
  have hf:=And.intro hi hR
 case' x.inr.true.inr.some=>
  have hR:∀t,pd (C4 x.s).1 t= .inl (.agg ⟨Aw.enc o⟩, [],t):=fun t=>jz ho
  simp only [Az] at hR
  rcases Classical.em (x.ops.length=512) with hq | hq
 case' x.inr.true.inr.some.inl=>
  have hF:XA chk s= .inr (3,x.n):=hx.bad c2 chk hlen (by unfold D2;rw [if_neg hif,if_pos p1,ho];simp only [hq,if_true])
  have hf:=And.intro hi (And.intro hR (show (x.ops.length:Int)=512 by omega))
 case' x.inr.true.inr.some.inr=>
  have hap:∀ {h':Hp} {q t:Nat},h' (top+6)=AD Aw x.ops→h' q=some (.cells true 7 (Aw.enc o))→AK tt.get h' t [27,27] (AA (top+6) x.ops) (.slice (some ⟨q,0,none⟩) 1 1)=some (AA t (x.ops ++ [o]),Bu (top+6) x.ops t (AD Aw (x.ops ++ [o])),t+1):=fun {h'} {q} {t} a1 a2=>by
   have e3:cellsOf (h' q)=Aw.enc o:=by rw [a2];rfl
   have:=V5 (hp:=h') (b:=top+6) (top:=t) (k:=q) a1 (by rw [e3];exact a2) (by rw [e3,Aw.h]) (CO (by omega) (by decide))
   rwa [e3,Aw.h] at this
  simp only [Az] at hap
  have hst:D2 x= .inl {x with ops:=x.ops ++ [o],n:=x.n+1,s:=(C4 x.s).2.1}:=by unfold D2;rw [if_neg hif,if_pos p1,ho];simp only [hq,if_false]
  have hn:=hx.next c2 hst hi rfl rfl (by show x.Cf≤((x.n+1:Nat):Int);omega) (by show x.S.R.length+x.S.K.length+x.S.U.length+(x.ops ++ [o]).length≤_;simp;omega)
  have hf:=And.intro hi (And.intro hR (And.intro @hap (show ¬(x.ops.length:Int)=512 by omega)))
 case' x.inr.true.inl=>
  have p1:¬0≤x.Cf:=by omega
  rcases Classical.em ((C4 x.s).1= [112,108,97,121]∧x.last≠0) with c4 | c4
 case' x.inr.true.inl.inl=>
  have hst:D2 x= .inl {x with Cf:=x.n,n:=x.n+1,s:=(C4 x.s).2.1}:=by unfold D2;rw [if_neg hif,if_neg p1,if_pos c4]
  have hn:=hx.next c2 hst hi rfl rfl (by show (x.n:Int)≤((x.n+1:Nat):Int);omega) (by show x.S.R.length+x.S.K.length+x.S.U.length+x.ops.length≤_;omega)
  have hf:=And.intro hi c4
 case' x.inr.true.inl.inr=>
  have c5:(decide ((C4 x.s).1= [112,108,97,121]) && !decide (x.last=0))=false:=by simpa using c4
  have hst0:∀q,C9 x.S (NB (C4 x.s).1) (NA (C4 x.s).1) x.last=q→D2 x=(match q.now with | none=> .inr (12,x.n) | some m=> .inl {x with S:=q.S,last:=m,n:=x.n+1,s:=(C4 x.s).2.1}):=fun q hq=>by unfold D2;rw [if_neg hif,if_neg p1,if_neg c4,hq];try (cases q.now <;> rfl)
  have hc:=ZN x.S (NB (C4 x.s).1) (NA (C4 x.s).1) x.last
  generalize hqe:C9 x.S (NB (C4 x.s).1) (NA (C4 x.s).1) x.last=q at hc hst0
  obtain ⟨us,t,a,b,c,ht,nd,ge,hql,hu,hU⟩:=qL top (AA (top+6) x.ops) hc
  replace hst0:=hst0 _ rfl
  have hr:∀ {h':Hp},cn h' top x.S (AA (top+6) x.ops)→Hs h' top (top+7) q=(match q.now with | some m=> .inl (.int .i64 m,us,t) | none=> .inr (QA 12,us,t)):=fun h=>(hU _ h).1
  have hs:∀ {h':Hp},h'.Ac us (top+1)=h' (top+1)∧h'.Ac us (top+2)=h' (top+2)∧h'.Ac us (top+6)=h' (top+6):=fun {h'}=>⟨hu _ _ (.inl rfl),hu _ _ (.inr (.inl rfl)),hu _ _ (.inr (.inr (.inl rfl)))⟩
  have hV:=fun {h':Hp} (h:cn h' top x.S (AA (top+6) x.ops))=>(hU _ h).2
  have hk:∀ {h':Hp},BK top [] h' hp→BK top [] (h'.Ac us) hp:=fun h i hi hm=>(hu _ _ (.inr (.inr (.inr hi)))).trans (h i hi hm)
  have gn:¬a=top+2∧¬b=top+2∧¬c=top+2:=by omega
  rcases hnow:q.now with _ | m
 case' x.inr.true.inl.inr.none=>
  simp only [hnow] at hst0 hr
  have hF:XA chk s= .inr (12,x.n):=hx.bad c2 chk hlen hst0
  have hf:=And.intro hi (And.intro c5 (And.intro hqe (And.intro @hr (And.intro @hs (And.intro @hV (And.intro @hk gn))))))
 case' x.inr.true.inl.inr.some=>
  simp only [hnow] at hst0 hr
  have hf:=And.intro hi (And.intro c5 (And.intro hqe (And.intro @hr (And.intro @hs (And.intro @hV (And.intro @hk gn))))))
  have hn:=hx.next c2 hst0 hi rfl rfl (by show x.Cf≤((x.n+1:Nat):Int);omega) (by show q.S.R.length+q.S.K.length+q.S.U.length+x.ops.length≤_;omega)
 all_goals
  try rw [hF]
  refine CW.vc eN [0,2,3,4,5,6,7,8,9,10,11,15,18,34,42,50,66] (by kernel_rfl) ?_
  (repeat ((try refine Vc.mk' ?_);simp (maxSteps:=6000000) only [go_sem,w4,Cb,cn,tZ,UH,uU,m1,hmx,Bw t2,tc,Bx,Fs,EU,c2,Ay,decide_false,decide_true,p,Bool.not_false,Bool.not_true,td,QZ,m2,hv,CR ht5,FO ht5,AH,fx,GW,intOf_int,kk,tf,UM,m3,hpre,hS,←hw,←hws,tb,GM,hD,F5,hf]))
  first
   |exact ph (n:=x.Cf) (by simp [Aj,AY,Cb]) (by simp [AY,F5]) (by simp [Aj,AY]) (by simp [Aj,AY]) (by simp [Aj,AY]) (by simp [Aj,AY]) (by simp [Aj,AY]) (by simp [BK.set,BK.refl]) rfl rfl
   |exact j9 ⟨_,_,_,_,_,by first | exact (hV (by simp [Aj,AY,cn,Cb])).1 | (simp [Aj,AY];rfl)⟩ (by simp [Aj,AY,hf,F5]) (by simp [Aj,AY,hf]) (by omega) (by simp [BK.set,BK.refl,hf]) rfl rfl
   | (first
     |refine .mk _ hn.1 hn.2 (Zh _ a b c (top+6) hcl nd (by omega) rfl rfl rfl rfl rfl rfl ?_ ?_ ?_ ?_ ?_ ?_ ?_ ?_)
     |have:= @hap;refine .mk _ hn.1 hn.2 (Zh _ (top+3) (top+4) (top+5) (top+9) hcl (by simp) (by omega) rfl rfl rfl rfl rfl rfl ?_ ?_ ?_ ?_ ?_ ?_ ?_ ?_)
     |refine .mk _ hn.1 hn.2 (Zh _ (top+3) (top+4) (top+5) (top+6) hcl (by simp) (by omega) rfl rfl rfl rfl rfl rfl ?_ ?_ ?_ ?_ ?_ ?_ ?_ ?_)
     ) <;> first | (simp [BK.set,BK.refl,Aj,AY,Cb,cn,F5,hf];done) | (right;simp [Aj,AY,Cb,cn,F5,hf];done)
end Go.Proofs.YthlhnangbinhoaaGreatDoor.Dm
