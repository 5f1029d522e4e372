/- A setup's line. -/
import Derived.Test.YthlhnangbinhoaaGreatDoorSJ
set_option linter.unusedVariables false
namespace Go.Proofs.YthlhnangbinhoaaGreatDoor.Dm
open Go.Dm
set_option maxHeartbeats 64000000
set_option maxRecDepth 20000
structure CK where
 W:Int
 A:Int
 T:Int
 L:Int
 R:List B3
 K:List Ak
 U:List BJ
structure XM where
 ch:Nat
 S:CK
 now:Option Int
def Cb (now last:Int):Option Int:=if last≤now∧(now=1 ↔ last=0) then some now else none
def Vb (ws:Ha):Bool:=decide (ws.length=3) && decide (at' ws 2= [105,110,103,114,101,115,115])
def Bn (S:CK)(w:List UInt8)(ws:Ha)(last:Int):XM:=
 if w= [119,111,114,108,100] then
  if last=0 then match EH ws 4 with
   |some xs=>⟨1, {S with W:=at' xs 0,A:=at' xs 1,T:=at' xs 2,L:=at' xs 3},Cb 1 last⟩
   |none=>⟨0,S,none⟩
  else ⟨0,S,none⟩
 else if w= [114,111,117,116,101,114] then match EH (if Vb ws=true then ws.take 2 else ws) 2 with
  |some xs=>⟨2, {S with R:=S.R ++ [⟨at' xs 0,at' xs 1,Vb ws⟩]},Cb 2 last⟩
  |none=>⟨0,S,none⟩
 else if w= [108,105,110,107] then match EH ws 3 with
  |some xs=>⟨3, {S with K:=S.K ++ [⟨at' xs 0,at' xs 1,at' xs 2⟩]},Cb 3 last⟩
  |none=>⟨0,S,none⟩
 else if w= [100,114,111,112] then match EH ws 3 with
  |some xs=>⟨4, {S with U:=S.U ++ [⟨at' xs 0,at' xs 1,at' xs 2,1,0⟩]},Cb 4 last⟩
  |none=>⟨0,S,none⟩
 else if w= [100,111,117,98,108,101] then match EH ws 4 with
  |some xs=>⟨4, {S with U:=S.U ++ [⟨at' xs 0,at' xs 1,at' xs 2,2,at' xs 3⟩]},Cb 4 last⟩
  |none=>⟨0,S,none⟩
 else if w= [100,101,108,97,121] then match EH ws 4 with
  |some xs=>⟨4, {S with U:=S.U ++ [⟨at' xs 0,at' xs 1,at' xs 2,3,at' xs 3⟩]},Cb 4 last⟩
  |none=>⟨0,S,none⟩
 else ⟨0,S,none⟩
def Cd (hp:Hp)(b i:Nat):Value:=match hp b with
 |some (.cells _ _ vs)=>(vs[i]?).getD undef
 |_=>undef
def Cn (v:Value)(d:Nat):Nat:=match v with
 | .slice (some ⟨b,_,_⟩) _ _=>b
 |_=>d
def oE (hp:Hp)(b:Nat):CK:=⟨intOf (Cd hp b 0),intOf (Cd hp b 1),intOf (Cd hp b 2),intOf (Cd hp b 3),AL.rd hp (Cd hp b 4),Ad.rd hp (Cd hp b 5),AJ.rd hp (Cd hp b 6)⟩
def Bk (S:CK)(r k u ov:Value):Option A7:=some (.cells true 0 [.int .i64 S.W, .int .i64 S.A, .int .i64 S.T, .int .i64 S.L,r,k,u,ov])
def Ev (hp:Hp)(b top:Nat)(x:XM):BI:=match x.ch with
 |0=> []
 |1=> [(b,Bk x.S (Cd hp b 4) (Cd hp b 5) (Cd hp b 6) (Cd hp b 7))]
 |2=> [(Cn (Cd hp b 4) top,none),(top,AD AL x.S.R),(b,Bk x.S (AA top x.S.R) (Cd hp b 5) (Cd hp b 6) (Cd hp b 7))]
 |3=> [(Cn (Cd hp b 5) top,none),(top,AD Ad x.S.K),(b,Bk x.S (Cd hp b 4) (AA top x.S.K) (Cd hp b 6) (Cd hp b 7))]
 |_=> [(Cn (Cd hp b 6) top,none),(top,AD AJ x.S.U),(b,Bk x.S (Cd hp b 4) (Cd hp b 5) (AA top x.S.U) (Cd hp b 7))]
def Er (top:Nat)(x:XM):Nat:=match x.ch with
 |0=>top
 |1=>top
 |_=>top+1
def Al (hp:Hp)(b top:Nat)(x:XM):(Value×BI×Nat) ⊕ (Value×BI×Nat):=match x.now with
 |some n=> .inl (.int .i64 n,Ev hp b top x,Er top x)
 |none=> .inr (En 12,Ev hp b top x,Er top x)
structure WN (hp:Hp) (b:Nat) (S:CK) (r k u:Nat) (ov:Value):Prop where
 h:hp b=Bk S (AA r S.R) (AA k S.K) (AA u S.U) ov
 R:hp r=AD AL S.R
 K:hp k=AD Ad S.K
 U:hp u=AD AJ S.U
 rb:r≠b
 kb:k≠b
 ub:u≠b
 rl:S.R.length≤1000000
 kl:S.K.length≤1000000
 ul:S.U.length≤1000000
 o1:ov.oneCell' = true
 o2:A1 ov= [ov]
theorem WN.s {hp:Hp}{b r k u:Nat}{S:CK}{ov:Value}(h:WN hp b S r k u ov):oE hp b=S:=by
 have e:hp b=some (.cells true 0 [.int .i64 S.W, .int .i64 S.A, .int .i64 S.T, .int .i64 S.L,AA r S.R,AA k S.K,AA u S.U,ov]):=h.h
 have h1:AL.rd hp (AA r S.R)=S.R:=MJ h.R (by have:=h.rl;omega)
 have h2:Ad.rd hp (AA k S.K)=S.K:=MJ h.K (by have:=h.kl;omega)
 have h3:AJ.rd hp (AA u S.U)=S.U:=MJ h.U (by have:=h.ul;omega)
 simp [oE,Cd,e,h1,h2,h3]
def Fk:Bb:= .pan (fun args hp top=>match args with | [.pointer (some ⟨b,0,none⟩), .string ⟨⟨s⟩⟩, .int .i64 _]=>(∃S r k u ov,WN hp b S r k u ov∧r < top∧k < top∧u < top)∧s.length≤100000∧C7 hp | _=>False)
 (fun args hp top=>match args with | [.pointer (some ⟨b,_,_⟩),s,last]=>Al hp b top (Bn (oE hp b) (at' (Bm (strOf s)) 0) ((Bm (strOf s)).drop 1) (intOf last)) | _=> .inr (undef, [],top))
theorem Tb:∀ {ws:Ha} {xs ys:List Int},KV xs ws=some ys→ys.length=xs.length+ws.length
 | [],xs,ys,h=>by cases h;rfl
 |w :: l,xs,ys,h=>by
  unfold KV at h
  split at h
  ·rw [Tb h];simp;omega
  ·cases h
theorem FE {ws:Ha}{n:Int}{xs:List Int}(h:EH ws n=some xs):(xs.length:Int)=n:=by
 unfold EH at h
 split at h
 ·rename_i c;rw [Tb h];simpa using c
 ·cases h
theorem Ch {α:Type}{b d:Nat}{l:List α}(h:l≠ []):Cn (AA b l) d=b:=by
 cases l with
 |nil=>exact absurd rfl h
 |cons a l=>rfl
def fi:FuncId→Bb:=Bw qW 78 Au
theorem BB:CQ Tryz.prog tt.get fi:=OL.add pC
theorem BD:fi 73=Aj:=rfl
theorem Ba:fi 37=Ac:=rfl
theorem BL:fi 78=Au:=rfl
theorem xK:A0 Tryz.prog 39 Fk:=by
 refine .PC Vx ?_
 intro args hp top hpre hcl hsc
 match args,hpre with
 | [.pointer (some ⟨b,0,none⟩), .string ⟨⟨s⟩⟩, .int .i64 last],⟨⟨S,r,k,u,ov,HS,hr,hk,hu⟩,hs,hv⟩=>
 have ht5:=Fc hcl hv
 have hv0:=hv
 obtain ⟨_,⟨ml,hml⟩,_,_⟩:=hv0
 simp only [AH,intOf_int,HS.s]
 have hb:hp b=some (.cells true 0 [.int .i64 S.W, .int .i64 S.A, .int .i64 S.T, .int .i64 S.L,AA r S.R,AA k S.K,AA u S.U,ov]):=HS.h
 have hbt:=hcl.lt _ _ hb
 have c4:Cd hp b 4=AA r S.R:=by simp [Cd,hb]
 have c5:Cd hp b 5=AA k S.K:=by simp [Cd,hb]
 have c6:Cd hp b 6=AA u S.U:=by simp [Cd,hb]
 have c7:Cd hp b 7=ov:=by simp [Cd,hb]
 have hsR:Sc top (AA r S.R):=by have:=hcl.sc _ _ hb;exact this.2.2.2.2.1
 have hsK:Sc top (AA k S.K):=by have:=hcl.sc _ _ hb;exact this.2.2.2.2.2.1
 have hsU:Sc top (AA u S.U):=by have:=hcl.sc _ _ hb;exact this.2.2.2.2.2.2.1
 have hsV:Sc top ov:=by have:=hcl.sc _ _ hb;exact this.2.2.2.2.2.2.2.1
 have hne:=Md s
 have hsl:1≤(Bm s).length:=by
  cases h:Bm s with
  |nil=>exact absurd h hne
  |cons a l=>simp
 have hn0:=NC s
 have hmx:(∃m,hp 2=some (Ph 1 (.int .i64 m)))=True:=eq_true ⟨ml,hml⟩
 have hs4:(s.length < 4294967281)=True:=eq_true (by omega)
 have t2:2 < top:=by omega
 have nbr:¬b=r:=fun e=>HS.rb e.symm
 have nbk:¬b=k:=fun e=>HS.kb e.symm
 have nbu:¬b=u:=fun e=>HS.ub e.symm
 have hW:∀ {h':Hp},h' top=AD AE (Bm s)→BP AE h' (AA top (Bm s)) (Bm s):=fun e=>BP.JF e (by omega)
 obtain ⟨h0,hm0⟩:∃h0:Hp,h0 top=AD AE (Bm s):=⟨fun i=>if i=top then AD AE (Bm s) else none,by simp⟩
 have ix0:Aa tt.get 67 (AA top (Bm s)) (.int .i64 0)=(Ag (AA top (Bm s)) 0,True):=by
  have:=DM (hW hm0) (k:= .i64) (n:=0) (by decide) (by omega)
  simpa using this
 have ld0:∀ {h':Hp},h' top=AD AE (Bm s)→A4 tt.get h' 9 (Ag (AA top (Bm s)) 0)=(.string ⟨⟨at' (Bm s) 0⟩⟩,True):=fun e=>Dw (hW e) (i:=0) (by omega)
 have sl1:∀ {h':Hp},h' top=AD AE (Bm s)→Bv tt.get h' 67 (AA top (Bm s)) (some (.int .i64 1)) none=(vR top (Bm s).length 1,True):=fun {h'} e=>by
  have:=MC (hW e) (k:= .i64) (n:=1) (by decide) (by omega)
  rw [this,Ut hne]
  simp only [show (1:Int).toNat=1 from rfl]
  rw [Gl (by omega)]
 have hS:∀ {h':Hp},h' top=AD AE (Bm s)→BP AE h' (vR top (Bm s).length 1) ((Bm s).drop 1):=fun e=>kG e hne (by omega) (by omega)
 have hWd:Zm ((Bm s).drop 1):=⟨by rw [List.length_drop];omega,fun w hw=>by have:=LL s w (List.mem_of_mem_drop hw);omega⟩
 generalize hws:(Bm s).drop 1=ws at hS hWd
 generalize hw:at' (Bm s) 0=w at ld0
 have sL':∀ {h':Hp},CF tt.get h' 67 (vR top (Bm s).length 1)=(.int .i64 (ws.length:Int),True):=FA (hS hm0)
 have nP:∀ {h':Hp},h' top=AD AE (Bm s)→GQ AE h' (vR top (Bm s).length 1)=True:=fun e=>(hS e).P
 have nR:∀ {h':Hp},h' top=AD AE (Bm s)→AE.rd h' (vR top (Bm s).length 1)=ws:=fun e=>(hS e).rd
 have nW:Zm ws=True:=eq_true hWd
 have ixN:∀ {t:Nat} {xs:List Int} {i:Nat},xs.length≤4→i < xs.length→Aa tt.get 68 (AA t xs) (.int .i64 (i:Int))=(Ag (AA t xs) (i * 1),True):=fun {t} {xs} {i} h4 hi=>by
  have:=Ib (BP.JF (hp:=fun j=>if j=t then AD AY xs else none) (b:=t) (E:=AY) (l:=xs) (by simp) (by omega)) (k:= .i64) (n:=(i:Int)) (by omega) (by omega)
  simpa using this
 have ldN:∀ {h':Hp} {t:Nat} {xs:List Int} {i:Nat},xs.length≤4→i < xs.length→h' t=AD AY xs→A4 tt.get h' 3 (Ag (AA t xs) (i * 1))=(.int .i64 (at' xs i),True):=fun {h'} {t} {xs} {i} h4 hi e=>M6 (BP.JF e (by omega)) (i:=i) hi
 refine EI.A5 BA Vx rfl 182 rfl [.tmp 6] rfl (show 3≤182 by decide) ?_
 by_cases e_world:w= [119,111,114,108,100]
 ·have p_world:=eq_true e_world
  by_cases e_last:last=0
  ·have pl:=eq_true e_last
   have p0:¬((1:Int) < last):=by omega
   cases hn:EH (ws) 4 with
   |none=>
    have e:Al hp b top (Bn S w ws last)= .inr (En 12, [],top):=by unfold Bn;rw [if_pos e_world];rw [if_pos e_last];rw [hn];rfl
    rw [e]
    have hnu:∀t,Ew (ws) 4 t= .inr (En 12, [],t):=fun t=>F7 hn
    refine CW.vc BB [0,1,2,6,7,8,9,10,11,12,13,14,15,16,23,24,55,66,88,111,134,140] (by kernel_rfl) ?_
    (repeat ((try refine Vc.mk' ?_);simp (maxSteps:=6000000) only [go_sem,BD,Aj,Ar,hs4,hmx,sl1,ix0,ld0,AV,Ba,Ac,decide_true,p_world,pl,BL,Au,nP,nR,nW,hv,AQ ht5,hnu]))
    (refine ⟨[],by simp,by simp,by simp, ?_, ?_, ?_⟩ <;> simp [])
   |some xs=>
    have hxl:xs.length=4:=by have:=FE hn;omega
    have hnu:∀t,Ew (ws) 4 t= .inl (AA t xs, [(t,AD AY xs)],t+1):=fun t=>Gp hn
    have ix_0:∀ {t:Nat},Aa tt.get 68 (AA t xs) (.int .i64 0)=(Ag (AA t xs) 0,True):=fun {t}=>ixN (i:=0) (by omega) (by omega)
    have ld_0:∀ {h':Hp} {t:Nat},h' t=AD AY xs→A4 tt.get h' 3 (Ag (AA t xs) 0)=(.int .i64 (at' xs 0),True):=fun {h'} {t} e=>ldN (i:=0) (by omega) (by omega) e
    have ix_1:∀ {t:Nat},Aa tt.get 68 (AA t xs) (.int .i64 1)=(Ag (AA t xs) 1,True):=fun {t}=>ixN (i:=1) (by omega) (by omega)
    have ld_1:∀ {h':Hp} {t:Nat},h' t=AD AY xs→A4 tt.get h' 3 (Ag (AA t xs) 1)=(.int .i64 (at' xs 1),True):=fun {h'} {t} e=>ldN (i:=1) (by omega) (by omega) e
    have ix_2:∀ {t:Nat},Aa tt.get 68 (AA t xs) (.int .i64 2)=(Ag (AA t xs) 2,True):=fun {t}=>ixN (i:=2) (by omega) (by omega)
    have ld_2:∀ {h':Hp} {t:Nat},h' t=AD AY xs→A4 tt.get h' 3 (Ag (AA t xs) 2)=(.int .i64 (at' xs 2),True):=fun {h'} {t} e=>ldN (i:=2) (by omega) (by omega) e
    have ix_3:∀ {t:Nat},Aa tt.get 68 (AA t xs) (.int .i64 3)=(Ag (AA t xs) 3,True):=fun {t}=>ixN (i:=3) (by omega) (by omega)
    have ld_3:∀ {h':Hp} {t:Nat},h' t=AD AY xs→A4 tt.get h' 3 (Ag (AA t xs) 3)=(.int .i64 (at' xs 3),True):=fun {h'} {t} e=>ldN (i:=3) (by omega) (by omega) e
    have e:Al hp b top (Bn S w ws last)= .inl (.int .i64 1, [(b,some (.cells true 0 [.int .i64 (at' xs 0), .int .i64 (at' xs 1), .int .i64 (at' xs 2), .int .i64 (at' xs 3),AA r S.R,AA k S.K,AA u S.U,ov]))],top):=by
     have:Bn S w ws last=⟨1, {S with W:=at' xs 0,A:=at' xs 1,T:=at' xs 2,L:=at' xs 3},some 1⟩:=by unfold Bn;rw [if_pos e_world];rw [if_pos e_last];rw [hn];simp [Cb,e_last]
     rw [this];simp only [Al,Ev,Er,Bk,c4,c5,c6,c7]
    rw [e]
    refine CW.vc BB [0,1,2,6,7,8,9,10,11,12,13,14,15,16,23,24,55,66,88,111,134,140] (by kernel_rfl) ?_
    (repeat ((try refine Vc.mk' ?_);simp (maxSteps:=6000000) only [go_sem,BD,Aj,Ar,hs4,hmx,sl1,ix0,ld0,AV,Ba,Ac,decide_true,decide_false,p_world,BL,Au,nP,nR,nW,hv,AQ ht5,hnu,hb,Ae hbt,ix_0,ld_0,ix_1,ld_1,ix_2,ld_2,ix_3,ld_3,pl,p0,BU]))
    (refine ⟨[],by simp,by simp,by simp, ?_, ?_, ?_⟩ <;> simp [AB hbt,Sc.Az (fun j hj=>AB hj) hsR,Sc.Az (fun j hj=>AB hj) hsK,Sc.Az (fun j hj=>AB hj) hsU,Sc.Az (fun j hj=>AB hj) hsV])
  ·have e:Al hp b top (Bn S w ws last)= .inr (En 12, [],top):=by unfold Bn;rw [if_pos e_world];rw [if_neg e_last];rfl
   rw [e]
   refine CW.vc BB [0,1,2,6,7,8,9,10,11,12,13,14,15,16,23,24,55,66,88,111,134,140] (by kernel_rfl) ?_
   (repeat ((try refine Vc.mk' ?_);simp (maxSteps:=6000000) only [go_sem,BD,Aj,Ar,hs4,hmx,sl1,ix0,ld0,AV,Ba,Ac,decide_true,decide_false,p_world,e_last,BG]))
   (refine ⟨[],by simp,by simp,by simp, ?_, ?_, ?_⟩ <;> simp [])
 have n_world:=e_world
 by_cases e_router:w= [114,111,117,116,101,114]
 ·have p_router:=eq_true e_router
  cases hing:Vb ws with
  |true=>
   have hi3:ws.length=3∧at' ws 2= [105,110,103,114,101,115,115]:=by simpa [Vb] using hing
   have i3:((ws.length:Int)=3)=True:=eq_true (by omega)
   have i2:=eq_true hi3.2
   have ix2:Aa tt.get 67 (vR top (Bm s).length 1) (.int .i64 2)=(Ag (vR top (Bm s).length 1) 2,True):=by have:=DM (hS hm0) (k:= .i64) (n:=2) (by decide) (by omega);simpa using this
   have ld2:∀ {h':Hp},h' top=AD AE (Bm s)→A4 tt.get h' 9 (Ag (vR top (Bm s).length 1) 2)=(.string ⟨⟨at' ws 2⟩⟩,True):=fun e=>Dw (hS e) (i:=2) (by omega)
   have sh2:∀ {h':Hp},h' top=AD AE (Bm s)→Bv tt.get h' 67 (vR top (Bm s).length 1) none (some (.int .i64 2))=(Jo 1 (vR top (Bm s).length 1) 0 2,True):=fun e=>by have:=Yr (hS e) (k:= .i64) (n:=2) (by decide) (by omega);simpa using this
   have hS2:∀ {h':Hp},h' top=AD AE (Bm s)→BP AE h' (Jo 1 (vR top (Bm s).length 1) 0 2) (ws.take 2):=fun e=>(hS e).take (by omega)
   have nP2:∀ {h':Hp},h' top=AD AE (Bm s)→GQ AE h' (Jo 1 (vR top (Bm s).length 1) 0 2)=True:=fun e=>(hS2 e).P
   have nR2:∀ {h':Hp},h' top=AD AE (Bm s)→AE.rd h' (Jo 1 (vR top (Bm s).length 1) 0 2)=ws.take 2:=fun e=>(hS2 e).rd
   have nW2:Zm (ws.take 2)=True:=eq_true ⟨by rw [List.length_take];omega,fun w hw=>hWd.2 w (List.mem_of_mem_take hw)⟩
   cases hn:EH (ws.take 2) 2 with
   |none=>
    have e:Al hp b top (Bn S w ws last)= .inr (En 12, [],top):=by unfold Bn;rw [if_neg n_world];rw [if_pos e_router];rw [if_pos hing];rw [hn];rfl
    rw [e]
    have hnu:∀t,Ew (ws.take 2) 2 t= .inr (En 12, [],t):=fun t=>F7 hn
    refine CW.vc BB [0,1,2,6,7,8,9,10,11,12,13,14,15,16,23,24,55,66,88,111,134,140] (by kernel_rfl) ?_
    (repeat ((try refine Vc.mk' ?_);simp (maxSteps:=6000000) only [go_sem,BD,Aj,Ar,hs4,hmx,sl1,ix0,ld0,AV,decide_true,decide_false,n_world,p_router,sL',i3,i2,ix2,ld2,sh2,nP2,nR2,nW2,BL,Au,hv,AQ ht5,hnu]))
    (refine ⟨[],by simp,by simp,by simp, ?_, ?_, ?_⟩ <;> simp [])
   |some xs=>
    have hxl:xs.length=2:=by have:=FE hn;omega
    have hnu:∀t,Ew (ws.take 2) 2 t= .inl (AA t xs, [(t,AD AY xs)],t+1):=fun t=>Gp hn
    have ix_0:∀ {t:Nat},Aa tt.get 68 (AA t xs) (.int .i64 0)=(Ag (AA t xs) 0,True):=fun {t}=>ixN (i:=0) (by omega) (by omega)
    have ld_0:∀ {h':Hp} {t:Nat},h' t=AD AY xs→A4 tt.get h' 3 (Ag (AA t xs) 0)=(.int .i64 (at' xs 0),True):=fun {h'} {t} e=>ldN (i:=0) (by omega) (by omega) e
    have ix_1:∀ {t:Nat},Aa tt.get 68 (AA t xs) (.int .i64 1)=(Ag (AA t xs) 1,True):=fun {t}=>ixN (i:=1) (by omega) (by omega)
    have ld_1:∀ {h':Hp} {t:Nat},h' t=AD AY xs→A4 tt.get h' 3 (Ag (AA t xs) 1)=(.int .i64 (at' xs 1),True):=fun {h'} {t} e=>ldN (i:=1) (by omega) (by omega) e
    have hset:∀o,Cb 2 last=o→Bn S w ws last=⟨2, {S with R:=S.R ++ [⟨at' xs 0,at' xs 1,true⟩]},o⟩:=fun o ho=>by unfold Bn;rw [if_neg n_world];rw [if_pos e_router];rw [if_pos hing];rw [hn];simp only [hing];rw [ho]
    generalize hel:(⟨at' xs 0,at' xs 1,true⟩:B3)=el at hset
    have hen:AL.enc el=AL.enc ⟨at' xs 0,at' xs 1,true⟩:=by rw [hel]
    simp only [Dt] at hen
    have hap:∀ {h':Hp} {q t:Nat},h' r=AD AL S.R→h' q=some (.cells true 3 (AL.enc ⟨at' xs 0,at' xs 1,true⟩))→AM tt.get h' t [22,22] (AA r S.R) (.slice (some ⟨q,0,none⟩) 1 1)=some (AA t (S.R ++ [el]),CC r S.R t (AD AL (S.R ++ [el])),t+1):=fun {h'} {q} {t} a1 a2=>by
     rw [hel] at a2
     have e3:cellsOf (h' q)=AL.enc el:=by rw [a2];rfl
     have:=ME (hp:=h') (b:=r) (top:=t) (k:=q) a1 (by rw [e3];exact a2) (by rw [e3,AL.h]) (CL (by have:=HS.rl;omega) (by decide))
     rwa [e3,AL.h] at this
    simp only [Dt] at hap
    have hobj:=HS.R
    by_cases d1:last≤2
    ·by_cases d2:last=0
     ·have hf:Cb 2 last=none:=by simp [Cb,d2]
      have d1n:¬((2:Int) < last):=by omega
      have d2t:=eq_true d2
      have e:Al hp b top (Bn S w ws last)= .inr (En 12, [(Cn (AA r S.R) top,none),(top,AD AL (S.R ++ [el])),(b,some (.cells true 0 [.int .i64 S.W, .int .i64 S.A, .int .i64 S.T, .int .i64 S.L,AA top (S.R ++ [el]),AA k S.K,AA u S.U,ov]))],top+1):=by
       rw [hset _ hf];simp only [Al,Ev,Er,Bk,c4,c5,c6,c7]
      rw [e]
      by_cases hz:S.R= []
      ·have hm1:AA r S.R= .slice none 0 0:=by rw [hz];rfl
       rw [hm1] at hb ⊢
       have hap0:∀ {h':Hp} {q t:Nat},h' q=some (.cells true 3 (AL.enc ⟨at' xs 0,at' xs 1,true⟩))→AM tt.get h' t [22,22] (.slice none 0 0) (.slice (some ⟨q,0,none⟩) 1 1)=some (AA t (S.R ++ [el]), [(t,AD AL (S.R ++ [el]))],t+1):=fun {h'} {q} {t} a2=>by
        rw [hel] at a2
        have e3:cellsOf (h' q)=AL.enc el:=by rw [a2];rfl
        have:=Ef (hp:=h') (top:=t) (k:=q) (by rw [e3];exact a2) (by rw [e3,AL.h])
        rw [e3,AL.h] at this
        rw [hz];exact this
       simp only [Dt] at hap0
       simp only [Cn]
       refine CW.vc BB [0,1,2,6,7,8,9,10,11,12,13,14,15,16,23,24,55,66,88,111,134,140] (by kernel_rfl) ?_
       (repeat ((try refine Vc.mk' ?_);simp (maxSteps:=6000000) only [go_sem,BD,Aj,Ar,hs4,hmx,sl1,ix0,ld0,AV,Ba,Ac,decide_true,decide_false,n_world,p_router,sL',i3,i2,ix2,ld2,sh2,nP2,nR2,nW2,BL,Au,hv,AQ ht5,hnu,hb,Ae hbt,ix_0,ld_0,ix_1,ld_1,hap0,d1n,d2t,BG]))
       (refine ⟨[top+3],by simp,by simp,by simp, ?_, ?_, ?_⟩ <;> simp [Bl hbt,AB hbt,Ab,AP,Sc.Az (fun j hj=>AB hj) hsK,Sc.Az (fun j hj=>AB hj) hsU,Sc.Az (fun j hj=>AB hj) hsV])
      ·rw [Ch hz]
       refine CW.vc BB [0,1,2,6,7,8,9,10,11,12,13,14,15,16,23,24,55,66,88,111,134,140] (by kernel_rfl) ?_
       (repeat ((try refine Vc.mk' ?_);simp (maxSteps:=6000000) only [go_sem,BD,Aj,Ar,hs4,hmx,sl1,ix0,ld0,AV,Ba,Ac,decide_true,decide_false,n_world,p_router,sL',i3,i2,ix2,ld2,sh2,nP2,nR2,nW2,BL,Au,hv,AQ ht5,hnu,hb,Ae hbt,ix_0,ld_0,ix_1,ld_1,hap,Ae hr,hobj,nbr,d1n,d2t,BG]))
       (refine ⟨[top+3],by simp,by simp,by simp, ?_, ?_, ?_⟩ <;> simp [Bl hbt,AB hbt,AB hr,Ab,AP,Sc.Az (fun j hj=>AB hj) hsK,Sc.Az (fun j hj=>AB hj) hsU,Sc.Az (fun j hj=>AB hj) hsV])
     ·have hf:Cb 2 last=some 2:=by simp [Cb,d1,d2]
      have d1n:¬((2:Int) < last):=by omega
      have e:Al hp b top (Bn S w ws last)= .inl (.int .i64 2, [(Cn (AA r S.R) top,none),(top,AD AL (S.R ++ [el])),(b,some (.cells true 0 [.int .i64 S.W, .int .i64 S.A, .int .i64 S.T, .int .i64 S.L,AA top (S.R ++ [el]),AA k S.K,AA u S.U,ov]))],top+1):=by
       rw [hset _ hf];simp only [Al,Ev,Er,Bk,c4,c5,c6,c7]
      rw [e]
      by_cases hz:S.R= []
      ·have hm1:AA r S.R= .slice none 0 0:=by rw [hz];rfl
       rw [hm1] at hb ⊢
       have hap0:∀ {h':Hp} {q t:Nat},h' q=some (.cells true 3 (AL.enc ⟨at' xs 0,at' xs 1,true⟩))→AM tt.get h' t [22,22] (.slice none 0 0) (.slice (some ⟨q,0,none⟩) 1 1)=some (AA t (S.R ++ [el]), [(t,AD AL (S.R ++ [el]))],t+1):=fun {h'} {q} {t} a2=>by
        rw [hel] at a2
        have e3:cellsOf (h' q)=AL.enc el:=by rw [a2];rfl
        have:=Ef (hp:=h') (top:=t) (k:=q) (by rw [e3];exact a2) (by rw [e3,AL.h])
        rw [e3,AL.h] at this
        rw [hz];exact this
       simp only [Dt] at hap0
       simp only [Cn]
       refine CW.vc BB [0,1,2,6,7,8,9,10,11,12,13,14,15,16,23,24,55,66,88,111,134,140] (by kernel_rfl) ?_
       (repeat ((try refine Vc.mk' ?_);simp (maxSteps:=6000000) only [go_sem,BD,Aj,Ar,hs4,hmx,sl1,ix0,ld0,AV,Ba,Ac,decide_true,decide_false,n_world,p_router,sL',i3,i2,ix2,ld2,sh2,nP2,nR2,nW2,BL,Au,hv,AQ ht5,hnu,hb,Ae hbt,ix_0,ld_0,ix_1,ld_1,hap0,d1n,d2,BU]))
       (refine ⟨[top+3],by simp,by simp,by simp, ?_, ?_, ?_⟩ <;> simp [Bl hbt,AB hbt,Ab,AP,Sc.Az (fun j hj=>AB hj) hsK,Sc.Az (fun j hj=>AB hj) hsU,Sc.Az (fun j hj=>AB hj) hsV])
      ·rw [Ch hz]
       refine CW.vc BB [0,1,2,6,7,8,9,10,11,12,13,14,15,16,23,24,55,66,88,111,134,140] (by kernel_rfl) ?_
       (repeat ((try refine Vc.mk' ?_);simp (maxSteps:=6000000) only [go_sem,BD,Aj,Ar,hs4,hmx,sl1,ix0,ld0,AV,Ba,Ac,decide_true,decide_false,n_world,p_router,sL',i3,i2,ix2,ld2,sh2,nP2,nR2,nW2,BL,Au,hv,AQ ht5,hnu,hb,Ae hbt,ix_0,ld_0,ix_1,ld_1,hap,Ae hr,hobj,nbr,d1n,d2,BU]))
       (refine ⟨[top+3],by simp,by simp,by simp, ?_, ?_, ?_⟩ <;> simp [Bl hbt,AB hbt,AB hr,Ab,AP,Sc.Az (fun j hj=>AB hj) hsK,Sc.Az (fun j hj=>AB hj) hsU,Sc.Az (fun j hj=>AB hj) hsV])
    ·have hf:Cb 2 last=none:=by simp [Cb,d1]
     have d1n:((2:Int) < last)=True:=eq_true (by omega)
     have e:Al hp b top (Bn S w ws last)= .inr (En 12, [(Cn (AA r S.R) top,none),(top,AD AL (S.R ++ [el])),(b,some (.cells true 0 [.int .i64 S.W, .int .i64 S.A, .int .i64 S.T, .int .i64 S.L,AA top (S.R ++ [el]),AA k S.K,AA u S.U,ov]))],top+1):=by
      rw [hset _ hf];simp only [Al,Ev,Er,Bk,c4,c5,c6,c7]
     rw [e]
     by_cases hz:S.R= []
     ·have hm1:AA r S.R= .slice none 0 0:=by rw [hz];rfl
      rw [hm1] at hb ⊢
      have hap0:∀ {h':Hp} {q t:Nat},h' q=some (.cells true 3 (AL.enc ⟨at' xs 0,at' xs 1,true⟩))→AM tt.get h' t [22,22] (.slice none 0 0) (.slice (some ⟨q,0,none⟩) 1 1)=some (AA t (S.R ++ [el]), [(t,AD AL (S.R ++ [el]))],t+1):=fun {h'} {q} {t} a2=>by
       rw [hel] at a2
       have e3:cellsOf (h' q)=AL.enc el:=by rw [a2];rfl
       have:=Ef (hp:=h') (top:=t) (k:=q) (by rw [e3];exact a2) (by rw [e3,AL.h])
       rw [e3,AL.h] at this
       rw [hz];exact this
      simp only [Dt] at hap0
      simp only [Cn]
      refine CW.vc BB [0,1,2,6,7,8,9,10,11,12,13,14,15,16,23,24,55,66,88,111,134,140] (by kernel_rfl) ?_
      (repeat ((try refine Vc.mk' ?_);simp (maxSteps:=6000000) only [go_sem,BD,Aj,Ar,hs4,hmx,sl1,ix0,ld0,AV,Ba,Ac,decide_true,decide_false,n_world,p_router,sL',i3,i2,ix2,ld2,sh2,nP2,nR2,nW2,BL,Au,hv,AQ ht5,hnu,hb,Ae hbt,ix_0,ld_0,ix_1,ld_1,hap0,d1n,BG]))
      (refine ⟨[top+3],by simp,by simp,by simp, ?_, ?_, ?_⟩ <;> simp [Bl hbt,AB hbt,Ab,AP,Sc.Az (fun j hj=>AB hj) hsK,Sc.Az (fun j hj=>AB hj) hsU,Sc.Az (fun j hj=>AB hj) hsV])
     ·rw [Ch hz]
      refine CW.vc BB [0,1,2,6,7,8,9,10,11,12,13,14,15,16,23,24,55,66,88,111,134,140] (by kernel_rfl) ?_
      (repeat ((try refine Vc.mk' ?_);simp (maxSteps:=6000000) only [go_sem,BD,Aj,Ar,hs4,hmx,sl1,ix0,ld0,AV,Ba,Ac,decide_true,decide_false,n_world,p_router,sL',i3,i2,ix2,ld2,sh2,nP2,nR2,nW2,BL,Au,hv,AQ ht5,hnu,hb,Ae hbt,ix_0,ld_0,ix_1,ld_1,hap,Ae hr,hobj,nbr,d1n,BG]))
      (refine ⟨[top+3],by simp,by simp,by simp, ?_, ?_, ?_⟩ <;> simp [Bl hbt,AB hbt,AB hr,Ab,AP,Sc.Az (fun j hj=>AB hj) hsK,Sc.Az (fun j hj=>AB hj) hsU,Sc.Az (fun j hj=>AB hj) hsV])
  |false=>
   have hi3:ws.length=3→¬at' ws 2= [105,110,103,114,101,115,115]:=fun h1 h2=>by simp [Vb,h1,h2] at hing
   by_cases h3:ws.length=3
   ·have i3:((ws.length:Int)=3)=True:=eq_true (by omega)
    have i2:=hi3 h3
    have ix2:Aa tt.get 67 (vR top (Bm s).length 1) (.int .i64 2)=(Ag (vR top (Bm s).length 1) 2,True):=by have:=DM (hS hm0) (k:= .i64) (n:=2) (by decide) (by omega);simpa using this
    have ld2:∀ {h':Hp},h' top=AD AE (Bm s)→A4 tt.get h' 9 (Ag (vR top (Bm s).length 1) 2)=(.string ⟨⟨at' ws 2⟩⟩,True):=fun e=>Dw (hS e) (i:=2) (by omega)
    cases hn:EH (ws) 2 with
    |none=>
     have e:Al hp b top (Bn S w ws last)= .inr (En 12, [],top):=by unfold Bn;rw [if_neg n_world];rw [if_pos e_router];rw [if_neg (show ¬Vb ws=true by rw [hing];simp)];rw [hn];rfl
     rw [e]
     have hnu:∀t,Ew (ws) 2 t= .inr (En 12, [],t):=fun t=>F7 hn
     refine CW.vc BB [0,1,2,6,7,8,9,10,11,12,13,14,15,16,23,24,55,66,88,111,134,140] (by kernel_rfl) ?_
     (repeat ((try refine Vc.mk' ?_);simp (maxSteps:=6000000) only [go_sem,BD,Aj,Ar,hs4,hmx,sl1,ix0,ld0,AV,decide_true,decide_false,n_world,p_router,sL',i3,i2,ix2,ld2,BL,Au,nP,nR,nW,hv,AQ ht5,hnu]))
     (refine ⟨[],by simp,by simp,by simp, ?_, ?_, ?_⟩ <;> simp [])
    |some xs=>
     have hxl:xs.length=2:=by have:=FE hn;omega
     have hnu:∀t,Ew (ws) 2 t= .inl (AA t xs, [(t,AD AY xs)],t+1):=fun t=>Gp hn
     have ix_0:∀ {t:Nat},Aa tt.get 68 (AA t xs) (.int .i64 0)=(Ag (AA t xs) 0,True):=fun {t}=>ixN (i:=0) (by omega) (by omega)
     have ld_0:∀ {h':Hp} {t:Nat},h' t=AD AY xs→A4 tt.get h' 3 (Ag (AA t xs) 0)=(.int .i64 (at' xs 0),True):=fun {h'} {t} e=>ldN (i:=0) (by omega) (by omega) e
     have ix_1:∀ {t:Nat},Aa tt.get 68 (AA t xs) (.int .i64 1)=(Ag (AA t xs) 1,True):=fun {t}=>ixN (i:=1) (by omega) (by omega)
     have ld_1:∀ {h':Hp} {t:Nat},h' t=AD AY xs→A4 tt.get h' 3 (Ag (AA t xs) 1)=(.int .i64 (at' xs 1),True):=fun {h'} {t} e=>ldN (i:=1) (by omega) (by omega) e
     have hset:∀o,Cb 2 last=o→Bn S w ws last=⟨2, {S with R:=S.R ++ [⟨at' xs 0,at' xs 1,false⟩]},o⟩:=fun o ho=>by unfold Bn;rw [if_neg n_world];rw [if_pos e_router];rw [if_neg (show ¬Vb ws=true by rw [hing];simp)];rw [hn];simp only [hing];rw [ho]
     generalize hel:(⟨at' xs 0,at' xs 1,false⟩:B3)=el at hset
     have hen:AL.enc el=AL.enc ⟨at' xs 0,at' xs 1,false⟩:=by rw [hel]
     simp only [Dt] at hen
     have hap:∀ {h':Hp} {q t:Nat},h' r=AD AL S.R→h' q=some (.cells true 3 (AL.enc ⟨at' xs 0,at' xs 1,false⟩))→AM tt.get h' t [22,22] (AA r S.R) (.slice (some ⟨q,0,none⟩) 1 1)=some (AA t (S.R ++ [el]),CC r S.R t (AD AL (S.R ++ [el])),t+1):=fun {h'} {q} {t} a1 a2=>by
      rw [hel] at a2
      have e3:cellsOf (h' q)=AL.enc el:=by rw [a2];rfl
      have:=ME (hp:=h') (b:=r) (top:=t) (k:=q) a1 (by rw [e3];exact a2) (by rw [e3,AL.h]) (CL (by have:=HS.rl;omega) (by decide))
      rwa [e3,AL.h] at this
     simp only [Dt] at hap
     have hobj:=HS.R
     by_cases d1:last≤2
     ·by_cases d2:last=0
      ·have hf:Cb 2 last=none:=by simp [Cb,d2]
       have d1n:¬((2:Int) < last):=by omega
       have d2t:=eq_true d2
       have e:Al hp b top (Bn S w ws last)= .inr (En 12, [(Cn (AA r S.R) top,none),(top,AD AL (S.R ++ [el])),(b,some (.cells true 0 [.int .i64 S.W, .int .i64 S.A, .int .i64 S.T, .int .i64 S.L,AA top (S.R ++ [el]),AA k S.K,AA u S.U,ov]))],top+1):=by
        rw [hset _ hf];simp only [Al,Ev,Er,Bk,c4,c5,c6,c7]
       rw [e]
       by_cases hz:S.R= []
       ·have hm1:AA r S.R= .slice none 0 0:=by rw [hz];rfl
        rw [hm1] at hb ⊢
        have hap0:∀ {h':Hp} {q t:Nat},h' q=some (.cells true 3 (AL.enc ⟨at' xs 0,at' xs 1,false⟩))→AM tt.get h' t [22,22] (.slice none 0 0) (.slice (some ⟨q,0,none⟩) 1 1)=some (AA t (S.R ++ [el]), [(t,AD AL (S.R ++ [el]))],t+1):=fun {h'} {q} {t} a2=>by
         rw [hel] at a2
         have e3:cellsOf (h' q)=AL.enc el:=by rw [a2];rfl
         have:=Ef (hp:=h') (top:=t) (k:=q) (by rw [e3];exact a2) (by rw [e3,AL.h])
         rw [e3,AL.h] at this
         rw [hz];exact this
        simp only [Dt] at hap0
        simp only [Cn]
        refine CW.vc BB [0,1,2,6,7,8,9,10,11,12,13,14,15,16,23,24,55,66,88,111,134,140] (by kernel_rfl) ?_
        (repeat ((try refine Vc.mk' ?_);simp (maxSteps:=6000000) only [go_sem,BD,Aj,Ar,hs4,hmx,sl1,ix0,ld0,AV,Ba,Ac,decide_true,decide_false,n_world,p_router,sL',i3,i2,ix2,ld2,BL,Au,nP,nR,nW,hv,AQ ht5,hnu,hb,Ae hbt,ix_0,ld_0,ix_1,ld_1,hap0,d1n,d2t,BG]))
        (refine ⟨[top+3],by simp,by simp,by simp, ?_, ?_, ?_⟩ <;> simp [Bl hbt,AB hbt,Ab,AP,Sc.Az (fun j hj=>AB hj) hsK,Sc.Az (fun j hj=>AB hj) hsU,Sc.Az (fun j hj=>AB hj) hsV])
       ·rw [Ch hz]
        refine CW.vc BB [0,1,2,6,7,8,9,10,11,12,13,14,15,16,23,24,55,66,88,111,134,140] (by kernel_rfl) ?_
        (repeat ((try refine Vc.mk' ?_);simp (maxSteps:=6000000) only [go_sem,BD,Aj,Ar,hs4,hmx,sl1,ix0,ld0,AV,Ba,Ac,decide_true,decide_false,n_world,p_router,sL',i3,i2,ix2,ld2,BL,Au,nP,nR,nW,hv,AQ ht5,hnu,hb,Ae hbt,ix_0,ld_0,ix_1,ld_1,hap,Ae hr,hobj,nbr,d1n,d2t,BG]))
        (refine ⟨[top+3],by simp,by simp,by simp, ?_, ?_, ?_⟩ <;> simp [Bl hbt,AB hbt,AB hr,Ab,AP,Sc.Az (fun j hj=>AB hj) hsK,Sc.Az (fun j hj=>AB hj) hsU,Sc.Az (fun j hj=>AB hj) hsV])
      ·have hf:Cb 2 last=some 2:=by simp [Cb,d1,d2]
       have d1n:¬((2:Int) < last):=by omega
       have e:Al hp b top (Bn S w ws last)= .inl (.int .i64 2, [(Cn (AA r S.R) top,none),(top,AD AL (S.R ++ [el])),(b,some (.cells true 0 [.int .i64 S.W, .int .i64 S.A, .int .i64 S.T, .int .i64 S.L,AA top (S.R ++ [el]),AA k S.K,AA u S.U,ov]))],top+1):=by
        rw [hset _ hf];simp only [Al,Ev,Er,Bk,c4,c5,c6,c7]
       rw [e]
       by_cases hz:S.R= []
       ·have hm1:AA r S.R= .slice none 0 0:=by rw [hz];rfl
        rw [hm1] at hb ⊢
        have hap0:∀ {h':Hp} {q t:Nat},h' q=some (.cells true 3 (AL.enc ⟨at' xs 0,at' xs 1,false⟩))→AM tt.get h' t [22,22] (.slice none 0 0) (.slice (some ⟨q,0,none⟩) 1 1)=some (AA t (S.R ++ [el]), [(t,AD AL (S.R ++ [el]))],t+1):=fun {h'} {q} {t} a2=>by
         rw [hel] at a2
         have e3:cellsOf (h' q)=AL.enc el:=by rw [a2];rfl
         have:=Ef (hp:=h') (top:=t) (k:=q) (by rw [e3];exact a2) (by rw [e3,AL.h])
         rw [e3,AL.h] at this
         rw [hz];exact this
        simp only [Dt] at hap0
        simp only [Cn]
        refine CW.vc BB [0,1,2,6,7,8,9,10,11,12,13,14,15,16,23,24,55,66,88,111,134,140] (by kernel_rfl) ?_
        (repeat ((try refine Vc.mk' ?_);simp (maxSteps:=6000000) only [go_sem,BD,Aj,Ar,hs4,hmx,sl1,ix0,ld0,AV,Ba,Ac,decide_true,decide_false,n_world,p_router,sL',i3,i2,ix2,ld2,BL,Au,nP,nR,nW,hv,AQ ht5,hnu,hb,Ae hbt,ix_0,ld_0,ix_1,ld_1,hap0,d1n,d2,BU]))
        (refine ⟨[top+3],by simp,by simp,by simp, ?_, ?_, ?_⟩ <;> simp [Bl hbt,AB hbt,Ab,AP,Sc.Az (fun j hj=>AB hj) hsK,Sc.Az (fun j hj=>AB hj) hsU,Sc.Az (fun j hj=>AB hj) hsV])
       ·rw [Ch hz]
        refine CW.vc BB [0,1,2,6,7,8,9,10,11,12,13,14,15,16,23,24,55,66,88,111,134,140] (by kernel_rfl) ?_
        (repeat ((try refine Vc.mk' ?_);simp (maxSteps:=6000000) only [go_sem,BD,Aj,Ar,hs4,hmx,sl1,ix0,ld0,AV,Ba,Ac,decide_true,decide_false,n_world,p_router,sL',i3,i2,ix2,ld2,BL,Au,nP,nR,nW,hv,AQ ht5,hnu,hb,Ae hbt,ix_0,ld_0,ix_1,ld_1,hap,Ae hr,hobj,nbr,d1n,d2,BU]))
        (refine ⟨[top+3],by simp,by simp,by simp, ?_, ?_, ?_⟩ <;> simp [Bl hbt,AB hbt,AB hr,Ab,AP,Sc.Az (fun j hj=>AB hj) hsK,Sc.Az (fun j hj=>AB hj) hsU,Sc.Az (fun j hj=>AB hj) hsV])
     ·have hf:Cb 2 last=none:=by simp [Cb,d1]
      have d1n:((2:Int) < last)=True:=eq_true (by omega)
      have e:Al hp b top (Bn S w ws last)= .inr (En 12, [(Cn (AA r S.R) top,none),(top,AD AL (S.R ++ [el])),(b,some (.cells true 0 [.int .i64 S.W, .int .i64 S.A, .int .i64 S.T, .int .i64 S.L,AA top (S.R ++ [el]),AA k S.K,AA u S.U,ov]))],top+1):=by
       rw [hset _ hf];simp only [Al,Ev,Er,Bk,c4,c5,c6,c7]
      rw [e]
      by_cases hz:S.R= []
      ·have hm1:AA r S.R= .slice none 0 0:=by rw [hz];rfl
       rw [hm1] at hb ⊢
       have hap0:∀ {h':Hp} {q t:Nat},h' q=some (.cells true 3 (AL.enc ⟨at' xs 0,at' xs 1,false⟩))→AM tt.get h' t [22,22] (.slice none 0 0) (.slice (some ⟨q,0,none⟩) 1 1)=some (AA t (S.R ++ [el]), [(t,AD AL (S.R ++ [el]))],t+1):=fun {h'} {q} {t} a2=>by
        rw [hel] at a2
        have e3:cellsOf (h' q)=AL.enc el:=by rw [a2];rfl
        have:=Ef (hp:=h') (top:=t) (k:=q) (by rw [e3];exact a2) (by rw [e3,AL.h])
        rw [e3,AL.h] at this
        rw [hz];exact this
       simp only [Dt] at hap0
       simp only [Cn]
       refine CW.vc BB [0,1,2,6,7,8,9,10,11,12,13,14,15,16,23,24,55,66,88,111,134,140] (by kernel_rfl) ?_
       (repeat ((try refine Vc.mk' ?_);simp (maxSteps:=6000000) only [go_sem,BD,Aj,Ar,hs4,hmx,sl1,ix0,ld0,AV,Ba,Ac,decide_true,decide_false,n_world,p_router,sL',i3,i2,ix2,ld2,BL,Au,nP,nR,nW,hv,AQ ht5,hnu,hb,Ae hbt,ix_0,ld_0,ix_1,ld_1,hap0,d1n,BG]))
       (refine ⟨[top+3],by simp,by simp,by simp, ?_, ?_, ?_⟩ <;> simp [Bl hbt,AB hbt,Ab,AP,Sc.Az (fun j hj=>AB hj) hsK,Sc.Az (fun j hj=>AB hj) hsU,Sc.Az (fun j hj=>AB hj) hsV])
      ·rw [Ch hz]
       refine CW.vc BB [0,1,2,6,7,8,9,10,11,12,13,14,15,16,23,24,55,66,88,111,134,140] (by kernel_rfl) ?_
       (repeat ((try refine Vc.mk' ?_);simp (maxSteps:=6000000) only [go_sem,BD,Aj,Ar,hs4,hmx,sl1,ix0,ld0,AV,Ba,Ac,decide_true,decide_false,n_world,p_router,sL',i3,i2,ix2,ld2,BL,Au,nP,nR,nW,hv,AQ ht5,hnu,hb,Ae hbt,ix_0,ld_0,ix_1,ld_1,hap,Ae hr,hobj,nbr,d1n,BG]))
       (refine ⟨[top+3],by simp,by simp,by simp, ?_, ?_, ?_⟩ <;> simp [Bl hbt,AB hbt,AB hr,Ab,AP,Sc.Az (fun j hj=>AB hj) hsK,Sc.Az (fun j hj=>AB hj) hsU,Sc.Az (fun j hj=>AB hj) hsV])
   ·have i3:¬((ws.length:Int)=3):=by omega
    cases hn:EH (ws) 2 with
    |none=>
     have e:Al hp b top (Bn S w ws last)= .inr (En 12, [],top):=by unfold Bn;rw [if_neg n_world];rw [if_pos e_router];rw [if_neg (show ¬Vb ws=true by rw [hing];simp)];rw [hn];rfl
     rw [e]
     have hnu:∀t,Ew (ws) 2 t= .inr (En 12, [],t):=fun t=>F7 hn
     refine CW.vc BB [0,1,2,6,7,8,9,10,11,12,13,14,15,16,23,24,55,66,88,111,134,140] (by kernel_rfl) ?_
     (repeat ((try refine Vc.mk' ?_);simp (maxSteps:=6000000) only [go_sem,BD,Aj,Ar,hs4,hmx,sl1,ix0,ld0,AV,decide_true,decide_false,n_world,p_router,sL',i3,BL,Au,nP,nR,nW,hv,AQ ht5,hnu]))
     (refine ⟨[],by simp,by simp,by simp, ?_, ?_, ?_⟩ <;> simp [])
    |some xs=>
     have hxl:xs.length=2:=by have:=FE hn;omega
     have hnu:∀t,Ew (ws) 2 t= .inl (AA t xs, [(t,AD AY xs)],t+1):=fun t=>Gp hn
     have ix_0:∀ {t:Nat},Aa tt.get 68 (AA t xs) (.int .i64 0)=(Ag (AA t xs) 0,True):=fun {t}=>ixN (i:=0) (by omega) (by omega)
     have ld_0:∀ {h':Hp} {t:Nat},h' t=AD AY xs→A4 tt.get h' 3 (Ag (AA t xs) 0)=(.int .i64 (at' xs 0),True):=fun {h'} {t} e=>ldN (i:=0) (by omega) (by omega) e
     have ix_1:∀ {t:Nat},Aa tt.get 68 (AA t xs) (.int .i64 1)=(Ag (AA t xs) 1,True):=fun {t}=>ixN (i:=1) (by omega) (by omega)
     have ld_1:∀ {h':Hp} {t:Nat},h' t=AD AY xs→A4 tt.get h' 3 (Ag (AA t xs) 1)=(.int .i64 (at' xs 1),True):=fun {h'} {t} e=>ldN (i:=1) (by omega) (by omega) e
     have hset:∀o,Cb 2 last=o→Bn S w ws last=⟨2, {S with R:=S.R ++ [⟨at' xs 0,at' xs 1,false⟩]},o⟩:=fun o ho=>by unfold Bn;rw [if_neg n_world];rw [if_pos e_router];rw [if_neg (show ¬Vb ws=true by rw [hing];simp)];rw [hn];simp only [hing];rw [ho]
     generalize hel:(⟨at' xs 0,at' xs 1,false⟩:B3)=el at hset
     have hen:AL.enc el=AL.enc ⟨at' xs 0,at' xs 1,false⟩:=by rw [hel]
     simp only [Dt] at hen
     have hap:∀ {h':Hp} {q t:Nat},h' r=AD AL S.R→h' q=some (.cells true 3 (AL.enc ⟨at' xs 0,at' xs 1,false⟩))→AM tt.get h' t [22,22] (AA r S.R) (.slice (some ⟨q,0,none⟩) 1 1)=some (AA t (S.R ++ [el]),CC r S.R t (AD AL (S.R ++ [el])),t+1):=fun {h'} {q} {t} a1 a2=>by
      rw [hel] at a2
      have e3:cellsOf (h' q)=AL.enc el:=by rw [a2];rfl
      have:=ME (hp:=h') (b:=r) (top:=t) (k:=q) a1 (by rw [e3];exact a2) (by rw [e3,AL.h]) (CL (by have:=HS.rl;omega) (by decide))
      rwa [e3,AL.h] at this
     simp only [Dt] at hap
     have hobj:=HS.R
     by_cases d1:last≤2
     ·by_cases d2:last=0
      ·have hf:Cb 2 last=none:=by simp [Cb,d2]
       have d1n:¬((2:Int) < last):=by omega
       have d2t:=eq_true d2
       have e:Al hp b top (Bn S w ws last)= .inr (En 12, [(Cn (AA r S.R) top,none),(top,AD AL (S.R ++ [el])),(b,some (.cells true 0 [.int .i64 S.W, .int .i64 S.A, .int .i64 S.T, .int .i64 S.L,AA top (S.R ++ [el]),AA k S.K,AA u S.U,ov]))],top+1):=by
        rw [hset _ hf];simp only [Al,Ev,Er,Bk,c4,c5,c6,c7]
       rw [e]
       by_cases hz:S.R= []
       ·have hm1:AA r S.R= .slice none 0 0:=by rw [hz];rfl
        rw [hm1] at hb ⊢
        have hap0:∀ {h':Hp} {q t:Nat},h' q=some (.cells true 3 (AL.enc ⟨at' xs 0,at' xs 1,false⟩))→AM tt.get h' t [22,22] (.slice none 0 0) (.slice (some ⟨q,0,none⟩) 1 1)=some (AA t (S.R ++ [el]), [(t,AD AL (S.R ++ [el]))],t+1):=fun {h'} {q} {t} a2=>by
         rw [hel] at a2
         have e3:cellsOf (h' q)=AL.enc el:=by rw [a2];rfl
         have:=Ef (hp:=h') (top:=t) (k:=q) (by rw [e3];exact a2) (by rw [e3,AL.h])
         rw [e3,AL.h] at this
         rw [hz];exact this
        simp only [Dt] at hap0
        simp only [Cn]
        refine CW.vc BB [0,1,2,6,7,8,9,10,11,12,13,14,15,16,23,24,55,66,88,111,134,140] (by kernel_rfl) ?_
        (repeat ((try refine Vc.mk' ?_);simp (maxSteps:=6000000) only [go_sem,BD,Aj,Ar,hs4,hmx,sl1,ix0,ld0,AV,Ba,Ac,decide_true,decide_false,n_world,p_router,sL',i3,BL,Au,nP,nR,nW,hv,AQ ht5,hnu,hb,Ae hbt,ix_0,ld_0,ix_1,ld_1,hap0,d1n,d2t,BG]))
        (refine ⟨[top+3],by simp,by simp,by simp, ?_, ?_, ?_⟩ <;> simp [Bl hbt,AB hbt,Ab,AP,Sc.Az (fun j hj=>AB hj) hsK,Sc.Az (fun j hj=>AB hj) hsU,Sc.Az (fun j hj=>AB hj) hsV])
       ·rw [Ch hz]
        refine CW.vc BB [0,1,2,6,7,8,9,10,11,12,13,14,15,16,23,24,55,66,88,111,134,140] (by kernel_rfl) ?_
        (repeat ((try refine Vc.mk' ?_);simp (maxSteps:=6000000) only [go_sem,BD,Aj,Ar,hs4,hmx,sl1,ix0,ld0,AV,Ba,Ac,decide_true,decide_false,n_world,p_router,sL',i3,BL,Au,nP,nR,nW,hv,AQ ht5,hnu,hb,Ae hbt,ix_0,ld_0,ix_1,ld_1,hap,Ae hr,hobj,nbr,d1n,d2t,BG]))
        (refine ⟨[top+3],by simp,by simp,by simp, ?_, ?_, ?_⟩ <;> simp [Bl hbt,AB hbt,AB hr,Ab,AP,Sc.Az (fun j hj=>AB hj) hsK,Sc.Az (fun j hj=>AB hj) hsU,Sc.Az (fun j hj=>AB hj) hsV])
      ·have hf:Cb 2 last=some 2:=by simp [Cb,d1,d2]
       have d1n:¬((2:Int) < last):=by omega
       have e:Al hp b top (Bn S w ws last)= .inl (.int .i64 2, [(Cn (AA r S.R) top,none),(top,AD AL (S.R ++ [el])),(b,some (.cells true 0 [.int .i64 S.W, .int .i64 S.A, .int .i64 S.T, .int .i64 S.L,AA top (S.R ++ [el]),AA k S.K,AA u S.U,ov]))],top+1):=by
        rw [hset _ hf];simp only [Al,Ev,Er,Bk,c4,c5,c6,c7]
       rw [e]
       by_cases hz:S.R= []
       ·have hm1:AA r S.R= .slice none 0 0:=by rw [hz];rfl
        rw [hm1] at hb ⊢
        have hap0:∀ {h':Hp} {q t:Nat},h' q=some (.cells true 3 (AL.enc ⟨at' xs 0,at' xs 1,false⟩))→AM tt.get h' t [22,22] (.slice none 0 0) (.slice (some ⟨q,0,none⟩) 1 1)=some (AA t (S.R ++ [el]), [(t,AD AL (S.R ++ [el]))],t+1):=fun {h'} {q} {t} a2=>by
         rw [hel] at a2
         have e3:cellsOf (h' q)=AL.enc el:=by rw [a2];rfl
         have:=Ef (hp:=h') (top:=t) (k:=q) (by rw [e3];exact a2) (by rw [e3,AL.h])
         rw [e3,AL.h] at this
         rw [hz];exact this
        simp only [Dt] at hap0
        simp only [Cn]
        refine CW.vc BB [0,1,2,6,7,8,9,10,11,12,13,14,15,16,23,24,55,66,88,111,134,140] (by kernel_rfl) ?_
        (repeat ((try refine Vc.mk' ?_);simp (maxSteps:=6000000) only [go_sem,BD,Aj,Ar,hs4,hmx,sl1,ix0,ld0,AV,Ba,Ac,decide_true,decide_false,n_world,p_router,sL',i3,BL,Au,nP,nR,nW,hv,AQ ht5,hnu,hb,Ae hbt,ix_0,ld_0,ix_1,ld_1,hap0,d1n,d2,BU]))
        (refine ⟨[top+3],by simp,by simp,by simp, ?_, ?_, ?_⟩ <;> simp [Bl hbt,AB hbt,Ab,AP,Sc.Az (fun j hj=>AB hj) hsK,Sc.Az (fun j hj=>AB hj) hsU,Sc.Az (fun j hj=>AB hj) hsV])
       ·rw [Ch hz]
        refine CW.vc BB [0,1,2,6,7,8,9,10,11,12,13,14,15,16,23,24,55,66,88,111,134,140] (by kernel_rfl) ?_
        (repeat ((try refine Vc.mk' ?_);simp (maxSteps:=6000000) only [go_sem,BD,Aj,Ar,hs4,hmx,sl1,ix0,ld0,AV,Ba,Ac,decide_true,decide_false,n_world,p_router,sL',i3,BL,Au,nP,nR,nW,hv,AQ ht5,hnu,hb,Ae hbt,ix_0,ld_0,ix_1,ld_1,hap,Ae hr,hobj,nbr,d1n,d2,BU]))
        (refine ⟨[top+3],by simp,by simp,by simp, ?_, ?_, ?_⟩ <;> simp [Bl hbt,AB hbt,AB hr,Ab,AP,Sc.Az (fun j hj=>AB hj) hsK,Sc.Az (fun j hj=>AB hj) hsU,Sc.Az (fun j hj=>AB hj) hsV])
     ·have hf:Cb 2 last=none:=by simp [Cb,d1]
      have d1n:((2:Int) < last)=True:=eq_true (by omega)
      have e:Al hp b top (Bn S w ws last)= .inr (En 12, [(Cn (AA r S.R) top,none),(top,AD AL (S.R ++ [el])),(b,some (.cells true 0 [.int .i64 S.W, .int .i64 S.A, .int .i64 S.T, .int .i64 S.L,AA top (S.R ++ [el]),AA k S.K,AA u S.U,ov]))],top+1):=by
       rw [hset _ hf];simp only [Al,Ev,Er,Bk,c4,c5,c6,c7]
      rw [e]
      by_cases hz:S.R= []
      ·have hm1:AA r S.R= .slice none 0 0:=by rw [hz];rfl
       rw [hm1] at hb ⊢
       have hap0:∀ {h':Hp} {q t:Nat},h' q=some (.cells true 3 (AL.enc ⟨at' xs 0,at' xs 1,false⟩))→AM tt.get h' t [22,22] (.slice none 0 0) (.slice (some ⟨q,0,none⟩) 1 1)=some (AA t (S.R ++ [el]), [(t,AD AL (S.R ++ [el]))],t+1):=fun {h'} {q} {t} a2=>by
        rw [hel] at a2
        have e3:cellsOf (h' q)=AL.enc el:=by rw [a2];rfl
        have:=Ef (hp:=h') (top:=t) (k:=q) (by rw [e3];exact a2) (by rw [e3,AL.h])
        rw [e3,AL.h] at this
        rw [hz];exact this
       simp only [Dt] at hap0
       simp only [Cn]
       refine CW.vc BB [0,1,2,6,7,8,9,10,11,12,13,14,15,16,23,24,55,66,88,111,134,140] (by kernel_rfl) ?_
       (repeat ((try refine Vc.mk' ?_);simp (maxSteps:=6000000) only [go_sem,BD,Aj,Ar,hs4,hmx,sl1,ix0,ld0,AV,Ba,Ac,decide_true,decide_false,n_world,p_router,sL',i3,BL,Au,nP,nR,nW,hv,AQ ht5,hnu,hb,Ae hbt,ix_0,ld_0,ix_1,ld_1,hap0,d1n,BG]))
       (refine ⟨[top+3],by simp,by simp,by simp, ?_, ?_, ?_⟩ <;> simp [Bl hbt,AB hbt,Ab,AP,Sc.Az (fun j hj=>AB hj) hsK,Sc.Az (fun j hj=>AB hj) hsU,Sc.Az (fun j hj=>AB hj) hsV])
      ·rw [Ch hz]
       refine CW.vc BB [0,1,2,6,7,8,9,10,11,12,13,14,15,16,23,24,55,66,88,111,134,140] (by kernel_rfl) ?_
       (repeat ((try refine Vc.mk' ?_);simp (maxSteps:=6000000) only [go_sem,BD,Aj,Ar,hs4,hmx,sl1,ix0,ld0,AV,Ba,Ac,decide_true,decide_false,n_world,p_router,sL',i3,BL,Au,nP,nR,nW,hv,AQ ht5,hnu,hb,Ae hbt,ix_0,ld_0,ix_1,ld_1,hap,Ae hr,hobj,nbr,d1n,BG]))
       (refine ⟨[top+3],by simp,by simp,by simp, ?_, ?_, ?_⟩ <;> simp [Bl hbt,AB hbt,AB hr,Ab,AP,Sc.Az (fun j hj=>AB hj) hsK,Sc.Az (fun j hj=>AB hj) hsU,Sc.Az (fun j hj=>AB hj) hsV])
 have n_router:=e_router
 by_cases e_link:w= [108,105,110,107]
 ·have p_link:=eq_true e_link
  cases hn:EH (ws) 3 with
  |none=>
   have e:Al hp b top (Bn S w ws last)= .inr (En 12, [],top):=by unfold Bn;rw [if_neg n_world];rw [if_neg n_router];rw [if_pos e_link];rw [hn];rfl
   rw [e]
   have hnu:∀t,Ew (ws) 3 t= .inr (En 12, [],t):=fun t=>F7 hn
   refine CW.vc BB [0,1,2,6,7,8,9,10,11,12,13,14,15,16,23,24,55,66,88,111,134,140] (by kernel_rfl) ?_
   (repeat ((try refine Vc.mk' ?_);simp (maxSteps:=6000000) only [go_sem,BD,Aj,Ar,hs4,hmx,sl1,ix0,ld0,AV,decide_true,decide_false,n_world,n_router,p_link,BL,Au,nP,nR,nW,hv,AQ ht5,hnu]))
   (refine ⟨[],by simp,by simp,by simp, ?_, ?_, ?_⟩ <;> simp [])
  |some xs=>
   have hxl:xs.length=3:=by have:=FE hn;omega
   have hnu:∀t,Ew (ws) 3 t= .inl (AA t xs, [(t,AD AY xs)],t+1):=fun t=>Gp hn
   have ix_0:∀ {t:Nat},Aa tt.get 68 (AA t xs) (.int .i64 0)=(Ag (AA t xs) 0,True):=fun {t}=>ixN (i:=0) (by omega) (by omega)
   have ld_0:∀ {h':Hp} {t:Nat},h' t=AD AY xs→A4 tt.get h' 3 (Ag (AA t xs) 0)=(.int .i64 (at' xs 0),True):=fun {h'} {t} e=>ldN (i:=0) (by omega) (by omega) e
   have ix_1:∀ {t:Nat},Aa tt.get 68 (AA t xs) (.int .i64 1)=(Ag (AA t xs) 1,True):=fun {t}=>ixN (i:=1) (by omega) (by omega)
   have ld_1:∀ {h':Hp} {t:Nat},h' t=AD AY xs→A4 tt.get h' 3 (Ag (AA t xs) 1)=(.int .i64 (at' xs 1),True):=fun {h'} {t} e=>ldN (i:=1) (by omega) (by omega) e
   have ix_2:∀ {t:Nat},Aa tt.get 68 (AA t xs) (.int .i64 2)=(Ag (AA t xs) 2,True):=fun {t}=>ixN (i:=2) (by omega) (by omega)
   have ld_2:∀ {h':Hp} {t:Nat},h' t=AD AY xs→A4 tt.get h' 3 (Ag (AA t xs) 2)=(.int .i64 (at' xs 2),True):=fun {h'} {t} e=>ldN (i:=2) (by omega) (by omega) e
   have hset:∀o,Cb 3 last=o→Bn S w ws last=⟨3, {S with K:=S.K ++ [⟨at' xs 0,at' xs 1,at' xs 2⟩]},o⟩:=fun o ho=>by unfold Bn;rw [if_neg n_world];rw [if_neg n_router];rw [if_pos e_link];rw [hn];simp only [XM.mk.injEq,true_and];rw [ho]
   generalize hel:(⟨at' xs 0,at' xs 1,at' xs 2⟩:Ak)=el at hset
   have hen:Ad.enc el=Ad.enc ⟨at' xs 0,at' xs 1,at' xs 2⟩:=by rw [hel]
   simp only [Mq] at hen
   have hap:∀ {h':Hp} {q t:Nat},h' k=AD Ad S.K→h' q=some (.cells true 3 (Ad.enc ⟨at' xs 0,at' xs 1,at' xs 2⟩))→AM tt.get h' t [23,23] (AA k S.K) (.slice (some ⟨q,0,none⟩) 1 1)=some (AA t (S.K ++ [el]),CC k S.K t (AD Ad (S.K ++ [el])),t+1):=fun {h'} {q} {t} a1 a2=>by
    rw [hel] at a2
    have e3:cellsOf (h' q)=Ad.enc el:=by rw [a2];rfl
    have:=YF (hp:=h') (b:=k) (top:=t) (k:=q) a1 (by rw [e3];exact a2) (by rw [e3,Ad.h]) (CL (by have:=HS.kl;omega) (by decide))
    rwa [e3,Ad.h] at this
   simp only [Mq] at hap
   have hobj:=HS.K
   by_cases d1:last≤3
   ·by_cases d2:last=0
    ·have hf:Cb 3 last=none:=by simp [Cb,d2]
     have d1n:¬((3:Int) < last):=by omega
     have d2t:=eq_true d2
     have e:Al hp b top (Bn S w ws last)= .inr (En 12, [(Cn (AA k S.K) top,none),(top,AD Ad (S.K ++ [el])),(b,some (.cells true 0 [.int .i64 S.W, .int .i64 S.A, .int .i64 S.T, .int .i64 S.L,AA r S.R,AA top (S.K ++ [el]),AA u S.U,ov]))],top+1):=by
      rw [hset _ hf];simp only [Al,Ev,Er,Bk,c4,c5,c6,c7]
     rw [e]
     by_cases hz:S.K= []
     ·have hm1:AA k S.K= .slice none 0 0:=by rw [hz];rfl
      rw [hm1] at hb ⊢
      have hap0:∀ {h':Hp} {q t:Nat},h' q=some (.cells true 3 (Ad.enc ⟨at' xs 0,at' xs 1,at' xs 2⟩))→AM tt.get h' t [23,23] (.slice none 0 0) (.slice (some ⟨q,0,none⟩) 1 1)=some (AA t (S.K ++ [el]), [(t,AD Ad (S.K ++ [el]))],t+1):=fun {h'} {q} {t} a2=>by
       rw [hel] at a2
       have e3:cellsOf (h' q)=Ad.enc el:=by rw [a2];rfl
       have:=OP (hp:=h') (top:=t) (k:=q) (by rw [e3];exact a2) (by rw [e3,Ad.h])
       rw [e3,Ad.h] at this
       rw [hz];exact this
      simp only [Mq] at hap0
      simp only [Cn]
      refine CW.vc BB [0,1,2,6,7,8,9,10,11,12,13,14,15,16,23,24,55,66,88,111,134,140] (by kernel_rfl) ?_
      (repeat ((try refine Vc.mk' ?_);simp (maxSteps:=6000000) only [go_sem,BD,Aj,Ar,hs4,hmx,sl1,ix0,ld0,AV,Ba,Ac,decide_true,decide_false,n_world,n_router,p_link,BL,Au,nP,nR,nW,hv,AQ ht5,hnu,hb,Ae hbt,ix_0,ld_0,ix_1,ld_1,ix_2,ld_2,hap0,d1n,d2t,BG]))
      (refine ⟨[top+3],by simp,by simp,by simp, ?_, ?_, ?_⟩ <;> simp [Bl hbt,AB hbt,Ab,AP,Sc.Az (fun j hj=>AB hj) hsR,Sc.Az (fun j hj=>AB hj) hsU,Sc.Az (fun j hj=>AB hj) hsV])
     ·rw [Ch hz]
      refine CW.vc BB [0,1,2,6,7,8,9,10,11,12,13,14,15,16,23,24,55,66,88,111,134,140] (by kernel_rfl) ?_
      (repeat ((try refine Vc.mk' ?_);simp (maxSteps:=6000000) only [go_sem,BD,Aj,Ar,hs4,hmx,sl1,ix0,ld0,AV,Ba,Ac,decide_true,decide_false,n_world,n_router,p_link,BL,Au,nP,nR,nW,hv,AQ ht5,hnu,hb,Ae hbt,ix_0,ld_0,ix_1,ld_1,ix_2,ld_2,hap,Ae hk,hobj,nbk,d1n,d2t,BG]))
      (refine ⟨[top+3],by simp,by simp,by simp, ?_, ?_, ?_⟩ <;> simp [Bl hbt,AB hbt,AB hk,Ab,AP,Sc.Az (fun j hj=>AB hj) hsR,Sc.Az (fun j hj=>AB hj) hsU,Sc.Az (fun j hj=>AB hj) hsV])
    ·have hf:Cb 3 last=some 3:=by simp [Cb,d1,d2]
     have d1n:¬((3:Int) < last):=by omega
     have e:Al hp b top (Bn S w ws last)= .inl (.int .i64 3, [(Cn (AA k S.K) top,none),(top,AD Ad (S.K ++ [el])),(b,some (.cells true 0 [.int .i64 S.W, .int .i64 S.A, .int .i64 S.T, .int .i64 S.L,AA r S.R,AA top (S.K ++ [el]),AA u S.U,ov]))],top+1):=by
      rw [hset _ hf];simp only [Al,Ev,Er,Bk,c4,c5,c6,c7]
     rw [e]
     by_cases hz:S.K= []
     ·have hm1:AA k S.K= .slice none 0 0:=by rw [hz];rfl
      rw [hm1] at hb ⊢
      have hap0:∀ {h':Hp} {q t:Nat},h' q=some (.cells true 3 (Ad.enc ⟨at' xs 0,at' xs 1,at' xs 2⟩))→AM tt.get h' t [23,23] (.slice none 0 0) (.slice (some ⟨q,0,none⟩) 1 1)=some (AA t (S.K ++ [el]), [(t,AD Ad (S.K ++ [el]))],t+1):=fun {h'} {q} {t} a2=>by
       rw [hel] at a2
       have e3:cellsOf (h' q)=Ad.enc el:=by rw [a2];rfl
       have:=OP (hp:=h') (top:=t) (k:=q) (by rw [e3];exact a2) (by rw [e3,Ad.h])
       rw [e3,Ad.h] at this
       rw [hz];exact this
      simp only [Mq] at hap0
      simp only [Cn]
      refine CW.vc BB [0,1,2,6,7,8,9,10,11,12,13,14,15,16,23,24,55,66,88,111,134,140] (by kernel_rfl) ?_
      (repeat ((try refine Vc.mk' ?_);simp (maxSteps:=6000000) only [go_sem,BD,Aj,Ar,hs4,hmx,sl1,ix0,ld0,AV,Ba,Ac,decide_true,decide_false,n_world,n_router,p_link,BL,Au,nP,nR,nW,hv,AQ ht5,hnu,hb,Ae hbt,ix_0,ld_0,ix_1,ld_1,ix_2,ld_2,hap0,d1n,d2,BU]))
      (refine ⟨[top+3],by simp,by simp,by simp, ?_, ?_, ?_⟩ <;> simp [Bl hbt,AB hbt,Ab,AP,Sc.Az (fun j hj=>AB hj) hsR,Sc.Az (fun j hj=>AB hj) hsU,Sc.Az (fun j hj=>AB hj) hsV])
     ·rw [Ch hz]
      refine CW.vc BB [0,1,2,6,7,8,9,10,11,12,13,14,15,16,23,24,55,66,88,111,134,140] (by kernel_rfl) ?_
      (repeat ((try refine Vc.mk' ?_);simp (maxSteps:=6000000) only [go_sem,BD,Aj,Ar,hs4,hmx,sl1,ix0,ld0,AV,Ba,Ac,decide_true,decide_false,n_world,n_router,p_link,BL,Au,nP,nR,nW,hv,AQ ht5,hnu,hb,Ae hbt,ix_0,ld_0,ix_1,ld_1,ix_2,ld_2,hap,Ae hk,hobj,nbk,d1n,d2,BU]))
      (refine ⟨[top+3],by simp,by simp,by simp, ?_, ?_, ?_⟩ <;> simp [Bl hbt,AB hbt,AB hk,Ab,AP,Sc.Az (fun j hj=>AB hj) hsR,Sc.Az (fun j hj=>AB hj) hsU,Sc.Az (fun j hj=>AB hj) hsV])
   ·have hf:Cb 3 last=none:=by simp [Cb,d1]
    have d1n:((3:Int) < last)=True:=eq_true (by omega)
    have e:Al hp b top (Bn S w ws last)= .inr (En 12, [(Cn (AA k S.K) top,none),(top,AD Ad (S.K ++ [el])),(b,some (.cells true 0 [.int .i64 S.W, .int .i64 S.A, .int .i64 S.T, .int .i64 S.L,AA r S.R,AA top (S.K ++ [el]),AA u S.U,ov]))],top+1):=by
     rw [hset _ hf];simp only [Al,Ev,Er,Bk,c4,c5,c6,c7]
    rw [e]
    by_cases hz:S.K= []
    ·have hm1:AA k S.K= .slice none 0 0:=by rw [hz];rfl
     rw [hm1] at hb ⊢
     have hap0:∀ {h':Hp} {q t:Nat},h' q=some (.cells true 3 (Ad.enc ⟨at' xs 0,at' xs 1,at' xs 2⟩))→AM tt.get h' t [23,23] (.slice none 0 0) (.slice (some ⟨q,0,none⟩) 1 1)=some (AA t (S.K ++ [el]), [(t,AD Ad (S.K ++ [el]))],t+1):=fun {h'} {q} {t} a2=>by
      rw [hel] at a2
      have e3:cellsOf (h' q)=Ad.enc el:=by rw [a2];rfl
      have:=OP (hp:=h') (top:=t) (k:=q) (by rw [e3];exact a2) (by rw [e3,Ad.h])
      rw [e3,Ad.h] at this
      rw [hz];exact this
     simp only [Mq] at hap0
     simp only [Cn]
     refine CW.vc BB [0,1,2,6,7,8,9,10,11,12,13,14,15,16,23,24,55,66,88,111,134,140] (by kernel_rfl) ?_
     (repeat ((try refine Vc.mk' ?_);simp (maxSteps:=6000000) only [go_sem,BD,Aj,Ar,hs4,hmx,sl1,ix0,ld0,AV,Ba,Ac,decide_true,decide_false,n_world,n_router,p_link,BL,Au,nP,nR,nW,hv,AQ ht5,hnu,hb,Ae hbt,ix_0,ld_0,ix_1,ld_1,ix_2,ld_2,hap0,d1n,BG]))
     (refine ⟨[top+3],by simp,by simp,by simp, ?_, ?_, ?_⟩ <;> simp [Bl hbt,AB hbt,Ab,AP,Sc.Az (fun j hj=>AB hj) hsR,Sc.Az (fun j hj=>AB hj) hsU,Sc.Az (fun j hj=>AB hj) hsV])
    ·rw [Ch hz]
     refine CW.vc BB [0,1,2,6,7,8,9,10,11,12,13,14,15,16,23,24,55,66,88,111,134,140] (by kernel_rfl) ?_
     (repeat ((try refine Vc.mk' ?_);simp (maxSteps:=6000000) only [go_sem,BD,Aj,Ar,hs4,hmx,sl1,ix0,ld0,AV,Ba,Ac,decide_true,decide_false,n_world,n_router,p_link,BL,Au,nP,nR,nW,hv,AQ ht5,hnu,hb,Ae hbt,ix_0,ld_0,ix_1,ld_1,ix_2,ld_2,hap,Ae hk,hobj,nbk,d1n,BG]))
     (refine ⟨[top+3],by simp,by simp,by simp, ?_, ?_, ?_⟩ <;> simp [Bl hbt,AB hbt,AB hk,Ab,AP,Sc.Az (fun j hj=>AB hj) hsR,Sc.Az (fun j hj=>AB hj) hsU,Sc.Az (fun j hj=>AB hj) hsV])
 have n_link:=e_link
 by_cases e_drop:w= [100,114,111,112]
 ·have p_drop:=eq_true e_drop
  cases hn:EH (ws) 3 with
  |none=>
   have e:Al hp b top (Bn S w ws last)= .inr (En 12, [],top):=by unfold Bn;rw [if_neg n_world];rw [if_neg n_router];rw [if_neg n_link];rw [if_pos e_drop];rw [hn];rfl
   rw [e]
   have hnu:∀t,Ew (ws) 3 t= .inr (En 12, [],t):=fun t=>F7 hn
   refine CW.vc BB [0,1,2,6,7,8,9,10,11,12,13,14,15,16,23,24,55,66,88,111,134,140] (by kernel_rfl) ?_
   (repeat ((try refine Vc.mk' ?_);simp (maxSteps:=6000000) only [go_sem,BD,Aj,Ar,hs4,hmx,sl1,ix0,ld0,AV,decide_true,decide_false,n_world,n_router,n_link,p_drop,BL,Au,nP,nR,nW,hv,AQ ht5,hnu]))
   (refine ⟨[],by simp,by simp,by simp, ?_, ?_, ?_⟩ <;> simp [])
  |some xs=>
   have hxl:xs.length=3:=by have:=FE hn;omega
   have hnu:∀t,Ew (ws) 3 t= .inl (AA t xs, [(t,AD AY xs)],t+1):=fun t=>Gp hn
   have ix_0:∀ {t:Nat},Aa tt.get 68 (AA t xs) (.int .i64 0)=(Ag (AA t xs) 0,True):=fun {t}=>ixN (i:=0) (by omega) (by omega)
   have ld_0:∀ {h':Hp} {t:Nat},h' t=AD AY xs→A4 tt.get h' 3 (Ag (AA t xs) 0)=(.int .i64 (at' xs 0),True):=fun {h'} {t} e=>ldN (i:=0) (by omega) (by omega) e
   have ix_1:∀ {t:Nat},Aa tt.get 68 (AA t xs) (.int .i64 1)=(Ag (AA t xs) 1,True):=fun {t}=>ixN (i:=1) (by omega) (by omega)
   have ld_1:∀ {h':Hp} {t:Nat},h' t=AD AY xs→A4 tt.get h' 3 (Ag (AA t xs) 1)=(.int .i64 (at' xs 1),True):=fun {h'} {t} e=>ldN (i:=1) (by omega) (by omega) e
   have ix_2:∀ {t:Nat},Aa tt.get 68 (AA t xs) (.int .i64 2)=(Ag (AA t xs) 2,True):=fun {t}=>ixN (i:=2) (by omega) (by omega)
   have ld_2:∀ {h':Hp} {t:Nat},h' t=AD AY xs→A4 tt.get h' 3 (Ag (AA t xs) 2)=(.int .i64 (at' xs 2),True):=fun {h'} {t} e=>ldN (i:=2) (by omega) (by omega) e
   have hset:∀o,Cb 4 last=o→Bn S w ws last=⟨4, {S with U:=S.U ++ [⟨at' xs 0,at' xs 1,at' xs 2,1,0⟩]},o⟩:=fun o ho=>by unfold Bn;rw [if_neg n_world];rw [if_neg n_router];rw [if_neg n_link];rw [if_pos e_drop];rw [hn];simp only [XM.mk.injEq,true_and];rw [ho]
   generalize hel:(⟨at' xs 0,at' xs 1,at' xs 2,1,0⟩:BJ)=el at hset
   have hen:AJ.enc el=AJ.enc ⟨at' xs 0,at' xs 1,at' xs 2,1,0⟩:=by rw [hel]
   simp only [Dv] at hen
   have hap:∀ {h':Hp} {q t:Nat},h' u=AD AJ S.U→h' q=some (.cells true 5 (AJ.enc ⟨at' xs 0,at' xs 1,at' xs 2,1,0⟩))→AM tt.get h' t [24,24] (AA u S.U) (.slice (some ⟨q,0,none⟩) 1 1)=some (AA t (S.U ++ [el]),CC u S.U t (AD AJ (S.U ++ [el])),t+1):=fun {h'} {q} {t} a1 a2=>by
    rw [hel] at a2
    have e3:cellsOf (h' q)=AJ.enc el:=by rw [a2];rfl
    have:=Me (hp:=h') (b:=u) (top:=t) (k:=q) a1 (by rw [e3];exact a2) (by rw [e3,AJ.h]) (CL (by have:=HS.ul;omega) (by decide))
    rwa [e3,AJ.h] at this
   simp only [Dv] at hap
   have hobj:=HS.U
   by_cases d1:last≤4
   ·by_cases d2:last=0
    ·have hf:Cb 4 last=none:=by simp [Cb,d2]
     have d1n:¬((4:Int) < last):=by omega
     have d2t:=eq_true d2
     have e:Al hp b top (Bn S w ws last)= .inr (En 12, [(Cn (AA u S.U) top,none),(top,AD AJ (S.U ++ [el])),(b,some (.cells true 0 [.int .i64 S.W, .int .i64 S.A, .int .i64 S.T, .int .i64 S.L,AA r S.R,AA k S.K,AA top (S.U ++ [el]),ov]))],top+1):=by
      rw [hset _ hf];simp only [Al,Ev,Er,Bk,c4,c5,c6,c7]
     rw [e]
     by_cases hz:S.U= []
     ·have hm1:AA u S.U= .slice none 0 0:=by rw [hz];rfl
      rw [hm1] at hb ⊢
      have hap0:∀ {h':Hp} {q t:Nat},h' q=some (.cells true 5 (AJ.enc ⟨at' xs 0,at' xs 1,at' xs 2,1,0⟩))→AM tt.get h' t [24,24] (.slice none 0 0) (.slice (some ⟨q,0,none⟩) 1 1)=some (AA t (S.U ++ [el]), [(t,AD AJ (S.U ++ [el]))],t+1):=fun {h'} {q} {t} a2=>by
       rw [hel] at a2
       have e3:cellsOf (h' q)=AJ.enc el:=by rw [a2];rfl
       have:=Ec (hp:=h') (top:=t) (k:=q) (by rw [e3];exact a2) (by rw [e3,AJ.h])
       rw [e3,AJ.h] at this
       rw [hz];exact this
      simp only [Dv] at hap0
      simp only [Cn]
      refine CW.vc BB [0,1,2,6,7,8,9,10,11,12,13,14,15,16,23,24,55,66,88,111,134,140] (by kernel_rfl) ?_
      (repeat ((try refine Vc.mk' ?_);simp (maxSteps:=6000000) only [go_sem,BD,Aj,Ar,hs4,hmx,sl1,ix0,ld0,AV,Ba,Ac,decide_true,decide_false,n_world,n_router,n_link,p_drop,BL,Au,nP,nR,nW,hv,AQ ht5,hnu,hb,Ae hbt,ix_0,ld_0,ix_1,ld_1,ix_2,ld_2,hap0,d1n,d2t,BG]))
      (refine ⟨[top+3],by simp,by simp,by simp, ?_, ?_, ?_⟩ <;> simp [Bl hbt,AB hbt,Ab,AP,Sc.Az (fun j hj=>AB hj) hsR,Sc.Az (fun j hj=>AB hj) hsK,Sc.Az (fun j hj=>AB hj) hsV])
     ·rw [Ch hz]
      refine CW.vc BB [0,1,2,6,7,8,9,10,11,12,13,14,15,16,23,24,55,66,88,111,134,140] (by kernel_rfl) ?_
      (repeat ((try refine Vc.mk' ?_);simp (maxSteps:=6000000) only [go_sem,BD,Aj,Ar,hs4,hmx,sl1,ix0,ld0,AV,Ba,Ac,decide_true,decide_false,n_world,n_router,n_link,p_drop,BL,Au,nP,nR,nW,hv,AQ ht5,hnu,hb,Ae hbt,ix_0,ld_0,ix_1,ld_1,ix_2,ld_2,hap,Ae hu,hobj,nbu,d1n,d2t,BG]))
      (refine ⟨[top+3],by simp,by simp,by simp, ?_, ?_, ?_⟩ <;> simp [Bl hbt,AB hbt,AB hu,Ab,AP,Sc.Az (fun j hj=>AB hj) hsR,Sc.Az (fun j hj=>AB hj) hsK,Sc.Az (fun j hj=>AB hj) hsV])
    ·have hf:Cb 4 last=some 4:=by simp [Cb,d1,d2]
     have d1n:¬((4:Int) < last):=by omega
     have e:Al hp b top (Bn S w ws last)= .inl (.int .i64 4, [(Cn (AA u S.U) top,none),(top,AD AJ (S.U ++ [el])),(b,some (.cells true 0 [.int .i64 S.W, .int .i64 S.A, .int .i64 S.T, .int .i64 S.L,AA r S.R,AA k S.K,AA top (S.U ++ [el]),ov]))],top+1):=by
      rw [hset _ hf];simp only [Al,Ev,Er,Bk,c4,c5,c6,c7]
     rw [e]
     by_cases hz:S.U= []
     ·have hm1:AA u S.U= .slice none 0 0:=by rw [hz];rfl
      rw [hm1] at hb ⊢
      have hap0:∀ {h':Hp} {q t:Nat},h' q=some (.cells true 5 (AJ.enc ⟨at' xs 0,at' xs 1,at' xs 2,1,0⟩))→AM tt.get h' t [24,24] (.slice none 0 0) (.slice (some ⟨q,0,none⟩) 1 1)=some (AA t (S.U ++ [el]), [(t,AD AJ (S.U ++ [el]))],t+1):=fun {h'} {q} {t} a2=>by
       rw [hel] at a2
       have e3:cellsOf (h' q)=AJ.enc el:=by rw [a2];rfl
       have:=Ec (hp:=h') (top:=t) (k:=q) (by rw [e3];exact a2) (by rw [e3,AJ.h])
       rw [e3,AJ.h] at this
       rw [hz];exact this
      simp only [Dv] at hap0
      simp only [Cn]
      refine CW.vc BB [0,1,2,6,7,8,9,10,11,12,13,14,15,16,23,24,55,66,88,111,134,140] (by kernel_rfl) ?_
      (repeat ((try refine Vc.mk' ?_);simp (maxSteps:=6000000) only [go_sem,BD,Aj,Ar,hs4,hmx,sl1,ix0,ld0,AV,Ba,Ac,decide_true,decide_false,n_world,n_router,n_link,p_drop,BL,Au,nP,nR,nW,hv,AQ ht5,hnu,hb,Ae hbt,ix_0,ld_0,ix_1,ld_1,ix_2,ld_2,hap0,d1n,d2,BU]))
      (refine ⟨[top+3],by simp,by simp,by simp, ?_, ?_, ?_⟩ <;> simp [Bl hbt,AB hbt,Ab,AP,Sc.Az (fun j hj=>AB hj) hsR,Sc.Az (fun j hj=>AB hj) hsK,Sc.Az (fun j hj=>AB hj) hsV])
     ·rw [Ch hz]
      refine CW.vc BB [0,1,2,6,7,8,9,10,11,12,13,14,15,16,23,24,55,66,88,111,134,140] (by kernel_rfl) ?_
      (repeat ((try refine Vc.mk' ?_);simp (maxSteps:=6000000) only [go_sem,BD,Aj,Ar,hs4,hmx,sl1,ix0,ld0,AV,Ba,Ac,decide_true,decide_false,n_world,n_router,n_link,p_drop,BL,Au,nP,nR,nW,hv,AQ ht5,hnu,hb,Ae hbt,ix_0,ld_0,ix_1,ld_1,ix_2,ld_2,hap,Ae hu,hobj,nbu,d1n,d2,BU]))
      (refine ⟨[top+3],by simp,by simp,by simp, ?_, ?_, ?_⟩ <;> simp [Bl hbt,AB hbt,AB hu,Ab,AP,Sc.Az (fun j hj=>AB hj) hsR,Sc.Az (fun j hj=>AB hj) hsK,Sc.Az (fun j hj=>AB hj) hsV])
   ·have hf:Cb 4 last=none:=by simp [Cb,d1]
    have d1n:((4:Int) < last)=True:=eq_true (by omega)
    have e:Al hp b top (Bn S w ws last)= .inr (En 12, [(Cn (AA u S.U) top,none),(top,AD AJ (S.U ++ [el])),(b,some (.cells true 0 [.int .i64 S.W, .int .i64 S.A, .int .i64 S.T, .int .i64 S.L,AA r S.R,AA k S.K,AA top (S.U ++ [el]),ov]))],top+1):=by
     rw [hset _ hf];simp only [Al,Ev,Er,Bk,c4,c5,c6,c7]
    rw [e]
    by_cases hz:S.U= []
    ·have hm1:AA u S.U= .slice none 0 0:=by rw [hz];rfl
     rw [hm1] at hb ⊢
     have hap0:∀ {h':Hp} {q t:Nat},h' q=some (.cells true 5 (AJ.enc ⟨at' xs 0,at' xs 1,at' xs 2,1,0⟩))→AM tt.get h' t [24,24] (.slice none 0 0) (.slice (some ⟨q,0,none⟩) 1 1)=some (AA t (S.U ++ [el]), [(t,AD AJ (S.U ++ [el]))],t+1):=fun {h'} {q} {t} a2=>by
      rw [hel] at a2
      have e3:cellsOf (h' q)=AJ.enc el:=by rw [a2];rfl
      have:=Ec (hp:=h') (top:=t) (k:=q) (by rw [e3];exact a2) (by rw [e3,AJ.h])
      rw [e3,AJ.h] at this
      rw [hz];exact this
     simp only [Dv] at hap0
     simp only [Cn]
     refine CW.vc BB [0,1,2,6,7,8,9,10,11,12,13,14,15,16,23,24,55,66,88,111,134,140] (by kernel_rfl) ?_
     (repeat ((try refine Vc.mk' ?_);simp (maxSteps:=6000000) only [go_sem,BD,Aj,Ar,hs4,hmx,sl1,ix0,ld0,AV,Ba,Ac,decide_true,decide_false,n_world,n_router,n_link,p_drop,BL,Au,nP,nR,nW,hv,AQ ht5,hnu,hb,Ae hbt,ix_0,ld_0,ix_1,ld_1,ix_2,ld_2,hap0,d1n,BG]))
     (refine ⟨[top+3],by simp,by simp,by simp, ?_, ?_, ?_⟩ <;> simp [Bl hbt,AB hbt,Ab,AP,Sc.Az (fun j hj=>AB hj) hsR,Sc.Az (fun j hj=>AB hj) hsK,Sc.Az (fun j hj=>AB hj) hsV])
    ·rw [Ch hz]
     refine CW.vc BB [0,1,2,6,7,8,9,10,11,12,13,14,15,16,23,24,55,66,88,111,134,140] (by kernel_rfl) ?_
     (repeat ((try refine Vc.mk' ?_);simp (maxSteps:=6000000) only [go_sem,BD,Aj,Ar,hs4,hmx,sl1,ix0,ld0,AV,Ba,Ac,decide_true,decide_false,n_world,n_router,n_link,p_drop,BL,Au,nP,nR,nW,hv,AQ ht5,hnu,hb,Ae hbt,ix_0,ld_0,ix_1,ld_1,ix_2,ld_2,hap,Ae hu,hobj,nbu,d1n,BG]))
     (refine ⟨[top+3],by simp,by simp,by simp, ?_, ?_, ?_⟩ <;> simp [Bl hbt,AB hbt,AB hu,Ab,AP,Sc.Az (fun j hj=>AB hj) hsR,Sc.Az (fun j hj=>AB hj) hsK,Sc.Az (fun j hj=>AB hj) hsV])
 have n_drop:=e_drop
 by_cases e_double:w= [100,111,117,98,108,101]
 ·have p_double:=eq_true e_double
  have n_del:¬w= [100,101,108,97,121]:=by rw [e_double];decide
  cases hn:EH (ws) 4 with
  |none=>
   have e:Al hp b top (Bn S w ws last)= .inr (En 12, [],top):=by unfold Bn;rw [if_neg n_world];rw [if_neg n_router];rw [if_neg n_link];rw [if_neg n_drop];rw [if_pos e_double];rw [hn];rfl
   rw [e]
   have hnu:∀t,Ew (ws) 4 t= .inr (En 12, [],t):=fun t=>F7 hn
   refine CW.vc BB [0,1,2,6,7,8,9,10,11,12,13,14,15,16,23,24,55,66,88,111,134,140] (by kernel_rfl) ?_
   (repeat ((try refine Vc.mk' ?_);simp (maxSteps:=6000000) only [go_sem,BD,Aj,Ar,hs4,hmx,sl1,ix0,ld0,AV,decide_true,decide_false,n_world,n_router,n_link,n_drop,p_double,n_del,BL,Au,nP,nR,nW,hv,AQ ht5,hnu]))
   (refine ⟨[],by simp,by simp,by simp, ?_, ?_, ?_⟩ <;> simp [])
  |some xs=>
   have hxl:xs.length=4:=by have:=FE hn;omega
   have hnu:∀t,Ew (ws) 4 t= .inl (AA t xs, [(t,AD AY xs)],t+1):=fun t=>Gp hn
   have ix_0:∀ {t:Nat},Aa tt.get 68 (AA t xs) (.int .i64 0)=(Ag (AA t xs) 0,True):=fun {t}=>ixN (i:=0) (by omega) (by omega)
   have ld_0:∀ {h':Hp} {t:Nat},h' t=AD AY xs→A4 tt.get h' 3 (Ag (AA t xs) 0)=(.int .i64 (at' xs 0),True):=fun {h'} {t} e=>ldN (i:=0) (by omega) (by omega) e
   have ix_1:∀ {t:Nat},Aa tt.get 68 (AA t xs) (.int .i64 1)=(Ag (AA t xs) 1,True):=fun {t}=>ixN (i:=1) (by omega) (by omega)
   have ld_1:∀ {h':Hp} {t:Nat},h' t=AD AY xs→A4 tt.get h' 3 (Ag (AA t xs) 1)=(.int .i64 (at' xs 1),True):=fun {h'} {t} e=>ldN (i:=1) (by omega) (by omega) e
   have ix_2:∀ {t:Nat},Aa tt.get 68 (AA t xs) (.int .i64 2)=(Ag (AA t xs) 2,True):=fun {t}=>ixN (i:=2) (by omega) (by omega)
   have ld_2:∀ {h':Hp} {t:Nat},h' t=AD AY xs→A4 tt.get h' 3 (Ag (AA t xs) 2)=(.int .i64 (at' xs 2),True):=fun {h'} {t} e=>ldN (i:=2) (by omega) (by omega) e
   have ix_3:∀ {t:Nat},Aa tt.get 68 (AA t xs) (.int .i64 3)=(Ag (AA t xs) 3,True):=fun {t}=>ixN (i:=3) (by omega) (by omega)
   have ld_3:∀ {h':Hp} {t:Nat},h' t=AD AY xs→A4 tt.get h' 3 (Ag (AA t xs) 3)=(.int .i64 (at' xs 3),True):=fun {h'} {t} e=>ldN (i:=3) (by omega) (by omega) e
   have hset:∀o,Cb 4 last=o→Bn S w ws last=⟨4, {S with U:=S.U ++ [⟨at' xs 0,at' xs 1,at' xs 2,2,at' xs 3⟩]},o⟩:=fun o ho=>by unfold Bn;rw [if_neg n_world];rw [if_neg n_router];rw [if_neg n_link];rw [if_neg n_drop];rw [if_pos e_double];rw [hn];simp only [XM.mk.injEq,true_and];rw [ho]
   generalize hel:(⟨at' xs 0,at' xs 1,at' xs 2,2,at' xs 3⟩:BJ)=el at hset
   have hen:AJ.enc el=AJ.enc ⟨at' xs 0,at' xs 1,at' xs 2,2,at' xs 3⟩:=by rw [hel]
   simp only [Dv] at hen
   have hap:∀ {h':Hp} {q t:Nat},h' u=AD AJ S.U→h' q=some (.cells true 5 (AJ.enc ⟨at' xs 0,at' xs 1,at' xs 2,2,at' xs 3⟩))→AM tt.get h' t [24,24] (AA u S.U) (.slice (some ⟨q,0,none⟩) 1 1)=some (AA t (S.U ++ [el]),CC u S.U t (AD AJ (S.U ++ [el])),t+1):=fun {h'} {q} {t} a1 a2=>by
    rw [hel] at a2
    have e3:cellsOf (h' q)=AJ.enc el:=by rw [a2];rfl
    have:=Me (hp:=h') (b:=u) (top:=t) (k:=q) a1 (by rw [e3];exact a2) (by rw [e3,AJ.h]) (CL (by have:=HS.ul;omega) (by decide))
    rwa [e3,AJ.h] at this
   simp only [Dv] at hap
   have hobj:=HS.U
   by_cases d1:last≤4
   ·by_cases d2:last=0
    ·have hf:Cb 4 last=none:=by simp [Cb,d2]
     have d1n:¬((4:Int) < last):=by omega
     have d2t:=eq_true d2
     have e:Al hp b top (Bn S w ws last)= .inr (En 12, [(Cn (AA u S.U) top,none),(top,AD AJ (S.U ++ [el])),(b,some (.cells true 0 [.int .i64 S.W, .int .i64 S.A, .int .i64 S.T, .int .i64 S.L,AA r S.R,AA k S.K,AA top (S.U ++ [el]),ov]))],top+1):=by
      rw [hset _ hf];simp only [Al,Ev,Er,Bk,c4,c5,c6,c7]
     rw [e]
     by_cases hz:S.U= []
     ·have hm1:AA u S.U= .slice none 0 0:=by rw [hz];rfl
      rw [hm1] at hb ⊢
      have hap0:∀ {h':Hp} {q t:Nat},h' q=some (.cells true 5 (AJ.enc ⟨at' xs 0,at' xs 1,at' xs 2,2,at' xs 3⟩))→AM tt.get h' t [24,24] (.slice none 0 0) (.slice (some ⟨q,0,none⟩) 1 1)=some (AA t (S.U ++ [el]), [(t,AD AJ (S.U ++ [el]))],t+1):=fun {h'} {q} {t} a2=>by
       rw [hel] at a2
       have e3:cellsOf (h' q)=AJ.enc el:=by rw [a2];rfl
       have:=Ec (hp:=h') (top:=t) (k:=q) (by rw [e3];exact a2) (by rw [e3,AJ.h])
       rw [e3,AJ.h] at this
       rw [hz];exact this
      simp only [Dv] at hap0
      simp only [Cn]
      refine CW.vc BB [0,1,2,6,7,8,9,10,11,12,13,14,15,16,23,24,55,66,88,111,134,140] (by kernel_rfl) ?_
      (repeat ((try refine Vc.mk' ?_);simp (maxSteps:=6000000) only [go_sem,BD,Aj,Ar,hs4,hmx,sl1,ix0,ld0,AV,Ba,Ac,decide_true,decide_false,n_world,n_router,n_link,n_drop,p_double,n_del,BL,Au,nP,nR,nW,hv,AQ ht5,hnu,hb,Ae hbt,ix_0,ld_0,ix_1,ld_1,ix_2,ld_2,ix_3,ld_3,hap0,d1n,d2t,BG]))
      (refine ⟨[top+3],by simp,by simp,by simp, ?_, ?_, ?_⟩ <;> simp [Bl hbt,AB hbt,Ab,AP,Sc.Az (fun j hj=>AB hj) hsR,Sc.Az (fun j hj=>AB hj) hsK,Sc.Az (fun j hj=>AB hj) hsV])
     ·rw [Ch hz]
      refine CW.vc BB [0,1,2,6,7,8,9,10,11,12,13,14,15,16,23,24,55,66,88,111,134,140] (by kernel_rfl) ?_
      (repeat ((try refine Vc.mk' ?_);simp (maxSteps:=6000000) only [go_sem,BD,Aj,Ar,hs4,hmx,sl1,ix0,ld0,AV,Ba,Ac,decide_true,decide_false,n_world,n_router,n_link,n_drop,p_double,n_del,BL,Au,nP,nR,nW,hv,AQ ht5,hnu,hb,Ae hbt,ix_0,ld_0,ix_1,ld_1,ix_2,ld_2,ix_3,ld_3,hap,Ae hu,hobj,nbu,d1n,d2t,BG]))
      (refine ⟨[top+3],by simp,by simp,by simp, ?_, ?_, ?_⟩ <;> simp [Bl hbt,AB hbt,AB hu,Ab,AP,Sc.Az (fun j hj=>AB hj) hsR,Sc.Az (fun j hj=>AB hj) hsK,Sc.Az (fun j hj=>AB hj) hsV])
    ·have hf:Cb 4 last=some 4:=by simp [Cb,d1,d2]
     have d1n:¬((4:Int) < last):=by omega
     have e:Al hp b top (Bn S w ws last)= .inl (.int .i64 4, [(Cn (AA u S.U) top,none),(top,AD AJ (S.U ++ [el])),(b,some (.cells true 0 [.int .i64 S.W, .int .i64 S.A, .int .i64 S.T, .int .i64 S.L,AA r S.R,AA k S.K,AA top (S.U ++ [el]),ov]))],top+1):=by
      rw [hset _ hf];simp only [Al,Ev,Er,Bk,c4,c5,c6,c7]
     rw [e]
     by_cases hz:S.U= []
     ·have hm1:AA u S.U= .slice none 0 0:=by rw [hz];rfl
      rw [hm1] at hb ⊢
      have hap0:∀ {h':Hp} {q t:Nat},h' q=some (.cells true 5 (AJ.enc ⟨at' xs 0,at' xs 1,at' xs 2,2,at' xs 3⟩))→AM tt.get h' t [24,24] (.slice none 0 0) (.slice (some ⟨q,0,none⟩) 1 1)=some (AA t (S.U ++ [el]), [(t,AD AJ (S.U ++ [el]))],t+1):=fun {h'} {q} {t} a2=>by
       rw [hel] at a2
       have e3:cellsOf (h' q)=AJ.enc el:=by rw [a2];rfl
       have:=Ec (hp:=h') (top:=t) (k:=q) (by rw [e3];exact a2) (by rw [e3,AJ.h])
       rw [e3,AJ.h] at this
       rw [hz];exact this
      simp only [Dv] at hap0
      simp only [Cn]
      refine CW.vc BB [0,1,2,6,7,8,9,10,11,12,13,14,15,16,23,24,55,66,88,111,134,140] (by kernel_rfl) ?_
      (repeat ((try refine Vc.mk' ?_);simp (maxSteps:=6000000) only [go_sem,BD,Aj,Ar,hs4,hmx,sl1,ix0,ld0,AV,Ba,Ac,decide_true,decide_false,n_world,n_router,n_link,n_drop,p_double,n_del,BL,Au,nP,nR,nW,hv,AQ ht5,hnu,hb,Ae hbt,ix_0,ld_0,ix_1,ld_1,ix_2,ld_2,ix_3,ld_3,hap0,d1n,d2,BU]))
      (refine ⟨[top+3],by simp,by simp,by simp, ?_, ?_, ?_⟩ <;> simp [Bl hbt,AB hbt,Ab,AP,Sc.Az (fun j hj=>AB hj) hsR,Sc.Az (fun j hj=>AB hj) hsK,Sc.Az (fun j hj=>AB hj) hsV])
     ·rw [Ch hz]
      refine CW.vc BB [0,1,2,6,7,8,9,10,11,12,13,14,15,16,23,24,55,66,88,111,134,140] (by kernel_rfl) ?_
      (repeat ((try refine Vc.mk' ?_);simp (maxSteps:=6000000) only [go_sem,BD,Aj,Ar,hs4,hmx,sl1,ix0,ld0,AV,Ba,Ac,decide_true,decide_false,n_world,n_router,n_link,n_drop,p_double,n_del,BL,Au,nP,nR,nW,hv,AQ ht5,hnu,hb,Ae hbt,ix_0,ld_0,ix_1,ld_1,ix_2,ld_2,ix_3,ld_3,hap,Ae hu,hobj,nbu,d1n,d2,BU]))
      (refine ⟨[top+3],by simp,by simp,by simp, ?_, ?_, ?_⟩ <;> simp [Bl hbt,AB hbt,AB hu,Ab,AP,Sc.Az (fun j hj=>AB hj) hsR,Sc.Az (fun j hj=>AB hj) hsK,Sc.Az (fun j hj=>AB hj) hsV])
   ·have hf:Cb 4 last=none:=by simp [Cb,d1]
    have d1n:((4:Int) < last)=True:=eq_true (by omega)
    have e:Al hp b top (Bn S w ws last)= .inr (En 12, [(Cn (AA u S.U) top,none),(top,AD AJ (S.U ++ [el])),(b,some (.cells true 0 [.int .i64 S.W, .int .i64 S.A, .int .i64 S.T, .int .i64 S.L,AA r S.R,AA k S.K,AA top (S.U ++ [el]),ov]))],top+1):=by
     rw [hset _ hf];simp only [Al,Ev,Er,Bk,c4,c5,c6,c7]
    rw [e]
    by_cases hz:S.U= []
    ·have hm1:AA u S.U= .slice none 0 0:=by rw [hz];rfl
     rw [hm1] at hb ⊢
     have hap0:∀ {h':Hp} {q t:Nat},h' q=some (.cells true 5 (AJ.enc ⟨at' xs 0,at' xs 1,at' xs 2,2,at' xs 3⟩))→AM tt.get h' t [24,24] (.slice none 0 0) (.slice (some ⟨q,0,none⟩) 1 1)=some (AA t (S.U ++ [el]), [(t,AD AJ (S.U ++ [el]))],t+1):=fun {h'} {q} {t} a2=>by
      rw [hel] at a2
      have e3:cellsOf (h' q)=AJ.enc el:=by rw [a2];rfl
      have:=Ec (hp:=h') (top:=t) (k:=q) (by rw [e3];exact a2) (by rw [e3,AJ.h])
      rw [e3,AJ.h] at this
      rw [hz];exact this
     simp only [Dv] at hap0
     simp only [Cn]
     refine CW.vc BB [0,1,2,6,7,8,9,10,11,12,13,14,15,16,23,24,55,66,88,111,134,140] (by kernel_rfl) ?_
     (repeat ((try refine Vc.mk' ?_);simp (maxSteps:=6000000) only [go_sem,BD,Aj,Ar,hs4,hmx,sl1,ix0,ld0,AV,Ba,Ac,decide_true,decide_false,n_world,n_router,n_link,n_drop,p_double,n_del,BL,Au,nP,nR,nW,hv,AQ ht5,hnu,hb,Ae hbt,ix_0,ld_0,ix_1,ld_1,ix_2,ld_2,ix_3,ld_3,hap0,d1n,BG]))
     (refine ⟨[top+3],by simp,by simp,by simp, ?_, ?_, ?_⟩ <;> simp [Bl hbt,AB hbt,Ab,AP,Sc.Az (fun j hj=>AB hj) hsR,Sc.Az (fun j hj=>AB hj) hsK,Sc.Az (fun j hj=>AB hj) hsV])
    ·rw [Ch hz]
     refine CW.vc BB [0,1,2,6,7,8,9,10,11,12,13,14,15,16,23,24,55,66,88,111,134,140] (by kernel_rfl) ?_
     (repeat ((try refine Vc.mk' ?_);simp (maxSteps:=6000000) only [go_sem,BD,Aj,Ar,hs4,hmx,sl1,ix0,ld0,AV,Ba,Ac,decide_true,decide_false,n_world,n_router,n_link,n_drop,p_double,n_del,BL,Au,nP,nR,nW,hv,AQ ht5,hnu,hb,Ae hbt,ix_0,ld_0,ix_1,ld_1,ix_2,ld_2,ix_3,ld_3,hap,Ae hu,hobj,nbu,d1n,BG]))
     (refine ⟨[top+3],by simp,by simp,by simp, ?_, ?_, ?_⟩ <;> simp [Bl hbt,AB hbt,AB hu,Ab,AP,Sc.Az (fun j hj=>AB hj) hsR,Sc.Az (fun j hj=>AB hj) hsK,Sc.Az (fun j hj=>AB hj) hsV])
 have n_double:=e_double
 by_cases e_delay:w= [100,101,108,97,121]
 ·have p_delay:=eq_true e_delay
  cases hn:EH (ws) 4 with
  |none=>
   have e:Al hp b top (Bn S w ws last)= .inr (En 12, [],top):=by unfold Bn;rw [if_neg n_world];rw [if_neg n_router];rw [if_neg n_link];rw [if_neg n_drop];rw [if_neg n_double];rw [if_pos e_delay];rw [hn];rfl
   rw [e]
   have hnu:∀t,Ew (ws) 4 t= .inr (En 12, [],t):=fun t=>F7 hn
   refine CW.vc BB [0,1,2,6,7,8,9,10,11,12,13,14,15,16,23,24,55,66,88,111,134,140] (by kernel_rfl) ?_
   (repeat ((try refine Vc.mk' ?_);simp (maxSteps:=6000000) only [go_sem,BD,Aj,Ar,hs4,hmx,sl1,ix0,ld0,AV,decide_true,decide_false,n_world,n_router,n_link,n_drop,n_double,p_delay,BL,Au,nP,nR,nW,hv,AQ ht5,hnu]))
   (refine ⟨[],by simp,by simp,by simp, ?_, ?_, ?_⟩ <;> simp [])
  |some xs=>
   have hxl:xs.length=4:=by have:=FE hn;omega
   have hnu:∀t,Ew (ws) 4 t= .inl (AA t xs, [(t,AD AY xs)],t+1):=fun t=>Gp hn
   have ix_0:∀ {t:Nat},Aa tt.get 68 (AA t xs) (.int .i64 0)=(Ag (AA t xs) 0,True):=fun {t}=>ixN (i:=0) (by omega) (by omega)
   have ld_0:∀ {h':Hp} {t:Nat},h' t=AD AY xs→A4 tt.get h' 3 (Ag (AA t xs) 0)=(.int .i64 (at' xs 0),True):=fun {h'} {t} e=>ldN (i:=0) (by omega) (by omega) e
   have ix_1:∀ {t:Nat},Aa tt.get 68 (AA t xs) (.int .i64 1)=(Ag (AA t xs) 1,True):=fun {t}=>ixN (i:=1) (by omega) (by omega)
   have ld_1:∀ {h':Hp} {t:Nat},h' t=AD AY xs→A4 tt.get h' 3 (Ag (AA t xs) 1)=(.int .i64 (at' xs 1),True):=fun {h'} {t} e=>ldN (i:=1) (by omega) (by omega) e
   have ix_2:∀ {t:Nat},Aa tt.get 68 (AA t xs) (.int .i64 2)=(Ag (AA t xs) 2,True):=fun {t}=>ixN (i:=2) (by omega) (by omega)
   have ld_2:∀ {h':Hp} {t:Nat},h' t=AD AY xs→A4 tt.get h' 3 (Ag (AA t xs) 2)=(.int .i64 (at' xs 2),True):=fun {h'} {t} e=>ldN (i:=2) (by omega) (by omega) e
   have ix_3:∀ {t:Nat},Aa tt.get 68 (AA t xs) (.int .i64 3)=(Ag (AA t xs) 3,True):=fun {t}=>ixN (i:=3) (by omega) (by omega)
   have ld_3:∀ {h':Hp} {t:Nat},h' t=AD AY xs→A4 tt.get h' 3 (Ag (AA t xs) 3)=(.int .i64 (at' xs 3),True):=fun {h'} {t} e=>ldN (i:=3) (by omega) (by omega) e
   have hset:∀o,Cb 4 last=o→Bn S w ws last=⟨4, {S with U:=S.U ++ [⟨at' xs 0,at' xs 1,at' xs 2,3,at' xs 3⟩]},o⟩:=fun o ho=>by unfold Bn;rw [if_neg n_world];rw [if_neg n_router];rw [if_neg n_link];rw [if_neg n_drop];rw [if_neg n_double];rw [if_pos e_delay];rw [hn];simp only [XM.mk.injEq,true_and];rw [ho]
   generalize hel:(⟨at' xs 0,at' xs 1,at' xs 2,3,at' xs 3⟩:BJ)=el at hset
   have hen:AJ.enc el=AJ.enc ⟨at' xs 0,at' xs 1,at' xs 2,3,at' xs 3⟩:=by rw [hel]
   simp only [Dv] at hen
   have hap:∀ {h':Hp} {q t:Nat},h' u=AD AJ S.U→h' q=some (.cells true 5 (AJ.enc ⟨at' xs 0,at' xs 1,at' xs 2,3,at' xs 3⟩))→AM tt.get h' t [24,24] (AA u S.U) (.slice (some ⟨q,0,none⟩) 1 1)=some (AA t (S.U ++ [el]),CC u S.U t (AD AJ (S.U ++ [el])),t+1):=fun {h'} {q} {t} a1 a2=>by
    rw [hel] at a2
    have e3:cellsOf (h' q)=AJ.enc el:=by rw [a2];rfl
    have:=Me (hp:=h') (b:=u) (top:=t) (k:=q) a1 (by rw [e3];exact a2) (by rw [e3,AJ.h]) (CL (by have:=HS.ul;omega) (by decide))
    rwa [e3,AJ.h] at this
   simp only [Dv] at hap
   have hobj:=HS.U
   by_cases d1:last≤4
   ·by_cases d2:last=0
    ·have hf:Cb 4 last=none:=by simp [Cb,d2]
     have d1n:¬((4:Int) < last):=by omega
     have d2t:=eq_true d2
     have e:Al hp b top (Bn S w ws last)= .inr (En 12, [(Cn (AA u S.U) top,none),(top,AD AJ (S.U ++ [el])),(b,some (.cells true 0 [.int .i64 S.W, .int .i64 S.A, .int .i64 S.T, .int .i64 S.L,AA r S.R,AA k S.K,AA top (S.U ++ [el]),ov]))],top+1):=by
      rw [hset _ hf];simp only [Al,Ev,Er,Bk,c4,c5,c6,c7]
     rw [e]
     by_cases hz:S.U= []
     ·have hm1:AA u S.U= .slice none 0 0:=by rw [hz];rfl
      rw [hm1] at hb ⊢
      have hap0:∀ {h':Hp} {q t:Nat},h' q=some (.cells true 5 (AJ.enc ⟨at' xs 0,at' xs 1,at' xs 2,3,at' xs 3⟩))→AM tt.get h' t [24,24] (.slice none 0 0) (.slice (some ⟨q,0,none⟩) 1 1)=some (AA t (S.U ++ [el]), [(t,AD AJ (S.U ++ [el]))],t+1):=fun {h'} {q} {t} a2=>by
       rw [hel] at a2
       have e3:cellsOf (h' q)=AJ.enc el:=by rw [a2];rfl
       have:=Ec (hp:=h') (top:=t) (k:=q) (by rw [e3];exact a2) (by rw [e3,AJ.h])
       rw [e3,AJ.h] at this
       rw [hz];exact this
      simp only [Dv] at hap0
      simp only [Cn]
      refine CW.vc BB [0,1,2,6,7,8,9,10,11,12,13,14,15,16,23,24,55,66,88,111,134,140] (by kernel_rfl) ?_
      (repeat ((try refine Vc.mk' ?_);simp (maxSteps:=6000000) only [go_sem,BD,Aj,Ar,hs4,hmx,sl1,ix0,ld0,AV,Ba,Ac,decide_true,decide_false,n_world,n_router,n_link,n_drop,n_double,p_delay,BL,Au,nP,nR,nW,hv,AQ ht5,hnu,hb,Ae hbt,ix_0,ld_0,ix_1,ld_1,ix_2,ld_2,ix_3,ld_3,hap0,d1n,d2t,BG]))
      (refine ⟨[top+3],by simp,by simp,by simp, ?_, ?_, ?_⟩ <;> simp [Bl hbt,AB hbt,Ab,AP,Sc.Az (fun j hj=>AB hj) hsR,Sc.Az (fun j hj=>AB hj) hsK,Sc.Az (fun j hj=>AB hj) hsV])
     ·rw [Ch hz]
      refine CW.vc BB [0,1,2,6,7,8,9,10,11,12,13,14,15,16,23,24,55,66,88,111,134,140] (by kernel_rfl) ?_
      (repeat ((try refine Vc.mk' ?_);simp (maxSteps:=6000000) only [go_sem,BD,Aj,Ar,hs4,hmx,sl1,ix0,ld0,AV,Ba,Ac,decide_true,decide_false,n_world,n_router,n_link,n_drop,n_double,p_delay,BL,Au,nP,nR,nW,hv,AQ ht5,hnu,hb,Ae hbt,ix_0,ld_0,ix_1,ld_1,ix_2,ld_2,ix_3,ld_3,hap,Ae hu,hobj,nbu,d1n,d2t,BG]))
      (refine ⟨[top+3],by simp,by simp,by simp, ?_, ?_, ?_⟩ <;> simp [Bl hbt,AB hbt,AB hu,Ab,AP,Sc.Az (fun j hj=>AB hj) hsR,Sc.Az (fun j hj=>AB hj) hsK,Sc.Az (fun j hj=>AB hj) hsV])
    ·have hf:Cb 4 last=some 4:=by simp [Cb,d1,d2]
     have d1n:¬((4:Int) < last):=by omega
     have e:Al hp b top (Bn S w ws last)= .inl (.int .i64 4, [(Cn (AA u S.U) top,none),(top,AD AJ (S.U ++ [el])),(b,some (.cells true 0 [.int .i64 S.W, .int .i64 S.A, .int .i64 S.T, .int .i64 S.L,AA r S.R,AA k S.K,AA top (S.U ++ [el]),ov]))],top+1):=by
      rw [hset _ hf];simp only [Al,Ev,Er,Bk,c4,c5,c6,c7]
     rw [e]
     by_cases hz:S.U= []
     ·have hm1:AA u S.U= .slice none 0 0:=by rw [hz];rfl
      rw [hm1] at hb ⊢
      have hap0:∀ {h':Hp} {q t:Nat},h' q=some (.cells true 5 (AJ.enc ⟨at' xs 0,at' xs 1,at' xs 2,3,at' xs 3⟩))→AM tt.get h' t [24,24] (.slice none 0 0) (.slice (some ⟨q,0,none⟩) 1 1)=some (AA t (S.U ++ [el]), [(t,AD AJ (S.U ++ [el]))],t+1):=fun {h'} {q} {t} a2=>by
       rw [hel] at a2
       have e3:cellsOf (h' q)=AJ.enc el:=by rw [a2];rfl
       have:=Ec (hp:=h') (top:=t) (k:=q) (by rw [e3];exact a2) (by rw [e3,AJ.h])
       rw [e3,AJ.h] at this
       rw [hz];exact this
      simp only [Dv] at hap0
      simp only [Cn]
      refine CW.vc BB [0,1,2,6,7,8,9,10,11,12,13,14,15,16,23,24,55,66,88,111,134,140] (by kernel_rfl) ?_
      (repeat ((try refine Vc.mk' ?_);simp (maxSteps:=6000000) only [go_sem,BD,Aj,Ar,hs4,hmx,sl1,ix0,ld0,AV,Ba,Ac,decide_true,decide_false,n_world,n_router,n_link,n_drop,n_double,p_delay,BL,Au,nP,nR,nW,hv,AQ ht5,hnu,hb,Ae hbt,ix_0,ld_0,ix_1,ld_1,ix_2,ld_2,ix_3,ld_3,hap0,d1n,d2,BU]))
      (refine ⟨[top+3],by simp,by simp,by simp, ?_, ?_, ?_⟩ <;> simp [Bl hbt,AB hbt,Ab,AP,Sc.Az (fun j hj=>AB hj) hsR,Sc.Az (fun j hj=>AB hj) hsK,Sc.Az (fun j hj=>AB hj) hsV])
     ·rw [Ch hz]
      refine CW.vc BB [0,1,2,6,7,8,9,10,11,12,13,14,15,16,23,24,55,66,88,111,134,140] (by kernel_rfl) ?_
      (repeat ((try refine Vc.mk' ?_);simp (maxSteps:=6000000) only [go_sem,BD,Aj,Ar,hs4,hmx,sl1,ix0,ld0,AV,Ba,Ac,decide_true,decide_false,n_world,n_router,n_link,n_drop,n_double,p_delay,BL,Au,nP,nR,nW,hv,AQ ht5,hnu,hb,Ae hbt,ix_0,ld_0,ix_1,ld_1,ix_2,ld_2,ix_3,ld_3,hap,Ae hu,hobj,nbu,d1n,d2,BU]))
      (refine ⟨[top+3],by simp,by simp,by simp, ?_, ?_, ?_⟩ <;> simp [Bl hbt,AB hbt,AB hu,Ab,AP,Sc.Az (fun j hj=>AB hj) hsR,Sc.Az (fun j hj=>AB hj) hsK,Sc.Az (fun j hj=>AB hj) hsV])
   ·have hf:Cb 4 last=none:=by simp [Cb,d1]
    have d1n:((4:Int) < last)=True:=eq_true (by omega)
    have e:Al hp b top (Bn S w ws last)= .inr (En 12, [(Cn (AA u S.U) top,none),(top,AD AJ (S.U ++ [el])),(b,some (.cells true 0 [.int .i64 S.W, .int .i64 S.A, .int .i64 S.T, .int .i64 S.L,AA r S.R,AA k S.K,AA top (S.U ++ [el]),ov]))],top+1):=by
     rw [hset _ hf];simp only [Al,Ev,Er,Bk,c4,c5,c6,c7]
    rw [e]
    by_cases hz:S.U= []
    ·have hm1:AA u S.U= .slice none 0 0:=by rw [hz];rfl
     rw [hm1] at hb ⊢
     have hap0:∀ {h':Hp} {q t:Nat},h' q=some (.cells true 5 (AJ.enc ⟨at' xs 0,at' xs 1,at' xs 2,3,at' xs 3⟩))→AM tt.get h' t [24,24] (.slice none 0 0) (.slice (some ⟨q,0,none⟩) 1 1)=some (AA t (S.U ++ [el]), [(t,AD AJ (S.U ++ [el]))],t+1):=fun {h'} {q} {t} a2=>by
      rw [hel] at a2
      have e3:cellsOf (h' q)=AJ.enc el:=by rw [a2];rfl
      have:=Ec (hp:=h') (top:=t) (k:=q) (by rw [e3];exact a2) (by rw [e3,AJ.h])
      rw [e3,AJ.h] at this
      rw [hz];exact this
     simp only [Dv] at hap0
     simp only [Cn]
     refine CW.vc BB [0,1,2,6,7,8,9,10,11,12,13,14,15,16,23,24,55,66,88,111,134,140] (by kernel_rfl) ?_
     (repeat ((try refine Vc.mk' ?_);simp (maxSteps:=6000000) only [go_sem,BD,Aj,Ar,hs4,hmx,sl1,ix0,ld0,AV,Ba,Ac,decide_true,decide_false,n_world,n_router,n_link,n_drop,n_double,p_delay,BL,Au,nP,nR,nW,hv,AQ ht5,hnu,hb,Ae hbt,ix_0,ld_0,ix_1,ld_1,ix_2,ld_2,ix_3,ld_3,hap0,d1n,BG]))
     (refine ⟨[top+3],by simp,by simp,by simp, ?_, ?_, ?_⟩ <;> simp [Bl hbt,AB hbt,Ab,AP,Sc.Az (fun j hj=>AB hj) hsR,Sc.Az (fun j hj=>AB hj) hsK,Sc.Az (fun j hj=>AB hj) hsV])
    ·rw [Ch hz]
     refine CW.vc BB [0,1,2,6,7,8,9,10,11,12,13,14,15,16,23,24,55,66,88,111,134,140] (by kernel_rfl) ?_
     (repeat ((try refine Vc.mk' ?_);simp (maxSteps:=6000000) only [go_sem,BD,Aj,Ar,hs4,hmx,sl1,ix0,ld0,AV,Ba,Ac,decide_true,decide_false,n_world,n_router,n_link,n_drop,n_double,p_delay,BL,Au,nP,nR,nW,hv,AQ ht5,hnu,hb,Ae hbt,ix_0,ld_0,ix_1,ld_1,ix_2,ld_2,ix_3,ld_3,hap,Ae hu,hobj,nbu,d1n,BG]))
     (refine ⟨[top+3],by simp,by simp,by simp, ?_, ?_, ?_⟩ <;> simp [Bl hbt,AB hbt,AB hu,Ab,AP,Sc.Az (fun j hj=>AB hj) hsR,Sc.Az (fun j hj=>AB hj) hsK,Sc.Az (fun j hj=>AB hj) hsV])
 have n_delay:=e_delay
 have e:Al hp b top (Bn S w ws last)= .inr (En 12, [],top):=by unfold Bn;rw [if_neg n_world];rw [if_neg n_router];rw [if_neg n_link];rw [if_neg n_drop];rw [if_neg n_double];rw [if_neg n_delay];rfl
 rw [e]
 refine CW.vc BB [0,1,2,6,7,8,9,10,11,12,13,14,15,16,23,24,55,66,88,111,134,140] (by kernel_rfl) ?_
 (repeat ((try refine Vc.mk' ?_);simp (maxSteps:=6000000) only [go_sem,BD,Aj,Ar,hs4,hmx,sl1,ix0,ld0,AV,Ba,Ac,decide_true,decide_false,n_world,n_router,n_link,n_drop,n_double,n_delay,BG]))
 (refine ⟨[],by simp,by simp,by simp, ?_, ?_, ?_⟩ <;> simp [])
end Go.Proofs.YthlhnangbinhoaaGreatDoor.Dm
