/- A setup's line. -/
import Derived.Test.YthlhnangbinhoaaGreatDoorSJ
set_option linter.unusedSimpArgs false
set_option linter.unusedVariables false
namespace Go.Proofs.YthlhnangbinhoaaGreatDoor.Dm
open Go.Dm
set_option maxHeartbeats 64000000
set_option maxRecDepth 20000
structure CR where
 W:Int
 A:Int
 T:Int
 L:Int
 R:List CI
 K:List Ap
 U:List BX
structure Uh where
 ch:Nat
 S:CR
 now:Option Int
def Cv (now last:Int):Option Int:=if last≤now∧(now=1 ↔ last=0) then some now else none
def Vd (ws:Ld):Bool:=decide (ws.length=3) && decide (at' ws 2= [105,110,103,114,101,115,115])
def Br (S:CR)(w:List UInt8)(ws:Ld)(last:Int):Uh:=
 if w= [119,111,114,108,100] then
  if last=0 then match Ex ws 4 with
   |some xs=>⟨1, {S with W:=at' xs 0,A:=at' xs 1,T:=at' xs 2,L:=at' xs 3},Cv 1 last⟩
   |none=>⟨0,S,none⟩
  else ⟨0,S,none⟩
 else if w= [114,111,117,116,101,114] then match Ex (if Vd ws=true then ws.take 2 else ws) 2 with
  |some xs=>⟨2, {S with R:=S.R ++ [⟨at' xs 0,at' xs 1,Vd ws⟩]},Cv 2 last⟩
  |none=>⟨0,S,none⟩
 else if w= [108,105,110,107] then match Ex ws 3 with
  |some xs=>⟨3, {S with K:=S.K ++ [⟨at' xs 0,at' xs 1,at' xs 2⟩]},Cv 3 last⟩
  |none=>⟨0,S,none⟩
 else if w= [100,114,111,112] then match Ex ws 3 with
  |some xs=>⟨4, {S with U:=S.U ++ [⟨at' xs 0,at' xs 1,at' xs 2,1,0⟩]},Cv 4 last⟩
  |none=>⟨0,S,none⟩
 else if w= [100,111,117,98,108,101] then match Ex ws 4 with
  |some xs=>⟨4, {S with U:=S.U ++ [⟨at' xs 0,at' xs 1,at' xs 2,2,at' xs 3⟩]},Cv 4 last⟩
  |none=>⟨0,S,none⟩
 else if w= [100,101,108,97,121] then match Ex ws 4 with
  |some xs=>⟨4, {S with U:=S.U ++ [⟨at' xs 0,at' xs 1,at' xs 2,3,at' xs 3⟩]},Cv 4 last⟩
  |none=>⟨0,S,none⟩
 else ⟨0,S,none⟩
def Ct (hp:Hp)(b i:Nat):Value:=match hp b with
 |some (.cells _ _ vs)=>(vs[i]?).getD undef
 |_=>undef
def DB (v:Value)(d:Nat):Nat:=match v with
 | .slice (some ⟨b,_,_⟩) _ _=>b
 |_=>d
def oY (hp:Hp)(b:Nat):CR:=⟨intOf (Ct hp b 0),intOf (Ct hp b 1),intOf (Ct hp b 2),intOf (Ct hp b 3),AL.rd hp (Ct hp b 4),Af.rd hp (Ct hp b 5),AJ.rd hp (Ct hp b 6)⟩
def Bw (S:CR)(r k u ov:Value):Option BI:=some (.cells true 0 [.int .i64 S.W, .int .i64 S.A, .int .i64 S.T, .int .i64 S.L,r,k,u,ov])
def F3 (hp:Hp)(b top:Nat)(x:Uh):BV:=match x.ch with
 |0=> []
 |1=> [(b,Bw x.S (Ct hp b 4) (Ct hp b 5) (Ct hp b 6) (Ct hp b 7))]
 |2=> [(DB (Ct hp b 4) top,none),(top,AE AL x.S.R),(b,Bw x.S (AA top x.S.R) (Ct hp b 5) (Ct hp b 6) (Ct hp b 7))]
 |3=> [(DB (Ct hp b 5) top,none),(top,AE Af x.S.K),(b,Bw x.S (Ct hp b 4) (AA top x.S.K) (Ct hp b 6) (Ct hp b 7))]
 |_=> [(DB (Ct hp b 6) top,none),(top,AE AJ x.S.U),(b,Bw x.S (Ct hp b 4) (Ct hp b 5) (AA top x.S.U) (Ct hp b 7))]
def Fs (top:Nat)(x:Uh):Nat:=match x.ch with
 |0=>top
 |1=>top
 |_=>top+1
def Ax (hp:Hp)(b top:Nat)(x:Uh):(Value×BV×Nat) ⊕ (Value×BV×Nat):=match x.now with
 |some n=> .inl (.int .i64 n,F3 hp b top x,Fs top x)
 |none=> .inr (Fp 12,F3 hp b top x,Fs top x)
structure Wl (hp:Hp) (b:Nat) (S:CR) (r k u:Nat) (ov:Value):Prop where
 h:hp b=Bw S (AA r S.R) (AA k S.K) (AA u S.U) ov
 R:hp r=AE AL S.R
 K:hp k=AE Af S.K
 U:hp u=AE AJ S.U
 rb:r≠b
 kb:k≠b
 ub:u≠b
 rl:S.R.length≤1000000
 kl:S.K.length≤1000000
 ul:S.U.length≤1000000
 o1:ov.oneCell' = true
 o2:A8 ov= [ov]
theorem Wl.s {hp:Hp}{b r k u:Nat}{S:CR}{ov:Value}(h:Wl hp b S r k u ov):oY hp b=S:=by
 have e:hp b=some (.cells true 0 [.int .i64 S.W, .int .i64 S.A, .int .i64 S.T, .int .i64 S.L,AA r S.R,AA k S.K,AA u S.U,ov]):=h.h
 have h1:AL.rd hp (AA r S.R)=S.R:=Mz h.R (by have:=h.rl;omega)
 have h2:Af.rd hp (AA k S.K)=S.K:=Mz h.K (by have:=h.kl;omega)
 have h3:AJ.rd hp (AA u S.U)=S.U:=Mz h.U (by have:=h.ul;omega)
 simp [oY,Ct,e,h1,h2,h3]
def GZ:Bz:= .pan (fun args hp top=>match args with | [.pointer (some ⟨b,0,none⟩), .string ⟨⟨s⟩⟩, .int .i64 _]=>(∃S r k u ov,Wl hp b S r k u ov∧r < top∧k < top∧u < top)∧s.length≤100000∧Cp hp | _=>False)
 (fun args hp top=>match args with | [.pointer (some ⟨b,_,_⟩),s,last]=>Ax hp b top (Br (oY hp b) (at' (CE (strOf s)) 0) ((CE (strOf s)).drop 1) (intOf last)) | _=> .inr (undef, [],top))
theorem Td:∀ {ws:Ld} {xs ys:List Int},L6 xs ws=some ys→ys.length=xs.length+ws.length
 | [],xs,ys,h=>by cases h;rfl
 |w :: l,xs,ys,h=>by
  unfold L6 at h
  split at h
  ·rw [Td h];simp;omega
  ·cases h
theorem GL {ws:Ld}{n:Int}{xs:List Int}(h:Ex ws n=some xs):(xs.length:Int)=n:=by
 unfold Ex at h
 split at h
 ·rename_i c;rw [Td h];simpa using c
 ·cases h
theorem C3 {α:Type}{b d:Nat}{l:List α}(h:l≠ []):DB (AA b l) d=b:=by
 cases l with
 |nil=>exact absurd rfl h
 |cons a l=>rfl
def iI:FuncId→Bz:=Cx n6 78 A4
theorem BK:DU Tryz.prog tt.get iI:=PW.add ry
theorem BP:iI 73=Ao:=rfl
theorem BQ:iI 37=Ab:=rfl
theorem Bd:iI 78=A4:=rfl
theorem vE:BR Tryz.prog 39 GZ:=by
 refine .Pr Ui ?_
 intro args hp top hpre hcl hsc
 match args,hpre with
 | [.pointer (some ⟨b,0,none⟩), .string ⟨⟨s⟩⟩, .int .i64 last],⟨⟨S,r,k,u,ov,HS,hr,hk,hu⟩,hs,hv⟩=>
 have ht5:=FE hcl hv
 have hv0:=hv
 obtain ⟨_,⟨ml,hml⟩,_,_⟩:=hv0
 simp only [AU,intOf_int,HS.s]
 have hb:hp b=some (.cells true 0 [.int .i64 S.W, .int .i64 S.A, .int .i64 S.T, .int .i64 S.L,AA r S.R,AA k S.K,AA u S.U,ov]):=HS.h
 have hbt:=hcl.lt _ _ hb
 have c4:Ct hp b 4=AA r S.R:=by simp [Ct,hb]
 have c5:Ct hp b 5=AA k S.K:=by simp [Ct,hb]
 have c6:Ct hp b 6=AA u S.U:=by simp [Ct,hb]
 have c7:Ct hp b 7=ov:=by simp [Ct,hb]
 have hsR:Sc top (AA r S.R):=by have:=hcl.sc _ _ hb;exact this.2.2.2.2.1
 have hsK:Sc top (AA k S.K):=by have:=hcl.sc _ _ hb;exact this.2.2.2.2.2.1
 have hsU:Sc top (AA u S.U):=by have:=hcl.sc _ _ hb;exact this.2.2.2.2.2.2.1
 have hsV:Sc top ov:=by have:=hcl.sc _ _ hb;exact this.2.2.2.2.2.2.2.1
 have hne:=jH s
 have hsl:1≤(CE s).length:=by
  cases h:CE s with
  |nil=>exact absurd h hne
  |cons a l=>simp
 have hn0:=Qa s
 have hmx:(∃m,hp 2=some (QB 1 (.int .i64 m)))=True:=eq_true ⟨ml,hml⟩
 have hs4:(s.length < 4294967281)=True:=eq_true (by omega)
 have t2:2 < top:=by omega
 have nbr:¬b=r:=fun e=>HS.rb e.symm
 have nbk:¬b=k:=fun e=>HS.kb e.symm
 have nbu:¬b=u:=fun e=>HS.ub e.symm
 have hW:∀ {h':Hp},h' top=AE AH (CE s)→BJ AH h' (AA top (CE s)) (CE s):=fun e=>BJ.IP e (by omega)
 obtain ⟨h0,hm0⟩:∃h0:Hp,h0 top=AE AH (CE s):=⟨fun i=>if i=top then AE AH (CE s) else none,by simp⟩
 have ix0:Ak tt.get 67 (AA top (CE s)) (.int .i64 0)=(Ag (AA top (CE s)) 0,True):=by
  have:=CS (hW hm0) (k:= .i64) (n:=0) (by decide) (by omega)
  simpa using this
 have ld0:∀ {h':Hp},h' top=AE AH (CE s)→BA tt.get h' 9 (Ag (AA top (CE s)) 0)=(.string ⟨⟨at' (CE s) 0⟩⟩,True):=fun e=>Cf (hW e) (i:=0) (by omega)
 have sl1:∀ {h':Hp},h' top=AE AH (CE s)→Bv tt.get h' 67 (AA top (CE s)) (some (.int .i64 1)) none=(vR top (CE s).length 1,True):=fun {h'} e=>by
  have:=DI (hW e) (k:= .i64) (n:=1) (by decide) (by omega)
  rw [this,Uu hne]
  simp only [show (1:Int).toNat=1 from rfl]
  rw [H9 (by omega)]
 have hS:∀ {h':Hp},h' top=AE AH (CE s)→BJ AH h' (vR top (CE s).length 1) ((CE s).drop 1):=fun e=>lB e hne (by omega) (by omega)
 have hWd:cA ((CE s).drop 1):=⟨by rw [List.length_drop];omega,fun w hw=>by have:=VM s w (List.mem_of_mem_drop hw);omega⟩
 generalize hws:(CE s).drop 1=ws at hS hWd
 generalize hw:at' (CE s) 0=w at ld0
 have sL':∀ {h':Hp},CQ tt.get h' 67 (vR top (CE s).length 1)=(.int .i64 (ws.length:Int),True):=C4 (hS hm0)
 have nP:∀ {h':Hp},h' top=AE AH (CE s)→G6 AH h' (vR top (CE s).length 1)=True:=fun e=>(hS e).P
 have nR:∀ {h':Hp},h' top=AE AH (CE s)→AH.rd h' (vR top (CE s).length 1)=ws:=fun e=>(hS e).rd
 have nW:cA ws=True:=eq_true hWd
 have ixN:∀ {t:Nat} {xs:List Int} {i:Nat},xs.length≤4→i < xs.length→Ak tt.get 68 (AA t xs) (.int .i64 (i:Int))=(Ag (AA t xs) (i * 1),True):=fun {t} {xs} {i} h4 hi=>by
  have:=Cg (BJ.IP (hp:=fun j=>if j=t then AE Ad xs else none) (b:=t) (E:=Ad) (l:=xs) (by simp) (by omega)) (k:= .i64) (n:=(i:Int)) (by omega) (by omega)
  simpa using this
 have ldN:∀ {h':Hp} {t:Nat} {xs:List Int} {i:Nat},xs.length≤4→i < xs.length→h' t=AE Ad xs→BA tt.get h' 3 (Ag (AA t xs) (i * 1))=(.int .i64 (at' xs i),True):=fun {h'} {t} {xs} {i} h4 hi e=>DD (BJ.IP e (by omega)) (i:=i) hi
 refine Ey.Bn Bu Ui rfl 182 rfl [.tmp 6] rfl (show 3≤182 by decide) ?_
 by_cases e_world:w= [119,111,114,108,100]
 ·have p_world:=eq_true e_world
  by_cases e_last:last=0
  ·have pl:=eq_true e_last
   have p0:¬((1:Int) < last):=by omega
   cases hn:Ex (ws) 4 with
   |none=>
    have e:Ax hp b top (Br S w ws last)= .inr (Fp 12, [],top):=by unfold Br;rw [if_pos e_world];rw [if_pos e_last];rw [hn];rfl
    rw [e]
    have hnu:∀t,Fz (ws) 4 t= .inr (Fp 12, [],t):=fun t=>HY hn
    refine CW.vc BK [0,1,2,6,7,8,9,10,11,12,13,14,15,16,23,24,55,66,88,111,134,140] (by kernel_rfl) ?_
    (repeat ((try refine Vc.mk' ?_);simp (maxSteps:=6000000) only [go_sem,BP,Ao,A3,hs4,hmx,AG t2,sl1,ix0,ld0,Ah,BQ,Ab,decide_true,decide_false,p_world,pl,Bd,A4,nP,nR,nW,hv,AO ht5,AP ht5,hnu]))
    (refine ⟨[],by simp,by simp,by simp, ?_, ?_, ?_⟩ <;> simp [])
   |some xs=>
    have hxl:xs.length=4:=by have:=GL hn;omega
    have hnu:∀t,Fz (ws) 4 t= .inl (AA t xs, [(t,AE Ad xs)],t+1):=fun t=>IB hn
    have ix_0:∀ {t:Nat},Ak tt.get 68 (AA t xs) (.int .i64 0)=(Ag (AA t xs) 0,True):=fun {t}=>ixN (i:=0) (by omega) (by omega)
    have ld_0:∀ {h':Hp} {t:Nat},h' t=AE Ad xs→BA tt.get h' 3 (Ag (AA t xs) 0)=(.int .i64 (at' xs 0),True):=fun {h'} {t} e=>ldN (i:=0) (by omega) (by omega) e
    have ix_1:∀ {t:Nat},Ak tt.get 68 (AA t xs) (.int .i64 1)=(Ag (AA t xs) 1,True):=fun {t}=>ixN (i:=1) (by omega) (by omega)
    have ld_1:∀ {h':Hp} {t:Nat},h' t=AE Ad xs→BA tt.get h' 3 (Ag (AA t xs) 1)=(.int .i64 (at' xs 1),True):=fun {h'} {t} e=>ldN (i:=1) (by omega) (by omega) e
    have ix_2:∀ {t:Nat},Ak tt.get 68 (AA t xs) (.int .i64 2)=(Ag (AA t xs) 2,True):=fun {t}=>ixN (i:=2) (by omega) (by omega)
    have ld_2:∀ {h':Hp} {t:Nat},h' t=AE Ad xs→BA tt.get h' 3 (Ag (AA t xs) 2)=(.int .i64 (at' xs 2),True):=fun {h'} {t} e=>ldN (i:=2) (by omega) (by omega) e
    have ix_3:∀ {t:Nat},Ak tt.get 68 (AA t xs) (.int .i64 3)=(Ag (AA t xs) 3,True):=fun {t}=>ixN (i:=3) (by omega) (by omega)
    have ld_3:∀ {h':Hp} {t:Nat},h' t=AE Ad xs→BA tt.get h' 3 (Ag (AA t xs) 3)=(.int .i64 (at' xs 3),True):=fun {h'} {t} e=>ldN (i:=3) (by omega) (by omega) e
    have e:Ax hp b top (Br S w ws last)= .inl (.int .i64 1, [(b,some (.cells true 0 [.int .i64 (at' xs 0), .int .i64 (at' xs 1), .int .i64 (at' xs 2), .int .i64 (at' xs 3),AA r S.R,AA k S.K,AA u S.U,ov]))],top):=by
     have:Br S w ws last=⟨1, {S with W:=at' xs 0,A:=at' xs 1,T:=at' xs 2,L:=at' xs 3},some 1⟩:=by unfold Br;rw [if_pos e_world];rw [if_pos e_last];rw [hn];simp [Cv,e_last]
     rw [this];simp only [Ax,F3,Fs,Bw,c4,c5,c6,c7]
    rw [e]
    refine CW.vc BK [0,1,2,6,7,8,9,10,11,12,13,14,15,16,23,24,55,66,88,111,134,140] (by kernel_rfl) ?_
    (repeat ((try refine Vc.mk' ?_);simp (maxSteps:=6000000) only [go_sem,BP,Ao,A3,hs4,hmx,AG t2,sl1,ix0,ld0,Ah,BQ,Ab,decide_true,decide_false,p_world,pl,Bd,A4,nP,nR,nW,hv,AO ht5,AP ht5,hnu,hb,AG hbt,ix_0,ld_0,ix_1,ld_1,ix_2,ld_2,ix_3,ld_3,pl,p0,Bi]))
    (refine ⟨[],by simp,by simp,by simp, ?_, ?_, ?_⟩ <;> simp [AB hbt,Sc.Av (fun j hj=>AB hj) hsR,Sc.Av (fun j hj=>AB hj) hsK,Sc.Av (fun j hj=>AB hj) hsU,Sc.Av (fun j hj=>AB hj) hsV])
  ·have e:Ax hp b top (Br S w ws last)= .inr (Fp 12, [],top):=by unfold Br;rw [if_pos e_world];rw [if_neg e_last];rfl
   rw [e]
   refine CW.vc BK [0,1,2,6,7,8,9,10,11,12,13,14,15,16,23,24,55,66,88,111,134,140] (by kernel_rfl) ?_
   (repeat ((try refine Vc.mk' ?_);simp (maxSteps:=6000000) only [go_sem,BP,Ao,A3,hs4,hmx,AG t2,sl1,ix0,ld0,Ah,BQ,Ab,decide_true,decide_false,p_world,e_last,BT]))
   (refine ⟨[],by simp,by simp,by simp, ?_, ?_, ?_⟩ <;> simp [])
 have n_world:=e_world
 by_cases e_router:w= [114,111,117,116,101,114]
 ·have p_router:=eq_true e_router
  cases hing:Vd ws with
  |true=>
   have hi3:ws.length=3∧at' ws 2= [105,110,103,114,101,115,115]:=by simpa [Vd] using hing
   have i3:((ws.length:Int)=3)=True:=eq_true (by omega)
   have i2:=eq_true hi3.2
   have ix2:Ak tt.get 67 (vR top (CE s).length 1) (.int .i64 2)=(Ag (vR top (CE s).length 1) 2,True):=by have:=CS (hS hm0) (k:= .i64) (n:=2) (by decide) (by omega);simpa using this
   have ld2:∀ {h':Hp},h' top=AE AH (CE s)→BA tt.get h' 9 (Ag (vR top (CE s).length 1) 2)=(.string ⟨⟨at' ws 2⟩⟩,True):=fun e=>Cf (hS e) (i:=2) (by omega)
   have sh2:∀ {h':Hp},h' top=AE AH (CE s)→Bv tt.get h' 67 (vR top (CE s).length 1) none (some (.int .i64 2))=(K8 1 (vR top (CE s).length 1) 0 2,True):=fun e=>by have:=D5 (hS e) (k:= .i64) (n:=2) (by decide) (by omega);simpa using this
   have hS2:∀ {h':Hp},h' top=AE AH (CE s)→BJ AH h' (K8 1 (vR top (CE s).length 1) 0 2) (ws.take 2):=fun e=>(hS e).take (by omega)
   have nP2:∀ {h':Hp},h' top=AE AH (CE s)→G6 AH h' (K8 1 (vR top (CE s).length 1) 0 2)=True:=fun e=>(hS2 e).P
   have nR2:∀ {h':Hp},h' top=AE AH (CE s)→AH.rd h' (K8 1 (vR top (CE s).length 1) 0 2)=ws.take 2:=fun e=>(hS2 e).rd
   have nW2:cA (ws.take 2)=True:=eq_true ⟨by rw [List.length_take];omega,fun w hw=>hWd.2 w (List.mem_of_mem_take hw)⟩
   cases hn:Ex (ws.take 2) 2 with
   |none=>
    have e:Ax hp b top (Br S w ws last)= .inr (Fp 12, [],top):=by unfold Br;rw [if_neg n_world];rw [if_pos e_router];rw [if_pos hing];rw [hn];rfl
    rw [e]
    have hnu:∀t,Fz (ws.take 2) 2 t= .inr (Fp 12, [],t):=fun t=>HY hn
    refine CW.vc BK [0,1,2,6,7,8,9,10,11,12,13,14,15,16,23,24,55,66,88,111,134,140] (by kernel_rfl) ?_
    (repeat ((try refine Vc.mk' ?_);simp (maxSteps:=6000000) only [go_sem,BP,Ao,A3,hs4,hmx,AG t2,sl1,ix0,ld0,Ah,BQ,Ab,decide_true,decide_false,n_world,p_router,sL',i3,i2,ix2,ld2,sh2,nP2,nR2,nW2,Bd,A4,nP,nR,nW,hv,AO ht5,AP ht5,hnu]))
    (refine ⟨[],by simp,by simp,by simp, ?_, ?_, ?_⟩ <;> simp [])
   |some xs=>
    have hxl:xs.length=2:=by have:=GL hn;omega
    have hnu:∀t,Fz (ws.take 2) 2 t= .inl (AA t xs, [(t,AE Ad xs)],t+1):=fun t=>IB hn
    have ix_0:∀ {t:Nat},Ak tt.get 68 (AA t xs) (.int .i64 0)=(Ag (AA t xs) 0,True):=fun {t}=>ixN (i:=0) (by omega) (by omega)
    have ld_0:∀ {h':Hp} {t:Nat},h' t=AE Ad xs→BA tt.get h' 3 (Ag (AA t xs) 0)=(.int .i64 (at' xs 0),True):=fun {h'} {t} e=>ldN (i:=0) (by omega) (by omega) e
    have ix_1:∀ {t:Nat},Ak tt.get 68 (AA t xs) (.int .i64 1)=(Ag (AA t xs) 1,True):=fun {t}=>ixN (i:=1) (by omega) (by omega)
    have ld_1:∀ {h':Hp} {t:Nat},h' t=AE Ad xs→BA tt.get h' 3 (Ag (AA t xs) 1)=(.int .i64 (at' xs 1),True):=fun {h'} {t} e=>ldN (i:=1) (by omega) (by omega) e
    have hset:∀o,Cv 2 last=o→Br S w ws last=⟨2, {S with R:=S.R ++ [⟨at' xs 0,at' xs 1,true⟩]},o⟩:=fun o ho=>by unfold Br;rw [if_neg n_world];rw [if_pos e_router];rw [if_pos hing];rw [hn];simp only [hing];rw [ho]
    generalize hel:(⟨at' xs 0,at' xs 1,true⟩:CI)=el at hset
    have hen:AL.enc el=AL.enc ⟨at' xs 0,at' xs 1,true⟩:=by rw [hel]
    simp only [Ea] at hen
    have hap:∀ {h':Hp} {q t:Nat},h' r=AE AL S.R→h' q=some (.cells true 3 (AL.enc ⟨at' xs 0,at' xs 1,true⟩))→AR tt.get h' t [22,22] (AA r S.R) (.slice (some ⟨q,0,none⟩) 1 1)=some (AA t (S.R ++ [el]),Ck r S.R t (AE AL (S.R ++ [el])),t+1):=fun {h'} {q} {t} a1 a2=>by
     rw [hel] at a2
     have e3:cellsOf (h' q)=AL.enc el:=by rw [a2];rfl
     have:=NG (hp:=h') (b:=r) (top:=t) (k:=q) a1 (by rw [e3];exact a2) (by rw [e3,AL.h]) (Dc (by have:=HS.rl;omega) (by decide))
     rwa [e3,AL.h] at this
    simp only [Ea] at hap
    have hobj:=HS.R
    by_cases d1:last≤2
    ·by_cases d2:last=0
     ·have hf:Cv 2 last=none:=by simp [Cv,d2]
      have d1n:¬((2:Int) < last):=by omega
      have d2t:=eq_true d2
      have e:Ax hp b top (Br S w ws last)= .inr (Fp 12, [(DB (AA r S.R) top,none),(top,AE AL (S.R ++ [el])),(b,some (.cells true 0 [.int .i64 S.W, .int .i64 S.A, .int .i64 S.T, .int .i64 S.L,AA top (S.R ++ [el]),AA k S.K,AA u S.U,ov]))],top+1):=by
       rw [hset _ hf];simp only [Ax,F3,Fs,Bw,c4,c5,c6,c7]
      rw [e]
      by_cases hz:S.R= []
      ·have hm1:AA r S.R= .slice none 0 0:=by rw [hz];rfl
       rw [hm1] at hb ⊢
       have hap0:∀ {h':Hp} {q t:Nat},h' q=some (.cells true 3 (AL.enc ⟨at' xs 0,at' xs 1,true⟩))→AR tt.get h' t [22,22] (.slice none 0 0) (.slice (some ⟨q,0,none⟩) 1 1)=some (AA t (S.R ++ [el]), [(t,AE AL (S.R ++ [el]))],t+1):=fun {h'} {q} {t} a2=>by
        rw [hel] at a2
        have e3:cellsOf (h' q)=AL.enc el:=by rw [a2];rfl
        have:=FX (hp:=h') (top:=t) (k:=q) (by rw [e3];exact a2) (by rw [e3,AL.h])
        rw [e3,AL.h] at this
        rw [hz];exact this
       simp only [Ea] at hap0
       simp only [DB]
       refine CW.vc BK [0,1,2,6,7,8,9,10,11,12,13,14,15,16,23,24,55,66,88,111,134,140] (by kernel_rfl) ?_
       (repeat ((try refine Vc.mk' ?_);simp (maxSteps:=6000000) only [go_sem,BP,Ao,A3,hs4,hmx,AG t2,sl1,ix0,ld0,Ah,BQ,Ab,decide_true,decide_false,n_world,p_router,sL',i3,i2,ix2,ld2,sh2,nP2,nR2,nW2,Bd,A4,nP,nR,nW,hv,AO ht5,AP ht5,hnu,hb,AG hbt,ix_0,ld_0,ix_1,ld_1,hap0,AG hr,hobj,HS.o1,HS.o2,nbr,d1n,d2t,BT]))
       (refine ⟨[top+3],by simp,by simp,by simp, ?_, ?_, ?_⟩ <;> simp [Bx hbt,AB hbt,AB hr,Al,Aa,Sc.Av (fun j hj=>AB hj) hsR,Sc.Av (fun j hj=>AB hj) hsK,Sc.Av (fun j hj=>AB hj) hsU,Sc.Av (fun j hj=>AB hj) hsV])
      ·rw [C3 hz]
       refine CW.vc BK [0,1,2,6,7,8,9,10,11,12,13,14,15,16,23,24,55,66,88,111,134,140] (by kernel_rfl) ?_
       (repeat ((try refine Vc.mk' ?_);simp (maxSteps:=6000000) only [go_sem,BP,Ao,A3,hs4,hmx,AG t2,sl1,ix0,ld0,Ah,BQ,Ab,decide_true,decide_false,n_world,p_router,sL',i3,i2,ix2,ld2,sh2,nP2,nR2,nW2,Bd,A4,nP,nR,nW,hv,AO ht5,AP ht5,hnu,hb,AG hbt,ix_0,ld_0,ix_1,ld_1,hap,AG hr,hobj,HS.o1,HS.o2,nbr,d1n,d2t,BT]))
       (refine ⟨[top+3],by simp,by simp,by simp, ?_, ?_, ?_⟩ <;> simp [Bx hbt,AB hbt,AB hr,Al,Aa,Sc.Av (fun j hj=>AB hj) hsR,Sc.Av (fun j hj=>AB hj) hsK,Sc.Av (fun j hj=>AB hj) hsU,Sc.Av (fun j hj=>AB hj) hsV])
     ·have hf:Cv 2 last=some 2:=by simp [Cv,d1,d2]
      have d1n:¬((2:Int) < last):=by omega
      have e:Ax hp b top (Br S w ws last)= .inl (.int .i64 2, [(DB (AA r S.R) top,none),(top,AE AL (S.R ++ [el])),(b,some (.cells true 0 [.int .i64 S.W, .int .i64 S.A, .int .i64 S.T, .int .i64 S.L,AA top (S.R ++ [el]),AA k S.K,AA u S.U,ov]))],top+1):=by
       rw [hset _ hf];simp only [Ax,F3,Fs,Bw,c4,c5,c6,c7]
      rw [e]
      by_cases hz:S.R= []
      ·have hm1:AA r S.R= .slice none 0 0:=by rw [hz];rfl
       rw [hm1] at hb ⊢
       have hap0:∀ {h':Hp} {q t:Nat},h' q=some (.cells true 3 (AL.enc ⟨at' xs 0,at' xs 1,true⟩))→AR tt.get h' t [22,22] (.slice none 0 0) (.slice (some ⟨q,0,none⟩) 1 1)=some (AA t (S.R ++ [el]), [(t,AE AL (S.R ++ [el]))],t+1):=fun {h'} {q} {t} a2=>by
        rw [hel] at a2
        have e3:cellsOf (h' q)=AL.enc el:=by rw [a2];rfl
        have:=FX (hp:=h') (top:=t) (k:=q) (by rw [e3];exact a2) (by rw [e3,AL.h])
        rw [e3,AL.h] at this
        rw [hz];exact this
       simp only [Ea] at hap0
       simp only [DB]
       refine CW.vc BK [0,1,2,6,7,8,9,10,11,12,13,14,15,16,23,24,55,66,88,111,134,140] (by kernel_rfl) ?_
       (repeat ((try refine Vc.mk' ?_);simp (maxSteps:=6000000) only [go_sem,BP,Ao,A3,hs4,hmx,AG t2,sl1,ix0,ld0,Ah,BQ,Ab,decide_true,decide_false,n_world,p_router,sL',i3,i2,ix2,ld2,sh2,nP2,nR2,nW2,Bd,A4,nP,nR,nW,hv,AO ht5,AP ht5,hnu,hb,AG hbt,ix_0,ld_0,ix_1,ld_1,hap0,AG hr,hobj,HS.o1,HS.o2,nbr,d1n,d2,Bi]))
       (refine ⟨[top+3],by simp,by simp,by simp, ?_, ?_, ?_⟩ <;> simp [Bx hbt,AB hbt,AB hr,Al,Aa,Sc.Av (fun j hj=>AB hj) hsR,Sc.Av (fun j hj=>AB hj) hsK,Sc.Av (fun j hj=>AB hj) hsU,Sc.Av (fun j hj=>AB hj) hsV])
      ·rw [C3 hz]
       refine CW.vc BK [0,1,2,6,7,8,9,10,11,12,13,14,15,16,23,24,55,66,88,111,134,140] (by kernel_rfl) ?_
       (repeat ((try refine Vc.mk' ?_);simp (maxSteps:=6000000) only [go_sem,BP,Ao,A3,hs4,hmx,AG t2,sl1,ix0,ld0,Ah,BQ,Ab,decide_true,decide_false,n_world,p_router,sL',i3,i2,ix2,ld2,sh2,nP2,nR2,nW2,Bd,A4,nP,nR,nW,hv,AO ht5,AP ht5,hnu,hb,AG hbt,ix_0,ld_0,ix_1,ld_1,hap,AG hr,hobj,HS.o1,HS.o2,nbr,d1n,d2,Bi]))
       (refine ⟨[top+3],by simp,by simp,by simp, ?_, ?_, ?_⟩ <;> simp [Bx hbt,AB hbt,AB hr,Al,Aa,Sc.Av (fun j hj=>AB hj) hsR,Sc.Av (fun j hj=>AB hj) hsK,Sc.Av (fun j hj=>AB hj) hsU,Sc.Av (fun j hj=>AB hj) hsV])
    ·have hf:Cv 2 last=none:=by simp [Cv,d1]
     have d1n:((2:Int) < last)=True:=eq_true (by omega)
     have e:Ax hp b top (Br S w ws last)= .inr (Fp 12, [(DB (AA r S.R) top,none),(top,AE AL (S.R ++ [el])),(b,some (.cells true 0 [.int .i64 S.W, .int .i64 S.A, .int .i64 S.T, .int .i64 S.L,AA top (S.R ++ [el]),AA k S.K,AA u S.U,ov]))],top+1):=by
      rw [hset _ hf];simp only [Ax,F3,Fs,Bw,c4,c5,c6,c7]
     rw [e]
     by_cases hz:S.R= []
     ·have hm1:AA r S.R= .slice none 0 0:=by rw [hz];rfl
      rw [hm1] at hb ⊢
      have hap0:∀ {h':Hp} {q t:Nat},h' q=some (.cells true 3 (AL.enc ⟨at' xs 0,at' xs 1,true⟩))→AR tt.get h' t [22,22] (.slice none 0 0) (.slice (some ⟨q,0,none⟩) 1 1)=some (AA t (S.R ++ [el]), [(t,AE AL (S.R ++ [el]))],t+1):=fun {h'} {q} {t} a2=>by
       rw [hel] at a2
       have e3:cellsOf (h' q)=AL.enc el:=by rw [a2];rfl
       have:=FX (hp:=h') (top:=t) (k:=q) (by rw [e3];exact a2) (by rw [e3,AL.h])
       rw [e3,AL.h] at this
       rw [hz];exact this
      simp only [Ea] at hap0
      simp only [DB]
      refine CW.vc BK [0,1,2,6,7,8,9,10,11,12,13,14,15,16,23,24,55,66,88,111,134,140] (by kernel_rfl) ?_
      (repeat ((try refine Vc.mk' ?_);simp (maxSteps:=6000000) only [go_sem,BP,Ao,A3,hs4,hmx,AG t2,sl1,ix0,ld0,Ah,BQ,Ab,decide_true,decide_false,n_world,p_router,sL',i3,i2,ix2,ld2,sh2,nP2,nR2,nW2,Bd,A4,nP,nR,nW,hv,AO ht5,AP ht5,hnu,hb,AG hbt,ix_0,ld_0,ix_1,ld_1,hap0,AG hr,hobj,HS.o1,HS.o2,nbr,d1n,BT]))
      (refine ⟨[top+3],by simp,by simp,by simp, ?_, ?_, ?_⟩ <;> simp [Bx hbt,AB hbt,AB hr,Al,Aa,Sc.Av (fun j hj=>AB hj) hsR,Sc.Av (fun j hj=>AB hj) hsK,Sc.Av (fun j hj=>AB hj) hsU,Sc.Av (fun j hj=>AB hj) hsV])
     ·rw [C3 hz]
      refine CW.vc BK [0,1,2,6,7,8,9,10,11,12,13,14,15,16,23,24,55,66,88,111,134,140] (by kernel_rfl) ?_
      (repeat ((try refine Vc.mk' ?_);simp (maxSteps:=6000000) only [go_sem,BP,Ao,A3,hs4,hmx,AG t2,sl1,ix0,ld0,Ah,BQ,Ab,decide_true,decide_false,n_world,p_router,sL',i3,i2,ix2,ld2,sh2,nP2,nR2,nW2,Bd,A4,nP,nR,nW,hv,AO ht5,AP ht5,hnu,hb,AG hbt,ix_0,ld_0,ix_1,ld_1,hap,AG hr,hobj,HS.o1,HS.o2,nbr,d1n,BT]))
      (refine ⟨[top+3],by simp,by simp,by simp, ?_, ?_, ?_⟩ <;> simp [Bx hbt,AB hbt,AB hr,Al,Aa,Sc.Av (fun j hj=>AB hj) hsR,Sc.Av (fun j hj=>AB hj) hsK,Sc.Av (fun j hj=>AB hj) hsU,Sc.Av (fun j hj=>AB hj) hsV])
  |false=>
   have hi3:ws.length=3→¬at' ws 2= [105,110,103,114,101,115,115]:=fun h1 h2=>by simp [Vd,h1,h2] at hing
   by_cases h3:ws.length=3
   ·have i3:((ws.length:Int)=3)=True:=eq_true (by omega)
    have i2:=hi3 h3
    have ix2:Ak tt.get 67 (vR top (CE s).length 1) (.int .i64 2)=(Ag (vR top (CE s).length 1) 2,True):=by have:=CS (hS hm0) (k:= .i64) (n:=2) (by decide) (by omega);simpa using this
    have ld2:∀ {h':Hp},h' top=AE AH (CE s)→BA tt.get h' 9 (Ag (vR top (CE s).length 1) 2)=(.string ⟨⟨at' ws 2⟩⟩,True):=fun e=>Cf (hS e) (i:=2) (by omega)
    cases hn:Ex (ws) 2 with
    |none=>
     have e:Ax hp b top (Br S w ws last)= .inr (Fp 12, [],top):=by unfold Br;rw [if_neg n_world];rw [if_pos e_router];rw [if_neg (show ¬Vd ws=true by rw [hing];simp)];rw [hn];rfl
     rw [e]
     have hnu:∀t,Fz (ws) 2 t= .inr (Fp 12, [],t):=fun t=>HY hn
     refine CW.vc BK [0,1,2,6,7,8,9,10,11,12,13,14,15,16,23,24,55,66,88,111,134,140] (by kernel_rfl) ?_
     (repeat ((try refine Vc.mk' ?_);simp (maxSteps:=6000000) only [go_sem,BP,Ao,A3,hs4,hmx,AG t2,sl1,ix0,ld0,Ah,BQ,Ab,decide_true,decide_false,n_world,p_router,sL',i3,i2,ix2,ld2,Bd,A4,nP,nR,nW,hv,AO ht5,AP ht5,hnu]))
     (refine ⟨[],by simp,by simp,by simp, ?_, ?_, ?_⟩ <;> simp [])
    |some xs=>
     have hxl:xs.length=2:=by have:=GL hn;omega
     have hnu:∀t,Fz (ws) 2 t= .inl (AA t xs, [(t,AE Ad xs)],t+1):=fun t=>IB hn
     have ix_0:∀ {t:Nat},Ak tt.get 68 (AA t xs) (.int .i64 0)=(Ag (AA t xs) 0,True):=fun {t}=>ixN (i:=0) (by omega) (by omega)
     have ld_0:∀ {h':Hp} {t:Nat},h' t=AE Ad xs→BA tt.get h' 3 (Ag (AA t xs) 0)=(.int .i64 (at' xs 0),True):=fun {h'} {t} e=>ldN (i:=0) (by omega) (by omega) e
     have ix_1:∀ {t:Nat},Ak tt.get 68 (AA t xs) (.int .i64 1)=(Ag (AA t xs) 1,True):=fun {t}=>ixN (i:=1) (by omega) (by omega)
     have ld_1:∀ {h':Hp} {t:Nat},h' t=AE Ad xs→BA tt.get h' 3 (Ag (AA t xs) 1)=(.int .i64 (at' xs 1),True):=fun {h'} {t} e=>ldN (i:=1) (by omega) (by omega) e
     have hset:∀o,Cv 2 last=o→Br S w ws last=⟨2, {S with R:=S.R ++ [⟨at' xs 0,at' xs 1,false⟩]},o⟩:=fun o ho=>by unfold Br;rw [if_neg n_world];rw [if_pos e_router];rw [if_neg (show ¬Vd ws=true by rw [hing];simp)];rw [hn];simp only [hing];rw [ho]
     generalize hel:(⟨at' xs 0,at' xs 1,false⟩:CI)=el at hset
     have hen:AL.enc el=AL.enc ⟨at' xs 0,at' xs 1,false⟩:=by rw [hel]
     simp only [Ea] at hen
     have hap:∀ {h':Hp} {q t:Nat},h' r=AE AL S.R→h' q=some (.cells true 3 (AL.enc ⟨at' xs 0,at' xs 1,false⟩))→AR tt.get h' t [22,22] (AA r S.R) (.slice (some ⟨q,0,none⟩) 1 1)=some (AA t (S.R ++ [el]),Ck r S.R t (AE AL (S.R ++ [el])),t+1):=fun {h'} {q} {t} a1 a2=>by
      rw [hel] at a2
      have e3:cellsOf (h' q)=AL.enc el:=by rw [a2];rfl
      have:=NG (hp:=h') (b:=r) (top:=t) (k:=q) a1 (by rw [e3];exact a2) (by rw [e3,AL.h]) (Dc (by have:=HS.rl;omega) (by decide))
      rwa [e3,AL.h] at this
     simp only [Ea] at hap
     have hobj:=HS.R
     by_cases d1:last≤2
     ·by_cases d2:last=0
      ·have hf:Cv 2 last=none:=by simp [Cv,d2]
       have d1n:¬((2:Int) < last):=by omega
       have d2t:=eq_true d2
       have e:Ax hp b top (Br S w ws last)= .inr (Fp 12, [(DB (AA r S.R) top,none),(top,AE AL (S.R ++ [el])),(b,some (.cells true 0 [.int .i64 S.W, .int .i64 S.A, .int .i64 S.T, .int .i64 S.L,AA top (S.R ++ [el]),AA k S.K,AA u S.U,ov]))],top+1):=by
        rw [hset _ hf];simp only [Ax,F3,Fs,Bw,c4,c5,c6,c7]
       rw [e]
       by_cases hz:S.R= []
       ·have hm1:AA r S.R= .slice none 0 0:=by rw [hz];rfl
        rw [hm1] at hb ⊢
        have hap0:∀ {h':Hp} {q t:Nat},h' q=some (.cells true 3 (AL.enc ⟨at' xs 0,at' xs 1,false⟩))→AR tt.get h' t [22,22] (.slice none 0 0) (.slice (some ⟨q,0,none⟩) 1 1)=some (AA t (S.R ++ [el]), [(t,AE AL (S.R ++ [el]))],t+1):=fun {h'} {q} {t} a2=>by
         rw [hel] at a2
         have e3:cellsOf (h' q)=AL.enc el:=by rw [a2];rfl
         have:=FX (hp:=h') (top:=t) (k:=q) (by rw [e3];exact a2) (by rw [e3,AL.h])
         rw [e3,AL.h] at this
         rw [hz];exact this
        simp only [Ea] at hap0
        simp only [DB]
        refine CW.vc BK [0,1,2,6,7,8,9,10,11,12,13,14,15,16,23,24,55,66,88,111,134,140] (by kernel_rfl) ?_
        (repeat ((try refine Vc.mk' ?_);simp (maxSteps:=6000000) only [go_sem,BP,Ao,A3,hs4,hmx,AG t2,sl1,ix0,ld0,Ah,BQ,Ab,decide_true,decide_false,n_world,p_router,sL',i3,i2,ix2,ld2,Bd,A4,nP,nR,nW,hv,AO ht5,AP ht5,hnu,hb,AG hbt,ix_0,ld_0,ix_1,ld_1,hap0,AG hr,hobj,HS.o1,HS.o2,nbr,d1n,d2t,BT]))
        (refine ⟨[top+3],by simp,by simp,by simp, ?_, ?_, ?_⟩ <;> simp [Bx hbt,AB hbt,AB hr,Al,Aa,Sc.Av (fun j hj=>AB hj) hsR,Sc.Av (fun j hj=>AB hj) hsK,Sc.Av (fun j hj=>AB hj) hsU,Sc.Av (fun j hj=>AB hj) hsV])
       ·rw [C3 hz]
        refine CW.vc BK [0,1,2,6,7,8,9,10,11,12,13,14,15,16,23,24,55,66,88,111,134,140] (by kernel_rfl) ?_
        (repeat ((try refine Vc.mk' ?_);simp (maxSteps:=6000000) only [go_sem,BP,Ao,A3,hs4,hmx,AG t2,sl1,ix0,ld0,Ah,BQ,Ab,decide_true,decide_false,n_world,p_router,sL',i3,i2,ix2,ld2,Bd,A4,nP,nR,nW,hv,AO ht5,AP ht5,hnu,hb,AG hbt,ix_0,ld_0,ix_1,ld_1,hap,AG hr,hobj,HS.o1,HS.o2,nbr,d1n,d2t,BT]))
        (refine ⟨[top+3],by simp,by simp,by simp, ?_, ?_, ?_⟩ <;> simp [Bx hbt,AB hbt,AB hr,Al,Aa,Sc.Av (fun j hj=>AB hj) hsR,Sc.Av (fun j hj=>AB hj) hsK,Sc.Av (fun j hj=>AB hj) hsU,Sc.Av (fun j hj=>AB hj) hsV])
      ·have hf:Cv 2 last=some 2:=by simp [Cv,d1,d2]
       have d1n:¬((2:Int) < last):=by omega
       have e:Ax hp b top (Br S w ws last)= .inl (.int .i64 2, [(DB (AA r S.R) top,none),(top,AE AL (S.R ++ [el])),(b,some (.cells true 0 [.int .i64 S.W, .int .i64 S.A, .int .i64 S.T, .int .i64 S.L,AA top (S.R ++ [el]),AA k S.K,AA u S.U,ov]))],top+1):=by
        rw [hset _ hf];simp only [Ax,F3,Fs,Bw,c4,c5,c6,c7]
       rw [e]
       by_cases hz:S.R= []
       ·have hm1:AA r S.R= .slice none 0 0:=by rw [hz];rfl
        rw [hm1] at hb ⊢
        have hap0:∀ {h':Hp} {q t:Nat},h' q=some (.cells true 3 (AL.enc ⟨at' xs 0,at' xs 1,false⟩))→AR tt.get h' t [22,22] (.slice none 0 0) (.slice (some ⟨q,0,none⟩) 1 1)=some (AA t (S.R ++ [el]), [(t,AE AL (S.R ++ [el]))],t+1):=fun {h'} {q} {t} a2=>by
         rw [hel] at a2
         have e3:cellsOf (h' q)=AL.enc el:=by rw [a2];rfl
         have:=FX (hp:=h') (top:=t) (k:=q) (by rw [e3];exact a2) (by rw [e3,AL.h])
         rw [e3,AL.h] at this
         rw [hz];exact this
        simp only [Ea] at hap0
        simp only [DB]
        refine CW.vc BK [0,1,2,6,7,8,9,10,11,12,13,14,15,16,23,24,55,66,88,111,134,140] (by kernel_rfl) ?_
        (repeat ((try refine Vc.mk' ?_);simp (maxSteps:=6000000) only [go_sem,BP,Ao,A3,hs4,hmx,AG t2,sl1,ix0,ld0,Ah,BQ,Ab,decide_true,decide_false,n_world,p_router,sL',i3,i2,ix2,ld2,Bd,A4,nP,nR,nW,hv,AO ht5,AP ht5,hnu,hb,AG hbt,ix_0,ld_0,ix_1,ld_1,hap0,AG hr,hobj,HS.o1,HS.o2,nbr,d1n,d2,Bi]))
        (refine ⟨[top+3],by simp,by simp,by simp, ?_, ?_, ?_⟩ <;> simp [Bx hbt,AB hbt,AB hr,Al,Aa,Sc.Av (fun j hj=>AB hj) hsR,Sc.Av (fun j hj=>AB hj) hsK,Sc.Av (fun j hj=>AB hj) hsU,Sc.Av (fun j hj=>AB hj) hsV])
       ·rw [C3 hz]
        refine CW.vc BK [0,1,2,6,7,8,9,10,11,12,13,14,15,16,23,24,55,66,88,111,134,140] (by kernel_rfl) ?_
        (repeat ((try refine Vc.mk' ?_);simp (maxSteps:=6000000) only [go_sem,BP,Ao,A3,hs4,hmx,AG t2,sl1,ix0,ld0,Ah,BQ,Ab,decide_true,decide_false,n_world,p_router,sL',i3,i2,ix2,ld2,Bd,A4,nP,nR,nW,hv,AO ht5,AP ht5,hnu,hb,AG hbt,ix_0,ld_0,ix_1,ld_1,hap,AG hr,hobj,HS.o1,HS.o2,nbr,d1n,d2,Bi]))
        (refine ⟨[top+3],by simp,by simp,by simp, ?_, ?_, ?_⟩ <;> simp [Bx hbt,AB hbt,AB hr,Al,Aa,Sc.Av (fun j hj=>AB hj) hsR,Sc.Av (fun j hj=>AB hj) hsK,Sc.Av (fun j hj=>AB hj) hsU,Sc.Av (fun j hj=>AB hj) hsV])
     ·have hf:Cv 2 last=none:=by simp [Cv,d1]
      have d1n:((2:Int) < last)=True:=eq_true (by omega)
      have e:Ax hp b top (Br S w ws last)= .inr (Fp 12, [(DB (AA r S.R) top,none),(top,AE AL (S.R ++ [el])),(b,some (.cells true 0 [.int .i64 S.W, .int .i64 S.A, .int .i64 S.T, .int .i64 S.L,AA top (S.R ++ [el]),AA k S.K,AA u S.U,ov]))],top+1):=by
       rw [hset _ hf];simp only [Ax,F3,Fs,Bw,c4,c5,c6,c7]
      rw [e]
      by_cases hz:S.R= []
      ·have hm1:AA r S.R= .slice none 0 0:=by rw [hz];rfl
       rw [hm1] at hb ⊢
       have hap0:∀ {h':Hp} {q t:Nat},h' q=some (.cells true 3 (AL.enc ⟨at' xs 0,at' xs 1,false⟩))→AR tt.get h' t [22,22] (.slice none 0 0) (.slice (some ⟨q,0,none⟩) 1 1)=some (AA t (S.R ++ [el]), [(t,AE AL (S.R ++ [el]))],t+1):=fun {h'} {q} {t} a2=>by
        rw [hel] at a2
        have e3:cellsOf (h' q)=AL.enc el:=by rw [a2];rfl
        have:=FX (hp:=h') (top:=t) (k:=q) (by rw [e3];exact a2) (by rw [e3,AL.h])
        rw [e3,AL.h] at this
        rw [hz];exact this
       simp only [Ea] at hap0
       simp only [DB]
       refine CW.vc BK [0,1,2,6,7,8,9,10,11,12,13,14,15,16,23,24,55,66,88,111,134,140] (by kernel_rfl) ?_
       (repeat ((try refine Vc.mk' ?_);simp (maxSteps:=6000000) only [go_sem,BP,Ao,A3,hs4,hmx,AG t2,sl1,ix0,ld0,Ah,BQ,Ab,decide_true,decide_false,n_world,p_router,sL',i3,i2,ix2,ld2,Bd,A4,nP,nR,nW,hv,AO ht5,AP ht5,hnu,hb,AG hbt,ix_0,ld_0,ix_1,ld_1,hap0,AG hr,hobj,HS.o1,HS.o2,nbr,d1n,BT]))
       (refine ⟨[top+3],by simp,by simp,by simp, ?_, ?_, ?_⟩ <;> simp [Bx hbt,AB hbt,AB hr,Al,Aa,Sc.Av (fun j hj=>AB hj) hsR,Sc.Av (fun j hj=>AB hj) hsK,Sc.Av (fun j hj=>AB hj) hsU,Sc.Av (fun j hj=>AB hj) hsV])
      ·rw [C3 hz]
       refine CW.vc BK [0,1,2,6,7,8,9,10,11,12,13,14,15,16,23,24,55,66,88,111,134,140] (by kernel_rfl) ?_
       (repeat ((try refine Vc.mk' ?_);simp (maxSteps:=6000000) only [go_sem,BP,Ao,A3,hs4,hmx,AG t2,sl1,ix0,ld0,Ah,BQ,Ab,decide_true,decide_false,n_world,p_router,sL',i3,i2,ix2,ld2,Bd,A4,nP,nR,nW,hv,AO ht5,AP ht5,hnu,hb,AG hbt,ix_0,ld_0,ix_1,ld_1,hap,AG hr,hobj,HS.o1,HS.o2,nbr,d1n,BT]))
       (refine ⟨[top+3],by simp,by simp,by simp, ?_, ?_, ?_⟩ <;> simp [Bx hbt,AB hbt,AB hr,Al,Aa,Sc.Av (fun j hj=>AB hj) hsR,Sc.Av (fun j hj=>AB hj) hsK,Sc.Av (fun j hj=>AB hj) hsU,Sc.Av (fun j hj=>AB hj) hsV])
   ·have i3:¬((ws.length:Int)=3):=by omega
    cases hn:Ex (ws) 2 with
    |none=>
     have e:Ax hp b top (Br S w ws last)= .inr (Fp 12, [],top):=by unfold Br;rw [if_neg n_world];rw [if_pos e_router];rw [if_neg (show ¬Vd ws=true by rw [hing];simp)];rw [hn];rfl
     rw [e]
     have hnu:∀t,Fz (ws) 2 t= .inr (Fp 12, [],t):=fun t=>HY hn
     refine CW.vc BK [0,1,2,6,7,8,9,10,11,12,13,14,15,16,23,24,55,66,88,111,134,140] (by kernel_rfl) ?_
     (repeat ((try refine Vc.mk' ?_);simp (maxSteps:=6000000) only [go_sem,BP,Ao,A3,hs4,hmx,AG t2,sl1,ix0,ld0,Ah,BQ,Ab,decide_true,decide_false,n_world,p_router,sL',i3,Bd,A4,nP,nR,nW,hv,AO ht5,AP ht5,hnu]))
     (refine ⟨[],by simp,by simp,by simp, ?_, ?_, ?_⟩ <;> simp [])
    |some xs=>
     have hxl:xs.length=2:=by have:=GL hn;omega
     have hnu:∀t,Fz (ws) 2 t= .inl (AA t xs, [(t,AE Ad xs)],t+1):=fun t=>IB hn
     have ix_0:∀ {t:Nat},Ak tt.get 68 (AA t xs) (.int .i64 0)=(Ag (AA t xs) 0,True):=fun {t}=>ixN (i:=0) (by omega) (by omega)
     have ld_0:∀ {h':Hp} {t:Nat},h' t=AE Ad xs→BA tt.get h' 3 (Ag (AA t xs) 0)=(.int .i64 (at' xs 0),True):=fun {h'} {t} e=>ldN (i:=0) (by omega) (by omega) e
     have ix_1:∀ {t:Nat},Ak tt.get 68 (AA t xs) (.int .i64 1)=(Ag (AA t xs) 1,True):=fun {t}=>ixN (i:=1) (by omega) (by omega)
     have ld_1:∀ {h':Hp} {t:Nat},h' t=AE Ad xs→BA tt.get h' 3 (Ag (AA t xs) 1)=(.int .i64 (at' xs 1),True):=fun {h'} {t} e=>ldN (i:=1) (by omega) (by omega) e
     have hset:∀o,Cv 2 last=o→Br S w ws last=⟨2, {S with R:=S.R ++ [⟨at' xs 0,at' xs 1,false⟩]},o⟩:=fun o ho=>by unfold Br;rw [if_neg n_world];rw [if_pos e_router];rw [if_neg (show ¬Vd ws=true by rw [hing];simp)];rw [hn];simp only [hing];rw [ho]
     generalize hel:(⟨at' xs 0,at' xs 1,false⟩:CI)=el at hset
     have hen:AL.enc el=AL.enc ⟨at' xs 0,at' xs 1,false⟩:=by rw [hel]
     simp only [Ea] at hen
     have hap:∀ {h':Hp} {q t:Nat},h' r=AE AL S.R→h' q=some (.cells true 3 (AL.enc ⟨at' xs 0,at' xs 1,false⟩))→AR tt.get h' t [22,22] (AA r S.R) (.slice (some ⟨q,0,none⟩) 1 1)=some (AA t (S.R ++ [el]),Ck r S.R t (AE AL (S.R ++ [el])),t+1):=fun {h'} {q} {t} a1 a2=>by
      rw [hel] at a2
      have e3:cellsOf (h' q)=AL.enc el:=by rw [a2];rfl
      have:=NG (hp:=h') (b:=r) (top:=t) (k:=q) a1 (by rw [e3];exact a2) (by rw [e3,AL.h]) (Dc (by have:=HS.rl;omega) (by decide))
      rwa [e3,AL.h] at this
     simp only [Ea] at hap
     have hobj:=HS.R
     by_cases d1:last≤2
     ·by_cases d2:last=0
      ·have hf:Cv 2 last=none:=by simp [Cv,d2]
       have d1n:¬((2:Int) < last):=by omega
       have d2t:=eq_true d2
       have e:Ax hp b top (Br S w ws last)= .inr (Fp 12, [(DB (AA r S.R) top,none),(top,AE AL (S.R ++ [el])),(b,some (.cells true 0 [.int .i64 S.W, .int .i64 S.A, .int .i64 S.T, .int .i64 S.L,AA top (S.R ++ [el]),AA k S.K,AA u S.U,ov]))],top+1):=by
        rw [hset _ hf];simp only [Ax,F3,Fs,Bw,c4,c5,c6,c7]
       rw [e]
       by_cases hz:S.R= []
       ·have hm1:AA r S.R= .slice none 0 0:=by rw [hz];rfl
        rw [hm1] at hb ⊢
        have hap0:∀ {h':Hp} {q t:Nat},h' q=some (.cells true 3 (AL.enc ⟨at' xs 0,at' xs 1,false⟩))→AR tt.get h' t [22,22] (.slice none 0 0) (.slice (some ⟨q,0,none⟩) 1 1)=some (AA t (S.R ++ [el]), [(t,AE AL (S.R ++ [el]))],t+1):=fun {h'} {q} {t} a2=>by
         rw [hel] at a2
         have e3:cellsOf (h' q)=AL.enc el:=by rw [a2];rfl
         have:=FX (hp:=h') (top:=t) (k:=q) (by rw [e3];exact a2) (by rw [e3,AL.h])
         rw [e3,AL.h] at this
         rw [hz];exact this
        simp only [Ea] at hap0
        simp only [DB]
        refine CW.vc BK [0,1,2,6,7,8,9,10,11,12,13,14,15,16,23,24,55,66,88,111,134,140] (by kernel_rfl) ?_
        (repeat ((try refine Vc.mk' ?_);simp (maxSteps:=6000000) only [go_sem,BP,Ao,A3,hs4,hmx,AG t2,sl1,ix0,ld0,Ah,BQ,Ab,decide_true,decide_false,n_world,p_router,sL',i3,Bd,A4,nP,nR,nW,hv,AO ht5,AP ht5,hnu,hb,AG hbt,ix_0,ld_0,ix_1,ld_1,hap0,AG hr,hobj,HS.o1,HS.o2,nbr,d1n,d2t,BT]))
        (refine ⟨[top+3],by simp,by simp,by simp, ?_, ?_, ?_⟩ <;> simp [Bx hbt,AB hbt,AB hr,Al,Aa,Sc.Av (fun j hj=>AB hj) hsR,Sc.Av (fun j hj=>AB hj) hsK,Sc.Av (fun j hj=>AB hj) hsU,Sc.Av (fun j hj=>AB hj) hsV])
       ·rw [C3 hz]
        refine CW.vc BK [0,1,2,6,7,8,9,10,11,12,13,14,15,16,23,24,55,66,88,111,134,140] (by kernel_rfl) ?_
        (repeat ((try refine Vc.mk' ?_);simp (maxSteps:=6000000) only [go_sem,BP,Ao,A3,hs4,hmx,AG t2,sl1,ix0,ld0,Ah,BQ,Ab,decide_true,decide_false,n_world,p_router,sL',i3,Bd,A4,nP,nR,nW,hv,AO ht5,AP ht5,hnu,hb,AG hbt,ix_0,ld_0,ix_1,ld_1,hap,AG hr,hobj,HS.o1,HS.o2,nbr,d1n,d2t,BT]))
        (refine ⟨[top+3],by simp,by simp,by simp, ?_, ?_, ?_⟩ <;> simp [Bx hbt,AB hbt,AB hr,Al,Aa,Sc.Av (fun j hj=>AB hj) hsR,Sc.Av (fun j hj=>AB hj) hsK,Sc.Av (fun j hj=>AB hj) hsU,Sc.Av (fun j hj=>AB hj) hsV])
      ·have hf:Cv 2 last=some 2:=by simp [Cv,d1,d2]
       have d1n:¬((2:Int) < last):=by omega
       have e:Ax hp b top (Br S w ws last)= .inl (.int .i64 2, [(DB (AA r S.R) top,none),(top,AE AL (S.R ++ [el])),(b,some (.cells true 0 [.int .i64 S.W, .int .i64 S.A, .int .i64 S.T, .int .i64 S.L,AA top (S.R ++ [el]),AA k S.K,AA u S.U,ov]))],top+1):=by
        rw [hset _ hf];simp only [Ax,F3,Fs,Bw,c4,c5,c6,c7]
       rw [e]
       by_cases hz:S.R= []
       ·have hm1:AA r S.R= .slice none 0 0:=by rw [hz];rfl
        rw [hm1] at hb ⊢
        have hap0:∀ {h':Hp} {q t:Nat},h' q=some (.cells true 3 (AL.enc ⟨at' xs 0,at' xs 1,false⟩))→AR tt.get h' t [22,22] (.slice none 0 0) (.slice (some ⟨q,0,none⟩) 1 1)=some (AA t (S.R ++ [el]), [(t,AE AL (S.R ++ [el]))],t+1):=fun {h'} {q} {t} a2=>by
         rw [hel] at a2
         have e3:cellsOf (h' q)=AL.enc el:=by rw [a2];rfl
         have:=FX (hp:=h') (top:=t) (k:=q) (by rw [e3];exact a2) (by rw [e3,AL.h])
         rw [e3,AL.h] at this
         rw [hz];exact this
        simp only [Ea] at hap0
        simp only [DB]
        refine CW.vc BK [0,1,2,6,7,8,9,10,11,12,13,14,15,16,23,24,55,66,88,111,134,140] (by kernel_rfl) ?_
        (repeat ((try refine Vc.mk' ?_);simp (maxSteps:=6000000) only [go_sem,BP,Ao,A3,hs4,hmx,AG t2,sl1,ix0,ld0,Ah,BQ,Ab,decide_true,decide_false,n_world,p_router,sL',i3,Bd,A4,nP,nR,nW,hv,AO ht5,AP ht5,hnu,hb,AG hbt,ix_0,ld_0,ix_1,ld_1,hap0,AG hr,hobj,HS.o1,HS.o2,nbr,d1n,d2,Bi]))
        (refine ⟨[top+3],by simp,by simp,by simp, ?_, ?_, ?_⟩ <;> simp [Bx hbt,AB hbt,AB hr,Al,Aa,Sc.Av (fun j hj=>AB hj) hsR,Sc.Av (fun j hj=>AB hj) hsK,Sc.Av (fun j hj=>AB hj) hsU,Sc.Av (fun j hj=>AB hj) hsV])
       ·rw [C3 hz]
        refine CW.vc BK [0,1,2,6,7,8,9,10,11,12,13,14,15,16,23,24,55,66,88,111,134,140] (by kernel_rfl) ?_
        (repeat ((try refine Vc.mk' ?_);simp (maxSteps:=6000000) only [go_sem,BP,Ao,A3,hs4,hmx,AG t2,sl1,ix0,ld0,Ah,BQ,Ab,decide_true,decide_false,n_world,p_router,sL',i3,Bd,A4,nP,nR,nW,hv,AO ht5,AP ht5,hnu,hb,AG hbt,ix_0,ld_0,ix_1,ld_1,hap,AG hr,hobj,HS.o1,HS.o2,nbr,d1n,d2,Bi]))
        (refine ⟨[top+3],by simp,by simp,by simp, ?_, ?_, ?_⟩ <;> simp [Bx hbt,AB hbt,AB hr,Al,Aa,Sc.Av (fun j hj=>AB hj) hsR,Sc.Av (fun j hj=>AB hj) hsK,Sc.Av (fun j hj=>AB hj) hsU,Sc.Av (fun j hj=>AB hj) hsV])
     ·have hf:Cv 2 last=none:=by simp [Cv,d1]
      have d1n:((2:Int) < last)=True:=eq_true (by omega)
      have e:Ax hp b top (Br S w ws last)= .inr (Fp 12, [(DB (AA r S.R) top,none),(top,AE AL (S.R ++ [el])),(b,some (.cells true 0 [.int .i64 S.W, .int .i64 S.A, .int .i64 S.T, .int .i64 S.L,AA top (S.R ++ [el]),AA k S.K,AA u S.U,ov]))],top+1):=by
       rw [hset _ hf];simp only [Ax,F3,Fs,Bw,c4,c5,c6,c7]
      rw [e]
      by_cases hz:S.R= []
      ·have hm1:AA r S.R= .slice none 0 0:=by rw [hz];rfl
       rw [hm1] at hb ⊢
       have hap0:∀ {h':Hp} {q t:Nat},h' q=some (.cells true 3 (AL.enc ⟨at' xs 0,at' xs 1,false⟩))→AR tt.get h' t [22,22] (.slice none 0 0) (.slice (some ⟨q,0,none⟩) 1 1)=some (AA t (S.R ++ [el]), [(t,AE AL (S.R ++ [el]))],t+1):=fun {h'} {q} {t} a2=>by
        rw [hel] at a2
        have e3:cellsOf (h' q)=AL.enc el:=by rw [a2];rfl
        have:=FX (hp:=h') (top:=t) (k:=q) (by rw [e3];exact a2) (by rw [e3,AL.h])
        rw [e3,AL.h] at this
        rw [hz];exact this
       simp only [Ea] at hap0
       simp only [DB]
       refine CW.vc BK [0,1,2,6,7,8,9,10,11,12,13,14,15,16,23,24,55,66,88,111,134,140] (by kernel_rfl) ?_
       (repeat ((try refine Vc.mk' ?_);simp (maxSteps:=6000000) only [go_sem,BP,Ao,A3,hs4,hmx,AG t2,sl1,ix0,ld0,Ah,BQ,Ab,decide_true,decide_false,n_world,p_router,sL',i3,Bd,A4,nP,nR,nW,hv,AO ht5,AP ht5,hnu,hb,AG hbt,ix_0,ld_0,ix_1,ld_1,hap0,AG hr,hobj,HS.o1,HS.o2,nbr,d1n,BT]))
       (refine ⟨[top+3],by simp,by simp,by simp, ?_, ?_, ?_⟩ <;> simp [Bx hbt,AB hbt,AB hr,Al,Aa,Sc.Av (fun j hj=>AB hj) hsR,Sc.Av (fun j hj=>AB hj) hsK,Sc.Av (fun j hj=>AB hj) hsU,Sc.Av (fun j hj=>AB hj) hsV])
      ·rw [C3 hz]
       refine CW.vc BK [0,1,2,6,7,8,9,10,11,12,13,14,15,16,23,24,55,66,88,111,134,140] (by kernel_rfl) ?_
       (repeat ((try refine Vc.mk' ?_);simp (maxSteps:=6000000) only [go_sem,BP,Ao,A3,hs4,hmx,AG t2,sl1,ix0,ld0,Ah,BQ,Ab,decide_true,decide_false,n_world,p_router,sL',i3,Bd,A4,nP,nR,nW,hv,AO ht5,AP ht5,hnu,hb,AG hbt,ix_0,ld_0,ix_1,ld_1,hap,AG hr,hobj,HS.o1,HS.o2,nbr,d1n,BT]))
       (refine ⟨[top+3],by simp,by simp,by simp, ?_, ?_, ?_⟩ <;> simp [Bx hbt,AB hbt,AB hr,Al,Aa,Sc.Av (fun j hj=>AB hj) hsR,Sc.Av (fun j hj=>AB hj) hsK,Sc.Av (fun j hj=>AB hj) hsU,Sc.Av (fun j hj=>AB hj) hsV])
 have n_router:=e_router
 by_cases e_link:w= [108,105,110,107]
 ·have p_link:=eq_true e_link
  cases hn:Ex (ws) 3 with
  |none=>
   have e:Ax hp b top (Br S w ws last)= .inr (Fp 12, [],top):=by unfold Br;rw [if_neg n_world];rw [if_neg n_router];rw [if_pos e_link];rw [hn];rfl
   rw [e]
   have hnu:∀t,Fz (ws) 3 t= .inr (Fp 12, [],t):=fun t=>HY hn
   refine CW.vc BK [0,1,2,6,7,8,9,10,11,12,13,14,15,16,23,24,55,66,88,111,134,140] (by kernel_rfl) ?_
   (repeat ((try refine Vc.mk' ?_);simp (maxSteps:=6000000) only [go_sem,BP,Ao,A3,hs4,hmx,AG t2,sl1,ix0,ld0,Ah,BQ,Ab,decide_true,decide_false,n_world,n_router,p_link,Bd,A4,nP,nR,nW,hv,AO ht5,AP ht5,hnu]))
   (refine ⟨[],by simp,by simp,by simp, ?_, ?_, ?_⟩ <;> simp [])
  |some xs=>
   have hxl:xs.length=3:=by have:=GL hn;omega
   have hnu:∀t,Fz (ws) 3 t= .inl (AA t xs, [(t,AE Ad xs)],t+1):=fun t=>IB hn
   have ix_0:∀ {t:Nat},Ak tt.get 68 (AA t xs) (.int .i64 0)=(Ag (AA t xs) 0,True):=fun {t}=>ixN (i:=0) (by omega) (by omega)
   have ld_0:∀ {h':Hp} {t:Nat},h' t=AE Ad xs→BA tt.get h' 3 (Ag (AA t xs) 0)=(.int .i64 (at' xs 0),True):=fun {h'} {t} e=>ldN (i:=0) (by omega) (by omega) e
   have ix_1:∀ {t:Nat},Ak tt.get 68 (AA t xs) (.int .i64 1)=(Ag (AA t xs) 1,True):=fun {t}=>ixN (i:=1) (by omega) (by omega)
   have ld_1:∀ {h':Hp} {t:Nat},h' t=AE Ad xs→BA tt.get h' 3 (Ag (AA t xs) 1)=(.int .i64 (at' xs 1),True):=fun {h'} {t} e=>ldN (i:=1) (by omega) (by omega) e
   have ix_2:∀ {t:Nat},Ak tt.get 68 (AA t xs) (.int .i64 2)=(Ag (AA t xs) 2,True):=fun {t}=>ixN (i:=2) (by omega) (by omega)
   have ld_2:∀ {h':Hp} {t:Nat},h' t=AE Ad xs→BA tt.get h' 3 (Ag (AA t xs) 2)=(.int .i64 (at' xs 2),True):=fun {h'} {t} e=>ldN (i:=2) (by omega) (by omega) e
   have hset:∀o,Cv 3 last=o→Br S w ws last=⟨3, {S with K:=S.K ++ [⟨at' xs 0,at' xs 1,at' xs 2⟩]},o⟩:=fun o ho=>by unfold Br;rw [if_neg n_world];rw [if_neg n_router];rw [if_pos e_link];rw [hn];simp only [Uh.mk.injEq,true_and,and_true];rw [ho]
   generalize hel:(⟨at' xs 0,at' xs 1,at' xs 2⟩:Ap)=el at hset
   have hen:Af.enc el=Af.enc ⟨at' xs 0,at' xs 1,at' xs 2⟩:=by rw [hel]
   simp only [Nw] at hen
   have hap:∀ {h':Hp} {q t:Nat},h' k=AE Af S.K→h' q=some (.cells true 3 (Af.enc ⟨at' xs 0,at' xs 1,at' xs 2⟩))→AR tt.get h' t [23,23] (AA k S.K) (.slice (some ⟨q,0,none⟩) 1 1)=some (AA t (S.K ++ [el]),Ck k S.K t (AE Af (S.K ++ [el])),t+1):=fun {h'} {q} {t} a1 a2=>by
    rw [hel] at a2
    have e3:cellsOf (h' q)=Af.enc el:=by rw [a2];rfl
    have:=Y9 (hp:=h') (b:=k) (top:=t) (k:=q) a1 (by rw [e3];exact a2) (by rw [e3,Af.h]) (Dc (by have:=HS.kl;omega) (by decide))
    rwa [e3,Af.h] at this
   simp only [Nw] at hap
   have hobj:=HS.K
   by_cases d1:last≤3
   ·by_cases d2:last=0
    ·have hf:Cv 3 last=none:=by simp [Cv,d2]
     have d1n:¬((3:Int) < last):=by omega
     have d2t:=eq_true d2
     have e:Ax hp b top (Br S w ws last)= .inr (Fp 12, [(DB (AA k S.K) top,none),(top,AE Af (S.K ++ [el])),(b,some (.cells true 0 [.int .i64 S.W, .int .i64 S.A, .int .i64 S.T, .int .i64 S.L,AA r S.R,AA top (S.K ++ [el]),AA u S.U,ov]))],top+1):=by
      rw [hset _ hf];simp only [Ax,F3,Fs,Bw,c4,c5,c6,c7]
     rw [e]
     by_cases hz:S.K= []
     ·have hm1:AA k S.K= .slice none 0 0:=by rw [hz];rfl
      rw [hm1] at hb ⊢
      have hap0:∀ {h':Hp} {q t:Nat},h' q=some (.cells true 3 (Af.enc ⟨at' xs 0,at' xs 1,at' xs 2⟩))→AR tt.get h' t [23,23] (.slice none 0 0) (.slice (some ⟨q,0,none⟩) 1 1)=some (AA t (S.K ++ [el]), [(t,AE Af (S.K ++ [el]))],t+1):=fun {h'} {q} {t} a2=>by
       rw [hel] at a2
       have e3:cellsOf (h' q)=Af.enc el:=by rw [a2];rfl
       have:=Ol (hp:=h') (top:=t) (k:=q) (by rw [e3];exact a2) (by rw [e3,Af.h])
       rw [e3,Af.h] at this
       rw [hz];exact this
      simp only [Nw] at hap0
      simp only [DB]
      refine CW.vc BK [0,1,2,6,7,8,9,10,11,12,13,14,15,16,23,24,55,66,88,111,134,140] (by kernel_rfl) ?_
      (repeat ((try refine Vc.mk' ?_);simp (maxSteps:=6000000) only [go_sem,BP,Ao,A3,hs4,hmx,AG t2,sl1,ix0,ld0,Ah,BQ,Ab,decide_true,decide_false,n_world,n_router,p_link,Bd,A4,nP,nR,nW,hv,AO ht5,AP ht5,hnu,hb,AG hbt,ix_0,ld_0,ix_1,ld_1,ix_2,ld_2,hap0,AG hk,hobj,HS.o1,HS.o2,nbk,d1n,d2t,BT]))
      (refine ⟨[top+3],by simp,by simp,by simp, ?_, ?_, ?_⟩ <;> simp [Bx hbt,AB hbt,AB hk,Al,Aa,Sc.Av (fun j hj=>AB hj) hsR,Sc.Av (fun j hj=>AB hj) hsK,Sc.Av (fun j hj=>AB hj) hsU,Sc.Av (fun j hj=>AB hj) hsV])
     ·rw [C3 hz]
      refine CW.vc BK [0,1,2,6,7,8,9,10,11,12,13,14,15,16,23,24,55,66,88,111,134,140] (by kernel_rfl) ?_
      (repeat ((try refine Vc.mk' ?_);simp (maxSteps:=6000000) only [go_sem,BP,Ao,A3,hs4,hmx,AG t2,sl1,ix0,ld0,Ah,BQ,Ab,decide_true,decide_false,n_world,n_router,p_link,Bd,A4,nP,nR,nW,hv,AO ht5,AP ht5,hnu,hb,AG hbt,ix_0,ld_0,ix_1,ld_1,ix_2,ld_2,hap,AG hk,hobj,HS.o1,HS.o2,nbk,d1n,d2t,BT]))
      (refine ⟨[top+3],by simp,by simp,by simp, ?_, ?_, ?_⟩ <;> simp [Bx hbt,AB hbt,AB hk,Al,Aa,Sc.Av (fun j hj=>AB hj) hsR,Sc.Av (fun j hj=>AB hj) hsK,Sc.Av (fun j hj=>AB hj) hsU,Sc.Av (fun j hj=>AB hj) hsV])
    ·have hf:Cv 3 last=some 3:=by simp [Cv,d1,d2]
     have d1n:¬((3:Int) < last):=by omega
     have e:Ax hp b top (Br S w ws last)= .inl (.int .i64 3, [(DB (AA k S.K) top,none),(top,AE Af (S.K ++ [el])),(b,some (.cells true 0 [.int .i64 S.W, .int .i64 S.A, .int .i64 S.T, .int .i64 S.L,AA r S.R,AA top (S.K ++ [el]),AA u S.U,ov]))],top+1):=by
      rw [hset _ hf];simp only [Ax,F3,Fs,Bw,c4,c5,c6,c7]
     rw [e]
     by_cases hz:S.K= []
     ·have hm1:AA k S.K= .slice none 0 0:=by rw [hz];rfl
      rw [hm1] at hb ⊢
      have hap0:∀ {h':Hp} {q t:Nat},h' q=some (.cells true 3 (Af.enc ⟨at' xs 0,at' xs 1,at' xs 2⟩))→AR tt.get h' t [23,23] (.slice none 0 0) (.slice (some ⟨q,0,none⟩) 1 1)=some (AA t (S.K ++ [el]), [(t,AE Af (S.K ++ [el]))],t+1):=fun {h'} {q} {t} a2=>by
       rw [hel] at a2
       have e3:cellsOf (h' q)=Af.enc el:=by rw [a2];rfl
       have:=Ol (hp:=h') (top:=t) (k:=q) (by rw [e3];exact a2) (by rw [e3,Af.h])
       rw [e3,Af.h] at this
       rw [hz];exact this
      simp only [Nw] at hap0
      simp only [DB]
      refine CW.vc BK [0,1,2,6,7,8,9,10,11,12,13,14,15,16,23,24,55,66,88,111,134,140] (by kernel_rfl) ?_
      (repeat ((try refine Vc.mk' ?_);simp (maxSteps:=6000000) only [go_sem,BP,Ao,A3,hs4,hmx,AG t2,sl1,ix0,ld0,Ah,BQ,Ab,decide_true,decide_false,n_world,n_router,p_link,Bd,A4,nP,nR,nW,hv,AO ht5,AP ht5,hnu,hb,AG hbt,ix_0,ld_0,ix_1,ld_1,ix_2,ld_2,hap0,AG hk,hobj,HS.o1,HS.o2,nbk,d1n,d2,Bi]))
      (refine ⟨[top+3],by simp,by simp,by simp, ?_, ?_, ?_⟩ <;> simp [Bx hbt,AB hbt,AB hk,Al,Aa,Sc.Av (fun j hj=>AB hj) hsR,Sc.Av (fun j hj=>AB hj) hsK,Sc.Av (fun j hj=>AB hj) hsU,Sc.Av (fun j hj=>AB hj) hsV])
     ·rw [C3 hz]
      refine CW.vc BK [0,1,2,6,7,8,9,10,11,12,13,14,15,16,23,24,55,66,88,111,134,140] (by kernel_rfl) ?_
      (repeat ((try refine Vc.mk' ?_);simp (maxSteps:=6000000) only [go_sem,BP,Ao,A3,hs4,hmx,AG t2,sl1,ix0,ld0,Ah,BQ,Ab,decide_true,decide_false,n_world,n_router,p_link,Bd,A4,nP,nR,nW,hv,AO ht5,AP ht5,hnu,hb,AG hbt,ix_0,ld_0,ix_1,ld_1,ix_2,ld_2,hap,AG hk,hobj,HS.o1,HS.o2,nbk,d1n,d2,Bi]))
      (refine ⟨[top+3],by simp,by simp,by simp, ?_, ?_, ?_⟩ <;> simp [Bx hbt,AB hbt,AB hk,Al,Aa,Sc.Av (fun j hj=>AB hj) hsR,Sc.Av (fun j hj=>AB hj) hsK,Sc.Av (fun j hj=>AB hj) hsU,Sc.Av (fun j hj=>AB hj) hsV])
   ·have hf:Cv 3 last=none:=by simp [Cv,d1]
    have d1n:((3:Int) < last)=True:=eq_true (by omega)
    have e:Ax hp b top (Br S w ws last)= .inr (Fp 12, [(DB (AA k S.K) top,none),(top,AE Af (S.K ++ [el])),(b,some (.cells true 0 [.int .i64 S.W, .int .i64 S.A, .int .i64 S.T, .int .i64 S.L,AA r S.R,AA top (S.K ++ [el]),AA u S.U,ov]))],top+1):=by
     rw [hset _ hf];simp only [Ax,F3,Fs,Bw,c4,c5,c6,c7]
    rw [e]
    by_cases hz:S.K= []
    ·have hm1:AA k S.K= .slice none 0 0:=by rw [hz];rfl
     rw [hm1] at hb ⊢
     have hap0:∀ {h':Hp} {q t:Nat},h' q=some (.cells true 3 (Af.enc ⟨at' xs 0,at' xs 1,at' xs 2⟩))→AR tt.get h' t [23,23] (.slice none 0 0) (.slice (some ⟨q,0,none⟩) 1 1)=some (AA t (S.K ++ [el]), [(t,AE Af (S.K ++ [el]))],t+1):=fun {h'} {q} {t} a2=>by
      rw [hel] at a2
      have e3:cellsOf (h' q)=Af.enc el:=by rw [a2];rfl
      have:=Ol (hp:=h') (top:=t) (k:=q) (by rw [e3];exact a2) (by rw [e3,Af.h])
      rw [e3,Af.h] at this
      rw [hz];exact this
     simp only [Nw] at hap0
     simp only [DB]
     refine CW.vc BK [0,1,2,6,7,8,9,10,11,12,13,14,15,16,23,24,55,66,88,111,134,140] (by kernel_rfl) ?_
     (repeat ((try refine Vc.mk' ?_);simp (maxSteps:=6000000) only [go_sem,BP,Ao,A3,hs4,hmx,AG t2,sl1,ix0,ld0,Ah,BQ,Ab,decide_true,decide_false,n_world,n_router,p_link,Bd,A4,nP,nR,nW,hv,AO ht5,AP ht5,hnu,hb,AG hbt,ix_0,ld_0,ix_1,ld_1,ix_2,ld_2,hap0,AG hk,hobj,HS.o1,HS.o2,nbk,d1n,BT]))
     (refine ⟨[top+3],by simp,by simp,by simp, ?_, ?_, ?_⟩ <;> simp [Bx hbt,AB hbt,AB hk,Al,Aa,Sc.Av (fun j hj=>AB hj) hsR,Sc.Av (fun j hj=>AB hj) hsK,Sc.Av (fun j hj=>AB hj) hsU,Sc.Av (fun j hj=>AB hj) hsV])
    ·rw [C3 hz]
     refine CW.vc BK [0,1,2,6,7,8,9,10,11,12,13,14,15,16,23,24,55,66,88,111,134,140] (by kernel_rfl) ?_
     (repeat ((try refine Vc.mk' ?_);simp (maxSteps:=6000000) only [go_sem,BP,Ao,A3,hs4,hmx,AG t2,sl1,ix0,ld0,Ah,BQ,Ab,decide_true,decide_false,n_world,n_router,p_link,Bd,A4,nP,nR,nW,hv,AO ht5,AP ht5,hnu,hb,AG hbt,ix_0,ld_0,ix_1,ld_1,ix_2,ld_2,hap,AG hk,hobj,HS.o1,HS.o2,nbk,d1n,BT]))
     (refine ⟨[top+3],by simp,by simp,by simp, ?_, ?_, ?_⟩ <;> simp [Bx hbt,AB hbt,AB hk,Al,Aa,Sc.Av (fun j hj=>AB hj) hsR,Sc.Av (fun j hj=>AB hj) hsK,Sc.Av (fun j hj=>AB hj) hsU,Sc.Av (fun j hj=>AB hj) hsV])
 have n_link:=e_link
 by_cases e_drop:w= [100,114,111,112]
 ·have p_drop:=eq_true e_drop
  cases hn:Ex (ws) 3 with
  |none=>
   have e:Ax hp b top (Br S w ws last)= .inr (Fp 12, [],top):=by unfold Br;rw [if_neg n_world];rw [if_neg n_router];rw [if_neg n_link];rw [if_pos e_drop];rw [hn];rfl
   rw [e]
   have hnu:∀t,Fz (ws) 3 t= .inr (Fp 12, [],t):=fun t=>HY hn
   refine CW.vc BK [0,1,2,6,7,8,9,10,11,12,13,14,15,16,23,24,55,66,88,111,134,140] (by kernel_rfl) ?_
   (repeat ((try refine Vc.mk' ?_);simp (maxSteps:=6000000) only [go_sem,BP,Ao,A3,hs4,hmx,AG t2,sl1,ix0,ld0,Ah,BQ,Ab,decide_true,decide_false,n_world,n_router,n_link,p_drop,Bd,A4,nP,nR,nW,hv,AO ht5,AP ht5,hnu]))
   (refine ⟨[],by simp,by simp,by simp, ?_, ?_, ?_⟩ <;> simp [])
  |some xs=>
   have hxl:xs.length=3:=by have:=GL hn;omega
   have hnu:∀t,Fz (ws) 3 t= .inl (AA t xs, [(t,AE Ad xs)],t+1):=fun t=>IB hn
   have ix_0:∀ {t:Nat},Ak tt.get 68 (AA t xs) (.int .i64 0)=(Ag (AA t xs) 0,True):=fun {t}=>ixN (i:=0) (by omega) (by omega)
   have ld_0:∀ {h':Hp} {t:Nat},h' t=AE Ad xs→BA tt.get h' 3 (Ag (AA t xs) 0)=(.int .i64 (at' xs 0),True):=fun {h'} {t} e=>ldN (i:=0) (by omega) (by omega) e
   have ix_1:∀ {t:Nat},Ak tt.get 68 (AA t xs) (.int .i64 1)=(Ag (AA t xs) 1,True):=fun {t}=>ixN (i:=1) (by omega) (by omega)
   have ld_1:∀ {h':Hp} {t:Nat},h' t=AE Ad xs→BA tt.get h' 3 (Ag (AA t xs) 1)=(.int .i64 (at' xs 1),True):=fun {h'} {t} e=>ldN (i:=1) (by omega) (by omega) e
   have ix_2:∀ {t:Nat},Ak tt.get 68 (AA t xs) (.int .i64 2)=(Ag (AA t xs) 2,True):=fun {t}=>ixN (i:=2) (by omega) (by omega)
   have ld_2:∀ {h':Hp} {t:Nat},h' t=AE Ad xs→BA tt.get h' 3 (Ag (AA t xs) 2)=(.int .i64 (at' xs 2),True):=fun {h'} {t} e=>ldN (i:=2) (by omega) (by omega) e
   have hset:∀o,Cv 4 last=o→Br S w ws last=⟨4, {S with U:=S.U ++ [⟨at' xs 0,at' xs 1,at' xs 2,1,0⟩]},o⟩:=fun o ho=>by unfold Br;rw [if_neg n_world];rw [if_neg n_router];rw [if_neg n_link];rw [if_pos e_drop];rw [hn];simp only [Uh.mk.injEq,true_and,and_true];rw [ho]
   generalize hel:(⟨at' xs 0,at' xs 1,at' xs 2,1,0⟩:BX)=el at hset
   have hen:AJ.enc el=AJ.enc ⟨at' xs 0,at' xs 1,at' xs 2,1,0⟩:=by rw [hel]
   simp only [EU] at hen
   have hap:∀ {h':Hp} {q t:Nat},h' u=AE AJ S.U→h' q=some (.cells true 5 (AJ.enc ⟨at' xs 0,at' xs 1,at' xs 2,1,0⟩))→AR tt.get h' t [24,24] (AA u S.U) (.slice (some ⟨q,0,none⟩) 1 1)=some (AA t (S.U ++ [el]),Ck u S.U t (AE AJ (S.U ++ [el])),t+1):=fun {h'} {q} {t} a1 a2=>by
    rw [hel] at a2
    have e3:cellsOf (h' q)=AJ.enc el:=by rw [a2];rfl
    have:=NN (hp:=h') (b:=u) (top:=t) (k:=q) a1 (by rw [e3];exact a2) (by rw [e3,AJ.h]) (Dc (by have:=HS.ul;omega) (by decide))
    rwa [e3,AJ.h] at this
   simp only [EU] at hap
   have hobj:=HS.U
   by_cases d1:last≤4
   ·by_cases d2:last=0
    ·have hf:Cv 4 last=none:=by simp [Cv,d2]
     have d1n:¬((4:Int) < last):=by omega
     have d2t:=eq_true d2
     have e:Ax hp b top (Br S w ws last)= .inr (Fp 12, [(DB (AA u S.U) top,none),(top,AE AJ (S.U ++ [el])),(b,some (.cells true 0 [.int .i64 S.W, .int .i64 S.A, .int .i64 S.T, .int .i64 S.L,AA r S.R,AA k S.K,AA top (S.U ++ [el]),ov]))],top+1):=by
      rw [hset _ hf];simp only [Ax,F3,Fs,Bw,c4,c5,c6,c7]
     rw [e]
     by_cases hz:S.U= []
     ·have hm1:AA u S.U= .slice none 0 0:=by rw [hz];rfl
      rw [hm1] at hb ⊢
      have hap0:∀ {h':Hp} {q t:Nat},h' q=some (.cells true 5 (AJ.enc ⟨at' xs 0,at' xs 1,at' xs 2,1,0⟩))→AR tt.get h' t [24,24] (.slice none 0 0) (.slice (some ⟨q,0,none⟩) 1 1)=some (AA t (S.U ++ [el]), [(t,AE AJ (S.U ++ [el]))],t+1):=fun {h'} {q} {t} a2=>by
       rw [hel] at a2
       have e3:cellsOf (h' q)=AJ.enc el:=by rw [a2];rfl
       have:=Fc (hp:=h') (top:=t) (k:=q) (by rw [e3];exact a2) (by rw [e3,AJ.h])
       rw [e3,AJ.h] at this
       rw [hz];exact this
      simp only [EU] at hap0
      simp only [DB]
      refine CW.vc BK [0,1,2,6,7,8,9,10,11,12,13,14,15,16,23,24,55,66,88,111,134,140] (by kernel_rfl) ?_
      (repeat ((try refine Vc.mk' ?_);simp (maxSteps:=6000000) only [go_sem,BP,Ao,A3,hs4,hmx,AG t2,sl1,ix0,ld0,Ah,BQ,Ab,decide_true,decide_false,n_world,n_router,n_link,p_drop,Bd,A4,nP,nR,nW,hv,AO ht5,AP ht5,hnu,hb,AG hbt,ix_0,ld_0,ix_1,ld_1,ix_2,ld_2,hap0,AG hu,hobj,HS.o1,HS.o2,nbu,d1n,d2t,BT]))
      (refine ⟨[top+3],by simp,by simp,by simp, ?_, ?_, ?_⟩ <;> simp [Bx hbt,AB hbt,AB hu,Al,Aa,Sc.Av (fun j hj=>AB hj) hsR,Sc.Av (fun j hj=>AB hj) hsK,Sc.Av (fun j hj=>AB hj) hsU,Sc.Av (fun j hj=>AB hj) hsV])
     ·rw [C3 hz]
      refine CW.vc BK [0,1,2,6,7,8,9,10,11,12,13,14,15,16,23,24,55,66,88,111,134,140] (by kernel_rfl) ?_
      (repeat ((try refine Vc.mk' ?_);simp (maxSteps:=6000000) only [go_sem,BP,Ao,A3,hs4,hmx,AG t2,sl1,ix0,ld0,Ah,BQ,Ab,decide_true,decide_false,n_world,n_router,n_link,p_drop,Bd,A4,nP,nR,nW,hv,AO ht5,AP ht5,hnu,hb,AG hbt,ix_0,ld_0,ix_1,ld_1,ix_2,ld_2,hap,AG hu,hobj,HS.o1,HS.o2,nbu,d1n,d2t,BT]))
      (refine ⟨[top+3],by simp,by simp,by simp, ?_, ?_, ?_⟩ <;> simp [Bx hbt,AB hbt,AB hu,Al,Aa,Sc.Av (fun j hj=>AB hj) hsR,Sc.Av (fun j hj=>AB hj) hsK,Sc.Av (fun j hj=>AB hj) hsU,Sc.Av (fun j hj=>AB hj) hsV])
    ·have hf:Cv 4 last=some 4:=by simp [Cv,d1,d2]
     have d1n:¬((4:Int) < last):=by omega
     have e:Ax hp b top (Br S w ws last)= .inl (.int .i64 4, [(DB (AA u S.U) top,none),(top,AE AJ (S.U ++ [el])),(b,some (.cells true 0 [.int .i64 S.W, .int .i64 S.A, .int .i64 S.T, .int .i64 S.L,AA r S.R,AA k S.K,AA top (S.U ++ [el]),ov]))],top+1):=by
      rw [hset _ hf];simp only [Ax,F3,Fs,Bw,c4,c5,c6,c7]
     rw [e]
     by_cases hz:S.U= []
     ·have hm1:AA u S.U= .slice none 0 0:=by rw [hz];rfl
      rw [hm1] at hb ⊢
      have hap0:∀ {h':Hp} {q t:Nat},h' q=some (.cells true 5 (AJ.enc ⟨at' xs 0,at' xs 1,at' xs 2,1,0⟩))→AR tt.get h' t [24,24] (.slice none 0 0) (.slice (some ⟨q,0,none⟩) 1 1)=some (AA t (S.U ++ [el]), [(t,AE AJ (S.U ++ [el]))],t+1):=fun {h'} {q} {t} a2=>by
       rw [hel] at a2
       have e3:cellsOf (h' q)=AJ.enc el:=by rw [a2];rfl
       have:=Fc (hp:=h') (top:=t) (k:=q) (by rw [e3];exact a2) (by rw [e3,AJ.h])
       rw [e3,AJ.h] at this
       rw [hz];exact this
      simp only [EU] at hap0
      simp only [DB]
      refine CW.vc BK [0,1,2,6,7,8,9,10,11,12,13,14,15,16,23,24,55,66,88,111,134,140] (by kernel_rfl) ?_
      (repeat ((try refine Vc.mk' ?_);simp (maxSteps:=6000000) only [go_sem,BP,Ao,A3,hs4,hmx,AG t2,sl1,ix0,ld0,Ah,BQ,Ab,decide_true,decide_false,n_world,n_router,n_link,p_drop,Bd,A4,nP,nR,nW,hv,AO ht5,AP ht5,hnu,hb,AG hbt,ix_0,ld_0,ix_1,ld_1,ix_2,ld_2,hap0,AG hu,hobj,HS.o1,HS.o2,nbu,d1n,d2,Bi]))
      (refine ⟨[top+3],by simp,by simp,by simp, ?_, ?_, ?_⟩ <;> simp [Bx hbt,AB hbt,AB hu,Al,Aa,Sc.Av (fun j hj=>AB hj) hsR,Sc.Av (fun j hj=>AB hj) hsK,Sc.Av (fun j hj=>AB hj) hsU,Sc.Av (fun j hj=>AB hj) hsV])
     ·rw [C3 hz]
      refine CW.vc BK [0,1,2,6,7,8,9,10,11,12,13,14,15,16,23,24,55,66,88,111,134,140] (by kernel_rfl) ?_
      (repeat ((try refine Vc.mk' ?_);simp (maxSteps:=6000000) only [go_sem,BP,Ao,A3,hs4,hmx,AG t2,sl1,ix0,ld0,Ah,BQ,Ab,decide_true,decide_false,n_world,n_router,n_link,p_drop,Bd,A4,nP,nR,nW,hv,AO ht5,AP ht5,hnu,hb,AG hbt,ix_0,ld_0,ix_1,ld_1,ix_2,ld_2,hap,AG hu,hobj,HS.o1,HS.o2,nbu,d1n,d2,Bi]))
      (refine ⟨[top+3],by simp,by simp,by simp, ?_, ?_, ?_⟩ <;> simp [Bx hbt,AB hbt,AB hu,Al,Aa,Sc.Av (fun j hj=>AB hj) hsR,Sc.Av (fun j hj=>AB hj) hsK,Sc.Av (fun j hj=>AB hj) hsU,Sc.Av (fun j hj=>AB hj) hsV])
   ·have hf:Cv 4 last=none:=by simp [Cv,d1]
    have d1n:((4:Int) < last)=True:=eq_true (by omega)
    have e:Ax hp b top (Br S w ws last)= .inr (Fp 12, [(DB (AA u S.U) top,none),(top,AE AJ (S.U ++ [el])),(b,some (.cells true 0 [.int .i64 S.W, .int .i64 S.A, .int .i64 S.T, .int .i64 S.L,AA r S.R,AA k S.K,AA top (S.U ++ [el]),ov]))],top+1):=by
     rw [hset _ hf];simp only [Ax,F3,Fs,Bw,c4,c5,c6,c7]
    rw [e]
    by_cases hz:S.U= []
    ·have hm1:AA u S.U= .slice none 0 0:=by rw [hz];rfl
     rw [hm1] at hb ⊢
     have hap0:∀ {h':Hp} {q t:Nat},h' q=some (.cells true 5 (AJ.enc ⟨at' xs 0,at' xs 1,at' xs 2,1,0⟩))→AR tt.get h' t [24,24] (.slice none 0 0) (.slice (some ⟨q,0,none⟩) 1 1)=some (AA t (S.U ++ [el]), [(t,AE AJ (S.U ++ [el]))],t+1):=fun {h'} {q} {t} a2=>by
      rw [hel] at a2
      have e3:cellsOf (h' q)=AJ.enc el:=by rw [a2];rfl
      have:=Fc (hp:=h') (top:=t) (k:=q) (by rw [e3];exact a2) (by rw [e3,AJ.h])
      rw [e3,AJ.h] at this
      rw [hz];exact this
     simp only [EU] at hap0
     simp only [DB]
     refine CW.vc BK [0,1,2,6,7,8,9,10,11,12,13,14,15,16,23,24,55,66,88,111,134,140] (by kernel_rfl) ?_
     (repeat ((try refine Vc.mk' ?_);simp (maxSteps:=6000000) only [go_sem,BP,Ao,A3,hs4,hmx,AG t2,sl1,ix0,ld0,Ah,BQ,Ab,decide_true,decide_false,n_world,n_router,n_link,p_drop,Bd,A4,nP,nR,nW,hv,AO ht5,AP ht5,hnu,hb,AG hbt,ix_0,ld_0,ix_1,ld_1,ix_2,ld_2,hap0,AG hu,hobj,HS.o1,HS.o2,nbu,d1n,BT]))
     (refine ⟨[top+3],by simp,by simp,by simp, ?_, ?_, ?_⟩ <;> simp [Bx hbt,AB hbt,AB hu,Al,Aa,Sc.Av (fun j hj=>AB hj) hsR,Sc.Av (fun j hj=>AB hj) hsK,Sc.Av (fun j hj=>AB hj) hsU,Sc.Av (fun j hj=>AB hj) hsV])
    ·rw [C3 hz]
     refine CW.vc BK [0,1,2,6,7,8,9,10,11,12,13,14,15,16,23,24,55,66,88,111,134,140] (by kernel_rfl) ?_
     (repeat ((try refine Vc.mk' ?_);simp (maxSteps:=6000000) only [go_sem,BP,Ao,A3,hs4,hmx,AG t2,sl1,ix0,ld0,Ah,BQ,Ab,decide_true,decide_false,n_world,n_router,n_link,p_drop,Bd,A4,nP,nR,nW,hv,AO ht5,AP ht5,hnu,hb,AG hbt,ix_0,ld_0,ix_1,ld_1,ix_2,ld_2,hap,AG hu,hobj,HS.o1,HS.o2,nbu,d1n,BT]))
     (refine ⟨[top+3],by simp,by simp,by simp, ?_, ?_, ?_⟩ <;> simp [Bx hbt,AB hbt,AB hu,Al,Aa,Sc.Av (fun j hj=>AB hj) hsR,Sc.Av (fun j hj=>AB hj) hsK,Sc.Av (fun j hj=>AB hj) hsU,Sc.Av (fun j hj=>AB hj) hsV])
 have n_drop:=e_drop
 by_cases e_double:w= [100,111,117,98,108,101]
 ·have p_double:=eq_true e_double
  have n_del:¬w= [100,101,108,97,121]:=by rw [e_double];decide
  cases hn:Ex (ws) 4 with
  |none=>
   have e:Ax hp b top (Br S w ws last)= .inr (Fp 12, [],top):=by unfold Br;rw [if_neg n_world];rw [if_neg n_router];rw [if_neg n_link];rw [if_neg n_drop];rw [if_pos e_double];rw [hn];rfl
   rw [e]
   have hnu:∀t,Fz (ws) 4 t= .inr (Fp 12, [],t):=fun t=>HY hn
   refine CW.vc BK [0,1,2,6,7,8,9,10,11,12,13,14,15,16,23,24,55,66,88,111,134,140] (by kernel_rfl) ?_
   (repeat ((try refine Vc.mk' ?_);simp (maxSteps:=6000000) only [go_sem,BP,Ao,A3,hs4,hmx,AG t2,sl1,ix0,ld0,Ah,BQ,Ab,decide_true,decide_false,n_world,n_router,n_link,n_drop,p_double,n_del,Bd,A4,nP,nR,nW,hv,AO ht5,AP ht5,hnu]))
   (refine ⟨[],by simp,by simp,by simp, ?_, ?_, ?_⟩ <;> simp [])
  |some xs=>
   have hxl:xs.length=4:=by have:=GL hn;omega
   have hnu:∀t,Fz (ws) 4 t= .inl (AA t xs, [(t,AE Ad xs)],t+1):=fun t=>IB hn
   have ix_0:∀ {t:Nat},Ak tt.get 68 (AA t xs) (.int .i64 0)=(Ag (AA t xs) 0,True):=fun {t}=>ixN (i:=0) (by omega) (by omega)
   have ld_0:∀ {h':Hp} {t:Nat},h' t=AE Ad xs→BA tt.get h' 3 (Ag (AA t xs) 0)=(.int .i64 (at' xs 0),True):=fun {h'} {t} e=>ldN (i:=0) (by omega) (by omega) e
   have ix_1:∀ {t:Nat},Ak tt.get 68 (AA t xs) (.int .i64 1)=(Ag (AA t xs) 1,True):=fun {t}=>ixN (i:=1) (by omega) (by omega)
   have ld_1:∀ {h':Hp} {t:Nat},h' t=AE Ad xs→BA tt.get h' 3 (Ag (AA t xs) 1)=(.int .i64 (at' xs 1),True):=fun {h'} {t} e=>ldN (i:=1) (by omega) (by omega) e
   have ix_2:∀ {t:Nat},Ak tt.get 68 (AA t xs) (.int .i64 2)=(Ag (AA t xs) 2,True):=fun {t}=>ixN (i:=2) (by omega) (by omega)
   have ld_2:∀ {h':Hp} {t:Nat},h' t=AE Ad xs→BA tt.get h' 3 (Ag (AA t xs) 2)=(.int .i64 (at' xs 2),True):=fun {h'} {t} e=>ldN (i:=2) (by omega) (by omega) e
   have ix_3:∀ {t:Nat},Ak tt.get 68 (AA t xs) (.int .i64 3)=(Ag (AA t xs) 3,True):=fun {t}=>ixN (i:=3) (by omega) (by omega)
   have ld_3:∀ {h':Hp} {t:Nat},h' t=AE Ad xs→BA tt.get h' 3 (Ag (AA t xs) 3)=(.int .i64 (at' xs 3),True):=fun {h'} {t} e=>ldN (i:=3) (by omega) (by omega) e
   have hset:∀o,Cv 4 last=o→Br S w ws last=⟨4, {S with U:=S.U ++ [⟨at' xs 0,at' xs 1,at' xs 2,2,at' xs 3⟩]},o⟩:=fun o ho=>by unfold Br;rw [if_neg n_world];rw [if_neg n_router];rw [if_neg n_link];rw [if_neg n_drop];rw [if_pos e_double];rw [hn];simp only [Uh.mk.injEq,true_and,and_true];rw [ho]
   generalize hel:(⟨at' xs 0,at' xs 1,at' xs 2,2,at' xs 3⟩:BX)=el at hset
   have hen:AJ.enc el=AJ.enc ⟨at' xs 0,at' xs 1,at' xs 2,2,at' xs 3⟩:=by rw [hel]
   simp only [EU] at hen
   have hap:∀ {h':Hp} {q t:Nat},h' u=AE AJ S.U→h' q=some (.cells true 5 (AJ.enc ⟨at' xs 0,at' xs 1,at' xs 2,2,at' xs 3⟩))→AR tt.get h' t [24,24] (AA u S.U) (.slice (some ⟨q,0,none⟩) 1 1)=some (AA t (S.U ++ [el]),Ck u S.U t (AE AJ (S.U ++ [el])),t+1):=fun {h'} {q} {t} a1 a2=>by
    rw [hel] at a2
    have e3:cellsOf (h' q)=AJ.enc el:=by rw [a2];rfl
    have:=NN (hp:=h') (b:=u) (top:=t) (k:=q) a1 (by rw [e3];exact a2) (by rw [e3,AJ.h]) (Dc (by have:=HS.ul;omega) (by decide))
    rwa [e3,AJ.h] at this
   simp only [EU] at hap
   have hobj:=HS.U
   by_cases d1:last≤4
   ·by_cases d2:last=0
    ·have hf:Cv 4 last=none:=by simp [Cv,d2]
     have d1n:¬((4:Int) < last):=by omega
     have d2t:=eq_true d2
     have e:Ax hp b top (Br S w ws last)= .inr (Fp 12, [(DB (AA u S.U) top,none),(top,AE AJ (S.U ++ [el])),(b,some (.cells true 0 [.int .i64 S.W, .int .i64 S.A, .int .i64 S.T, .int .i64 S.L,AA r S.R,AA k S.K,AA top (S.U ++ [el]),ov]))],top+1):=by
      rw [hset _ hf];simp only [Ax,F3,Fs,Bw,c4,c5,c6,c7]
     rw [e]
     by_cases hz:S.U= []
     ·have hm1:AA u S.U= .slice none 0 0:=by rw [hz];rfl
      rw [hm1] at hb ⊢
      have hap0:∀ {h':Hp} {q t:Nat},h' q=some (.cells true 5 (AJ.enc ⟨at' xs 0,at' xs 1,at' xs 2,2,at' xs 3⟩))→AR tt.get h' t [24,24] (.slice none 0 0) (.slice (some ⟨q,0,none⟩) 1 1)=some (AA t (S.U ++ [el]), [(t,AE AJ (S.U ++ [el]))],t+1):=fun {h'} {q} {t} a2=>by
       rw [hel] at a2
       have e3:cellsOf (h' q)=AJ.enc el:=by rw [a2];rfl
       have:=Fc (hp:=h') (top:=t) (k:=q) (by rw [e3];exact a2) (by rw [e3,AJ.h])
       rw [e3,AJ.h] at this
       rw [hz];exact this
      simp only [EU] at hap0
      simp only [DB]
      refine CW.vc BK [0,1,2,6,7,8,9,10,11,12,13,14,15,16,23,24,55,66,88,111,134,140] (by kernel_rfl) ?_
      (repeat ((try refine Vc.mk' ?_);simp (maxSteps:=6000000) only [go_sem,BP,Ao,A3,hs4,hmx,AG t2,sl1,ix0,ld0,Ah,BQ,Ab,decide_true,decide_false,n_world,n_router,n_link,n_drop,p_double,n_del,Bd,A4,nP,nR,nW,hv,AO ht5,AP ht5,hnu,hb,AG hbt,ix_0,ld_0,ix_1,ld_1,ix_2,ld_2,ix_3,ld_3,hap0,AG hu,hobj,HS.o1,HS.o2,nbu,d1n,d2t,BT]))
      (refine ⟨[top+3],by simp,by simp,by simp, ?_, ?_, ?_⟩ <;> simp [Bx hbt,AB hbt,AB hu,Al,Aa,Sc.Av (fun j hj=>AB hj) hsR,Sc.Av (fun j hj=>AB hj) hsK,Sc.Av (fun j hj=>AB hj) hsU,Sc.Av (fun j hj=>AB hj) hsV])
     ·rw [C3 hz]
      refine CW.vc BK [0,1,2,6,7,8,9,10,11,12,13,14,15,16,23,24,55,66,88,111,134,140] (by kernel_rfl) ?_
      (repeat ((try refine Vc.mk' ?_);simp (maxSteps:=6000000) only [go_sem,BP,Ao,A3,hs4,hmx,AG t2,sl1,ix0,ld0,Ah,BQ,Ab,decide_true,decide_false,n_world,n_router,n_link,n_drop,p_double,n_del,Bd,A4,nP,nR,nW,hv,AO ht5,AP ht5,hnu,hb,AG hbt,ix_0,ld_0,ix_1,ld_1,ix_2,ld_2,ix_3,ld_3,hap,AG hu,hobj,HS.o1,HS.o2,nbu,d1n,d2t,BT]))
      (refine ⟨[top+3],by simp,by simp,by simp, ?_, ?_, ?_⟩ <;> simp [Bx hbt,AB hbt,AB hu,Al,Aa,Sc.Av (fun j hj=>AB hj) hsR,Sc.Av (fun j hj=>AB hj) hsK,Sc.Av (fun j hj=>AB hj) hsU,Sc.Av (fun j hj=>AB hj) hsV])
    ·have hf:Cv 4 last=some 4:=by simp [Cv,d1,d2]
     have d1n:¬((4:Int) < last):=by omega
     have e:Ax hp b top (Br S w ws last)= .inl (.int .i64 4, [(DB (AA u S.U) top,none),(top,AE AJ (S.U ++ [el])),(b,some (.cells true 0 [.int .i64 S.W, .int .i64 S.A, .int .i64 S.T, .int .i64 S.L,AA r S.R,AA k S.K,AA top (S.U ++ [el]),ov]))],top+1):=by
      rw [hset _ hf];simp only [Ax,F3,Fs,Bw,c4,c5,c6,c7]
     rw [e]
     by_cases hz:S.U= []
     ·have hm1:AA u S.U= .slice none 0 0:=by rw [hz];rfl
      rw [hm1] at hb ⊢
      have hap0:∀ {h':Hp} {q t:Nat},h' q=some (.cells true 5 (AJ.enc ⟨at' xs 0,at' xs 1,at' xs 2,2,at' xs 3⟩))→AR tt.get h' t [24,24] (.slice none 0 0) (.slice (some ⟨q,0,none⟩) 1 1)=some (AA t (S.U ++ [el]), [(t,AE AJ (S.U ++ [el]))],t+1):=fun {h'} {q} {t} a2=>by
       rw [hel] at a2
       have e3:cellsOf (h' q)=AJ.enc el:=by rw [a2];rfl
       have:=Fc (hp:=h') (top:=t) (k:=q) (by rw [e3];exact a2) (by rw [e3,AJ.h])
       rw [e3,AJ.h] at this
       rw [hz];exact this
      simp only [EU] at hap0
      simp only [DB]
      refine CW.vc BK [0,1,2,6,7,8,9,10,11,12,13,14,15,16,23,24,55,66,88,111,134,140] (by kernel_rfl) ?_
      (repeat ((try refine Vc.mk' ?_);simp (maxSteps:=6000000) only [go_sem,BP,Ao,A3,hs4,hmx,AG t2,sl1,ix0,ld0,Ah,BQ,Ab,decide_true,decide_false,n_world,n_router,n_link,n_drop,p_double,n_del,Bd,A4,nP,nR,nW,hv,AO ht5,AP ht5,hnu,hb,AG hbt,ix_0,ld_0,ix_1,ld_1,ix_2,ld_2,ix_3,ld_3,hap0,AG hu,hobj,HS.o1,HS.o2,nbu,d1n,d2,Bi]))
      (refine ⟨[top+3],by simp,by simp,by simp, ?_, ?_, ?_⟩ <;> simp [Bx hbt,AB hbt,AB hu,Al,Aa,Sc.Av (fun j hj=>AB hj) hsR,Sc.Av (fun j hj=>AB hj) hsK,Sc.Av (fun j hj=>AB hj) hsU,Sc.Av (fun j hj=>AB hj) hsV])
     ·rw [C3 hz]
      refine CW.vc BK [0,1,2,6,7,8,9,10,11,12,13,14,15,16,23,24,55,66,88,111,134,140] (by kernel_rfl) ?_
      (repeat ((try refine Vc.mk' ?_);simp (maxSteps:=6000000) only [go_sem,BP,Ao,A3,hs4,hmx,AG t2,sl1,ix0,ld0,Ah,BQ,Ab,decide_true,decide_false,n_world,n_router,n_link,n_drop,p_double,n_del,Bd,A4,nP,nR,nW,hv,AO ht5,AP ht5,hnu,hb,AG hbt,ix_0,ld_0,ix_1,ld_1,ix_2,ld_2,ix_3,ld_3,hap,AG hu,hobj,HS.o1,HS.o2,nbu,d1n,d2,Bi]))
      (refine ⟨[top+3],by simp,by simp,by simp, ?_, ?_, ?_⟩ <;> simp [Bx hbt,AB hbt,AB hu,Al,Aa,Sc.Av (fun j hj=>AB hj) hsR,Sc.Av (fun j hj=>AB hj) hsK,Sc.Av (fun j hj=>AB hj) hsU,Sc.Av (fun j hj=>AB hj) hsV])
   ·have hf:Cv 4 last=none:=by simp [Cv,d1]
    have d1n:((4:Int) < last)=True:=eq_true (by omega)
    have e:Ax hp b top (Br S w ws last)= .inr (Fp 12, [(DB (AA u S.U) top,none),(top,AE AJ (S.U ++ [el])),(b,some (.cells true 0 [.int .i64 S.W, .int .i64 S.A, .int .i64 S.T, .int .i64 S.L,AA r S.R,AA k S.K,AA top (S.U ++ [el]),ov]))],top+1):=by
     rw [hset _ hf];simp only [Ax,F3,Fs,Bw,c4,c5,c6,c7]
    rw [e]
    by_cases hz:S.U= []
    ·have hm1:AA u S.U= .slice none 0 0:=by rw [hz];rfl
     rw [hm1] at hb ⊢
     have hap0:∀ {h':Hp} {q t:Nat},h' q=some (.cells true 5 (AJ.enc ⟨at' xs 0,at' xs 1,at' xs 2,2,at' xs 3⟩))→AR tt.get h' t [24,24] (.slice none 0 0) (.slice (some ⟨q,0,none⟩) 1 1)=some (AA t (S.U ++ [el]), [(t,AE AJ (S.U ++ [el]))],t+1):=fun {h'} {q} {t} a2=>by
      rw [hel] at a2
      have e3:cellsOf (h' q)=AJ.enc el:=by rw [a2];rfl
      have:=Fc (hp:=h') (top:=t) (k:=q) (by rw [e3];exact a2) (by rw [e3,AJ.h])
      rw [e3,AJ.h] at this
      rw [hz];exact this
     simp only [EU] at hap0
     simp only [DB]
     refine CW.vc BK [0,1,2,6,7,8,9,10,11,12,13,14,15,16,23,24,55,66,88,111,134,140] (by kernel_rfl) ?_
     (repeat ((try refine Vc.mk' ?_);simp (maxSteps:=6000000) only [go_sem,BP,Ao,A3,hs4,hmx,AG t2,sl1,ix0,ld0,Ah,BQ,Ab,decide_true,decide_false,n_world,n_router,n_link,n_drop,p_double,n_del,Bd,A4,nP,nR,nW,hv,AO ht5,AP ht5,hnu,hb,AG hbt,ix_0,ld_0,ix_1,ld_1,ix_2,ld_2,ix_3,ld_3,hap0,AG hu,hobj,HS.o1,HS.o2,nbu,d1n,BT]))
     (refine ⟨[top+3],by simp,by simp,by simp, ?_, ?_, ?_⟩ <;> simp [Bx hbt,AB hbt,AB hu,Al,Aa,Sc.Av (fun j hj=>AB hj) hsR,Sc.Av (fun j hj=>AB hj) hsK,Sc.Av (fun j hj=>AB hj) hsU,Sc.Av (fun j hj=>AB hj) hsV])
    ·rw [C3 hz]
     refine CW.vc BK [0,1,2,6,7,8,9,10,11,12,13,14,15,16,23,24,55,66,88,111,134,140] (by kernel_rfl) ?_
     (repeat ((try refine Vc.mk' ?_);simp (maxSteps:=6000000) only [go_sem,BP,Ao,A3,hs4,hmx,AG t2,sl1,ix0,ld0,Ah,BQ,Ab,decide_true,decide_false,n_world,n_router,n_link,n_drop,p_double,n_del,Bd,A4,nP,nR,nW,hv,AO ht5,AP ht5,hnu,hb,AG hbt,ix_0,ld_0,ix_1,ld_1,ix_2,ld_2,ix_3,ld_3,hap,AG hu,hobj,HS.o1,HS.o2,nbu,d1n,BT]))
     (refine ⟨[top+3],by simp,by simp,by simp, ?_, ?_, ?_⟩ <;> simp [Bx hbt,AB hbt,AB hu,Al,Aa,Sc.Av (fun j hj=>AB hj) hsR,Sc.Av (fun j hj=>AB hj) hsK,Sc.Av (fun j hj=>AB hj) hsU,Sc.Av (fun j hj=>AB hj) hsV])
 have n_double:=e_double
 by_cases e_delay:w= [100,101,108,97,121]
 ·have p_delay:=eq_true e_delay
  cases hn:Ex (ws) 4 with
  |none=>
   have e:Ax hp b top (Br S w ws last)= .inr (Fp 12, [],top):=by unfold Br;rw [if_neg n_world];rw [if_neg n_router];rw [if_neg n_link];rw [if_neg n_drop];rw [if_neg n_double];rw [if_pos e_delay];rw [hn];rfl
   rw [e]
   have hnu:∀t,Fz (ws) 4 t= .inr (Fp 12, [],t):=fun t=>HY hn
   refine CW.vc BK [0,1,2,6,7,8,9,10,11,12,13,14,15,16,23,24,55,66,88,111,134,140] (by kernel_rfl) ?_
   (repeat ((try refine Vc.mk' ?_);simp (maxSteps:=6000000) only [go_sem,BP,Ao,A3,hs4,hmx,AG t2,sl1,ix0,ld0,Ah,BQ,Ab,decide_true,decide_false,n_world,n_router,n_link,n_drop,n_double,p_delay,Bd,A4,nP,nR,nW,hv,AO ht5,AP ht5,hnu]))
   (refine ⟨[],by simp,by simp,by simp, ?_, ?_, ?_⟩ <;> simp [])
  |some xs=>
   have hxl:xs.length=4:=by have:=GL hn;omega
   have hnu:∀t,Fz (ws) 4 t= .inl (AA t xs, [(t,AE Ad xs)],t+1):=fun t=>IB hn
   have ix_0:∀ {t:Nat},Ak tt.get 68 (AA t xs) (.int .i64 0)=(Ag (AA t xs) 0,True):=fun {t}=>ixN (i:=0) (by omega) (by omega)
   have ld_0:∀ {h':Hp} {t:Nat},h' t=AE Ad xs→BA tt.get h' 3 (Ag (AA t xs) 0)=(.int .i64 (at' xs 0),True):=fun {h'} {t} e=>ldN (i:=0) (by omega) (by omega) e
   have ix_1:∀ {t:Nat},Ak tt.get 68 (AA t xs) (.int .i64 1)=(Ag (AA t xs) 1,True):=fun {t}=>ixN (i:=1) (by omega) (by omega)
   have ld_1:∀ {h':Hp} {t:Nat},h' t=AE Ad xs→BA tt.get h' 3 (Ag (AA t xs) 1)=(.int .i64 (at' xs 1),True):=fun {h'} {t} e=>ldN (i:=1) (by omega) (by omega) e
   have ix_2:∀ {t:Nat},Ak tt.get 68 (AA t xs) (.int .i64 2)=(Ag (AA t xs) 2,True):=fun {t}=>ixN (i:=2) (by omega) (by omega)
   have ld_2:∀ {h':Hp} {t:Nat},h' t=AE Ad xs→BA tt.get h' 3 (Ag (AA t xs) 2)=(.int .i64 (at' xs 2),True):=fun {h'} {t} e=>ldN (i:=2) (by omega) (by omega) e
   have ix_3:∀ {t:Nat},Ak tt.get 68 (AA t xs) (.int .i64 3)=(Ag (AA t xs) 3,True):=fun {t}=>ixN (i:=3) (by omega) (by omega)
   have ld_3:∀ {h':Hp} {t:Nat},h' t=AE Ad xs→BA tt.get h' 3 (Ag (AA t xs) 3)=(.int .i64 (at' xs 3),True):=fun {h'} {t} e=>ldN (i:=3) (by omega) (by omega) e
   have hset:∀o,Cv 4 last=o→Br S w ws last=⟨4, {S with U:=S.U ++ [⟨at' xs 0,at' xs 1,at' xs 2,3,at' xs 3⟩]},o⟩:=fun o ho=>by unfold Br;rw [if_neg n_world];rw [if_neg n_router];rw [if_neg n_link];rw [if_neg n_drop];rw [if_neg n_double];rw [if_pos e_delay];rw [hn];simp only [Uh.mk.injEq,true_and,and_true];rw [ho]
   generalize hel:(⟨at' xs 0,at' xs 1,at' xs 2,3,at' xs 3⟩:BX)=el at hset
   have hen:AJ.enc el=AJ.enc ⟨at' xs 0,at' xs 1,at' xs 2,3,at' xs 3⟩:=by rw [hel]
   simp only [EU] at hen
   have hap:∀ {h':Hp} {q t:Nat},h' u=AE AJ S.U→h' q=some (.cells true 5 (AJ.enc ⟨at' xs 0,at' xs 1,at' xs 2,3,at' xs 3⟩))→AR tt.get h' t [24,24] (AA u S.U) (.slice (some ⟨q,0,none⟩) 1 1)=some (AA t (S.U ++ [el]),Ck u S.U t (AE AJ (S.U ++ [el])),t+1):=fun {h'} {q} {t} a1 a2=>by
    rw [hel] at a2
    have e3:cellsOf (h' q)=AJ.enc el:=by rw [a2];rfl
    have:=NN (hp:=h') (b:=u) (top:=t) (k:=q) a1 (by rw [e3];exact a2) (by rw [e3,AJ.h]) (Dc (by have:=HS.ul;omega) (by decide))
    rwa [e3,AJ.h] at this
   simp only [EU] at hap
   have hobj:=HS.U
   by_cases d1:last≤4
   ·by_cases d2:last=0
    ·have hf:Cv 4 last=none:=by simp [Cv,d2]
     have d1n:¬((4:Int) < last):=by omega
     have d2t:=eq_true d2
     have e:Ax hp b top (Br S w ws last)= .inr (Fp 12, [(DB (AA u S.U) top,none),(top,AE AJ (S.U ++ [el])),(b,some (.cells true 0 [.int .i64 S.W, .int .i64 S.A, .int .i64 S.T, .int .i64 S.L,AA r S.R,AA k S.K,AA top (S.U ++ [el]),ov]))],top+1):=by
      rw [hset _ hf];simp only [Ax,F3,Fs,Bw,c4,c5,c6,c7]
     rw [e]
     by_cases hz:S.U= []
     ·have hm1:AA u S.U= .slice none 0 0:=by rw [hz];rfl
      rw [hm1] at hb ⊢
      have hap0:∀ {h':Hp} {q t:Nat},h' q=some (.cells true 5 (AJ.enc ⟨at' xs 0,at' xs 1,at' xs 2,3,at' xs 3⟩))→AR tt.get h' t [24,24] (.slice none 0 0) (.slice (some ⟨q,0,none⟩) 1 1)=some (AA t (S.U ++ [el]), [(t,AE AJ (S.U ++ [el]))],t+1):=fun {h'} {q} {t} a2=>by
       rw [hel] at a2
       have e3:cellsOf (h' q)=AJ.enc el:=by rw [a2];rfl
       have:=Fc (hp:=h') (top:=t) (k:=q) (by rw [e3];exact a2) (by rw [e3,AJ.h])
       rw [e3,AJ.h] at this
       rw [hz];exact this
      simp only [EU] at hap0
      simp only [DB]
      refine CW.vc BK [0,1,2,6,7,8,9,10,11,12,13,14,15,16,23,24,55,66,88,111,134,140] (by kernel_rfl) ?_
      (repeat ((try refine Vc.mk' ?_);simp (maxSteps:=6000000) only [go_sem,BP,Ao,A3,hs4,hmx,AG t2,sl1,ix0,ld0,Ah,BQ,Ab,decide_true,decide_false,n_world,n_router,n_link,n_drop,n_double,p_delay,Bd,A4,nP,nR,nW,hv,AO ht5,AP ht5,hnu,hb,AG hbt,ix_0,ld_0,ix_1,ld_1,ix_2,ld_2,ix_3,ld_3,hap0,AG hu,hobj,HS.o1,HS.o2,nbu,d1n,d2t,BT]))
      (refine ⟨[top+3],by simp,by simp,by simp, ?_, ?_, ?_⟩ <;> simp [Bx hbt,AB hbt,AB hu,Al,Aa,Sc.Av (fun j hj=>AB hj) hsR,Sc.Av (fun j hj=>AB hj) hsK,Sc.Av (fun j hj=>AB hj) hsU,Sc.Av (fun j hj=>AB hj) hsV])
     ·rw [C3 hz]
      refine CW.vc BK [0,1,2,6,7,8,9,10,11,12,13,14,15,16,23,24,55,66,88,111,134,140] (by kernel_rfl) ?_
      (repeat ((try refine Vc.mk' ?_);simp (maxSteps:=6000000) only [go_sem,BP,Ao,A3,hs4,hmx,AG t2,sl1,ix0,ld0,Ah,BQ,Ab,decide_true,decide_false,n_world,n_router,n_link,n_drop,n_double,p_delay,Bd,A4,nP,nR,nW,hv,AO ht5,AP ht5,hnu,hb,AG hbt,ix_0,ld_0,ix_1,ld_1,ix_2,ld_2,ix_3,ld_3,hap,AG hu,hobj,HS.o1,HS.o2,nbu,d1n,d2t,BT]))
      (refine ⟨[top+3],by simp,by simp,by simp, ?_, ?_, ?_⟩ <;> simp [Bx hbt,AB hbt,AB hu,Al,Aa,Sc.Av (fun j hj=>AB hj) hsR,Sc.Av (fun j hj=>AB hj) hsK,Sc.Av (fun j hj=>AB hj) hsU,Sc.Av (fun j hj=>AB hj) hsV])
    ·have hf:Cv 4 last=some 4:=by simp [Cv,d1,d2]
     have d1n:¬((4:Int) < last):=by omega
     have e:Ax hp b top (Br S w ws last)= .inl (.int .i64 4, [(DB (AA u S.U) top,none),(top,AE AJ (S.U ++ [el])),(b,some (.cells true 0 [.int .i64 S.W, .int .i64 S.A, .int .i64 S.T, .int .i64 S.L,AA r S.R,AA k S.K,AA top (S.U ++ [el]),ov]))],top+1):=by
      rw [hset _ hf];simp only [Ax,F3,Fs,Bw,c4,c5,c6,c7]
     rw [e]
     by_cases hz:S.U= []
     ·have hm1:AA u S.U= .slice none 0 0:=by rw [hz];rfl
      rw [hm1] at hb ⊢
      have hap0:∀ {h':Hp} {q t:Nat},h' q=some (.cells true 5 (AJ.enc ⟨at' xs 0,at' xs 1,at' xs 2,3,at' xs 3⟩))→AR tt.get h' t [24,24] (.slice none 0 0) (.slice (some ⟨q,0,none⟩) 1 1)=some (AA t (S.U ++ [el]), [(t,AE AJ (S.U ++ [el]))],t+1):=fun {h'} {q} {t} a2=>by
       rw [hel] at a2
       have e3:cellsOf (h' q)=AJ.enc el:=by rw [a2];rfl
       have:=Fc (hp:=h') (top:=t) (k:=q) (by rw [e3];exact a2) (by rw [e3,AJ.h])
       rw [e3,AJ.h] at this
       rw [hz];exact this
      simp only [EU] at hap0
      simp only [DB]
      refine CW.vc BK [0,1,2,6,7,8,9,10,11,12,13,14,15,16,23,24,55,66,88,111,134,140] (by kernel_rfl) ?_
      (repeat ((try refine Vc.mk' ?_);simp (maxSteps:=6000000) only [go_sem,BP,Ao,A3,hs4,hmx,AG t2,sl1,ix0,ld0,Ah,BQ,Ab,decide_true,decide_false,n_world,n_router,n_link,n_drop,n_double,p_delay,Bd,A4,nP,nR,nW,hv,AO ht5,AP ht5,hnu,hb,AG hbt,ix_0,ld_0,ix_1,ld_1,ix_2,ld_2,ix_3,ld_3,hap0,AG hu,hobj,HS.o1,HS.o2,nbu,d1n,d2,Bi]))
      (refine ⟨[top+3],by simp,by simp,by simp, ?_, ?_, ?_⟩ <;> simp [Bx hbt,AB hbt,AB hu,Al,Aa,Sc.Av (fun j hj=>AB hj) hsR,Sc.Av (fun j hj=>AB hj) hsK,Sc.Av (fun j hj=>AB hj) hsU,Sc.Av (fun j hj=>AB hj) hsV])
     ·rw [C3 hz]
      refine CW.vc BK [0,1,2,6,7,8,9,10,11,12,13,14,15,16,23,24,55,66,88,111,134,140] (by kernel_rfl) ?_
      (repeat ((try refine Vc.mk' ?_);simp (maxSteps:=6000000) only [go_sem,BP,Ao,A3,hs4,hmx,AG t2,sl1,ix0,ld0,Ah,BQ,Ab,decide_true,decide_false,n_world,n_router,n_link,n_drop,n_double,p_delay,Bd,A4,nP,nR,nW,hv,AO ht5,AP ht5,hnu,hb,AG hbt,ix_0,ld_0,ix_1,ld_1,ix_2,ld_2,ix_3,ld_3,hap,AG hu,hobj,HS.o1,HS.o2,nbu,d1n,d2,Bi]))
      (refine ⟨[top+3],by simp,by simp,by simp, ?_, ?_, ?_⟩ <;> simp [Bx hbt,AB hbt,AB hu,Al,Aa,Sc.Av (fun j hj=>AB hj) hsR,Sc.Av (fun j hj=>AB hj) hsK,Sc.Av (fun j hj=>AB hj) hsU,Sc.Av (fun j hj=>AB hj) hsV])
   ·have hf:Cv 4 last=none:=by simp [Cv,d1]
    have d1n:((4:Int) < last)=True:=eq_true (by omega)
    have e:Ax hp b top (Br S w ws last)= .inr (Fp 12, [(DB (AA u S.U) top,none),(top,AE AJ (S.U ++ [el])),(b,some (.cells true 0 [.int .i64 S.W, .int .i64 S.A, .int .i64 S.T, .int .i64 S.L,AA r S.R,AA k S.K,AA top (S.U ++ [el]),ov]))],top+1):=by
     rw [hset _ hf];simp only [Ax,F3,Fs,Bw,c4,c5,c6,c7]
    rw [e]
    by_cases hz:S.U= []
    ·have hm1:AA u S.U= .slice none 0 0:=by rw [hz];rfl
     rw [hm1] at hb ⊢
     have hap0:∀ {h':Hp} {q t:Nat},h' q=some (.cells true 5 (AJ.enc ⟨at' xs 0,at' xs 1,at' xs 2,3,at' xs 3⟩))→AR tt.get h' t [24,24] (.slice none 0 0) (.slice (some ⟨q,0,none⟩) 1 1)=some (AA t (S.U ++ [el]), [(t,AE AJ (S.U ++ [el]))],t+1):=fun {h'} {q} {t} a2=>by
      rw [hel] at a2
      have e3:cellsOf (h' q)=AJ.enc el:=by rw [a2];rfl
      have:=Fc (hp:=h') (top:=t) (k:=q) (by rw [e3];exact a2) (by rw [e3,AJ.h])
      rw [e3,AJ.h] at this
      rw [hz];exact this
     simp only [EU] at hap0
     simp only [DB]
     refine CW.vc BK [0,1,2,6,7,8,9,10,11,12,13,14,15,16,23,24,55,66,88,111,134,140] (by kernel_rfl) ?_
     (repeat ((try refine Vc.mk' ?_);simp (maxSteps:=6000000) only [go_sem,BP,Ao,A3,hs4,hmx,AG t2,sl1,ix0,ld0,Ah,BQ,Ab,decide_true,decide_false,n_world,n_router,n_link,n_drop,n_double,p_delay,Bd,A4,nP,nR,nW,hv,AO ht5,AP ht5,hnu,hb,AG hbt,ix_0,ld_0,ix_1,ld_1,ix_2,ld_2,ix_3,ld_3,hap0,AG hu,hobj,HS.o1,HS.o2,nbu,d1n,BT]))
     (refine ⟨[top+3],by simp,by simp,by simp, ?_, ?_, ?_⟩ <;> simp [Bx hbt,AB hbt,AB hu,Al,Aa,Sc.Av (fun j hj=>AB hj) hsR,Sc.Av (fun j hj=>AB hj) hsK,Sc.Av (fun j hj=>AB hj) hsU,Sc.Av (fun j hj=>AB hj) hsV])
    ·rw [C3 hz]
     refine CW.vc BK [0,1,2,6,7,8,9,10,11,12,13,14,15,16,23,24,55,66,88,111,134,140] (by kernel_rfl) ?_
     (repeat ((try refine Vc.mk' ?_);simp (maxSteps:=6000000) only [go_sem,BP,Ao,A3,hs4,hmx,AG t2,sl1,ix0,ld0,Ah,BQ,Ab,decide_true,decide_false,n_world,n_router,n_link,n_drop,n_double,p_delay,Bd,A4,nP,nR,nW,hv,AO ht5,AP ht5,hnu,hb,AG hbt,ix_0,ld_0,ix_1,ld_1,ix_2,ld_2,ix_3,ld_3,hap,AG hu,hobj,HS.o1,HS.o2,nbu,d1n,BT]))
     (refine ⟨[top+3],by simp,by simp,by simp, ?_, ?_, ?_⟩ <;> simp [Bx hbt,AB hbt,AB hu,Al,Aa,Sc.Av (fun j hj=>AB hj) hsR,Sc.Av (fun j hj=>AB hj) hsK,Sc.Av (fun j hj=>AB hj) hsU,Sc.Av (fun j hj=>AB hj) hsV])
 have n_delay:=e_delay
 have e:Ax hp b top (Br S w ws last)= .inr (Fp 12, [],top):=by unfold Br;rw [if_neg n_world];rw [if_neg n_router];rw [if_neg n_link];rw [if_neg n_drop];rw [if_neg n_double];rw [if_neg n_delay];rfl
 rw [e]
 refine CW.vc BK [0,1,2,6,7,8,9,10,11,12,13,14,15,16,23,24,55,66,88,111,134,140] (by kernel_rfl) ?_
 (repeat ((try refine Vc.mk' ?_);simp (maxSteps:=6000000) only [go_sem,BP,Ao,A3,hs4,hmx,AG t2,sl1,ix0,ld0,Ah,BQ,Ab,decide_true,decide_false,n_world,n_router,n_link,n_drop,n_double,n_delay,BT]))
 (refine ⟨[],by simp,by simp,by simp, ?_, ?_, ?_⟩ <;> simp [])
end Go.Proofs.YthlhnangbinhoaaGreatDoor.Dm
