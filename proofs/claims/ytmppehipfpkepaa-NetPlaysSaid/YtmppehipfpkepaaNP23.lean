/- step: Mend, Start, Near; the whole. -/
import Derived.Test.YtmppehipfpkepaaNP20
set_option linter.unusedVariables false
namespace Go.Proofs.Ytmppehipfpkepaa.Dm
open Go.Dm
set_option maxHeartbeats 16000000
set_option maxRecDepth 20000
noncomputable def Ty (n m:Nat)(lv:Value)(s:Ak)(v:Bh)(t:As)(x:Ey)(top:Nat):BC×Nat:=
 ((top,MT x) :: (Gv n s x.A x.B ++ IQ v t x.A x.B (top+1)),top+1)
theorem xd {F0:Hp}{base:Nat}{hp:Hp}{top n m k:Nat}{lv:Value}{s:Ak}{v:Bh}{t:As}{x:Ey}(H:EU F0 base hp top n m k lv s v t)(hk:kd x=3):AL Try.prog 23 [.pointer (some ⟨n,0,none⟩), .pointer (some ⟨m,0,none⟩), .agg ⟨DP.enc x⟩] hp top fun v' hp' top'=>v' = .bool true∧hp' = hp.AZ (Ty n m lv s v t x top).1∧top' = (Ty n m lv s v t x top).2:=by
 unfold kd at hk
 refine AL.Au BE Iz rfl 191 rfl [.tmp 6] rfl (show 3≤191 by decide) ?_
 obtain ⟨q1,q2⟩:=H.r.UK x.A x.B
 obtain ⟨H0,hH0⟩:∃h,hp.set top (some (.cells true 0 [.int .i64 x.Kind, .int .i64 x.A, .int .i64 x.B, .string ⟨⟨x.Bytes⟩⟩]))=h:=⟨_,rfl⟩
 have P0:AU F0 base H0 (top+1) n m lv s v t:=hH0 ▸ H.p.new _
 have b0:H0 top=some (.cells true 0 [.int .i64 x.Kind, .int .i64 x.A, .int .i64 x.B, .string ⟨⟨x.Bytes⟩⟩]):=by rw [←hH0];exact AB ..
 have i0:=P0.Bc.Bc.is
 have s0:=P0.Bc.Bc.s
 have v0:=P0.Bc.Bc.v
 obtain ⟨H1,hH1⟩:∃h,H0.AZ (Gv n s x.A x.B)=h:=⟨_,rfl⟩
 have P1:AU F0 base H1 (top+1) n m lv (Ng s x.A x.B) v t:=hH1 ▸ P0.UK x.A x.B
 have i1:=P1.ref.is
 have s1:=P1.ref.s
 have v1:=P1.ref.v
 obtain ⟨H2,hH2⟩:∃h,H1.AZ (IQ v t x.A x.B (top+1))=h:=⟨_,rfl⟩
 have nN:¬NB n lv top:=fun c=>Nat.lt_irrefl _ (H.p.qK c)
 have b1:H1 top=H0 top:=by rw [←hH1];exact AU.Zm (P0.fO x.A x.B) nN (Nat.lt_succ_self _)
 rw [b0] at b1
 have u1:=P0.vI x.A x.B
 have u2:=P1.kC x.A x.B
 refine CW.vc Fl [0,1,2,5,6,7,8,9,10,11,12,13,14,15,16,17,18,19,20,21,22,27,28,60,76,104,119,143,1000013,1000019] (by kernel_rfl) ?_
 (repeat ((first | refine Vc.mk' ?_ | refine CW.CE Fl 13 [0,1,2,5,6,7,8,9,10,11,12,13,14,15,16,17,18,19,20,21,22,27,28,60,76,104,119,143,1000013,1000019] [(8,5),(10,5)] (by kernel_rfl) (by kernel_rfl) ?_ | refine CW.CE Fl 19 [0,1,2,5,6,7,8,9,10,11,12,13,14,15,16,17,18,19,20,21,22,27,28,60,76,104,119,143,1000013,1000019] [(6,3)] (by kernel_rfl) (by kernel_rfl) ?_ | skip);simp only [go_sem,Nat.reduceAdd,Int.reduceEq,jT,Mf,kK,Rh,hk,hH0,b0,i0,s0,hH1,i1,s1,v1,nS,b1,q1,hH2,u1,u2]))
 unfold Ty
 simp only [Aa,C4,MT,hH0,hH1,hH2]
 exact ⟨trivial,trivial⟩
noncomputable def TK (n m:Nat)(lv:Value)(s:Ak)(v:Bh)(t:As)(x:Ey)(top:Nat):BC×Nat:=
 ((top,MT x) :: (Eu n s x.A ++ F7 m v t x.A (top+1)),top+1)
theorem y9 {F0:Hp}{base:Nat}{hp:Hp}{top n m k:Nat}{lv:Value}{s:Ak}{v:Bh}{t:As}{x:Ey}(H:EU F0 base hp top n m k lv s v t)(hk:kd x=5):AL Try.prog 23 [.pointer (some ⟨n,0,none⟩), .pointer (some ⟨m,0,none⟩), .agg ⟨DP.enc x⟩] hp top fun v' hp' top'=>v' = .bool true∧hp' = hp.AZ (TK n m lv s v t x top).1∧top' = (TK n m lv s v t x top).2:=by
 unfold kd at hk
 refine AL.Au BE Iz rfl 191 rfl [.tmp 6] rfl (show 3≤191 by decide) ?_
 obtain ⟨q1,q2⟩:=H.r.start x.A
 obtain ⟨H0,hH0⟩:∃h,hp.set top (some (.cells true 0 [.int .i64 x.Kind, .int .i64 x.A, .int .i64 x.B, .string ⟨⟨x.Bytes⟩⟩]))=h:=⟨_,rfl⟩
 have P0:AU F0 base H0 (top+1) n m lv s v t:=hH0 ▸ H.p.new _
 have b0:H0 top=some (.cells true 0 [.int .i64 x.Kind, .int .i64 x.A, .int .i64 x.B, .string ⟨⟨x.Bytes⟩⟩]):=by rw [←hH0];exact AB ..
 have i0:=P0.Bc.Bc.is
 have s0:=P0.Bc.Bc.s
 have v0:=P0.Bc.Bc.v
 obtain ⟨H1,hH1⟩:∃h,H0.AZ (Eu n s x.A)=h:=⟨_,rfl⟩
 have P1:AU F0 base H1 (top+1) n m lv (LZ s x.A) v t:=hH1 ▸ P0.start x.A
 have i1:=P1.ref.is
 have s1:=P1.ref.s
 have v1:=P1.ref.v
 obtain ⟨H2,hH2⟩:∃h,H1.AZ (F7 m v t x.A (top+1))=h:=⟨_,rfl⟩
 have nN:¬NB n lv top:=fun c=>Nat.lt_irrefl _ (H.p.qK c)
 have b1:H1 top=H0 top:=by rw [←hH1];exact AU.Zm (P0.aJ x.A) nN (Nat.lt_succ_self _)
 rw [b0] at b1
 have u1:=P0.nY x.A
 have u2:=P1.jU x.A
 refine CW.vc Fl [0,1,2,5,6,7,8,9,10,11,12,13,14,15,16,17,18,19,20,21,22,27,28,60,76,104,119,143,1000013,1000019] (by kernel_rfl) ?_
 (repeat ((first | refine Vc.mk' ?_ | refine CW.CE Fl 13 [0,1,2,5,6,7,8,9,10,11,12,13,14,15,16,17,18,19,20,21,22,27,28,60,76,104,119,143,1000013,1000019] [(8,5),(10,5)] (by kernel_rfl) (by kernel_rfl) ?_ | refine CW.CE Fl 19 [0,1,2,5,6,7,8,9,10,11,12,13,14,15,16,17,18,19,20,21,22,27,28,60,76,104,119,143,1000013,1000019] [(6,3)] (by kernel_rfl) (by kernel_rfl) ?_ | skip);simp only [go_sem,Nat.reduceAdd,Int.reduceEq,b9,Ks,jF,Ob,hk,hH0,b0,i0,s0,hH1,i1,s1,v1,jX,b1,q1,hH2,u1,u2]))
 unfold TK
 simp only [Aa,C4,MT,hH0,hH1,hH2]
 exact ⟨trivial,trivial⟩
/-! ### Near -/
def Xc (s:Ak)(a:Int):Int:=if NK s a=true then 0 else 2
def Nb (s:Ak)(a:Int)(top:Nat):BC:=(I1 s a top).2.1
def Jy (s:Ak)(a:Int)(top:Nat):Nat:=if NK s a=true then top+1 else top
theorem gm (s:Ak)(a:Int)(top:Nat):I1 s a top=(.tuple ⟨[AK top (L9 s a), .int .i64 (Xc s a)]⟩,Nb s a top,Jy s a top):=by
 unfold Nb Jy Xc L9 I1
 split <;> rfl
def Hd (t:As)(a:Int):List Ej:=if t.R.any (GR a)=false then [] else if Aj t.st a.toNat=true then [] else Gr.PR (DC t) (C7 t) a
def WE (t:As)(a:Int):Int:=if t.R.any (GR a)=false then 2 else if Aj t.st a.toNat=true then 0 else Gr.je (DC t) (C7 t) a
noncomputable def J6 (t:As)(a:Int)(top:Nat):BC:=(J5 t a top).2.1
def Hk (t:As)(a:Int)(top:Nat):Nat:=if t.R.any (GR a)=false then top else if Aj t.st a.toNat=true then top else top+1
theorem mN (t:As)(a:Int)(top:Nat):J5 t a top=(.tuple ⟨[AK top (Hd t a), .int .i64 (WE t a)]⟩,J6 t a top,Hk t a top):=by
 unfold J6 Hk Hd WE J5
 split
 ·rfl
 ·split <;> rfl
theorem Cj.vQ {s:Ak}{t:As}(h:Cj s t)(a:Int):L9 s a=Hd t a∧Xc s a=WE t a:=by
 have hR:NK s a=t.R.any (GR a):=by unfold NK;rw [h.R]
 unfold L9 Hd Xc WE
 rw [hR]
 cases c:t.R.any (GR a) with
 |false=>exact ⟨rfl,rfl⟩
 |true=>
  cases c2:Aj t.st a.toNat with
  |true=>
   have:D2 s a=true:=by rw [←h.S a (h.rng c)];exact c2
   exact ⟨bD h this,rfl⟩
  |false=>
   obtain ⟨g1,g2⟩:=h.PR c c2
   exact ⟨g1.symm,g2.symm⟩
theorem RV (s:Ak)(a:Int)(top:Nat):∀p∈Nb s a top,p=(top,AO Bw (L9 s a))∧Jy s a top=top+1:=by
 intro p hp_
 unfold Nb I1 at hp_
 unfold L9 Jy
 split at hp_
 ·rename_i c;rw [if_pos c,if_pos c];simp at hp_;exact ⟨hp_,rfl⟩
 ·cases hp_
theorem OX (t:As)(a:Int)(top:Nat):∀p∈J6 t a top,p=(top,AO Bw (Hd t a))∧Hk t a top=top+1:=by
 intro p hp_
 unfold J6 J5 at hp_
 unfold Hd Hk
 split at hp_
 ·cases hp_
 ·rename_i c
  rw [if_neg c,if_neg c]
  split at hp_
  ·cases hp_
  ·rename_i c2
   rw [if_neg c2,if_neg c2]
   simp [Gr.Gp] at hp_;exact ⟨hp_,rfl⟩
theorem rZ {hp:Hp}{s:Ak}{a:Int}{top:Nat}(hne:L9 s a≠ []):(hp.AZ (Nb s a top)) top=AO Bw (L9 s a)∧Jy s a top=top+1:=by
 unfold L9 at hne ⊢
 split at hne
 case isFalse=>exact absurd rfl hne
 rename_i c
 rw [if_pos c]
 unfold Nb I1 Jy
 rw [if_pos c,if_pos c,Aa,B6,AB]
 exact ⟨rfl,rfl⟩
theorem j7 {hp:Hp}{t:As}{a:Int}{top:Nat}(hne:Hd t a≠ []):(hp.AZ (J6 t a top)) top=AO Bw (Hd t a):=by
 unfold Hd at hne ⊢
 unfold J6 J5
 split at hne
 ·exact absurd rfl hne
 ·split at hne
  ·exact absurd rfl hne
  ·rename_i c1 c2
   rw [if_neg c1,if_neg c2,if_neg c1,if_neg c2]
   unfold Gr.Gp
   rw [Aa,B6,AB]
theorem eD {hp:Hp}{b:Nat}{l:List Ej}(h:l≠ []→hp b=AO Bw l)(hl:l.length≤1000000):BU Bw hp (AK b l) l:=by
 by_cases c:l= []
 ·subst c;exact .nils
 ·exact .own (h c) (by omega)
theorem AU.fresh {F0:Hp}{base:Nat}{hp:Hp}{top n m:Nat}{lv:Value}{s:Ak}{v:Bh}{t:As}(h:AU F0 base hp top n m lv s v t){us:BC}{top':Nat}(hu:∀p∈us,top≤p.1)(ht:top≤top'):AU F0 base (hp.AZ us) top' n m lv s v t:=
 h.side (fun p hp_=>⟨fun c=>by have:=h.qK c;have:=hu p hp_;omega,fun c=>by have:=h.lt _ c;have:=hu p hp_;omega⟩) (fun p hp_=>Nat.le_trans h.bt (hu p hp_)) ht
noncomputable def Qp (n m:Nat)(lv:Value)(s:Ak)(v:Bh)(t:As)(x:Ey)(top:Nat):BC×Nat:=
 let T1:=Jy s x.A (top+1)
 ((top,MT x) :: (Nb s x.A (top+1) ++ J6 t x.A T1),Hk t x.A T1)
theorem yU {F0:Hp}{base:Nat}{hp:Hp}{top n m k:Nat}{lv:Value}{s:Ak}{v:Bh}{t:As}{x:Ey}(H:EU F0 base hp top n m k lv s v t)(h0:¬kd x=0)(h1:¬kd x=1)(h2:¬kd x=2)(h3:¬kd x=3)(h4:¬kd x=4)(h5:¬kd x=5):AL Try.prog 23 [.pointer (some ⟨n,0,none⟩), .pointer (some ⟨m,0,none⟩), .agg ⟨DP.enc x⟩] hp top fun v' hp' top'=>v' = .bool true∧hp' = hp.AZ (Qp n m lv s v t x top).1∧top' = (Qp n m lv s v t x top).2:=by
 unfold kd at h0 h1 h2 h3 h4 h5
 refine AL.Au BE Iz rfl 191 rfl [.tmp 6] rfl (show 3≤191 by decide) ?_
 obtain ⟨q1,q2⟩:=H.r.l.vQ x.A
 have q3:=H.r.l.up x.A x.B
 have q4:t.R.length≤1000:=by have:=H.r.l.rn;omega
 obtain ⟨H0,hH0⟩:∃h,hp.set top (some (.cells true 0 [.int .i64 x.Kind, .int .i64 x.A, .int .i64 x.B, .string ⟨⟨x.Bytes⟩⟩]))=h:=⟨_,rfl⟩
 have P0:AU F0 base H0 (top+1) n m lv s v t:=hH0 ▸ H.p.new _
 have b0:H0 top=some (.cells true 0 [.int .i64 x.Kind, .int .i64 x.A, .int .i64 x.B, .string ⟨⟨x.Bytes⟩⟩]):=by rw [←hH0];exact AB ..
 have i0:=P0.Bc.Bc.is
 have s0:=P0.Bc.Bc.s
 have v0:=P0.Bc.Bc.v
 obtain ⟨T1,hT1⟩:∃T,Jy s x.A (top+1)=T:=⟨_,rfl⟩
 obtain ⟨H1,hH1⟩:∃h,H0.AZ (Nb s x.A (top+1))=h:=⟨_,rfl⟩
 have t1:top+1≤T1:=by rw [←hT1];unfold Jy;split <;> omega
 have t1n:¬top=T1:=by omega
 have P1:AU F0 base H1 T1 n m lv s v t:=hH1 ▸ P0.fresh (fun p hp_=>by rw [(RV s x.A (top+1) p hp_).1];exact Nat.le_refl _) t1
 have i1:=P1.ref.is
 have s1:=P1.ref.s
 have b1:H1 top=H0 top:=by rw [←hH1];exact CG fun p hp_ e=>by rw [(RV s x.A (top+1) p hp_).1] at e;replace e:top+1=top:=e;omega
 rw [b0] at b1
 obtain ⟨T2,hT2⟩:∃T,Hk t x.A T1=T:=⟨_,rfl⟩
 obtain ⟨H2,hH2⟩:∃h,H1.AZ (J6 t x.A T1)=h:=⟨_,rfl⟩
 have t2:T1≤T2:=by rw [←hT2];unfold Hk;split;exact Nat.le_refl _;split <;> omega
 have off2:∀j,j < T1→H2 j=H1 j:=fun j hj=>by rw [←hH2];exact CG fun p hp_ e=>by rw [(OX t x.A T1 p hp_).1] at e;replace e:T1=j:=e;omega
 have P2:AU F0 base H2 T2 n m lv s v t:=hH2 ▸ P1.fresh (fun p hp_=>by rw [(OX t x.A T1 p hp_).1];exact Nat.le_refl _) t2
 have b2:H2 top=H1 top:=off2 _ (by omega)
 rw [b1] at b2
 have i2:=P2.Bc.Bc.is
 have s2:=P2.Bc.Bc.s
 have i3:=P2.ref.is
 have s3:=P2.ref.s
 have nl:(L9 s x.A).length≤24:=by
  unfold L9;split
  ·exact U5 s x.A 24
  ·exact Nat.zero_le _
 have A1:BU Bw H2 (AK (top+1) (Hd t x.A)) (Hd t x.A):=by
  rw [←q1]
  refine eD (fun hne=> ?_) (by omega)
  obtain ⟨g1,g2⟩:=rZ (hp:=H0) (top:=top+1) hne
  rw [hT1] at g2
  rw [hH1] at g1
  rw [off2 _ (by omega)];exact g1
 have A2:BU Bw H2 (AK T1 (Hd t x.A)) (Hd t x.A):=eD (fun hne=>by rw [←hH2];exact j7 hne) (by rw [←q1];omega)
 have a1:=A1.P
 have a2:=A2.P
 have a3:=A1.rd
 have a4:=A2.rd
 refine CW.vc Fl [0,1,2,5,6,7,8,9,10,11,12,13,14,15,16,17,18,19,20,21,22,27,28,60,76,104,119,143,1000013,1000019] (by kernel_rfl) ?_
 (repeat ((first | refine Vc.mk' ?_ | refine CW.CE Fl 13 [0,1,2,5,6,7,8,9,10,11,12,13,14,15,16,17,18,19,20,21,22,27,28,60,76,104,119,143,1000013,1000019] [(8,5),(10,5)] (by kernel_rfl) (by kernel_rfl) ?_ | refine CW.CE Fl 19 [0,1,2,5,6,7,8,9,10,11,12,13,14,15,16,17,18,19,20,21,22,27,28,60,76,104,119,143,1000013,1000019] [(6,3)] (by kernel_rfl) (by kernel_rfl) ?_ | skip);simp only [go_sem,Nat.reduceAdd,Int.reduceEq,jV,L5,ux,Ft,nh,Gr.NX,yy,W7,m7,Io,h0,h1,h2,h3,h4,h5,hH0,b0,i0,s0,gm,hT1,hH1,i1,s1,q4,mN,b1,q1,q2,q3,hT2,hH2,b2,i2,s2,i3,s3,a1,a2,a3,a4]))
 refine ⟨?_, ?_⟩
 ·unfold Qp
  simp only [hT1,Aa,C4,MT,hH0,hH1,hH2]
 ·unfold Qp
  simp only [hT1,hT2]
/-! ### the whole -/
noncomputable def JZ (n m:Nat)(lv:Value)(s:Ak)(v:Bh)(t:As)(x:Ey)(top:Nat):BC×Nat:=
 if kd x=0 then Qv n m lv s v t x top else if kd x=1 then Ql n m lv s v t x top else if kd x=2 then RA n m lv s v t x top else if kd x=3 then Ty n m lv s v t x top else if kd x=4 then Qw n m lv s v t x top else if kd x=5 then TK n m lv s v t x top else Qp n m lv s v t x top
noncomputable def RW:Bp:= .det (fun args hp top=>match args with | [.pointer (some ⟨n,0,none⟩), .pointer (some ⟨m,0,none⟩), .agg ⟨cs⟩]=>DP.enc (DP.dec cs)=cs∧∃F0 base k lv s v t,EU F0 base hp top n m k lv s v t | _=>False) (fun args hp top=>match args with
 | [.pointer (some ⟨n,_,_⟩), .pointer (some ⟨m,_,_⟩), .agg ⟨cs⟩]=>(.bool true,JZ n m (Wn hp n) (Im hp n) (OA hp m) (IH hp m) (DP.dec cs) top) | _=>(undef, [],top))
theorem uG:BK Try.prog 23 RW:=by
 refine ⟨⟨_,Iz.toFTOk⟩,fun args hp top hpre=> ?_⟩
 match args,hpre with
 | [.pointer (some ⟨n,0,none⟩), .pointer (some ⟨m,0,none⟩), .agg ⟨cs⟩],⟨he,F0,base,k,lv,s,v,t,H⟩=>
 obtain ⟨x,rfl⟩:∃x,cs=DP.enc x:=⟨_,he.symm⟩
 have e1:=H.p.Bc.Bc.s
 have e2:=H.p.Bc.Bc.v
 have e3:=H.p.ref.s
 have e4:=H.p.ref.v
 simp only [e1,e2,e3,e4,DP.h]
 unfold JZ
 by_cases c0:kd x=0
 ·rw [if_pos c0];exact zB H c0
 rw [if_neg c0]
 by_cases c1:kd x=1
 ·rw [if_pos c1];exact xN H c1
 rw [if_neg c1]
 by_cases c2:kd x=2
 ·rw [if_pos c2];exact wq H c2
 rw [if_neg c2]
 by_cases c3:kd x=3
 ·rw [if_pos c3];exact xd H c3
 rw [if_neg c3]
 by_cases c4:kd x=4
 ·rw [if_pos c4];exact xj H c4
 rw [if_neg c4]
 by_cases c5:kd x=5
 ·rw [if_pos c5];exact y9 H c5
 rw [if_neg c5]
 exact yU H c0 c1 c2 c3 c4 c5
theorem QW {F0:Hp}{base:Nat}{hp:Hp}{top n m:Nat}{lv:Value}{s:Ak}{v:Bh}{t:As}(h:AU F0 base hp top n m lv s v t){U1 U2:BC}{T1 T2:Nat}{lv1:Value}{s1:Ak}{v2:Bh}{t2:As}{out:List Ae}(P2:AU F0 base ((hp.AZ U1).AZ U2) T2 n m lv1 s1 v2 t2)(hlb:∀j,LB lv1 j→LB lv j)(hin:∀p∈U2,RB m v p.1∨T1≤p.1)(hrb:∀j,RB m v2 j→RB m v j∨T1≤j)(ho:out≠ []→(hp.AZ U1) top=AO AJ out∧T1=top+1)(hl:out.length≤1000000) :
  AU F0 base (((hp.AZ U1).AZ U2).AZ (Fw (AK top out))) T2 n m lv1 s1 v2 t2:=(K6 h P2 rfl hlb hin hrb ho hl).2.2
theorem EU.post {F0:Hp}{base:Nat}{hp:Hp}{top n m k:Nat}{lv:Value}{s:Ak}{v:Bh}{t:As}(H:EU F0 base hp top n m k lv s v t)(hk:k+1≤1000)(x:Ey):∃lv' s' v' t',EU F0 base (hp.AZ (JZ n m lv s v t x top).1) (JZ n m lv s v t x top).2 n m (k+1) lv' s' v' t':=by
 have P0:=H.p.new (MT x)
 unfold JZ
 have bO:s.last < 999990:=by have:=H.r.kT;omega
 by_cases c0:kd x=0
 ·rw [if_pos c0]
  unfold Qv
  simp only [Aa,C4,B6]
  exact ⟨_,_,_,_,(((P0.send bO x.A x.B x.Bytes).new _).AA1 x.A x.B x.Bytes).new _,(H.r.send (by omega) x.A x.B x.Bytes).2.2,hk⟩
 rw [if_neg c0]
 by_cases c1:kd x=1
 ·rw [if_pos c1]
  unfold Ql
  simp only [Aa,C4]
  exact ⟨_,_,_,_,QW P0 P0.tick.vp (fun j hj=>P0.Wp hj) (US n m v t _) (fun j hj=>UW hj) (fun hne=>WL P0 hne) (Y7 P0),H.r.tick.2.mono,hk⟩
 rw [if_neg c1]
 by_cases c2:kd x=2
 ·rw [if_pos c2]
  unfold RA
  simp only [Aa,C4]
  exact ⟨_,_,_,_,QW P0 ((P0.cut x.A x.B).ABT x.A x.B) (fun j hj=>P0.cF hj) (Y3 n m v t _ _ _) (fun j hj=>ZS hj) (fun hne=>cM P0 hne) (dB P0),(H.r.cut x.A x.B).2.2.mono,hk⟩
 rw [if_neg c2]
 by_cases c3:kd x=3
 ·rw [if_pos c3]
  unfold Ty
  simp only [Aa,C4]
  exact ⟨_,_,_,_,(P0.UK x.A x.B).ABJ x.A x.B,(H.r.UK x.A x.B).2.mono,hk⟩
 rw [if_neg c3]
 by_cases c4:kd x=4
 ·rw [if_pos c4]
  unfold Qw
  simp only [Aa,C4]
  exact ⟨_,_,_,_,QW P0 ((P0.stop x.A).wQ x.A) (fun j hj=>P0.X8 hj) (VL n m v t _ _) (fun j hj=>UQ hj) (fun hne=>X0 P0 hne) (Ze P0),(H.r.stop x.A).2.2.mono,hk⟩
 rw [if_neg c4]
 by_cases c5:kd x=5
 ·rw [if_pos c5]
  unfold TK
  simp only [Aa,C4]
  exact ⟨_,_,_,_,(P0.start x.A).yw x.A,(H.r.start x.A).2.mono,hk⟩
 rw [if_neg c5]
 unfold Qp
 simp only [Aa,C4]
 refine ⟨_,_,_,_,(P0.fresh (top':=Jy s x.A (top+1)) (fun p hp_=> ?_) ?_).fresh (fun p hp_=> ?_) ?_,H.r.mono,hk⟩
 ·rw [(RV s x.A (top+1) p hp_).1];exact Nat.le_refl _
 ·unfold Jy;split <;> omega
 ·rw [(OX t x.A _ p hp_).1];exact Nat.le_refl _
 ·unfold Hk;split;exact Nat.le_refl _;split <;> omega
end Go.Proofs.Ytmppehipfpkepaa.Dm
/- step: the names it writes are there, or new. -/
set_option linter.unusedVariables false
namespace Go.Proofs.Ytmppehipfpkepaa.Dm
open Go.Dm
set_option maxHeartbeats 4000000
set_option maxRecDepth 20000
section
variable {F0:Hp} {base:Nat} {hp:Hp} {top n m:Nat} {lv:Value} {s:Ak} {v:Bh} {t:As}
/-- names of the Bc that are there -/
def NW (n:Nat)(lv:Value)(top top':Nat)(us:BC):Prop:= ∀p∈us,(n≤p.1∧p.1≤n+6)∨LB lv p.1∨(top≤p.1∧p.1 < top')
def w4 (m:Nat)(v:Bh)(top top':Nat)(us:BC):Prop:= ∀p∈us,p.1=m∨p.1=v.cb∨(top≤p.1∧p.1 < top')
theorem AU.nEx (h:AU F0 base hp top n m lv s v t){j:Nat}(hj:(n≤j∧j≤n+6)∨LB lv j):(hp j).isSome=true:=by
 have N:=h.Bc.Bc
 rcases hj with ⟨h1,h2⟩ | hj
 ·have:j=n∨j=n+1∨j=n+2∨j=n+3∨j=n+4∨j=n+5∨j=n+6:=by omega
  rcases this with rfl | rfl | rfl | rfl | rfl | rfl | rfl
  ·rw [N.h];rfl
  ·rw [N.L];rfl
  ·rw [N.C];rfl
  ·rw [N.S];rfl
  ·rw [N.P];rfl
  ·rw [N.M];rfl
  ·rw [N.W.h];rfl
 ·rcases CT N.W.o with ⟨rfl,_⟩ | ⟨q,rfl,e⟩
  ·cases hj
  ·have:j=q:=hj
   subst this;rw [e];rfl
theorem AU.rEx (h:AU F0 base hp top n m lv s v t){j:Nat}(hj:j=m∨j=v.cb):(hp j).isSome=true:=by
 rcases hj with rfl | rfl
 ·rw [h.ref.h];rfl
 ·rw [h.ref.c];rfl
theorem AU.tZ (h:AU F0 base hp top n m lv s v t)(a b:Int)(b_:List UInt8)(T:Nat):NW n lv T (Jg s a b b_ T) (Ef n lv s a b b_ T):=by
 intro p hp_
 unfold Ef C5 at hp_
 split at hp_
 ·cases hp_
 ·rename_i c
  simp only [List.mem_append] at hp_
  rcases hp_ with hp_ | hp_
  ·simp [Fa.Cm] at hp_;rcases hp_ with rfl | rfl <;> (left;simp)
  ·unfold Fm at hp_
   split at hp_
   ·cases hp_
   ·rename_i c2
    simp only [List.mem_cons,List.mem_append,List.not_mem_nil,or_false] at hp_
    rcases hp_ with rfl | hp_ | rfl
    ·left;simp
    ·exact .inr (.inl (dv h.Bc.Bc.W.o hp_))
    ·refine .inr (.inr ⟨Nat.le_refl _, ?_⟩)
     unfold Jg
     rw [if_neg]
     ·exact Nat.lt_succ_self _
     ·rintro (x | x)
      ·exact c x
      ·exact c2 (by rw [x];rfl)
theorem AU.uz (h:AU F0 base hp top n m lv s v t)(T:Nat):NW n lv T (GO s T) (Dr n lv s T):=by
 intro p hp_
 unfold Dr at hp_
 split at hp_
 ·rename_i c
  unfold GO
  rw [if_pos c]
  simp only [List.mem_cons] at hp_
  rcases hp_ with rfl | rfl | rfl | hp_
  ·left;simp
  ·left;simp
  ·exact .inr (.inr ⟨Nat.le_refl _,Nat.lt_succ_self _⟩)
  ·rcases CQ h.Bc.Bc.W.o (FW s.l (s.now+1)) with ⟨_,c2⟩ | ⟨b,c0,_,c2⟩
   ·rw [show CM s=JU s.l (s.now+1) from rfl,c2] at hp_;cases hp_
   ·rw [show CM s=JU s.l (s.now+1) from rfl,c2] at hp_
    simp at hp_;subst hp_;exact .inr (.inl (by rw [c0];rfl))
 ·cases hp_
theorem AU.xK (h:AU F0 base hp top n m lv s v t)(a b:Int)(T:Nat):NW n lv T (Lp s a b T) (Np n lv s a b T):=by
 intro p hp_
 unfold Np GG at hp_
 split at hp_
 ·rename_i c
  unfold Lp
  rw [if_pos c]
  rcases List.mem_cons.1 hp_ with rfl | hp_
  ·left;simp
  ·rcases List.mem_cons.1 hp_ with rfl | hp_
   ·left;simp
   ·rcases List.mem_append.1 hp_ with hp_ | hp_
    ·exact .inr (.inl (du h.Bc.Bc.W.o hp_))
    ·simp at hp_;subst hp_;exact .inr (.inr ⟨Nat.le_refl _,Nat.lt_succ_self _⟩)
 ·cases hp_
theorem AU.uW (h:AU F0 base hp top n m lv s v t)(a:Int)(T:Nat):NW n lv T (G7 s a T) (JI n lv s a T):=by
 intro p hp_
 unfold JI Ep at hp_
 split at hp_
 ·rename_i c
  unfold G7
  rw [if_pos c]
  rcases List.mem_cons.1 hp_ with rfl | hp_
  ·left;simp
  ·rcases List.mem_cons.1 hp_ with rfl | hp_
   ·left;simp
   ·rcases List.mem_append.1 hp_ with hp_ | hp_
    ·exact .inr (.inl (du h.Bc.Bc.W.o hp_))
    ·simp at hp_;subst hp_;exact .inr (.inr ⟨Nat.le_refl _,Nat.lt_succ_self _⟩)
 ·cases hp_
theorem vW (n:Nat)(lv:Value)(s:Ak)(a b:Int)(T:Nat):NW n lv T T (Gv n s a b):=by
 intro p hp_
 unfold Gv at hp_
 split at hp_
 ·simp at hp_;subst hp_;left;simp
 ·cases hp_
theorem kG (n:Nat)(lv:Value)(s:Ak)(a:Int)(T:Nat):NW n lv T T (Eu n s a):=by
 intro p hp_
 unfold Eu at hp_
 split at hp_
 ·simp at hp_;subst hp_;left;simp
 ·cases hp_
theorem qg (m:Nat)(v:Bh)(t:As)(a b:Int)(b_:List UInt8)(T:Nat):w4 m v T (IZ t a b b_ T) (Ia m v t a b b_ T):=by
 intro p hp_
 unfold Ia GJ at hp_
 unfold IZ
 split at hp_
 ·cases hp_
 ·rename_i c
  rw [if_neg c]
  split at hp_
  ·simp at hp_;subst hp_;exact .inl rfl
  ·rename_i c2
   rw [if_neg c2]
   simp at hp_;rcases hp_ with rfl | rfl
   ·exact .inl rfl
   ·exact .inr (.inr ⟨Nat.le_refl _,Nat.lt_succ_self _⟩)
theorem q9 (m:Nat)(v:Bh)(t:As)(T:Nat):w4 m v T (FJ t T) (Fp m v t T):=by
 intro p hp_
 unfold Fp Hh at hp_
 unfold FJ
 split at hp_
 ·rename_i c
  rw [if_pos c]
  simp at hp_;rcases hp_ with rfl | rfl
  ·exact .inl rfl
  ·exact .inr (.inr ⟨Nat.le_refl _,Nat.lt_succ_self _⟩)
 ·cases hp_
theorem wj (m:Nat)(v:Bh)(t:As)(a b:Int)(T:Nat):w4 m v T (KU t a b T) (Jz m v t a b T):=by
 intro p hp_
 unfold Jz Ln at hp_
 unfold KU IL
 split at hp_
 ·cases hp_
 ·rename_i c
  rw [if_neg c]
  split at hp_
  ·cases hp_
  ·rename_i c2
   rw [if_neg c2,if_pos rfl]
   simp at hp_;rcases hp_ with rfl | rfl | rfl | rfl
   ·exact .inr (.inl rfl)
   ·exact .inl rfl
   ·exact .inr (.inr ⟨Nat.le_refl _,by show T < T+2;omega⟩)
   ·exact .inr (.inr ⟨Nat.le_succ _,by show T+1 < T+2;omega⟩)
theorem ri (m:Nat)(v:Bh)(t:As)(a:Int)(T:Nat):w4 m v T (HY t a T) (Gc m v t a T):=by
 intro p hp_
 unfold Gc Ic at hp_
 unfold HY FL
 split at hp_
 ·cases hp_
 ·rename_i c
  rw [if_neg c]
  split at hp_
  ·cases hp_
  ·rename_i c2
   rw [if_neg c2,if_pos rfl]
   simp at hp_;rcases hp_ with rfl | rfl | rfl
   ·exact .inl rfl
   ·exact .inr (.inr ⟨Nat.le_refl _,by show T < T+2;omega⟩)
   ·exact .inr (.inr ⟨Nat.le_succ _,by show T+1 < T+2;omega⟩)
theorem ti (m:Nat)(v:Bh)(t:As)(a b:Int)(T:Nat):w4 m v T T (IQ v t a b T):=by
 intro p hp_
 unfold IQ Jc at hp_
 split at hp_
 ·cases hp_
 ·split at hp_
  ·simp at hp_;subst hp_;exact .inr (.inl rfl)
  ·cases hp_
theorem oV (m:Nat)(v:Bh)(t:As)(a:Int)(T:Nat):w4 m v T T (F7 m v t a T):=by
 intro p hp_
 unfold F7 Gd at hp_
 split at hp_
 ·cases hp_
 ·split at hp_
  ·simp at hp_;subst hp_;exact .inl rfl
  ·cases hp_
def YY (hp:Hp)(top top':Nat)(us:BC):Prop:= ∀p∈us,(hp p.1).isSome=true∨(top≤p.1∧p.1 < top')
theorem YY.app {us vs:BC}{top':Nat}(h:YY hp top top' us)(g:YY hp top top' vs):YY hp top top' (us ++ vs):=fun p hp_=>by
 rcases List.mem_append.1 hp_ with c | c
 ·exact h p c
 ·exact g p c
theorem YY.u9 {us:BC}{top' j:Nat}{o:Option BB}(h1:top≤j)(h2:j < top')(g:YY hp top top' us):YY hp top top' ((j,o) :: us):=fun p hp_=>by
 rcases List.mem_cons.1 hp_ with rfl | c
 ·exact .inr ⟨h1,h2⟩
 ·exact g p c
theorem YY.nil {top':Nat}:YY hp top top' []:=fun p hp_=>by cases hp_
theorem AU.inN (h:AU F0 base hp top n m lv s v t){us:BC}{T T1 T2:Nat}(g:NW n lv T T1 us)(h1:top≤T)(h2:T1≤T2):YY hp top T2 us:=fun p hp_=>by
 rcases g p hp_ with c | c | c
 ·exact .inl (h.nEx (.inl c))
 ·exact .inl (h.nEx (.inr c))
 ·exact .inr ⟨by omega,by omega⟩
theorem AU.inR (h:AU F0 base hp top n m lv s v t){us:BC}{T T1 T2:Nat}(g:w4 m v T T1 us)(h1:top≤T)(h2:T1≤T2):YY hp top T2 us:=fun p hp_=>by
 rcases g p hp_ with c | c | c
 ·exact .inl (h.rEx (.inl c))
 ·exact .inl (h.rEx (.inr c))
 ·exact .inr ⟨by omega,by omega⟩
theorem inT {out:List Ae}{b T2:Nat}(h1:out≠ []→b < T2)(h2:top≤b):YY hp top T2 (Fw (AK b out)):=fun p hp_=>by
 cases out with
 |nil=>cases hp_
 |cons a o=>
  simp [Fw,AK] at hp_
  subst hp_
  exact .inr ⟨h2,h1 (by simp)⟩
theorem lV (s:Ak)(a:Int)(top:Nat):AR (Nb s a top):=by
 unfold Nb I1;split <;> simp only [D3,DK,Ea,and_self]
theorem iI (t:As)(a:Int)(top:Nat):AR (J6 t a top):=by
 unfold J6 J5 Gr.Gp;split
 ·simp only [DK]
 ·split <;> simp only [D3,DK,Ea,and_self]
theorem rh (n m:Nat)(lv:Value)(s:Ak)(v:Bh)(t:As)(x:Ey)(top:Nat):AR (JZ n m lv s v t x top).1:=by
 unfold JZ Qv Ql RA Ty Qw TK Qp MT se
 repeat' split
 all_goals simp only [D3,Wm,DK,D9,qW,pA,eG,aI,tT,sZ,kP,kh,dJ,ZM,Zh,Um,lV,iI,dp,and_self]
theorem EU.us {k:Nat}(H:EU F0 base hp top n m k lv s v t)(x:Ey):top≤(JZ n m lv s v t x top).2∧JP hp top (JZ n m lv s v t x top).2 (JZ n m lv s v t x top).1:=by
 have P:=H.p
 have P0:=H.p.new (MT x)
 suffices h:top≤(JZ n m lv s v t x top).2∧YY hp top (JZ n m lv s v t x top).2 (JZ n m lv s v t x top).1 from ⟨h.1,GY (rh _ _ _ _ _ _ _ _) h.2⟩
 unfold JZ
 by_cases c0:kd x=0
 ·simp only [if_pos c0]
  unfold Qv
  dsimp only
  have e1:top+1≤Jg s x.A x.B x.Bytes (top+1):=by unfold Jg;split <;> omega
  have g1:=P.tZ x.A x.B x.Bytes (top+1)
  generalize Jg s x.A x.B x.Bytes (top+1)=T1 at e1 g1 ⊢
  have e2:T1+1≤IZ t x.A x.B x.Bytes (T1+1):=by unfold IZ;split;exact Nat.le_refl _;split <;> omega
  have g2:=qg m v t x.A x.B x.Bytes (T1+1)
  generalize IZ t x.A x.B x.Bytes (T1+1)=T2 at e2 g2 ⊢
  exact ⟨by omega, .u9 (Nat.le_refl _) (by omega) ((P.inN g1 (by omega) (by omega)).app (.u9 (by omega) (by omega) ((P.inR g2 (by omega) (by omega)).app (.u9 (by omega) (by omega) .nil))))⟩
 simp only [if_neg c0]
 by_cases c1:kd x=1
 ·simp only [if_pos c1]
  unfold Ql
  have e1:top+1≤GO s (top+1):=by unfold GO;split <;> omega
  have g1:=P.uz (top+1)
  have o1:E8 s≠ []→GO s (top+1)=top+1+1:=fun hne=>(WL P0 hne).2
  generalize GO s (top+1)=T1 at e1 g1 o1 ⊢
  have e2:T1≤FJ t T1:=by unfold FJ;split <;> omega
  have g2:=q9 m v t T1
  show top≤FJ t T1∧YY hp top (FJ t T1) _
  have e3:top < FJ t T1:=by omega
  generalize FJ t T1=T2 at e2 e3 g2 ⊢
  exact ⟨by omega, .u9 (Nat.le_refl _) e3 ((P.inN g1 (by omega) (by omega)).app ((P.inR g2 (by omega) (Nat.le_refl _)).app (inT (fun hne=>by have:=o1 hne;omega) (by omega))))⟩
 simp only [if_neg c1]
 by_cases c2:kd x=2
 ·simp only [if_pos c2]
  unfold RA
  have e1:top+1≤Lp s x.A x.B (top+1):=by unfold Lp;split <;> omega
  have g1:=P.xK x.A x.B (top+1)
  have o1:Pn s x.A x.B≠ []→Lp s x.A x.B (top+1)=top+1+1:=fun hne=>(cM P0 hne).2
  generalize Lp s x.A x.B (top+1)=T1 at e1 g1 o1 ⊢
  have e2:T1≤KU t x.A x.B T1:=by unfold KU;split <;> omega
  have g2:=wj m v t x.A x.B T1
  show top≤KU t x.A x.B T1∧YY hp top (KU t x.A x.B T1) _
  generalize KU t x.A x.B T1=T2 at e2 g2 ⊢
  exact ⟨by omega, .u9 (Nat.le_refl _) (by omega) ((P.inN g1 (by omega) (by omega)).app ((P.inR g2 (by omega) (Nat.le_refl _)).app (inT (fun hne=>by have:=o1 hne;omega) (by omega))))⟩
 simp only [if_neg c2]
 by_cases c3:kd x=3
 ·simp only [if_pos c3]
  unfold Ty
  exact ⟨Nat.le_succ _, .u9 (Nat.le_refl _) (Nat.lt_succ_self _) ((P.inN (vW n lv s x.A x.B (top+1)) (by omega) (Nat.le_refl _)).app (P.inR (ti m v t x.A x.B (top+1)) (by omega) (Nat.le_refl _)))⟩
 simp only [if_neg c3]
 by_cases c4:kd x=4
 ·simp only [if_pos c4]
  unfold Qw
  have e1:top+1≤G7 s x.A (top+1):=by unfold G7;split <;> omega
  have g1:=P.uW x.A (top+1)
  have o1:MH s x.A≠ []→G7 s x.A (top+1)=top+1+1:=fun hne=>(X0 P0 hne).2
  generalize G7 s x.A (top+1)=T1 at e1 g1 o1 ⊢
  have e2:T1≤HY t x.A T1:=by unfold HY;split <;> omega
  have g2:=ri m v t x.A T1
  show top≤HY t x.A T1∧YY hp top (HY t x.A T1) _
  generalize HY t x.A T1=T2 at e2 g2 ⊢
  exact ⟨by omega, .u9 (Nat.le_refl _) (by omega) ((P.inN g1 (by omega) (by omega)).app ((P.inR g2 (by omega) (Nat.le_refl _)).app (inT (fun hne=>by have:=o1 hne;omega) (by omega))))⟩
 simp only [if_neg c4]
 by_cases c5:kd x=5
 ·simp only [if_pos c5]
  unfold TK
  exact ⟨Nat.le_succ _, .u9 (Nat.le_refl _) (Nat.lt_succ_self _) ((P.inN (kG n lv s x.A (top+1)) (by omega) (Nat.le_refl _)).app (P.inR (oV m v t x.A (top+1)) (by omega) (Nat.le_refl _)))⟩
 simp only [if_neg c5]
 unfold Qp
 have e1:top+1≤Jy s x.A (top+1):=by unfold Jy;split <;> omega
 have g1:=RV s x.A (top+1)
 generalize Jy s x.A (top+1)=T1 at e1 g1 ⊢
 have e2:T1≤Hk t x.A T1:=by unfold Hk;split;exact Nat.le_refl _;split <;> omega
 have g2:=OX t x.A T1
 show top≤Hk t x.A T1∧YY hp top (Hk t x.A T1) _
 generalize Hk t x.A T1=T2 at e2 g2 ⊢
 exact ⟨by omega, .u9 (Nat.le_refl _) (by omega) (YY.app (fun p hp_=>by obtain ⟨q1,q2⟩:=g1 p hp_;rw [q1];exact .inr ⟨Nat.le_succ _,by show top+1 < T2;omega⟩) (fun p hp_=>by obtain ⟨q1,q2⟩:=g2 p hp_;rw [q1];exact .inr ⟨by show top≤T1;omega,by show T1 < T2;omega⟩))⟩
end
end Go.Proofs.Ytmppehipfpkepaa.Dm
/- NetPlays: the two nets anew. -/
set_option linter.unusedVariables false
namespace Go.Proofs.Ytmppehipfpkepaa.Dm
open Go.Dm
set_option maxHeartbeats 4000000
set_option maxRecDepth 20000
theorem pd {F0 H0:Hp}{base rb n:Nat}{R:List Int}{l:List AX}{u:List A8}{m:Fa.KG}{late:Int}(hR:H0 rb=AO Ab R)(hL:H0 (rb+1)=AO An l)(hU:H0 (rb+2)=AO Ap u)(hb:base≤rb)(hn:rb+3≤n)(k:AE base [] H0 F0)(h:Gr.DS R l=0)(h1:¬late < 1)(h2:¬64 < late)(hp:Fa.Dw u= .ok m) :
  AU F0 base ((H0.AZ (FZ n (GV R l m u.length late))).AZ [(n+8,Az ⟨AK rb R,AK (rb+1) l,AK (rb+2) u,n+9, .slice none 0 0⟩ (Pm R l u late)),(n+9,rN (List.replicate l.length false))]) (n+10) n (n+8) (.slice none 0 0) (GV R l m u.length late) ⟨AK rb R,AK (rb+1) l,AK (rb+2) u,n+9, .slice none 0 0⟩ (Pm R l u late):=by
 have hRn:=RU h
 have hll:=(Gr.Cv h).2.1
 have hul:=(S5 hp).1
 have hok:=Gr.Fb (Gr.Cv h).2.2
 have N0:BW (H0.AZ (FZ n (GV R l m u.length late))) n (.slice none 0 0) (GV R l m u.length late):=BW.new rfl rfl (show Fa.dN.length=625 by decide) (show R.length≤1000 by omega) (show 1≤late by omega) (show late≤64 by omega) rfl
 obtain ⟨H1,hH1⟩:∃h,H0.AZ (FZ n (GV R l m u.length late))=h:=⟨_,rfl⟩
 have lo:∀j,j < n→H1 j=H0 j:=fun j hj=>by rw [←hH1];exact CG fun p hp_ e=>by have:=Vy (Nat.le_refl n) p hp_;omega
 have k1:AE base [] H1 F0:=by rw [←hH1,Fc (Vy (by omega))];exact k
 rw [hH1] at N0 ⊢
 obtain ⟨H2,hH2⟩:∃h,H1.AZ [(n+8,Az ⟨AK rb R,AK (rb+1) l,AK (rb+2) u,n+9, .slice none 0 0⟩ (Pm R l u late)),(n+9,rN (List.replicate l.length false))] = h:=⟨_,rfl⟩
 have off:∀j,j < n+8→H2 j=H1 j:=fun j hj=>by rw [←hH2,Aa,Aa,B6,AH _ _ _ _ (by omega),AH _ _ _ _ (by omega)]
 have a1:H2 (n+8)=Az ⟨AK rb R,AK (rb+1) l,AK (rb+2) u,n+9, .slice none 0 0⟩ (Pm R l u late):=by rw [←hH2,Aa,Aa,B6,AH _ _ _ _ (by omega),AB]
 have a2:H2 (n+9)=rN (List.replicate l.length false):=by rw [←hH2,Aa,Aa,B6,AB]
 have k2:AE base [] H2 F0:=by rw [←hH2,Fc (fun p hp_=>by simp at hp_;rcases hp_ with rfl | rfl <;> (dsimp only;omega))];exact k1
 rw [hH2]
 have rbc:∀j,RB (n+8) ⟨AK rb R,AK (rb+1) l,AK (rb+2) u,n+9, .slice none 0 0⟩ j→j=n+8∨j=n+9∨j=rb∨j=rb+1∨j=rb+2:=fun j hj=>by
  rcases hj with c | c | c | c | c | c
  ·exact .inl c
  ·exact .inr (.inl c)
  ·exact .inr (.inr (.inl (NY c)))
  ·exact .inr (.inr (.inr (.inl (NY c))))
  ·exact .inr (.inr (.inr (.inr (NY c))))
  ·cases c
 have nbc:∀j,NB n (.slice none 0 0) j→n≤j∧j≤n+7:=fun j hj=>by
  rcases hj with c | c
  ·exact c
  ·cases c
 refine ⟨⟨fun _ _ _=>rfl,Nat.le_refl _,by omega,N0.off fun j hj=>off j (by have:=nbc j hj;omega),Hi.nil,trivial⟩,⟨a1, .KH (by rw [off _ (by omega),lo _ (by omega)];exact hR) (by show R.length≤_;omega), .KH (by rw [off _ (by omega),lo _ (by omega)];exact hL) (by show l.length≤_;omega), .KH (by rw [off _ (by omega),lo _ (by omega)];exact hU) (by show u.length≤_;omega),a2, .nils,List.length_replicate,List.length_replicate,List.length_replicate,hll,hul,Gr.KA R [] (Gr.Cv h).1,fun x hx=> ?_,Nat.zero_le _⟩,fun j hj hn_=> ?_,fun j hj=> ?_,fun j hj=> ?_,k2⟩
 ·have:=hok.ok x hx
  simp only [Gr.CX,Bool.and_eq_true] at this
  exact ⟨(Sk h this.1.1.2).2.1,(Sk h this.1.2).2.1⟩
 ·have:=rbc j hj;have:=nbc j hn_;omega
 ·have:=rbc j hj;omega
 ·rcases hj with hj | hj
  ·have:=rbc j hj;omega
  ·have:=nbc j hj;omega
end Go.Proofs.Ytmppehipfpkepaa.Dm
