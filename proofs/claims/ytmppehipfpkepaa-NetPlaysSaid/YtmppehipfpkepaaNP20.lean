/- step: the functions it calls. -/
import Derived.Test.YtmppehipfpkepaaNP17
import Derived.Test.YtmppehipfpkepaaNMW
set_option linter.unusedVariables false
namespace Go.Proofs.Ytmppehipfpkepaa.Dm
open Go.Dm
set_option maxHeartbeats 16000000
set_option maxRecDepth 20000
noncomputable def ABz:FuncId→Bp:=Bu (Bu (Bu (Bu (Bu (Bu (Bu (Bu v7 44 PJ) 46 PD) 47 Oc) 48 Mf) 49 MI) 50 Ks) 51 L5) 26 Ji
theorem zW:Cf Try.prog tt.get ABz:=(((((((r7.add pW).add nP).add dV).add ZB).add ZO).add Uz).add Yc).add Y1
noncomputable def UB:FuncId→Bp:=Bu (Bu (Bu (Bu (Bu (Bu (Bu ABz 52 Ft) 53 (Gr.NX Bw)) 25 Gr.PB) 45 Mx) 20 WQ) 22 OT) 21 RJ
theorem Fl:Cf Try.prog tt.get UB:=((((((zW.add pB).add Gr.Q5).add Gr.dq).add vT).add yL).add vj).add uU
theorem fX:UB 44=PJ:=rfl
theorem gu:UB 46=PD:=rfl
theorem nL:UB 47=Oc:=rfl
theorem jT:UB 48=Mf:=rfl
theorem iT:UB 49=MI:=rfl
theorem b9:UB 50=Ks:=rfl
theorem jV:UB 51=L5:=rfl
theorem ux:UB 52=Ft:=rfl
theorem nh:UB 53=Gr.NX Bw:=rfl
theorem Tv:UB 45=Mx:=rfl
theorem om:UB 10=Kz:=rfl
theorem oK:UB 12=Mi:=rfl
theorem rC:UB 11=QL:=rfl
theorem yy:UB 14=W7:=rfl
theorem tY:UB 15=Vp:=rfl
theorem nq:UB 17=Rt:=rfl
theorem kK:UB 16=Rh:=rfl
theorem jF:UB 18=Ob:=rfl
theorem m7:UB 27=Io:=rfl
end Go.Proofs.Ytmppehipfpkepaa.Dm
/- step. -/
set_option linter.unusedVariables false
namespace Go.Proofs.Ytmppehipfpkepaa.Dm
open Go.Dm
set_option maxHeartbeats 16000000
set_option maxRecDepth 20000
def kd (x:Ey):Int:=(BQ .i64 (x.Kind.tmod 7+7)).tmod 7
def MT (x:Ey):Option BB:=some (.cells true 0 [.int .i64 x.Kind, .int .i64 x.A, .int .i64 x.B, .string ⟨⟨x.Bytes⟩⟩])
def se (f:FT):Option BB:=some (.cells true 0 [.int .i64 f.Bb, .int .i64 f.Ee, .int .i64 f.Second])
noncomputable def Qv (n m:Nat)(lv:Value)(s:Ak)(v:Bh)(t:As)(x:Ey)(top:Nat):BC×Nat:=
 let T1:=Jg s x.A x.B x.Bytes (top+1)
 let T2:=IZ t x.A x.B x.Bytes (T1+1)
 ((top,MT x) :: (Ef n lv s x.A x.B x.Bytes (top+1) ++ ((T1,se (ZZ s x.A x.B x.Bytes)) :: (Ia m v t x.A x.B x.Bytes (T1+1) ++ [(T2,se (Jf t x.A x.B x.Bytes))]))),T2+1)
structure EU (F0:Hp) (base:Nat) (hp:Hp) (top n m:Nat) (k:Nat) (lv:Value) (s:Ak) (v:Bh) (t:As):Prop where
 p:AU F0 base hp top n m lv s v t
 r:Ex k s t
 k:k≤1000
theorem mg {s:Ak}{t:As}{a b:Int}{m:List UInt8}(q1:Ei s a b m.length=DE t a b m.length)(q2:DE t a b m.length=0→(Fa.Cr s.P a b).2.1=Di t a b):ZZ s a b m=Jf t a b m:=by
 unfold ZZ Jf
 by_cases c:DE t a b m.length=0
 ·have hX:¬JG s a b m:=by
   rw [←q1] at c
   unfold Ei at c
   rintro (e | e | e | e)
   ·rw [if_pos e] at c;cases c
   ·split at c
    ·cases c
    ·first | (rw [if_pos e] at c;cases c) | cases c
   ·split at c
    ·cases c
    ·split at c
     ·cases c
     ·first | (rw [if_pos e] at c;cases c) | cases c
   ·split at c
    ·cases c
    ·split at c
     ·cases c
     ·split at c
      ·cases c
      ·first | (rw [if_pos e] at c;cases c) | cases c
  rw [if_neg hX,if_neg (show ¬¬DE t a b m.length=0 from fun e=>e c),q2 c]
 ·rw [if_pos c]
  by_cases e:JG s a b m
  ·rw [if_pos e]
  ·rw [if_neg e]
   rw [←q1] at c
   unfold JG at e
   have e1:¬DX s a b=0:=fun h=>e (.inl h)
   have e2:¬512 < m.length:=fun h=>e (.inr (.inl h))
   have e3:¬GQ s a b=false:=fun h=>e (.inr (.inr (.inl h)))
   have e4:¬16382 < s.l.length:=fun h=>e (.inr (.inr (.inr h)))
   unfold Ei at c
   rw [if_neg e1,if_neg e2,if_neg e3,if_neg e4] at c
   rw [Zk c]
theorem zB {F0:Hp}{base:Nat}{hp:Hp}{top n m k:Nat}{lv:Value}{s:Ak}{v:Bh}{t:As}{x:Ey}(H:EU F0 base hp top n m k lv s v t)(hk:kd x=0):AL Try.prog 23 [.pointer (some ⟨n,0,none⟩), .pointer (some ⟨m,0,none⟩), .agg ⟨DP.enc x⟩] hp top fun v' hp' top'=>v' = .bool true∧hp' = hp.AZ (Qv n m lv s v t x top).1∧top' = (Qv n m lv s v t x top).2:=by
 unfold kd at hk
 refine AL.Au BE Iz rfl 191 rfl [.tmp 6] rfl (show 3≤191 by decide) ?_
 have hk2:=H.k
 have bO:s.last < 999990:=by have:=H.r.kT;omega
 obtain ⟨q1,q2,q3⟩:=H.r.send (by omega) x.A x.B x.Bytes
 have qE:Ei s x.A x.B x.Bytes.length=DE t x.A x.B x.Bytes.length:=q1
 have qF:=mg q1 q2
 obtain ⟨H0,hH0⟩:∃h,hp.set top (some (.cells true 0 [.int .i64 x.Kind, .int .i64 x.A, .int .i64 x.B, .string ⟨⟨x.Bytes⟩⟩]))=h:=⟨_,rfl⟩
 have P0:AU F0 base H0 (top+1) n m lv s v t:=hH0 ▸ H.p.new _
 have b0:H0 top=some (.cells true 0 [.int .i64 x.Kind, .int .i64 x.A, .int .i64 x.B, .string ⟨⟨x.Bytes⟩⟩]):=by rw [←hH0];exact AB ..
 have i0:=P0.Bc.Bc.is
 have s0:=P0.Bc.Bc.s
 have v0:=P0.Bc.Bc.v
 obtain ⟨T1,hT1⟩:∃T,Jg s x.A x.B x.Bytes (top+1)=T:=⟨_,rfl⟩
 obtain ⟨H1,hH1⟩:∃h,H0.AZ (Ef n lv s x.A x.B x.Bytes (top+1))=h:=⟨_,rfl⟩
 have t1:top+1≤T1:=by rw [←hT1];unfold Jg;split <;> omega
 have P1:AU F0 base H1 T1 n m (JQ lv s x.A x.B x.Bytes (top+1)) (NT s x.A x.B x.Bytes) v t:=hH1 ▸ hT1 ▸ P0.send bO x.A x.B x.Bytes
 have nN:¬NB n lv top:=fun c=>Nat.lt_irrefl _ (H.p.qK c)
 have nR:¬RB m v top:=fun c=>Nat.lt_irrefl _ (H.p.lt _ c)
 have b1:H1 top=H0 top:=by rw [←hH1];exact AU.Zm (P0.fE x.A x.B x.Bytes) nN (Nat.lt_succ_self _)
 rw [b0] at b1
 have t1n:¬top=T1:=by omega
 have t1n':¬T1=top:=by omega
 obtain ⟨H2,hH2⟩:∃h,H1.set T1 (some (.cells true 0 [.int .i64 (Jf t x.A x.B x.Bytes).Bb, .int .i64 (Jf t x.A x.B x.Bytes).Ee, .int .i64 (Jf t x.A x.B x.Bytes).Second]))=h:=⟨_,rfl⟩
 have P2:AU F0 base H2 (T1+1) n m (JQ lv s x.A x.B x.Bytes (top+1)) (NT s x.A x.B x.Bytes) v t:=hH2 ▸ P1.new _
 have b2:H2 top=H1 top:=by rw [←hH2];exact AH _ _ _ _ t1n
 rw [b1] at b2
 have c2:H2 T1=some (.cells true 0 [.int .i64 (Jf t x.A x.B x.Bytes).Bb, .int .i64 (Jf t x.A x.B x.Bytes).Ee, .int .i64 (Jf t x.A x.B x.Bytes).Second]):=by rw [←hH2];exact AB ..
 have i2:=P2.ref.is
 have s2:=P2.ref.s
 have v2:=P2.ref.v
 obtain ⟨T2,hT2⟩:∃T,IZ t x.A x.B x.Bytes (T1+1)=T:=⟨_,rfl⟩
 obtain ⟨H3,hH3⟩:∃h,H2.AZ (Ia m v t x.A x.B x.Bytes (T1+1))=h:=⟨_,rfl⟩
 have t2:T1+1≤T2:=by rw [←hT2];unfold IZ;split;exact Nat.le_refl _;split <;> omega
 have c3:H3 T1=H2 T1:=by rw [←hH3];exact AU.vw (iu n m v t x.A x.B x.Bytes (T1+1)) (fun c=>Nat.lt_irrefl _ (P1.lt _ c)) (Nat.lt_succ_self _)
 rw [c2] at c3
 have t2n:¬T1=T2:=by omega
 have t2n':¬T2=T1:=by omega
 refine CW.vc Fl [0,1,2,5,6,7,8,9,10,11,12,13,14,15,16,17,18,19,20,21,22,27,28,60,76,104,119,143,1000013,1000019] (by kernel_rfl) ?_
 (repeat ((first | refine Vc.mk' ?_ | refine CW.CE Fl 13 [0,1,2,5,6,7,8,9,10,11,12,13,14,15,16,17,18,19,20,21,22,27,28,60,76,104,119,143,1000013,1000019] [(8,5),(10,5)] (by kernel_rfl) (by kernel_rfl) ?_ | refine CW.CE Fl 19 [0,1,2,5,6,7,8,9,10,11,12,13,14,15,16,17,18,19,20,21,22,27,28,60,76,104,119,143,1000013,1000019] [(6,3)] (by kernel_rfl) (by kernel_rfl) ?_ | skip);simp only [go_sem,Nat.reduceAdd,Int.reduceEq,fX,PJ,om,Kz,hk,hH0,b0,i0,s0,v0,bO,iv,hT1,hH1,qE,qF,LF,hH2,b2,i2,s2,v2,lI,hT2,hH3,c3,t2n]))
 trace_state
 refine ⟨?_, ?_⟩
 ·unfold Qv
  simp only [hT1,hT2,Aa,C4,B6,MT,se,qF,hH0,hH1,hH2,hH3]
 ·unfold Qv
  simp only [hT1,hT2]
end Go.Proofs.Ytmppehipfpkepaa.Dm
/- step: Tick, Cut, Stop. -/
set_option linter.unusedVariables false
namespace Go.Proofs.Ytmppehipfpkepaa.Dm
open Go.Dm
set_option maxHeartbeats 16000000
set_option maxRecDepth 20000
section
variable {F0:Hp} {base:Nat} {hp:Hp} {top n m:Nat} {lv:Value} {s:Ak} {v:Bh} {t:As}
theorem WL (h:AU F0 base hp top n m lv s v t)(hne:E8 s≠ []):(hp.AZ (Dr n lv s top)) top=AO AJ (E8 s)∧GO s top=top+1:=by
 have hk:=FW s.l (s.now+1)
 have hn:=h.Bc.tp
 unfold E8 at hne ⊢
 split at hne
 case isFalse=>exact absurd rfl hne
 rename_i c
 rw [if_pos c]
 unfold Dr GO
 rw [if_pos c,if_pos c,Aa,Aa,Aa,CG,AB]
 ·exact ⟨rfl,rfl⟩
 intro p hp_
 rcases CQ h.Bc.Bc.W.o hk with ⟨_,c2⟩ | ⟨b,c0,_,c2⟩
 ·rw [show CM s=JU s.l (s.now+1) from rfl,c2] at hp_;cases hp_
 ·rw [show CM s=JU s.l (s.now+1) from rfl,c2] at hp_
  simp at hp_;subst hp_
  have:=h.Bc.sc
  rw [c0] at this
  exact Nat.ne_of_lt this
theorem Y7 (h:AU F0 base hp top n m lv s v t):(E8 s).length≤1000000:=by
 have hn:=h.Bc.Bc.W.n
 unfold E8
 split
 ·unfold EP;rw [List.length_map,List.length_take];omega
 ·exact Nat.zero_le _
theorem cM (h:AU F0 base hp top n m lv s v t){a b:Int}(hne:Pn s a b≠ []):(hp.AZ (Np n lv s a b top)) top=AO AJ (Pn s a b)∧Lp s a b top=top+1:=by
 unfold Pn at hne ⊢
 split at hne
 case isFalse=>exact absurd rfl hne
 rename_i c
 rw [if_pos c]
 unfold Np GG Lp
 rw [if_pos c,if_pos c]
 refine ⟨?_,rfl⟩
 show (hp.AZ (_ :: _ :: (_ ++ [_]))) top=_
 rw [Aa,Aa,C4,Aa,B6,AB];rfl
theorem dB (h:AU F0 base hp top n m lv s v t){a b:Int}:(Pn s a b).length≤1000000:=by
 have hn:=h.Bc.Bc.W.n
 unfold Pn
 split
 ·have:=Y2 (Ay (KF s a b)) s.l;omega
 ·exact Nat.zero_le _
theorem X0 (h:AU F0 base hp top n m lv s v t){a:Int}(hne:MH s a≠ []):(hp.AZ (JI n lv s a top)) top=AO AJ (MH s a)∧G7 s a top=top+1:=by
 unfold MH at hne ⊢
 split at hne
 case isFalse=>exact absurd rfl hne
 rename_i c
 rw [if_pos c]
 unfold JI Ep G7
 rw [if_pos c,if_pos c]
 refine ⟨?_,rfl⟩
 show (hp.AZ (_ :: _ :: (_ ++ [_]))) top=_
 rw [Aa,Aa,C4,Aa,B6,AB];rfl
theorem Ze (h:AU F0 base hp top n m lv s v t){a:Int}:(MH s a).length≤1000000:=by
 have hn:=h.Bc.Bc.W.n
 unfold MH
 split
 ·have:=Y2 (Ay (GL s a)) s.l;omega
 ·exact Nat.zero_le _
/-- what came lies apart,and is spoilt -/
theorem K6 (h:AU F0 base hp top n m lv s v t){H1 H2:Hp}{T1 T2:Nat}{lv1:Value}{s1:Ak}{v2:Bh}{t2:As}{out:List Ae}{U2:BC}(P2:AU F0 base H2 T2 n m lv1 s1 v2 t2)(hH2:H1.AZ U2=H2)(hlb:∀j,LB lv1 j→LB lv j)(hin:∀p∈U2,RB m v p.1∨T1≤p.1)(hrb:∀j,RB m v2 j→RB m v j∨T1≤j)(ho:out≠ []→H1 top=AO AJ out∧T1=top+1)(hl:out.length≤1000000) :
  yx H2 (AK top out)=True∧AJ.rd H2 (AK top out)=out∧AU F0 base (H2.AZ (Fw (AK top out))) T2 n m lv1 s1 v2 t2:=by
 have hob:out≠ []→H2 top=AO AJ out:=fun hne=>by
  obtain ⟨o1,o2⟩:=ho hne
  rw [←hH2,AU.vw hin (fun c=>Nat.lt_irrefl _ (h.lt _ c)) (by omega)]
  exact o1
 have key:∀p∈Fw (AK top out),(¬NB n lv1 p.1∧¬RB m v2 p.1)∧base≤p.1:=fun p hp_=>by
  by_cases hne:out= []
  ·rw [hne] at hp_;cases hp_
  ·obtain ⟨o1,o2⟩:=ho hne
   have hp1:p.1=top:=by
    cases out with
    |nil=>exact absurd rfl hne
    |cons a l=>simp [Fw,AK] at hp_;rw [hp_]
   rw [hp1]
   refine ⟨⟨fun c=> ?_,fun c=> ?_⟩,h.bt⟩
   ·have:=h.Bc.tp
    rcases c with c | c
    ·omega
    ·exact Nat.lt_irrefl _ (h.qK (.inr (hlb _ c)))
   ·rcases hrb _ c with c | c
    ·exact Nat.lt_irrefl _ (h.lt _ c)
    ·omega
 refine ⟨eq_true ⟨top,out,rfl,hob,hl⟩,(eY hob hl).rd,P2.side (fun p hp_=>(key p hp_).1) (fun p hp_=>(key p hp_).2) (Nat.le_refl _)⟩
end
/-! ### names that are written are there,or new -/
/-- what is laid may be written -/
def AR (us:BC):Prop:= ∀p∈us,vr p.2
theorem DK:AR [] = True:=eq_true fun p h=>by cases h
theorem D3 {p:Nat×Option BB}{us:BC}:AR (p :: us)=(vr p.2∧AR us):=by
 refine propext ⟨fun h=>⟨h p (List.mem_cons_self ..),fun q hq=>h q (List.mem_cons_of_mem _ hq)⟩,fun h q hq=> ?_⟩
 rcases List.mem_cons.1 hq with rfl | hq
 ·exact h.1
 ·exact h.2 q hq
theorem Wm {us vs:BC}:AR (us ++ vs)=(AR us∧AR vs):=by
 refine propext ⟨fun h=>⟨fun q hq=>h q (List.mem_append_left _ hq),fun q hq=>h q (List.mem_append_right _ hq)⟩,fun h q hq=> ?_⟩
 rcases List.mem_append.1 hq with hq | hq
 ·exact h.1 q hq
 ·exact h.2 q hq
theorem GY {hp:Hp}{top top':Nat}:∀ {us:BC},AR us→(∀p∈us,(hp p.1).isSome=true∨(top≤p.1∧p.1 < top'))→JP hp top top' us
 | [],_,_=>trivial
 |p :: us,g,h=>⟨h p (List.mem_cons_self ..),g p (List.mem_cons_self ..),GY (fun q hq=>g q (List.mem_cons_of_mem _ hq)) fun q hq=>h q (List.mem_cons_of_mem _ hq)⟩
theorem q7 (v:Value):AR (DJ v):=by
 unfold DJ;split <;> simp only [D3,DK,aB,and_self]
theorem wY {α:Type}{E:Bn α}(v:Value)(l:List α):AR (Nk E v l):=by
 unfold Nk;split
 ·simp only [D3,DK,Dv,D9,and_self]
 ·simp only [DK]
theorem qW (n:Nat)(lv:Value)(s:Ak)(a b:Int)(m:List UInt8)(top:Nat):AR (Ef n lv s a b m top):=by
 unfold Ef C5 Fm;split
 ·simp only [DK]
 ·split <;> simp only [Wm,D3,DK,Fa.Cm,Fa.B7,Bv,NF,D9,q7,Dv,and_self]
theorem yN (lv:Value)(l:List Ah)(k:Nat):AR (MY AP lv l 0 k):=by
 unfold MY;split
 ·simp only [DK]
 ·split <;> simp only [D3,DK,Dv,D9,and_self]
theorem eG (n:Nat)(lv:Value)(s:Ak)(top:Nat):AR (Dr n lv s top):=by
 unfold Dr;split
 ·simp only [D3,Bi,Bv,D9,Ea,true_and];exact yN _ _ _
 ·simp only [DK]
theorem tT (n:Nat)(lv:Value)(s:Ak)(a b:Int)(top:Nat):AR (Np n lv s a b top):=by
 unfold Np GG Et;split <;> simp only [Wm,D3,DK,Bv,NF,D9,Ea,wY,and_self]
theorem kP (n:Nat)(lv:Value)(s:Ak)(a:Int)(top:Nat):AR (JI n lv s a top):=by
 unfold JI Ep Et;split <;> simp only [Wm,D3,DK,Bv,NF,D9,Ea,wY,and_self]
theorem dJ (n:Nat)(s:Ak)(a b:Int):AR (Gv n s a b):=by
 unfold Gv;split <;> simp only [D3,DK,NF,and_self]
theorem Zh (n:Nat)(s:Ak)(a:Int):AR (Eu n s a):=by
 unfold Eu;split <;> simp only [D3,DK,NF,and_self]
theorem pA (m:Nat)(v:Bh)(t:As)(a b:Int)(b_:List UInt8)(top:Nat):AR (Ia m v t a b b_ top):=by
 unfold Ia GJ;split
 ·simp only [DK]
 ·split <;> simp only [D3,DK,Az,D9,Ea,and_self]
theorem aI (m:Nat)(v:Bh)(t:As)(top:Nat):AR (Fp m v t top):=by
 unfold Fp Hh;split <;> simp only [D3,DK,Az,D9,Ea,and_self]
theorem sZ (m:Nat)(v:Bh)(t:As)(a b:Int)(top:Nat):AR (Jz m v t a b top):=by
 unfold Jz Ln;split
 ·simp only [DK]
 ·split <;> simp only [D3,DK,Az,D9,Ea,and_self]
theorem kh (m:Nat)(v:Bh)(t:As)(a:Int)(top:Nat):AR (Gc m v t a top):=by
 unfold Gc Ic;split
 ·simp only [DK]
 ·split <;> simp only [D3,DK,Az,D9,Ea,and_self]
theorem ZM (v:Bh)(t:As)(a b:Int)(top:Nat):AR (IQ v t a b top):=by
 unfold IQ Jc;split
 ·simp only [DK]
 ·split <;> simp only [D3,DK,Ea,and_self]
theorem Um (m:Nat)(v:Bh)(t:As)(a:Int)(top:Nat):AR (F7 m v t a top):=by
 unfold F7 Gd;split
 ·simp only [DK]
 ·split <;> simp only [D3,DK,Az,D9,and_self]
theorem dp (v:Value):AR (Fw v):=by
 unfold Fw;split <;> simp only [D3,DK,Ea,and_self]
section
variable {F0:Hp} {base:Nat} {hp:Hp} {top n m:Nat} {lv:Value} {s:Ak} {v:Bh} {t:As}
theorem AU.rA (h:AU F0 base hp top n m lv s v t):JP hp top (GO s top) (Dr n lv s top)=True:=eq_true (GY (eG _ _ _ _) fun p hp_=>by
 unfold Dr GO at *
 split at hp_
 ·rename_i c
  rw [if_pos c]
  simp only [List.mem_cons] at hp_
  rcases hp_ with rfl | rfl | rfl | hp_
  ·left;rw [h.Bc.Bc.h];rfl
  ·left;rw [h.Bc.Bc.W.h];rfl
  ·exact .inr ⟨Nat.le_refl _,Nat.lt_succ_self _⟩
  ·rcases CQ h.Bc.Bc.W.o (FW s.l (s.now+1)) with ⟨_,c2⟩ | ⟨b,c0,_,c2⟩
   ·rw [show CM s=JU s.l (s.now+1) from rfl,c2] at hp_;cases hp_
   ·rw [show CM s=JU s.l (s.now+1) from rfl,c2] at hp_
    simp at hp_;subst hp_
    rcases CT h.Bc.Bc.W.o with ⟨e,_⟩ | ⟨q,e,e2⟩
    ·rw [c0] at e;cases e
    ·rw [c0] at e;cases e
     left;rw [e2];rfl
 ·cases hp_)
theorem AU.pL (h:AU F0 base hp top n m lv s v t):JP hp top (FJ t top) (Fp m v t top)=True:=eq_true (GY (aI _ _ _ _) fun p hp_=>by
 unfold Fp Hh FJ at *
 split at hp_
 ·rename_i c
  rw [if_pos c]
  simp at hp_;rcases hp_ with rfl | rfl
  ·left;rw [h.ref.h];rfl
  ·exact .inr ⟨Nat.le_refl _,Nat.lt_succ_self _⟩
 ·cases hp_)
theorem tq {H2:Hp}{b T2:Nat}{out:List Ae}(h:yx H2 (AK b out)=True):JP H2 T2 T2 (Fw (AK b out))=True:=eq_true (GY (dp _) fun p hp_=>by
 obtain ⟨b',l,e1,e2,_⟩:=of_eq_true h
 cases out with
 |nil=>cases hp_
 |cons a o=>
  simp [Fw,AK] at hp_
  cases l with
  |nil=>simp [AK] at e1
  |cons c l=>
   simp only [AK,Value.slice.injEq,Option.some.injEq,Addr.mk.injEq] at e1
   obtain ⟨⟨rfl,_⟩,_⟩:=e1
   left
   rw [hp_,e2 (by simp)];rfl)
theorem AU.vI (h:AU F0 base hp top n m lv s v t)(a b:Int):JP hp top top (Gv n s a b)=True:=eq_true (GY (dJ _ _ _ _) fun p hp_=>by
 unfold Gv at hp_
 split at hp_
 ·simp at hp_;subst hp_;left;rw [h.Bc.Bc.C];rfl
 ·cases hp_)
theorem AU.kC (h:AU F0 base hp top n m lv s v t)(a b:Int):JP hp top top (IQ v t a b top)=True:=eq_true (GY (ZM _ _ _ _ _) fun p hp_=>by
 unfold IQ Jc at hp_
 split at hp_
 ·cases hp_
 ·split at hp_
  ·simp at hp_;subst hp_;left;rw [h.ref.c];rfl
  ·cases hp_)
theorem AU.nY (h:AU F0 base hp top n m lv s v t)(a:Int):JP hp top top (Eu n s a)=True:=eq_true (GY (Zh _ _ _) fun p hp_=>by
 unfold Eu at hp_
 split at hp_
 ·simp at hp_;subst hp_;left;rw [h.Bc.Bc.S];rfl
 ·cases hp_)
theorem AU.jU (h:AU F0 base hp top n m lv s v t)(a:Int):JP hp top top (F7 m v t a top)=True:=eq_true (GY (Um _ _ _ _ _) fun p hp_=>by
 unfold F7 Gd at hp_
 split at hp_
 ·cases hp_
 ·split at hp_
  ·simp at hp_;subst hp_;left;rw [h.ref.h];rfl
  ·cases hp_)
end
noncomputable def Ql (n m:Nat)(lv:Value)(s:Ak)(v:Bh)(t:As)(x:Ey)(top:Nat):BC×Nat:=
 let T1:=GO s (top+1)
 ((top,MT x) :: (Dr n lv s (top+1) ++ (Fp m v t T1 ++ Fw (AK (top+1) (E8 s)))),FJ t T1)
theorem xN {F0:Hp}{base:Nat}{hp:Hp}{top n m k:Nat}{lv:Value}{s:Ak}{v:Bh}{t:As}{x:Ey}(H:EU F0 base hp top n m k lv s v t)(hk:kd x=1):AL Try.prog 23 [.pointer (some ⟨n,0,none⟩), .pointer (some ⟨m,0,none⟩), .agg ⟨DP.enc x⟩] hp top fun v' hp' top'=>v' = .bool true∧hp' = hp.AZ (Ql n m lv s v t x top).1∧top' = (Ql n m lv s v t x top).2:=by
 unfold kd at hk
 refine AL.Au BE Iz rfl 191 rfl [.tmp 6] rfl (show 3≤191 by decide) ?_
 obtain ⟨q1,q2⟩:=H.r.tick
 obtain ⟨H0,hH0⟩:∃h,hp.set top (some (.cells true 0 [.int .i64 x.Kind, .int .i64 x.A, .int .i64 x.B, .string ⟨⟨x.Bytes⟩⟩]))=h:=⟨_,rfl⟩
 have P0:AU F0 base H0 (top+1) n m lv s v t:=hH0 ▸ H.p.new _
 have b0:H0 top=some (.cells true 0 [.int .i64 x.Kind, .int .i64 x.A, .int .i64 x.B, .string ⟨⟨x.Bytes⟩⟩]):=by rw [←hH0];exact AB ..
 have i0:=P0.Bc.Bc.is
 have s0:=P0.Bc.Bc.s
 have v0:=P0.Bc.Bc.v
 obtain ⟨T1,hT1⟩:∃T,GO s (top+1)=T:=⟨_,rfl⟩
 obtain ⟨H1,hH1⟩:∃h,H0.AZ (Dr n lv s (top+1))=h:=⟨_,rfl⟩
 have P1:AU F0 base H1 T1 n m (IB lv s) (MK s) v t:=hH1 ▸ hT1 ▸ P0.tick
 have i1:=P1.ref.is
 have s1:=P1.ref.s
 have v1:=P1.ref.v
 obtain ⟨T2,hT2⟩:∃T,FJ t T1=T:=⟨_,rfl⟩
 obtain ⟨H2,hH2⟩:∃h,H1.AZ (Fp m v t T1)=h:=⟨_,rfl⟩
 have P2:AU F0 base H2 T2 n m (IB lv s) (MK s) (QF v t) (QS t):=hH2 ▸ hT2 ▸ P1.vp
 obtain ⟨o1,o2,P3⟩:=K6 P0 P2 hH2 (fun j hj=>P0.Wp hj) (US n m v t T1) (fun j hj=>UW hj) (fun hne=>by rw [←hH1,←hT1];exact WL P0 hne) (Y7 P0)
 have r1:BU AJ H2 (AK T1 (Jb t)) (Jb t):=hH2 ▸ jR P1
 have r2:Dp AJ H2 (AK T1 (Jb t))=True:=r1.P
 have r3:=r1.rd
 obtain ⟨H3,hH3⟩:∃h,H2.AZ (Fw (AK (top+1) (E8 s)))=h:=⟨_,rfl⟩
 rw [hH3] at P3
 rw [q1] at o1 o2 hH3
 have u1:=P0.rA
 have u2:=P1.pL
 have u3:JP H2 T2 T2 (Fw (AK (top+1) (Jb t)))=True:=tq o1
 rw [hT1] at u1
 rw [hT2] at u2
 have t1:top+1≤T1:=by rw [←hT1];unfold GO;split <;> omega
 have t2:T1≤T2:=by rw [←hT2];unfold FJ;split <;> omega
 have i3:=P3.Bc.Bc.is
 have s3:=P3.Bc.Bc.s
 have m3:=P3.ref.h
 have n3:(MK s).now=(QS t).now:=q2.now
 simp only [Az] at m3
 have hT:=Cz (wv:=(QF v t).wv) P3.ref.sl P3.ref.kl
 refine CW.vc Fl [0,1,2,5,6,7,8,9,10,11,12,13,14,15,16,17,18,19,20,21,22,27,28,60,76,104,119,143,1000013,1000019] (by kernel_rfl) ?_
 (repeat ((first | refine Vc.mk' ?_ | refine CW.CE Fl 13 [0,1,2,5,6,7,8,9,10,11,12,13,14,15,16,17,18,19,20,21,22,27,28,60,76,104,119,143,1000013,1000019] [(8,5),(10,5)] (by kernel_rfl) (by kernel_rfl) ?_ | refine CW.CE Fl 19 [0,1,2,5,6,7,8,9,10,11,12,13,14,15,16,17,18,19,20,21,22,27,28,60,76,104,119,143,1000013,1000019] [(6,3)] (by kernel_rfl) (by kernel_rfl) ?_ | skip);simp only [go_sem,Nat.reduceAdd,Nat.reduceLT,Int.reduceEq,gu,PD,Tv,Mx,oK,Mi,rC,QL,hk,hH0,b0,i0,s0,v0,gY,hT1,hH1,i1,s1,v1,mx,hT2,hH2,o1,o2,r2,r3,q1,hH3,i3,s3,m3,n3,hT,u1,u2,u3,t1,t2]))
 refine ⟨?_, ?_⟩
 ·unfold Ql
  simp only [hT1,Aa,C4,MT,q1,hH0,hH1,hH2,hH3]
 ·unfold Ql
  simp only [hT1,hT2]
noncomputable def RA (n m:Nat)(lv:Value)(s:Ak)(v:Bh)(t:As)(x:Ey)(top:Nat):BC×Nat:=
 let T1:=Lp s x.A x.B (top+1)
 ((top,MT x) :: (Np n lv s x.A x.B (top+1) ++ (Jz m v t x.A x.B T1 ++ Fw (AK (top+1) (Pn s x.A x.B)))),KU t x.A x.B T1)
theorem wq {F0:Hp}{base:Nat}{hp:Hp}{top n m k:Nat}{lv:Value}{s:Ak}{v:Bh}{t:As}{x:Ey}(H:EU F0 base hp top n m k lv s v t)(hk:kd x=2):AL Try.prog 23 [.pointer (some ⟨n,0,none⟩), .pointer (some ⟨m,0,none⟩), .agg ⟨DP.enc x⟩] hp top fun v' hp' top'=>v' = .bool true∧hp' = hp.AZ (RA n m lv s v t x top).1∧top' = (RA n m lv s v t x top).2:=by
 unfold kd at hk
 refine AL.Au BE Iz rfl 191 rfl [.tmp 6] rfl (show 3≤191 by decide) ?_
 obtain ⟨qe,q1,q2⟩:=H.r.cut x.A x.B
 replace q1:Pn s x.A x.B=L8 t x.A x.B:=q1
 obtain ⟨H0,hH0⟩:∃h,hp.set top (some (.cells true 0 [.int .i64 x.Kind, .int .i64 x.A, .int .i64 x.B, .string ⟨⟨x.Bytes⟩⟩]))=h:=⟨_,rfl⟩
 have P0:AU F0 base H0 (top+1) n m lv s v t:=hH0 ▸ H.p.new _
 have b0:H0 top=some (.cells true 0 [.int .i64 x.Kind, .int .i64 x.A, .int .i64 x.B, .string ⟨⟨x.Bytes⟩⟩]):=by rw [←hH0];exact AB ..
 have i0:=P0.Bc.Bc.is
 have s0:=P0.Bc.Bc.s
 have v0:=P0.Bc.Bc.v
 obtain ⟨T1,hT1⟩:∃T,Lp s x.A x.B (top+1)=T:=⟨_,rfl⟩
 obtain ⟨H1,hH1⟩:∃h,H0.AZ (Np n lv s x.A x.B (top+1))=h:=⟨_,rfl⟩
 have P1:AU F0 base H1 T1 n m (UF lv s x.A x.B) (ZP s x.A x.B) v t:=hH1 ▸ hT1 ▸ P0.cut x.A x.B
 have i1:=P1.ref.is
 have s1:=P1.ref.s
 have v1:=P1.ref.v
 obtain ⟨T2,hT2⟩:∃T,KU t x.A x.B T1=T:=⟨_,rfl⟩
 obtain ⟨H2,hH2⟩:∃h,H1.AZ (Jz m v t x.A x.B T1)=h:=⟨_,rfl⟩
 have P2:AU F0 base H2 T2 n m (UF lv s x.A x.B) (ZP s x.A x.B) (aA v t x.A x.B T1) (Ut t x.A x.B):=hH2 ▸ hT2 ▸ P1.ABT x.A x.B
 obtain ⟨o1,o2,P3⟩:=K6 P0 P2 hH2 (fun j hj=>P0.cF hj) (Y3 n m v t x.A x.B T1) (fun j hj=>ZS hj) (fun hne=>by rw [←hH1,←hT1];exact cM P0 hne) (dB P0)
 have r1:BU AJ H2 (AK T1 (L8 t x.A x.B)) (L8 t x.A x.B):=hH2 ▸ lD P1 x.A x.B
 have r2:Dp AJ H2 (AK T1 (L8 t x.A x.B))=True:=r1.P
 have r3:=r1.rd
 obtain ⟨H3,hH3⟩:∃h,H2.AZ (Fw (AK (top+1) (Pn s x.A x.B)))=h:=⟨_,rfl⟩
 rw [hH3] at P3
 rw [q1] at o1 o2 hH3
 have t1:top+1≤T1:=by rw [←hT1];unfold Lp;split <;> omega
 have t1n:¬top=T1:=by omega
 have nN:¬NB n lv top:=fun c=>Nat.lt_irrefl _ (H.p.qK c)
 have nR:¬RB m v top:=fun c=>Nat.lt_irrefl _ (H.p.lt _ c)
 have b1:H1 top=H0 top:=by rw [←hH1];exact AU.Zm (P0.ka x.A x.B) nN (Nat.lt_succ_self _)
 rw [b0] at b1
 refine CW.vc Fl [0,1,2,5,6,7,8,9,10,11,12,13,14,15,16,17,18,19,20,21,22,27,28,60,76,104,119,143,1000013,1000019] (by kernel_rfl) ?_
 (repeat ((first | refine Vc.mk' ?_ | refine CW.CE Fl 13 [0,1,2,5,6,7,8,9,10,11,12,13,14,15,16,17,18,19,20,21,22,27,28,60,76,104,119,143,1000013,1000019] [(8,5),(10,5)] (by kernel_rfl) (by kernel_rfl) ?_ | refine CW.CE Fl 19 [0,1,2,5,6,7,8,9,10,11,12,13,14,15,16,17,18,19,20,21,22,27,28,60,76,104,119,143,1000013,1000019] [(6,3)] (by kernel_rfl) (by kernel_rfl) ?_ | skip);simp only [go_sem,Nat.reduceAdd,Int.reduceEq,nL,Oc,Tv,Mx,tY,Vp,hk,hH0,b0,i0,s0,v0,nZ,hT1,hH1,i1,s1,v1,rq,b1,qe,hT2,hH2,o1,o2,r2,r3,q1,hH3]))
 refine ⟨?_, ?_⟩
 ·unfold RA
  simp only [hT1,Aa,C4,MT,q1,hH0,hH1,hH2,hH3]
 ·unfold RA
  simp only [hT1,hT2]
noncomputable def Qw (n m:Nat)(lv:Value)(s:Ak)(v:Bh)(t:As)(x:Ey)(top:Nat):BC×Nat:=
 let T1:=G7 s x.A (top+1)
 ((top,MT x) :: (JI n lv s x.A (top+1) ++ (Gc m v t x.A T1 ++ Fw (AK (top+1) (MH s x.A)))),HY t x.A T1)
theorem xj {F0:Hp}{base:Nat}{hp:Hp}{top n m k:Nat}{lv:Value}{s:Ak}{v:Bh}{t:As}{x:Ey}(H:EU F0 base hp top n m k lv s v t)(hk:kd x=4):AL Try.prog 23 [.pointer (some ⟨n,0,none⟩), .pointer (some ⟨m,0,none⟩), .agg ⟨DP.enc x⟩] hp top fun v' hp' top'=>v' = .bool true∧hp' = hp.AZ (Qw n m lv s v t x top).1∧top' = (Qw n m lv s v t x top).2:=by
 unfold kd at hk
 refine AL.Au BE Iz rfl 191 rfl [.tmp 6] rfl (show 3≤191 by decide) ?_
 obtain ⟨qe,q1,q2⟩:=H.r.stop x.A
 replace q1:MH s x.A=Jd t x.A:=q1
 obtain ⟨H0,hH0⟩:∃h,hp.set top (some (.cells true 0 [.int .i64 x.Kind, .int .i64 x.A, .int .i64 x.B, .string ⟨⟨x.Bytes⟩⟩]))=h:=⟨_,rfl⟩
 have P0:AU F0 base H0 (top+1) n m lv s v t:=hH0 ▸ H.p.new _
 have b0:H0 top=some (.cells true 0 [.int .i64 x.Kind, .int .i64 x.A, .int .i64 x.B, .string ⟨⟨x.Bytes⟩⟩]):=by rw [←hH0];exact AB ..
 have i0:=P0.Bc.Bc.is
 have s0:=P0.Bc.Bc.s
 have v0:=P0.Bc.Bc.v
 obtain ⟨T1,hT1⟩:∃T,G7 s x.A (top+1)=T:=⟨_,rfl⟩
 obtain ⟨H1,hH1⟩:∃h,H0.AZ (JI n lv s x.A (top+1))=h:=⟨_,rfl⟩
 have P1:AU F0 base H1 T1 n m (NS lv s x.A) (Qx s x.A) v t:=hH1 ▸ hT1 ▸ P0.stop x.A
 have i1:=P1.ref.is
 have s1:=P1.ref.s
 have v1:=P1.ref.v
 obtain ⟨T2,hT2⟩:∃T,HY t x.A T1=T:=⟨_,rfl⟩
 obtain ⟨H2,hH2⟩:∃h,H1.AZ (Gc m v t x.A T1)=h:=⟨_,rfl⟩
 have P2:AU F0 base H2 T2 n m (NS lv s x.A) (Qx s x.A) (Sn v t x.A T1) (QP t x.A):=hH2 ▸ hT2 ▸ P1.wQ x.A
 obtain ⟨o1,o2,P3⟩:=K6 P0 P2 hH2 (fun j hj=>P0.X8 hj) (VL n m v t x.A T1) (fun j hj=>UQ hj) (fun hne=>by rw [←hH1,←hT1];exact X0 P0 hne) (Ze P0)
 have r1:BU AJ H2 (AK T1 (Jd t x.A)) (Jd t x.A):=hH2 ▸ fg P1 x.A
 have r2:Dp AJ H2 (AK T1 (Jd t x.A))=True:=r1.P
 have r3:=r1.rd
 obtain ⟨H3,hH3⟩:∃h,H2.AZ (Fw (AK (top+1) (MH s x.A)))=h:=⟨_,rfl⟩
 rw [hH3] at P3
 rw [q1] at o1 o2 hH3
 have t1:top+1≤T1:=by rw [←hT1];unfold G7;split <;> omega
 have t1n:¬top=T1:=by omega
 have nN:¬NB n lv top:=fun c=>Nat.lt_irrefl _ (H.p.qK c)
 have nR:¬RB m v top:=fun c=>Nat.lt_irrefl _ (H.p.lt _ c)
 have b1:H1 top=H0 top:=by rw [←hH1];exact AU.Zm (P0.ef x.A) nN (Nat.lt_succ_self _)
 rw [b0] at b1
 refine CW.vc Fl [0,1,2,5,6,7,8,9,10,11,12,13,14,15,16,17,18,19,20,21,22,27,28,60,76,104,119,143,1000013,1000019] (by kernel_rfl) ?_
 (repeat ((first | refine Vc.mk' ?_ | refine CW.CE Fl 13 [0,1,2,5,6,7,8,9,10,11,12,13,14,15,16,17,18,19,20,21,22,27,28,60,76,104,119,143,1000013,1000019] [(8,5),(10,5)] (by kernel_rfl) (by kernel_rfl) ?_ | refine CW.CE Fl 19 [0,1,2,5,6,7,8,9,10,11,12,13,14,15,16,17,18,19,20,21,22,27,28,60,76,104,119,143,1000013,1000019] [(6,3)] (by kernel_rfl) (by kernel_rfl) ?_ | skip);simp only [go_sem,Nat.reduceAdd,Int.reduceEq,iT,MI,Tv,Mx,nq,Rt,hk,hH0,b0,i0,s0,v0,g9,hT1,hH1,i1,s1,v1,lU,b1,qe,hT2,hH2,o1,o2,r2,r3,q1,hH3]))
 refine ⟨?_, ?_⟩
 ·unfold Qw
  simp only [hT1,Aa,C4,MT,q1,hH0,hH1,hH2,hH3]
 ·unfold Qw
  simp only [hT1,hT2]
end Go.Proofs.Ytmppehipfpkepaa.Dm
