/- NetPlays: the walk. -/
import Derived.Test.YtmppehipfpkepaaNP23
set_option linter.unusedVariables false
namespace Go.Proofs.Ytmppehipfpkepaa.Dm
open Go.Dm
set_option maxHeartbeats 16000000
set_option maxRecDepth 20000
theorem ui {R:List Int}{l:List AX}{u:List A8}{late:Int}(h:¬MM R l u late=0):(∀T,Cu R l u late T=(.tuple ⟨[.pointer none, .int .i64 (MM R l u late)]⟩, [],T))∧∀rv lv uv T,OO rv lv uv R l u late T=(.tuple ⟨[.pointer none, .int .i64 (MM R l u late)]⟩, [],T):=by
 unfold MM at h ⊢
 by_cases c1:Gr.DS R l=0
 case neg=>
  rw [if_pos c1]
  refine ⟨fun T=> ?_,fun rv lv uv T=> ?_⟩
  ·unfold Cu MM;rw [if_pos (.inl c1),if_pos c1]
  ·unfold OO;rw [if_pos c1]
 have c1':¬¬Gr.DS R l=0:=fun e=>e c1
 rw [if_neg c1'] at h ⊢
 by_cases c2:late < 1∨64 < late
 ·rw [if_pos c2]
  refine ⟨fun T=> ?_,fun rv lv uv T=> ?_⟩
  ·unfold Cu MM;rw [if_pos (.inr c2),if_neg c1',if_pos c2]
  ·unfold OO;rw [if_neg c1',if_pos c2]
 rw [if_neg c2] at h ⊢
 cases hx:Fa.Dw u with
 |error p=>
  obtain ⟨i,e⟩:=p
  have he:=Fa.JB hx
  have hr:=oI hx
  refine ⟨fun T=> ?_,fun rv lv uv T=> ?_⟩
  ·unfold Cu;rw [if_neg (fun c=>c.elim c1' c2),hx]
  ·unfold OO;rw [if_neg c1',if_neg c2,hr,if_pos he]
 |ok m=>rw [hx] at h;exact absurd rfl h
theorem Sv {R:List Int}{l:List AX}{u:List A8}{late:Int}(h:MM R l u late=0):Gr.DS R l=0∧¬late < 1∧¬64 < late∧∃m,Fa.Dw u= .ok m:=by
 unfold MM at h
 by_cases c1:Gr.DS R l=0
 case neg=>rw [if_pos c1] at h;exact absurd h c1
 have c1':¬¬Gr.DS R l=0:=fun e=>e c1
 rw [if_neg c1'] at h
 by_cases c2:late < 1∨64 < late
 ·rw [if_pos c2] at h;cases h
 rw [if_neg c2] at h
 refine ⟨c1,fun c=>c2 (.inl c),fun c=>c2 (.inr c), ?_⟩
 cases hx:Fa.Dw u with
 |error p=>rw [hx] at h;exact absurd h (Fa.JB (i:=p.1) (e:=p.2) hx)
 |ok m=>exact ⟨m,rfl⟩
theorem jO {R:List Int}{l:List AX}{u:List A8}{late:Int}{m:Fa.KG}(h:Gr.DS R l=0)(h1:¬late < 1)(h2:¬64 < late)(hp:Fa.Dw u= .ok m)(T:Nat):Cu R l u late T=(.tuple ⟨[.pointer (some ⟨T,0,none⟩), .int .i64 0]⟩,FZ T (GV R l m u.length late),T+8):=by
 unfold Cu;rw [if_neg (by rintro (c | c | c);exact c h;exact h1 c;exact h2 c),hp]
theorem lJ {R:List Int}{l:List AX}{u:List A8}{late:Int}{m:Fa.KG}(h:Gr.DS R l=0)(h1:¬late < 1)(h2:¬64 < late)(hp:Fa.Dw u= .ok m)(rv lv uv:Value)(T:Nat):OO rv lv uv R l u late T=(.tuple ⟨[.pointer (some ⟨T,0,none⟩), .int .i64 0]⟩, [(T,Az ⟨rv,lv,uv,T+1, .slice none 0 0⟩ (Pm R l u late)),(T+1,rN (List.replicate l.length false))],T+2):=by
 unfold OO;rw [if_neg (fun e=>e h),if_neg (by rintro (c | c);exact h1 c;exact h2 c),if_neg (fun e=>e (sO hp))]
noncomputable def pq:FuncId→Bp:=Bu UB 23 RW
theorem Dz:Cf Try.prog tt.get pq:=Fl.add uG
theorem kH:pq 23=RW:=rfl
theorem rB:pq 20=WQ:=rfl
theorem u6:pq 21=RJ:=rfl
theorem Yh:pq 22=OT:=rfl
theorem VT:pq 8=MN:=rfl
theorem vG:pq 19=QH:=rfl
theorem gX:pq 24=O5:=rfl
theorem ie:pq 26=Ji:=rfl
theorem oN:pq 25=Gr.PB:=rfl
structure ZJ (F0:Hp) (b:Nat) (s:Ak) (v:Bh) (t:As) (late:Int) (R:List Int) (l:List AX) (u:List A8) (hp':Hp):Prop where
 p:AU F0 b hp' (b+19) (b+9) (b+17) (.slice none 0 0) s v t
 sep:∀j,RB (b+17) v j→¬(b+1≤j∧j≤b+3)
 i:hp' (b+7)=some (.cells true 0 [AK (b+1) R,AK (b+2) l,AK (b+3) u, .int .i64 late])
 a:∃R',R'.length=R.length∧hp' (b+1)=AO Ab R'
 c:∃l',l'.length=l.length∧hp' (b+2)=AO An l'
 d:∃u',u'.length=u.length∧hp' (b+3)=AO Ap u'
section
variable {F0:Hp} {b:Nat} {s:Ak} {v:Bh} {t:As} {late:Int} {R:List Int} {l:List AX} {u:List A8} {hp':Hp}
theorem ZJ.side (h:ZJ F0 b s v t late R l u hp'){j:Nat}(h1:b+1≤j)(h2:j≤b+3)(o:Option BB):AU F0 b (hp'.set j o) (b+19) (b+9) (b+17) (.slice none 0 0) s v t:=
 h.p.side (us:= [(j,o)]) (fun p hp_=>by
  simp only [List.mem_singleton] at hp_;subst hp_
  refine ⟨fun c=> ?_,fun c=>h.sep _ c ⟨h1,h2⟩⟩
  rcases c with c | c
  ·dsimp only at c;omega
  ·cases c) (fun p hp_=>by simp only [List.mem_singleton] at hp_;subst hp_;dsimp only;omega) (Nat.le_refl _)
theorem ZJ.wa (h:ZJ F0 b s v t late R l u hp'){R':List Int}(e:R'.length=R.length):ZJ F0 b s v t late R l u (hp'.set (b+1) (AO Ab R')):=
 ⟨h.side (by omega) (by omega) _,h.sep,by rw [AH _ _ _ _ (by omega)];exact h.i,⟨R',e,AB ..⟩,by rw [AH _ _ _ _ (by omega)];exact h.c,by rw [AH _ _ _ _ (by omega)];exact h.d⟩
theorem ZJ.wc (h:ZJ F0 b s v t late R l u hp'){l':List AX}(e:l'.length=l.length):ZJ F0 b s v t late R l u (hp'.set (b+2) (AO An l')):=
 ⟨h.side (by omega) (by omega) _,h.sep,by rw [AH _ _ _ _ (by omega)];exact h.i,by rw [AH _ _ _ _ (by omega)];exact h.a,⟨l',e,AB ..⟩,by rw [AH _ _ _ _ (by omega)];exact h.d⟩
theorem ZJ.wd (h:ZJ F0 b s v t late R l u hp'){u':List A8}(e:u'.length=u.length):ZJ F0 b s v t late R l u (hp'.set (b+3) (AO Ap u')):=
 ⟨h.side (by omega) (by omega) _,h.sep,by rw [AH _ _ _ _ (by omega)];exact h.i,by rw [AH _ _ _ _ (by omega)];exact h.a,by rw [AH _ _ _ _ (by omega)];exact h.c,⟨u',e,AB ..⟩⟩
end
def aU (b:Nat)(v:Value)(k i:Nat):Ew:= [(1,v,true),(5, .pointer (some ⟨b+7,0,none⟩),true),(7, .pointer (some ⟨b+9,0,none⟩),true),(9, .pointer (some ⟨b+17,0,none⟩),true),(k, .int .i64 (i:Int),true)]
def nw:Bp:= .pure (fun args hp=>match args with | [.agg ⟨[r,l,u, .int .i64 _]⟩,v]=>cw hp r l u∧Dp DP hp v | _=>False) (fun _ _=> .bool true)
theorem kL:BK Try.prog 5 nw:=by
 refine .Gx cr (fun _ _ _=>rfl) ?_
 intro args hp hpre top hcl hsc
 match args,hpre with
 | [.agg ⟨[r,l,u, .int .i64 late]⟩,v],⟨T,ds,h⟩=>
 have hs:=h.low hcl
 obtain ⟨R,hR⟩:=T.pr
 obtain ⟨ll,hL⟩:=T.pl
 obtain ⟨uu,hU⟩:=T.pu
 have rs:=hR.low hcl
 have ls:=hL.low hcl
 have us:=hU.low hcl
 have tk:∀ {h':Hp},AE top [] h' hp→cw h' r l u=True:=fun {h'} k=>by
  have k1:=hR.BT rs k
  have k2:=hL.BT ls k
  have k3:=hU.BT us k
  have r1:=T.rr
  have r2:=T.lr
  have r3:=T.ur
  rw [hR.rd] at r1
  rw [hL.rd] at r2
  rw [hU.rd] at r3
  exact eq_true ⟨⟨_,k1⟩,⟨_,k2⟩,⟨_,k3⟩,by rw [k1.rd];exact r1,by rw [k2.rd];exact r2,by rw [k3.rd];exact r3⟩
 have t1:∀ {h':Hp},AE top [] h' hp→Ab.rd h' r=R:=fun {h'} k=>(hR.BT rs k).rd
 have t2:∀ {h':Hp},AE top [] h' hp→An.rd h' l=ll:=fun {h'} k=>(hL.BT ls k).rd
 have t3:∀ {h':Hp},AE top [] h' hp→Ap.rd h' u=uu:=fun {h'} k=>(hU.BT us k).rd
 refine AL.Au BE cr rfl 136 rfl [.tmp 4] rfl (show 2≤136 by decide) ?_
 have hb1:∀(j:Nat),top≤j→hp j=none:=fun j hj=>by
  cases e:hp j with
  |none=>rfl
  |some o=>exact absurd (hcl.lt _ _ e) (by omega)
 refine CW.vc Dz [0,1,2,4,5,6,7,8,9,10,11,12,13,14,15,53,55,61,72,84,99,119,1000001,1000026] (by kernel_rfl) ?_
 (repeat ((first | refine Vc.mk' ?_ | refine CW.CE Dz 1 [0,1,2,4,5,6,7,8,9,10,11,12,13,14,15,53,55,61,72,84,99,119,1000001,1000026] [(0,4),(0,5),(2,1),(2,4),(2,5)] (by kernel_rfl) (by kernel_rfl) ?_ | refine CW.CE Dz 26 [0,1,2,4,5,6,7,8,9,10,11,12,13,14,15,53,55,61,72,84,99,119,1000001,1000026] [(3,5)] (by kernel_rfl) (by kernel_rfl) ?_ | skip);simp only [go_sem,reduceCtorEq,Nat.reduceAdd,Nat.reduceLeDiff,Nat.reduceEqDiff,rB,WQ,kF,u6,RJ,tk,t1,t2,t3]))
 generalize hH0:(((((((((((hp.set top (some (.cells true 0 [r,l,u, .int .i64 late]))).set (top+1) (AO Ab R)).set (top+2) (AO An ll)).set (top+3) (AO Ap uu)).set (top+4) (AO Ab R)).set (top+5) (AO An ll)).set (top+6) (AO Ap uu)).set (top+7) (some (.cells true 0 [.slice none 0 0, .slice none 0 0, .slice none 0 0, .int .i64 0]))).set (top+8) (some (.cells true 0 [.slice none 0 0, .slice none 0 0, .slice none 0 0, .int .i64 0]))).set (top+7) (some (.cells true 0 [AK (top+1) R,AK (top+2) ll,AK (top+3) uu, .int .i64 late]))).set (top+8) (some (.cells true 0 [AK (top+4) R,AK (top+5) ll,AK (top+6) uu, .int .i64 late])))=H0
 have n1:=AH
 have o7:H0 (top+7)=some (.cells true 0 [AK (top+1) R,AK (top+2) ll,AK (top+3) uu, .int .i64 late]):=by rw [←hH0,AH _ _ _ _ (by omega),AB]
 have o8:H0 (top+8)=some (.cells true 0 [AK (top+4) R,AK (top+5) ll,AK (top+6) uu, .int .i64 late]):=by rw [←hH0,AB]
 have o1:H0 (top+1)=AO Ab R:=by rw [←hH0];repeat (first | rw [AH _ _ _ _ (by omega)] | rw [AB])
 have o2:H0 (top+2)=AO An ll:=by rw [←hH0];repeat (first | rw [AH _ _ _ _ (by omega)] | rw [AB])
 have o3:H0 (top+3)=AO Ap uu:=by rw [←hH0];repeat (first | rw [AH _ _ _ _ (by omega)] | rw [AB])
 have o4:H0 (top+4)=AO Ab R:=by rw [←hH0];repeat (first | rw [AH _ _ _ _ (by omega)] | rw [AB])
 have o5:H0 (top+4+1)=AO An ll:=by rw [←hH0];repeat (first | rw [AH _ _ _ _ (by omega)] | rw [AB])
 have o6:H0 (top+4+2)=AO Ap uu:=by rw [←hH0];repeat (first | rw [AH _ _ _ _ (by omega)] | rw [AB])
 have K0:AE top [] H0 hp:=by
  rw [←hH0]
  repeat rw [AE.set (by omega)]
  rw [AE.refl];trivial
 clear hH0
 have SR:∀ {h':Hp} {b:Nat},h' b=AO Ab R→BU Ab h' (AK b R) R:=fun {h'} {b} e=> .KH e hR.le
 have SL:∀ {h':Hp} {b:Nat},h' b=AO An ll→BU An h' (AK b ll) ll:=fun {h'} {b} e=> .KH e hL.le
 have SU:∀ {h':Hp} {b:Nat},h' b=AO Ap uu→BU Ap h' (AK b uu) uu:=fun {h'} {b} e=> .KH e hU.le
 have p1:(∃R_1,BU Ab H0 (AK (top+1) R) R_1∧(R_1= []→AK (top+1) R= .slice none 0 0))=True:=eq_true ⟨R,SR o1,fun e=>by rw [e];rfl⟩
 have p2:=(SL o2).P
 have p3:=(SU o3).P
 have r1:=(SR o1).rd
 have r2:=(SL o2).rd
 have r3:=(SU o3).rd
 have p4:=(SR o4).P
 have p5:=(SL o5).P
 have p6:=(SU o6).P
 have r4:=(SR o4).rd
 have r5:=(SL o5).rd
 have r6:=(SU o6).rd
 by_cases he:MM R ll uu late=0
 case neg=>
  obtain ⟨q1,q2⟩:=ui he
  (repeat ((first | refine Vc.mk' ?_ | refine CW.CE Dz 1 [0,1,2,4,5,6,7,8,9,10,11,12,13,14,15,53,55,61,72,84,99,119,1000001,1000026] [(0,4),(0,5),(2,1),(2,4),(2,5)] (by kernel_rfl) (by kernel_rfl) ?_ | refine CW.CE Dz 26 [0,1,2,4,5,6,7,8,9,10,11,12,13,14,15,53,55,61,72,84,99,119,1000001,1000026] [(3,5)] (by kernel_rfl) (by kernel_rfl) ?_ | skip);simp only [go_sem,Nat.reduceAdd,Yh,OT,VT,MN,p1,p2,p3,r1,r2,r3,q1,o8,p4,p5,p6,r4,r5,r6,q2,he]))
  exact K0
 obtain ⟨e1,l1,l2,m,hm⟩:=Sv he
 have q1:=jO e1 l1 l2 hm
 have q2:=lJ e1 l1 l2 hm
 have P:=pd (F0:=hp) (base:=top) (rb:=top+4) (n:=top+9) o4 o5 o6 (by omega) (by omega) K0 e1 l1 l2 hm
 have hRn:=RU e1
 have hll:=(Gr.Cv e1).2.1
 have hul:=(S5 hm).1
 have RN:Ex 0 (GV R ll m uu.length late) (Pm R ll uu late):=Ex.new e1 l1 l2 hm
 generalize hH1:H0.AZ (FZ (top+9) (GV R ll m uu.length late))=H1 at P
 have lo:∀j,j < top+9→H1 j=H0 j:=fun j hj=>by rw [←hH1];exact CG fun p hp_ e=>by have:=Vy (Nat.le_refl (top+9)) p hp_;omega
 have o8':=(lo (top+8) (by omega)).trans o8
 have p4':=(SR ((lo (top+4) (by omega)).trans o4)).P
 have p5':=(SL ((lo (top+4+1) (by omega)).trans o5)).P
 have p6':=(SU ((lo (top+4+2) (by omega)).trans o6)).P
 have r4':=(SR ((lo (top+4) (by omega)).trans o4)).rd
 have r5':=(SL ((lo (top+4+1) (by omega)).trans o5)).rd
 have r6':=(SU ((lo (top+4+2) (by omega)).trans o6)).rd
 (repeat ((first | refine Vc.mk' ?_ | refine CW.CE Dz 1 [0,1,2,4,5,6,7,8,9,10,11,12,13,14,15,53,55,61,72,84,99,119,1000001,1000026] [(0,4),(0,5),(2,1),(2,4),(2,5)] (by kernel_rfl) (by kernel_rfl) ?_ | refine CW.CE Dz 26 [0,1,2,4,5,6,7,8,9,10,11,12,13,14,15,53,55,61,72,84,99,119,1000001,1000026] [(3,5)] (by kernel_rfl) (by kernel_rfl) ?_ | skip);simp only [go_sem,Nat.reduceAdd,Yh,OT,p1,p2,p3,r1,r2,r3,q1,hH1,o8',p4',p5',p6',r4',r5',r6',q2]))
 simp only [Aa,B6,Nat.add_assoc,Nat.reduceAdd] at P
 have i1:=(lo (top+7) (by omega)).trans o7
 have a1:=(lo (top+1) (by omega)).trans o1
 have c1:=(lo (top+2) (by omega)).trans o2
 have d1:=(lo (top+3) (by omega)).trans o3
 generalize hH2:(H1.set (top+17) (Az ⟨AK (top+4) R,AK (top+5) ll,AK (top+6) uu,top+18, .slice none 0 0⟩ (Pm R ll uu late))).set (top+18) (rN (List.replicate ll.length false))=H2 at P
 have Z:ZJ hp top (GV R ll m uu.length late) ⟨AK (top+4) R,AK (top+5) ll,AK (top+6) uu,top+18, .slice none 0 0⟩ (Pm R ll uu late) late R ll uu H2:=by
  refine ⟨P,fun j hj=> ?_, ?_,⟨R,rfl, ?_⟩,⟨ll,rfl, ?_⟩,⟨uu,rfl, ?_⟩⟩
  ·rcases hj with c | c | c | c | c | c
   ·omega
   ·have:j=top+18:=c
    omega
   ·have:=NY c;omega
   ·have:=NY c;omega
   ·have:=NY c;omega
   ·cases c
  all_goals rw [←hH2,AH _ _ _ _ (by omega),AH _ _ _ _ (by omega)];assumption
 clear hH2 P i1 a1 c1 d1 q1 q2 p1 p2 p3 r1 r2 r3 p4 p5 p6 r4 r5 r6 p4' p5' p6' r4' r5' r6' o8' o1 o2 o3 o4 o5 o6 o7 o8 lo hH1 K0
 generalize GV R ll m uu.length late=s0 at Z RN
 generalize (⟨AK (top+4) R,AK (top+5) ll,AK (top+6) uu,top+18, .slice none 0 0⟩:Bh)=v0 at Z
 generalize Pm R ll uu late=t0 at Z RN
 refine CW.eW (fun (k:Nat) (st:SS)=> ∃hp',st=⟨aU top v 11 k,hp',top+19⟩∧ZJ hp top s0 v0 t0 late R ll uu hp'∧k≤R.length) (fun k=>R.length - k) 0 _ ⟨_,rfl,Z,Nat.zero_le _⟩ (BO.vq (by simp [aU,Ax,Cd,Hb])) ?_
 clear Z
 rintro k _ ⟨hp',rfl,Z,hk⟩
 have zi:=Z.i
 obtain ⟨R',eR,aR⟩:=Z.a
 by_cases c:k < R.length
 ·have c':(k:Int) < (R.length:Int):=by omega
  have wk:BQ .i64 ((k:Int)+1)=((k+1:Nat):Int):=Av (n:=100) (by omega) (by omega)
  have eS:AK (top+1) R=AK (top+1) R':=Kp eR.symm
  have ix:BP tt.get 40 (AK (top+1) R) (.int .i64 (k:Int))=(BM (AK (top+1) R) (k * 1),True):=by
   have:=CN (BU.KH aR (by rw [eR];exact hR.le)) (k:= .i64) (n:=(k:Int)) (by omega) (by omega)
   rw [eS];rwa [Int.toNat_natCast] at this
  have st:Bg tt.get hp' 3 (BM (AK (top+1) R) (k * 1)) (.int .i64 0)=([(top+1,AO Ab (R'.set k 0))],True):=by
   rw [eS];exact rH aR (by omega)
  refine CW.vc Dz [0,1,2,4,5,6,7,8,9,10,11,12,13,14,15,53,55,61,72,84,99,119,1000001,1000026] (by kernel_rfl) ?_
  (repeat ((first | refine Vc.mk' ?_ | refine CW.CE Dz 1 [0,1,2,4,5,6,7,8,9,10,11,12,13,14,15,53,55,61,72,84,99,119,1000001,1000026] [(0,4),(0,5),(2,1),(2,4),(2,5)] (by kernel_rfl) (by kernel_rfl) ?_ | refine CW.CE Dz 26 [0,1,2,4,5,6,7,8,9,10,11,12,13,14,15,53,55,61,72,84,99,119,1000001,1000026] [(3,5)] (by kernel_rfl) (by kernel_rfl) ?_ | skip);simp only [go_sem,Nat.reduceAdd,aU,zi,c',ix,st,wk]))
  exact ⟨k+1,_,by show R.length - (k+1) < R.length - k;omega,⟨_,rfl,Z.wa (by rw [List.length_set];exact eR),c⟩,BO.vq (by simp [Ax,Cd,Hb])⟩
 have c':¬(k:Int) < (R.length:Int):=by omega
 refine CW.vc Dz [0,1,2,4,5,6,7,8,9,10,11,12,13,14,15,53,55,61,72,84,99,119,1000001,1000026] (by kernel_rfl) ?_
 (repeat ((first | refine Vc.mk' ?_ | refine CW.CE Dz 1 [0,1,2,4,5,6,7,8,9,10,11,12,13,14,15,53,55,61,72,84,99,119,1000001,1000026] [(0,4),(0,5),(2,1),(2,4),(2,5)] (by kernel_rfl) (by kernel_rfl) ?_ | refine CW.CE Dz 26 [0,1,2,4,5,6,7,8,9,10,11,12,13,14,15,53,55,61,72,84,99,119,1000001,1000026] [(3,5)] (by kernel_rfl) (by kernel_rfl) ?_ | skip);simp only [go_sem,Nat.reduceAdd,aU,zi,c']))
 clear zi eR aR R' hk c c'
 refine CW.eW (fun (k:Nat) (st:SS)=> ∃hp',st=⟨aU top v 12 k,hp',top+19⟩∧ZJ hp top s0 v0 t0 late R ll uu hp'∧k≤ll.length) (fun k=>ll.length - k) 0 _ ⟨_,rfl,Z,Nat.zero_le _⟩ (BO.vq (by simp [aU,Ax,Cd,Hb])) ?_
 clear Z
 rintro k _ ⟨hp',rfl,Z,hk⟩
 have zi:=Z.i
 obtain ⟨R',eR,aR⟩:=Z.c
 by_cases c:k < ll.length
 ·have c':(k:Int) < (ll.length:Int):=by omega
  have wk:BQ .i64 ((k:Int)+1)=((k+1:Nat):Int):=Av (n:=100) (by omega) (by omega)
  have eS:AK (top+2) ll=AK (top+2) R':=Kp eR.symm
  have ix:BP tt.get 50 (AK (top+2) ll) (.int .i64 (k:Int))=(BM (AK (top+2) ll) (k * 3),True):=by
   have:=B4 (BU.KH aR (by rw [eR];exact hL.le)) (k:= .i64) (n:=(k:Int)) (by omega) (by omega)
   rw [eS];rwa [Int.toNat_natCast] at this
  have st:Bg tt.get hp' 61 (BM (AK (top+2) ll) (k * 3)) (.agg ⟨[.int .i64 0, .int .i64 0, .int .i64 0]⟩)=([(top+2,AO An (R'.set k ⟨0,0,0⟩))],True):=by
   rw [eS];exact pF aR (by omega)
  refine CW.vc Dz [0,1,2,4,5,6,7,8,9,10,11,12,13,14,15,53,55,61,72,84,99,119,1000001,1000026] (by kernel_rfl) ?_
  (repeat ((first | refine Vc.mk' ?_ | refine CW.CE Dz 1 [0,1,2,4,5,6,7,8,9,10,11,12,13,14,15,53,55,61,72,84,99,119,1000001,1000026] [(0,4),(0,5),(2,1),(2,4),(2,5)] (by kernel_rfl) (by kernel_rfl) ?_ | refine CW.CE Dz 26 [0,1,2,4,5,6,7,8,9,10,11,12,13,14,15,53,55,61,72,84,99,119,1000001,1000026] [(3,5)] (by kernel_rfl) (by kernel_rfl) ?_ | skip);simp only [go_sem,Nat.reduceAdd,aU,zi,c',ix,st,wk]))
  exact ⟨k+1,_,by show ll.length - (k+1) < ll.length - k;omega,⟨_,rfl,Z.wc (by rw [List.length_set];exact eR),c⟩,BO.vq (by simp [Ax,Cd,Hb])⟩
 have c':¬(k:Int) < (ll.length:Int):=by omega
 refine CW.vc Dz [0,1,2,4,5,6,7,8,9,10,11,12,13,14,15,53,55,61,72,84,99,119,1000001,1000026] (by kernel_rfl) ?_
 (repeat ((first | refine Vc.mk' ?_ | refine CW.CE Dz 1 [0,1,2,4,5,6,7,8,9,10,11,12,13,14,15,53,55,61,72,84,99,119,1000001,1000026] [(0,4),(0,5),(2,1),(2,4),(2,5)] (by kernel_rfl) (by kernel_rfl) ?_ | refine CW.CE Dz 26 [0,1,2,4,5,6,7,8,9,10,11,12,13,14,15,53,55,61,72,84,99,119,1000001,1000026] [(3,5)] (by kernel_rfl) (by kernel_rfl) ?_ | skip);simp only [go_sem,Nat.reduceAdd,aU,zi,c']))
 clear zi eR aR R' hk c c'
 refine CW.eW (fun (k:Nat) (st:SS)=> ∃hp',st=⟨aU top v 13 k,hp',top+19⟩∧ZJ hp top s0 v0 t0 late R ll uu hp'∧k≤uu.length) (fun k=>uu.length - k) 0 _ ⟨_,rfl,Z,Nat.zero_le _⟩ (BO.vq (by simp [aU,Ax,Cd,Hb])) ?_
 clear Z
 rintro k _ ⟨hp',rfl,Z,hk⟩
 have zi:=Z.i
 obtain ⟨R',eR,aR⟩:=Z.d
 by_cases c:k < uu.length
 ·have c':(k:Int) < (uu.length:Int):=by omega
  have wk:BQ .i64 ((k:Int)+1)=((k+1:Nat):Int):=Av (n:=100) (by omega) (by omega)
  have eS:AK (top+3) uu=AK (top+3) R':=Kp eR.symm
  have ix:BP tt.get 39 (AK (top+3) uu) (.int .i64 (k:Int))=(BM (AK (top+3) uu) (k * 5),True):=by
   have:=JA (BU.KH aR (by rw [eR];exact hU.le)) (k:= .i64) (n:=(k:Int)) (by omega) (by omega)
   rw [eS];rwa [Int.toNat_natCast] at this
  have st:Bg tt.get hp' 63 (BM (AK (top+3) uu) (k * 5)) (.agg ⟨[.int .i64 0, .int .i64 0, .int .i64 0, .int .i64 0, .int .i64 0]⟩)=([(top+3,AO Ap (R'.set k ⟨0,0,0,0,0⟩))],True):=by
   rw [eS];exact kO aR (by omega)
  refine CW.vc Dz [0,1,2,4,5,6,7,8,9,10,11,12,13,14,15,53,55,61,72,84,99,119,1000001,1000026] (by kernel_rfl) ?_
  (repeat ((first | refine Vc.mk' ?_ | refine CW.CE Dz 1 [0,1,2,4,5,6,7,8,9,10,11,12,13,14,15,53,55,61,72,84,99,119,1000001,1000026] [(0,4),(0,5),(2,1),(2,4),(2,5)] (by kernel_rfl) (by kernel_rfl) ?_ | refine CW.CE Dz 26 [0,1,2,4,5,6,7,8,9,10,11,12,13,14,15,53,55,61,72,84,99,119,1000001,1000026] [(3,5)] (by kernel_rfl) (by kernel_rfl) ?_ | skip);simp only [go_sem,Nat.reduceAdd,aU,zi,c',ix,st,wk]))
  exact ⟨k+1,_,by show uu.length - (k+1) < uu.length - k;omega,⟨_,rfl,Z.wd (by rw [List.length_set];exact eR),c⟩,BO.vq (by simp [Ax,Cd,Hb])⟩
 have c':¬(k:Int) < (uu.length:Int):=by omega
 refine CW.vc Dz [0,1,2,4,5,6,7,8,9,10,11,12,13,14,15,53,55,61,72,84,99,119,1000001,1000026] (by kernel_rfl) ?_
 (repeat ((first | refine Vc.mk' ?_ | refine CW.CE Dz 1 [0,1,2,4,5,6,7,8,9,10,11,12,13,14,15,53,55,61,72,84,99,119,1000001,1000026] [(0,4),(0,5),(2,1),(2,4),(2,5)] (by kernel_rfl) (by kernel_rfl) ?_ | refine CW.CE Dz 26 [0,1,2,4,5,6,7,8,9,10,11,12,13,14,15,53,55,61,72,84,99,119,1000001,1000026] [(3,5)] (by kernel_rfl) (by kernel_rfl) ?_ | skip);simp only [go_sem,Nat.reduceAdd,aU,zi,c']))
 clear zi eR aR R' hk c c'
 have HS:EU hp top hp' (top+19) (top+9) (top+17) 0 (.slice none 0 0) s0 v0 t0:=⟨Z.p,RN,by decide⟩
 refine CW.eW (fun (k:Nat) (st:SS)=> ∃hp' T lv s' v' t',st=⟨aU top v 14 k,hp',T⟩∧EU hp top hp' T (top+9) (top+17) k lv s' v' t'∧k≤ds.length∧k≤150) (fun k=>ds.length - k) 0 _ ⟨_,_,_,_,_,_,rfl,HS,Nat.zero_le _,by decide⟩ (BO.vq (by simp [aU,Ax,Cd,Hb])) ?_
 clear HS Z RN
 rintro k _ ⟨hp',T',lv,s',v',t',rfl,H,hk,hk2⟩
 have h2:BU DP hp' v ds:=h.BT hs H.p.kp
 by_cases c:k < ds.length∧k < 150
 ·obtain ⟨c1,c2⟩:=c
  have c1':(k:Int) < (ds.length:Int):=by omega
  have c2':(k:Int) < 150:=by omega
  have wk:BQ .i64 ((k:Int)+1)=((k+1:Nat):Int):=Av (n:=1000) (by omega) (by omega)
  have ix:BP tt.get 53 v (.int .i64 (k:Int))=(BM v (k * 4),True):=by
   have:=vN h2 (k:= .i64) (n:=(k:Int)) (by omega) (by omega)
   rwa [Int.toNat_natCast] at this
  have ld:=zP h2 c1
  have ln:∀ {h':Hp},C6 tt.get h' 53 v=(.int .i64 (ds.length:Int),True):=fun {h'}=>dz h2
  have e1:=H.p.Bc.Bc.s
  have e2:=H.p.Bc.Bc.v
  have e3:=H.p.ref.s
  have e4:=H.p.ref.v
  have ps:(∃F0 base k lv s v t,EU F0 base hp' T' (top+9) (top+17) k lv s v t)=True:=eq_true ⟨_,_,_,_,_,_,_,H⟩
  obtain ⟨u1,u2⟩:=H.us (Aj ds k)
  obtain ⟨lv2,s2,v2,t2_,H2⟩:=H.post (by omega) (Aj ds k)
  have hT:=Cz (wv:=v2.wv) H2.p.ref.sl H2.p.ref.kl
  have hW:=Md (wv:=v2.wv) H2.p.ref.sl H2.p.ref.kl
  have lw:∀ {h':Hp},C6 tt.get h' 71 v2.wv=(.int .i64 (t2_.w.length:Int),True):=fun {h'}=>H2.p.ref.w.Hu GA
  have wl:=H2.r.wl
  have i5:=H2.p.Bc.Bc.is
  have s5:=H2.p.Bc.Bc.s
  have m5:=H2.p.ref.h
  simp only [Az] at m5
  rw [wl] at lw
  generalize hU2:JZ (top+9) (top+17) lv s' v' t' (Aj ds k) T' = UU at u1 u2 H2 i5 s5 m5
  obtain ⟨us,tp⟩:=UU
  dsimp only at u1 u2 H2 i5 s5 m5
  generalize hH5:hp'.AZ us=H5 at H2 i5 s5 m5
  refine CW.vc Dz [0,1,2,4,5,6,7,8,9,10,11,12,13,14,15,53,55,61,72,84,99,119,1000001,1000026] (by kernel_rfl) ?_
  (repeat ((first | refine Vc.mk' ?_ | refine CW.CE Dz 1 [0,1,2,4,5,6,7,8,9,10,11,12,13,14,15,53,55,61,72,84,99,119,1000001,1000026] [(0,4),(0,5),(2,1),(2,4),(2,5)] (by kernel_rfl) (by kernel_rfl) ?_ | refine CW.CE Dz 26 [0,1,2,4,5,6,7,8,9,10,11,12,13,14,15,53,55,61,72,84,99,119,1000001,1000026] [(3,5)] (by kernel_rfl) (by kernel_rfl) ?_ | skip);simp only [go_sem,Nat.reduceAdd,aU,c1',c2',ix,ld,ln,wk,kH,RW,ps,e1,e2,e3,e4,hU2,u1,u2,hH5,vG,QH,i5,s5,m5,hT,hW,lw]))
  exact ⟨k+1,_,by show ds.length - (k+1) < ds.length - k;omega,⟨_,_,_,_,_,_,rfl,H2,c1,c2⟩,BO.vq (by simp [Ax,Cd,Hb])⟩
 have c':(decide (k < ds.length) && decide ((k:Int) < 150))=false:=by
  cases q:decide (k < ds.length) && decide ((k:Int) < 150) with
  |false=>rfl
  |true=>simp only [Bool.and_eq_true,decide_eq_true_eq] at q;exact absurd ⟨by omega,by omega⟩ c
 have ln:∀ {h':Hp},C6 tt.get h' 53 v=(.int .i64 (ds.length:Int),True):=fun {h'}=>dz h2
 have iE:=H.p.Bc.Bc.is
 have eE:=H.p.Bc.Bc.s
 have gE:dP s' = True:=eq_true H.r.l.Pw
 obtain ⟨f1,f2⟩:=H.r.l.ADv
 have nl:(DC t').length≤1000000:=bV _ _
 have el:(C7 t').length≤1000000:=ak _ _
 have rl:(t'.R.length≤1000)=True:=eq_true (by have:=H.r.l.rn;omega)
 have gr:∀T,Ww t' T=(.agg ⟨[AK T (DC t'),AK (T+1) (C7 t')]⟩, [(T,AO Ab (DC t')),(T+1,AO A9 (C7 t'))],T+2):=fun T=>rfl
 have P3:=(((H.p.new (AO Ab (DC t'))).new (AO A9 (C7 t'))).new (some (.cells true 0 [AK T' (DC t'),AK (T'+1) (C7 t')])))
 refine CW.vc Dz [0,1,2,4,5,6,7,8,9,10,11,12,13,14,15,53,55,61,72,84,99,119,1000001,1000026] (by kernel_rfl) ?_
 (repeat ((first | refine Vc.mk' ?_ | refine CW.CE Dz 1 [0,1,2,4,5,6,7,8,9,10,11,12,13,14,15,53,55,61,72,84,99,119,1000001,1000026] [(0,4),(0,5),(2,1),(2,4),(2,5)] (by kernel_rfl) (by kernel_rfl) ?_ | refine CW.CE Dz 26 [0,1,2,4,5,6,7,8,9,10,11,12,13,14,15,53,55,61,72,84,99,119,1000001,1000026] [(3,5)] (by kernel_rfl) (by kernel_rfl) ?_ | skip);simp only [go_sem,Nat.reduceAdd,VT,MN,aU,ln,c',gX,O5,iE,eE,gE,SF,f1,f2,ie,Ji,oN,Gr.PB]))
 generalize hA:((hp'.set T' (AO Ab (DC t'))).set (T'+1) (AO A9 (C7 t'))).set (T'+2) (some (.cells true 0 [AK T' (DC t'),AK (T'+1) (C7 t')]))=HA at P3
 have x0:HA T' = AO Ab (DC t'):=by rw [←hA,AH _ _ _ _ (by omega),AH _ _ _ _ (by omega),AB]
 have x1:HA (T'+1)=AO A9 (C7 t'):=by rw [←hA,AH _ _ _ _ (by omega),AB]
 have x2:HA (T'+2)=some (.cells true 0 [AK T' (DC t'),AK (T'+1) (C7 t')]):=by rw [←hA,AB]
 have iA:=P3.ref.is
 have sA:=P3.ref.s
 have P5:=(P3.new (AO Ab (DC t'))).new (AO A9 (C7 t'))
 have eT:∀o1 o2,(HA.set (T'+1+1+1) o1).set (T'+1+1+1+1) o2=(HA.set (T'+3) o1).set (T'+4) o2:=fun _ _=>rfl
 rw [eT] at P5
 generalize hB:(HA.set (T'+3) (AO Ab (DC t'))).set (T'+4) (AO A9 (C7 t'))=HB at P5
 have y2:HB (T'+2)=some (.cells true 0 [AK T' (DC t'),AK (T'+1) (C7 t')]):=by rw [←hB,AH _ _ _ _ (by omega),AH _ _ _ _ (by omega)];exact x2
 have z0:BU Ab HB (AK T' (DC t')) (DC t'):= .KH (by rw [←hB,AH _ _ _ _ (by omega),AH _ _ _ _ (by omega)];exact x0) (by omega)
 have z1:BU A9 HB (AK (T'+1) (C7 t')) (C7 t'):= .KH (by rw [←hB,AH _ _ _ _ (by omega),AH _ _ _ _ (by omega)];exact x1) (by omega)
 have z2:BU Ab HB (AK (T'+3) (DC t')) (DC t'):= .KH (by rw [←hB,AH _ _ _ _ (by omega),AB]) (by omega)
 have z3:BU A9 HB (AK (T'+4) (C7 t')) (C7 t'):= .KH (by rw [←hB,AB]) (by omega)
 have w0:=z0.P
 have w1:=z1.P
 have w2:=z2.P
 have w3:=z3.P
 have r0:=z0.rd
 have r1:=z1.rd
 have r2:=z2.rd
 have r3:=z3.rd
 (repeat ((first | refine Vc.mk' ?_ | refine CW.CE Dz 1 [0,1,2,4,5,6,7,8,9,10,11,12,13,14,15,53,55,61,72,84,99,119,1000001,1000026] [(0,4),(0,5),(2,1),(2,4),(2,5)] (by kernel_rfl) (by kernel_rfl) ?_ | refine CW.CE Dz 26 [0,1,2,4,5,6,7,8,9,10,11,12,13,14,15,53,55,61,72,84,99,119,1000001,1000026] [(3,5)] (by kernel_rfl) (by kernel_rfl) ?_ | skip);simp only [go_sem,Nat.reduceAdd,Nat.reduceLeDiff,iA,sA,rl,gr,hB,y2,w0,w1,w2,w3,r0,r1,r2,r3,Ea]))
 exact P5.kp
end Go.Proofs.Ytmppehipfpkepaa.Dm
