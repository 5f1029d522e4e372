/- The Bc: DeleteFunc for lost, as a contract. -/
import Derived.Test.YtmppehipfpkepaaN15
set_option linter.unusedVariables false
namespace Go.Proofs.Ytmppehipfpkepaa.Dm
open Go.Dm
set_option maxHeartbeats 16000000
set_option maxRecDepth 20000
theorem zI {P:Program}{f:FuncId}{args:List Value}{hp:Hp}{top:Nat}{ι:Type}{Φ:ι→Prop}{r:ι→Value×BC×Nat}
  (h:Cl hp top→RD top args→AL P f args hp top fun v1 h1 top1=> ∃m,Φ m∧top≤top1∧∃bs,ug hp top bs (r m) v1 h1 top1) :
  AL P f args hp top fun v hp' top'=> ∃m,Φ m∧v=(r m).1∧hp' = hp.AZ (r m).2.1∧top' = (r m).2.2:=by
 intro φ own w args' ha H htop
 have hcl:=H.cl htop
 refine (h hcl (Vs.sc htop ha) φ own w args' ha H htop).mono ?_
 rintro e w' ⟨v1,h1,top1,v',φ1,rfl,⟨m,hm,ht,bs,R⟩,W⟩
 have hlow:∀j,j < top→rn top bs top1 j=j:=fun j hj=>AA hj
 have hhigh:∀j,(r m).2.2≤j→top1≤rn top bs top1 j:=fun j hj=>by rw [YN (by rw [←R.tp];exact hj)];exact Nat.le_refl _
 refine ⟨(r m).1,hp.AZ (r m).2.1,(r m).2.2,v',φ1.via (rn top bs top1),rfl,⟨m,hm,rfl,rfl,rfl⟩,⟨?_, ?_, ?_,W.k, ?_⟩⟩
 ·intro i L e
  have hi:i < top:=by
   rcases Nat.lt_or_ge i top with h | h
   ·exact h
   ·rw [htop i h] at e;cases e
  unfold Ren.via
  rw [hlow i hi];exact W.le _ _ e
 ·refine V.Fk ?_
  rw [←R.v];exact W.v
 ·refine W.hr.Fk W.top hhigh (by rw [R.tp];exact cX R.nodup R.ge) ?_
  exact mY hcl hlow (r m).2.1 (fun i hi hk=>R.BT i hi (fun hm=>by obtain ⟨p,h1,h2⟩:=List.mem_map.1 hm;exact hk p h1 h2)) R.T5.get
 ·intro j hj
  exact W.top _ (hhigh j hj)
def EM (p:Ah→Bool)(l:List Ah):List Ae:=(l.filter p).map Dl
def Pe (ob top:Nat)(g:List Ae):BC:=if g= [] then [] else [(ob,some (.cells true 0 [AK top g])),(top,AO AJ g)]
def Q0 (p:Ah→Bool)(ob:Nat)(v:Value)(l:List Ah)(top:Nat):Value×BC×Nat:=(N7 v (C3 p l),Nk AP v (C3 p l) ++ Pe ob top (EM p l),if EM p l= [] then top else top+1)
def wP (hp:Hp)(f:Value):Prop:= ∃b nb ob n s,f=UH b∧GI hp b nb ob n s∧hp ob=some (.cells true 0 [.slice none 0 0])
def Ua:Bp:= .det (fun args hp _=>match args with | [v,f]=>(∃l,E0 AP hp v l∧l.length≤1000000)∧wP hp f | _=>False)
 (fun args hp top=>match args with | [v, .func _ _ ⟨[.pointer (some ⟨b,_,_⟩)]⟩]=>Q0 (Ue hp b) (X7 hp b) v (AP.rd hp v) top | _=>(undef, [],top))
theorem si {s:Ak}{l:List Ah}:Dx s l l.length=EM (Ay s) l:=by unfold Dx EM;rw [List.take_length]
theorem ABa:BK Try.prog 84 Ua:=by
 refine ⟨⟨_,RP.toFTOk⟩,fun args hp top hpre=> ?_⟩
 match args,hpre with
 | [v,_],⟨⟨l,hO,hn⟩,⟨bf,nb,ob,n,s,rfl,hK,ha⟩⟩=>
 simp only [hO.Rn.rd,UH]
 rw [hK.down,hK.out]
 by_cases hx:l.findIdx (Ay s) < l.length
 ·have hdn:Ay s l[l.findIdx (Ay s)] = true:=List.findIdx_getElem
  have hg:EM (Ay s) l≠ []:=fun e=>by
   have:Dl l[l.findIdx (Ay s)]∈EM (Ay s) l:=List.mem_map.2 ⟨_,List.mem_filter.2 ⟨List.getElem_mem hx,hdn⟩,rfl⟩
   rw [e] at this;cases this
  cases hO with
  |nil=>simp at hx
  |Cy b l hb hn'=>
   cases l with
   |nil=>simp at hx
   |cons a l=>
    show AL Try.prog 84 [AK b (a :: l),UH bf] hp top _
    intro φ own w args' ha' H htop
    have hcl:=H.cl htop
    have hob:ob≠b:=fun e=>by rw [e] at ha;rw [ha] at hb;exact absurd (EB hb) (by decide)
    have hbt:b < top:=hcl.lt _ _ hb
    have hus:∀p∈ [(ob,some (BB.cells true 0 [AK top (EM (Ay s) (a :: l))])),(top,AO AJ (EM (Ay s) (a :: l)))],p.1≠b:=by
     intro p hp
     simp only [List.mem_cons,List.not_mem_nil,or_false] at hp
     rcases hp with rfl | rfl
     ·exact hob
     ·exact fun e=>by simp only at e;omega
    refine Calls.mono (qm (b:=b) (i:=(C3 (Ay s) (a :: l)).length) (z:=5) (rows:=AP.flat (C3 (Ay s) (a :: l))) (top2:=top+1) hus ?_ φ own w args' ha' H htop) ?_
    ·intro φ own w args' ha' H htop
     refine Calls.mono (zI (fun hcl hsc=>yn hp top b bf nb ob n s (a :: l) hb hK ha hn hx hcl hsc) φ own w args' ha' H htop) ?_
     rintro e w' ⟨v1,h1,t1,v',φ',rfl,⟨x,⟨hx1,hx2⟩,rfl,rfl,rfl⟩,W⟩
     exact ⟨_,_,_,v',φ',rfl,⟨x.2.2,x.1,by rw [←hx1];rfl,by rw [nG,si],rfl,by rw [←hx1,hx2]⟩,W⟩
    ·rintro e w' ⟨v1,h1,t1,v',φ',rfl,⟨rfl,rfl,rfl⟩,W⟩
     refine ⟨_,_,_,v',φ',rfl,⟨rfl, ?_, ?_⟩,W⟩
     ·unfold Q0 Pe;rw [if_neg hg];rfl
     ·unfold Q0;rw [if_neg hg]
 ·have hno:∀a∈l,Ay s a=false:=fun a ha'=>by
   cases c:Ay s a with
   |false=>rfl
   |true=>exact absurd (List.findIdx_lt_length_of_exists ⟨a,ha',c⟩) hx
  have hk:C3 (Ay s) l=l:=by
   unfold C3
   rw [List.filter_eq_self]
   intro a ha';rw [hno a ha'];rfl
  have hg:EM (Ay s) l= []:=by
   unfold EM
   rw [List.filter_eq_nil_iff.2 fun a ha'=>by rw [hno a ha'];simp];rfl
  refine AL.Cc (r:=Q0 (Ay s) ob v l top) ?_
  intro hcl hsc
  have lvs:=hO.Rn.low hcl
  have hSP:Dp AP hp v=True:=hO.Rn.P
  have hSr:AP.rd hp v=l:=hO.Rn.rd
  have hFn:lh hp (.func (.func 85) ⟨[]⟩ ⟨[.pointer (some ⟨bf,0,none⟩)]⟩)=True:=eq_true ⟨bf,nb,ob,n,s,rfl,hK,0, [],ha,fun h=>absurd rfl h,by decide⟩
  have hIx:∀ {t:Nat},U0 hp bf l t=(.int .i64 (-1), [],t):=fun {t}=>by
   unfold U0
   rw [hK.down,dif_neg hx]
  unfold Q0 Pe
  rw [hk,if_pos hg,if_pos hg]
  refine AL.Au BE RP rfl 42 rfl [.tmp 4] rfl (show 2≤42 by decide) ?_
  refine CW.vc NH [0,1,4,5,6,7,12,19,29] (by kernel_rfl) ?_
  (repeat ((try refine Vc.mk' ?_);simp only [go_sem,oQ,Z5,hSP,hSr,hn,hFn,hIx]))
  cases hO with
  |nil=>
   simp only [N7,Nk]
   (refine ⟨[],by simp,by simp,by simp, ?_, ?_, ?_⟩ <;> simp [Ad,AD.nil,AE.refl])
  |Cy b l hb hn'=>
   have hbt:b < top:=lvs
   simp only [N7,Nk,Df,Dv]
   (refine ⟨[],by simp,by simp,by simp, ?_, ?_, ?_⟩ <;> simp [Ad,AD.nil,AD.cons,AF,AG,Bn.BN,AE.refl,AA hbt,hb,Bn.BN])
noncomputable def fS:FuncId→Bp:=Bu fP 84 Ua
theorem RZ:Cf Try.prog tt.get fS:=NH.add ABa
theorem bj:fS 84=Ua:=rfl
theorem TH:fS 54=EI:=rfl
end Go.Proofs.Ytmppehipfpkepaa.Dm
/- The Bc: Sift for lost. -/
set_option linter.unusedVariables false
namespace Go.Proofs.Ytmppehipfpkepaa.Dm
open Go.Dm
set_option maxHeartbeats 16000000
set_option maxRecDepth 20000
def wK (hp:Hp)(f:Value):Prop:= ∃nb ob n s,f=Na nb ob∧hp nb=some (.cells true 0 [.pointer (some ⟨n,0,none⟩)])∧OH hp n s∧hp ob=some (.cells true 0 [.slice none 0 0])
def LW (p:Ah→Bool)(cb:Nat)(last:Int)(ob:Nat)(lv:Value)(l:List Ah)(top:Nat):Value×BC×Nat:=
 (.int .i64 ((l.length:Int) - ((C3 p l).length:Int)),(cb,Bv last (N7 lv (C3 p l))) :: (Nk AP lv (C3 p l) ++ Pe ob top (EM p l)),if EM p l= [] then top else top+1)
def Ys (hp:Hp)(nb:Nat)(a:Ah):Bool:= !iB hp (ER hp nb) a.Fq a.NM
def NA:Bp:= .det (fun args hp _=>match args with | [.pointer (some ⟨cb,0,none⟩),f]=>(∃last lv l,Cp hp cb last lv l)∧wK hp f | _=>False) (fun args hp top=>match args with
 | [.pointer (some ⟨cb,_,_⟩), .func _ _ ⟨[.pointer (some ⟨nb,_,_⟩), .pointer (some ⟨ob,_,_⟩)]⟩]=>LW (Ys hp nb) cb (Eo hp cb) ob (He hp cb) (AP.rd hp (He hp cb)) top | _=>(undef, [],top))
theorem Ug {p:Ah→Bool}{l:List Ah}:(C3 p l).length≤l.length:=kj
theorem wN {h':Hp}{a:Option Addr}{n c:Nat}:C6 tt.get h' 114 (.slice a n c)=(.int .i64 (n:Int),True):=by
 unfold C6;simp only [F6,FD,It,OZ];rfl
theorem r8:BK Try.prog 64 NA:=by
 refine .Cc PE ?_
 intro args hp top hpre hcl hsc
 match args,hpre with
 | [.pointer (some ⟨cb,0,none⟩),_],⟨⟨last,lv,l,C⟩,nb,ob,n,s,rfl,hnb,hU,ha⟩=>
 have hh:=C.h
 have hcbt:cb < top:=hcl.lt _ _ hh
 have hat:ob < top:=hcl.lt _ _ ha
 have hnt:nb < top:=hcl.lt _ _ hnb
 have hS:=C.o.Rn
 have lvs:=C.low hcl
 have hn:=C.n
 have hcc:¬cb=top:=by omega
 have hcc':¬top=cb:=by omega
 have hobt:¬ob=top:=by omega
 have hobt':¬top=ob:=by omega
 have hob:¬ob=cb:=fun e=>by rw [e,hh] at ha;simp at ha
 have hob':¬cb=ob:=fun e=>hob e.symm
 have hic:∀ {h':Hp},h' cb=some (.cells true 0 [.bool true, .int .i64 last,lv])→Ye h' cb=True:=fun h=>eq_true ⟨_,_,_,h⟩
 simp only [Na,He,Eo,hh,El,List.getElem?_cons_succ,List.getElem?_cons_zero,Option.getD_some,BA,hS.rd]
 have hdn:Ys hp nb=Ay s:=by
  funext a
  unfold Ys Ay
  rw [show ER hp nb=n from by unfold ER;rw [hnb];rfl,hU.eq]
 rw [hdn]
 have hOw:∀ {h':Hp},AE top [] h' hp→(∃l,E0 AP h' lv l∧l.length≤1000000)=True:=fun {h'} hk=>eq_true ⟨l,C.o.mono fun b n c e=>by subst e;exact hk b lvs (by simp),hn⟩
 have hrd:∀ {h':Hp},AE top [] h' hp→AP.rd h' lv=l:=fun {h'} hk=>(C.o.mono fun b n c e=>by subst e;exact hk b lvs (by simp)).Rn.rd
 have hLt:GI (hp.set top (some (.cells true 0 [Na nb ob]))) top nb ob n s:=⟨AB ..,(AH _ _ _ _ (by omega)).trans hnb,hU.BT hcl fun i hi=>AH _ _ _ _ (by omega)⟩
 have hDp:wP (hp.set top (some (.cells true 0 [Na nb ob]))) (.func (.func 85) ⟨[]⟩ ⟨[.pointer (some ⟨top,0,none⟩)]⟩)=True:=eq_true ⟨top,nb,ob,n,s,rfl,hLt,(AH _ _ _ _ (by omega)).trans ha⟩
 have hDd:=hLt.down
 have hDo:=hLt.out
 simp only [Na] at hDp hDd hDo
 have hkl:=Ug (p:=Ay s) (l:=l)
 have hwk:BQ .i64 ((l.length:Int) - ((C3 (Ay s) l).length:Int))=(l.length:Int) - ((C3 (Ay s) l).length:Int):=wrap64 (by omega) (by omega)
 have hap:=C.ap
 have ho:=C.o
 rcases CT ho with ⟨rfl,hnil⟩ | ⟨q,rfl,hq⟩
 ·subst hnil
  refine AL.Au BE PE rfl 33 rfl [.tmp 4] rfl (show 2≤33 by decide) ?_
  refine CW.vc RZ [0,1,3,4,5,11] (by kernel_rfl) ?_
  have g0:EM (Ay s) [] = []:=rfl
  have k0:C3 (Ay s) [] = []:=rfl
  (repeat ((try refine Vc.mk' ?_);simp only [go_sem,Nat.reduceAdd,TH,EI,bj,Ua,List.headD_cons,hh,hic,AS hcbt,hOw,hrd,FM,Hc,hDp,hDd,hDo,Q0,EH hS,hS.oc,hS.cl,g0,N7,Nk,Pe,List.append_nil]))
  have w00:BQ .i64 (((0:Nat):Int) - ((0:Nat):Int))=((0:Nat):Int) - ((0:Nat):Int):=by decide
  simp only [LW,g0,k0,N7,Nk,Pe,if_true,List.append_nil,List.length_nil,w00]
  (refine ⟨[],by simp,by simp,by simp, ?_, ?_, ?_⟩ <;> simp [Ad,Ag,AD.nil,AD.cons,AF,AG,AB,AE.set,AE.B5,AE.refl,Bv,AA hcbt])
 ·have hqt:q < top:=lvs
  have hqc:¬q=cb:=fun e=>by rw [e,hh] at hq;exact absurd (EB hq) (by decide)
  have hcq:¬cb=q:=fun e=>hqc e.symm
  have hqo:¬q=ob:=fun e=>by rw [e,ha] at hq;exact absurd (EB hq) (by decide)
  have hoq:¬ob=q:=fun e=>hqo e.symm
  have htq:¬top=q:=by omega
  have hqt':¬q=top:=by omega
  have ht1c:¬top+1=cb:=by omega
  have ht1o:¬top+1=ob:=by omega
  have ht1q:¬top+1=q:=by omega
  have hc1:¬cb=top+1:=by omega
  have ho1:¬ob=top+1:=by omega
  have hq1:¬q=top+1:=by omega
  by_cases hg:EM (Ay s) l= []
  ·refine AL.Au BE PE rfl 33 rfl [.tmp 4] rfl (show 2≤33 by decide) ?_
   refine CW.vc RZ [0,1,3,4,5,11] (by kernel_rfl) ?_
   (repeat ((try refine Vc.mk' ?_);simp only [go_sem,Nat.reduceAdd,TH,EI,bj,Ua,List.headD_cons,hh,hic,AS hcbt,hOw,hrd,FM,Hc,hDp,hDd,hDo,Q0,EH hS,hg,N7,Nk,Pe,Df,Dv,List.append_nil,hcq,hwk,wN]))
   simp only [LW,hg,N7,Nk,Pe,if_true,List.append_nil]
   (refine ⟨[],by simp,by simp,by simp, ?_, ?_, ?_⟩ <;> simp [Ad,Ag,AD.nil,AD.cons,AF,AG,Bn.BN,AB,AH,AE.set,AE.B5,AE.refl,Bv,Df,Dv,AA hcbt,AA hqt,hqc,hcq,Bn.BN])
  ·refine AL.Au BE PE rfl 33 rfl [.tmp 4] rfl (show 2≤33 by decide) ?_
   refine CW.vc RZ [0,1,3,4,5,11] (by kernel_rfl) ?_
   (repeat ((try refine Vc.mk' ?_);simp only [go_sem,Nat.reduceAdd,TH,EI,bj,Ua,List.headD_cons,hh,hic,AS hcbt,hOw,hrd,FM,Hc,hDp,hDd,hDo,Q0,EH hS,hg,N7,Nk,Pe,Df,Dv,List.append_nil,List.cons_append,List.nil_append,hcq,hob',hwk,wN]))
   simp only [LW,hg,N7,Nk,Pe,if_false,List.cons_append,List.nil_append]
   (refine ⟨[top+1],by simp,by simp,by simp, ?_, ?_, ?_⟩ <;> simp [Ad,Ag,AD.nil,AD.cons,AF,AG,AQ,AM,Af,Bn.BN,AB,AH,AE.set,AE.B5,AE.refl,Bv,Df,Dv,AA hcbt,AA hqt,AA hat,hqc,hcq,hqo,hoq,hqt',ht1c,ho1,hq1,hob,hob',Bn.BN])
end Go.Proofs.Ytmppehipfpkepaa.Dm
/- The Bc: lost. -/
set_option linter.unusedVariables false
namespace Go.Proofs.Ytmppehipfpkepaa.Dm
open Go.Dm
set_option maxHeartbeats 16000000
set_option maxRecDepth 20000
noncomputable def mT:FuncId→Bp:=Bu fS 64 NA
theorem Rb:Cf Try.prog tt.get mT:=RZ.add r8
theorem R7:mT 64=NA:=rfl
def Et (n:Nat)(lv:Value)(s:Ak)(top:Nat):Value×BC×Nat:=
 (AK top (EM (Ay s) s.l),(n+6,Bv s.last (N7 lv (C3 (Ay s) s.l))) :: (Nk AP lv (C3 (Ay s) s.l) ++ [(top,AO AJ (EM (Ay s) s.l))]),top+1)
noncomputable def PC:Bp:= .det (fun args hp _=>match args with | [.pointer (some ⟨n,0,none⟩)]=>F2 hp n | _=>False) (fun args hp top=>match args with
 | [.pointer (some ⟨n,_,_⟩)]=>Et n (Wn hp n) (Im hp n) top | _=>(undef, [],top))
theorem uf:BK Try.prog 36 PC:=by
 refine .Cc Ol ?_
 intro args hp top hpre hcl hsc
 match args,hpre with
 | [.pointer (some ⟨n,0,none⟩)],⟨lv,s,h⟩=>
 simp only [h.s,h.v]
 have hlow:=h.low hcl
 have n0:n < top:=by omega
 have n6:n+6 < top:=by omega
 have hh:=h.h
 have lvs:=h.W.low hcl
 obtain ⟨H,hH⟩:∃H,(hp.set top (some (.cells true 0 [.pointer (some ⟨n,0,none⟩)]))).set (top+1) (some (.cells true 0 [.slice none 0 0]))=H:=⟨_,rfl⟩
 have hk:BW ((hp.set top (some (.cells true 0 [.pointer (some ⟨n,0,none⟩)]))).set (top+1) (some (.cells true 0 [.slice none 0 0]))) n lv s:=h.BT hcl fun i hi=>by rw [AH _ _ _ _ (by omega),AH _ _ _ _ (by omega)]
 have hC:(∃last v l,Cp ((hp.set top (some (.cells true 0 [.pointer (some ⟨n,0,none⟩)]))).set (top+1) (some (.cells true 0 [.slice none 0 0]))) (n+6) last v l)=True:=eq_true ⟨_,_,_,hk.W⟩
 have hSf:wK ((hp.set top (some (.cells true 0 [.pointer (some ⟨n,0,none⟩)]))).set (top+1) (some (.cells true 0 [.slice none 0 0]))) (Na top (top+1))=True:=
  eq_true ⟨top,top+1,n,s,rfl,(AH _ _ _ _ (by omega)).trans (AB ..),hk.up,AB ..⟩
 have hcl0:Eo ((hp.set top (some (.cells true 0 [.pointer (some ⟨n,0,none⟩)]))).set (top+1) (some (.cells true 0 [.slice none 0 0]))) (n+6)=s.last:=by unfold Eo;rw [hk.W.h];rfl
 have hcv:He ((hp.set top (some (.cells true 0 [.pointer (some ⟨n,0,none⟩)]))).set (top+1) (some (.cells true 0 [.slice none 0 0]))) (n+6)=lv:=hk.W.He
 have hrd:AP.rd ((hp.set top (some (.cells true 0 [.pointer (some ⟨n,0,none⟩)]))).set (top+1) (some (.cells true 0 [.slice none 0 0]))) lv=s.l:=hk.W.rd
 have hdw:Ys ((hp.set top (some (.cells true 0 [.pointer (some ⟨n,0,none⟩)]))).set (top+1) (some (.cells true 0 [.slice none 0 0]))) top=Ay s:=by
  funext a
  unfold Ys Ay
  rw [show ER ((hp.set top (some (.cells true 0 [.pointer (some ⟨n,0,none⟩)]))).set (top+1) (some (.cells true 0 [.slice none 0 0]))) top=n from by unfold ER;rw [AH _ _ _ _ (by omega),AB];rfl,hk.up.eq]
 simp only [Na] at hSf
 have m6:¬top=n+6:=by omega
 have m61:¬top+1=n+6:=by omega
 have m62:¬top+2=n+6:=by omega
 have m6a:¬n+6=top:=by omega
 have m6b:¬n+6=top+1:=by omega
 have m6c:¬n+6=top+2:=by omega
 have w6:=h.W.h
 have ho:=h.W.o
 rcases CT ho with ⟨rfl,hnil⟩ | ⟨q,rfl,hq⟩
 ·have g0:EM (Ay s) s.l= []:=by rw [hnil];rfl
  have k0:C3 (Ay s) s.l= []:=by rw [hnil];rfl
  refine AL.Au BE Ol rfl 11 rfl [.tmp 2] rfl (show 1≤11 by decide) ?_
  refine CW.vc Rb [0,1,2,3] (by kernel_rfl) ?_
  (repeat ((try refine Vc.mk' ?_);simp only [go_sem,reduceCtorEq,Nat.reduceAdd,hh,Bi,R7,NA,hC,hSf,hcl0,hcv,hrd,hdw,LW,AS n0,FM,Hc,g0,k0,N7,Nk,Pe,Bv,List.append_nil,m61]))
  simp only [Et,g0,N7,Nk,List.nil_append]
  (refine ⟨[top+1],by simp,by simp,by simp, ?_, ?_, ?_⟩ <;> simp [Ad,Ag,AD.nil,AD.cons,AF,AG,AM,AB,AE.set,AE.B5,AE.refl,Bv,AA n6,Dh,EN,m6a])
 ·have hqt:q < top:=lvs
  have hqc:¬q=n+6:=fun e=>by rw [e,w6] at hq;exact absurd (EB hq) (by decide)
  have hcq:¬n+6=q:=fun e=>hqc e.symm
  have a0:¬top=q:=by omega
  have a1:¬top+1=q:=by omega
  have a2:¬top+2=q:=by omega
  have b0:¬q=top:=by omega
  have b1:¬q=top+1:=by omega
  have b2:¬q=top+2:=by omega
  by_cases hg:EM (Ay s) s.l= []
  ·refine AL.Au BE Ol rfl 11 rfl [.tmp 2] rfl (show 1≤11 by decide) ?_
   refine CW.vc Rb [0,1,2,3] (by kernel_rfl) ?_
   (repeat ((try refine Vc.mk' ?_);simp only [go_sem,reduceCtorEq,Nat.reduceAdd,hh,Bi,R7,NA,hC,hSf,hcl0,hcv,hrd,hdw,LW,AS n0,FM,Hc,hg,N7,Nk,Pe,Df,Dv,Bv,List.append_nil,m61,a1]))
   simp only [Et,hg,N7,Nk,Dh,EN]
   (refine ⟨[top+1],by simp,by simp,by simp, ?_, ?_, ?_⟩ <;> simp [Ad,Ag,AD.nil,AD.cons,AF,AG,AM,Bn.BN,AB,AH,AE.set,AE.B5,AE.refl,Bv,Df,Dv,AA n6,AA hqt,m6a,hqc,hcq,a1,b0,Bn.BN])
  ·refine AL.Au BE Ol rfl 11 rfl [.tmp 2] rfl (show 1≤11 by decide) ?_
   refine CW.vc Rb [0,1,2,3] (by kernel_rfl) ?_
   (repeat ((try refine Vc.mk' ?_);simp only [go_sem,reduceCtorEq,Nat.reduceAdd,Nat.reduceEqDiff,hh,Bi,R7,NA,hC,hSf,hcl0,hcv,hrd,hdw,LW,AS n0,FM,Hc,hg,N7,Nk,Pe,Df,Dv,Bv,List.append_nil,List.cons_append,List.nil_append]))
   simp only [Et,N7,Nk]
   (refine ⟨[top+2],by simp,by simp,by simp, ?_, ?_, ?_⟩ <;> simp [Ad,Ag,AD.nil,AD.cons,AF,AG,AQ,AM,Af,Bn.BN,AB,AH,AE.set,AE.B5,AE.refl,Bv,Df,Dv,AA n6,AA hqt,m6a,m6b,m6c,hqc,hcq,b0,b1,b2,Bn.BN])
end Go.Proofs.Ytmppehipfpkepaa.Dm
/- The Bc: Cut, Stop. -/
set_option linter.unusedVariables false
namespace Go.Proofs.Ytmppehipfpkepaa.Dm
open Go.Dm
set_option maxHeartbeats 16000000
set_option maxRecDepth 20000
noncomputable def Ve:FuncId→Bp:=Bu mT 36 PC
theorem K4:Cf Try.prog tt.get Ve:=Rb.add uf
theorem Yu:Ve 36=PC:=rfl
theorem Kc:Ve 29=Ba:=rfl
theorem TW:Ve 30=B3:=rfl
theorem Vm:Ve 37=HV:=rfl
def Ma (s:Ak)(a b:Int):Int:=if DX s a b=0 then 2 else if Mg s a b=true then 7 else 0
def KF (s:Ak)(a b:Int):Ak:= {s with C:=Fs s.C (pk a b) true s.cc,cc:=LD s.C (pk a b) s.cc}
def GG (n:Nat)(lv:Value)(s:Ak)(a b:Int)(top:Nat):Value×BC×Nat:=
 if Ma s a b=0 then (.tuple ⟨[AK top (EM (Ay (KF s a b)) s.l), .int .i64 0]⟩,(n+2,some (.map (BR (KF s a b).C) (KF s a b).cc)) :: (Et n lv (KF s a b) top).2.1,top+1)
 else (.tuple ⟨[.slice none 0 0, .int .i64 (Ma s a b)]⟩, [],top)
noncomputable def Vp:Bp:= .det (fun args hp _=>match args with | [.pointer (some ⟨n,0,none⟩),a,b]=>F2 hp n∧EO .i64 a∧EO .i64 b | _=>False) (fun args hp top=>match args with
 | [.pointer (some ⟨n,_,_⟩),a,b]=>GG n (Wn hp n) (Im hp n) (intOf a) (intOf b) top | _=>(undef, [],top))
theorem rm:BK Try.prog 15 Vp:=by
 refine .Cc Wo ?_
 intro args hp top hpre hcl hsc
 match args,hpre with
 | [.pointer (some ⟨n,0,none⟩),a,b],⟨⟨lv,s,h⟩,ha,hb⟩=>
 rw [ha,hb]
 generalize intOf a=a,intOf b=b
 simp only [h.s,h.v,BA]
 have hlow:=h.low hcl
 have n0:n < top:=by omega
 have n1:n+1 < top:=by omega
 have n2:n+2 < top:=by omega
 have hh:=h.h
 have hL:=h.L
 have hC:=h.C
 have hk:∀ {o},BW (hp.set top o) n lv s:=fun {o}=>h.BT hcl fun i hi=>AS hi (Nat.le_refl _)
 have his':∀ {o},F2 (hp.set top o) n=True:=fun {o}=>(hk (o:=o)).is
 refine AL.Au BE Wo rfl 37 rfl [.tmp 6, .tmp 7] rfl (show 3≤37 by decide) ?_
 by_cases c1:DX s a b=0
 ·have c1':(BV s.L ⟨min a b,max a b⟩).getD default=0:=c1
  have e:Ma s a b=2:=by unfold Ma;rw [if_pos c1]
  refine CW.vc K4 [0,1,2,6,7,8,12,15,23] (by kernel_rfl) ?_
  (repeat ((try refine Vc.mk' ?_);simp only [go_sem,Nat.reduceAdd,Nat.reduceLT,hh,Bi,hL,Kc,Ba,his',TW,B3,AS n0,AS n1,c1']))
  simp only [e,GG]
  (refine ⟨[],by simp,by simp,by simp, ?_, ?_, ?_⟩ <;> simp [Ad,Ag,AD.nil,AE.set,AE.refl])
 have c1':¬(BV s.L ⟨min a b,max a b⟩).getD default=0:=c1
 cases c2:Mg s a b with
 |true=>
  have c2':(BV s.C ⟨min a b,max a b⟩).getD default=true:=c2
  have e:Ma s a b=7:=by unfold Ma;rw [if_neg c1,if_pos c2]
  refine CW.vc K4 [0,1,2,6,7,8,12,15,23] (by kernel_rfl) ?_
  (repeat ((try refine Vc.mk' ?_);simp only [go_sem,Nat.reduceAdd,Nat.reduceLT,hh,Bi,hL,hC,Kc,Ba,his',TW,B3,AS n0,AS n1,AS n2,c1',c2']))
  simp only [e,GG]
  (refine ⟨[],by simp,by simp,by simp, ?_, ?_, ?_⟩ <;> simp [Ad,Ag,AD.nil,AE.set,AE.refl])
 |false=>
  have c2':(BV s.C ⟨min a b,max a b⟩).getD default=false:=c2
  have e:Ma s a b=0:=by unfold Ma;rw [if_neg c1,if_neg (by rw [c2];simp)]
  have hN:∀ {o},BW ((hp.set top o).set (n+2) (some (.map (BR (Fs s.C ⟨min a b,max a b⟩ true s.cc)) (LD s.C ⟨min a b,max a b⟩ s.cc)))) n lv (KF s a b):=fun {o}=>(hk (o:=o)).jK _ _
  have hNs:∀ {o},Im ((hp.set top o).set (n+2) (some (.map (BR (Fs s.C ⟨min a b,max a b⟩ true s.cc)) (LD s.C ⟨min a b,max a b⟩ s.cc)))) n=KF s a b:=fun {o}=>(hN (o:=o)).s
  have hNv:∀ {o},Wn ((hp.set top o).set (n+2) (some (.map (BR (Fs s.C ⟨min a b,max a b⟩ true s.cc)) (LD s.C ⟨min a b,max a b⟩ s.cc)))) n=lv:=fun {o}=>(hN (o:=o)).v
  have hNi:∀ {o},F2 ((hp.set top o).set (n+2) (some (.map (BR (Fs s.C ⟨min a b,max a b⟩ true s.cc)) (LD s.C ⟨min a b,max a b⟩ s.cc)))) n=True:=fun {o}=>(hN (o:=o)).is
  refine CW.vc K4 [0,1,2,6,7,8,12,15,23] (by kernel_rfl) ?_
  (repeat ((try refine Vc.mk' ?_);simp only [go_sem,Nat.reduceAdd,Nat.reduceLT,hh,Bi,hL,hC,Kc,Ba,his',TW,B3,Yu,PC,AS n0,AS n1,AS n2,c1',c2',hNs,hNv,hNi,Et]))
  have m2:¬top=n+2:=by omega
  have m6:¬top=n+6:=by omega
  have m12:¬top+1=n+2:=by omega
  have m16:¬top+1=n+6:=by omega
  have r2:¬n+2=top+1:=by omega
  have r6:¬n+6=top+1:=by omega
  have d26:¬n+2=n+6:=by omega
  have d62:¬n+6=n+2:=by omega
  have n6:n+6 < top:=by omega
  have w6:=h.W.h
  have lvs:=h.W.low hcl
  have el:(KF s a b).l=s.l:=rfl
  have eL:(KF s a b).last=s.last:=rfl
  have eC:(KF s a b).C=Fs s.C ⟨min a b,max a b⟩ true s.cc:=rfl
  have ec:(KF s a b).cc=LD s.C ⟨min a b,max a b⟩ s.cc:=rfl
  rcases CT h.W.o with ⟨rfl,hnil⟩ | ⟨q,rfl,hq⟩
  ·simp only [GG,e,if_true,Et,N7,Nk,List.nil_append,el,eL,eC,ec]
   (refine ⟨[top+1],by simp,by simp,by simp, ?_, ?_, ?_⟩ <;> simp [Ad,Ag,AD.nil,AD.cons,AF,AG,BZ,AQ,AM,Af,AB,AH,Aa,B6,AE.set,AE.B5,AE.refl,Cn,Bv,AA n2,AA n6,r2,r6])
  ·have hqt:q < top:=lvs
   have hqc:¬q=n+6:=fun e=>by rw [e,w6] at hq;exact absurd (EB hq) (by decide)
   have hcq:¬n+6=q:=fun e=>hqc e.symm
   have hq2:¬q=n+2:=fun e=>by rw [e,hC] at hq;cases hq
   have h2q:¬n+2=q:=fun e=>hq2 e.symm
   have a1:¬top+1=q:=by omega
   have b1:¬q=top+1:=by omega
   simp only [GG,e,if_true,Et,N7,Nk,List.cons_append,List.nil_append,el,eL,eC,ec]
   (refine ⟨[top+1],by simp,by simp,by simp, ?_, ?_, ?_⟩ <;> simp [Ad,Ag,AD.nil,AD.cons,AF,AG,BZ,AQ,AM,Af,Bn.BN,AB,AH,Aa,B6,AE.set,AE.B5,AE.refl,Cn,Bv,Df,Dv,AA n2,AA n6,AA hqt,r2,r6,hqc,hcq,hq2,h2q,b1,Bn.BN])
end Go.Proofs.Ytmppehipfpkepaa.Dm
