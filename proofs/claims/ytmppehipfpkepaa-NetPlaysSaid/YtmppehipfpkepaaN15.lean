/- The Bc: the first thing that is to go (slices.IndexFunc, for lost). -/
import Derived.Test.YtmppehipfpkepaaN12
set_option linter.unusedVariables false
namespace Go.Proofs.Ytmppehipfpkepaa.Dm
open Go.Dm
set_option maxHeartbeats 16000000
set_option maxRecDepth 20000
noncomputable def mc:FuncId→Bp:=Bu kn 85 Og
theorem Mp:Cf Try.prog tt.get mc:=Re.add AAp
theorem cA:mc 85=Og:=rfl
def UH (b:Nat):Value:= .func (.func 85) ⟨[]⟩ ⟨[.pointer (some ⟨b,0,none⟩)]⟩
def Ue (hp:Hp)(b:Nat)(a:Ah):Bool:=match ((cellsOf (hp b)).headD undef) with
 | .func _ _ ⟨[.pointer (some ⟨nb,_,_⟩), .pointer _]⟩=> !iB hp (ER hp nb) a.Fq a.NM
 |_=>false
def X7 (hp:Hp)(b:Nat):Nat:=match ((cellsOf (hp b)).headD undef) with
 | .func _ _ ⟨[.pointer _, .pointer (some ⟨ob,_,_⟩)]⟩=>ob
 |_=>0
def Ay (s:Ak)(a:Ah):Bool:= !GQ s a.Fq a.NM
section
variable {hp:Hp} {b nb ob n:Nat} {s:Ak}
theorem GI.down (h:GI hp b nb ob n s):Ue hp b=Ay s:=by
 funext a
 unfold Ue Ay
 rw [h.b]
 show (!iB hp (ER hp nb) a.Fq a.NM)=_
 have:ER hp nb=n:=by unfold ER;rw [h.nb];rfl
 rw [this,h.up.eq]
theorem GI.out (h:GI hp b nb ob n s):X7 hp b=ob:=by unfold X7;rw [h.b];rfl
theorem GI.s1 (h:GI hp b nb ob n s){x:Ae}{top:Nat}:wo hp b x top=if GQ s x.B2 x.To then (.bool false, [],top) else (.bool true,Gf hp ob x top,top+1):=by
 unfold wo
 rw [h.b]
 show (if iB hp (ER hp nb) x.B2 x.To then _ else _)=_
 have:ER hp nb=n:=by unfold ER;rw [h.nb];rfl
 rw [this,h.up.eq]
end
def U0 (hp:Hp)(b:Nat)(l:List Ah)(top:Nat):Value×BC×Nat:=if h:l.findIdx (Ue hp b) < l.length then (.int .i64 (l.findIdx (Ue hp b):Int),Gf hp (X7 hp b) (Dl l[l.findIdx (Ue hp b)]) top,top+1) else (.int .i64 (-1), [],top)
def lh (hp:Hp)(f:Value):Prop:= ∃b nb ob n s,f=UH b∧GI hp b nb ob n s∧dx hp ob
def Z5:Bp:= .det (fun args hp _=>match args with | [v,f]=>Dp AP hp v∧lh hp f∧(AP.rd hp v).length≤1000000 | _=>False) (fun args hp top=>match args with
 | [v, .func _ _ ⟨[.pointer (some ⟨b,_,_⟩)]⟩]=>U0 hp b (AP.rd hp v) top | _=>(undef, [],top))
def ZT (hp:Hp)(top:Nat)(v f:Value)(n i:Nat):SS:=⟨[(0,v,true),(1,f,true),(7, .int .i64 (n:Int),true),(8, .int .i64 (i:Int),true)],hp.AZ [],top+0⟩
theorem yG:BK Try.prog 89 Z5:=by
 refine .Cc WN ?_
 intro args hp top hpre hcl hsc
 match args,hpre with
 | [v,_],⟨⟨l,h⟩,⟨b,nb,ob,n,s,rfl,hK,hA⟩,hl⟩=>
 have hs:=h.low hcl
 have hl63:=h.le
 simp only [h.rd,UH] at hl ⊢
 have hbt:b < top:=hcl.lt _ _ hK.b
 have hpS:mo hp b=True:=eq_true ⟨nb,ob,n,s,hK,hA⟩
 have hsR:∀ {x:Ae} {t:Nat},wo hp b x t=if GQ s x.B2 x.To then (.bool false, [],t) else (.bool true,Gf hp ob x t,t+1):=fun {x t}=>hK.s1
 unfold U0
 rw [hK.down,hK.out]
 refine AL.Au BE WN rfl 19 rfl [.tmp 4] rfl (show 2≤19 by decide) ?_
 refine CW.vc Mp [0,1,4,5,7,8,9,16] (by kernel_rfl) ?_
 (repeat ((try refine Vc.mk' ?_);simp only [go_sem,EH h]))
 refine CW.CZ (ZT hp top v (UH b) l.length) (fun i=>i≤l.length∧∀j,j < i→Ay s (Aj l j)=false) (fun i=>l.length - i) 0 ⟨Nat.zero_le _,fun j hj=>absurd hj (Nat.not_lt_zero _)⟩ ?_ ?_
 ·exact (by refine BO.mk' [] hcl (by simp) (by simp) rfl (AV ?_) ?_ ?_ <;> simp [Ax,Cd,Ad,Ag,AD.nil,AE.refl,Sc.Ad (fun j hj=>AA hj) hs,UH,AA hbt])
 ·rintro i ⟨hi,hlo⟩
  by_cases hlt:i < l.length
  ·cases c:Ay s (Aj l i) with
   |false=>
    have c':GQ s (Dl (Aj l i)).B2 (Dl (Aj l i)).To=true:=by simpa [Ay,Dl] using c
    refine CW.vc Mp [0,1,4,5,7,8,9,16] (by kernel_rfl) ?_
    (repeat ((try refine Vc.mk' ?_);simp only [go_sem,EX h,Fz h,cA,Og,hpS,hsR,ZT,UH,hlt,Dk,c']))
    refine .mk (i+1) ⟨hlt,fun j hj=> ?_⟩ (by omega) ((by refine BO.mk' [] hcl (by simp) (by simp) rfl (AV ?_) ?_ ?_ <;> simp [Ax,Cd,Ad,Ag,AD.nil,AE.refl,Sc.Ad (fun j hj=>AA hj) hs,AA hbt,Av hlt hl63]))
    by_cases e:j < i
    ·exact hlo j e
    ·have e2:j=i:=by omega
     subst e2
     exact c
   |true=>
    have c':GQ s (Dl (Aj l i)).B2 (Dl (Aj l i)).To=false:=by simpa [Ay,Dl] using c
    have hix:l.findIdx (Ay s)=i:=by
     rw [List.findIdx_eq hlt]
     refine ⟨by rw [←Bj _ _ hlt];exact c,fun j hj=> ?_⟩
     have:=hlo j hj
     rwa [Bj _ _ (by omega)] at this
    have hlt':l.findIdx (Ay s) < l.length:=by rw [hix];exact hlt
    rw [dif_pos hlt']
    have hxi:l[l.findIdx (Ay s)] = Aj l i:=by rw [Bj _ _ hlt];simp only [hix]
    rw [hxi,hix]
    obtain ⟨q,m,h1,h2,h3⟩:=hA
    have hat:ob < top:=hcl.lt _ _ h1
    have hot0:¬top=ob:=by omega
    have hot1:¬top+1=ob:=by omega
    by_cases hm:m= []
    ·subst hm
     have e:∀ {y:Ae} {t:Nat},Gf hp ob y t= [(ob,some (.cells true 0 [AK t [y]])),(t,AO AJ [y])]:=fun {y} {t}=>Fj h1 h2 h3
     rw [Dh] at h1
     refine CW.vc Mp [0,1,4,5,7,8,9,16] (by kernel_rfl) ?_
     (repeat ((try refine Vc.mk' ?_);simp only [go_sem,EX h,Fz h,cA,Og,hpS,hsR,ZT,UH,hlt,Dk,c',e]))
     (refine ⟨[top],by simp,by simp,by simp, ?_, ?_, ?_⟩ <;> simp [Ad,Ag,AD.nil,AD.cons,AF,AG,AQ,AM,Af,AB,AE.set,AE.B5,AE.refl,AA hat,AS hat])
    ·have h2':=h2 hm
     have hqt:q < top:=by
      cases m with
      |nil=>exact absurd rfl hm
      |cons a m=>exact hcl.lt _ _ h2'
     have e:∀ {y:Ae} {t:Nat},Gf hp ob y t= [(ob,some (.cells true 0 [AK t (m ++ [y])])),(q,none),(t,AO AJ (m ++ [y]))]:=fun {y} {t}=>by rw [Fj h1 h2 h3,Rf hm]
     have hqa:¬q=ob:=fun e=>by
      rw [e,h1] at h2'
      cases m with
      |nil=>exact hm rfl
      |cons a m=>simp only [AO,Option.some.injEq,BB.cells.injEq] at h2';exact absurd h2'.2.1 (by decide)
     have haq:¬ob=q:=fun e=>hqa e.symm
     refine CW.vc Mp [0,1,4,5,7,8,9,16] (by kernel_rfl) ?_
     (repeat ((try refine Vc.mk' ?_);simp only [go_sem,EX h,Fz h,cA,Og,hpS,hsR,ZT,UH,hlt,Dk,c',e]))
     (refine ⟨[top],by simp,by simp,by simp, ?_, ?_, ?_⟩ <;> simp [Ad,Ag,AD.nil,AD.cons,AF,AG,AQ,AM,Af,AB,AH,AE.set,AE.B5,AE.refl,AA hat,AA hqt,hqa,haq,AS hat,AS hqt])
  ·have hi2:i=l.length:=by omega
   subst hi2
   have hnl:¬l.findIdx (Ay s) < l.length:=fun c=>by
    have a:=List.findIdx_getElem (p:=Ay s) (xs:=l) (w:=c)
    have b:=hlo _ c
    rw [Bj _ _ c] at b
    rw [a] at b;cases b
   rw [dif_neg hnl]
   refine CW.vc Mp [0,1,4,5,7,8,9,16] (by kernel_rfl) ?_
   (repeat ((try refine Vc.mk' ?_);simp only [go_sem,ZT,UH,Nat.lt_irrefl,decide_false]))
   (refine ⟨[],by simp,by simp,by simp, ?_, ?_, ?_⟩ <;> simp [Ad,AD.nil,AE.refl])
end Go.Proofs.Ytmppehipfpkepaa.Dm
/- The Bc: DeleteFunc for lost, general parts. -/
set_option linter.unusedVariables false
namespace Go.Proofs.Ytmppehipfpkepaa.Dm
open Go.Dm
set_option maxHeartbeats 8000000
set_option maxRecDepth 20000
theorem VW {b j:Nat}{o o':Option BB}(hj:j≠b):∀ {us:BC} {h h':Hp},(∀k,k≠b→h k=h' k)→(h.AZ us) j=(h'.AZ us) j
 | [],_,_,hh=>hh j hj
 | (k,x) :: us,h,h',hh=>by
  rw [Aa,Aa]
  refine VW (o:=o) (o':=o') hj fun i hi=> ?_
  unfold Hp.set
  split
  ·rfl
  ·exact hh i hi
/-- what stands behind is forgotten -/
theorem qm {P:Program}{f:FuncId}{args:List Value}{hp:Hp}{top b i z top2:Nat}{rows:List Value}{us:BC}(hus:∀p∈us,p.1≠b)
  (h:AL P f args hp top fun v h1 t1=> ∃c vs2,v= .slice (some ⟨b,0,none⟩) i c∧h1=hp.AZ ((b,some (.cells true z vs2)) :: us)∧t1=top2∧rows=vs2.take (i * z)) :
  AL P f args hp top fun v h1 t1=>v=Df b i∧h1=hp.AZ ((b,some (.cells true z rows)) :: us)∧t1=top2:=by
 intro φ own w args' ha H htop
 refine (h φ own w args' ha H htop).mono ?_
 rintro e w' ⟨v1,h1,top1,v',φ1,rfl,⟨c,vs2,rfl,rfl,rfl,rfl⟩,W⟩
 refine ⟨_,_,_,v',φ1,rfl,⟨rfl,rfl,rfl⟩,⟨W.le, ?_, ?_,W.k,W.top⟩⟩
 ·have hv:=W.v
  cases hv with
  |slice _ _ _ _ c' L hL hn hc hl=>exact .slice b 0 i i c' L hL (Nat.le_refl _) (Nat.le_trans hn hc) hl
 ·have hr:=W.hr
  have key:∀j o,(hp.AZ ((b,some (.cells true z (vs2.take (i * z)))) :: us)) j=some o→∃o2,(hp.AZ ((b,some (.cells true z vs2)) :: us)) j=some o2∧o2.rw=o.rw∧∀L x,GK φ1 L o2 x→GK φ1 L o x:=by
   intro j o ho
   by_cases e:j=b
   ·subst e
    rw [Aa,CG hus,AB,Option.some.injEq] at ho
    subst ho
    refine ⟨.cells true z vs2,by rw [Aa,CG hus,AB],rfl, ?_⟩
    rintro L x ⟨he,cc,ty,fz,hg,hsz,hlim,hvs,hfz⟩
    have hle:(vs2.take (i * z)).length≤vs2.length:=by rw [List.length_take];exact Nat.min_le_right ..
    refine ⟨he,cc,ty,fz,hg,hsz,by omega, ?_,hfz⟩
    have:=hvs.take (i * z)
    rw [List.take_take] at this
    rw [List.length_take]
    exact this
   ·have e2:(hp.AZ ((b,some (.cells true z (vs2.take (i * z)))) :: us)) j=(hp.AZ ((b,some (.cells true z vs2)) :: us)) j:=by
     rw [Aa,Aa]
     exact VW (o:=none) (o':=none) e fun k hk=>by rw [AH _ _ _ _ hk,AH _ _ _ _ hk]
    rw [e2] at ho
    exact ⟨o,ho,rfl,fun _ _ h=>h⟩
  refine ⟨?_, ?_, ?_,hr.val,hr.fresh⟩
  ·intro j o ho
   obtain ⟨o2,h2,_,h4⟩:=key j o ho
   obtain ⟨L,hL,hO⟩:=hr.obj j o2 h2
   exact ⟨L,hL,h4 _ _ hO⟩
  ·intro j k oj ok Lj Lk hj hk hne hrw hLj hLk
   obtain ⟨o2,h2,h3,_⟩:=key j oj hj
   obtain ⟨o3,h5,_,_⟩:=key k ok hk
   exact hr.sep j k o2 o3 Lj Lk h2 h5 hne (by rw [h3];exact hrw) hLj hLk
  ·intro j o L ho hrw hL
   obtain ⟨o2,h2,h3,_⟩:=key j o ho
   exact hr.H6 j o2 L h2 (by rw [h3];exact hrw) hL
/-! ### the rows so far,and where the next one goes -/
def C3 {α:Type}(p:α→Bool)(l:List α):List α:=l.filter fun a=> !p a
structure jb {α:Type} (p:α→Bool) (l m:List α) (i j:Nat):Prop where
 len:m.length=l.length
 lt:i < j
 le:j≤l.length
 tk:m.take i=C3 p (l.take j)
 dr:m.drop j=l.drop j
section
variable {α:Type} [Inhabited α] {p:α→Bool} {l m:List α} {i j:Nat}
omit [Inhabited α] in
theorem Lc (a b:List α):C3 p (a ++ b)=C3 p a ++ C3 p b:=List.filter_append ..
omit [Inhabited α] in
theorem kj:(C3 p l).length≤l.length:=List.length_filter_le ..
theorem jb.skip (h:jb p l m i j)(hj:j < l.length)(hg:p (Aj l j)=true):jb p l m i (j+1):=
 ⟨h.len,by have:=h.lt;omega,hj,by rw [CO hj,Lc,h.tk];simp [C3,hg],by rw [←List.drop_drop,h.dr,List.drop_drop]⟩
theorem jb.at (h:jb p l m i j)(hj:j < l.length):Aj m j=Aj l j:=by
 have:=h.dr
 rw [GU hj,GU (by rw [h.len];exact hj)] at this
 exact (List.cons.inj this).1
theorem jb.BT (h:jb p l m i j)(hj:j < l.length)(hg:p (Aj l j)=false):jb p l (m.set i (Aj l j)) (i+1) (j+1):=by
 have hlt:=h.lt
 have hle:=h.le
 have hln:=h.len
 refine ⟨by rw [List.length_set,h.len],by omega,hj, ?_, ?_⟩
 ·rw [CO hj,Lc,←h.tk,List.take_succ_eq_append_getElem (by rw [List.length_set];omega),List.getElem_set_self,List.take_set_of_le (Nat.le_refl _)]
  simp [C3,hg]
 ·rw [List.drop_set_of_lt (by omega),←List.drop_drop,h.dr,List.drop_drop]
theorem jb.start (h:l.findIdx p < l.length):jb p l l (l.findIdx p) (l.findIdx p+1):=by
 refine ⟨rfl,by omega,h, ?_,rfl⟩
 rw [CO h,Lc]
 have h2:p (Aj l (l.findIdx p))=true:=by rw [Bj _ _ h];exact List.findIdx_getElem
 have h1:∀(l:List α),C3 p (l.take (l.findIdx p))=l.take (l.findIdx p):=fun l=>by
  unfold C3
  rw [List.filter_eq_self]
  intro a ha
  obtain ⟨k,hk,rfl⟩:=List.getElem_of_mem ha
  rw [List.getElem_take]
  have hk2:k < l.findIdx p:=by simp at hk;omega
  have:=List.not_of_lt_findIdx hk2
  simpa using this
 rw [h1]
 simp [C3,h2]
end
theorem ue (n:Nat):BD (Ci EA n)=true:=by
 unfold Ci
 induction n with
 |zero=>rfl
 |succ n ih=>rw [List.replicate_succ,List.flatten_cons];exact ih
theorem qP (n:Nat)(ρ:Nat→Nat):Ag ρ (Ci EA n)=Ci EA n:=by
 unfold Ci
 induction n with
 |zero=>rfl
 |succ n ih=>rw [List.replicate_succ,List.flatten_cons,ID,ih];rfl
theorem Y9 {tt:Ac}{hp:Hp}{t e b o n c z:Nat}{i j:TI}{vs:List Value}(h1:tt t=some i)(hu:i.ud= .slice e)(h2:tt e=some j)(hs:j.size=z)(hb:hp b=some (.cells true z vs))(hn:o+n * z≤vs.length)(h0:0 < n)(hz:BD (Ci j n)=true) :
  Lb tt hp [t] (.slice (some ⟨b,o,none⟩) n c)=some [(b,some (.cells true z (Am vs o (Ci j n))))]:=by
 have e1:Nat.beq n 0=false:=by cases n with
  |zero=>omega
  |succ n=>rfl
 have e2:Nat.ble (o+n * j.size) vs.length=true:=Nat.ble_eq_true_of_le (by rw [hs];exact hn)
 simp only [Lb,h1,e1,hu,h2,hb,e2,hz,Bool.and_self]
def N7 {α:Type}(v:Value)(l:List α):Value:=match v with
 | .slice (some ⟨b,_,_⟩) _ _=>Df b l.length
 |v=>v
def Nk {α:Type}(E:Bn α)(v:Value)(l:List α):BC:=match v with
 | .slice (some ⟨b,_,_⟩) _ _=> [(b,Dv E l)]
 |_=> []
theorem xu {tt:Ac}{t e:TypeId}{j:TI}{h':Hp}{b n c i z:Nat}{vs:List Value}(hk:BF tt t=some (.slice e))(hj:tt e=some j)(hb:h' b=some (.cells true z vs))(hi:i≤c) :
  DU tt h' t (.slice (some ⟨b,0,none⟩) n c) none (some (.int .i64 (i:Int)))=(.slice (some ⟨b,0,none⟩) i c,True):=by
 simp only [DU,hk,hj,hb,FA,CV,Rj,BA,true_and,Prod.mk.injEq,eq_iff_iff,iff_true,Int.toNat_natCast]
 omega
end Go.Proofs.Ytmppehipfpkepaa.Dm
/- The Bc: DeleteFunc for lost. -/
set_option linter.unusedVariables false
namespace Go.Proofs.Ytmppehipfpkepaa.Dm
open Go.Dm
set_option maxHeartbeats 16000000
set_option maxRecDepth 20000
noncomputable def fP:FuncId→Bp:=Bu mc 89 Z5
theorem NH:Cf Try.prog tt.get fP:=Mp.add yG
theorem oQ:fP 89=Z5:=rfl
theorem mR:fP 85=Og:=rfl
def Dx (s:Ak)(l:List Ah)(j:Nat):List Ae:=((l.take j).filter (Ay s)).map Dl
theorem ew {s:Ak}{l:List Ah}{j:Nat}(h:j < l.length)(c:Ay s (Aj l j)=true):Dx s l (j+1)=Dx s l j ++ [Dl (Aj l j)]:=by
 unfold Dx;rw [CO h,List.filter_append];simp [c]
theorem eh {s:Ak}{l:List Ah}{j:Nat}(h:j < l.length)(c:Ay s (Aj l j)=false):Dx s l (j+1)=Dx s l j:=by
 unfold Dx;rw [CO h,List.filter_append];simp [c]
theorem ik {s:Ak}{l:List Ah}{j:Nat}:(Dx s l j).length≤l.length:=by
 unfold Dx
 rw [List.length_map]
 exact Nat.le_trans (List.length_filter_le ..) (by rw [List.length_take];exact Nat.min_le_right ..)
theorem eu {s:Ak}{l:List Ah}:∀ {i:Nat},i≤l.length→(∀j,j < i→Ay s (Aj l j)=false)→Dx s l i= []
 |0,_,_=>rfl
 |i+1,h,hh=>by rw [eh (by omega) (hh i (by omega)),eu (by omega) fun j hj=>hh j (by omega)]
theorem GI.BT {hp h':Hp}{bf nb ob n top b:Nat}{s:Ak}(hK:GI hp bf nb ob n s)(ho:hp ob=some (.cells true 0 [.slice none 0 0])){l:List Ah}(hb:hp b=some (.cells true 5 (AP.flat l)))(hcl:Cl hp top)(hk:AE top [b,ob] h' hp):GI h' bf nb ob n s:=by
 have dis:∀ {k:Nat} {vs:List Value},hp k=some (.cells true 0 vs)→vs≠ [.slice none 0 0]→k ∉ [b,ob]:=fun h hv hm=>by
  simp only [List.mem_cons,List.not_mem_nil,or_false] at hm
  rcases hm with rfl | rfl
  ·rw [h] at hb;exact absurd (EB hb) (by decide)
  ·rw [h] at ho;simp only [Option.some.injEq,BB.cells.injEq,true_and] at ho;exact hv ho
 have dim:∀ {k:Nat} {es:List MapEntry} {c:Nat},hp k=some (.map es c)→k ∉ [b,ob]:=fun h hm=>by
  simp only [List.mem_cons,List.not_mem_nil,or_false] at hm
  rcases hm with rfl | rfl
  ·rw [h] at hb;cases hb
  ·rw [h] at ho;cases ho
 obtain ⟨rv,pv,lav,nwv,wv,hh⟩:=hK.up.h
 exact ⟨(hk _ (hcl.lt _ _ hK.b) (dis hK.b (by simp [Na]))).trans hK.b,(hk _ (hcl.lt _ _ hK.nb) (dis hK.nb (by simp))).trans hK.nb,
  ⟨⟨rv,pv,lav,nwv,wv,(hk _ (hcl.lt _ _ hh) (dis hh (by simp))).trans hh⟩,(hk _ (hcl.lt _ _ hK.up.L) (dim hK.up.L)).trans hK.up.L,(hk _ (hcl.lt _ _ hK.up.C) (dim hK.up.C)).trans hK.up.C,(hk _ (hcl.lt _ _ hK.up.S) (dim hK.up.S)).trans hK.up.S⟩⟩
def tX (hp:Hp)(top b bf ob:Nat)(s:Ak)(l:List Ah)(x:Nat×List Ah×Nat):SS:=
 ⟨[(0,AK b x.2.1,true),(1,UH bf,true),(5, .int .i64 (x.2.2:Int),true),(6, .int .i64 (x.1:Int),true)],hp.AZ [(b,AO AP x.2.1),(ob,some (.cells true 0 [AK top (Dx s l x.1)])),(top,AO AJ (Dx s l x.1))],top+1⟩
def nG (b ob top:Nat)(s:Ak)(l:List Ah)(x:List Value×Nat×Nat):Value×BC×Nat:=(.slice (some ⟨b,0,none⟩) x.2.1 x.2.2, [(b,some (.cells true 5 x.1)),(ob,some (.cells true 0 [AK top (Dx s l l.length)])),(top,AO AJ (Dx s l l.length))],top+1)
theorem yn (hp:Hp)(top b bf nb ob n:Nat)(s:Ak)(l:List Ah)(hb:hp b=AO AP l)(hK:GI hp bf nb ob n s)(ha:hp ob=some (.cells true 0 [.slice none 0 0]))(hn:l.length≤1000000)
  (hx:l.findIdx (Ay s) < l.length) (hcl:Cl hp top) (hsc:RD top [AK b l,UH bf]) :
  AL Try.prog 84 [AK b l,UH bf] hp top fun v1 h1 top1=> ∃x:List Value×Nat×Nat,(x.2.1=(C3 (Ay s) l).length∧x.1.take (x.2.1 * 5)=AP.flat (C3 (Ay s) l))∧top≤top1∧∃bs,ug hp top bs (nG b ob top s l x) v1 h1 top1:=by
 have hbo:hp b=some (.cells true 5 (AP.flat l)):=by
  cases l with
  |nil=>simp at hx
  |cons a l=>exact hb
 have hbt:b < top:=hcl.lt _ _ hbo
 have hbft:bf < top:=hcl.lt _ _ hK.b
 have hat:ob < top:=hcl.lt _ _ ha
 have hab:¬ob=b:=fun e=>by rw [e,hbo] at ha;exact absurd (EB ha) (by decide)
 have hba:¬b=ob:=fun e=>hab e.symm
 have hta:¬top=ob:=by omega
 have htb:¬top=b:=by omega
 have hat2:¬ob=top:=by omega
 have hta1:¬top+1=ob:=by omega
 have htb1:¬top+1=b:=by omega
 have hta2:¬top+2=ob:=by omega
 have htb2:¬top+2=b:=by omega
 have hbt2:¬b=top:=by omega
 have hSP:Dp AP hp (AK b l)=True:=(BU.KH hb (by omega)).P
 have hSr:AP.rd hp (AK b l)=l:=(BU.KH hb (by omega)).rd
 have hFn:lh hp (UH bf)=True:=eq_true ⟨bf,nb,ob,n,s,rfl,hK,0, [],ha,fun h=>absurd rfl h,by decide⟩
 generalize hi0:l.findIdx (Ay s)=i0 at hx
 have hfirst:∀j,j < i0→Ay s (Aj l j)=false:=fun j hj=>by
  rw [Bj _ _ (by omega)]
  exact List.not_of_lt_findIdx (by rw [hi0];exact hj)
 have hdn:Ay s (Aj l i0)=true:=by
  rw [Bj _ _ hx]
  have:=List.findIdx_getElem (p:=Ay s) (xs:=l) (w:=by rw [hi0];exact hx)
  simpa only [hi0] using this
 have hg1:Dx s l (i0+1)= [Dl (Aj l i0)]:=by rw [ew hx hdn,eu (by omega) hfirst];rfl
 have hIx:∀ {t:Nat},U0 hp bf l t=(.int .i64 (i0:Int), [(ob,some (.cells true 0 [AK t (Dx s l (i0+1))])),(t,AO AJ (Dx s l (i0+1)))],t+1):=fun {t}=>by
  unfold U0
  rw [hK.down,hK.out,dif_pos (by rw [hi0];exact hx)]
  have hxi:l[l.findIdx (Ay s)]'(by rw [hi0];exact hx)=Aj l i0:=by rw [Bj _ _ hx];simp only [hi0]
  rw [hxi,hi0,Fj (q:=0) (m:= []) ha (fun h=>absurd rfl h) (by decide),hg1];rfl
 have hm1:¬(i0:Int)= -1:=by omega
 have hw0:BQ .i64 ((i0:Int)+1)=((i0+1:Nat):Int):=by rw [wrap64 (by omega) (by omega)];omega
 refine AL.Au BE RP rfl 42 rfl [.tmp 4] rfl (show 2≤42 by decide) ?_
 refine CW.vc NH [0,1,4,5,6,7,12,19,29] (by kernel_rfl) ?_
 have siE:UH bf= .func (.func 85) ⟨[]⟩ ⟨[.pointer (some ⟨bf,0,none⟩)]⟩:=rfl
 rw [siE] at hFn
 (repeat ((try refine Vc.mk' ?_);simp only [go_sem,oQ,Z5,siE,hSP,hSr,hn,hFn,hIx,hm1,hw0]))
 refine CW.CZ (tX hp top b bf ob s l) (fun x=>jb (Ay s) l x.2.1 x.2.2 x.1∧i0 < x.1) (fun x=>l.length - x.1) (i0+1,l,i0) ?_ ?_ ?_
 ·exact ⟨by rw [←hi0] at hx ⊢;exact jb.start hx,Nat.lt_succ_self i0⟩
 ·exact (by refine BO.mk' [top] hcl (by simp) (by simp) rfl (AV ?_) ?_ ?_ <;> simp [Ax,Cd,Ad,Ag,AD.nil,AD.cons,AF,AG,AQ,AM,Af,AB,AH,AE.set,AE.B5,AE.refl,UH,AA hbt,AA hbft,AA hat,hb,hab,hba,hat2,AS hbt])
 ·rintro ⟨j,m,i⟩ ⟨hI,hj0⟩
  replace hI:jb (Ay s) l m i j:=hI
  replace hj0:i0 < j:=hj0
  have hml:=hI.len
  have hij:=hI.lt
  have hjl:=hI.le
  have hMS:BU AP (hp.set b (AO AP m)) (AK b m) m:= .KH (AB ..) (by omega)
  have hgl:=ik (s:=s) (l:=l) (j:=j)
  have h16:(Dx s l j).length < 16777216:=by omega
  have hLK:∀ {h':Hp},AE top [b,ob] h' hp→GI h' bf nb ob n s:=fun hk=>hK.BT ha hbo hcl hk
  have hpr:∀ {h':Hp},AE top [b,ob] h' hp→h' ob=some (.cells true 0 [AK top (Dx s l j)])→h' top=AO AJ (Dx s l j)→mo h' bf=True:=fun hk e3 e4=>eq_true ⟨nb,ob,n,s,hLK hk,top,Dx s l j,e3,fun _=>e4,h16⟩
  have hrs:∀ {h':Hp} {x:Ae} {t:Nat},AE top [b,ob] h' hp→h' ob=some (.cells true 0 [AK top (Dx s l j)])→h' top=AO AJ (Dx s l j)→wo h' bf x t=if GQ s x.B2 x.To then (.bool false, [],t) else (.bool true,(ob,some (.cells true 0 [AK t (Dx s l j ++ [x])])) :: Em top (Dx s l j) t (AO AJ (Dx s l j ++ [x])),t+1):=fun {h' x t} hk e3 e4=>by
   rw [(hLK hk).s1,Fj e3 (fun _=>e4) h16]
  have hne:Dx s l j≠ []:=fun e=>by
   have h1:Dl (Aj l i0)∈Dx s l j:=by
    unfold Dx
    refine List.mem_map.2 ⟨_,List.mem_filter.2 ⟨?_,hdn⟩,rfl⟩
    rw [Bj _ _ hx]
    exact List.mem_take_iff_getElem.2 ⟨i0,by omega,rfl⟩
   rw [e] at h1;cases h1
  have hap:∀ {x:Ae} {t:Nat},Em top (Dx s l j) t (AO AJ (Dx s l j ++ [x]))= [(top,none),(t,AO AJ (Dx s l j ++ [x]))]:=fun {x t}=>Rf hne
  by_cases hlt:j < l.length
  ·have hjm:j < m.length:=by omega
   have him:i < m.length:=by omega
   have hil:i < l.length:=by omega
   have hat':=hI.at hlt
   have hld:∀ {h':Hp},h' b=AO AP m→CS tt.get h' 124 (BM (AK b m) (j * 5))=(.agg ⟨AP.enc (Aj l j)⟩,True):=fun h=>by have:=Fz (BU.KH h (by omega)) hjm;rw [hat'] at this;exact this
   cases c:Ay s (Aj l j) with
   |true=>
    have c':GQ s (Dl (Aj l j)).B2 (Dl (Aj l j)).To=false:=by simpa [Ay,Dl] using c
    have hgs:=ew hlt c
    refine CW.vc NH [0,1,4,5,6,7,12,19,29] (by kernel_rfl) ?_
    (repeat ((try refine Vc.mk' ?_);simp only [go_sem,reduceCtorEq,Nat.reduceAdd,mR,Og,tX,UH,EH hMS,EX hMS,hml,hpr,hrs,hap,AE.B5,List.mem_cons,hab,hba,AS hat,AS hbt,Dk,hlt,hld,c']))
    exact .mk (j+1,m,i) ⟨hI.skip hlt c,by show i0 < j+1;omega⟩ (show l.length - (j+1) < l.length - j by omega) ((by refine BO.mk' [top+2] hcl (by simp) (by simp) rfl (AV ?_) ?_ ?_ <;> simp [Ax,Cd,Ad,Ag,AD.nil,AD.cons,AF,AG,AQ,AM,Af,AB,AH,AE.set,AE.B5,AE.refl,UH,hgs,AA hbt,AA hbft,AA hat,hab,hba,hat2,hbt2,AS hbt,AS hat,Av hlt (by omega:l.length≤9223372036854775807)]))
   |false=>
    have c':GQ s (Dl (Aj l j)).B2 (Dl (Aj l j)).To=true:=by simpa [Ay,Dl] using c
    have hgs:=eh hlt c
    have hset:AK b (m.set i (Aj l j))=AK b m:=Kp (by rw [List.length_set])
    have hst:∀ {h':Hp},h' b=AO AP m→Bg tt.get h' 124 (BM (AK b m) (i * 5)) (.agg ⟨[.int .u64 (Aj l j).at_, .int .i64 (Aj l j).CA, .int .i64 (Aj l j).Fq, .int .i64 (Aj l j).NM, .string ⟨⟨(Aj l j).Ff⟩⟩]⟩)=([(b,AO AP (m.set i (Aj l j)))],True):=fun h=>oS h him
    refine CW.vc NH [0,1,4,5,6,7,12,19,29] (by kernel_rfl) ?_
    (repeat ((try refine Vc.mk' ?_);simp only [go_sem,reduceCtorEq,Nat.reduceAdd,mR,Og,tX,UH,EH hMS,EX hMS,hml,hpr,hrs,hap,AE.B5,List.mem_cons,hab,hba,AS hat,AS hbt,Dk,hlt,hil,hld,c',hst,tI]))
    exact .mk (j+1,m.set i (Aj l j),i+1) ⟨hI.BT hlt c,by show i0 < j+1;omega⟩ (show l.length - (j+1) < l.length - j by omega) ((by refine BO.mk' [top] hcl (by simp) (by simp) rfl (AV ?_) ?_ ?_ <;> simp [Ax,Cd,Ad,Ag,AD.nil,AD.cons,AF,AG,AQ,AM,Af,AB,AH,AE.set,AE.B5,AE.refl,UH,hgs,AA hbt,AA hbft,AA hat,hab,hba,htb,hat2,hbt2,AS hat,hset,Av hlt (by omega:l.length≤9223372036854775807),Av him (by omega:m.length≤9223372036854775807)]))
  ·have hj2:j=l.length:=by omega
   have hil:i < l.length:=by omega
   have him:i < m.length:=by omega
   have hmv:AK b m= .slice (some ⟨b,0,none⟩) m.length m.length:=by
    cases m with
    |nil=>simp at him
    |cons a m=>rfl
   have hmo:AO AP m=some (.cells true 5 (AP.flat m)):=by
    cases m with
    |nil=>simp at him
    |cons a m=>rfl
   obtain ⟨vs,hvs⟩:∃vs,vs=Am (AP.flat m) (i * 5) (Ci EA (m.length - i)):=⟨_,rfl⟩
   have hzl:(Ci EA (m.length - i)).length=(m.length - i) * 5:=DZ (BE _ _ IX) _
   have hcl2:∀ {h':Hp},h' b=AO AP m→Lb tt.get h' [114] (Mb 5 (AK b m) i)=some [(b,some (.cells true 5 vs))]:=fun {h'} h=>by
    rw [hmv,hvs]
    simp only [Mb,him,or_true,if_true,Nat.zero_add]
    exact Y9 It rfl IX rfl (by rw [h,hmo]) (by rw [Bn.Bt];show i * 5+(m.length - i) * 5≤m.length * 5;omega) (by omega) (ue _)
   have hren:∀ {ρ:Nat→Nat},Ag ρ vs=vs:=fun {ρ}=>by
    have e1:(AP.flat m).take (i * 5)=AP.flat (m.take i):=Bn.HC (E:=AP) m i
    have e2:(AP.flat m).drop (i * 5+(Ci EA (m.length - i)).length)= []:=List.drop_eq_nil_of_le (by rw [hzl,Bn.Bt];show m.length * 5≤_;omega)
    rw [hvs]
    unfold Am
    rw [e1,e2,List.append_nil,ID,Bn.BN,qP]
   have hhi:∀ {h':Hp},h' b=some (.cells true 5 (cellsOf (h' b)))→DU tt.get h' 114 (AK b m) none (some (.int .i64 (i:Int)))=(.slice (some ⟨b,0,none⟩) i m.length,True):=fun {h'} h=>by
    rw [hmv];exact xu F6 IX h (by omega)
   have hsw:∀ {h':Hp},h' b=AO AP m→DU tt.get h' 114 (AK b m) (some (.int .i64 (i:Int))) none=(Mb 5 (AK b m) i,True):=fun h=>Y0 (BU.KH h (by omega)) (by omega) (by omega)
   have htk:=hI.tk
   rw [hj2,List.take_length] at htk
   have hkl:(C3 (Ay s) l).length=i:=by rw [←htk,List.length_take];omega
   have hspl:vs.take (i * 5)=AP.flat (C3 (Ay s) l):=by
    have h3:i * 5≤(AP.flat m).length:=by rw [Bn.Bt];show i * 5≤m.length * 5;omega
    rw [hvs]
    unfold Am
    rw [List.append_assoc,List.take_append_of_le_length (by rw [List.length_take];omega),List.take_take,Nat.min_self,←htk]
    exact Bn.HC (E:=AP) m i
   refine CW.vc NH [0,1,4,5,6,7,12,19,29] (by kernel_rfl) ?_
   (repeat ((try refine Vc.mk' ?_);simp only [go_sem,tX,EH hMS,hsw,hml,hj2,Nat.lt_irrefl,decide_false,hcl2,hhi,El,hba,AS hbt]))
   refine ⟨(vs,i,l.length),⟨hkl.symm,hspl⟩, ?_⟩
   simp only [nG]
   (refine ⟨[top],by simp,by simp,by simp, ?_, ?_, ?_⟩ <;> simp [Ad,Ag,AD.nil,AD.cons,AF,AG,AQ,AM,Af,AB,AH,AE.set,AE.B5,AE.refl,AA hbt,AA hat,hren,hab,hba,htb,hat2,hbt2])
end Go.Proofs.Ytmppehipfpkepaa.Dm
