import Derived.Test.YthpibnpeaidabaaGreatDoorTPI
import Derived.Test.YthpibnpeaidabaaGreatDoorTPT
import Derived.Test.YthpibnpeaidabaaGreatDoorTKP
set_option linter.unusedVariables false
namespace Go.Proofs.YthpibnpeaidabaaGreatDoor.Dm
open Go.Dm
set_option maxHeartbeats 16000000
set_option maxRecDepth 20000
def YP:BG:= .pure (fun args hp=>match args with | [v, .int .u32 _]=>HJ AA hp v∧(∀x∈AA.rd hp v,FY x)∧(AA.rd hp v).length≤1048576∧CZ hp∧hp 0=some U9 | _=>False) (fun _ _=> .bool true)
def Z8:FuncId→BG:=BQ (BQ (BQ (BQ (BQ (BQ (BQ (BQ (BQ (BQ (BQ G0 9 J6) 21 Qe) 10 Q9) 22 L3) 20 MU) 19 Qw) 23 MU) 25 Lq) 18 (JO AA)) 24 (JO AF)) 26 MA
theorem TP:B4 Tryz.prog tt.get Z8:=((((((((((Da.add cx).add rN).add tc).add mK).add xp).add qq).add rE).add jw).add Oy).add VH).add nV
theorem vW:Z8 9=J6:=rfl
theorem xL:Z8 21=Qe:=rfl
theorem vt:Z8 10=Q9:=rfl
theorem wO:Z8 22=L3:=rfl
theorem yQ:Z8 20=MU:=rfl
theorem wA:Z8 19=Qw:=rfl
theorem wR:Z8 23=MU:=rfl
theorem xd:Z8 25=Lq:=rfl
theorem wQ:Z8 18=JO AA:=rfl
theorem wL:Z8 24=JO AF:=rfl
theorem yc:Z8 26=MA:=rfl
def ba:AE:=⟨0,0,0,0,0,0,0,0,0,0⟩
theorem Jw {ρ:Nat→Nat}{t:Nat}{l:List AE}:Ax ρ (JU t l)=JU (ρ t) l:=by unfold JU;split <;> rfl
theorem TD {ρ:Nat→Nat}{l:List AE}:IZ ρ (KE l)=KE l:=AL
theorem Kj {ρ:Nat→Nat}{t n:Nat}:Ax ρ (Hn t n)=Hn (ρ t) n:=rfl
theorem gU {h':Hp}{t:Nat}{l:List AE}(hl:l.length≤1759218604390):Cj tt.get h' 51 (JU t l)=(.int .i64 ((ET l).length:Int),True):=Br (KG (hp:=fun _=>KE l) rfl hl)
theorem nG {t k:Nat}{l:List AE}(hl:l.length≤1759218604390)(h:k < (ET l).length):Af tt.get 51 (JU t l) (.int .i64 (k:Int))=(.pointer (some ⟨t,k,none⟩),True):=by
 have:=C0 (KG (hp:=fun _=>KE l) (top:=t) rfl hl) (k:= .i64) (n:=(k:Int)) (by omega) (by omega)
 rw [this]
 have hle:=Lw (l:=l)
 unfold JU
 rw [if_neg (by omega)]
 simp [BK]
theorem ZM {α:Type}{b:Nat}{l m:List α}(h:l.length=m.length):AR b l=AR b m:=by
 cases l <;> cases m <;> simp_all [AR]
def sa (hp:Hp)(top:Nat)(v:Value)(l o:List AE)(x:Nat×List AE):SS:=⟨[(0,v,true),(5,Hn top l.length,true),(10,AR (top+1) o,true),(11,JU (top+2) l,true),(12, .int .i64 (x.1:Int),true)],hp.Al [(top,AV AA (l ++ [BH])),(top+1,AV AA x.2),(top+2,KE l)],top+3⟩
def q8 (hp:Hp)(top:Nat)(v:Value)(l:List AE)(x:Nat×Array Int):SS:=⟨[(0,v,true),(5,Hn top l.length,true),(11,JU (top+1) l,true),(13, .int .i64 (x.1:Int),true)],hp.Al [(top,AV AA (l ++ [BH])),(top+1,AQ x.2)],top+2⟩
theorem Zt:Aw Tryz.prog 7 YP:=by
 refine .Ep WI ?_ ?_
 ·intro args hp h
  match args,h with
  | [v, .int .u32 id],_=>rfl
 intro args hp hpre top hcl hsc
 match args,hpre with
 | [v, .int .u32 id],⟨⟨l,h⟩,hr,hb,hv,ht⟩=>
 have hs:=h.low hcl
 have ht0:=hcl.lt _ _ ht
 have hp1:=hv.1
 have ht1:=hcl.lt _ _ hp1
 have ht5:=SU hcl hv
 have hv6:∀ {h':Hp} {k:Nat} {o:Option Ay},CZ (h'.set (top+k) o)=CZ h':=fun {h'} {k} {o}=>GW (by omega)
 simp only [h.rd] at hb hr
 have hbl:(l.length≤16000000)=True:=eq_true (by omega)
 have hbl2:(l.length≤1759218604390)=True:=eq_true (by omega)
 have hl47:l.length≤1759218604390:=by omega
 have hl16:l.length≤16000000:=by omega
 have hal:(∀x∈l,FY x)=True:=eq_true hr
 have hPV:Jl l= .tuple ⟨[.string ⟨⟨TB l⟩⟩, .int .i64 (SL l)]⟩:=rfl
 have o1:∀ {h':Hp},h' top=AV AA (l ++ [BH])→HJ AA h' (Hn top l.length)=True:=fun e=>(RW hl16 e).P
 have o2:∀ {h':Hp},h' top=AV AA (l ++ [BH])→AA.rd h' (Hn top l.length)=l:=fun e=>(RW hl16 e).rd
 have hol:(Kt l id).length≤l.length:=List.length_filter_le _ _
 generalize hOf:Kt l id=o at hol
 have f1:∀ {h':Hp} {t:Nat},h' t=AV AA o→HJ AA h' (AR t o)=True:=fun e=>eq_true ⟨o,BM.own e (by omega)⟩
 have f2:∀ {h':Hp} {t:Nat},h' t=AV AA o→AA.rd h' (AR t o)=o:=fun e=>(BM.own e (by omega)).rd
 have i1:∀ {h':Hp} {t:Nat},h' t=KE l→HJ AF h' (JU t l)=True:=fun e=>eq_true ⟨_,KG e hl47⟩
 have i2:∀ {h':Hp} {t:Nat},h' t=KE l→AF.rd h' (JU t l)=ET l:=fun e=>(KG e hl47).rd
 have hle:=Lw (l:=l)
 have j1:∀ {h':Hp} {t:Nat},h' t=AV AF (ET l)→HJ AF h' (AR t (ET l))=True:=fun e=>eq_true ⟨_,BM.own e (by omega)⟩
 have j2:∀ {h':Hp} {t:Nat},h' t=AV AF (ET l)→AF.rd h' (AR t (ET l))=ET l:=fun e=>(BM.own e (by omega)).rd
 refine AK.Ar A7 WI rfl 79 rfl [.tmp 4] rfl (show 2≤79 by decide) ?_
 refine CW.vc TP [0,1,4,5,6,7,8,9,10,11,12,13,53,57,67] (by kernel_rfl) ?_
 (repeat ((try refine Vc.mk' ?_);simp (maxSteps:=6000000) only [go_sem,reduceCtorEq,Nat.reduceAdd,Nat.reduceEqDiff,h.P,h.rd,jq hs,iE hs,xL,vt,wO,yQ,wA,wR,xd,wQ,wL,Qe,Q9,L3,MU,Qw,Lq,JO,ht,hp1,BS ht0,BS ht1,hal,hbl,hbl2,hPV,o1,o2,hOf,f1,f2,i1,i2,j1,j2,mX,IV,decide_true,Bool.not_true]))
 refine CW.Bs (sa hp top v l o) (fun x=>x.1≤o.length∧x.2.length=o.length) (fun x=>o.length - x.1) (0,o) ⟨Nat.zero_le _,rfl⟩ ((by refine Ao.mk' [top,top+1,top+2] hcl (by simp) (by simp) rfl (AG ?_) ?_ ?_ <;> simp [Ac,BU,Ax,AB.nil,AB.cons,Az,Ap,DY,BJ,AD,BF,AJ.set,AJ.refl,Sc.Ax (fun j hj=>AM hj) hs,Jw,TD,Kj])) ?_
 rintro ⟨k,F⟩ ⟨hk,hF⟩
 dsimp only at hk hF ⊢
 have lnO:∀ {h':Hp},Cj tt.get h' 22 (AR (top+1) o)=(.int .i64 (o.length:Int),True):=fun {h'}=>by
  have:=BI (BM.own (E:=AA) (hp:=fun _=>AV AA o) (b:=top+1) (l:=o) rfl (by omega)) (hp':=h')
  exact this
 by_cases hkl:k < o.length
 ·have c1:((k:Int) < (o.length:Int))=True:=eq_true (by omega)
  have kk:AP .i64 ((k:Int)+1)=((k+1:Nat):Int):=by rw [wrap64 (by omega) (by omega)];omega
  have hix:Af tt.get 22 (AR (top+1) o) (.int .i64 (k:Int))=(BK (AR (top+1) o) (k * 10),True):=by
   have:=BW (BM.own (E:=AA) (hp:=fun _=>AV AA o) (b:=top+1) (l:=o) rfl (by omega)) (k:= .i64) (n:=(k:Int)) (by omega) (by omega)
   rwa [Int.toNat_natCast] at this
  have hos:∀ {h':Hp},h' (top+1)=AV AA F→Ai tt.get h' 33 (BK (AR (top+1) o) (k * 10)) (.agg ⟨AA.enc ba⟩)=([(top+1,AV AA (F.set k ba))],True):=fun {h'} e=>by
   have:=Y7 (hp:=h') (b:=top+1) (l:=F) (i:=k) e (by omega) (a0:=0) (a1:=0) (a2:=0) (a3:=0) (a4:=0) (a5:=0) (a6:=0) (a7:=0) (a8:=0) (a9:=0)
   rw [ZM hF] at this
   exact this
  simp only [Cs,ba] at hos
  refine CW.vc TP [0,1,4,5,6,7,8,9,10,11,12,13,53,57,67] (by kernel_rfl) ?_
  (repeat ((try refine Vc.mk' ?_);simp (maxSteps:=6000000) only [go_sem,Nat.reduceEqDiff,sa,lnO,c1,decide_true,hix,hos,kk]))
  refine .mk (k+1,F.set k ba) ⟨hkl,by dsimp only;rw [List.length_set];exact hF⟩ (by dsimp only;omega) ((by refine Ao.mk' [top,top+1,top+2] hcl (by simp) (by simp) rfl (AG ?_) ?_ ?_ <;> simp [Ac,BU,Ax,AB.nil,AB.cons,Az,Ap,DY,BJ,AD,BF,AJ.set,AJ.refl,ba,Sc.Ax (fun j hj=>AM hj) hs,Jw,TD,Kj]))
 ·have c1:((k:Int) < (o.length:Int))=False:=eq_false (by omega)
  refine CW.vc TP [0,1,4,5,6,7,8,9,10,11,12,13,53,57,67] (by kernel_rfl) ?_
  (repeat ((try refine Vc.mk' ?_);simp (maxSteps:=6000000) only [go_sem,sa,lnO,c1,decide_false]))
  clear f1 f2 i1 i2 j1 j2 o1 o2 lnO
  obtain ⟨D,hD⟩:∃D,D=KM (MH l).toArray:=⟨_,rfl⟩
  have hDs:D.size=l.length:=by rw [hD,aF];simp [ME]
  have hO:KE l=AQ D:=by rw [hD];rfl
  refine CW.Bs (q8 hp top v l) (fun x=>x.1≤(ET l).length∧x.2.size=l.length) (fun x=>(ET l).length - x.1) (0,D) ⟨Nat.zero_le _,hDs⟩ ((by refine Ao.mk' [top,top+2] hcl (by simp) (by simp) rfl (AG ?_) ?_ ?_ <;> simp [Ac,BU,Ax,AB.nil,AB.cons,Az,Ap,DY,AD,BF,AJ.set,AJ.refl,hO,Sc.Ax (fun j hj=>AM hj) hs,Jw,AL,Kj])) ?_
  rintro ⟨j,E⟩ ⟨hj,hE⟩
  dsimp only at hj hE ⊢
  have lnI:=fun (h':Hp)=>gU (h':=h') (t:=top+1) hl47
  by_cases hjl:j < (ET l).length
  ·have c2:((j:Int) < ((ET l).length:Int))=True:=eq_true (by omega)
   have kj:AP .i64 ((j:Int)+1)=((j+1:Nat):Int):=by rw [wrap64 (by omega) (by omega)];omega
   have xj:=nG (t:=top+1) hl47 hjl
   have sj:∀ {h':Hp},h' (top+1)=AQ E→Ai tt.get h' 29 (.pointer (some ⟨top+1,j,none⟩)) (.int .u32 0)=([(top+1,AQ (E.setIfInBounds j 0))],True):=fun e=>BC e (by omega)
   refine CW.vc TP [0,1,4,5,6,7,8,9,10,11,12,13,53,57,67] (by kernel_rfl) ?_
   (repeat ((try refine Vc.mk' ?_);simp (maxSteps:=6000000) only [go_sem,q8,lnI,c2,decide_true,xj,sj,kj]))
   refine .mk (j+1,E.setIfInBounds j 0) ⟨hjl,by dsimp only;rw [Array.size_setIfInBounds];exact hE⟩ (by dsimp only;omega) ((by refine Ao.mk' [top,top+1] hcl (by simp) (by simp) rfl (AG ?_) ?_ ?_ <;> simp [Ac,BU,Ax,AB.nil,AB.cons,Az,Ap,DY,AD,BF,AJ.set,AJ.refl,Sc.Ax (fun j hj=>AM hj) hs,Jw,AL,Kj]))
  ·have c2:((j:Int) < ((ET l).length:Int))=False:=eq_false (by omega)
   have hK:(∃b l_1,Hn top l.length=Hn b l_1.length∧((hp.set top (AV AA (l ++ [BH]))).set (top+1) (AQ E)) b=AV AA (l_1 ++ [BH])∧l_1.length≤16000000∧BM AA ((hp.set top (AV AA (l ++ [BH]))).set (top+1) (AQ E)) v l_1)=True:=eq_true ⟨top,l,rfl,by simp [Hp.set],hl16,(h.set hs (Nat.le_refl _)).set hs (Nat.le_succ _)⟩
   refine CW.vc TP [0,1,4,5,6,7,8,9,10,11,12,13,53,57,67] (by kernel_rfl) ?_
   (repeat ((try refine Vc.mk' ?_);simp (maxSteps:=6000000) only [go_sem,vW,yc,J6,MA,hv,ht,BS ht0,GW ht5,hv6,q8,lnI,c2,decide_false,hK]))
end Go.Proofs.YthpibnpeaidabaaGreatDoor.Dm
