import Derived.Test.YthpibnpeaidabaaGreatDoorTSF
import Derived.Test.YthpibnpeaidabaaGreatDoorTOF
set_option linter.unusedVariables false
namespace Go.Proofs.YthpibnpeaidabaaGreatDoor.Dm
open Go.Dm
open Go.Sort (ltInt)
set_option maxHeartbeats 64000000
set_option maxRecDepth 20000
def Jt (l:List AE):List Int:=l.map fun e=>e.Id
theorem KJ {l:List AE}:(Jt l).length=l.length:=by simp [Jt]
theorem cP {l:List AE}{k:Nat}(h:k < l.length):Jt (l.take (k+1))=Jt (l.take k) ++ [(at' l k).Id]:=by
 unfold Jt;rw [E9 h,List.map_append];rfl
def MH (l:List AE):List Int:=(Jt l).mergeSort fun x y=>decide (x≤y)
theorem ME {l:List AE}:(MH l).length=l.length:=by unfold MH;rw [List.length_mergeSort,KJ]
def ET (l:List AE):List Int:=B3 (MH l)
def KE (l:List AE):Option Ay:=AQ (KM (MH l).toArray)
def JU (top:Nat)(l:List AE):Value:=if l.length=0 then .slice none 0 0 else .slice (some ⟨top,0,none⟩) (ET l).length l.length
theorem tQ {l:List AE}:Go.Sort.sort ltInt (Jt l).toArray=(MH l).toArray:=by
 have h:=Go.Sort.sortInt (Jt l)
 unfold MH
 rw [←h,Array.toArray_toList]
theorem Lw {l:List AE}:(ET l).length≤l.length:=by
 have:=gz (MH l)
 rw [ME] at this;exact this
theorem aF {d:Array Int}:(KM d).size=d.size:=by
 have h:(B3 d.toList).length≤d.size:=gz d.toList
 unfold KM
 rw [List.size_toArray,List.length_append,List.length_replicate]
 exact Nat.add_sub_cancel' h
theorem KG {hp:Hp}{top:Nat}{l:List AE}(h:hp top=KE l)(hl:l.length≤1759218604390):BM AF hp (JU top l) (ET l):=by
 unfold JU
 split
 ·rename_i h0
  have:ET l= []:=List.eq_nil_of_length_eq_zero (by have:=Lw (l:=l);omega)
  rw [this];exact .nils
 ·rename_i h0
  have hC:(KM (MH l).toArray).toList=ET l ++ List.replicate (l.length - (ET l).length) 0:=by
   unfold KM ET;simp [ME]
  have hle:=Lw (l:=l)
  have hsz:(KM (MH l).toArray).toList.length=l.length:=by rw [hC];simp;omega
  have hfl:∀l:List Int,(AF.flat l).length=l.length:=fun l=>by rw [Bk.Bb];exact Nat.mul_one _
  have ho:hp top=some (.cells true AF.size (AF.flat (KM (MH l).toArray).toList)):=by
   rw [h];unfold KE AQ
   cases e:(KM (MH l).toArray).toList with
   |nil=>rw [e] at hsz;simp at hsz;omega
   |cons x r=>rfl
  refine BM.rows top 0 l.length true _ (ET l) ho ?_ ?_ hle (by omega)
  ·have:=Bk.Gu (E:=AF) (KM (MH l).toArray).toList (ET l).length
   rw [List.drop_zero,this,hC,List.take_left]
  ·rw [hfl,hsz,show AF.size=1 from rfl];omega
def Qw:BG:= .det (fun args hp _=>match args with | [v]=>HJ AA hp v∧(AA.rd hp v).length≤1759218604390 | _=>False) (fun args hp top=>match args with | [v]=>(JU top (AA.rd hp v), [(top,KE (AA.rd hp v))],top+1) | _=>(undef, [],top))
theorem vT {n:Nat}(h:n≤1759218604400):B6 n Jf.bytes=true:=by
 unfold B6
 rw [Bool.and_eq_true,show Jf.bytes=4 from rfl]
 exact ⟨Nat.ble_eq_true_of_le (by omega),Nat.ble_eq_true_of_le (by omega)⟩
def GSI:FuncId→BG:=BQ (BQ G0 51 Sb) 52 UO
theorem XU:B4 Tryz.prog tt.get GSI:=(Da.add xk).add xa
theorem qZ:GSI 51=Sb:=rfl
theorem pW:GSI 52=UO:=rfl
def X7 (hp:Hp)(top:Nat)(v:Value)(l:List AE)(k:Nat):SS:=⟨[(3,AR top (Jt (l.take k)),true),(6,v,true),(7, .int .i64 (l.length:Int),true),(8, .int .i64 (k:Int),true)],hp.Al [(top,AV AF (Jt (l.take k)))],top+1⟩
theorem qs {t:Nat}{l:List Int}(h:0 < l.length):AR t l= .slice (some ⟨t,0,none⟩) l.length l.length:=by rw [J9,NC h]
theorem iQ:KE [] = none:=by
 unfold KE
 rw [show MH [] = [] from by unfold MH;simp [Jt]];rfl
theorem qq:Aw Tryz.prog 19 Qw:=by
 refine .Cg Pm ?_
 intro args hp top hpre hcl hsc
 match args,hpre with
 | [v],⟨⟨l,h⟩,hb⟩=>
 have hs:=h.low hcl
 simp only [h.rd] at hb ⊢
 refine AK.Ar A7 Pm rfl 22 rfl [.tmp 2] rfl (show 1≤22 by decide) ?_
 refine CW.vc XU [0,2,3,5,6,7,8,9] (by kernel_rfl) ?_
 (repeat ((try refine Vc.mk' ?_);simp (maxSteps:=6000000) only [go_sem,BI h]))
 refine CW.Bs (X7 hp top v l) (fun k=>k≤l.length) (fun k=>l.length - k) 0 (Nat.zero_le _) ?_ ?_
 ·exact (by refine Ao.mk' [top] hcl (by simp) (by simp) rfl (AG ?_) ?_ ?_ <;> simp [Ac,BU,Ax,AB.nil,AB.cons,Ap,AJ.refl,Sc.Ax (fun j hj=>AM hj) hs,show Jt [] = [] from rfl,EC,Et])
 ·intro k hi
  by_cases hlt:k < l.length
  ·have kk:AP .i64 ((k:Int)+1)=((k+1:Nat):Int):=CL hlt (by omega)
   have hlO:(Jt (l.take k)).length≤l.length:=by rw [KJ,List.length_take];omega
   have hap:∀ {h':Hp} {j q t:Nat},h' j=AV AF (Jt (l.take k))→h' q=some (.cells true 1 [.int .u32 (at' l k).Id])→Ab tt.get h' t [51,51] (AR j (Jt (l.take k))) (.slice (some ⟨q,0,none⟩) 1 1)=some (AR t (Jt (l.take k) ++ [(at' l k).Id]),CP j (Jt (l.take k)) t (AV AF (Jt (l.take k) ++ [(at' l k).Id])),t+1):=fun {h'} {j} {q} {t} a1 a2=>by
    have e3:cellsOf (h' q)= [.int .u32 (at' l k).Id]:=by rw [a2];rfl
    have:=HF (hp:=h') (b:=j) (top:=t) (k:=q) a1 (by rw [e3];exact a2) (by rw [e3];rfl) (vT (by omega))
    rw [e3] at this
    exact this
   have es:=cP hlt
   refine CW.vc XU [0,2,3,5,6,7,8,9] (by kernel_rfl) ?_
   (repeat ((try refine Vc.mk' ?_);simp (maxSteps:=6000000) only [go_sem,reduceCtorEq,Nat.reduceAdd,Nat.reduceMul,Nat.reduceLT,Nat.reduceLeDiff,BW h,Cw h,Cf hs,X7,hlt,kk,hap,decide_true]))
   refine .mk (k+1) hlt (by omega) ((by refine Ao.mk' [top+3] hcl (by simp) (by simp) rfl (AG ?_) ?_ ?_ <;> simp [Ac,BU,Ax,AB.nil,AB.cons,Az,Ap,BJ,AD,AJ.set,AJ.refl,Sc.Ax (fun j hj=>AM hj) hs,es]))
  ·have hi2:k=l.length:=by omega
   subst hi2
   by_cases h0:l.length=0
   ·have hl0:l= []:=List.eq_nil_of_length_eq_zero h0
    subst hl0
    have p0:∀ {h':Hp},TT h' (.slice none 0 0)=True:=fun {h'}=>eq_true (.inl rfl)
    refine CW.vc XU [0,2,3,5,6,7,8,9] (by kernel_rfl) ?_
    (repeat ((try refine Vc.mk' ?_);simp (maxSteps:=6000000) only [go_sem,X7,List.take_nil,List.length_nil,show Jt [] = [] from rfl,EC,Et,Nat.lt_irrefl,decide_false,qZ,pW,Sb,UO,p0,U4,uE]))
    (refine ⟨[top],by simp,by simp,by simp, ?_, ?_, ?_⟩ <;> simp [Ax,AB.nil,AB.cons,Ap,AD,AJ.set,AJ.refl,JU,iQ])
   ·have hil:0 < (Jt l).length:=by rw [KJ];omega
    have hv:AR top (Jt l)= .slice (some ⟨top,0,none⟩) l.length l.length:=by rw [qs hil,KJ]
    have ho:AV AF (Jt l)=AQ (Jt l).toArray:=rfl
    have hz1:(Jt l).toArray.size=l.length:=by simp [KJ]
    have hz2:(MH l).toArray.size=l.length:=by simp [ME]
    have r1:∀ {h':Hp},h' top=AQ (Jt l).toArray→DX h' (.slice (some ⟨top,0,none⟩) l.length l.length) top (Jt l).toArray:=fun e=>Cu e hz1 (by omega) (by omega)
    have r2:∀ {h':Hp},h' top=AQ (MH l).toArray→DX h' (.slice (some ⟨top,0,none⟩) l.length l.length) top (MH l).toArray:=fun e=>Cu e hz2 (by omega) (by omega)
    have p1:∀ {h':Hp},h' top=AQ (Jt l).toArray→TT h' (.slice (some ⟨top,0,none⟩) l.length l.length)=True:=fun e=>eq_true (.inr ⟨_,_,r1 e⟩)
    have p2:∀ {h':Hp},h' top=AQ (MH l).toArray→TT h' (.slice (some ⟨top,0,none⟩) l.length l.length)=True:=fun e=>eq_true (.inr ⟨_,_,r2 e⟩)
    have D1:∀ {h':Hp},h' top=AQ (Jt l).toArray→Hh h' (.slice (some ⟨top,0,none⟩) l.length l.length)=(Jt l).toArray:=fun e=>(r1 e).D5
    have D2:∀ {h':Hp},h' top=AQ (MH l).toArray→Hh h' (.slice (some ⟨top,0,none⟩) l.length l.length)=(MH l).toArray:=fun e=>(r2 e).D5
    refine CW.vc XU [0,2,3,5,6,7,8,9] (by kernel_rfl) ?_
    (repeat ((try refine Vc.mk' ?_);simp (maxSteps:=6000000) only [go_sem,X7,List.take_length,Nat.lt_irrefl,decide_false,hv,ho,qZ,pW,Sb,UO,p1,p2,D1,D2,tQ,EG,uE]))
    (refine ⟨[top],by simp,by simp,by simp, ?_, ?_, ?_⟩ <;> simp [Ax,AB.nil,AB.cons,Ap,AD,AJ.set,AJ.refl,JU,KE,ET,h0,AL])
end Go.Proofs.YthpibnpeaidabaaGreatDoor.Dm
