/- TraceParts: the walk. -/
import Derived.Test.YthpibnpeaidabaaGreatDoorTPP
set_option linter.unusedVariables false
namespace Go.Proofs.YthpibnpeaidabaaGreatDoor.Dm
open Go.Dm
set_option maxHeartbeats 16000000
set_option maxRecDepth 20000
def aB:BB:= .pure (fun args hp=>match args with | [v]=>KR AE hp v∧(AE.rd hp v).length≤1759218604390∧CS hp∧hp 0=some Wj | _=>False) (fun _ _=> .bool true)
def uB:FuncId→BB:=Bj (Bj (Bj G0 9 Gs) 19 L6) 20 Q7
theorem Hq:B7 Tryz.prog tt.get uB:=((EY.add Yv).add oZ).add tU
theorem lQ:uB 9=Gs:=rfl
theorem lB:uB 19=L6:=rfl
theorem kF:uB 20=Q7:=rfl
def qj (hp:Hp)(top:Nat)(v:Value):SS:=⟨[(0,v,true),(3, .slice none 0 0,true),(4, .int .i64 0,true),(5, .int .i64 0,true)],hp.Am [],top+0⟩
def WV (hp:Hp)(top:Nat)(v:Value)(l:List AM)(D:Array Int)(c n:Nat)(i:Nat):SS:=⟨[(0,v,true),(3, .slice (some ⟨top,0,none⟩) c n,true),(4, .int .i64 (Jz ((DI l).take i) l:Int),true),(5, .int .i64 (i:Int),true)],hp.Am [(top,AO D)],top+1⟩
def V5 (hp:Hp)(top:Nat)(v:Value)(D:Array Int)(c n m i:Nat)(o:List AM)(x:Nat×Nat):SS:=⟨[(0,v,true),(3, .slice (some ⟨top,0,none⟩) c n,true),(4, .int .i64 (m:Int),true),(5, .int .i64 (i:Int),true),(6,Ao (top+1) o,true),(7, .int .i64 (x.1:Int),true),(8, .int .i64 (x.2:Int),true)],hp.Am [(top,AO D),(top+1,Af AE o)],top+2⟩
theorem Yk:A4 Tryz.prog 6 aB:=by
 refine .Hg TA ?_ ?_
 ·intro args hp h
  match args,h with
  | [v],_=>rfl
 intro args hp hpre top hcl hsc
 match args,hpre with
 | [v],⟨⟨l,h⟩,hb,hv,ht⟩=>
 have hs:=h.low hcl
 simp only [h.rd] at hb
 have hbl:(l.length≤1759218604390)=True:=eq_true (by omega)
 refine AK.A5 BC TA rfl 93 rfl [.tmp 2] rfl (show 1≤93 by decide) ?_
 by_cases hl0:l.length=0
 ·have hV:Sy top l= .slice none 0 0:=by unfold Sy;rw [if_pos hl0]
  have hO:XH l=none:=by rw [List.eq_nil_of_length_eq_zero hl0];exact QK
  refine CW.vc Hq [0,2,3,4,5,6,7,8,10,16,43,47,64,82] (by kernel_rfl) ?_
  (repeat ((try refine Vc.mk' ?_);simp (config:= {maxSteps:=6000000}) only [go_sem,h.P,h.rd,lQ,lB,Gs,L6,hv,ht,hbl,hV,hO]))
  refine CW.Bp (fun _:Unit=>qj hp top v) (fun _=>True) (fun _=>0) () trivial ((by refine Ar.mk' [] hcl (by simp) (by simp) rfl (AG ?_) ?_ ?_ <;> simp [Ac,Ba,A3,AA.nil,AH.set,AH.refl,Sc.A3 (fun j hj=>AP hj) hs])) ?_
  rintro ⟨⟩ _
  have l0:∀ {h':Hp},Cy tt.get h' 51 (.slice none 0 0)=(.int .i64 0,True):=fun {h'}=>by
   have:=E4 (BQ.nils (E:=AQ) (hp:=hp)) (hp':=h')
   simpa using this
  refine CW.vc Hq [0,2,3,4,5,6,7,8,10,16,43,47,64,82] (by kernel_rfl) ?_
  (repeat ((try refine Vc.mk' ?_);simp (config:= {maxSteps:=6000000}) only [go_sem,CN h,qj,l0,hl0,Int.lt_irrefl,decide_false,decide_true,show ((0:Nat):Int)=0 from rfl]))
 obtain ⟨n,hn⟩:∃n,n=l.length:=⟨_,rfl⟩
 obtain ⟨c,hc⟩:∃c,c=(DI l).length:=⟨_,rfl⟩
 obtain ⟨D,hD⟩:∃D,D=Md (Mb l).toArray:=⟨_,rfl⟩
 have hcn:c≤n:=by rw [hc,hn];exact Us
 have hDs:D.size=n:=by rw [hD,ZX];simp [Pm,hn]
 have hDi:∀i,i < c→D[i]! = at' (DI l) i:=fun i hi=>by rw [hD];exact jK (by omega)
 have hV:Sy top l= .slice (some ⟨top,0,none⟩) c n:=by unfold Sy;rw [if_neg hl0,hc,hn]
 have hO:XH l=AO D:=by rw [hD];rfl
 have lenI:=fun (h':Hp)=>Kf (h':=h') (b:=top) (o:=0) hcn (show c≤35184372088832 by omega)
 refine CW.vc Hq [0,2,3,4,5,6,7,8,10,16,43,47,64,82] (by kernel_rfl) ?_
 (repeat ((try refine Vc.mk' ?_);simp (config:= {maxSteps:=6000000}) only [go_sem,h.P,h.rd,lQ,lB,Gs,L6,hv,ht,hbl,hV,hO]))
 refine CW.Bp (WV hp top v l D c n) (fun i=>i≤c) (fun i=>c - i) 0 (Nat.zero_le _) ?_ ?_
 ·exact (by refine Ar.mk' [top] hcl (by simp) (by simp) rfl (AG ?_) ?_ ?_ <;> simp [Ac,Ba,A3,AA.nil,AA.cons,BG,AB,AH.set,AH.refl,Sc.A3 (fun j hj=>AP hj) hs,AF,show Jz [] l=0 from rfl,show ((0:Nat):Int)=0 from rfl])
 intro i hi
 by_cases hlt:i < c
 ·have hic:i < (DI l).length:=by omega
  have c1:((i:Int) < (c:Int))=True:=eq_true (by omega)
  have xi:=fun (bb:Nat)=>KV (b:=bb) (o:=0) hcn (show c≤35184372088832 by omega) hlt
  have li:∀ {h':Hp},h' top=AO D→AZ tt.get h' 29 (.pointer (some ⟨top,i,none⟩))=(.int .u32 (at' (DI l) i),True):=fun e=>by rw [←hDi i hlt];exact Ab e (by omega) (by omega)
  have hpos:=fZ hic
  have hsuc:=aO (l:=l) hic
  have hle1:=pD (l:=l) (i:=i+1)
  obtain ⟨id,hid⟩:∃z,z=at' (DI l) i:=⟨_,rfl⟩
  rw [←hid] at li hpos hsuc
  have hOid:∀k,k < (JR l id).length→(at' (JR l id) k).Id=id:=fun k hk=>mY hk
  have hsub:(JR l id).Sublist l:=List.filter_sublist
  generalize hOf:JR l id=o at hpos hsuc hOid hsub
  have hol:o.length≤l.length:=hsub.length_le
  have hO:BQ AE ((hp.set top (AO D)).set (top+1) (Af AE o)) (Ao (top+1) o) o:=BQ.RM (by simp [Hp.set]) (by omega)
  have oz:((o.length:Int)=0)=False:=eq_false (by omega)
  have ki:AL .i64 ((i:Int)+1)=((i+1:Nat):Int):=by rw [wrap64 (by omega) (by omega)];omega
  have kn:AL .i64 ((Jz ((DI l).take i) l:Int)+(o.length:Int))=(Jz ((DI l).take (i+1)) l:Int):=by rw [hsuc,wrap64 (by omega) (by omega)];omega
  have hfin:∀ {s':SS},(∃ρ,Ar ρ top (WV hp top v l D c n (i+1)) s')→Round top (WV hp top v l D c n) (fun i=>i≤c) (fun i=>c - i) i s':=fun hs=> .mk (i+1) (by omega) (by omega) hs
  have hway:(i=0)∨(0 < i∧D[i - 1]! < id):=by
   rcases Nat.eq_zero_or_pos i with h0 | h0
   ·exact .inl h0
   ·obtain ⟨j,rfl⟩:∃j,i=j+1:=⟨i - 1,by omega⟩
    refine .inr ⟨h0, ?_⟩
    rw [Nat.add_sub_cancel,hDi j (by omega),hid]
    exact gP hic
  apply Vd (A:=True)
  ·intro rest
   rcases hway with h0 | ⟨h0,hid2⟩
   ·have c2:((0:Int) < (i:Int))=False:=eq_false (by omega)
    refine CW.vc Hq [0,2,3,4,5,6,7,8,10,16,43,47,64,82] (by kernel_rfl) ?_
    (repeat ((try refine Vc.mk' ?_);simp (config:= {maxSteps:=6000000}) only [go_sem,reduceCtorEq,Nat.reduceAdd,h.P,h.rd,UY hs,RL hs,CN hO,kF,Q7,hbl,WV,lenI,c1,decide_true,xi,li,Nat.zero_add,hOf,oz,decide_false,c2]))
    exact rest trivial
   ·have c2:((0:Int) < (i:Int))=True:=eq_true (by omega)
    obtain ⟨im,him⟩:∃z:Nat,z=i - 1:=⟨_,rfl⟩
    rw [←him] at hid2
    have wim:AL .i64 ((i:Int) - 1)=((im:Nat):Int):=by rw [wrap64 (by omega) (by omega)];omega
    have xm:=fun (bb:Nat)=>KV (b:=bb) (o:=0) hcn (show c≤35184372088832 by omega) (show im < c by omega)
    have lm:∀ {h':Hp},h' top=AO D→AZ tt.get h' 29 (.pointer (some ⟨top,im,none⟩))=(.int .u32 D[im]!,True):=fun e=>Ab e (by omega) (by omega)
    have c3:(D[im]! < id)=True:=eq_true hid2
    refine CW.vc Hq [0,2,3,4,5,6,7,8,10,16,43,47,64,82] (by kernel_rfl) ?_
    (repeat ((try refine Vc.mk' ?_);simp (config:= {maxSteps:=6000000}) only [go_sem,reduceCtorEq,Nat.reduceAdd,h.P,h.rd,UY hs,RL hs,CN hO,kF,Q7,hbl,WV,lenI,c1,decide_true,xi,li,Nat.zero_add,hOf,oz,decide_false,c2,wim,xm,lm,c3,Bool.not_true]))
    exact rest trivial
  intro _
  refine CW.Bp (V5 hp top v D c n (Jz ((DI l).take i) l) i o) (fun x=>x.1≤l.length∧x.2≤o.length∧(o.drop x.2).Sublist (l.drop x.1)) (fun x=>o.length - x.2) (0,0) ⟨Nat.zero_le _,Nat.zero_le _,hsub⟩ ((by refine Ar.mk' [top,top+1] hcl (by simp) (by simp) rfl (AG ?_) ?_ ?_ <;> simp [Ac,Ba,A3,AA.nil,AA.cons,B0,BG,Gw,Cs,AB,BH,AH.set,AH.refl,Sc.A3 (fun j hj=>AP hj) hs,AF])) ?_
  rintro ⟨a,k⟩ ⟨ha,hk,hsl⟩
  dsimp only at ha hk hsl ⊢
  by_cases hkl:k < o.length
  ·have c4:((k:Int) < (o.length:Int))=True:=eq_true (by omega)
   refine CW.vc Hq [0,2,3,4,5,6,7,8,10,16,43,47,64,82] (by kernel_rfl) ?_
   (repeat ((try refine Vc.mk' ?_);simp (config:= {maxSteps:=6000000}) only [go_sem,CN hO,V5,c4,decide_true]))
   refine CW.Bp (V5 hp top v D c n (Jz ((DI l).take i) l) i o) (fun x=>x.2=k∧x.1≤l.length∧(o.drop k).Sublist (l.drop x.1)) (fun x=>l.length - x.1) (a,k) ⟨rfl,ha,hsl⟩ ((by refine Ar.mk' [top,top+1] hcl (by simp) (by simp) rfl (AG ?_) ?_ ?_ <;> simp [Ac,Ba,A3,AA.nil,AA.cons,B0,BG,Gw,Cs,AB,BH,AH.set,AH.refl,Sc.A3 (fun j hj=>AP hj) hs,AF])) ?_
   rintro ⟨b,k2⟩ ⟨e1,hb2,hsl2⟩
   dsimp only at e1 hb2 hsl2 ⊢
   subst e1
   have hbl2:b < l.length:=by
    rcases Nat.lt_or_ge b l.length with h1 | h1
    ·exact h1
    ·rw [List.drop_eq_nil_of_le h1,Iu hkl] at hsl2
     cases hsl2
   rw [Iu hkl,Iu hbl2] at hsl2
   have c5:((b:Int) < (l.length:Int))=True:=eq_true (by omega)
   have kb:AL .i64 ((b:Int)+1)=((b+1:Nat):Int):=by rw [wrap64 (by omega) (by omega)];omega
   have kk:AL .i64 ((k2:Int)+1)=((k2+1:Nat):Int):=by rw [wrap64 (by omega) (by omega)];omega
   by_cases heq:at' l b=at' o k2
   ·have ceq:(at' l b=at' o k2)=True:=eq_true heq
    have c6:((b:Int)=(l.length:Int))=False:=eq_false (by omega)
    have hidk:((at' o k2).Id=id)=True:=eq_true (hOid k2 hkl)
    refine CW.vc Hq [0,2,3,4,5,6,7,8,10,16,43,47,64,82] (by kernel_rfl) ?_
    (repeat ((try refine Vc.mk' ?_);simp (config:= {maxSteps:=6000000}) only [go_sem,reduceCtorEq,Nat.reduceEqDiff,CN h,DG h,Dd h,Gf hs,DG hO,Dd hO,Rn hO,SE hO,V5,c5,hbl2,hkl,decide_true,decide_false,VB,ceq,Bool.not_true,xi,li,Nat.zero_add,hidk,c6,kb,kk]))
    refine .mk (b+1,k2+1) ⟨hbl2,hkl,iO hsl2⟩ (by dsimp only;omega) ((by refine Ar.mk' [top,top+1] hcl (by simp) (by simp) rfl (AG ?_) ?_ ?_ <;> simp [Ac,Ba,A3,AA.nil,AA.cons,B0,BG,Gw,Cs,AB,BH,AH.set,AH.refl,Sc.A3 (fun j hj=>AP hj) hs,AF]))
   ·have hs3:=Zl hsl2 heq
    rw [←Iu hkl] at hs3
    refine CW.vc Hq [0,2,3,4,5,6,7,8,10,16,43,47,64,82] (by kernel_rfl) ?_
    (repeat ((try refine Vc.mk' ?_);simp (config:= {maxSteps:=6000000}) only [go_sem,CN h,DG h,Dd h,Gf hs,DG hO,Dd hO,V5,c5,hbl2,hkl,decide_true,decide_false,VB,heq,Bool.not_false,kb]))
    refine .mk (b+1,k2) ⟨rfl,hbl2,hs3⟩ (by dsimp only;omega) ((by refine Ar.mk' [top,top+1] hcl (by simp) (by simp) rfl (AG ?_) ?_ ?_ <;> simp [Ac,Ba,A3,AA.nil,AA.cons,B0,BG,Gw,Cs,AB,BH,AH.set,AH.refl,Sc.A3 (fun j hj=>AP hj) hs,AF]))
  ·have c4:((k:Int) < (o.length:Int))=False:=eq_false (by omega)
   refine CW.vc Hq [0,2,3,4,5,6,7,8,10,16,43,47,64,82] (by kernel_rfl) ?_
   (repeat ((try refine Vc.mk' ?_);simp (config:= {maxSteps:=6000000}) only [go_sem,reduceCtorEq,Nat.reduceEqDiff,CN hO,V5,c4,decide_false,kn,ki]))
   exact hfin ((by refine Ar.mk' [top] hcl (by simp) (by simp) rfl (AG ?_) ?_ ?_ <;> simp [Ac,Ba,A3,AA.nil,AA.cons,BG,AB,BH,AH.set,AH.refl,Sc.A3 (fun j hj=>AP hj) hs,AF]))
 ·have hi2:i=c:=by omega
  have c1:((i:Int) < (c:Int))=False:=eq_false (by omega)
  have hN:Jz ((DI l).take i) l=l.length:=by rw [List.take_of_length_le (by omega)];exact VX
  refine CW.vc Hq [0,2,3,4,5,6,7,8,10,16,43,47,64,82] (by kernel_rfl) ?_
  (repeat ((try refine Vc.mk' ?_);simp (config:= {maxSteps:=6000000}) only [go_sem,CN h,WV,lenI,c1,decide_false,hN,decide_true]))
end Go.Proofs.YthpibnpeaidabaaGreatDoor.Dm
