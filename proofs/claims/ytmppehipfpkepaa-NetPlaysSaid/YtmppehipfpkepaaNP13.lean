/- The document's Bc: Graph, Near. -/
import Derived.Test.YtmppehipfpkepaaNP9
set_option linter.unusedVariables false
namespace Go.Proofs.Ytmppehipfpkepaa.Dm
open Go.Dm
set_option maxHeartbeats 16000000
set_option maxRecDepth 20000
def Nc (s:As)(a:Int):Bool:=Aj s.st a.toNat
def DW (s:As):List Int:=s.R.filter fun a=> !Nc s a
def Lh (s:As):List AX:=s.l.filter fun x=>Mz s x.A x.B
noncomputable def Ww (s:As)(top:Nat):Value×BC×Nat:=(.agg ⟨[AK top (Gr.nO (DW s) (Lh s)),AK (top+1) (Gr.eO (DW s) (Lh s))]⟩, [(top,AO Ab (Gr.nO (DW s) (Lh s))),(top+1,AO A9 (Gr.eO (DW s) (Lh s)))],top+2)
noncomputable def Ji:Bp:= .det (fun args hp _=>match args with | [.pointer (some ⟨n,0,none⟩)]=>GM hp n∧(IH hp n).R.length≤1000 | _=>False) (fun args hp top=>match args with
 | [.pointer (some ⟨n,_,_⟩)]=>Ww (IH hp n) top | _=>(undef, [],top))
def jm (s:As)(k:Nat):List Int:=(s.R.take k).filter fun a=> !Nc s a
def jf (s:As)(k:Nat):List AX:=(s.l.take k).filter fun x=>Mz s x.A x.B
theorem pC {s:As}{k:Nat}(h:k < s.R.length):jm s (k+1)=if Nc s (Aj s.R k) then jm s k else jm s k ++ [Aj s.R k]:=by
 unfold jm;rw [CO h,List.filter_append,List.filter_cons]
 cases Nc s (Aj s.R k) <;> simp
theorem mC {s:As}{k:Nat}(h:k < s.l.length):jf s (k+1)=if Mz s (Aj s.l k).A (Aj s.l k).B then jf s k ++ [Aj s.l k] else jf s k:=by
 unfold jf;rw [CO h,List.filter_append,List.filter_cons]
 cases Mz s (Aj s.l k).A (Aj s.l k).B <;> simp
theorem zL (s:As)(k:Nat):(jm s k).length≤s.R.length:=by
 unfold jm;exact Nat.le_trans (List.length_filter_le _ _) (by rw [List.length_take];omega)
theorem yd (s:As)(k:Nat):(jf s k).length≤s.l.length:=by
 unfold jf;exact Nat.le_trans (List.length_filter_le _ _) (by rw [List.length_take];omega)
def dF:Option BB:=some (.cells true 0 [.slice none 0 0, .slice none 0 0])
def qp (hp:Hp)(top n:Nat)(s:As)(k:Nat):SS:=⟨[(0, .pointer (some ⟨n,0,none⟩),true),(2, .pointer (some ⟨top,0,none⟩),true),(3,AK (top+1) (jm s k),true),(4, .slice none 0 0,true),(5, .int .i64 (k:Int),true)],hp.AZ [(top,dF),(top+1,AO Ab (jm s k))],top+2⟩
def tJ (hp:Hp)(top n:Nat)(s:As)(k:Nat):SS:=⟨[(0, .pointer (some ⟨n,0,none⟩),true),(2, .pointer (some ⟨top,0,none⟩),true),(3,AK (top+1) (DW s),true),(4,AK (top+2) (jf s k),true),(6, .int .i64 (k:Int),true)],hp.AZ [(top,dF),(top+1,AO Ab (DW s)),(top+2,AO An (jf s k))],top+3⟩
noncomputable def G34:FuncId→Bp:=Bu (Bu (Bu (Bu G33 47 Oc) 48 Mf) 49 MI) 50 Ks
theorem Qr:Cf Try.prog tt.get G34:=(((Kf.add dV).add ZB).add ZO).add Uz
theorem kE:G34 52=Ft:=rfl
theorem yq:G34 42=Gr.ET:=rfl
theorem Y1:BK Try.prog 26 Ji:=by
 refine .Cc XB ?_
 intro args hp top hpre hcl hsc
 match args,hpre with
 | [.pointer (some ⟨n,0,none⟩)],⟨⟨v,s,h⟩,hr⟩=>
 simp only [h.s] at hr ⊢
 have hh:=h.h
 have hR:=h.R
 have hl:=h.l
 have rs1:=hR.low hcl
 have ls1:=hl.low hcl
 have n0:n < top:=hcl.lt _ _ hh
 have hT:=Cz (wv:=v.wv) h.sl h.kl
 have hno:∀k,hp (top+k)=none:=fun k=>by
  cases e:hp (top+k) with
  |none=>rfl
  |some o=>exact absurd (hcl.lt _ _ e) (by omega)
 have R2:∀ {o p q:Option BB},CD (((hp.set top o).set (top+1) p).set (top+2) q) n v s:=fun {o p q}=>((h.fresh (hno 0) o).fresh (by rw [AH _ _ _ _ (by omega)];exact hno 1) p).fresh (by rw [AH _ _ _ _ (by omega),AH _ _ _ _ (by omega)];exact hno 2) q
 have i2:∀ {o p q:Option BB},GM (((hp.set top o).set (top+1) p).set (top+2) q) n=True:=fun {o p q}=>R2.is
 have s2:∀ {o p q:Option BB},IH (((hp.set top o).set (top+1) p).set (top+2) q) n=s:=fun {o p q}=>R2.s
 have g6:∀ {x0 x1 x2 x3 x4 x5 w:Value} {j:Nat},j < 25→((x0 :: x1 :: x2 :: x3 :: x4 :: x5 :: DG s.st s.ks w)[6+j]?).getD undef= .bool (Aj s.st j):=fun hj=>OW h.sl hj
 refine AL.Au BE XB rfl 85 rfl [.cell 2 76] rfl (show 1≤85 by decide) ?_
 refine CW.vc Qr [0,2,3,4,5,6,7,15,30,47,67] (by kernel_rfl) ?_
 (repeat ((try refine Vc.mk' ?_);simp only [go_sem]))
 refine CW.CZ (qp hp top n s) (fun k=>k≤s.R.length) (fun k=>s.R.length - k) 0 (Nat.zero_le _) ?_ ?_
 ·have e0:jm s 0= []:=rfl
  exact (by refine BO.mk' [top,top+1] hcl (by simp) (by simp) rfl (AV ?_) ?_ ?_ <;> simp [Ax,Cd,Ad,Ag,AD.nil,AD.cons,AF,AG,AM,Aw,AB,AH,AE.set,AE.refl,AA n0,e0,dF,Dh,EN])
 ·intro k hk
  have g1:=zL s k
  have g3:(jm s k).length < 16777216:=by omega
  by_cases c1:k < s.R.length
  ·have ha12:1≤Aj s.R k∧Aj s.R k≤24:=by
    have:=h.rl _ (at_mem c1)
    simpa [Gr.BH] using this
   have hst:=pC c1
   unfold Nc at hst
   have lR:CS tt.get hp 3 (BM v.rv k)=(.int .i64 (Aj s.R k),True):=by
    have:=DM hR c1
    rwa [Nat.mul_one] at this
   generalize hak:Aj s.R k=a at ha12 hst lR
   obtain ⟨a1,a2⟩:=ha12
   have ha0:0≤a:=by omega
   have ha1:a < ((25:Nat):Int):=by omega
   have ta:a.toNat < 25:=by omega
   have ta6:6+a.toNat < 657:=by omega
   cases c2:Aj s.st a.toNat with
   |true=>
    rw [c2,if_pos rfl] at hst
    refine CW.vc Qr [0,2,3,4,5,6,7,15,30,47,67] (by kernel_rfl) ?_
    (repeat ((try refine Vc.mk' ?_);simp only [go_sem,Nat.reduceAdd,hh,Az,hT,AS n0,dF,Bs hR,CN hR,Ao rs1,qp,c1,lR,ha0,ha1,ta,ta6,g6,c2,Nat.mul_one]))
    exact .mk (k+1) c1 (by omega) ((by refine BO.mk' [top,top+1] hcl (by simp) (by simp) rfl (AV ?_) ?_ ?_ <;> simp [Ax,Cd,Ad,Ag,AD.nil,AD.cons,AF,AG,AQ,AM,Aw,Af,AB,AH,AE.set,AE.refl,AA n0,hst,dF,Av c1 hR.le]))
   |false=>
    rw [c2,if_neg (by simp)] at hst
    refine CW.vc Qr [0,2,3,4,5,6,7,15,30,47,67] (by kernel_rfl) ?_
    (repeat ((try refine Vc.mk' ?_);simp only [go_sem,Nat.reduceAdd,Nat.reduceLeDiff,Nat.reduceEqDiff,hh,Az,hT,AS n0,dF,Bs hR,CN hR,Ao rs1,qp,c1,lR,ha0,ha1,ta,ta6,g6,c2,g3,Nat.mul_one]))
    exact .mk (k+1) c1 (by omega) ((by refine BO.mk' [top,top+3] hcl (by simp) (by simp) rfl (AV ?_) ?_ ?_ <;> simp [Ax,Cd,Ad,Ag,AD.nil,AD.cons,AF,AG,AQ,AM,Aw,Af,AB,AH,AE.set,AE.refl,AA n0,hst,dF,Av c1 hR.le]))
  ·have hrd:jm s k=DW s:=by unfold jm DW;rw [List.take_of_length_le (by omega)]
   rw [hrd] at g1
   refine CW.vc Qr [0,2,3,4,5,6,7,15,30,47,67] (by kernel_rfl) ?_
   (repeat ((try refine Vc.mk' ?_);simp only [go_sem,Nat.reduceAdd,hh,Az,hT,AS n0,dF,Bs hR,qp,c1,hrd]))
   refine CW.CZ (tJ hp top n s) (fun k=>k≤s.l.length) (fun k=>s.l.length - k) 0 (Nat.zero_le _) ?_ ?_
   ·have e0:jf s 0= []:=rfl
    exact (by refine BO.mk' [top,top+1,top+2] hcl (by simp) (by simp) rfl (AV ?_) ?_ ?_ <;> simp [Ax,Cd,Ad,Ag,AD.nil,AD.cons,AF,AG,AQ,AM,Aw,Af,AB,AH,AE.set,AE.refl,AA n0,e0,dF,Dh,EN])
   ·intro j hj
    have g2:=yd s j
    have g4:(jf s j).length < 16777216:=by have:=h.ll;omega
    by_cases c2:j < s.l.length
    ·have hst:=mC c2
     cases c3:Mz s (Aj s.l j).A (Aj s.l j).B with
     |true=>
      rw [c3,if_pos rfl] at hst
      refine CW.vc Qr [0,2,3,4,5,6,7,15,30,47,67] (by kernel_rfl) ?_
      (repeat ((try refine Vc.mk' ?_);simp only [go_sem,Nat.reduceAdd,Nat.reduceMul,Nat.reduceLT,Nat.reduceLeDiff,Nat.reduceEqDiff,hh,Az,hT,AS n0,kE,Ft,i2,s2,dF,CB hl,B4 hl,DN hl,Ha hl,Hg hl,HM hl,HG hl,Ao ls1,tJ,c2,c3,g4,YM,uP]))
      exact .mk (j+1) c2 (by omega) ((by refine BO.mk' [top,top+1,top+4] hcl (by simp) (by simp) rfl (AV ?_) ?_ ?_ <;> simp [Ax,Cd,Ad,Ag,AD.nil,AD.cons,AF,AG,AQ,AM,Aw,Af,AB,AH,AE.set,AE.refl,AA n0,hst,dF,Av c2 hl.le]))
     |false=>
      rw [c3,if_neg (by simp)] at hst
      refine CW.vc Qr [0,2,3,4,5,6,7,15,30,47,67] (by kernel_rfl) ?_
      (repeat ((try refine Vc.mk' ?_);simp only [go_sem,Nat.reduceAdd,Nat.reduceLT,hh,Az,hT,AS n0,kE,Ft,i2,s2,dF,CB hl,B4 hl,Ha hl,Hg hl,HM hl,HG hl,Ao ls1,tJ,c2,c3]))
      exact .mk (j+1) c2 (by omega) ((by refine BO.mk' [top,top+1,top+2] hcl (by simp) (by simp) rfl (AV ?_) ?_ ?_ <;> simp [Ax,Cd,Ad,Ag,AD.nil,AD.cons,AF,AG,AQ,AM,Aw,Af,AB,AH,AE.set,AE.refl,AA n0,hst,dF,Av c2 hl.le]))
    ·have hlu:jf s j=Lh s:=by unfold jf Lh;rw [List.take_of_length_le (by omega)]
     rw [hlu] at g2
     have hll:=h.ll
     have p1:∀ {h':Hp},h' (top+1)=AO Ab (DW s)→Dp Ab h' (AK (top+1) (DW s))=True:=fun h=>(BU.own (E:=Ab) h (by omega)).P
     have p2:∀ {h':Hp},h' (top+1)=AO Ab (DW s)→Ab.rd h' (AK (top+1) (DW s))=DW s:=fun h=>(BU.own (E:=Ab) h (by omega)).rd
     have p3:∀ {h':Hp},h' (top+2)=AO An (Lh s)→Dp An h' (AK (top+2) (Lh s))=True:=fun h=>(BU.own (E:=An) h (by omega)).P
     have p4:∀ {h':Hp},h' (top+2)=AO An (Lh s)→An.rd h' (AK (top+2) (Lh s))=Lh s:=fun h=>(BU.own (E:=An) h (by omega)).rd
     refine CW.vc Qr [0,2,3,4,5,6,7,15,30,47,67] (by kernel_rfl) ?_
     (repeat ((try refine Vc.mk' ?_);simp only [go_sem,reduceCtorEq,Nat.reduceAdd,Nat.reduceLT,Nat.reduceEqDiff,hh,Az,hT,AS n0,yq,Gr.ET,dF,CB hl,tJ,c2,hlu,p1,p2,p3,p4,Gr.FF]))
     simp only [Ww]
     (refine ⟨[top+3,top+4],by simp,by simp,by simp, ?_, ?_, ?_⟩ <;> simp [Ad,Ag,AD.nil,AD.cons,AQ,AM,Aw,Af,AB,AH,AE.set,AE.refl])
end Go.Proofs.Ytmppehipfpkepaa.Dm
/- The document's Bc: Near. -/
set_option linter.unusedVariables false
namespace Go.Proofs.Ytmppehipfpkepaa.Dm
open Go.Dm
set_option maxHeartbeats 16000000
set_option maxRecDepth 20000
def DC (s:As):List Int:=Gr.nO (DW s) (Lh s)
def C7 (s:As):List BJ:=Gr.eO (DW s) (Lh s)
noncomputable def J5 (s:As)(a:Int)(top:Nat):Value×BC×Nat:=
 if s.R.any (GR a)=false then (bad 2, [],top)
 else if Aj s.st a.toNat then (bad 0, [],top)
 else Gr.Gp (DC s) (C7 s) a top
noncomputable def L5:Bp:= .det (fun args hp _=>match args with | [.pointer (some ⟨n,0,none⟩),a]=>(GM hp n∧(IH hp n).R.length≤1000)∧EO .i64 a | _=>False) (fun args hp top=>match args with
 | [.pointer (some ⟨n,_,_⟩),a]=>J5 (IH hp n) (intOf a) top | _=>(undef, [],top))
noncomputable def zy:FuncId→Bp:=Bu (Bu G34 26 Ji) 79 Gr.Io
theorem L6:Cf Try.prog tt.get zy:=(Qr.add Y1).add Gr.od
theorem bc:zy 78=HN:=rfl
theorem lH:zy 26=Ji:=rfl
theorem me:zy 79=Gr.Io:=rfl
theorem bV (R:List Int)(l:List AX):(Gr.nO R l).length≤1000000:=by
 unfold Gr.nO
 split
 ·have:=Gr.Ta R 25;omega
 ·exact Nat.zero_le _
theorem ak (R:List Int)(l:List AX):(Gr.eO R l).length≤1000000:=by
 unfold Gr.eO
 split
 case isTrue e=>
  have h:=Gr.OD R l 25
  have:l.length≤48:=by
   unfold Gr.DS at e
   split at e
   ·cases e
   ·split at e
    ·cases e
    ·omega
  omega
 ·exact Nat.zero_le _
theorem Yc:BK Try.prog 51 L5:=by
 refine .Cc WK ?_
 intro args hp top hpre hcl hsc
 match args,hpre with
 | [.pointer (some ⟨n,0,none⟩),a],⟨⟨⟨v,s,h⟩,hr⟩,ha⟩=>
 rw [ha]
 generalize intOf a=a
 simp only [h.s,BA] at hr ⊢
 have hh:=h.h
 have n0:n < top:=hcl.lt _ _ hh
 have hT:=Cz (wv:=v.wv) h.sl h.kl
 have i0:=h.is
 have s0:=h.s
 refine AL.Au BE WK rfl 22 rfl [.tmp 4, .tmp 5] rfl (show 2≤22 by decide) ?_
 cases c1:s.R.any (GR a) with
 |false=>
  refine CW.vc L6 [0,1,4,5,9,15] (by kernel_rfl) ?_
  (repeat ((try refine Vc.mk' ?_);simp only [go_sem,bc,HN,i0,s0,c1]))
  simp only [J5,c1,if_true]
  (refine ⟨[],by simp,by simp,by simp, ?_, ?_, ?_⟩ <;> simp [Ad,Ag,AD.nil,AE.refl,bad])
 |true=>
 have ha12:1≤a∧a≤24:=by
  obtain ⟨x,hx,hp⟩:=List.any_eq_true.1 c1
  have:=h.rl x hx
  simp only [GR,decide_eq_true_eq] at hp
  subst hp
  simpa [Gr.BH] using this
 obtain ⟨a1,a2⟩:=ha12
 have ha0:0≤a:=by omega
 have ha1:a < ((25:Nat):Int):=by omega
 have ta:a.toNat < 25:=by omega
 have ta6:6+a.toNat < 657:=by omega
 have g6:∀ {x0 x1 x2 x3 x4 x5 w:Value} {j:Nat},j < 25→((x0 :: x1 :: x2 :: x3 :: x4 :: x5 :: DG s.st s.ks w)[6+j]?).getD undef= .bool (Aj s.st j):=fun hj=>OW h.sl hj
 cases c2:Aj s.st a.toNat with
 |true=>
  refine CW.vc L6 [0,1,4,5,9,15] (by kernel_rfl) ?_
  (repeat ((try refine Vc.mk' ?_);simp only [go_sem,Nat.reduceAdd,hh,Az,hT,bc,HN,i0,s0,c1,ha0,ha1,ta,ta6,g6,c2,Nat.mul_one]))
  simp only [J5,c1,c2,if_true,if_neg (show ¬true=false by decide)]
  (refine ⟨[],by simp,by simp,by simp, ?_, ?_, ?_⟩ <;> simp [Ad,Ag,AD.nil,AE.refl,bad])
 |false=>
  have p1:∀ {h':Hp} {b:Nat},h' b=AO Ab (Gr.nO (DW s) (Lh s))→Dp Ab h' (AK b (Gr.nO (DW s) (Lh s)))=True:=fun h=>(BU.own (E:=Ab) h (by have:=bV (DW s) (Lh s);omega)).P
  have p2:∀ {h':Hp} {b:Nat},h' b=AO Ab (Gr.nO (DW s) (Lh s))→Ab.rd h' (AK b (Gr.nO (DW s) (Lh s)))=Gr.nO (DW s) (Lh s):=fun h=>(BU.own (E:=Ab) h (by have:=bV (DW s) (Lh s);omega)).rd
  have p3:∀ {h':Hp} {b:Nat},h' b=AO A9 (Gr.eO (DW s) (Lh s))→Dp A9 h' (AK b (Gr.eO (DW s) (Lh s)))=True:=fun h=>(BU.own (E:=A9) h (by have:=ak (DW s) (Lh s);omega)).P
  have p4:∀ {h':Hp} {b:Nat},h' b=AO A9 (Gr.eO (DW s) (Lh s))→A9.rd h' (AK b (Gr.eO (DW s) (Lh s)))=Gr.eO (DW s) (Lh s):=fun h=>(BU.own (E:=A9) h (by have:=ak (DW s) (Lh s);omega)).rd
  refine CW.vc L6 [0,1,4,5,9,15] (by kernel_rfl) ?_
  (repeat ((try refine Vc.mk' ?_);simp only [go_sem,reduceCtorEq,Nat.reduceAdd,hh,Az,hT,bc,HN,lH,Ji,me,Gr.Io,i0,s0,hr,c1,ha0,ha1,ta,ta6,g6,c2,Nat.mul_one,Ww,p1,p2,p3,p4,Gr.Gp]))
  simp only [J5,c1,c2,if_neg (show ¬true=false by decide),if_neg (show ¬false=true by decide),Gr.Gp,DC,C7]
  (refine ⟨[top+2],by simp,by simp,by simp, ?_, ?_, ?_⟩ <;> simp [Ad,Ag,AD.nil,AD.cons,AQ,AM,Af,AB,AE.set,AE.refl])
end Go.Proofs.Ytmppehipfpkepaa.Dm
/- The document's Bc: NV. -/
set_option linter.unusedVariables false
namespace Go.Proofs.Ytmppehipfpkepaa.Dm
open Go.Dm
set_option maxHeartbeats 16000000
set_option maxRecDepth 20000
def J8 (a b:A8):Bool:=decide (a.B2=b.B2) && (decide (a.To=b.To) && decide (a.RF=b.RF))
def Yr:List A8→List A8→Nat→Nat×Int
  |_, [],_=>(0,0)
  |done,r :: l,k=>if Fa.LQ r=false then (k,2) else if done.any (J8 · r) then (k,7) else Yr (done ++ [r]) l (k+1)
def Hl (l:List A8):Nat×Int:=if 64 < l.length then (64,3) else Yr [] l 0
def KS:Bp:= .pure (fun args hp=>match args with | [v]=>Dp Ap hp v | _=>False) (fun args hp=>match args with
  | [v]=> .tuple ⟨[.int .i64 ((Hl (Ap.rd hp v)).1:Int), .int .i64 (Hl (Ap.rd hp v)).2]⟩
  |_=>undef)
def qV (hp:Hp)(top:Nat)(v:Value)(k:Nat):SS:=⟨[(0,v,true),(4, .int .i64 (k:Int),true)],hp.AZ [],top+0⟩
def zc (hp:Hp)(top:Nat)(v:Value)(r:A8)(k j:Nat):SS:=⟨[(0,v,true),(4, .int .i64 (k:Int),true),(5, .pointer (some ⟨top,0,none⟩),true),(7, .int .i64 (j:Int),true)],hp.AZ [(top,some (.cells true 0 (Ap.enc r)))],top+1⟩
theorem Tf:zy 71=Gr.GF Gr.BH:=rfl
theorem ma {α:Type}[Inhabited α]{l:List α}{k:Nat}(h:k < l.length):l.drop k=Aj l k :: l.drop (k+1):=by rw [Bj _ _ h];exact List.drop_eq_getElem_cons h
theorem qy {α:Type}[Inhabited α]{l:List α}{j k:Nat}(h:j < k)(hk:k≤l.length):Aj l j∈l.take k:=by
  rw [Bj _ _ (by omega)]
  exact List.mem_take_iff_getElem.2 ⟨j,by omega,rfl⟩
theorem ADk {r:A8}(h:r.Kind=1):(!Gr.BH r.B2 || !Gr.BH r.To || decide (r.B2=r.To) || decide (r.RF < 1) || decide (1048576 < r.RF) || !decide (r.By=0))= !Fa.LQ r:=by
  rw [Bool.eq_iff_iff]
  unfold Fa.LQ Fa.LP Gr.BH
  rw [if_pos h]
  simp only [Bool.or_eq_true,Bool.not_eq_true',Bool.and_eq_false_iff,decide_eq_false_iff_not,decide_eq_true_eq]
  omega
theorem AED {r:A8}(h:¬r.Kind=1):(!Gr.BH r.B2 || !Gr.BH r.To || decide (r.B2=r.To) || decide (r.RF < 1) || decide (1048576 < r.RF) || decide (r.Kind < 1) || decide (3 < r.Kind) || !(!decide (r.By < 1) && !decide (64 < r.By)))= !Fa.LQ r:=by
  rw [Bool.eq_iff_iff]
  unfold Fa.LQ Fa.LP Gr.BH
  rw [if_neg h]
  by_cases k2:r.Kind=2∨r.Kind=3
  · rw [if_pos k2]
    simp only [Bool.or_eq_true,Bool.not_eq_true',Bool.and_eq_false_iff,decide_eq_false_iff_not,decide_eq_true_eq,Bool.not_eq_false']
    omega
  · rw [if_neg k2,Bool.and_false,Bool.not_false]
    simp only [Bool.or_eq_true,Bool.not_eq_true',Bool.and_eq_false_iff,decide_eq_false_iff_not,decide_eq_true_eq,Bool.not_eq_false',iff_true]
    omega
theorem fa:BK Try.prog 43 KS:=by
  refine .Gx Wf ?_ ?_
  · intro args hp h
    match args,h with
    | [v],_=>rfl
  intro args hp hpre top hcl hsc
  match args,hpre with
  | [v],⟨l,h⟩=>
  have hs:=h.low hcl
  simp only [h.rd]
  refine AL.Au BE Wf rfl 111 rfl [.tmp 2, .tmp 3] rfl (show 1≤111 by decide) ?_
  by_cases h64:64 < l.length
  · have h65:(64:Int) < l.length:=by omega
    refine CW.vc L6 [0,2,3,4,5,6,7,10,14,31,75,79,109] (by kernel_rfl) ?_
    (repeat ((try refine Vc.mk' ?_);simp only [go_sem,FY h,h65]))
    simp [Hl,h64]
  have h65:¬(64:Int) < l.length:=by omega
  refine CW.vc L6 [0,2,3,4,5,6,7,10,14,31,75,79,109] (by kernel_rfl) ?_
  (repeat ((try refine Vc.mk' ?_);simp only [go_sem,FY h,h65]))
  have hc0:Hl l=Yr [] l 0:=by simp [Hl,h64]
  refine CW.CZ (qV hp top v) (fun k=>k≤l.length∧Hl l=Yr (l.take k) (l.drop k) k) (fun k=>l.length - k) 0 ⟨Nat.zero_le _,hc0⟩ ?_ ?_
  · exact (by refine BO.mk' [] hcl (by simp) (by simp) rfl (AV ?_) ?_ ?_ <;> simp [Ax,Cd,Ad,AD.nil,AE.refl,Sc.Ad (fun j hj=>AA hj) hs])
  · rintro k ⟨hk,hm⟩
    by_cases hlt:k < l.length
    · rw [ma hlt,Yr] at hm
      generalize hrk:Aj l k=r at hm
      by_cases k1:r.Kind=1
      case' pos=>
        refine CW.vc L6 [0,2,3,4,5,6,7,10,14,31,75,79,109] (by kernel_rfl) ?_
        (repeat ((try refine Vc.mk' ?_);simp only [go_sem,Nat.reduceAdd,Nat.reduceLT,Int.reduceLT,FY h,JA h,Oh h,Tf,Gr.GF,Kx,hlt,qV,hrk,k1]))
        rw [ADk k1]
      case' neg=>
        refine CW.vc L6 [0,2,3,4,5,6,7,10,14,31,75,79,109] (by kernel_rfl) ?_
        (repeat ((try refine Vc.mk' ?_);simp only [go_sem,Nat.reduceAdd,Nat.reduceLT,FY h,JA h,Oh h,Tf,Gr.GF,Kx,hlt,qV,hrk,k1]))
        rw [AED k1]
      all_goals
        refine Le.mk (fun c1=> ?_) (fun c1=> ?_)
        · simp only [Bool.not_eq_true'] at c1
          rw [if_pos c1] at hm
          (repeat ((try refine Vc.mk' ?_);simp only [go_sem]))
          simp [hm]
        simp only [Bool.not_eq_false'] at c1
        rw [if_neg (by rw [c1];simp)] at hm
        (repeat ((try refine Vc.mk' ?_);simp only [go_sem]))
        refine CW.CZ (zc hp top v r k) (fun j=>j≤k∧(l.take j).any (J8 · r)=false) (fun j=>k - j) 0 ⟨Nat.zero_le _,rfl⟩ ?_ ?_
        · exact (by refine BO.mk' [top] hcl (by simp) (by simp) rfl (AV ?_) ?_ ?_ <;> simp [Ax,Cd,Ad,Ag,AD.nil,AD.cons,AF,AG,AM,AB,AE.set,AE.refl,Sc.Ad (fun j hj=>AA hj) hs,k1,Kx])
        · rintro j ⟨hj,ha⟩
          by_cases hjk:j < k
          · have hjl:j < l.length:=by omega
            generalize hrj:Aj l j=q
            have hsk:J8 q r=(decide (q.B2=r.B2) && (decide (q.To=r.To) && decide (q.RF=r.RF))):=rfl
            cases q1:decide (q.B2=r.B2) <;> cases q2:decide (q.To=r.To) <;> cases q3:decide (q.RF=r.RF)
            all_goals
              rw [q1,q2,q3] at hsk
              refine CW.vc L6 [0,2,3,4,5,6,7,10,14,31,75,79,109] (by kernel_rfl) ?_
              (repeat ((try refine Vc.mk' ?_);simp only [go_sem,Nat.reduceAdd,Nat.reduceLT,JA h,az h,cE h,cJ h,cf h,cP h,bm h,Ao hs,Kx,hjl,hjk,zc,hrj,q1,q2,q3,k1]))
              first
              | (rw [if_pos (List.any_eq_true.2 ⟨_,qy hjk hk,by rw [hrj];exact hsk⟩)] at hm
                 simp [hm])
              | (refine .mk (j+1) ⟨hjk, ?_⟩ (by omega) ((by refine BO.mk' [top] hcl (by simp) (by simp) rfl (AV ?_) ?_ ?_ <;> simp [Ax,Cd,Ad,Ag,AD.nil,AD.cons,AF,AG,AM,AB,AE.set,AE.refl,Sc.Ad (fun j hj=>AA hj) hs,Av hjl h.le,k1,Kx]))
                 rw [CO hjl,List.any_append,ha,hrj];simp [hsk])
          · have hjk2:j=k:=by omega
            subst hjk2
            refine CW.vc L6 [0,2,3,4,5,6,7,10,14,31,75,79,109] (by kernel_rfl) ?_
            (repeat ((try refine Vc.mk' ?_);simp only [go_sem,reduceCtorEq,Nat.reduceEqDiff,Kx,hjk,zc,k1]))
            rw [ha,if_neg (by simp)] at hm
            refine .mk (j+1) ⟨hlt, ?_⟩ (by omega) ((by refine BO.mk' [] hcl (by simp) (by simp) rfl (AV ?_) ?_ ?_ <;> simp [Ax,Cd,Ad,AD.nil,AE.set,AE.refl,Sc.Ad (fun j hj=>AA hj) hs,Av hlt h.le]))
            rw [CO hlt,hrk];exact hm
    · have hk2:k=l.length:=by omega
      subst hk2
      refine CW.vc L6 [0,2,3,4,5,6,7,10,14,31,75,79,109] (by kernel_rfl) ?_
      (repeat ((try refine Vc.mk' ?_);simp only [go_sem,FY h,qV,Nat.lt_irrefl,decide_false]))
      simp [hm,Yr]
end Go.Proofs.Ytmppehipfpkepaa.Dm
/- The document's Bc: New. -/
set_option linter.unusedVariables false
namespace Go.Proofs.Ytmppehipfpkepaa.Dm
open Go.Dm
set_option maxHeartbeats 16000000
set_option maxRecDepth 20000
def b25:List Bool:=List.replicate 25 false
def sx:List Int:=List.replicate 625 0
def Pm (R:List Int)(l:List AX)(u:List A8)(late:Int):As:=⟨R,l,u,late,0,List.replicate l.length false,b25,sx, []⟩
noncomputable def OO (rv lv uv:Value)(R:List Int)(l:List AX)(u:List A8)(late:Int)(top:Nat):Value×BC×Nat:=
 if ¬Gr.DS R l=0 then (.tuple ⟨[.pointer none, .int .i64 (Gr.DS R l)]⟩, [],top)
 else if late < 1∨64 < late then (.tuple ⟨[.pointer none, .int .i64 2]⟩, [],top)
 else if ¬(Hl u).2=0 then (.tuple ⟨[.pointer none, .int .i64 (Hl u).2]⟩, [],top)
 else (.tuple ⟨[.pointer (some ⟨top,0,none⟩), .int .i64 0]⟩, [(top,Az ⟨rv,lv,uv,top+1, .slice none 0 0⟩ (Pm R l u late)),(top+1,rN (List.replicate l.length false))],top+2)
noncomputable def OT:Bp:= .det (fun args hp _=>match args with | [u,v,r, .int .i64 _]=>Dp Ab hp u∧Dp An hp v∧Dp Ap hp r | _=>False) (fun args hp top=>match args with
 | [u,v,r,late]=>OO u v r (Ab.rd hp u) (An.rd hp v) (Ap.rd hp r) (intOf late) top | _=>(undef, [],top))
theorem AB4 {w:Value}:Gw 25 (.bool false) ++ (Gw 625 (.int .i64 0) ++ [w])=DG b25 sx w:=by
 unfold DG Gw b25 sx
 rw [List.map_replicate,List.map_replicate]
theorem yE {w:Value}:(Gw 25 (.bool false) ++ Gw 625 (.int .i64 0)) ++ [w] = DG b25 sx w:=by rw [List.append_assoc,AB4]
theorem AA0 {n:Nat}:Gw n (.bool false)=Bd.flat (List.replicate n false):=by
 unfold Gw
 rw [Nx,List.map_replicate]
noncomputable def G36:FuncId→Bp:=Bu (Bu zy 43 KS) 51 L5
theorem MG:Cf Try.prog tt.get G36:=(L6.add fa).add Yc
theorem Tb:G36 42=Gr.ET:=rfl
theorem VD:G36 43=KS:=rfl
theorem vj:BK Try.prog 22 OT:=by
 refine .Cc Xl ?_
 intro args hp top hpre hcl hsc
 match args,hpre with
 | [u,v,r, .int .i64 late],⟨⟨R,h⟩,⟨l,g⟩,⟨rl,q⟩⟩=>
 have hs:=h.low hcl
 have gs:=g.low hcl
 have qs:=q.low hcl
 simp only [h.rd,g.rd,q.rd,BA]
 have e1:Dp Ab hp u=True:=h.P
 have e2:Dp An hp v=True:=g.P
 have r1:=h.rd
 have r2:=g.rd
 have kq:∀ {h':Hp},AE top [] h' hp→Dp Ap h' r=True:=fun {h'} hk=>(q.BT qs hk).P
 have kq2:∀ {h':Hp},AE top [] h' hp→Ap.rd h' r=rl:=fun {h'} hk=>(q.BT qs hk).rd
 refine AL.Au BE Xl rfl 44 rfl [.tmp 8, .tmp 9] rfl (show 4≤44 by decide) ?_
 by_cases c1:Gr.DS R l=0
 case neg=>
  unfold OO
  rw [if_pos c1]
  refine CW.vc MG [0,1,2,3,8,9,11,19,26,33] (by kernel_rfl) ?_
  (repeat ((try refine Vc.mk' ?_);simp only [go_sem,Nat.reduceAdd,Tb,Gr.ET,Gr.FF,g.P,g.rd,e1,r1,c1]))
  (refine ⟨[],by simp,by simp,by simp, ?_, ?_, ?_⟩ <;> simp [Ad,Ag,AD.nil,AE.set,AE.refl])
 unfold OO
 rw [if_neg (by simp [c1])]
 by_cases c2:late < 1
 ·rw [if_pos (.inl c2)]
  refine CW.vc MG [0,1,2,3,8,9,11,19,26,33] (by kernel_rfl) ?_
  (repeat ((try refine Vc.mk' ?_);simp only [go_sem,Nat.reduceAdd,Tb,Gr.ET,Gr.FF,g.P,g.rd,e1,r1,c1,c2]))
  (refine ⟨[],by simp,by simp,by simp, ?_, ?_, ?_⟩ <;> simp [Ad,Ag,AD.nil,AE.set,AE.refl])
 by_cases c3:64 < late
 ·rw [if_pos (.inr c3)]
  refine CW.vc MG [0,1,2,3,8,9,11,19,26,33] (by kernel_rfl) ?_
  (repeat ((try refine Vc.mk' ?_);simp only [go_sem,Nat.reduceAdd,Tb,Gr.ET,Gr.FF,g.P,g.rd,e1,r1,c1,c2,c3]))
  (refine ⟨[],by simp,by simp,by simp, ?_, ?_, ?_⟩ <;> simp [Ad,Ag,AD.nil,AE.set,AE.refl])
 rw [if_neg (by omega)]
 have h48:=(Gr.Cv c1).2.1
 by_cases c4:(Hl rl).2=0
 case neg=>
  rw [if_pos c4]
  refine CW.vc MG [0,1,2,3,8,9,11,19,26,33] (by kernel_rfl) ?_
  (repeat ((try refine Vc.mk' ?_);simp only [go_sem,Nat.reduceAdd,Tb,Gr.ET,Gr.FF,VD,KS,g.P,g.rd,e1,r1,c1,c2,c3,kq,kq2,c4]))
  (refine ⟨[],by simp,by simp,by simp, ?_, ?_, ?_⟩ <;> simp [Ad,Ag,AD.nil,AE.set,AE.refl])
 rw [if_neg (by simp [c4])]
 have nb1:Nat.ble l.length 1099511627776=true:=Nat.ble_eq_true_of_le (by omega)
 have nb2:Nat.ble (1 * l.length) 1099511627776=true:=Nat.ble_eq_true_of_le (by omega)
 refine CW.vc MG [0,1,2,3,8,9,11,19,26,33] (by kernel_rfl) ?_
 (repeat ((try refine Vc.mk' ?_);simp only [go_sem,Nat.reduceAdd,Nat.reduceLeDiff,Tb,Gr.ET,Gr.FF,VD,KS,CB g,g.P,g.rd,e1,r1,c1,c2,c3,kq,kq2,c4,nb1,nb2,h.cl,g.cl,q.cl,yE,AA0 (n:=l.length)]))
 trace_state
 (refine ⟨[top+4,top+3],by simp,by simp,by simp, ?_, ?_, ?_⟩ <;> simp [Ad,Ag,AD.nil,AD.cons,AF,AG,AM,Aw,Bn.BN,AB,AH,AE.set,AE.refl,Az,Pm,CU,UT,rN,List.length_replicate,Sc.Ad (fun j hj=>AA hj) hs,Sc.Ad (fun j hj=>AA hj) gs,Sc.Ad (fun j hj=>AA hj) qs])
end Go.Proofs.Ytmppehipfpkepaa.Dm
