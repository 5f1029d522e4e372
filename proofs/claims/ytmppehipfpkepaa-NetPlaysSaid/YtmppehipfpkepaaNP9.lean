/- The document's Bc: lost. -/
import Derived.Test.YtmppehipfpkepaaNP7
set_option linter.unusedVariables false
namespace Go.Proofs.Ytmppehipfpkepaa.Dm
open Go.Dm
set_option maxHeartbeats 16000000
set_option maxRecDepth 20000
def Zs (s:As)(x:D6):Bool:=Mz s x.HD x.PY
def jg (s:As)(k:Nat):List D6:=(s.w.take k).filter (Zs s)
def jh (s:As)(k:Nat):List Ae:=((s.w.take k).filter fun x=> !Zs s x).map wm
def GC (s:As):As:= {s with w:=s.w.filter (Zs s)}
def F9 (s:As):List Ae:=(s.w.filter fun x=> !Zs s x).map wm
theorem oT {s:As}{k:Nat}(h:k < s.w.length):jg s (k+1)=if Zs s (Aj s.w k) then jg s k ++ [Aj s.w k] else jg s k:=by
 unfold jg;rw [CO h,List.filter_append,List.filter_cons]
 by_cases c:Zs s (Aj s.w k)=true
 ·rw [if_pos c,if_pos c];rfl
 ·rw [if_neg c,if_neg c,List.filter_nil,List.append_nil]
theorem oe {s:As}{k:Nat}(h:k < s.w.length):jh s (k+1)=if Zs s (Aj s.w k) then jh s k else jh s k ++ [⟨(Aj s.w k).HD,(Aj s.w k).PY,(Aj s.w k).Hq⟩]:=by
 unfold jh;rw [CO h,List.filter_append,List.filter_cons]
 by_cases c:Zs s (Aj s.w k)=true
 ·rw [if_neg (by rw [c];simp),if_pos c,List.filter_nil,List.append_nil]
 ·rw [if_pos (by simpa using c),if_neg c,List.map_append];rfl
theorem y6 (s:As)(k:Nat):(jg s k).length≤s.w.length:=by
 unfold jg;exact Nat.le_trans (List.length_filter_le _ _) (by rw [List.length_take];omega)
theorem xr (s:As)(k:Nat):(jh s k).length≤s.w.length:=by
 unfold jh;rw [List.length_map];exact Nat.le_trans (List.length_filter_le _ _) (by rw [List.length_take];omega)
noncomputable def Wj (n:Nat)(v:Bh)(s:As)(top:Nat):Value×BC×Nat:=
 (AK top (F9 s), [(n,Az {v with wv:=AK (top+1) (GC s).w} (GC s)),(top,AO AJ (F9 s)),(top+1,AO Be (GC s).w)],top+2)
noncomputable def Mh:Bp:= .det (fun args hp _=>match args with | [.pointer (some ⟨n,0,none⟩)]=>GM hp n | _=>False) (fun args hp top=>match args with
 | [.pointer (some ⟨n,_,_⟩)]=>Wj n (OA hp n) (IH hp n) top | _=>(undef, [],top))
def uE (hp:Hp)(top n:Nat)(s:As)(k:Nat):SS:=⟨[(0, .pointer (some ⟨n,0,none⟩),true),(3,AK top (jh s k),true),(4,AK (top+1) (jg s k),true),(5, .int .i64 (k:Int),true)],hp.AZ [(top,AO AJ (jh s k)),(top+1,AO Be (jg s k))],top+2⟩
theorem pe:BK Try.prog 77 Mh:=by
 refine .Cc Vt ?_
 intro args hp top hpre hcl hsc
 match args,hpre with
 | [.pointer (some ⟨n,0,none⟩)],⟨v,s,h⟩=>
 simp only [h.s,h.v]
 have hh:=h.h
 have us1:=h.u.low hcl
 have rs1:=h.R.low hcl
 have ls1:=h.l.low hcl
 have hw:=h.w
 have ws1:=hw.low hcl
 have hcb:=h.qG hcl
 have n0:n < top:=hcl.lt _ _ hh
 have hnt0:¬top=n:=by omega
 have hnu0:¬n=top:=by omega
 have hnt1:¬top+1=n:=by omega
 have hnu1:¬n=top+1:=by omega
 have hnt2:¬top+2=n:=by omega
 have hnu2:¬n=top+2:=by omega
 have hno:∀k,hp (top+k)=none:=fun k=>by
  cases e:hp (top+k) with
  |none=>rfl
  |some o=>exact absurd (hcl.lt _ _ e) (by omega)
 have hT:=Cz (wv:=v.wv) h.sl h.kl
 have hW:=Md (wv:=v.wv) h.sl h.kl
 have hT2:∀ {w:Value},(DG s.st s.ks w).length=651:=fun {w}=>Cz h.sl h.kl
 have hW2:∀ {w:Value},((DG s.st s.ks w)[650]?).getD undef=w:=fun {w}=>Md h.sl h.kl
 have hSW:∀ {w:Value} {x:Value},Am (DG s.st s.ks w) 650 [x] = DG s.st s.ks x:=fun {w} {x}=>Nl h.sl h.kl x
 have R2:∀ {o p:Option BB},CD ((hp.set top o).set (top+1) p) n v s:=fun {o p}=>(h.fresh (hno 0) o).fresh (by rw [AH _ _ _ _ (by omega)];exact hno 1) p
 have i2:∀ {o p:Option BB},GM ((hp.set top o).set (top+1) p) n=True:=fun {o p}=>R2.is
 have s2:∀ {o p:Option BB},IH ((hp.set top o).set (top+1) p) n=s:=fun {o p}=>R2.s
 have hw2:∀ {o p:Option BB},BU Be ((hp.set top o).set (top+1) p) v.wv s.w:=fun {o p}=>R2.w
 refine AL.Au BE Vt rfl 61 rfl [.tmp 2] rfl (show 1≤61 by decide) ?_
 refine CW.vc II [0,2,3,4,5,12,34] (by kernel_rfl) ?_
 (repeat ((try refine Vc.mk' ?_);simp only [go_sem]))
 refine CW.CZ (uE hp top n s) (fun k=>k≤s.w.length) (fun k=>s.w.length - k) 0 (Nat.zero_le _) ?_ ?_
 ·have e0:jh s 0= []:=rfl
  have e1:jg s 0= []:=rfl
  exact (by refine BO.mk' [top,top+1] hcl (by simp) (by simp) rfl (AV ?_) ?_ ?_ <;> simp [Ax,Cd,Ad,AD.nil,AD.cons,AM,Aw,AE.refl,AA n0,e0,e1,Dh,EN])
 ·intro k hk
  have g1:=xr s k
  have g2:=y6 s k
  have hwl:=h.wl
  have g3:(jh s k).length < 16777216:=by omega
  have g4:(jg s k).length < 16777216:=by omega
  by_cases c1:k < s.w.length
  ·have lM:CS tt.get hp 37 (BM v.wv (k * 4+1))=(.agg ⟨[.int .i64 (Aj s.w k).HD, .int .i64 (Aj s.w k).PY, .string ⟨⟨(Aj s.w k).Hq⟩⟩]⟩,True):=
    hw.sub (tt:=tt.get) (e:=37) ED rfl (i:=k) (f:=1) c1 (by decide)
   have fF:AI tt.get 37 (BM v.wv (k * 4+1)) 0=(BM v.wv (k * 4+1),True):=hw.field c1 (o:=k * 4+1) (d:=0) (fun b o=>(by kernel_rfl:AY tt.get 37 (.pointer (some ⟨b,o,none⟩)) 0=some (.pointer (some ⟨b,o+0,none⟩))))
   have fT:AI tt.get 37 (BM v.wv (k * 4+1)) 1=(BM v.wv (k * 4+2),True):=hw.field c1 (o:=k * 4+1) (d:=1) (fun b o=>(by kernel_rfl:AY tt.get 37 (.pointer (some ⟨b,o,none⟩)) 1=some (.pointer (some ⟨b,o+1,none⟩))))
   have lF:CS tt.get hp 3 (BM v.wv (k * 4+1))=(.int .i64 (Aj s.w k).HD,True):=
    hw.cell (tt:=tt.get) (e:=3) (i:=k) (f:=1) B8 rfl c1 (by decide)
   have lT:CS tt.get hp 3 (BM v.wv (k * 4+2))=(.int .i64 (Aj s.w k).PY,True):=
    hw.cell (tt:=tt.get) (e:=3) (i:=k) (f:=2) B8 rfl c1 (by decide)
   have s1:=oe c1
   have s3:=oT c1
   cases c2:Mz s (Aj s.w k).HD (Aj s.w k).PY with
   |true=>
    rw [if_pos (show Zs s (Aj s.w k)=true from c2)] at s1 s3
    refine CW.vc II [0,2,3,4,5,12,34] (by kernel_rfl) ?_
    (repeat ((try refine Vc.mk' ?_);simp only [go_sem,Nat.reduceAdd,Nat.reduceMul,Nat.reduceLeDiff,Nat.reduceEqDiff,hh,Az,hT,hW,AS n0,N8,Ft,i2,s2,FG hw,KY hw,sw hw,Qi hw,Ao ws1,uE,c1,c2,g4,fF,fT,lF,lT,wx,yh]))
    exact .mk (k+1) c1 (by omega) ((by refine BO.mk' [top,top+3] hcl (by simp) (by simp) rfl (AV ?_) ?_ ?_ <;> simp [Ax,Cd,Ad,AD.nil,AD.cons,AQ,AM,Aw,Af,AB,AH,AE.set,AE.refl,AA n0,s1,s3,Av c1 hw.le]))
   |false=>
    rw [if_neg (show ¬Zs s (Aj s.w k)=true by rw [show Zs s (Aj s.w k)=false from c2];simp)] at s1 s3
    refine CW.vc II [0,2,3,4,5,12,34] (by kernel_rfl) ?_
    (repeat ((try refine Vc.mk' ?_);simp only [go_sem,reduceCtorEq,Nat.reduceAdd,Nat.reduceMul,Nat.reduceLeDiff,hh,Az,hT,hW,AS n0,N8,Ft,i2,s2,FG hw,KY hw,Qi hw,Ao ws1,uE,c1,c2,g3,lM,fF,fT,lF,lT,EW,Ml]))
    exact .mk (k+1) c1 (by omega) ((by refine BO.mk' [top+3,top+1] hcl (by simp) (by simp) rfl (AV ?_) ?_ ?_ <;> simp [Ax,Cd,Ad,AD.nil,AD.cons,AQ,AM,Aw,Af,AB,AH,AE.set,AE.refl,AA n0,s1,s3,Av c1 hw.le]))
  ·refine CW.vc II [0,2,3,4,5,12,34] (by kernel_rfl) ?_
   (repeat ((try refine Vc.mk' ?_);simp only [go_sem,Nat.reduceAdd,hh,Az,hT,hW,hSW,AS n0,FG hw,uE,c1]))
   have ek:k=s.w.length:=by omega
   subst ek
   have e1:jh s s.w.length=F9 s:=by unfold jh;rw [List.take_length];rfl
   have e2:jg s s.w.length=s.w.filter (Zs s):=by unfold jg;rw [List.take_length]
   simp only [Wj,GC,e1,e2]
   (refine ⟨[top,top+1],by simp,by simp,by simp, ?_, ?_, ?_⟩ <;> simp [Ad,Ag,AD.nil,AD.cons,AF,AG,AQ,AM,Aw,Af,AB,AH,AE.set,AE.B5,AE.refl,Az,CU,D4,AA n0,AA hcb,Sc.Ad (fun j hj=>AA hj) rs1,Sc.Ad (fun j hj=>AA hj) ls1,Sc.Ad (fun j hj=>AA hj) us1,hnt0,hnu0,hnt1,hnu1])
end Go.Proofs.Ytmppehipfpkepaa.Dm
/- The document's Bc: Cut, Mend, Stop, Start. -/
set_option linter.unusedVariables false
namespace Go.Proofs.Ytmppehipfpkepaa.Dm
open Go.Dm
set_option maxHeartbeats 16000000
set_option maxRecDepth 20000
theorem Nx:∀l:List Bool,Bd.flat l=l.map Value.bool
 | []=>rfl
 |a :: l=>by rw [Bn.D8,Nx l];rfl
/-- rows of no booleans stay while a list of booleans is written -/
theorem W5 {α:Type}{E:Bn α}{hp:Hp}{b i:Nat}{x:Bool}{v:Value}{l:List α}{ic:List Bool}(h:BU E hp v l)(hb:hp b=AO Bd ic)(hi:i < ic.length)(hE:∀a p,(E.enc a)[0]? ≠some (.bool p)):BU E (hp.set b (AO Bd (ic.set i x))) v l:=by
 have own:∀ {m:List Bool},0 < m.length→AO Bd m=some (.cells true 1 (Bd.flat m)):=fun {m} hm=>by
  cases m with
  |nil=>exact absurd hm (Nat.lt_irrefl _)
  |cons a m=>rfl
 cases h with
 |nils=>exact .nils
 |emp=>exact .emp
 |rows b' o c rw vs l hb' hv ho hc hl=>
  by_cases e:b' = b
  ·subst e
   have e2:=hb'.symm.trans (hb.trans (own (by omega)))
   simp only [Option.some.injEq,BB.cells.injEq] at e2
   obtain ⟨rfl,e3,rfl⟩:=e2
   cases l with
   |nil=>
    have e4:hp.set b' (AO Bd (ic.set i x)) b' = some (.cells true E.size (Bd.flat (ic.set i x))):=by
     rw [AB,own (by rw [List.length_set];omega),e3]
    refine .rows b' o c true _ [] e4 (by rw [List.length_nil,Nat.zero_mul,List.take_zero];rfl) ?_ hc hl
    have:(Bd.flat (ic.set i x)).length=(Bd.flat ic).length:=by rw [Bn.Bt,Bn.Bt,List.length_set]
    omega
   |cons a l=>
    exfalso
    have hE1:=hE a
    have hz:=E.len a
    rw [e3] at hz
    rw [Bn.D8,List.length_cons] at hv
    have h1:((List.drop o (Bd.flat ic)).take ((l.length+1) * E.size))[0]? = (E.enc a)[0]? :=by
     rw [hv,List.getElem?_append_left (by omega)]
    rw [List.length_cons,e3,Nat.mul_one] at ho
    rw [List.getElem?_take,if_pos (by rw [e3];omega),List.getElem?_drop,Nat.add_zero] at h1
    have ho2:o < ic.length:=by have:=Bn.Bt (E:=Bd) ic;have e5:Bd.size=1:=rfl;rw [e5,Nat.mul_one] at this;omega
    have h2:(Bd.flat ic)[o]? = some (.bool (ic[o]'ho2)):=by
     rw [Nx,List.getElem?_map,List.getElem?_eq_getElem ho2];rfl
    exact hE1 _ (h1.symm.trans h2)
  ·exact .rows b' o c rw vs l ((AH _ _ _ _ e).trans hb') hv ho hc hl
theorem uw {b:Nat}{l:List Bool}{i:Nat}{x:Bool}:UT b (l.set i x)=UT b l:=by
 unfold UT;rw [List.length_set]
def YW (s:As)(i:Nat)(x:Bool):As:= {s with ic:=s.ic.set i x}
def Qq (s:As)(i:Nat)(x:Bool):As:= {s with st:=s.st.set i x}
theorem yz {v:Bh}{s:As}{i:Nat}{x:Bool}:Az v (YW s i x)=Az v s:=by
 unfold Az YW;simp only [uw]
theorem ne_of_lt {α:Type}{l:List α}{i:Nat}(h:i < l.length):l≠ []:=fun e=>by rw [e] at h;exact absurd h (Nat.not_lt_zero _)
theorem CD.cbn {hp:Hp}{n:Nat}{v:Bh}{s:As}(h:CD hp n v s){i:Nat}(hi:i < s.ic.length):n≠v.cb∧hp v.cb=AO Bd s.ic:=by
 have hc:=h.c
 refine ⟨fun e=> ?_,by rw [hc,mM (ne_of_lt hi)]⟩
 rw [←e,h.h] at hc
 exact absurd (EB hc) (by decide)
theorem CD.nT {hp:Hp}{n:Nat}{v:Bh}{s:As}(h:CD hp n v s){i:Nat}(hi:i < s.ic.length)(x:Bool):CD (hp.set v.cb (AO Bd (s.ic.set i x))) n v (YW s i x):=by
 obtain ⟨h0,hc⟩:=h.cbn hi
 refine ⟨?_,W5 h.R hc hi ?_,W5 h.l hc hi ?_,W5 h.u hc hi ?_,(AB ..).trans (mM (ne_of_lt (i:=i) (by rw [List.length_set];exact hi))).symm,W5 h.w hc hi ?_,h.sl,h.kl, ?_,h.ll,h.ul,h.rl,h.lr,h.wl⟩
 ·rw [yz];exact (AH _ _ _ _ h0).trans h.h
 ·intro a p e;cases e
 ·intro a p e;cases e
 ·intro a p e;cases e
 ·intro a p e;cases e
 ·show (s.ic.set i x).length=_
  rw [List.length_set];exact h.il
theorem CD.vx {hp:Hp}{n:Nat}{v:Bh}{s:As}(h:CD hp n v s)(i:Nat)(x:Bool):CD (hp.set n (Az v (Qq s i x))) n v (Qq s i x):=
 h.tm _ (AB ..) (fun j hj _=>AH _ _ _ _ hj) rfl rfl rfl rfl rfl rfl rfl rfl (O8 h.w h.h (by decide)) (by show (s.st.set i x).length=25;rw [List.length_set];exact h.sl) h.kl h.wl
noncomputable def G33:FuncId→Bp:=Bu zz 77 Mh
theorem Kf:Cf Try.prog tt.get G33:=II.add pe
theorem Z4:G33 77=Mh:=rfl
theorem KO:G33 73=GP:=rfl
theorem Qg:G33 78=HN:=rfl
def GS (s:As)(a b:Int):Nat:=s.l.findIdx (Gr.pr a b)
def bad (e:Int):Value:= .tuple ⟨[.slice none 0 0, .int .i64 e]⟩
noncomputable def Ln (n:Nat)(v:Bh)(s:As)(a b:Int)(top:Nat):Value×BC×Nat:=
 if s.l.any (Gr.pr a b)=false then (bad 2, [],top)
 else if Aj s.ic (GS s a b) then (bad 7, [],top)
 else (.tuple ⟨[AK top (F9 (YW s (GS s a b) true)), .int .i64 0]⟩, [(v.cb,AO Bd (s.ic.set (GS s a b) true)),(n,Az {v with wv:=AK (top+1) (GC (YW s (GS s a b) true)).w} (GC (YW s (GS s a b) true))),(top,AO AJ (F9 (YW s (GS s a b) true))),(top+1,AO Be (GC (YW s (GS s a b) true)).w)],top+2)
noncomputable def Oc:Bp:= .det (fun args hp _=>match args with | [.pointer (some ⟨n,0,none⟩),a,b]=>GM hp n∧EO .i64 a∧EO .i64 b | _=>False) (fun args hp top=>match args with
 | [.pointer (some ⟨n,_,_⟩),a,b]=>Ln n (OA hp n) (IH hp n) (intOf a) (intOf b) top | _=>(undef, [],top))
noncomputable def Jc (v:Bh)(s:As)(a b:Int)(top:Nat):Value×BC×Nat:=
 if s.l.any (Gr.pr a b)=false then (.int .i64 2, [],top)
 else if Aj s.ic (GS s a b) then (.int .i64 0, [(v.cb,AO Bd (s.ic.set (GS s a b) false))],top)
 else (.int .i64 6, [],top)
noncomputable def Mf:Bp:= .det (fun args hp _=>match args with | [.pointer (some ⟨n,0,none⟩),a,b]=>GM hp n∧EO .i64 a∧EO .i64 b | _=>False) (fun args hp top=>match args with
 | [.pointer (some ⟨n,_,_⟩),a,b]=>Jc (OA hp n) (IH hp n) (intOf a) (intOf b) top | _=>(undef, [],top))
noncomputable def Ic (n:Nat)(v:Bh)(s:As)(a:Int)(top:Nat):Value×BC×Nat:=
 if s.R.any (GR a)=false then (bad 2, [],top)
 else if Aj s.st a.toNat then (bad 7, [],top)
 else (.tuple ⟨[AK top (F9 (Qq s a.toNat true)), .int .i64 0]⟩, [(n,Az {v with wv:=AK (top+1) (GC (Qq s a.toNat true)).w} (GC (Qq s a.toNat true))),(top,AO AJ (F9 (Qq s a.toNat true))),(top+1,AO Be (GC (Qq s a.toNat true)).w)],top+2)
noncomputable def MI:Bp:= .det (fun args hp _=>match args with | [.pointer (some ⟨n,0,none⟩),a]=>GM hp n∧EO .i64 a | _=>False) (fun args hp top=>match args with
 | [.pointer (some ⟨n,_,_⟩),a]=>Ic n (OA hp n) (IH hp n) (intOf a) top | _=>(undef, [],top))
noncomputable def Gd (n:Nat)(v:Bh)(s:As)(a:Int)(top:Nat):Value×BC×Nat:=
 if s.R.any (GR a)=false then (.int .i64 2, [],top)
 else if Aj s.st a.toNat then (.int .i64 0, [(n,Az v (Qq s a.toNat false))],top)
 else (.int .i64 6, [],top)
noncomputable def Ks:Bp:= .det (fun args hp _=>match args with | [.pointer (some ⟨n,0,none⟩),a]=>GM hp n∧EO .i64 a | _=>False) (fun args hp top=>match args with
 | [.pointer (some ⟨n,_,_⟩),a]=>Gd n (OA hp n) (IH hp n) (intOf a) top | _=>(undef, [],top))
theorem dV:BK Try.prog 47 Oc:=by
 refine .Cc YG ?_
 intro args hp top hpre hcl hsc
 match args,hpre with
 | [.pointer (some ⟨n,0,none⟩),a,b],⟨⟨v,s,h⟩,ha,hb⟩=>
 rw [ha,hb]
 generalize intOf a=a,intOf b=b
 simp only [h.s,h.v,BA]
 have hh:=h.h
 have us1:=h.u.low hcl
 have rs1:=h.R.low hcl
 have ls1:=h.l.low hcl
 have ws1:=h.w.low hcl
 have hcb:=h.qG hcl
 have n0:n < top:=hcl.lt _ _ hh
 have hnt0:¬top=n:=by omega
 have hnu0:¬n=top:=by omega
 have hnt1:¬top+1=n:=by omega
 have hnu1:¬n=top+1:=by omega
 have hnt2:¬top+2=n:=by omega
 have hnu2:¬n=top+2:=by omega
 have hT:=Cz (wv:=v.wv) h.sl h.kl
 have i0:=h.is
 have s0:=h.s
 have hC:=h.cS
 refine AL.Au BE YG rfl 30 rfl [.tmp 6, .tmp 7] rfl (show 3≤30 by decide) ?_
 cases c1:s.l.any (Gr.pr a b) with
 |false=>
  have e:UM s.l a b= -1:=by unfold UM;rw [if_neg (by rw [c1];simp)]
  refine CW.vc Kf [0,1,2,6,7,8,14,21] (by kernel_rfl) ?_
  (repeat ((try refine Vc.mk' ?_);simp only [go_sem,Nat.reduceAdd,Int.reduceLT,KO,GP,i0,s0,e]))
  simp only [Ln,c1,if_true]
  (refine ⟨[],by simp,by simp,by simp, ?_, ?_, ?_⟩ <;> simp [Ad,Ag,AD.nil,AE.refl,bad])
 |true=>
 have e:UM s.l a b=((GS s a b:Nat):Int):=by unfold UM;rw [if_pos c1];rfl
 have e0:¬((GS s a b:Nat):Int) < 0:=by omega
 have hfl:GS s a b < s.ic.length:=by have:=M5 c1;have:=h.il;unfold GS;omega
 have ixC:BP tt.get 67 (UT v.cb s.ic) (.int .i64 ((GS s a b:Nat):Int))=(BM (UT v.cb s.ic) (GS s a b),True):=by
  have:=P7 hC (k:= .i64) (n:=((GS s a b:Nat):Int)) (by omega) (by omega)
  rwa [Int.toNat_natCast,Nat.mul_one] at this
 have ldC:CS tt.get hp 4 (BM (UT v.cb s.ic) (GS s a b))=(.bool (Aj s.ic (GS s a b)),True):=by
  have:=TT hC (i:=GS s a b) (by omega)
  rwa [Nat.mul_one] at this
 obtain ⟨hncb,hcc⟩:=h.cbn hfl
 have hncb2:¬v.cb=n:=fun e=>hncb e.symm
 have hct0:¬v.cb=top:=by omega
 have hct1:¬top=v.cb:=by omega
 have hct2:¬v.cb=top+1:=by omega
 have hct3:¬top+1=v.cb:=by omega
 have stC:Bg tt.get hp 4 (BM (UT v.cb s.ic) (GS s a b)) (.bool true)=([(v.cb,AO Bd (s.ic.set (GS s a b) true))],True):=by
  have:=Zz hcc hfl (x:=true)
  rwa [Nat.mul_one,←mv (ne_of_lt hfl)] at this
 have R1:=h.nT hfl true
 have i1:=R1.is
 have s1:=R1.s
 have v1:=R1.v
 cases c2:Aj s.ic (GS s a b) with
 |true=>
  refine CW.vc Kf [0,1,2,6,7,8,14,21] (by kernel_rfl) ?_
  (repeat ((try refine Vc.mk' ?_);simp only [go_sem,Nat.reduceAdd,Nat.reduceLT,hh,Az,hT,KO,GP,i0,s0,e,e0,ixC,ldC,c2]))
  simp only [Ln,c1,c2,if_true,if_neg (show ¬true=false by decide)]
  (refine ⟨[],by simp,by simp,by simp, ?_, ?_, ?_⟩ <;> simp [Ad,Ag,AD.nil,AE.refl,bad])
 |false=>
  refine CW.vc Kf [0,1,2,6,7,8,14,21] (by kernel_rfl) ?_
  (repeat ((try refine Vc.mk' ?_);simp only [go_sem,Nat.reduceAdd,Nat.reduceLT,hh,Az,hT,KO,GP,Z4,Mh,i0,s0,e,e0,ixC,ldC,c2,stC,i1,s1,v1,Wj]))
  simp only [Ln,c1,c2,if_neg (show ¬true=false by decide),if_neg (show ¬false=true by decide)]
  (refine ⟨[top,top+1],by simp,by simp,by simp, ?_, ?_, ?_⟩ <;> simp [Ad,Ag,AD.nil,AD.cons,AF,AG,AQ,AM,Aw,Af,AB,AH,AE.set,AE.B5,AE.refl,Az,CU,D4,AA n0,AA hcb,Sc.Ad (fun j hj=>AA hj) rs1,Sc.Ad (fun j hj=>AA hj) ls1,Sc.Ad (fun j hj=>AA hj) us1,hnu0,hnu1,hncb,hncb2,hct0,hct2])
theorem ZB:BK Try.prog 48 Mf:=by
 refine .Cc XN ?_
 intro args hp top hpre hcl hsc
 match args,hpre with
 | [.pointer (some ⟨n,0,none⟩),a,b],⟨⟨v,s,h⟩,ha,hb⟩=>
 rw [ha,hb]
 generalize intOf a=a,intOf b=b
 simp only [h.s,h.v,BA]
 have hh:=h.h
 have us1:=h.u.low hcl
 have rs1:=h.R.low hcl
 have ls1:=h.l.low hcl
 have ws1:=h.w.low hcl
 have hcb:=h.qG hcl
 have n0:n < top:=hcl.lt _ _ hh
 have hnt0:¬top=n:=by omega
 have hnu0:¬n=top:=by omega
 have hnt1:¬top+1=n:=by omega
 have hnu1:¬n=top+1:=by omega
 have hnt2:¬top+2=n:=by omega
 have hnu2:¬n=top+2:=by omega
 have hT:=Cz (wv:=v.wv) h.sl h.kl
 have i0:=h.is
 have s0:=h.s
 have hC:=h.cS
 refine AL.Au BE XN rfl 28 rfl [.tmp 6] rfl (show 3≤28 by decide) ?_
 cases c1:s.l.any (Gr.pr a b) with
 |false=>
  have e:UM s.l a b= -1:=by unfold UM;rw [if_neg (by rw [c1];simp)]
  refine CW.vc Kf [0,1,2,6,7,13,21] (by kernel_rfl) ?_
  (repeat ((try refine Vc.mk' ?_);simp only [go_sem,Nat.reduceAdd,Int.reduceLT,KO,GP,i0,s0,e]))
  simp only [Jc,c1,if_true]
  (refine ⟨[],by simp,by simp,by simp, ?_, ?_, ?_⟩ <;> simp [Ad,AD.nil,AE.refl])
 |true=>
 have e:UM s.l a b=((GS s a b:Nat):Int):=by unfold UM;rw [if_pos c1];rfl
 have e0:¬((GS s a b:Nat):Int) < 0:=by omega
 have hfl:GS s a b < s.ic.length:=by have:=M5 c1;have:=h.il;unfold GS;omega
 have ixC:BP tt.get 67 (UT v.cb s.ic) (.int .i64 ((GS s a b:Nat):Int))=(BM (UT v.cb s.ic) (GS s a b),True):=by
  have:=P7 hC (k:= .i64) (n:=((GS s a b:Nat):Int)) (by omega) (by omega)
  rwa [Int.toNat_natCast,Nat.mul_one] at this
 have ldC:CS tt.get hp 4 (BM (UT v.cb s.ic) (GS s a b))=(.bool (Aj s.ic (GS s a b)),True):=by
  have:=TT hC (i:=GS s a b) (by omega)
  rwa [Nat.mul_one] at this
 obtain ⟨hncb,hcc⟩:=h.cbn hfl
 have hncb2:¬v.cb=n:=fun e=>hncb e.symm
 have hct0:¬v.cb=top:=by omega
 have hct1:¬top=v.cb:=by omega
 have hct2:¬v.cb=top+1:=by omega
 have hct3:¬top+1=v.cb:=by omega
 have stC:Bg tt.get hp 4 (BM (UT v.cb s.ic) (GS s a b)) (.bool false)=([(v.cb,AO Bd (s.ic.set (GS s a b) false))],True):=by
  have:=Zz hcc hfl (x:=false)
  rwa [Nat.mul_one,←mv (ne_of_lt hfl)] at this
 have R1:=h.nT hfl false
 have i1:=R1.is
 have s1:=R1.s
 have v1:=R1.v
 cases c2:Aj s.ic (GS s a b) with
 |false=>
  refine CW.vc Kf [0,1,2,6,7,13,21] (by kernel_rfl) ?_
  (repeat ((try refine Vc.mk' ?_);simp only [go_sem,Nat.reduceAdd,Nat.reduceLT,hh,Az,hT,KO,GP,i0,s0,e,e0,ixC,ldC,c2]))
  simp only [Jc,c1,c2,if_neg (show ¬true=false by decide),if_neg (show ¬false=true by decide)]
  (refine ⟨[],by simp,by simp,by simp, ?_, ?_, ?_⟩ <;> simp [Ad,AD.nil,AE.refl])
 |true=>
  refine CW.vc Kf [0,1,2,6,7,13,21] (by kernel_rfl) ?_
  (repeat ((try refine Vc.mk' ?_);simp only [go_sem,Nat.reduceAdd,Nat.reduceLT,hh,Az,hT,KO,GP,i0,s0,e,e0,ixC,ldC,c2,stC]))
  simp only [Jc,c1,c2,if_true,if_neg (show ¬true=false by decide)]
  (refine ⟨[],by simp,by simp,by simp, ?_, ?_, ?_⟩ <;> simp [Ad,AD.nil,AD.cons,AQ,AB,AE.B5,AE.refl,AA hcb])
theorem ZO:BK Try.prog 49 MI:=by
 refine .Cc YP ?_
 intro args hp top hpre hcl hsc
 match args,hpre with
 | [.pointer (some ⟨n,0,none⟩),a],⟨⟨v,s,h⟩,ha⟩=>
 rw [ha]
 generalize intOf a=a
 simp only [h.s,h.v,BA]
 have hh:=h.h
 have us1:=h.u.low hcl
 have rs1:=h.R.low hcl
 have ls1:=h.l.low hcl
 have ws1:=h.w.low hcl
 have hcb:=h.qG hcl
 have n0:n < top:=hcl.lt _ _ hh
 have hnt0:¬top=n:=by omega
 have hnu0:¬n=top:=by omega
 have hnt1:¬top+1=n:=by omega
 have hnu1:¬n=top+1:=by omega
 have hnt2:¬top+2=n:=by omega
 have hnu2:¬n=top+2:=by omega
 have hT:=Cz (wv:=v.wv) h.sl h.kl
 have i0:=h.is
 have s0:=h.s
 refine AL.Au BE YP rfl 23 rfl [.tmp 4, .tmp 5] rfl (show 2≤23 by decide) ?_
 cases c1:s.R.any (GR a) with
 |false=>
  refine CW.vc Kf [0,1,4,5,9,15] (by kernel_rfl) ?_
  (repeat ((try refine Vc.mk' ?_);simp only [go_sem,Qg,HN,i0,s0,c1]))
  simp only [Ic,c1,if_true]
  (refine ⟨[],by simp,by simp,by simp, ?_, ?_, ?_⟩ <;> simp [Ad,Ag,AD.nil,AE.refl,bad])
 |true=>
 have ha12:1≤a∧a≤24:=by
  obtain ⟨x,hx,hp⟩:=List.any_eq_true.1 c1
  have:=h.rl x hx
  simp only [GR,decide_eq_true_eq] at hp
  subst hp
  simpa [Gr.BH] using this
 obtain ⟨a1,a2⟩:=ha12
 have ha0:0≤a:=by omega
 have ha1:a < ((25:Nat):Int):=by omega
 have ta:a.toNat < 25:=by omega
 have ta6:6+a.toNat < 657:=by omega
 have ta7:6+(a.toNat+1)≤657:=by omega
 have ta8:6+a.toNat+1≤657:=by omega
 have g6:∀ {x0 x1 x2 x3 x4 x5 w:Value} {j:Nat},j < 25→((x0 :: x1 :: x2 :: x3 :: x4 :: x5 :: DG s.st s.ks w)[6+j]?).getD undef= .bool (Aj s.st j):=fun hj=>OW h.sl hj
 have p6:∀ {x0 x1 x2 x3 x4 x5 w:Value} {j:Nat} {z:Bool},j < 25→Am (x0 :: x1 :: x2 :: x3 :: x4 :: x5 :: DG s.st s.ks w) (6+j) [.bool z] = x0 :: x1 :: x2 :: x3 :: x4 :: x5 :: DG (s.st.set j z) s.ks w:=fun {_} {_} {_} {_} {_} {_} {_} {_} {z} hj=>Qn h.sl hj z
 have R1:=h.vx a.toNat true
 have i1:=R1.is
 have s1:=R1.s
 have v1:=R1.v
 simp only [Az,Qq] at i1 s1 v1
 cases c2:Aj s.st a.toNat with
 |true=>
  refine CW.vc Kf [0,1,4,5,9,15] (by kernel_rfl) ?_
  (repeat ((try refine Vc.mk' ?_);simp only [go_sem,Nat.reduceAdd,hh,Az,hT,Qg,HN,i0,s0,c1,ha0,ha1,ta,ta6,g6,c2,Nat.mul_one]))
  simp only [Ic,c1,c2,if_true,if_neg (show ¬true=false by decide)]
  (refine ⟨[],by simp,by simp,by simp, ?_, ?_, ?_⟩ <;> simp [Ad,Ag,AD.nil,AE.refl,bad])
 |false=>
  refine CW.vc Kf [0,1,4,5,9,15] (by kernel_rfl) ?_
  (repeat ((try refine Vc.mk' ?_);simp only [go_sem,Nat.reduceAdd,hh,Az,hT,Qg,HN,Z4,Mh,i0,s0,c1,ha0,ha1,ta,ta6,ta7,g6,p6,c2,Nat.mul_one,i1,s1,v1,Wj]))
  simp only [Ic,c1,c2,if_neg (show ¬true=false by decide),if_neg (show ¬false=true by decide)]
  (refine ⟨[top,top+1],by simp,by simp,by simp, ?_, ?_, ?_⟩ <;> simp [Ad,Ag,AD.nil,AD.cons,AF,AG,AQ,AM,Aw,Af,AB,AH,AE.set,AE.B5,AE.refl,Az,CU,D4,AA n0,AA hcb,Sc.Ad (fun j hj=>AA hj) rs1,Sc.Ad (fun j hj=>AA hj) ls1,Sc.Ad (fun j hj=>AA hj) us1,hnu0,hnu1,Qq])
theorem Uz:BK Try.prog 50 Ks:=by
 refine .Cc Xa ?_
 intro args hp top hpre hcl hsc
 match args,hpre with
 | [.pointer (some ⟨n,0,none⟩),a],⟨⟨v,s,h⟩,ha⟩=>
 rw [ha]
 generalize intOf a=a
 simp only [h.s,h.v,BA]
 have hh:=h.h
 have us1:=h.u.low hcl
 have rs1:=h.R.low hcl
 have ls1:=h.l.low hcl
 have ws1:=h.w.low hcl
 have hcb:=h.qG hcl
 have n0:n < top:=hcl.lt _ _ hh
 have hnt0:¬top=n:=by omega
 have hnu0:¬n=top:=by omega
 have hnt1:¬top+1=n:=by omega
 have hnu1:¬n=top+1:=by omega
 have hnt2:¬top+2=n:=by omega
 have hnu2:¬n=top+2:=by omega
 have hT:=Cz (wv:=v.wv) h.sl h.kl
 have i0:=h.is
 have s0:=h.s
 refine AL.Au BE Xa rfl 21 rfl [.tmp 4] rfl (show 2≤21 by decide) ?_
 cases c1:s.R.any (GR a) with
 |false=>
  refine CW.vc Kf [0,1,4,8,15] (by kernel_rfl) ?_
  (repeat ((try refine Vc.mk' ?_);simp only [go_sem,Qg,HN,i0,s0,c1]))
  simp only [Gd,c1,if_true]
  (refine ⟨[],by simp,by simp,by simp, ?_, ?_, ?_⟩ <;> simp [Ad,AD.nil,AE.refl])
 |true=>
 have ha12:1≤a∧a≤24:=by
  obtain ⟨x,hx,hp⟩:=List.any_eq_true.1 c1
  have:=h.rl x hx
  simp only [GR,decide_eq_true_eq] at hp
  subst hp
  simpa [Gr.BH] using this
 obtain ⟨a1,a2⟩:=ha12
 have ha0:0≤a:=by omega
 have ha1:a < ((25:Nat):Int):=by omega
 have ta:a.toNat < 25:=by omega
 have ta6:6+a.toNat < 657:=by omega
 have ta7:6+(a.toNat+1)≤657:=by omega
 have ta8:6+a.toNat+1≤657:=by omega
 have g6:∀ {x0 x1 x2 x3 x4 x5 w:Value} {j:Nat},j < 25→((x0 :: x1 :: x2 :: x3 :: x4 :: x5 :: DG s.st s.ks w)[6+j]?).getD undef= .bool (Aj s.st j):=fun hj=>OW h.sl hj
 have p6:∀ {x0 x1 x2 x3 x4 x5 w:Value} {j:Nat} {z:Bool},j < 25→Am (x0 :: x1 :: x2 :: x3 :: x4 :: x5 :: DG s.st s.ks w) (6+j) [.bool z] = x0 :: x1 :: x2 :: x3 :: x4 :: x5 :: DG (s.st.set j z) s.ks w:=fun {_} {_} {_} {_} {_} {_} {_} {_} {z} hj=>Qn h.sl hj z
 have R1:=h.vx a.toNat false
 have i1:=R1.is
 have s1:=R1.s
 have v1:=R1.v
 simp only [Az,Qq] at i1 s1 v1
 cases c2:Aj s.st a.toNat with
 |false=>
  refine CW.vc Kf [0,1,4,8,15] (by kernel_rfl) ?_
  (repeat ((try refine Vc.mk' ?_);simp only [go_sem,Nat.reduceAdd,hh,Az,hT,Qg,HN,i0,s0,c1,ha0,ha1,ta,ta6,g6,c2,Nat.mul_one]))
  simp only [Gd,c1,c2,if_neg (show ¬true=false by decide),if_neg (show ¬false=true by decide)]
  (refine ⟨[],by simp,by simp,by simp, ?_, ?_, ?_⟩ <;> simp [Ad,AD.nil,AE.refl])
 |true=>
  refine CW.vc Kf [0,1,4,8,15] (by kernel_rfl) ?_
  (repeat ((try refine Vc.mk' ?_);simp only [go_sem,Nat.reduceAdd,hh,Az,hT,Qg,HN,i0,s0,c1,ha0,ha1,ta,ta6,ta7,g6,p6,c2,Nat.mul_one]))
  simp only [Gd,c1,c2,if_true,if_neg (show ¬true=false by decide)]
  (refine ⟨[],by simp,by simp,by simp, ?_, ?_, ?_⟩ <;> simp [Ad,Ag,AD.nil,AD.cons,AF,AG,AB,AE.B5,AE.refl,Az,CU,D4,AA n0,AA hcb,Sc.Ad (fun j hj=>AA hj) rs1,Sc.Ad (fun j hj=>AA hj) ls1,Sc.Ad (fun j hj=>AA hj) us1,Sc.Ad (fun j hj=>AA hj) ws1,Qq])
end Go.Proofs.Ytmppehipfpkepaa.Dm
