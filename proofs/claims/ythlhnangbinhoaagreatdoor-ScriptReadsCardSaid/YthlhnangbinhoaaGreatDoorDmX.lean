/- The abstract machine, a part of it: operations, regions, code and calls run over values with named blocks; each step is shown of the real run. -/
import Derived.Test.YthlhnangbinhoaaGreatDoorDmJ
import Derived.Recover
import Derived.Attr
set_option linter.unusedVariables false
namespace Go.Dm
inductive HM (P:Program) (φ:Ren):List (FuncId×List Value)→List Deferred→Prop
 |nil:HM P φ [] []
 |cons (f:FuncId) (l:List Value) (cap args:List Value) (fn:Func) (F:FTOk P f fn) (hv:Vs φ l (args ++ cap)) (ds:List (FuncId×List Value)) (ds':List Deferred) (h:HM P φ ds ds') :
   HM P φ ((f,l) :: ds) ({target:= .fn (.func f) ⟨cap⟩,args:=⟨args⟩} :: ds')
theorem HM.mono {P:Program}{φ ψ:Ren}(hle:φ.le ψ):∀ {ds:List (FuncId×List Value)} {ds':List Deferred},HM P φ ds ds'→HM P ψ ds ds'
 |_,_, .nil=> .nil
 |_,_, .cons f l cap args fn F hv ds ds' h=> .cons f l cap args fn F (hv.mono hle) ds ds' (h.mono hle)
def CD (P:Program)(sz:Nat)(c:Code)(s:SS)(ds:List (FuncId×List Value))(Q:Exit→SS→List (FuncId×List Value)→Prop):Prop:=
 ∀(φ:Ren) (own:Nat→Prop) (ds':List Deferred) (w0:World) (a:Act) (w:World),HM P φ ds ds'→HI φ own sz ds' w0 s a w→
  c.wp P (fun x a' w'=>x≠ .outgrown∧∃φ' s' e e',φ.le φ'∧HM P φ' e e'∧HI φ' own sz e' w0 s' a' w'∧Q x s' e) a w
def AB5 (ds:List (FuncId×List Value))(Q:Exit→SS→List (FuncId×List Value)→Prop)(x:Exit)(s:SS):Prop:=Q x s ds
theorem CD.of {P:Program}{sz:Nat}{c:Code}{s:SS}{ds:List (FuncId×List Value)}{Q:Exit→SS→List (FuncId×List Value)→Prop}(h:CW P sz s.top c s (AB5 ds Q)):CD P sz c s ds Q:=by
 intro φ own ds' w0 a w hd S
 refine wp_mono (h φ φ own ds' w0 a w S.top (Ren.le_refl _) S).wp ?_
 rintro x a' w' ⟨hx,φ',s',h1,h2,h3⟩
 exact ⟨hx,φ',s',ds,ds',h1,hd.mono h1,h2,h3⟩
def lP (K:SS→List (FuncId×List Value)→Prop)(Q:Exit→SS→List (FuncId×List Value)→Prop):Exit→SS→List (FuncId×List Value)→Prop
 | .normal,s,ds=>K s ds
 |x,s,ds=>Q x s ds
theorem CD.seq {P:Program}{sz:Nat}{c1 c2:Code}{s:SS}{ds:List (FuncId×List Value)}{Q:Exit→SS→List (FuncId×List Value)→Prop}(h:CD P sz c1 s ds (lP (fun s' e=>CD P sz c2 s' e Q) Q)):CD P sz (.seq c1 c2) s ds Q:=by
 intro φ own ds' w0 a w hd S
 refine wp_seq (wp_mono (h φ own ds' w0 a w hd S) ?_)
 rintro x a' w' ⟨hx,φ',s',e,e',h1,h2,h3,h4⟩
 cases x with
 |normal=>
  refine wp_mono (h4 φ' own e' w0 a' w' h2 h3) ?_
  rintro x a2 w2 ⟨hx,φ2,s2,d,d',g1,g2,g3,g4⟩
  exact ⟨hx,φ2,s2,d,d',Ren.le_trans h1 g1,g2,g3,g4⟩
 |_=>exact ⟨hx,φ',s',e,e',h1,h2,h3,h4⟩
def zl (K:SS→List (FuncId×List Value)→Prop)(ds:List (FuncId×List Value))(s:SS):Prop:=K s ds
def Oo (P:Program)(tt:AM)(G:FuncId→BE)(g:Bool)(o:Oper)(s:SS)(ds:List (FuncId×List Value))(K:SS→List (FuncId×List Value)→Prop):Prop:=
 match o.op with
 | .defer {callee:= .value f,args, ..}=>g=true∧(BL s.fr f).2.1=true∧Sj s.fr args.toList∧(∃fn,FTOk P (BL s.fr f).1 fn)∧K ⟨Bi s.fr o.dst undef false,s.hp,s.top⟩ (((BL s.fr f).1,(BL s.fr f).2.2.1 ++ Ja s.fr args.toList ++ (BL s.fr f).2.2.2) :: ds)
 |_=>Tv tt G g o s (zl K ds)
def Sw (P:Program)(tt:AM)(G:FuncId→BE)(all:List Oper):List Oper→(SS→List (FuncId×List Value)→Prop)→SS→List (FuncId×List Value)→Prop
 | [],K,s,ds=>K s ds
 |o :: os,K,s,ds=>(Ak all s.fr o.guard).2∧Oo P tt G (Ak all s.fr o.guard).1 o s ds (Sw P tt G all os K)
def uf (sz:Nat)(ops:Array Oper):Bool:=ops.toList.all fun o=>match o.dst with
 |none=>true
 |some d=>Nat.ble (d+1) sz
theorem dR {sz:Nat}{ops:Array Oper}(h:uf sz ops=true)(j:Nat)(p:Oper)(d:Nat)(hp:ops[j]? = some p)(hd:p.dst=some d):d < sz:=by
 unfold uf at h
 rw [List.all_eq_true] at h
 have:=h p (Array.mem_toList_iff.2 (Array.mem_of_getElem? hp))
 rw [hd] at this
 exact Nat.le_of_ble_eq_true this
theorem iD {P:Program}{tt:AM}{G:FuncId→BE}(E:Bp P tt G){st:SS}{ds:List (FuncId×List Value)}{o:Oper}{KK:SS→List (FuncId×List Value)→Prop}{φ:Ren}{own:Nat→Prop}{sz:Nat}{ds':List Deferred}{w0:World}{a:Act}{w:World}{K:Act→World→Prop}{Q:Exit→Act→World→Prop}
  (hd:∀d,o.dst=some d→d < sz) (D:HM P φ ds ds') (S:HI φ own sz ds' w0 st a w)
  (hK:∀φ' st' e e' a' w',φ.le φ'→HM P φ' e e'→HI φ' own sz e' w0 st' a' w'→KK st' e→K a' w') {g:Bool} (h:Oo P tt G g o st ds KK) :
  if g then o.wp P a w K Q else K (a.put o.dst undef) w:=by
 unfold Oo at h
 split at h
 ·rename_i f args ats ho
  obtain ⟨hg,h1,h2,⟨fn,F⟩,hk⟩:=h
  subst hg
  simp only [if_true]
  have hv:=ZU S.fr h2
  have hf:∃first' cap',a.eval f= .func (.func (BL st.fr f).1) ⟨first'⟩ ⟨cap'⟩∧
    Vs φ ((BL st.fr f).2.2.1 ++ Ja st.fr args.toList ++ (BL st.fr f).2.2.2) ((first' ++ args.toList.map a.eval) ++ cap'):=by
   unfold BL at h1 ⊢
   split at h1
   ·rename_i q first cap hq
    dsimp only at h1 ⊢
    have:=S.fr.FP f _ (BD h1)
    rw [hq] at this
    generalize hr:a.eval f=rf at this
    cases this with
    |func _ _ first' _ cap' hf1 hf2=>exact ⟨first',cap',rfl,(hf1.append hv).append hf2⟩
   ·cases h1
  obtain ⟨first',cap',hf,hvs⟩:=hf
  unfold Oper.wp
  rw [show (execOp a.eval o).run P w= .ok (.defer {target:= .fn (.func (BL st.fr f).1) ⟨cap'⟩,args:=⟨first' ++ args.toList.map a.eval⟩}) w from by
   obtain ⟨dst,op,ty,pos,after,guard⟩:=o
   dsimp only at ho
   subst ho
   obtain ⟨args⟩:=args
   simp only [execOp,resolve,hf,Deferred.ofValue,Sem.run_bind,Sem.run_pure,Result.andThen_ok]
   simp]
  refine hK φ ⟨Bi st.fr o.dst undef false,st.hp,st.top⟩ _ _ _ w (Ren.le_refl _) (.cons _ _ cap' (first' ++ args.toList.map a.eval) fn F hvs ds ds' D) ⟨?_,S.hr,S.top,S.k, ?_⟩ hk
  ·have:=S.fr.put (g:=false) (v:=undef) (v':=undef) hd (.tuple _ _ .nil)
   refine ⟨fun t v e=> ?_, ?_⟩
   ·have:=this.val t v e
    cases hdd:o.dst <;> (rw [hdd] at this;simpa [Act.put] using this)
   ·have:=this.size
    cases hdd:o.dst <;> (rw [hdd] at this;simpa [Act.put] using this)
  ·rw [Act.Bf,S.ds]
 ·exact Xx E hd S (fun φ' st' a' w' hle S' hk=>hK φ' st' ds ds' a' w' hle (D.mono hle) S' hk) h
theorem hY {P:Program}{tt:AM}{G:FuncId→BE}(E:Bp P tt G){sz:Nat}{all:Array Oper}(hd:∀(j:Nat) (p:Oper) d,all[j]? = some p→p.dst=some d→d < sz){KK:SS→List (FuncId×List Value)→Prop} :
  ∀(n:Nat) (i:Nat) (st:SS) (ds:List (FuncId×List Value)),i+n=all.size→Sw P tt G all.toList (all.toList.drop i) KK st ds→
   ∀(φ:Ren) (own:Nat→Prop) ds' w0 a w (Q:Exit→Act→World→Prop),HM P φ ds ds'→HI φ own sz ds' w0 st a w→
   (∀φ' st' e e' a' w',φ.le φ'→HM P φ' e e'→HI φ' own sz e' w0 st' a' w'→KK st' e→Q .normal a' w')→wpOps P all Q (List.range' i n) a w:=by
 intro n
 induction n with
 |zero=>
  intro i st ds hi h φ own ds' w0 a w Q D S hQ
  have:all.toList.drop i= []:=List.drop_eq_nil_of_le (by simp;omega)
  rw [this] at h
  simp only [List.range'_zero,wpOps]
  exact hQ φ st ds ds' a w (Ren.le_refl _) D S h
 |succ n ih=>
  intro i st ds hi h φ own ds' w0 a w Q D S hQ
  have hlt:i < all.toList.length:=by simp;omega
  rw [List.drop_eq_getElem_cons hlt] at h
  have ho:all[i]? = some all.toList[i]:=by simp
  obtain ⟨h1,h2⟩:=h
  rw [List.range'_succ,wpOps_cons]
  unfold wpOp
  rw [ho]
  dsimp only
  rw [MP (all:=all) S.fr.size hd S.fr.aB (OZ h1)]
  have:=iD E (K:=fun a' w'=>wpOps P all Q (List.range' (i+1) n) a' w') (Q:=Q) (fun d e=>hd i _ d ho e) D S (fun φ' st' e e' a' w' hle D' S' hk=>
   ih (i+1) st' e (by omega) hk φ' own e' w0 a' w' Q D' S' fun φ2 st2 g g' a2 w2 hle2=>hQ φ2 st2 g g' a2 w2 (Ren.le_trans hle hle2)) h2
  split
  ·rename_i hg;rw [if_pos hg] at this;exact .inl this
  ·rename_i hg;rw [if_neg hg] at this;exact this
def wK (Ax:List Nat)(Q:Exit→SS→List (FuncId×List Value)→Prop)(s:SS)(ds:List (FuncId×List Value)):Prop:=Q .normal ⟨G8 s.fr Ax,s.hp,s.top⟩ ds
theorem CD.region {P:Program}{tt:AM}{G:FuncId→BE}(E:Bp P tt G){sz:Nat}{s:SS}{ds:List (FuncId×List Value)}{Q:Exit→SS→List (FuncId×List Value)→Prop}{id:Nat}{ops:Array Oper}(Ax:List Nat)(hd:uf sz ops=true)
  (h:Sw P tt G ops.toList ops.toList (wK Ax Q) s ds):CD P sz (.region id ops false) s ds Q:=by
 intro φ own ds' w0 a w D S
 refine wp_region ?_
 have:=hY E (dR hd) (KK:=wK Ax Q) ops.size 0 s ds (by simp) (by simpa using h) φ own ds' w0 a w (fun x a' w'=>x≠ .outgrown∧∃φ' s' e e',φ.le φ'∧HM P φ' e e'∧HI φ' own sz e' w0 s' a' w'∧Q x s' e) D S
  (fun φ' st' e e' a' w' hle' D' S' hk=>⟨nofun,φ',⟨G8 st'.fr Ax,st'.hp,st'.top⟩,e,e',hle',D',S'.sub (Sub.Ax st' Ax),hk⟩)
 rwa [←List.range_eq_range'] at this
def Cd (P:Program)(f:FuncId)(args:List Value)(u:FrameMode)(hp:Hp)(top:Nat)(R:FrameMode→Hp→Nat→Prop):Prop:=
 ∀φ own w args',Vs φ args args'→HR φ own hp w→(∀j,top≤j→φ j=none)→
  CallsD P f ⟨args'⟩ u w fun e u' w'=> ∃v' hp' top' φ',e= .returned v'∧R u' hp' top'∧E8 φ own w undef hp' top' undef w' φ'
theorem Cd.Af {P:Program}{tt:AM}(htt:Cy P tt){f:FuncId}{fn:Func}(F:BU P f fn){c:Code}(hc:fn.body=some c)(n:Nat)(hn:fn.ntmps=n)(rs:List ResultVar)(hrs:fn.results.toList=rs)
  {args:List Value} {u:FrameMode} {hp:Hp} {top:Nat} {post:Value→Hp→Nat→Prop} {R:FrameMode→Hp→Nat→Prop} (hle:args.length≤n) (hR:∀v hp' top',post v hp' top'→R u hp' top')
  (h:CW P n top c ⟨IY args 0,hp,top⟩ (kQ tt rs post)):Cd P f args u hp top R:=by
 subst hn hrs
 intro φ own w args' hargs H htop
 refine (callsD_of_wp (u:=u) (R:=fun e w'=> ∃v' hp' top' φ',e= .returned v'∧R u hp' top'∧E8 φ own w undef hp' top' undef w' φ') F.at_ hc ?_).mono ?_
 ·have S:=HI.args (fn:=fn) hargs hle H htop
  refine wp_mono (h φ φ own [] w _ w htop (Ren.le_refl _) S).wp ?_
  rintro x a' w' ⟨_,φ',s',hle',S',hx⟩
  have fin:Dn tt s'.fr s'.hp fn.results.toList∧post (Kf (Ia tt s'.fr s'.hp fn.results.toList)) s'.hp s'.top→a'.defers= []∧∃v,(results fn a'.tmps).run P w' = .ok v w'∧∃v' hp' top' φ',Ending.returned v= .returned v'∧R u hp' top'∧E8 φ own w undef hp' top' undef w' φ':=by
   rintro ⟨hok,hpost⟩
   obtain ⟨v',e1,e2⟩:=Kd htt S' hok
   exact ⟨S'.ds,v',e1,v',_,_,φ',rfl,hR _ _ _ hpost,⟨hle', .tuple _ _ .nil,S'.hr,S'.k,S'.top⟩⟩
  cases x with
  |normal=>exact fin hx
  |ret=>exact fin hx
  |_=>exact hx.elim
 ·rintro e u' w' ⟨rfl,v',hp',top',φ',h1,h2,h3⟩
  exact ⟨v',hp',top',φ',h1,h2,h3⟩
theorem Cd.RH {P:Program}{tt:AM}(htt:Cy P tt){f:FuncId}{fn:Func}(F:FTOk P f fn){id:Nat}{ops:Array Oper}{c2:Code}(hc:fn.body=some (.seq (.region id ops false) c2)){d:Nat}{o:Oper}(ho:ops= #[o])
  (h1:o.op= .call {callee:= .builtin .recover,args:= #[],argTypes:= #[]}) (hg:o.guard=none) (hd:o.dst=some d) (n:Nat) (hn:fn.ntmps=n) (hdn:d < n) (rs:List ResultVar) (hrs:fn.results.toList=rs)
  {args:List Value} {u:FrameMode} {hp:Hp} {top:Nat} {post:Value→Hp→Nat→Prop} {R:FrameMode→Hp→Nat→Prop} (hle:args.length≤n) (v:Value) (hv:plain 8 v=true) (u':FrameMode)
  (hu:(u= .returning∧v= .nilIface∧u' = .returning)∨∃older,u= .panicking ({v:=v,recovered:=false} :: older)∧u' = .panicking ({v:=v,recovered:=true} :: older))
  (hR:∀x hp' top',post x hp' top'→R u' hp' top')
  (h:CW P n top c2 ⟨(d,v,true) :: IY args 0,hp,top⟩ (kQ tt rs post)):Cd P f args u hp top R:=by
 subst hn hrs ho
 intro φ own w args' hargs H htop
 refine callsD_of_wpS F.at_ hc fun c₀ cs hc0=>wpS_seq (wpS_region ?_)
 have S:=HI.args (fn:=fn) hargs hle H htop
 generalize hA:({tmps:=(⟨args'⟩:Array Value) ++ Array.replicate (fn.ntmps - (⟨args'⟩:Array Value).size) undef,defers:= []}:Act)=a0 at S ⊢
 have hrec:(execOp a0.eval o).run P w= .ok .recover w:=by
  obtain ⟨dst,op,ty,pos,after,guard⟩:=o
  dsimp only at h1
  subst h1
  simp only [execOp,resolve,Sem.run_bind,Sem.run_pure,Result.andThen_ok,invoke,builtin]
 have hcs:∃cs',(cs' = {c₀ with mode:=u'} :: cs)∧(match recoverD (c₀ :: cs) with
   |some (x,cs2)=>x=v∧cs2=cs'
   |none=>v= .nilIface∧cs' = c₀ :: cs):=by
  rcases hu with ⟨e1,e2,e3⟩ | ⟨older,e1,e2⟩
  ·refine ⟨_,rfl, ?_⟩
   have:c₀.mode= .returning:=hc0.trans e1
   simp only [recoverD,this]
   refine ⟨e2, ?_⟩
   rw [e3]
   cases c₀
   dsimp only at this
   subst this;rfl
  ·refine ⟨_,rfl, ?_⟩
   have:c₀.mode= .panicking ({v:=v,recovered:=false} :: older):=hc0.trans e1
   simp only [recoverD,this]
   exact ⟨trivial,by rw [e2]⟩
 obtain ⟨cs',hcs',hm⟩:=hcs
 have fin:(c2.wpS P (bodyPostS P fn c₀ cs fun e u1 w1=> ∃v' hp' top' φ',e= .returned v'∧R u1 hp' top'∧E8 φ own w undef hp' top' undef w1 φ')) (a0.put o.dst v) cs' w:=by
  refine wpS_of_wp ?_
  have S1:HI φ own fn.ntmps [] w ⟨(d,v,true) :: IY args 0,hp,top⟩ (a0.put o.dst v) w:=by
   have hf:=S.fr.put (dst:=o.dst) (g:=true) (v:=v) (v':=v) (fun k e=>by rw [hd] at e;cases e;exact hdn) (DG _ _ hv)
   rw [hd] at hf ⊢
   exact ⟨hf,S.hr,S.top,S.k,by rw [Act.Bf];exact S.ds⟩
  refine wp_mono (h φ φ own [] w _ w htop (Ren.le_refl _) S1).wp ?_
  rintro x a' w' ⟨_,φ',s',hle',S',hx⟩
  have last:Dn tt s'.fr s'.hp fn.results.toList∧post (Kf (Ia tt s'.fr s'.hp fn.results.toList)) s'.hp s'.top→a'.defers= []∧∃u1,cs' = {c₀ with mode:=u1} :: cs∧∃v,(results fn a'.tmps).run P w' = .ok v w'∧∃v' hp' top' φ',Ending.returned v= .returned v'∧R u1 hp' top'∧E8 φ own w undef hp' top' undef w' φ':=by
   rintro ⟨hok,hpost⟩
   obtain ⟨v',e1,e2⟩:=Kd htt S' hok
   exact ⟨S'.ds,u',hcs',v',e1,v',_,_,φ',rfl,hR _ _ _ hpost,⟨hle', .tuple _ _ .nil,S'.hr,S'.k,S'.top⟩⟩
  cases x with
  |normal=>exact last hx
  |ret=>exact last hx
  |_=>exact hx.elim
 have hw:Region.wanted o (yielded #[o] a0.tmps)=true:=by simp [Region.wanted,hg]
 show wpOpsS P #[o] _ (List.range 1) a0 (c₀ :: cs) w
 rw [show List.range 1= [0] from rfl]
 simp only [wpOpsS,List.getElem?_toArray,List.getElem?_cons_zero,hw,if_true,hrec]
 revert hm
 cases hrc:recoverD (c₀ :: cs) with
 |none=>
  rintro ⟨rfl,rfl⟩
  exact fin
 |some p=>
  obtain ⟨x,cs2⟩:=p
  rintro ⟨rfl,rfl⟩
  exact fin
def LV (P:Program)(tt:AM)(rs:List ResultVar)(post:Value→Hp→Nat→Prop)(fr:Cx):List (FuncId×List Value)→FrameMode→Hp→Nat→Prop
 | [], .returning,hp,top=>Dn tt fr hp rs∧post (Kf (Ia tt fr hp rs)) hp top
 | [],_,_,_=>False
 | (f,args) :: ds,u,hp,top=>u≠ .run∧Cd P f args u hp top fun u' hp' top'=>LV P tt rs post fr ds (settle u') hp' top'
theorem LV.ok {P:Program}{tt:AM}(htt:Cy P tt){fn:Func}{post:Value→Hp→Nat→Prop}{fr:Cx}{φ0:Ren}{own:Nat→Prop}{sz:Nat}{w0:World}{a:Act}:∀(ds:List (FuncId×List Value)) (ds':List Deferred) (u:FrameMode) (hp:Hp) (top:Nat) (φ:Ren) (w:World),φ0.le φ→HM P φ ds ds'→
  Sa φ sz fr a→HR φ own hp w→(∀j,top≤j→φ j=none)→K own w0 w→LV P tt fn.results.toList post fr ds u hp top→
  Leaves P fn a.tmps (fun e w'=> ∃v hp' top' v' φ',e= .returned v'∧post v hp' top'∧E8 φ0 own w0 v hp' top' v' w' φ') ds' u w:=by
 intro ds
 induction ds with
 |nil=>
  intro ds' u hp top φ w hle D F H htop k h
  cases D
  cases u with
  |returning=>
   obtain ⟨hok,hpost⟩:=h
   obtain ⟨v',e1,e2⟩:=Kd (s:=⟨fr,hp,top⟩) (ds:=a.defers) htt ⟨F,H,htop,k,rfl⟩ hok
   exact ⟨v',e1,_,_,_,v',φ,rfl,hpost,⟨hle,e2,H,k,htop⟩⟩
  |_=>exact h.elim
 |cons d ds ih=>
  obtain ⟨f,l⟩:=d
  intro ds' u hp top φ w hle D F H htop k h
  cases D with
  |cons _ _ cap args fn' F' hv _ ds' D=>
   obtain ⟨hu,h⟩:=h
   refine leaves_cons (f:=f) (args:=⟨args ++ cap⟩) hu ?_ ?_
   ·obtain ⟨hfn1,hfn2,hfn3⟩:=F'
    have hfe:(fn'.name == "runtime.NumGoroutine")=false:=hfn2
    simp only [invoke,callFunc,Sem.run_bind,run_program,Result.andThen_ok,hfn1,hfe,hfn3,Bool.false_eq_true,if_false]
    simp
   ·refine (h φ own w _ hv H htop).mono ?_
    rintro e u' w' ⟨v',hp',top',φ',rfl,hR,W⟩
    exact ih ds' (settle u') hp' top' φ' w' (Ren.le_trans hle W.le) (D.mono W.le) (F.mono W.le) W.hr W.top (k.trans W.k) hR
def nv (P:Program)(tt:AM)(rs:List ResultVar)(post:Value→Hp→Nat→Prop):Exit→SS→List (FuncId×List Value)→Prop
 | .normal,s,ds=>LV P tt rs post s.fr ds .returning s.hp s.top
 | .ret,s,ds=>LV P tt rs post s.fr ds .returning s.hp s.top
 | .panic c,s,ds=>LV P tt rs post s.fr ds (.panicking c) s.hp s.top
 |_,_,_=>False
theorem AJ.TU {P:Program}{tt:AM}(htt:Cy P tt){f:FuncId}{fn:Func}(F:FTOk P f fn){c:Code}(hc:fn.body=some c)(n:Nat)(hn:fn.ntmps=n)(rs:List ResultVar)(hrs:fn.results.toList=rs)
  {args:List Value} {hp:Hp} {top:Nat} {post:Value→Hp→Nat→Prop} (hle:args.length≤n)
  (h:CD P n c ⟨IY args 0,hp,top⟩ [] (nv P tt rs post)):AJ P f args hp top post:=by
 subst hn hrs
 intro φ own w args' hargs H htop
 refine calls_of_wp_defers F.at_ hc ?_
 have S:=HI.args (fn:=fn) hargs hle H htop
 refine wp_mono (h φ own [] w _ w .nil S) ?_
 rintro x a' w' ⟨_,φ',s',e,e',h1,D,S',hx⟩
 have fin:∀u,LV P tt fn.results.toList post s'.fr e u s'.hp s'.top→Leaves P fn a'.tmps (fun e w'=> ∃v hp' top' v' φ',e= .returned v'∧post v hp' top'∧E8 φ own w v hp' top' v' w' φ') a'.defers u w':=by
  intro u hu
  rw [S'.ds]
  exact LV.ok htt e e' u s'.hp s'.top φ' w' h1 D S'.fr S'.hr S'.top S'.k hu
 cases x with
 |normal=>exact fin _ hx
 |ret=>exact fin _ hx
 |panic ch=>exact fin _ hx
 |_=>exact hx.elim
section
variable {P:Program} {tt:AM} {G:FuncId→BE} {sz:Nat} {all os:List Oper} {o:Oper} {g:Bool} {s:SS} {ds:List (FuncId×List Value)} {K:SS→List (FuncId×List Value)→Prop} {Q:Exit→SS→List (FuncId×List Value)→Prop} {rs:List ResultVar} {post:Value→Hp→Nat→Prop} {Ax:List Nat}
theorem dL:Sw P tt G all [] K s ds=K s ds:=rfl
theorem YV:Sw P tt G all (o :: os) K s ds=((Ak all s.fr o.guard).2∧Oo P tt G (Ak all s.fr o.guard).1 o s ds (Sw P tt G all os K)):=rfl
theorem nS:zl K ds s=K s ds:=rfl
theorem p8:wK Ax Q s ds=Q .normal ⟨G8 s.fr Ax,s.hp,s.top⟩ ds:=rfl
theorem qp:lP K Q .normal s ds=K s ds:=rfl
theorem qq:lP K Q .ret s ds=Q .ret s ds:=rfl
theorem qQ{x:Exit}:AB5 ds Q x s=Q x s ds:=rfl
theorem ug:nv P tt rs post .normal s ds=LV P tt rs post s.fr ds .returning s.hp s.top:=rfl
theorem ui:nv P tt rs post .ret s ds=LV P tt rs post s.fr ds .returning s.hp s.top:=rfl
theorem uh {c:List PanicEntry}:nv P tt rs post (.panic c) s ds=LV P tt rs post s.fr ds (.panicking c) s.hp s.top:=rfl
theorem HP {f:FuncId}{args:List Value}{u:FrameMode}{hp:Hp}{top:Nat}{fr:Cx}:LV P tt rs post fr ((f,args) :: ds) u hp top=(u≠ .run∧Cd P f args u hp top fun u' hp' top'=>LV P tt rs post fr ds (settle u') hp' top'):=by
 cases u <;> rfl
theorem T4 {hp:Hp}{top:Nat}{fr:Cx}:LV P tt rs post fr [] .returning hp top=(Dn tt fr hp rs∧post (Kf (Ia tt fr hp rs)) hp top):=rfl
end
theorem Cd.mono {P:Program}{f:FuncId}{args:List Value}{u:FrameMode}{hp:Hp}{top:Nat}{R R':FrameMode→Hp→Nat→Prop}(h:Cd P f args u hp top R)(hr:∀u' hp' top',R u' hp' top'→R' u' hp' top'):Cd P f args u hp top R':=by
 intro φ own w args' ha H htop
 refine (h φ own w args' ha H htop).mono ?_
 rintro e u' w' ⟨v',hp',top',φ',h1,h2,h3⟩
 exact ⟨v',hp',top',φ',h1,hr _ _ _ h2,h3⟩
attribute [go_sem]dL YV nS p8 qp qq qQ ug ui uh
end Go.Dm
