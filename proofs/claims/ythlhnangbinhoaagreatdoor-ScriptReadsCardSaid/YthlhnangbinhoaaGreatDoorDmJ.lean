/- The abstract machine, a part of it: operations, regions, code and calls run over values with named blocks; each step is shown of the real run. -/
import Derived.Test.YthlhnangbinhoaaGreatDoorDmI
import Derived.RangeFuncNested
import Derived.RangeFuncLeaves
set_option linter.unusedVariables false
namespace Go.Dm
open Go.RowKit
theorem HR.NL {φ:Ren}{own own':Nat→Prop}{hp:Hp}{w:World}(H:HR φ own hp w)(h:∀b,own b→own' b):HR φ own' hp w:=
 ⟨H.obj,H.sep,fun i o L e hr hL=>h _ (H.D0 i o L e hr hL),H.val,fun b hb=>h _ (H.fresh b hb)⟩
theorem EA.uL {φ:Ren}{L:Loc}{o:A8}{W:World}{d:Nat}{x:Option (List Deferred)}(h:EA φ L o W.heap[L.BT]?)(hd:W.heap[d]? = some (.deferred x)):L.BT≠d:=by
 intro e
 subst e
 rw [hd] at h
 cases o with
 |cells rw z vs=>obtain ⟨_,c,t,fz,h1,_⟩:=h;cases h1
 |map es CG=>obtain ⟨es',h1,_⟩:=h;cases h1
 |iter s p=>cases h
 |miter m since seen c=>obtain ⟨_,M,_,h1⟩:=h;cases h1
 |raw b vs=>obtain ⟨_,_,t,fz,h1⟩:=h;cases h1
def ni(D:Nat):Deferred:= {target:= .collected D,args:= #[]}
def less(own:Nat→Prop)(Dl:List Nat):Nat→Prop:=fun b=>own b∧b ∉ Dl
def Marks (w0 w:World)(Dl:List Nat):Prop:=Dl.Nodup∧∀D∈Dl,w0.heap.size≤D∧w.heap[D]? = some (.deferred (some []))
def TQ (φ0:Ren)(own:Nat→Prop)(sz:Nat)(ds:List Deferred)(w0:World)(Q:Exit→SS→Prop):Exit→Act→World→Prop:=fun x a' w'=>
 ∃Dl φ' s',φ0.le φ'∧HI φ' (less own Dl) sz (Dl.map ni ++ ds) w0 s' a' w'∧Marks w0 w' Dl∧Q x s'
def CT (P:Program)(sz base:Nat)(c:Code)(s:SS)(Q:Exit→SS→Prop):Prop:=
 ∀(φ0 φ:Ren) (own:Nat→Prop) (ds:List Deferred) (w0:World) (a:Act) (w:World),(∀j,base≤j→φ0 j=none)→φ0.le φ→HI φ own sz ds w0 s a w→c.wp P (TQ φ0 own sz ds w0 Q) a w
section
variable{P:Program}{sz base:Nat}{c c1 c2:Code}{s:SS}{Q Q':Exit→SS→Prop}
theorem HI.wI{φ:Ren}{own:Nat→Prop}{ds:List Deferred}{w0:World}{a:Act}{w:World}(S:HI φ own sz ds w0 s a w):HI φ own sz ds w s a w:=⟨S.fr,S.hr,S.top,K.refl _ _,S.ds⟩
theorem TQ.step {φ0 φ1:Ren}{own:Nat→Prop}{ds:List Deferred}{w0 w1:World}{a1:Act}{s1:SS}{Dl:List Nat}(hb:∀j,base≤j→φ0 j=none)(h:CT P sz base c s1 Q)(hle:φ0.le φ1)(S:HI φ1 (less own Dl) sz (Dl.map ni ++ ds) w0 s1 a1 w1)
  (hM:Marks w0 w1 Dl):c.wp P (TQ φ0 own sz ds w0 Q) a1 w1:=by
 refine wp_mono (h φ0 φ1 _ _ w1 a1 w1 hb hle S.wI) ?_
 rintro x a2 w2 ⟨Dl2,φ2,s2,h1,h2,h3,h4⟩
 have hsz:=S.k.size
 have kk:K (less own Dl) w1 w2:=h2.k.Rz fun b hb=>hb.1
 refine ⟨Dl2 ++ Dl,φ2,s2,h1,⟨h2.fr, ?_,h2.top, ?_,by rw [h2.ds];simp⟩, ?_,h4⟩
 ·exact h2.hr.NL fun b hb=>⟨hb.1.1,by simp only [List.mem_append,not_or];exact ⟨hb.2,hb.1.2⟩⟩
 ·have k1:K own w0 w2:=(S.k.Rz fun b hb=>hb.1).trans (kk.Rz fun b hb=>hb.1)
  refine ⟨k1.size,fun b hb' hn=> ?_,k1.os,k1.tape,k1.output⟩
  refine k1.same b hb' fun ho=>hn ⟨ho, ?_⟩
  simp only [List.mem_append,not_or]
  refine ⟨fun hm=> ?_,fun hm=> ?_⟩
  ·have:=(h3.2 b hm).1;omega
  ·have:=(hM.2 b hm).1;omega
 ·refine ⟨List.nodup_append.2 ⟨h3.1,hM.1, ?_⟩, ?_⟩
  ·intro D h5 D' h6 e
   subst e
   have:=(h3.2 D h5).1
   have:=(Array.getElem?_eq_some_iff.1 (hM.2 D h6).2).1
   omega
  intro D hD
  rcases List.mem_append.1 hD with hD | hD
  ·exact ⟨by have:=(h3.2 D hD).1;omega,(h3.2 D hD).2⟩
  ·obtain ⟨m1,m2⟩:=hM.2 D hD
   refine ⟨m1, ?_⟩
   have hlt:D < w1.heap.size:=(Array.getElem?_eq_some_iff.1 m2).1
   rw [kk.same D hlt fun ho=>ho.2 hD];exact m2
theorem CT.ca {s':SS}{ρ:Nat→Nat}(hs:Al ρ base s' s)(h:CT P sz base c s' Q):CT P sz base c s Q:=by
 intro φ0 φ own ds w0 a w hb hle S
 exact h φ0 _ own ds w0 a w hb (hs.le hb hle) (S.lM hs)
end
end Go.Dm
namespace Go.Dm
open Go.RowKit
def UO(b1 top:Nat):Nat→Nat:=fun j=>if j < b1 then j else top+j
theorem Z5 {φ:Ren}{b1 top j:Nat}(h:j < b1):φ.via (UO b1 top) j=φ j:=by simp [Ren.via,UO,h]
theorem Qe {φ:Ren}{b1 top j:Nat}(ht:∀j,top≤j→φ j=none)(h:b1≤j):φ.via (UO b1 top) j=none:=by
 have:¬j < b1:=by omega
 simp only [Ren.via,UO,this,if_false]
 exact ht _ (by omega)
theorem uV {φ:Ren}{b1 top:Nat}(ht:∀j,top≤j→φ j=none):(φ.via (UO b1 top)).le φ:=by
 intro j L e
 rcases Nat.lt_or_ge j b1 with h | h
 ·rw [Z5 h] at e;exact e
 ·rw [Qe ht h] at e;cases e
theorem sU {φ:Ren}{b1 top:Nat}{v x:Value}(hs:Sc b1 v)(h:V φ v x):V (φ.via (UO b1 top)) v x:=by
 refine V.ER ?_
 rw [Sc.Ao (fun j hj=>by simp [UO,hj]) hs];exact h
def A8.oa:A8→Prop
 | .cells _ _ _=>True
 |_=>False
def X4(b1:Nat)(h0 h:Hp):Prop:= ∀i o,h i=some o→o.oa∨(i < b1∧∃o',h0 i=some o')
structure Lp(φ1 φB:Ren)(own:Nat→Prop)(w0 w:World)(h:Hp)(t:Nat)(W:World):Prop where
 ex:∃φ,φB.le φ∧HR φ own h W∧(∀j,t≤j→φ j=none)
 k:K own w0 W
 sR:w.heap.size≤W.heap.size
theorem Lp.grown {φ1 φB:Ren}{own:Nat→Prop}{w0 w:World}{h h0:Hp}{t b1:Nat}(hw:w0.heap.size≤w.heap.size)(H0:HR φ1 own h0 w)(hB:∀j,j < b1→φB j=φ1 j)(hf:X4 b1 h0 h)
  {W W':World} {row:Option Nat} (I:Lp φ1 φB own w0 w h t W) (hg:W.grownBy W' row) (hr:∀r,row=some r→w.heap.size≤r∧∃o:Obj,W.heap[r]? = some o∧o.isCells=false):Lp φ1 φB own w0 w h t W':=by
 obtain ⟨⟨φ,hle,H,ht⟩,k,sR⟩:=I
 refine ⟨⟨φ,hle,⟨?_,H.sep,H.D0,fun i L e=>Nat.lt_of_lt_of_le (H.val i L e) hg.size,fun b hb=>H.fresh b (Nat.le_trans hg.size hb)⟩,ht⟩, ?_,Nat.le_trans sR hg.size⟩
 ·intro i o e
  obtain ⟨L,h1,h2⟩:=H.obj i o e
  refine ⟨L,h1, ?_⟩
  have hlt:=H.val i L h1
  have hne:some L.BT≠row:=by
   intro er
   obtain ⟨hb,ob,hob,hnc⟩:=hr L.BT er.symm
   rcases hf i o e with hc | ⟨hi,o',ho'⟩
   ·cases o with
    |cells rw z vs=>
     obtain ⟨_,c,ty,fz,h3,_⟩:=h2
     rw [hob] at h3;cases h3;cases hnc
    |_=>exact hc.elim
   ·obtain ⟨L1,h3,h4⟩:=H0.obj i o' ho'
    have:=hle i L1 (by rw [hB i hi];exact h3)
    rw [h1] at this;cases this
    have:=H0.val i L h3
    omega
  rw [hg.block _ hlt hne];exact h2
 ·refine ⟨Nat.le_trans k.size hg.size,fun b hb hn=> ?_,hg.os.trans k.os,hg.tape.trans k.tape,hg.output.trans k.output⟩
  ·rw [hg.block b (Nat.lt_of_lt_of_le hb k.size) (fun e=>by have:=(hr b e.symm).1;omega)];exact k.same b hb hn
theorem sW {φ:Ren}{own:Nat→Prop}{h:Hp}{W:World}{D:Nat}{x:Option (List Deferred)}(H:HR φ own h W)(hD:W.heap[D]? = some (.deferred x)):HR φ (less own [D]) h W:=by
 refine ⟨H.obj,H.sep,fun i o L e hr hL=>⟨H.D0 i o L e hr hL, ?_⟩,H.val,fun b hb=>⟨H.fresh b hb, ?_⟩⟩
 ·obtain ⟨L',h1,h2⟩:=H.obj i o e
  rw [hL] at h1;cases h1
  simpa using h2.uL hD
 ·have:=(Array.getElem?_eq_some_iff.1 hD).1
  simp only [List.mem_singleton]
  omega
theorem AAN {own:Nat→Prop}{w0 W:World}{D:Nat}(k:K own w0 W)(hD:w0.heap.size≤D):K (less own [D]) w0 W:=
 ⟨k.size,fun b hb hn=>k.same b hb fun ho=>hn ⟨ho,by simp only [List.mem_singleton];omega⟩,k.os,k.tape,k.output⟩
def LpX{α:Type}(φ1 φB:Ren)(own:Nat→Prop)(w0 w:World)(X:Exit→List α→SS→Prop)(c:Code)(pre:List α)(W:World):Prop:=
 ∃(e:Exit)(s':SS),((c= .ret∧e= .ret)∨∃id,c= .exit id∧e= .exit id)∧X e pre s'∧Lp φ1 φB own w0 w s'.hp s'.top W
def wW {α:Type}(b1:Nat)(S:List α→Hp×Nat)(X:Exit→List α→SS→Prop)(xs:List α):Exit→SS→Prop
 | .normal,s=> ∃ρ,Al ρ b1 ⟨[],(S xs).1,(S xs).2⟩ s
 | .ret,s=>X .ret xs s
 | .exit id,s=>X (.exit id) xs s
 |_,_=>False
theorem run_assign {P:Program}{a:Act}{w:World}{o:Oper}{x:Operand}(h:o.op= .assign x):(execOp a.eval o).run P w= .ok (.value (a.eval x)) w:=by
 simp only [execOp,h]
 rfl
theorem dA {l n:Nat}{P:Program}{rid:Nat}{o:Oper}{x:Operand}{Q:Exit→Act→World→Prop}{a:Act}{w:World}(ho:o.op= .assign x)(hg:o.guard=none)(h:Q .normal (a.put o.dst (a.eval x)) w) :
  (Code.region rid #[o] false).wpIn (nA l) n P Q a w:=by
 refine wpIn_region ?_
 have hw:Region.wanted o (yielded #[o] a.tmps)=true:=by simp [Region.wanted,hg]
 show wpOpsIn (nA l) n P #[o] Q [0] a w
 simp only [wpOpsIn,List.getElem?_toArray,List.getElem?_cons_zero,hw,if_true]
 refine j6 (by rw [ho];intro c e;cases e) (K:=fun a w=>Q .normal a w) (Q:=Q) ?_ (fun _ _ h=>h) (fun _ _ _ h=>h)
 unfold Oper.wp
 rw [run_assign ho]
 exact h
theorem CT.range {P:Program}{tt:AM}(htt:Cy P tt){sz base:Nat}{s:SS}{Q:Exit→SS→Prop}{α:Type}{g:Operand}{p q rid gf:Nat}{o:Oper}{body:Code}(fn:Func)(hfn:P.funcs[gf]? = some fn)(hft:FTOk P gf fn)
  (b1:Nat) (hb1:base≤b1) (fr0:Cx) (S:List α→Hp×Nat) (X:Exit→List α→SS→Prop) (enc:α→Value) (hpl:∀x,plain 3 (enc x)=true) (hp:p < sz) (hq:q < sz)
  (ho:o.op= .assign (.tmp p)) (hd:o.dst=some q) (hgd:o.guard=none)
  (caps:List Value) (hgv:CU fr0 g=(.func (.func gf) ⟨[]⟩ ⟨caps⟩,true))
  (h0:∃ρ,Al ρ base ⟨fr0,(S []).1,(S []).2⟩ s) (ht:∀pre,b1≤(S pre).2) (hfr:∀t v,N6 fr0 t=some v→Sc b1 v) (hfl:∀pre,X4 b1 (S []).1 (S pre).1) (hfX:∀e pre s',X e pre s'→X4 b1 (S []).1 s'.hp)
  (T:World→Prop) (hT:∀pre φ own W,HR φ own (S pre).1 W→T W) (hTb:∀(W:World) (l:Nat) (o o':Obj),W.heap[l]? = some o→o.isCells=false→T W→T (W.putObj l o'))
  {Sd Sp:List α→Prop} {N:Nat}
  (hit:∀φ own W caps',Vs φ caps caps'→HR φ own (S []).1 W→SeqStopsK Fence.wide 2 P gf ⟨caps'⟩ (fun x=> #[enc x]) (fun A B=>T A→T B) Sd Sp N W)
  (hround:∀pre x,pre.length < N→CW P sz b1 body ⟨(q,enc x,true) :: (p,enc x,true) :: fr0,(S pre).1,(S pre).2⟩ (wW b1 S X (pre ++ [x])))
  (hdone:∀xs,Sd xs→Q .normal ⟨fr0,(S xs).1,(S xs).2⟩)
  (hret:∀pre s',Sp pre→X .ret pre s'→Q .ret ⟨fr0,s'.hp,s'.top⟩)
  (hexit:∀pre s' id,Sp pre→X (.exit id) pre s'→Q (.exit id) ⟨fr0,s'.hp,s'.top⟩):CT P sz base (.rangeFunc g #[p] (.region rid #[o] false) body) s Q:=by
 obtain ⟨ρ,hs⟩:=h0
 refine CT.ca hs ?_
 intro φ0 φ1 own ds w0 a w hb hle R
 have hgw:=R.fr.FP g _ (BD (by rw [hgv]))
 rw [hgv] at hgw
 generalize hae:a.eval g=gv at hgw
 cases hgw with
 |func _ _ first' _ caps' hf1 hf2=>
 cases hf1
 have htop:=R.top
 have hsz:=R.k.size
 obtain ⟨φB,hφB⟩:∃φB,φB=φ1.via (UO b1 (S []).2):=⟨_,rfl⟩
 have hBl:∀j,j < b1→φB j=φ1 j:=fun j hj=>by rw [hφB];exact Z5 hj
 have hBh:∀j,b1≤j→φB j=none:=fun j hj=>by rw [hφB];exact Qe htop hj
 have hB1:φB.le φ1:=by rw [hφB];exact uV htop
 have h0B:φ0.le φB:=by
  intro j L e
  have hj:j < base:=by
   rcases Nat.lt_or_ge j base with h | h
   ·exact h
   ·rw [hb j h] at e;cases e
  rw [hBl j (by omega)];exact hle j L e
 have frB:∀φ,φB.le φ→Sa φ sz fr0 {tmps:=a.tmps,defers:= []}:=by
  intro φ h
  refine ⟨fun t v e=> ?_,R.fr.size⟩
  have h1:V φB v (a.tmps.getD t undef):=by rw [hφB];exact sU (hfr t v e) (R.fr.val t v e)
  exact h1.mono h
 -- one round
 have round:∀(l:Nat) (pre:List α) (x:α) (W:World),Lp φ1 φB own w0 w (S pre).1 (S pre).2 W→pre.length < N→
   body.wpIn (nA l) 1 P (ownPostG w.heap.size (fun A B=>T A→T B) (fun pre W=>Lp φ1 φB own w0 w (S pre).1 (S pre).2 W) (LpX φ1 φB own w0 w X) (pre ++ [x]) W)
    {tmps:=(a.tmps.setIfInBounds p (enc x)).setIfInBounds q (enc x),defers:= []} W:=by
  intro l pre x W I hN
  obtain ⟨⟨φ,hle2,H,ht2⟩,k,sR⟩:=I
  obtain ⟨ow,how⟩:∃ow:Nat→Prop,ow=fun b=>own b∧¬(w.heap.size≤b∧∃ob:Obj,W.heap[b]? = some ob∧ob.isCells=false):=⟨_,rfl⟩
  have owl:∀b,ow b→own b:=fun b h=>by rw [how] at h;exact h.1
  have Hw:HR φ ow (S pre).1 W:=by
   refine ⟨H.obj,H.sep,fun i oo L e hr hL=> ?_,H.val,fun b hb=> ?_⟩
   ·rw [how]
    refine ⟨H.D0 i oo L e hr hL, ?_⟩
    rintro ⟨hbig,ob,hob,hnc⟩
    obtain ⟨L',h3,h4⟩:=H.obj i oo e
    rw [hL] at h3;cases h3
    rcases hfl pre i oo e with hc | ⟨hi,o',ho'⟩
    ·cases oo with
     |cells rw z vs=>
      obtain ⟨_,c,ty,fz,h3,_⟩:=h4
      rw [hob] at h3;cases h3;cases hnc
     |_=>exact hc.elim
    ·obtain ⟨L1,h3,h5⟩:=R.hr.obj i o' ho'
     have:=hle2 i L1 (by rw [hBl i hi];exact h3)
     rw [hL] at this;cases this
     have:=R.hr.val i L h3
     omega
   ·rw [how]
    refine ⟨H.fresh b hb, ?_⟩
    rintro ⟨_,ob,hob,_⟩
    rw [Array.getElem?_eq_none (by omega)] at hob;cases hob
  have SR:HI φ ow sz [] W ⟨(q,enc x,true) :: (p,enc x,true) :: fr0,(S pre).1,(S pre).2⟩ {tmps:=(a.tmps.setIfInBounds p (enc x)).setIfInBounds q (enc x),defers:= []} W:=by
   refine ⟨?_,Hw,ht2,K.refl _ _,rfl⟩
   have e1:Sa φ sz ((p,enc x,true) :: fr0) {tmps:=a.tmps.setIfInBounds p (enc x),defers:= []}:=(frB φ hle2).put (dst:=some p) (g:=true) (fun d e=>by cases e;exact hp) (DG _ _ (hpl x))
   exact e1.put (dst:=some q) (g:=true) (fun d e=>by cases e;exact hq) (DG _ _ (hpl x))
  have:=(hround pre x hN φB φ ow [] W _ W hBh hle2 SR).rd l 1
  refine wpIn_mono this ?_
  rintro e a3 W3 ⟨hne,φ3,s3,hle3,S3,hq3⟩
  have kf:KeepsFrom w.heap.size W W3:=⟨S3.k.size,fun i ob hbi hob hnc=>by
   rw [S3.k.same i (Array.getElem?_eq_some_iff.1 hob).1 fun h=>by rw [how] at h;exact h.2 ⟨hbi,ob,hob,hnc⟩];exact hob⟩
  have k3:K own w0 W3:=k.trans (S3.k.Rz owl)
  have big3:w.heap.size≤W3.heap.size:=Nat.le_trans sR S3.k.size
  cases e with
  |normal=>
   obtain ⟨ρ3,hρ⟩:=hq3
   have S4:=S3.lM hρ
   exact ⟨kf,fun _=>hT _ _ _ _ S4.hr,⟨⟨_,hρ.le hBh hle3,S4.hr.NL owl,S4.top⟩,k3,big3⟩⟩
  |ret=>exact ⟨kf, .ret,s3, .inl ⟨rfl,rfl⟩,hq3,⟨⟨φ3,hle3,S3.hr.NL owl,S3.top⟩,k3,big3⟩⟩
  |exit id=>exact ⟨kf, .exit id,s3, .inr ⟨id,rfl,rfl⟩,hq3,⟨⟨φ3,hle3,S3.hr.NL owl,S3.top⟩,k3,big3⟩⟩
  |_=>exact hq3.elim
 have grownI:∀pre,∀(W W':World) (row:Option Nat),Lp φ1 φB own w0 w (S pre).1 (S pre).2 W→W.grownBy W' row→(∀r,row=some r→w.heap.size≤r∧∃o:Obj,W.heap[r]? = some o∧o.isCells=false)→Lp φ1 φB own w0 w (S pre).1 (S pre).2 W':=
  fun pre W W' row I hg hr=>Lp.grown hsz R.hr hBl (hfl pre) I hg hr
 refine (wpIn_wide (n:=3)).1 (wpIn_rangeFunc_ownG (F:=Fence.wide) (n:=3) rfl (by omega) (gf:=gf) (lb:=⟨caps'⟩) hae trivial ?_ (hit φ1 own w caps' hf2 R.hr)
  (fun h k t=>k (h t)) (fun W l o o' _ h1 h2 _ t=>hTb W l o o' h1 h2 t) (Below.refl _ _) (fun x=>rfl)
  (fun pre W=>Lp φ1 φB own w0 w (S pre).1 (S pre).2 W) (LpX φ1 φB own w0 w X)
  (fun pre W W' row I hg hr=>grownI pre W W' row I hg hr) ?_ ⟨⟨φ1,hB1,R.hr,htop⟩,R.k,Nat.le_refl _⟩ (fun x=> {tmps:=(a.tmps.setIfInBounds p (enc x)).setIfInBounds q (enc x),defers:= []}) ?_ (fun l pre x W I hN=>round l pre x W I hN) ?_ ?_)
 ·intro args W
  obtain ⟨h1,h2,h3⟩:=hft
  have hfe:(fn.name == "runtime.NumGoroutine")=false:=h2
  simp only [callFunc,Sem.run_bind,run_program,Result.andThen_ok,h1,hfe,h3,Bool.false_eq_true,if_false,Sem.run_pure]
 ·rintro c pre W W' row ⟨e,s',hc,hX,I⟩ hg hr
  exact ⟨e,s',hc,hX,Lp.grown hsz R.hr hBl (hfX _ _ _ hX) I hg hr⟩
 ·intro l x W K hK
  refine dA ho hgd ?_
  have e1:(#[p].zip #[enc x]).foldl (fun t (p,v)=>t.setIfInBounds p v) a.tmps=a.tmps.setIfInBounds p (enc x):=by simp
  rw [e1]
  have e2:Act.eval {tmps:=a.tmps.setIfInBounds p (enc x),defers:= []} (.tmp p)=enc x:=by
   have:=R.fr.size
   simp [Act.eval,Array.getD_eq_getD_getElem?,this,hp]
  rw [e2,hd]
  exact hK
 ·intro D xs W hD hS I hDe
  obtain ⟨⟨φ,hle2,H,ht2⟩,k,sR⟩:=I
  refine ⟨[D],φ,⟨fr0,(S xs).1,(S xs).2⟩,fun j L e=>hle2 j L (h0B j L e),⟨⟨(frB φ hle2).val,(frB φ hle2).size⟩, ?_,ht2, ?_,by simp [ni,R.ds]⟩,⟨by simp,fun D' hD'=>by simp only [List.mem_singleton] at hD';subst hD';exact ⟨by omega,hDe⟩⟩,hdone xs hS⟩
  ·exact sW H hDe
  ·exact AAN k (by omega)
 ·rintro D c pre W hD hS ⟨e,s',hc,hX,I⟩ hDe
  obtain ⟨⟨φ,hle2,H,ht2⟩,k,sR⟩:=I
  have key:∀e,Q e ⟨fr0,s'.hp,s'.top⟩→TQ φ0 own sz ds w0 Q e {a with defers:= {target:= .collected D,args:= #[]} :: a.defers} W:=by
   intro e hQ
   refine ⟨[D],φ,⟨fr0,s'.hp,s'.top⟩,fun j L e=>hle2 j L (h0B j L e),⟨⟨(frB φ hle2).val,(frB φ hle2).size⟩, ?_,ht2, ?_,by simp [ni,R.ds]⟩,⟨by simp,fun D' hD'=>by simp only [List.mem_singleton] at hD';subst hD';exact ⟨by omega,hDe⟩⟩,hQ⟩
   ·exact sW H hDe
   ·exact AAN k (by omega)
  rcases hc with ⟨rfl,rfl⟩ | ⟨id,rfl,rfl⟩
  ·exact wpIn_ret (key _ (hret pre s' hS hX))
  ·exact wpIn_exit (key _ (hexit pre s' id hS hX))
end Go.Dm
namespace Go.Dm
open Go.RowKit
def noN:Ren:=fun _=>none
def ScF(fr:Cx):Prop:= ∀t v,N6 fr t=some v→Sc 0 v
structure Mem (T:World→Prop) (φT:Ren) (hpT:Hp) (topT:Nat):Prop where
 hr:∀W,T W→HR φT (fun b=>W.heap.size≤b) hpT W
 top:∀j,topT≤j→φT j=none
 stays:∀W W',T W→Below W.heap.size W W'→T W'
section
variable{α:Type} (P:Program)(sz:Nat)(T:World→Prop)(J Jx:List α→World→Prop)
end
theorem Sa.none {φ:Ren}{sz top:Nat}{fr:Cx}{a:Act}(ht:∀j,top≤j→φ j=none)(h:Sa φ sz fr a)(hs:ScF fr):Sa noN sz fr a:=by
 refine ⟨fun t v e=> ?_,h.size⟩
 have:=sU (top:=top) (hs t v e) (h.val t v e)
 have e2:φ.via (UO 0 top)=noN:=by funext j;exact Qe ht (Nat.zero_le _)
 rw [e2] at this;exact this
def Yh:Cx→Cx→Prop
 | [],_=>True
 | (t,v,g) :: l,fr=>Hx fr t=some (v,g)∧Yh l fr
section
variable{α:Type}{P:Program}{sz topT:Nat}{T:World→Prop}{J Jx:List α→World→Prop}{φT:Ren}{hpT:Hp}{c c1 c2:Code}{fr:Cx}{g:List α×Bool}{Q:Exit→Cx→List α×Bool→Prop}
end
end Go.Dm
namespace Go.Dm
def bytesOf(l:List Int):List UInt8:=l.map fun n=>UInt8.ofNat n.toNat
theorem Gd {tt:AM}{hp:Hp}{s e d:TypeId}{b o n c:Nat}{rw:Bool}{z:Nat}{vs:List Value}{l:List Int}(hs:kindOf tt s=some (.slice e))(he:kindOf tt e=some (.int .u8))(hd:kindOf tt d=some .string)
  (hb:hp b=some (.cells rw z vs)) (hv:(vs.drop o).take n=l.map (Value.int .u8)) (hn:o+n≤vs.length):CQ tt hp s d (.slice (some ⟨b,o,none⟩) n c)=(.string ⟨⟨bytesOf l⟩⟩,True):=by
 obtain ⟨i,hi,h1⟩:=Aa hs
 obtain ⟨j,hj,h2⟩:=Aa he
 obtain ⟨k,hk,h3⟩:=Aa hd
 have h:HU tt hp s d (.slice (some ⟨b,o,none⟩) n c)=some (.string ⟨⟨bytesOf l⟩⟩):=by
  simp only [HU,hi,hk,h1,h3,hj,h2,hb,Nat.ble_eq_true_of_le hn,hv,eE];rfl
 unfold CQ
 simp only [hs,h]
theorem Rk {tt:AM}{hp:Hp}{s e d:TypeId}{c:Nat}(hs:kindOf tt s=some (.slice e))(he:kindOf tt e=some (.int .u8))(hd:kindOf tt d=some .string):CQ tt hp s d (.slice none c c)=(.string ⟨⟨[]⟩⟩,True):=by
 obtain ⟨i,hi,h1⟩:=Aa hs
 obtain ⟨j,hj,h2⟩:=Aa he
 obtain ⟨k,hk,h3⟩:=Aa hd
 have h:HU tt hp s d (.slice none c c)=some (.string ⟨⟨[]⟩⟩):=by
  simp only [HU,hi,hk,h1,h3,hj,h2];rfl
 unfold CQ
 simp only [hs,h]
theorem ZK {tt:AM}{hp:Hp}{s e d:TypeId}{a:Addr}(hs:kindOf tt s=some (.slice e))(he:kindOf tt e=some (.int .u8))(hd:kindOf tt d=some .string)(ha:a=⟨0,0,some 0⟩){c:Nat}:CQ tt hp s d (.slice (some a) 0 c)=(.string ⟨⟨[]⟩⟩,True):=by
 subst ha
 obtain ⟨i,hi,h1⟩:=Aa hs
 obtain ⟨j,hj,h2⟩:=Aa he
 obtain ⟨k,hk,h3⟩:=Aa hd
 have h:HU tt hp s d (.slice (some ⟨0,0,some 0⟩) 0 c)=some (.string ⟨⟨[]⟩⟩):=by
  simp only [HU,hi,hk,h1,h3,hj,h2];rfl
 unfold CQ
 simp only [hs,h]
theorem BF.conv {tt:AM}{hp:Hp}{v:Value}{l:List Int}{s e d:TypeId}{E:B6 Int}(hE:∀a,E.enc a= [.int .u8 a])(hs:kindOf tt s=some (.slice e))(he:kindOf tt e=some (.int .u8))(hd:kindOf tt d=some .string)
  (h:BF E hp v l):CQ tt hp s d v=(.string ⟨⟨bytesOf l⟩⟩,True):=by
 cases h with
 |nils=>exact Rk hs he hd
 |emp=>exact ZK hs he hd rfl
 |rows b o c rw vs l hb hv ho hc hn=>
  have hz:E.size=1:=by have:=E.len 0;rw [hE] at this;simpa using this.symm
  rw [hz,Nat.mul_one] at hv ho
  refine Gd hs he hd hb (hv.trans ?_) ho
  clear hv hb ho hc hn
  induction l with
  |nil=>rfl
  |cons a l ih=>rw [B6.C2,ih,hE];rfl
theorem ZM {tt:AM}{hp:Hp}{s e d:TypeId}{b:Nat}{n:Int}(hs:kindOf tt s=some (.slice e))(he:kindOf tt e=some (.int .u8))(hd:kindOf tt d=some .string)
  (hb:hp b=some (.cells true 1 [.int .u8 n])):CQ tt hp s d (.slice (some ⟨b,0,none⟩) 1 1)=(.string ⟨⟨[UInt8.ofNat n.toNat]⟩⟩,True):=
 Gd (l:= [n]) hs he hd hb rfl (by simp)
end Go.Dm
