/- The abstract machine, a part of it: operations, regions, code and calls run over values with named blocks; each step is shown of the real run. -/
import Derived.Test.YthpibnpeaidabaaGreatDoorDmI
import Derived.RangeFuncNested
import Derived.RangeFuncLeaves
set_option linter.unusedSimpArgs false
set_option linter.unusedVariables false
namespace Go.Dm
open Go.RowKit
theorem HR.HV {φ:Ren}{own own':Nat→Prop}{hp:Hp}{w:World}(H:HR φ own hp w)(h:∀b,own b→own' b):HR φ own' hp w:=
 ⟨H.obj,H.sep,fun i o L e hr hL=>h _ (H.Dq i o L e hr hL),H.val,fun b hb=>h _ (H.fresh b hb)⟩
theorem Da.Za {φ:Ren}{L:Loc}{o:A5}{W:World}{d:Nat}{x:Option (List Deferred)}(h:Da φ L o W.heap[L.Bl]?)(hd:W.heap[d]? = some (.deferred x)):L.Bl≠d:=by
 intro e
 subst e
 rw [hd] at h
 cases o with
 |cells rw z vs=>obtain ⟨_,c,t,fz,h1,_⟩:=h;cases h1
 |map es clk=>obtain ⟨es',h1,_⟩:=h;cases h1
 |iter s p=>cases h
 |miter m since seen c=>obtain ⟨_,M,_,h1⟩:=h;cases h1
 |raw b vs=>obtain ⟨_,_,t,fz,h1⟩:=h;cases h1
theorem putObj_size {W:World}{d:Nat}{o:Obj}:(W.putObj d o).heap.size=W.heap.size:=by simp [World.putObj]
theorem Hv {W:World}{d b:Nat}{o:Obj}(h:b≠d):(W.putObj d o).heap[b]? = W.heap[b]? :=World.putObj_heap_other h
theorem HR.turn {φ:Ren}{own:Nat→Prop}{hp:Hp}{W:World}{d:Nat}{x:Option (List Deferred)}{o:Obj}(H:HR φ own hp W)(hd:W.heap[d]? = some (.deferred x)):HR φ own hp (W.putObj d o):=by
 refine ⟨?_,H.sep,H.Dq,fun i L e=>by rw [putObj_size];exact H.val i L e,fun b hb=>H.fresh b (by rw [putObj_size] at hb;exact hb)⟩
 intro i oo e
 obtain ⟨L,h1,h2⟩:=H.obj i oo e
 exact ⟨L,h1,by rw [Hv (h2.Za hd)];exact h2⟩
def bT (D:Nat):Deferred:= {target:= .collected D,args:= #[]}
def less (own:Nat→Prop)(Dl:List Nat):Nat→Prop:=fun b=>own b∧b ∉ Dl
def Marks (w0 w:World)(Dl:List Nat):Prop:=Dl.Nodup∧∀D∈Dl,w0.heap.size≤D∧w.heap[D]? = some (.deferred (some []))
def TQ (φ0:Ren)(own:Nat→Prop)(sz:Nat)(ds:List Deferred)(w0:World)(Q:Exit→SS→Prop):Exit→Act→World→Prop:=fun x a' w'=>
 ∃Dl φ' s',φ0.le φ'∧HF φ' (less own Dl) sz (Dl.map bT ++ ds) w0 s' a' w'∧Marks w0 w' Dl∧Q x s'
def CT (P:Program)(sz base:Nat)(c:Code)(s:SS)(Q:Exit→SS→Prop):Prop:=
 ∀(φ0 φ:Ren) (own:Nat→Prop) (ds:List Deferred) (w0:World) (a:Act) (w:World),(∀j,base≤j→φ0 j=none)→φ0.le φ→HF φ own sz ds w0 s a w→c.wp P (TQ φ0 own sz ds w0 Q) a w
def tg (P:Program)(sz base:Nat)(c:Code)(Q:Exit→SS→Prop)(s:SS):Prop:=CT P sz base c s Q
theorem aH {own:Nat→Prop}:less own [] = own:=funext fun b=>propext ⟨fun h=>h.1,fun h=>⟨h,by simp⟩⟩
section
variable {P:Program} {sz base:Nat} {c c1 c2:Code} {s:SS} {Q Q':Exit→SS→Prop}
theorem CT.of (h:CW P sz base c s Q):CT P sz base c s Q:=by
 intro φ0 φ own ds w0 a w hb hle S
 refine wp_mono (h φ0 φ own ds w0 a w hb hle S).wp ?_
 rintro x a' w' ⟨_,φ',s',h1,h2,h3⟩
 exact ⟨[],φ',s',h1,by rw [aH];exact h2,⟨List.nodup_nil,fun D hD=>by cases hD⟩,h3⟩
theorem HF.mw {φ:Ren}{own:Nat→Prop}{ds:List Deferred}{w0:World}{a:Act}{w:World}(S:HF φ own sz ds w0 s a w):HF φ own sz ds w s a w:=⟨S.fr,S.hr,S.top,K.refl _ _,S.ds⟩
theorem TQ.step {φ0 φ1:Ren}{own:Nat→Prop}{ds:List Deferred}{w0 w1:World}{a1:Act}{s1:SS}{Dl:List Nat}(hb:∀j,base≤j→φ0 j=none)(h:CT P sz base c s1 Q)(hle:φ0.le φ1)(S:HF φ1 (less own Dl) sz (Dl.map bT ++ ds) w0 s1 a1 w1)
  (hM:Marks w0 w1 Dl):c.wp P (TQ φ0 own sz ds w0 Q) a1 w1:=by
 refine wp_mono (h φ0 φ1 _ _ w1 a1 w1 hb hle S.mw) ?_
 rintro x a2 w2 ⟨Dl2,φ2,s2,h1,h2,h3,h4⟩
 have hsz:=S.k.size
 have kk:K (less own Dl) w1 w2:=h2.k.KV fun b hb=>hb.1
 refine ⟨Dl2 ++ Dl,φ2,s2,h1,⟨h2.fr, ?_,h2.top, ?_,by rw [h2.ds];simp⟩, ?_,h4⟩
 ·exact h2.hr.HV fun b hb=>⟨hb.1.1,by simp only [List.mem_append,not_or];exact ⟨hb.2,hb.1.2⟩⟩
 ·have k1:K own w0 w2:=(S.k.KV fun b hb=>hb.1).trans (kk.KV fun b hb=>hb.1)
  refine ⟨k1.size,fun b hb' hn=> ?_,k1.os,k1.tape,k1.output⟩
  refine k1.same b hb' fun ho=>hn ⟨ho, ?_⟩
  simp only [List.mem_append,not_or]
  refine ⟨fun hm=> ?_,fun hm=> ?_⟩
  ·have:=(h3.2 b hm).1;omega
  ·have:=(hM.2 b hm).1;omega
 ·refine ⟨List.nodup_append.2 ⟨h3.1,hM.1, ?_⟩, ?_⟩
  ·intro D h5 D' h6 e
   subst e
   have:=(h3.2 D h5).1
   have:=(Array.getElem?_eq_some_iff.1 (hM.2 D h6).2).1
   omega
  intro D hD
  rcases List.mem_append.1 hD with hD | hD
  ·exact ⟨by have:=(h3.2 D hD).1;omega,(h3.2 D hD).2⟩
  ·obtain ⟨m1,m2⟩:=hM.2 D hD
   refine ⟨m1, ?_⟩
   have hlt:D < w1.heap.size:=(Array.getElem?_eq_some_iff.1 m2).1
   rw [kk.same D hlt fun ho=>ho.2 hD];exact m2
theorem CT.seq (h:CT P sz base c1 s (Kh (tg P sz base c2 Q) Q)):CT P sz base (.seq c1 c2) s Q:=by
 intro φ0 φ own ds w0 a w hb hle S
 refine wp_seq (wp_mono (h φ0 φ own ds w0 a w hb hle S) ?_)
 rintro x a' w' ⟨Dl,φ',s',h1,h2,h3,h4⟩
 cases x with
 |normal=>exact TQ.step hb h4 h1 h2 h3
 |_=>exact ⟨Dl,φ',s',h1,h2,h3,h4⟩
theorem CT.block {id:Nat}(h:CT P sz base c s (GW id Q)):CT P sz base (.block id c) s Q:=by
 intro φ0 φ own ds w0 a w hb hle S
 refine wp_block (wp_mono (h φ0 φ own ds w0 a w hb hle S) ?_)
 rintro x a' w' ⟨Dl,φ',s',h1,h2,h3,h4⟩
 cases x with
 |exit j=>
  simp only [GW] at h4
  simp only [Exit.inBlock]
  split
  ·rename_i hj;rw [if_pos hj] at h4;exact ⟨Dl,φ',s',h1,h2,h3,h4⟩
  ·rename_i hj;rw [if_neg hj] at h4;exact ⟨Dl,φ',s',h1,h2,h3,h4⟩
 |_=>exact ⟨Dl,φ',s',h1,h2,h3,h4⟩
theorem CT.mono (h:CT P sz base c s Q)(hq:∀x s',Q x s'→Q' x s'):CT P sz base c s Q':=by
 intro φ0 φ own ds w0 a w hb hle S
 exact wp_mono (h φ0 φ own ds w0 a w hb hle S) fun x a' w' ⟨Dl,φ',s',h1,h2,h3,h4⟩=>⟨Dl,φ',s',h1,h2,h3,hq x s' h4⟩
theorem CT.QW {s':SS}{ρ:Nat→Nat}(hs:A9 ρ base s' s)(h:CT P sz base c s' Q):CT P sz base c s Q:=by
 intro φ0 φ own ds w0 a w hb hle S
 exact h φ0 _ own ds w0 a w hb (hs.le hb hle) (S.ZK hs)
end
theorem Ab.dT {P:Program}{tt:Aa}(htt:CR P tt){f:FuncId}{fn:Func}(F:Av P f fn){c:Code}(hc:fn.body=some c)(n:Nat)(hn:fn.ntmps=n)(rs:List ResultVar)(hrs:fn.results.toList=rs){args:List Value}{hp:Hp}{top:Nat}{post:Value→Hp→Nat→Prop}
  (hle:args.length≤n) (h:CT P n top c ⟨Im args 0,hp,top⟩ (iq tt rs post)):Ab P f args hp top post:=by
 subst hn hrs
 intro φ own w args' hargs H htop
 refine (callsIn_wide (n:=3)).1 (callsIn_of_wp_marks F.at_ hc trivial ?_ rfl)
 have hsz:((⟨args'⟩:Array Value) ++ Array.replicate (fn.ntmps - (⟨args'⟩:Array Value).size) undef).size=fn.ntmps:=by
  have:=hargs.length
  simp;omega
 have S:HF φ own fn.ntmps [] w ⟨Im args 0,hp,top⟩ {tmps:=(⟨args'⟩:Array Value) ++ Array.replicate (fn.ntmps - (⟨args'⟩:Array Value).size) undef,defers:= []} w:=by
  refine ⟨⟨?_,hsz⟩,H,htop,K.refl _ _,rfl⟩
  intro t u hu
  unfold Fx at hu
  split at hu
  ·cases hu
  ·rename_i v g hl
   obtain ⟨_,h2,h3⟩:=N3 args 0 t _ hl
   dsimp only at h2 h3
   subst h3
   cases hu
   obtain ⟨u',h3,h4⟩:=hargs.get (by simpa using h2)
   have hlt:t < args'.length:=by
    rcases Nat.lt_or_ge t args'.length with h | h
    ·exact h
    ·rw [List.getElem?_eq_none h] at h3;cases h3
   have:((⟨args'⟩:Array Value) ++ Array.replicate (fn.ntmps - (⟨args'⟩:Array Value).size) undef).getD t undef=u':=by
    rw [Array.getD_eq_getD_getElem?,Array.getElem?_append_left (by simpa using hlt)]
    simp [h3]
   rw [this];exact h4
 refine wpIn_wide.2 (wp_mono (h φ φ own [] w _ w htop (Ren.le_refl _) S) ?_)
 rintro x a' w' ⟨Dl,φ',s',hle',S',hM,hx⟩
 have main:∀(Dl:List Nat) (own':Nat→Prop) (W:World),FG tt s'.fr s'.hp fn.results.toList→post (HE (Iu tt s'.fr s'.hp fn.results.toList)) s'.hp s'.top→HR φ' own' s'.hp W→K own w W→(∀b,own' b→own b)→Marks w W Dl→
   LeavesInM Fence.wide 3 P fn a'.tmps (fun e w''=> ∃v hp' top' v' φ',e= .returned v'∧post v hp' top'∧FY φ own w v hp' top' v' w'' φ') (Dl.map bT) .returning W:=by
  intro Dl
  induction Dl with
  |nil=>
   intro own' W hok hpost HW KW hown _
   have SW:HF φ' own' fn.ntmps a'.defers W s' a' W:=⟨S'.fr,HW,S'.top,K.refl _ _,rfl⟩
   obtain ⟨vs',h1,h2⟩:=Ui htt SW hok
   have hm:(fn.results.mapM (Fy a'.tmps)).run P W= .ok vs'.toArray W:=by
    rw [Array.mapM_eq_mapM_toList]
    simp only [Sem.run_map,h1,Result.andThen_ok]
   have hres:∃v',(results fn a'.tmps).run P W= .ok v' W∧V φ' (HE (Iu tt s'.fr s'.hp fn.results.toList)) v':=by
    refine ⟨if h:vs'.toArray.size=1 then vs'.toArray[0] else .tuple vs'.toArray, ?_, ?_⟩
    ·rw [I9]
     simp only [Sem.run_bind]
     rw [hm];rfl
    ·revert h2
     generalize Iu tt s'.fr s'.hp fn.results.toList=vs
     intro h2
     cases h2 with
     |nil=>exact .tuple _ _ .nil
     |cons x x' l l' hx hl=>
      cases hl with
      |nil=>exact hx
      |cons y y' m m' hy hmm=>exact .tuple _ _ (.cons _ _ _ _ hx (.cons _ _ _ _ hy hmm))
   obtain ⟨v',e1,e2⟩:=hres
   exact ⟨v',e1,_,_,_,v',φ',rfl,hpost,⟨hle',e2,HW.HV hown,KW,S'.top⟩⟩
  |cons D Dl ih=>
   intro own' W hok hpost HW KW hown ⟨hnd,hM⟩
   obtain ⟨m1,m2⟩:=hM D (List.mem_cons_self ..)
   refine ⟨by simp, .inl ⟨D,_,rfl,run_takeDeferred m2, ?_⟩⟩
   refine ih own' _ hok hpost (HW.turn m2) ?_ hown ⟨(List.nodup_cons.1 hnd).2, ?_⟩
   ·refine ⟨by rw [putObj_size];exact KW.size,fun b hb hn=>by rw [Hv (by omega)];exact KW.same b hb hn,KW.os,KW.tape,KW.output⟩
   ·intro D' hD'
    obtain ⟨n1,n2⟩:=hM D' (List.mem_cons_of_mem _ hD')
    refine ⟨n1, ?_⟩
    rw [Hv fun e=>(List.nodup_cons.1 hnd).1 (by rw [←e];exact hD')];exact n2
 have fin:FG tt s'.fr s'.hp fn.results.toList∧post (HE (Iu tt s'.fr s'.hp fn.results.toList)) s'.hp s'.top→LeavesInM Fence.wide 3 P fn a'.tmps (fun e w''=> ∃v hp' top' v' φ',e= .returned v'∧post v hp' top'∧FY φ own w v hp' top' v' w'' φ') a'.defers .returning w':=by
  rintro ⟨h1,h2⟩
  rw [S'.ds,List.append_nil]
  exact main Dl _ w' h1 h2 S'.hr (S'.k.KV fun b hb=>hb.1) (fun b hb=>hb.1) hM
 cases x with
 |normal=>exact fin hx
 |ret=>exact fin hx
 |_=>exact hx.elim
end Go.Dm
namespace Go.Dm
open Go.RowKit
def PL (b1 top:Nat):Nat→Nat:=fun j=>if j < b1 then j else top+j
theorem UT {φ:Ren}{b1 top j:Nat}(h:j < b1):φ.via (PL b1 top) j=φ j:=by simp [Ren.via,PL,h]
theorem LW {φ:Ren}{b1 top j:Nat}(ht:∀j,top≤j→φ j=none)(h:b1≤j):φ.via (PL b1 top) j=none:=by
 have:¬j < b1:=by omega
 simp only [Ren.via,PL,this,if_false]
 exact ht _ (by omega)
theorem oB {φ:Ren}{b1 top:Nat}(ht:∀j,top≤j→φ j=none):(φ.via (PL b1 top)).le φ:=by
 intro j L e
 rcases Nat.lt_or_ge j b1 with h | h
 ·rw [UT h] at e;exact e
 ·rw [LW ht h] at e;cases e
theorem kR {φ:Ren}{b1 top:Nat}{v x:Value}(hs:Sc b1 v)(h:V φ v x):V (φ.via (PL b1 top)) v x:=by
 refine V.Di ?_
 rw [Sc.BH (fun j hj=>by simp [PL,hj]) hs];exact h
def A5.dN:A5→Prop
 | .cells _ _ _=>True
 |_=>False
def QL (b1:Nat)(h0 h:Hp):Prop:= ∀i o,h i=some o→o.dN∨(i < b1∧∃o',h0 i=some o')
structure Lp (φ1 φB:Ren) (own:Nat→Prop) (w0 w:World) (h:Hp) (t:Nat) (W:World):Prop where
 ex:∃φ,φB.le φ∧HR φ own h W∧(∀j,t≤j→φ j=none)
 k:K own w0 W
 jx:w.heap.size≤W.heap.size
theorem Lp.grown {φ1 φB:Ren}{own:Nat→Prop}{w0 w:World}{h h0:Hp}{t b1:Nat}(hw:w0.heap.size≤w.heap.size)(H0:HR φ1 own h0 w)(hB:∀j,j < b1→φB j=φ1 j)(hf:QL b1 h0 h)
  {W W':World} {row:Option Nat} (I:Lp φ1 φB own w0 w h t W) (hg:W.grownBy W' row) (hr:∀r,row=some r→w.heap.size≤r∧∃o:Obj,W.heap[r]? = some o∧o.isCells=false):Lp φ1 φB own w0 w h t W':=by
 obtain ⟨⟨φ,hle,H,ht⟩,k,jx⟩:=I
 refine ⟨⟨φ,hle,⟨?_,H.sep,H.Dq,fun i L e=>Nat.lt_of_lt_of_le (H.val i L e) hg.size,fun b hb=>H.fresh b (Nat.le_trans hg.size hb)⟩,ht⟩, ?_,Nat.le_trans jx hg.size⟩
 ·intro i o e
  obtain ⟨L,h1,h2⟩:=H.obj i o e
  refine ⟨L,h1, ?_⟩
  have hlt:=H.val i L h1
  have hne:some L.Bl≠row:=by
   intro er
   obtain ⟨hb,ob,hob,hnc⟩:=hr L.Bl er.symm
   rcases hf i o e with hc | ⟨hi,o',ho'⟩
   ·cases o with
    |cells rw z vs=>
     obtain ⟨_,c,ty,fz,h3,_⟩:=h2
     rw [hob] at h3;cases h3;cases hnc
    |_=>exact hc.elim
   ·obtain ⟨L1,h3,h4⟩:=H0.obj i o' ho'
    have:=hle i L1 (by rw [hB i hi];exact h3)
    rw [h1] at this;cases this
    have:=H0.val i L h3
    omega
  rw [hg.block _ hlt hne];exact h2
 ·refine ⟨Nat.le_trans k.size hg.size,fun b hb hn=> ?_,hg.os.trans k.os,hg.tape.trans k.tape,hg.output.trans k.output⟩
  ·rw [hg.block b (Nat.lt_of_lt_of_le hb k.size) (fun e=>by have:=(hr b e.symm).1;omega)];exact k.same b hb hn
theorem jk {φ:Ren}{own:Nat→Prop}{h:Hp}{W:World}{D:Nat}{x:Option (List Deferred)}(H:HR φ own h W)(hD:W.heap[D]? = some (.deferred x)):HR φ (less own [D]) h W:=by
 refine ⟨H.obj,H.sep,fun i o L e hr hL=>⟨H.Dq i o L e hr hL, ?_⟩,H.val,fun b hb=>⟨H.fresh b hb, ?_⟩⟩
 ·obtain ⟨L',h1,h2⟩:=H.obj i o e
  rw [hL] at h1;cases h1
  simpa using h2.Za hD
 ·have:=(Array.getElem?_eq_some_iff.1 hD).1
  simp only [List.mem_singleton]
  omega
theorem qG {own:Nat→Prop}{w0 W:World}{D:Nat}(k:K own w0 W)(hD:w0.heap.size≤D):K (less own [D]) w0 W:=
 ⟨k.size,fun b hb hn=>k.same b hb fun ho=>hn ⟨ho,by simp only [List.mem_singleton];omega⟩,k.os,k.tape,k.output⟩
def tE {α:Type}(φ1 φB:Ren)(own:Nat→Prop)(w0 w:World)(X:Exit→List α→SS→Prop)(c:Code)(pre:List α)(W:World):Prop:=
 ∃(e:Exit) (s':SS),((c= .ret∧e= .ret)∨∃id,c= .exit id∧e= .exit id)∧X e pre s'∧Lp φ1 φB own w0 w s'.hp s'.top W
def mv {α:Type}(b1:Nat)(S:List α→Hp×Nat)(X:Exit→List α→SS→Prop)(xs:List α):Exit→SS→Prop
 | .normal,s=> ∃ρ,A9 ρ b1 ⟨[],(S xs).1,(S xs).2⟩ s
 | .ret,s=>X .ret xs s
 | .exit id,s=>X (.exit id) xs s
 |_,_=>False
theorem run_assign {P:Program}{a:Act}{w:World}{o:Oper}{x:Operand}(h:o.op= .assign x):(execOp a.eval o).run P w= .ok (.value (a.eval x)) w:=by
 simp only [execOp,h]
 rfl
theorem XI {l n:Nat}{P:Program}{rid:Nat}{o:Oper}{x:Operand}{Q:Exit→Act→World→Prop}{a:Act}{w:World}(ho:o.op= .assign x)(hg:o.guard=none)(h:Q .normal (a.put o.dst (a.eval x)) w) :
  (Code.region rid #[o] false).wpIn (dG l) n P Q a w:=by
 refine wpIn_region ?_
 have hw:Region.wanted o (yielded #[o] a.tmps)=true:=by simp [Region.wanted,hg]
 show wpOpsIn (dG l) n P #[o] Q [0] a w
 simp only [wpOpsIn,List.getElem?_toArray,List.getElem?_cons_zero,hw,if_true]
 refine bf (by rw [ho];intro c e;cases e) (K:=fun a w=>Q .normal a w) (Q:=Q) ?_ (fun _ _ h=>h) (fun _ _ _ h=>h)
 unfold Oper.wp
 rw [run_assign ho]
 exact h
theorem CT.range {P:Program}{tt:Aa}(htt:CR P tt){sz base:Nat}{s:SS}{Q:Exit→SS→Prop}{α:Type}{g:Operand}{p q rid gf:Nat}{o:Oper}{body:Code}(fn:Func)(hfn:P.funcs[gf]? = some fn)(hft:FTOk P gf fn)
  (b1:Nat) (hb1:base≤b1) (fr0:Bw) (S:List α→Hp×Nat) (X:Exit→List α→SS→Prop) (enc:α→Value) (hpl:∀x,plain 3 (enc x)=true) (hp:p < sz) (hq:q < sz)
  (ho:o.op= .assign (.tmp p)) (hd:o.dst=some q) (hgd:o.guard=none)
  (caps:List Value) (hgv:Bt fr0 g=(.func (.func gf) ⟨[]⟩ ⟨caps⟩,true))
  (h0:∃ρ,A9 ρ base ⟨fr0,(S []).1,(S []).2⟩ s) (ht:∀pre,b1≤(S pre).2) (hfr:∀t v,Fx fr0 t=some v→Sc b1 v) (hfl:∀pre,QL b1 (S []).1 (S pre).1) (hfX:∀e pre s',X e pre s'→QL b1 (S []).1 s'.hp)
  (T:World→Prop) (hT:∀pre φ own W,HR φ own (S pre).1 W→T W) (hTb:∀(W:World) (l:Nat) (o o':Obj),W.heap[l]? = some o→o.isCells=false→T W→T (W.putObj l o'))
  {Sd Sp:List α→Prop} {N:Nat}
  (hit:∀φ own W caps',Vs φ caps caps'→HR φ own (S []).1 W→SeqStopsK Fence.wide 2 P gf ⟨caps'⟩ (fun x=> #[enc x]) (fun A B=>T A→T B) Sd Sp N W)
  (hround:∀pre x,pre.length < N→CW P sz b1 body ⟨(q,enc x,true) :: (p,enc x,true) :: fr0,(S pre).1,(S pre).2⟩ (mv b1 S X (pre ++ [x])))
  (hdone:∀xs,Sd xs→Q .normal ⟨fr0,(S xs).1,(S xs).2⟩)
  (hret:∀pre s',Sp pre→X .ret pre s'→Q .ret ⟨fr0,s'.hp,s'.top⟩)
  (hexit:∀pre s' id,Sp pre→X (.exit id) pre s'→Q (.exit id) ⟨fr0,s'.hp,s'.top⟩):CT P sz base (.rangeFunc g #[p] (.region rid #[o] false) body) s Q:=by
 obtain ⟨ρ,hs⟩:=h0
 refine CT.QW hs ?_
 intro φ0 φ1 own ds w0 a w hb hle R
 have hgw:=R.fr.EG g _ (BC (by rw [hgv]))
 rw [hgv] at hgw
 generalize hae:a.eval g=gv at hgw
 cases hgw with
 |func _ _ first' _ caps' hf1 hf2=>
 cases hf1
 have htop:=R.top
 have hsz:=R.k.size
 obtain ⟨φB,hφB⟩:∃φB,φB=φ1.via (PL b1 (S []).2):=⟨_,rfl⟩
 have hBl:∀j,j < b1→φB j=φ1 j:=fun j hj=>by rw [hφB];exact UT hj
 have hBh:∀j,b1≤j→φB j=none:=fun j hj=>by rw [hφB];exact LW htop hj
 have hB1:φB.le φ1:=by rw [hφB];exact oB htop
 have h0B:φ0.le φB:=by
  intro j L e
  have hj:j < base:=by
   rcases Nat.lt_or_ge j base with h | h
   ·exact h
   ·rw [hb j h] at e;cases e
  rw [hBl j (by omega)];exact hle j L e
 have frB:∀φ,φB.le φ→IB φ sz fr0 {tmps:=a.tmps,defers:= []}:=by
  intro φ h
  refine ⟨fun t v e=> ?_,R.fr.size⟩
  have h1:V φB v (a.tmps.getD t undef):=by rw [hφB];exact kR (hfr t v e) (R.fr.val t v e)
  exact h1.mono h
 -- one round
 have round:∀(l:Nat) (pre:List α) (x:α) (W:World),Lp φ1 φB own w0 w (S pre).1 (S pre).2 W→pre.length < N→
   body.wpIn (dG l) 1 P (ownPostG w.heap.size (fun A B=>T A→T B) (fun pre W=>Lp φ1 φB own w0 w (S pre).1 (S pre).2 W) (tE φ1 φB own w0 w X) (pre ++ [x]) W)
    {tmps:=(a.tmps.setIfInBounds p (enc x)).setIfInBounds q (enc x),defers:= []} W:=by
  intro l pre x W I hN
  obtain ⟨⟨φ,hle2,H,ht2⟩,k,jx⟩:=I
  obtain ⟨ow,how⟩:∃ow:Nat→Prop,ow=fun b=>own b∧¬(w.heap.size≤b∧∃ob:Obj,W.heap[b]? = some ob∧ob.isCells=false):=⟨_,rfl⟩
  have owl:∀b,ow b→own b:=fun b h=>by rw [how] at h;exact h.1
  have Hw:HR φ ow (S pre).1 W:=by
   refine ⟨H.obj,H.sep,fun i oo L e hr hL=> ?_,H.val,fun b hb=> ?_⟩
   ·rw [how]
    refine ⟨H.Dq i oo L e hr hL, ?_⟩
    rintro ⟨hbig,ob,hob,hnc⟩
    obtain ⟨L',h3,h4⟩:=H.obj i oo e
    rw [hL] at h3;cases h3
    rcases hfl pre i oo e with hc | ⟨hi,o',ho'⟩
    ·cases oo with
     |cells rw z vs=>
      obtain ⟨_,c,ty,fz,h3,_⟩:=h4
      rw [hob] at h3;cases h3;cases hnc
     |_=>exact hc.elim
    ·obtain ⟨L1,h3,h5⟩:=R.hr.obj i o' ho'
     have:=hle2 i L1 (by rw [hBl i hi];exact h3)
     rw [hL] at this;cases this
     have:=R.hr.val i L h3
     omega
   ·rw [how]
    refine ⟨H.fresh b hb, ?_⟩
    rintro ⟨_,ob,hob,_⟩
    rw [Array.getElem?_eq_none (by omega)] at hob;cases hob
  have SR:HF φ ow sz [] W ⟨(q,enc x,true) :: (p,enc x,true) :: fr0,(S pre).1,(S pre).2⟩ {tmps:=(a.tmps.setIfInBounds p (enc x)).setIfInBounds q (enc x),defers:= []} W:=by
   refine ⟨?_,Hw,ht2,K.refl _ _,rfl⟩
   have e1:IB φ sz ((p,enc x,true) :: fr0) {tmps:=a.tmps.setIfInBounds p (enc x),defers:= []}:=(frB φ hle2).put (dst:=some p) (g:=true) (fun d e=>by cases e;exact hp) (Ce _ _ (hpl x))
   exact e1.put (dst:=some q) (g:=true) (fun d e=>by cases e;exact hq) (Ce _ _ (hpl x))
  have:=(hround pre x hN φB φ ow [] W _ W hBh hle2 SR).rd l 1
  refine wpIn_mono this ?_
  rintro e a3 W3 ⟨hne,φ3,s3,hle3,S3,hq3⟩
  have kf:KeepsFrom w.heap.size W W3:=⟨S3.k.size,fun i ob hbi hob hnc=>by
   rw [S3.k.same i (Array.getElem?_eq_some_iff.1 hob).1 fun h=>by rw [how] at h;exact h.2 ⟨hbi,ob,hob,hnc⟩];exact hob⟩
  have k3:K own w0 W3:=k.trans (S3.k.KV owl)
  have big3:w.heap.size≤W3.heap.size:=Nat.le_trans jx S3.k.size
  cases e with
  |normal=>
   obtain ⟨ρ3,hρ⟩:=hq3
   have S4:=S3.ZK hρ
   exact ⟨kf,fun _=>hT _ _ _ _ S4.hr,⟨⟨_,hρ.le hBh hle3,S4.hr.HV owl,S4.top⟩,k3,big3⟩⟩
  |ret=>exact ⟨kf, .ret,s3, .inl ⟨rfl,rfl⟩,hq3,⟨⟨φ3,hle3,S3.hr.HV owl,S3.top⟩,k3,big3⟩⟩
  |exit id=>exact ⟨kf, .exit id,s3, .inr ⟨id,rfl,rfl⟩,hq3,⟨⟨φ3,hle3,S3.hr.HV owl,S3.top⟩,k3,big3⟩⟩
  |_=>exact hq3.elim
 have grownI:∀pre,∀(W W':World) (row:Option Nat),Lp φ1 φB own w0 w (S pre).1 (S pre).2 W→W.grownBy W' row→(∀r,row=some r→w.heap.size≤r∧∃o:Obj,W.heap[r]? = some o∧o.isCells=false)→Lp φ1 φB own w0 w (S pre).1 (S pre).2 W':=
  fun pre W W' row I hg hr=>Lp.grown hsz R.hr hBl (hfl pre) I hg hr
 refine (wpIn_wide (n:=3)).1 (wpIn_rangeFunc_ownG (F:=Fence.wide) (n:=3) rfl (by omega) (gf:=gf) (lb:=⟨caps'⟩) hae trivial ?_ (hit φ1 own w caps' hf2 R.hr)
  (fun h k t=>k (h t)) (fun W l o o' _ h1 h2 _ t=>hTb W l o o' h1 h2 t) (Below.refl _ _) (fun x=>rfl)
  (fun pre W=>Lp φ1 φB own w0 w (S pre).1 (S pre).2 W) (tE φ1 φB own w0 w X)
  (fun pre W W' row I hg hr=>grownI pre W W' row I hg hr) ?_ ⟨⟨φ1,hB1,R.hr,htop⟩,R.k,Nat.le_refl _⟩ (fun x=> {tmps:=(a.tmps.setIfInBounds p (enc x)).setIfInBounds q (enc x),defers:= []}) ?_ (fun l pre x W I hN=>round l pre x W I hN) ?_ ?_)
 ·intro args W
  obtain ⟨h1,h2,h3⟩:=hft
  have hfe:(fn.name == "runtime.NumGoroutine")=false:=h2
  simp only [callFunc,Sem.run_bind,run_program,Result.andThen_ok,h1,hfe,h3,Bool.false_eq_true,if_false,Sem.run_pure]
 ·rintro c pre W W' row ⟨e,s',hc,hX,I⟩ hg hr
  exact ⟨e,s',hc,hX,Lp.grown hsz R.hr hBl (hfX _ _ _ hX) I hg hr⟩
 ·intro l x W K hK
  refine XI ho hgd ?_
  have e1:(#[p].zip #[enc x]).foldl (fun t (p,v)=>t.setIfInBounds p v) a.tmps=a.tmps.setIfInBounds p (enc x):=by simp
  rw [e1]
  have e2:Act.eval {tmps:=a.tmps.setIfInBounds p (enc x),defers:= []} (.tmp p)=enc x:=by
   have:=R.fr.size
   simp [Act.eval,Array.getD_eq_getD_getElem?,this,hp]
  rw [e2,hd]
  exact hK
 ·intro D xs W hD hS I hDe
  obtain ⟨⟨φ,hle2,H,ht2⟩,k,jx⟩:=I
  refine ⟨[D],φ,⟨fr0,(S xs).1,(S xs).2⟩,fun j L e=>hle2 j L (h0B j L e),⟨⟨(frB φ hle2).val,(frB φ hle2).size⟩, ?_,ht2, ?_,by simp [bT,R.ds]⟩,⟨by simp,fun D' hD'=>by simp only [List.mem_singleton] at hD';subst hD';exact ⟨by omega,hDe⟩⟩,hdone xs hS⟩
  ·exact jk H hDe
  ·exact qG k (by omega)
 ·rintro D c pre W hD hS ⟨e,s',hc,hX,I⟩ hDe
  obtain ⟨⟨φ,hle2,H,ht2⟩,k,jx⟩:=I
  have key:∀e,Q e ⟨fr0,s'.hp,s'.top⟩→TQ φ0 own sz ds w0 Q e {a with defers:= {target:= .collected D,args:= #[]} :: a.defers} W:=by
   intro e hQ
   refine ⟨[D],φ,⟨fr0,s'.hp,s'.top⟩,fun j L e=>hle2 j L (h0B j L e),⟨⟨(frB φ hle2).val,(frB φ hle2).size⟩, ?_,ht2, ?_,by simp [bT,R.ds]⟩,⟨by simp,fun D' hD'=>by simp only [List.mem_singleton] at hD';subst hD';exact ⟨by omega,hDe⟩⟩,hQ⟩
   ·exact jk H hDe
   ·exact qG k (by omega)
  rcases hc with ⟨rfl,rfl⟩ | ⟨id,rfl,rfl⟩
  ·exact wpIn_ret (key _ (hret pre s' hS hX))
  ·exact wpIn_exit (key _ (hexit pre s' id hS hX))
end Go.Dm
namespace Go.Dm
open Go.RowKit
def cY:Ren:=fun _=>none
def fL (fr:Bw):Prop:= ∀t v,Fx fr t=some v→Sc 0 v
structure Mem (T:World→Prop) (φT:Ren) (hpT:Hp) (topT:Nat):Prop where
 hr:∀W,T W→HR φT (fun b=>W.heap.size≤b) hpT W
 top:∀j,topT≤j→φT j=none
 stays:∀W W',T W→Below W.heap.size W W'→T W'
def fj (hpT:Hp):Bool→Hp
 |true=>fun _=>none
 |false=>hpT
section
variable {α:Type} (P:Program) (sz:Nat) (T:World→Prop) (J Jx:List α→World→Prop)
def JJ (g:List α×Bool)(w:World):Prop:=(g.2=false∧T w∧J g.1 w)∨(g.2=true∧Jx g.1 w)
def CE (c:Code)(fr:Bw)(g:List α×Bool)(Q:Exit→Bw→List α×Bool→Prop):Prop:=
 ∀a w,IB cY sz fr a→a.defers= []→JJ T J Jx g w→c.wpIn Fence.wide 2 P (fun x a' w'=> ∃fr' g',IB cY sz fr' a'∧a'.defers= []∧JJ T J Jx g' w'∧Q x fr' g') a w
def tW (c:Code)(Q:Exit→Bw→List α×Bool→Prop)(fr:Bw)(g:List α×Bool):Prop:=CE P sz T J Jx c fr g Q
end
def aK {α:Type}(K:Bw→List α×Bool→Prop)(Q:Exit→Bw→List α×Bool→Prop):Exit→Bw→List α×Bool→Prop
 | .normal,fr,g=>K fr g
 |x,fr,g=>Q x fr g
def UA {α:Type}(id:Nat)(Q:Exit→Bw→List α×Bool→Prop):Exit→Bw→List α×Bool→Prop
 | .exit j,fr,g=>if j=id then Q .normal fr g else Q (.exit j) fr g
 |x,fr,g=>Q x fr g
def L4 (fr' fr:Bw):Prop:= ∀t v,Fx fr' t=some v→Fx fr t=some v
theorem IB.We {φ:Ren}{sz:Nat}{fr fr':Bw}{a:Act}(h:IB φ sz fr a)(hs:L4 fr' fr):IB φ sz fr' a:=⟨fun t v e=>h.val t v (hs t v e),h.size⟩
theorem IB.none {φ:Ren}{sz top:Nat}{fr:Bw}{a:Act}(ht:∀j,top≤j→φ j=none)(h:IB φ sz fr a)(hs:fL fr):IB cY sz fr a:=by
 refine ⟨fun t v e=> ?_,h.size⟩
 have:=kR (top:=top) (hs t v e) (h.val t v e)
 have e2:φ.via (PL 0 top)=cY:=by funext j;exact LW ht (Nat.zero_le _)
 rw [e2] at this;exact this
def Ox:Bw→Bw→Prop
 | [],_=>True
 | (t,v,g) :: l,fr=>BJ fr t=some (v,g)∧Ox l fr
theorem L4.of:∀ {fr' fr:Bw},Ox fr' fr→L4 fr' fr
 | [],_,_,_,_,h=>by cases h
 | (j,x,g) :: l,fr,⟨h1,h2⟩,t,v,hv=>by
  simp only [Fx,BJ] at hv ⊢
  cases hb:Nat.beq j t with
  |true=>
   rw [hb] at hv
   have:=Nat.eq_of_beq_eq_true hb
   subst this
   rw [h1];exact hv
  |false=>rw [hb] at hv;exact L4.of h2 t v hv
def Ss:Bw→Prop
 | []=>True
 | (_,v,_) :: l=>Sc 0 v∧Ss l
theorem fL.of:∀ {fr:Bw},Ss fr→fL fr
 | [],_,_,_,h=>by cases h
 | (j,x,g) :: l,⟨h1,h2⟩,t,v,hv=>by
  simp only [Fx,BJ] at hv
  cases hb:Nat.beq j t with
  |true=>
   rw [hb] at hv
   cases hv
   cases g with
   |true=>exact h1
   |false=>simp [undef,Sc,G7]
  |false=>rw [hb] at hv;exact fL.of h2 t v hv
def Jg {α:Type}(Q:Exit→Bw→List α×Bool→Prop)(g:List α×Bool)(x:Exit)(s:SS):Prop:= ∃fr',L4 fr' s.fr∧fL fr'∧Q x fr' g
theorem Jg.mk {α:Type}{Q:Exit→Bw→List α×Bool→Prop}{g:List α×Bool}{x:Exit}{s:SS}(fr':Bw)(h1:Ox fr' s.fr)(h2:Ss fr')(h:Q x fr' g):Jg Q g x s:=⟨fr', .of h1, .of h2,h⟩
section
variable {α:Type} {P:Program} {sz topT:Nat} {T:World→Prop} {J Jx:List α→World→Prop} {φT:Ren} {hpT:Hp} {c c1 c2:Code} {fr:Bw} {g:List α×Bool} {Q:Exit→Bw→List α×Bool→Prop}
theorem JJ.below {B:Nat}(hJ:AbidesFrom B J)(hJx:AbidesFrom B Jx)(M:Mem T φT hpT topT){w w':World}(h:JJ T J Jx g w)(hb:Below w.heap.size w w'):JJ T J Jx g w':=by
 have hg:w.grownBy w' none:=⟨hb.os,hb.tape,hb.output,hb.size,fun k hk _=>hb.block k hk⟩
 rcases h with ⟨h1,h2,h3⟩ | ⟨h1,h3⟩
 ·exact .inl ⟨h1,M.stays w w' h2 hb,hJ _ _ _ none h3 hg (fun r e=>by cases e)⟩
 ·exact .inr ⟨h1,hJx _ _ _ none h3 hg (fun r e=>by cases e)⟩
theorem CE.of (M:Mem T φT hpT topT){B:Nat}(hJ:AbidesFrom B J)(hJx:AbidesFrom B Jx)(h:CW P sz topT c ⟨fr,fj hpT g.2,topT⟩ (Jg Q g)):CE P sz T J Jx c fr g Q:=by
 intro a w hfr hd hj
 have S:∃φ:Ren,(∀j,topT≤j→φ j=none)∧HF φ (fun b=>w.heap.size≤b) sz [] w ⟨fr,fj hpT g.2,topT⟩ a w:=by
  rcases hj with ⟨h1,h2,_⟩ | ⟨h1,_⟩
  ·rw [h1]
   exact ⟨φT,M.top,hfr.mono (fun j L e=>by cases e),M.hr w h2,M.top,K.refl _ _,hd⟩
  ·rw [h1]
   exact ⟨cY,fun _ _=>rfl,hfr,⟨fun i o e=>(by cases e),fun i j oi oj Li Lj e=>(by cases e),fun i o L e=>(by cases e),fun i L e=>(by cases e),fun b hb=>hb⟩,fun _ _=>rfl,K.refl _ _,hd⟩
 obtain ⟨φ,hφ,S⟩:=S
 refine wpIn_wide.2 (wp_mono (h φ φ _ _ w a w hφ (Ren.le_refl _) S).wp ?_)
 rintro x a' w' ⟨_,φ',s',h1,h2,fr',h3,h4,h5⟩
 exact ⟨fr',g,IB.none h2.top (h2.fr.We h3) h4,h2.ds,hj.below hJ hJx M h2.k.below,h5⟩
theorem CE.seq (h:CE P sz T J Jx c1 fr g (aK (tW P sz T J Jx c2 Q) Q)):CE P sz T J Jx (.seq c1 c2) fr g Q:=by
 intro a w hfr hd hj
 refine wpIn_seq (wpIn_mono (h a w hfr hd hj) ?_)
 rintro x a' w' ⟨fr',g',h1,h2,h3,h4⟩
 cases x with
 |normal=>exact h4 a' w' h1 h2 h3
 |_=>exact ⟨fr',g',h1,h2,h3,h4⟩
theorem CE.block {id:Nat}(h:CE P sz T J Jx c fr g (UA id Q)):CE P sz T J Jx (.block id c) fr g Q:=by
 intro a w hfr hd hj
 refine wpIn_block (wpIn_mono (h a w hfr hd hj) ?_)
 rintro x a' w' ⟨fr',g',h1,h2,h3,h4⟩
 cases x with
 |exit j=>
  simp only [UA] at h4
  simp only [Exit.inBlock]
  split
  ·rename_i hj;rw [if_pos hj] at h4;exact ⟨fr',g',h1,h2,h3,h4⟩
  ·rename_i hj;rw [if_neg hj] at h4;exact ⟨fr',g',h1,h2,h3,h4⟩
 |_=>exact ⟨fr',g',h1,h2,h3,h4⟩
theorem CE.cond {x:Operand}{b:Bool}(hx:Bt fr x=(.bool b,true))(h:CE P sz T J Jx (if b then c1 else c2) fr g Q):CE P sz T J Jx (.cond x c1 c2) fr g Q:=by
 intro a w hfr hd hj
 have hv:=hfr.EG x _ (BC (by rw [hx]))
 rw [hx] at hv
 exact wpIn_cond hv.EC (by cases b <;> exact h a w hfr hd hj)
theorem CE.loop {β:Type}(Fm:β→Bw×(List α×Bool))(I:β→Prop)(μ:β→Nat)(x0:β)(h0:I x0)(hs:L4 (Fm x0).1 fr)(hg:g=(Fm x0).2)
  (h:∀x,I x→CE P sz T J Jx c (Fm x).1 (Fm x).2 (aK (fun fr' g'=> ∃y,I y∧μ y < μ x∧L4 (Fm y).1 fr'∧g' = (Fm y).2) Q)):CE P sz T J Jx (.loop c) fr g Q:=by
 intro a w hfr hd hj
 have key:∀(m:Nat) (x:β) (a:Act) (w:World),I x→μ x≤m→IB cY sz (Fm x).1 a→a.defers= []→JJ T J Jx (Fm x).2 w→
   Code.roundsIn Fence.wide 2 P c (fun x a' w'=> ∃fr' g',IB cY sz fr' a'∧a'.defers= []∧JJ T J Jx g' w'∧Q x fr' g') (m+1) a w:=by
  intro m
  induction m with
  |zero=>
   intro x a w hI hm hfr hd hj
   rw [roundsIn_succ]
   refine wpIn_mono (h x hI a w hfr hd hj) ?_
   rintro e a' w' ⟨fr',g',h1,h2,h3,h4⟩
   cases e with
   |normal=>obtain ⟨y,_,hlt,_⟩:=h4;omega
   |_=>exact ⟨fr',g',h1,h2,h3,h4⟩
  |succ m ih=>
   intro x a w hI hm hfr hd hj
   rw [roundsIn_succ]
   refine wpIn_mono (h x hI a w hfr hd hj) ?_
   rintro e a' w' ⟨fr',g',h1,h2,h3,h4⟩
   cases e with
   |normal=>obtain ⟨y,hy,hlt,h5,rfl⟩:=h4;exact ih y a' w' hy (by omega) (h1.We h5) h2 h3
   |_=>exact ⟨fr',g',h1,h2,h3,h4⟩
 exact wpIn_loop_rounds (μ x0+1) (key (μ x0) x0 a w h0 (Nat.le_refl _) (hfr.We hs) hd (hg ▸ hj))
theorem gh {n:Nat}{o:Oper}{a:Act}{w:World}{K K':Act→World→Prop}{Q Q':Exit→Act→World→Prop}(h:o.wp P a w K Q)(hk:∀a w,K a w→K' a w)(hq:∀e a w,Q e a w→Q' e a w):o.wpIn Fence.wide n P a w K' Q':=by
 refine ⟨fun _ _=>trivial, ?_⟩
 show o.uponIn Fence.wide n P a K' Q' ((execOp a.eval o).run P w)
 unfold Oper.wp at h
 generalize (execOp a.eval o).run P w=r at h ⊢
 have hdep:(Fence.wide.depth.isSome=true→1≤n):=fun e=>by cases e
 unfold Oper.upon at h
 unfold Oper.uponIn
 split at h
 ·exact hk _ _ h
 ·exact hk _ _ h
 ·exact hk _ _ h
 ·refine ⟨hdep, ?_⟩
  refine (callsIn_wide.2 h).mono ?_
  intro e w'' hh
  cases e with
  |returned v=>exact hk _ _ hh
  |panicked c=>exact hq _ _ _ hh
  |outgrown=>exact hh.imp fun a h=>h.imp fun w h=>hq _ _ _ h
 ·refine ⟨hdep, ?_⟩
  exact Sk (l:=0) h fun v w h=>hk _ _ h
 ·exact hq _ _ _ h
 ·exact h.elim
theorem Vq {tt:Aa}{G:FuncId→BO}(E:B9 P tt G){all:Array Oper}(hd:∀(j:Nat) (p:Oper) d,all[j]? = some p→p.dst=some d→d < sz){KK:SS→Prop}{Q:Exit→Act→World→Prop} :
  ∀(m i:Nat) (st:SS),i+m≤all.size→QA tt G all.toList ((all.toList.drop i).take m) st KK→∀(φ:Ren) (own:Nat→Prop) ds w0 a w,HF φ own sz ds w0 st a w→
   Ug φ own sz ds w0 KK (fun a' w'=>wpOpsIn Fence.wide 2 P all Q (List.range' (i+m) (all.size - (i+m))) a' w')→wpOpsIn Fence.wide 2 P all Q (List.range' i (all.size - i)) a w:=by
 intro m
 induction m with
 |zero=>
  intro i st hi h φ own ds w0 a w S hQ
  rw [List.take_zero] at h
  exact hQ φ st a w (Ren.le_refl _) S h
 |succ m ih=>
  intro i st hi h φ own ds w0 a w S hQ
  have hlt:i < all.toList.length:=by simp;omega
  rw [List.drop_eq_getElem_cons hlt,List.take_succ_cons] at h
  have ho:all[i]? = some all.toList[i]:=by simp
  obtain ⟨h1,h2⟩:=h
  have hr:List.range' i (all.size - i)=i :: List.range' (i+1) (all.size - (i+1)):=by
   have:all.size - i=(all.size - (i+1))+1:=by omega
   rw [this,List.range'_succ]
  rw [hr]
  simp only [wpOpsIn,ho]
  rw [Ch (all:=all) S.fr.size hd S.fr.Ro (ID h1)]
  have:=SL E (K:=fun a' w'=>wpOpsIn Fence.wide 2 P all Q (List.range' (i+1) (all.size - (i+1))) a' w') (Q:=fun _ _ _=>False) (fun d e=>hd i _ d ho e) S (fun φ' st' a' w' hle S' hk=>
   ih (i+1) st' (by omega) hk φ' own ds w0 a' w' S' fun φ2 st2 a2 w2 hle2 S2 hk2=>by
    have:=hQ φ2 st2 a2 w2 (Ren.le_trans hle hle2) S2 hk2
    rw [show i+1+m=i+(m+1) from by omega];exact this) h2
  split
  ·rename_i hg;rw [if_pos hg] at this;exact gh this (fun _ _ h=>h) (fun _ _ _ h=>h.elim)
  ·rename_i hg;rw [if_neg hg] at this;exact ⟨fun _ _=>trivial,this⟩
def YR {α:Type}(Q:Exit→Bw→List α×Bool→Prop)(g:List α×Bool)(st:SS):Prop:= ∃fr',L4 fr' st.fr∧fL fr'∧Q .normal fr' g
def YK {α:Type}(tt:Aa)(G:FuncId→BO)(hpT:Hp)(topT l d:Nat)(f x:Operand)(enc:α→Value)(all rest:List Oper)(pre:List α)(Q:Exit→Bw→List α×Bool→Prop)(st:SS):Prop:=
 ∃(y:α) (fr':Bw),L4 fr' st.fr∧fL fr'∧Bt fr' x=(enc y,true)∧Bt fr' f=(.func (.yield l) ⟨[]⟩ ⟨[]⟩,true)∧
  ∀b:Bool,QA tt G all rest ⟨(d, .bool b,true) :: fr',fj hpT (!b),topT⟩ (YR Q (pre ++ [y], !b))
theorem NT {l:Nat}{o:Oper}{f:Operand}{aa:Array Operand}{ats:Array TypeId}{a:Act}{w:World}(ho:o.op= .call {callee:= .value f,args:=aa,argTypes:=ats})(hf:a.eval f= .func (.yield l) #[] #[]) :
  (execOp a.eval o).run P w=(Instr.yield l (aa.map a.eval)).run P w:=by
 simp only [execOp,ho,resolve,hf,Deferred.ofValue,Sem.run_bind,Sem.run_pure,Result.andThen_ok,invoke]
 simp
theorem CE.oH {tt:Aa}{G:FuncId→BO}(E:B9 P tt G)(M:Mem T φT hpT topT){B:Nat}(hJ:AbidesFrom B J)(hJx:AbidesFrom B Jx){id m l d N:Nat}{ops:Array Oper}{o:Oper}{f x:Operand}{ats:Array TypeId}{enc:α→Value}{pre:List α}
  (hdst:G8 sz ops=true) (hm:ops[m]? = some o) (ho:o.op= .call {callee:= .value f,args:= #[x],argTypes:=ats}) (hgd:o.guard=none) (hod:o.dst=some d) (hpl:∀y,plain 3 (enc y)=true)
  (hY:∀pre y W1,J pre W1→pre.length < N→YieldAt Fence.wide 1 P l #[enc y] W1 fun e W'=>(e= .returned (.bool true)∧J (pre ++ [y]) W'∧(T W1→T W'))∨(e= .returned (.bool false)∧Jx (pre ++ [y]) W'))
  (hlen:pre.length < N)
  (h:QA tt G ops.toList (ops.toList.take m) ⟨fr,hpT,topT⟩ (YK tt G hpT topT l d f x enc ops.toList (ops.toList.drop (m+1)) pre Q)):CE P sz T J Jx (.region id ops false) fr (pre,false) Q:=by
 intro a w hfr hdf hj
 obtain ⟨hT,hJ0⟩:T w∧J pre w:=by
  rcases hj with ⟨_,a,b⟩ | ⟨h1,_⟩
  ·exact ⟨a,b⟩
  ·cases h1
 have hms:m < ops.size:=by
  rcases Nat.lt_or_ge m ops.size with h | h
  ·exact h
  ·rw [Array.getElem?_eq_none h] at hm;cases hm
 have S:HF φT (fun b=>w.heap.size≤b) sz [] w ⟨fr,hpT,topT⟩ a w:=⟨hfr.mono (fun j L e=>by cases e),M.hr w hT,M.top,K.refl _ _,hdf⟩
 refine wpIn_region ?_
 have hr0:List.range ops.size=List.range' 0 (ops.size - 0):=by rw [List.range_eq_range',Nat.sub_zero]
 rw [hr0]
 refine Vq E (DL hdst) m 0 _ (by omega) (by rw [List.drop_zero];exact h) _ _ _ _ _ _ S ?_
 intro φ1 st1 a1 w1 hle1 S1 hk1
 obtain ⟨y,fr',g1,g2,g3,g4,g5⟩:=hk1
 have F1:IB cY sz fr' a1:=IB.none S1.top (S1.fr.We g1) g2
 have j1:JJ T J Jx (pre,false) w1:=JJ.below hJ hJx M (.inl ⟨rfl,hT,hJ0⟩) S1.k.below
 rw [Nat.zero_add]
 have hr:List.range' m (ops.size - m)=m :: List.range' (m+1) (ops.size - (m+1)):=by
  have:ops.size - m=(ops.size - (m+1))+1:=by omega
  rw [this,List.range'_succ]
 rw [hr]
 have hw:Region.wanted o (yielded ops a1.tmps)=true:=by simp [Region.wanted,hgd]
 simp only [wpOpsIn,hm,hw,if_true]
 have ex:a1.eval x=enc y:=by
  have hv:=F1.EG x _ (BC (by rw [g3]))
  rw [g3] at hv
  exact Mj 3 (hpl y) hv
 have ef:a1.eval f= .func (.yield l) #[] #[]:=by
  have hv:=F1.EG f _ (BC (by rw [g4]))
  rw [g4] at hv
  generalize a1.eval f=fv at hv
  cases hv with
  |func _ _ p1 _ p2 q1 q2=>cases q1;cases q2;rfl
 obtain ⟨_,hT1,hJ1⟩:(pre,false).2=false∧T w1∧J pre w1:=by
  rcases j1 with h | ⟨h,_⟩
  ·exact h
  ·cases h
 obtain ⟨fn,tmps,assign,body,hrun,hround⟩:=hY pre y w1 hJ1 hlen
 refine ⟨fun _ _=>trivial, ?_⟩
 show o.uponIn Fence.wide 2 P a1 _ _ ((execOp a1.eval o).run P w1)
 rw [NT ho ef]
 have e1:(#[x] :Array Operand).map a1.eval= #[enc y]:=by simp [ex]
 rw [e1,hrun,Oper.uponIn_round]
 refine ⟨fun e=>by (cases e), ?_⟩
 refine hround.mono ?_
 have fin:∀(b:Bool) (W':World),JJ T J Jx (pre ++ [y], !b) W'→wpOpsIn Fence.wide 2 P ops (fun x a' w'=> ∃fr' g',IB cY sz fr' a'∧a'.defers= []∧JJ T J Jx g' w'∧Q x fr' g') (List.range' (m+1) (ops.size - (m+1))) (a1.put o.dst (.bool b)) W':=by
  intro b W' hj2
  have F2:IB cY sz ((d, .bool b,true) :: fr') (a1.put o.dst (.bool b)):=by
   rw [hod]
   exact F1.put (dst:=some d) (g:=true) (fun d' e=>by cases e;exact DL hdst m o d hm hod) (.bool b)
  have hds:(a1.put o.dst (.bool b)).defers= []:=by rw [Act.BM];exact S1.ds
  have S2:∃φ:Ren,HF φ (fun b=>W'.heap.size≤b) sz [] W' ⟨(d, .bool b,true) :: fr',fj hpT (!b),topT⟩ (a1.put o.dst (.bool b)) W':=by
   rcases hj2 with ⟨h1,h2,_⟩ | ⟨h1,_⟩
   ·have h1':(!b)=false:=h1
    rw [h1']
    exact ⟨φT,F2.mono (fun j L e=>by cases e),M.hr _ h2,M.top,K.refl _ _,hds⟩
   ·have h1':(!b)=true:=h1
    rw [h1']
    exact ⟨cY,F2,⟨fun i o e=>(by cases e),fun i j oi oj Li Lj e=>(by cases e),fun i o L e=>(by cases e),fun i L e=>(by cases e),fun b hb=>hb⟩,fun _ _=>rfl,K.refl _ _,hds⟩
  obtain ⟨φ2,S2⟩:=S2
  refine Vq E (DL hdst) (ops.size - (m+1)) (m+1) _ (by omega) (by rw [List.take_of_length_le (by simp)];exact g5 b) _ _ _ _ _ _ S2 ?_
  rintro φ3 st3 a3 w3 hle3 S3 ⟨fr3,k1,k2,k3⟩
  have:ops.size - (m+1+(ops.size - (m+1)))=0:=by omega
  rw [this]
  exact ⟨fr3,_,IB.none S3.top (S3.fr.We k1) k2,S3.ds,JJ.below hJ hJx M hj2 S3.k.below,k3⟩
 rintro e W' (⟨rfl,h1,h2⟩ | ⟨rfl,h1⟩)
 ·exact fin true W' (.inl ⟨rfl,h2 hT1,h1⟩)
 ·exact fin false W' (.inr ⟨rfl,h1⟩)
def pU {α:Type}(Sd Sp:List α→Prop)(x:Exit)(_:Bw)(g:List α×Bool):Prop:=(x= .normal∨x= .ret)∧((g.2=false∧Sd g.1)∨(g.2=true∧Sp g.1))
def Rb (hpT:Hp)(topT:Nat)(vs:List Value):Hp:=fun i=>if i=topT then some (.cells false 0 vs) else hpT i
theorem Rw {gf:FuncId}{fn:Func}(F:Av P gf fn){c0:Code}(hc:fn.body=some (.seq c0 c1))(hsz:fn.ntmps=sz)(hsz2:2≤sz)(hres:fn.results= #[])(M:Mem T φT hpT topT)(hro:∀i o,hpT i=some o→o.rw=false)
  {enc:α→Value} {Sd Sp:List α→Prop} {N:Nat} {w:World} {bk off:Nat} {vs:List Value} {cc:Array Value} {ct:TypeId} {cf:Nat×Nat} (hT:T w) (hb:w.heap[bk]? = some (.cells cc ct cf)) (hlen:off+vs.length≤cc.size) (hvs:(cc.toList.drop off).take vs.length=vs) (hpv:∀v∈vs,plain 3 v=true)
  (h0:∀l,CW P sz (topT+1) c0 ⟨[(0, .func (.yield l) ⟨[]⟩ ⟨[]⟩,true),(1, .pointer (some ⟨topT,0,none⟩),true)],Rb hpT topT vs,topT+1⟩ (fun x s'=>x= .normal∧∃fr',L4 fr' s'.fr∧fL fr'∧
   ∀(J Jx:List α→World→Prop) (B:Nat),AbidesFrom B J→AbidesFrom B Jx→(∀pre y W1,J pre W1→pre.length < N→YieldAt Fence.wide 1 P l #[enc y] W1 fun e W'=>(e= .returned (.bool true)∧J (pre ++ [y]) W'∧(T W1→T W'))∨(e= .returned (.bool false)∧Jx (pre ++ [y]) W'))→
    CE P sz T J Jx c1 fr' ([],false) (pU Sd Sp))) :
  SeqStopsK Fence.wide 2 P gf #[.pointer (some ⟨bk,off,none⟩)] (fun y=> #[enc y]) (fun A B=>T A→T B) Sd Sp N w:=by
 intro l J Jx W hW hJ hJx hY hJ0
 have hTW:T W:=M.stays _ _ hT hW
 have hblt:bk < w.heap.size:=(Array.getElem?_eq_some_iff.1 hb).1
 have hbW:W.heap[bk]? = some (.cells cc ct cf):=by rw [hW.block bk hblt];exact hb
 refine callsIn_of_wp F.at_ hc trivial ?_ rfl
 rw [hsz]
 obtain ⟨a,ha⟩:∃a:Act,a= {tmps:=(#[.func (.yield l) #[] #[]] ++ #[.pointer (some ⟨bk,off,none⟩)]) ++ Array.replicate (sz - (#[.func (.yield l) #[] #[]] ++ #[.pointer (some ⟨bk,off,none⟩)] :Array Value).size) undef,defers:= []}:=⟨_,rfl⟩
 rw [←ha]
 obtain ⟨φ0,hφ0⟩:∃φ0,φ0=φT.ext topT ⟨bk,off,0,cc.size⟩:=⟨_,rfl⟩
 have hle:φT.le φ0:=by rw [hφ0];exact Ren.Dc (M.top _ (Nat.le_refl _))
 have hself:φ0 topT=some ⟨bk,off,0,cc.size⟩:=by rw [hφ0];exact Ren.A8 ..
 have hoth:∀j,j≠topT→φ0 j=φT j:=fun j hj=>by rw [hφ0];simp [Ren.ext,hj]
 have HT:=M.hr W hTW
 have hrwB:∀i o,Rb hpT topT vs i=some o→o.rw=false:=by
  intro i o e
  unfold Rb at e
  split at e
  ·cases e;rfl
  ·exact hro i o e
 have H0:HR φ0 (fun b=>W.heap.size≤b) (Rb hpT topT vs) W:=by
  refine ⟨?_,fun i j oi oj Li Lj hi hj hne hrw=>(by rw [hrwB i oi hi] at hrw;cases hrw),fun i o L hi hrw=>(by rw [hrwB i o hi] at hrw;cases hrw), ?_,fun b hb=>hb⟩
  ·intro i o e
   unfold Rb at e
   split at e
   ·rename_i hi
    subst hi
    cases e
    refine ⟨_,hself,rfl,cc,ct,cf,hbW,rfl,hlen, ?_,⟨fun e=>(by cases e),(fun _ h=>absurd h (by unfold BQ;omega)),fun e=>(by cases e)⟩⟩
    rw [hvs]
    exact Vs.Gv fun v hv=>Ce _ _ (hpv v hv)
   ·obtain ⟨L,h1,h2⟩:=HT.obj i o e
    exact ⟨L,hle _ _ h1,h2.mono hle⟩
  ·intro i L e
   by_cases hi:i=topT
   ·subst hi
    rw [hself] at e;cases e
    exact Nat.lt_of_lt_of_le hblt hW.size
   ·rw [hoth i hi] at e;exact HT.val i L e
 have htop0:∀j,topT+1≤j→φ0 j=none:=fun j hj=>by rw [hoth j (by omega)];exact M.top j (by omega)
 have hasz:a.tmps.size=sz:=by rw [ha];simp;omega
 have S:HF φ0 (fun b=>W.heap.size≤b) sz [] W ⟨[(0, .func (.yield l) ⟨[]⟩ ⟨[]⟩,true),(1, .pointer (some ⟨topT,0,none⟩),true)],Rb hpT topT vs,topT+1⟩ a W:=by
  refine ⟨⟨?_,hasz⟩,H0,htop0,K.refl _ _,by rw [ha]⟩
  intro t v e
  simp only [Fx,BJ] at e
  by_cases h0:t=0
  ·subst h0
   simp at e
   subst e
   have:a.tmps.getD 0 undef= .func (.yield l) #[] #[]:=by rw [ha];simp [Array.getD_eq_getD_getElem?,Array.getElem?_append]
   rw [this]
   exact .func _ _ _ _ _ .nil .nil
  ·by_cases h1:t=1
   ·subst h1
    simp at e
    subst e
    have:a.tmps.getD 1 undef= .pointer (some ⟨bk,off+0,none⟩):=by rw [ha];simp [Array.getD_eq_getD_getElem?,Array.getElem?_append]
    rw [this]
    exact .ptr topT 0 ⟨bk,off,0,cc.size⟩ hself
   ·have g0:Nat.beq 0 t=false:=by
     cases h:Nat.beq 0 t with
     |false=>rfl
     |true=>exact absurd (Nat.eq_of_beq_eq_true h).symm h0
    have g1:Nat.beq 1 t=false:=by
     cases h:Nat.beq 1 t with
     |false=>rfl
     |true=>exact absurd (Nat.eq_of_beq_eq_true h).symm h1
    rw [g0,g1] at e
    cases e
 refine wpIn_seq (wpIn_mono (wpIn_wide.2 (h0 l φ0 φ0 _ _ W a W htop0 (Ren.le_refl _) S).wp) ?_)
 rintro x a' w' ⟨_,φ',s',h1,h2,rfl,fr',h3,h4,h5⟩
 have hbel:=h2.k.below
 have hj:JJ T J Jx ([],false) w':=JJ.below hJ hJx M (.inl ⟨rfl,hTW,hJ0⟩) hbel
 refine wpIn_mono (h5 J Jx _ hJ hJx hY a' w' (IB.none h2.top (h2.fr.We h3) h4) h2.ds hj) ?_
 rintro x2 a2 w2 ⟨fr2,g2,k1,k2,k3,k4,k5⟩
 have hend:(∃xs,Sd xs∧J xs w2)∨(∃pre,Sp pre∧Jx pre w2):=by
  rcases k5 with ⟨e1,e2⟩ | ⟨e1,e2⟩
  ·rcases k3 with ⟨_,_,h⟩ | ⟨h,_⟩
   ·exact .inl ⟨_,e2,h⟩
   ·rw [e1] at h;cases h
  ·rcases k3 with ⟨h,_⟩ | ⟨_,h⟩
   ·rw [e1] at h;cases h
   ·exact .inr ⟨_,e2,h⟩
 have fin:a2.defers= []∧∃v,(results fn a2.tmps).run P w2= .ok v w2∧((∃v',Ending.returned v= .returned v')∧((∃xs,Sd xs∧J xs w2)∨(∃pre,Sp pre∧Jx pre w2))):=⟨k2,_,results_none hres _ _ _,⟨_,rfl⟩,hend⟩
 rcases k4 with rfl | rfl
 ·exact fin
 ·exact fin
end
end Go.Dm
namespace Go.Dm
def bytesOf (l:List Int):List UInt8:=l.map fun n=>UInt8.ofNat n.toNat
theorem Jv {tt:Aa}{hp:Hp}{s e d:TypeId}{b o n c:Nat}{rw:Bool}{z:Nat}{vs:List Value}{l:List Int}(hs:kindOf tt s=some (.slice e))(he:kindOf tt e=some (.int .u8))(hd:kindOf tt d=some .string)
  (hb:hp b=some (.cells rw z vs)) (hv:(vs.drop o).take n=l.map (Value.int .u8)) (hn:o+n≤vs.length):B0 tt hp s d (.slice (some ⟨b,o,none⟩) n c)=(.string ⟨⟨bytesOf l⟩⟩,True):=by
 obtain ⟨i,hi,h1⟩:=Al hs
 obtain ⟨j,hj,h2⟩:=Al he
 obtain ⟨k,hk,h3⟩:=Al hd
 have h:Fj tt hp s d (.slice (some ⟨b,o,none⟩) n c)=some (.string ⟨⟨bytesOf l⟩⟩):=by
  simp only [Fj,hi,hk,h1,h3,hj,h2,hb,Nat.ble_eq_true_of_le hn,hv,XG];rfl
 unfold B0
 simp only [hs,h]
theorem S8 {tt:Aa}{hp:Hp}{s e d:TypeId}{c:Nat}(hs:kindOf tt s=some (.slice e))(he:kindOf tt e=some (.int .u8))(hd:kindOf tt d=some .string):B0 tt hp s d (.slice none c c)=(.string ⟨⟨[]⟩⟩,True):=by
 obtain ⟨i,hi,h1⟩:=Al hs
 obtain ⟨j,hj,h2⟩:=Al he
 obtain ⟨k,hk,h3⟩:=Al hd
 have h:Fj tt hp s d (.slice none c c)=some (.string ⟨⟨[]⟩⟩):=by
  simp only [Fj,hi,hk,h1,h3,hj,h2];rfl
 unfold B0
 simp only [hs,h]
theorem TM {tt:Aa}{hp:Hp}{s e d:TypeId}{a:Addr}(hs:kindOf tt s=some (.slice e))(he:kindOf tt e=some (.int .u8))(hd:kindOf tt d=some .string)(ha:a=⟨0,0,some 0⟩){c:Nat}:B0 tt hp s d (.slice (some a) 0 c)=(.string ⟨⟨[]⟩⟩,True):=by
 subst ha
 obtain ⟨i,hi,h1⟩:=Al hs
 obtain ⟨j,hj,h2⟩:=Al he
 obtain ⟨k,hk,h3⟩:=Al hd
 have h:Fj tt hp s d (.slice (some ⟨0,0,some 0⟩) 0 c)=some (.string ⟨⟨[]⟩⟩):=by
  simp only [Fj,hi,hk,h1,h3,hj,h2];rfl
 unfold B0
 simp only [hs,h]
theorem Br.conv {tt:Aa}{hp:Hp}{v:Value}{l:List Int}{s e d:TypeId}{E:Ax Int}(hE:∀a,E.enc a= [.int .u8 a])(hs:kindOf tt s=some (.slice e))(he:kindOf tt e=some (.int .u8))(hd:kindOf tt d=some .string)
  (h:Br E hp v l):B0 tt hp s d v=(.string ⟨⟨bytesOf l⟩⟩,True):=by
 cases h with
 |nils=>exact S8 hs he hd
 |emp=>exact TM hs he hd rfl
 |rows b o c rw vs l hb hv ho hc hn=>
  have hz:E.size=1:=by have:=E.len 0;rw [hE] at this;simpa using this.symm
  rw [hz,Nat.mul_one] at hv ho
  refine Jv hs he hd hb (hv.trans ?_) ho
  clear hv hb ho hc hn
  induction l with
  |nil=>rfl
  |cons a l ih=>rw [Ax.CS,ih,hE];rfl
end Go.Dm
