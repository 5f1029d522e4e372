/- The abstract machine, a part of it: operations, regions, code and calls run over values with named blocks; each step is shown of the real run. -/
import Derived.Test.YthlhnangbinhoaaGreatDoorDmC
import Derived.Orders
import Derived.LoopN
import Derived.Scope
import Derived.Below
import Derived.RowKit3
import Derived.KernelRfl
import GoSem.Op.Equal
set_option linter.unusedVariables false
namespace Go.Dm
structure St where
 fr:T Value
 hp:T A8
 top:Nat
structure FR (φ:Ren) (sz:Nat) (fr:T Value) (a:Act):Prop where
 val:∀t v,fr.get t=some v→V φ v (a.tmps.getD t undef)
 size:a.tmps.size=sz
theorem FR.ev {φ:Ren}{sz:Nat}{fr:T Value}{a:Act}(h:FR φ sz fr a):∀x v,evA fr x=some v→V φ v (a.eval x):=by
 intro x v hv
 cases x with
 |tmp t=>exact h.val t v hv
 |const u=>
  simp only [evA] at hv
  split at hv
  ·rename_i hp;cases hv;exact DG _ _ hp
  ·cases hv
 |global g=>cases hv
 |func f=>cases hv;exact .func _ _ _ _ _ .nil .nil
def Gg (ev:Operand→Option Value)(all:List Oper)(g:Option (Nat×Bool)):Option Bool:=
 match g with
 |none=>some true
 |some (j,want)=>match all[j]? with
  |none=>some false
  |some o=>match o.dst with
   |none=>some false
   |some d=>match ev (.tmp d) with
    |some (.bool b)=>some (b == want)
    |some (.tuple _)=>some false
    |_=>none
theorem MP {φ:Ren}{ev:Operand→Option Value}{all:Array Oper}{o:Oper}{a:Act}{b:Bool}{sz:Nat}(hsz:a.tmps.size=sz)(hd:∀(j:Nat) (p:Oper) d,all[j]? = some p→p.dst=some d→d < sz)
  (hev:∀x v,ev x=some v→V φ v (a.eval x)) (h:Gg ev all.toList o.guard=some b):Region.wanted o (yielded all a.tmps)=b:=by
 unfold Gg at h
 unfold Region.wanted
 split at h
 ·rename_i hg;cases h;rw [hg]
 ·rename_i j want hg
  rw [hg]
  dsimp only
  unfold yielded
  split at h
  ·rename_i hj
   cases h
   have:all[j]? = none:=by simpa using hj
   rw [this];rfl
  ·rename_i p hj
   have hj':all[j]? = some p:=by simpa using hj
   rw [hj']
   split at h
   ·rename_i hd0;cases h;simp [hd0]
   ·rename_i d hd0
    have hlt:=hd j p d hj' hd0
    have hget:a.tmps[d]? = some (a.tmps.getD d undef):=by
     simp [Array.getD_eq_getD_getElem?,hsz,hlt]
    simp only [Option.bind_some,hd0,hget]
    split at h
    ·rename_i b' hb
     cases h
     have hv:=hev _ _ hb
     have e:a.eval (.tmp d)=a.tmps.getD d undef:=rfl
     rw [e] at hv
     rw [hv.ID]
     cases b' <;> cases want <;> rfl
    ·rename_i l hb
     cases h
     have hv:=hev _ _ hb
     have e:a.eval (.tmp d)=a.tmps.getD d undef:=rfl
     rw [e] at hv
     generalize a.tmps.getD d undef=rv at hv ⊢
     cases hv with
     |tuple _ l' _=>rfl
    ·cases h
structure SR(φ:Ren)(own:Nat→Prop)(sz:Nat)(ds:List Deferred)(w0:World)(st:St)(a:Act)(w:World):Prop where
 fr:FR φ sz st.fr a
 hr:HR φ own st.hp.get w
 top:∀j,st.top≤j→φ j=none
 k:K own w0 w
 ds:a.defers=ds
structure Env(P:Program)(tt:AM)(cl:Callee):Prop where
 types:Cy P tt
 calls:tN P cl
 AFO:∀f args hp top r,cl f args hp top=some r→∃fn,FTOk P f fn
theorem Act.Bf(a:Act)(d:Option Tmp)(v:Value):(a.put d v).defers=a.defers:=by cases d <;> rfl
theorem tq {P:Program}{tt:AM}(htt:Cy P tt){φ:Ren}{own:Nat→Prop}{hp:Hp}{w:World}(H:HR φ own hp w){ev:Operand→Option Value}{a:Act}
  (hev:∀x v,ev x=some v→V φ v (a.eval x)) {o:Oper} {v:Value} (h:DR tt ev hp o.op=some v) {K:Act→World→Prop} {Q:Exit→Act→World→Prop}
  (hK:∀v',V φ v v'→K (a.put o.dst v') w):o.wp P a w K Q:=by
 obtain ⟨v',h1,h2⟩:=nL htt H hev h
 unfold Oper.wp
 rw [h1]
 exact hK v' h2
end Go.Dm
namespace Go.Dm
inductive XR where
 |norm
 |exit(id:Nat)
 |ret
def XR.to:XR→Exit
 | .norm=> .normal
 | .exit id=> .exit id
 | .ret=> .ret
def RF(ops:Array Oper):Bool:=ops.toList.all fun o=>match o.op with
 | .defer _=>false
 |_=>true
def LS (sz:Nat)(ops:Array Oper):Bool:=RF ops && ops.toList.all fun o=>match o.dst with
 |none=>true
 |some d=>Nat.ble (d+1) sz
theorem Jy{sz:Nat}{ops:Array Oper}(h:LS sz ops=true):RF ops=true:=by
 unfold LS at h
 rw[Bool.and_eq_true]at h
 exact h.1
theorem L5 {sz:Nat}{ops:Array Oper}(h:LS sz ops=true)(j:Nat)(p:Oper)(d:Nat)(hp:ops[j]? = some p)(hd:p.dst=some d):d < sz:=by
 unfold LS at h
 rw [Bool.and_eq_true] at h
 have h:=h.2
 rw [List.all_eq_true] at h
 have:=h p (Array.mem_toList_iff.2 (Array.mem_of_getElem? hp))
 rw [hd] at this
 exact Nat.le_of_ble_eq_true this
def codeOk(sz:Nat):Code→Bool
 | .region _ ops _=>LS sz ops
 | .seq a b=>codeOk sz a && codeOk sz b
 | .cond _ a b=>codeOk sz a && codeOk sz b
 | .block _ b=>codeOk sz b
 | .loop b=>codeOk sz b
 | .rangeFunc _ _ a b=>codeOk sz a && codeOk sz b
 | .scope b=>codeOk sz b
 |_=>true
def Kf:List Value→Value
 | [v]=>v
 |vs=> .tuple ⟨vs⟩
structure BU(P:Program)(f:FuncId)(fn:Func):Prop extends FTOk P f fn where
 code:∀c,fn.body=some c→codeOk fn.ntmps c=true
def RR (tmps:Array Value):ResultVar→Sem Value
 | .tmp t=>pure (tmps.getD t undef)
 | .cell p t=>do loadVar t (←asAddr (tmps.getD p undef))
theorem Y9 (fn:Func)(tmps:Array Value):results fn tmps=(do
  let vs ←fn.results.mapM (RR tmps)
  pure (if h:vs.size=1 then vs[0] else .tuple vs)):=rfl
end Go.Dm
namespace Go.Dm
def bit (m n:Nat):Bool:=Nat.beq (Nat.land 1 (Nat.shiftRight m n)) 1
theorem UD (m n:Nat):bit m n=m.testBit n:=by
 unfold bit Nat.testBit
 have h:Nat.land 1 (Nat.shiftRight m n)=1 &&& (m >>> n):=rfl
 rw [h,Nat.one_and_eq_mod_two]
 have:=Nat.mod_two_eq_zero_or_one (m >>> n)
 rcases this with h | h <;> rw [h] <;> rfl
def QO (acc:List Nat):List Edge→Nat→Option Nat
 | [],a=>some a
 |e :: es,a=>match Region.binds .any e with
  |false=>QO acc es a
  |true=>match acc[e.on]? with
   |none=>none
   |some b=>QO acc es (Nat.lor (Nat.lor a (Nat.shiftLeft 1 e.on)) b)
def cw:List Oper→List Nat→Option (List Nat)
 | [],acc=>some acc
 |o :: l,acc=>match QO acc o.after.toList 0 with
  |none=>none
  |some a=>cw l (acc ++ [a])
def Bn:List Oper→Nat→List (Nat×Nat)
 | [],_=> []
 |o :: l,i=>match o.dst with
  |some d=>(d,i) :: Bn l (i+1)
  |none=>Bn l (i+1)
def safe (an:List Nat)(i s:Nat):List (Nat×Nat)→Bool
 | []=>true
 | (d,k) :: l=>match Nat.beq d s with
  |false=>safe an i s l
  |true=>match Nat.ble (k+1) i with
   |true=>bit (an.getD i 0) k && safe an i s l
   |false=>Nat.ble (i+1) k && bit (an.getD k 0) i && safe an i s l
noncomputable def evD(fr:T Value)(sf:Nat→Bool)(x:Operand):Option Value:=
 match x with
 | .tmp s=>match sf s with
  |true=>fr.get s
  |false=>none
 |x=>evA fr x
structure rV where
 cls:Nat
 fr:T Value
 hp:T A8
 top:Nat
 v:Value
def distinct:List (Nat×Nat)→Bool
 | []=>true
 | (d,_) :: l=>(l.all fun q=> !Nat.beq q.1 d) && distinct l
def uc(ops:List Oper):Bool:=ops.any fun o=>o.after.toList.any fun e=> !Region.binds .any e
def VW:List Oper→Nat→Bool
 | [],_=>true
 |o :: l,i=>(o.after.toList.all fun e=> !Region.binds .text e || Nat.ble (e.on+1) i) && VW l (i+1)
def Ul:List Edge→Nat→Nat
 | [],a=>a
 |e :: l,a=>match Region.binds .gc e with
  |true=>Ul l (Nat.lor a (Nat.shiftLeft 1 e.on))
  |false=>Ul l a
def kC (done:Nat):List Oper→Nat→Option Nat
 | [],_=>none
 |o :: l,i=>match bit done i with
  |true=>kC done l (i+1)
  |false=>match Nat.beq (Nat.land (Ul o.after.toList 0) done) (Ul o.after.toList 0) with
   |true=>some i
   |false=>kC done l (i+1)
def AAa (ops:List Oper):Nat→Nat→List (Nat×Nat)→List (Nat×Nat)
 |0,_,acc=>acc
 |n+1,done,acc=>match kC done ops 0 with
  |none=>acc
  |some i=>AAa ops n (Nat.lor done (Nat.shiftLeft 1 i)) ((i,n) :: acc)
def kG (top i:Nat):List (Nat×Nat)→Nat
 | []=>0
 | (j,n) :: l=>match Nat.beq i j with
  |true=>Nat.sub top n
  |false=>kG top i l
def iw(ops:List Oper):List Nat:=
 let o:=AAa ops ops.length 0 []
 (List.range ops.length).map fun i=>kG ops.length i o
def VJ (rk:List Nat):List Oper→Nat→Bool
 | [],_=>true
 |o :: l,i=>(o.after.toList.all fun e=> !Region.binds .gc e || (Nat.ble (e.on+1) rk.length && Nat.ble (rk.getD e.on 0+1) (rk.getD i 0))) && VJ rk l (i+1)
noncomputable def Px (ops:List Oper):Bool:=match uc ops with
 |false=>true
 |true=>Yg (iw ops) fun rk=>VW ops 0 && VJ rk ops 0 && Nat.beq rk.length ops.length
end Go.Dm
namespace Go.Dm
theorem YH {acc:List Nat}(D:Nat→Prop)(hacc:∀k b,acc[k]? = some b→D k→∀j,bit b j=true→D j) :
  ∀(es:List Edge) (a r:Nat),QO acc es a=some r→(∀j,bit a j=true→D j)→(∀e∈es,Region.binds .any e=true→D e.on)→∀j,bit r j=true→D j:=by
 intro es
 induction es with
 |nil=>intro a r h ha _;cases h;exact ha
 |cons e es ih=>
  intro a r h ha he
  simp only [QO] at h
  split at h
  ·exact ih a r h ha fun e' h'=>he e' (List.mem_cons_of_mem _ h')
  ·rename_i hb
   split at h
   ·cases h
   ·rename_i b hbb
    have hon:=he e (List.mem_cons_self ..) hb
    refine ih _ r h ?_ fun e' h'=>he e' (List.mem_cons_of_mem _ h')
    intro j hj
    rw [UD] at hj
    have hj':((a ||| (1 <<< e.on)) ||| b).testBit j=true:=hj
    simp only [Nat.testBit_or,Bool.or_eq_true] at hj'
    rcases hj' with (h1 | h1) | h1
    ·exact ha j (by rw [UD];exact h1)
    ·rw [Nat.one_shiftLeft,Nat.testBit_two_pow] at h1
     have:e.on=j:=by simpa using h1
     rw [←this];exact hon
    ·exact hacc _ _ hbb hon j (by rw [UD];exact h1)
theorem gQ {acc:List Nat}:∀(es:List Edge) (a r:Nat),QO acc es a=some r→∀e∈es,Region.binds .any e=true→e.on < acc.length:=by
 intro es
 induction es with
 |nil=>intro a r _ e he;cases he
 |cons e0 es ih=>
  intro a r h e he hb
  simp only [QO] at h
  split at h
  ·rename_i hn
   rcases List.mem_cons.1 he with rfl | he'
   ·rw [hn] at hb;cases hb
   ·exact ih a r h e he' hb
  ·split at h
   ·cases h
   ·rename_i b hbb
    rcases List.mem_cons.1 he with rfl | he'
    ·rcases Nat.lt_or_ge e.on acc.length with h2 | h2
     ·exact h2
     ·rw [List.getElem?_eq_none h2] at hbb;cases hbb
    ·exact ih _ r h e he' hb
structure SZ(ops:List Oper)(an:List Nat):Prop where
 len:an.length=ops.length
 lt:∀(k:Nat)(o:Oper),ops[k]? = some o→∀e∈o.after.toList,Region.binds .any e=true→e.on < k
 up:∀(D:Nat→Prop),(∀(k:Nat)(o:Oper),ops[k]? = some o→D k→∀e∈o.after.toList,Region.binds .any e=true→D e.on)→
  (∀(k:Nat)(b:Nat),an[k]? = some b→D k→∀j,bit b j=true→D j)∧
  (∀(k:Nat)(o:Oper)(b:Nat),ops[k]? = some o→an[k]? = some b→(∀e∈o.after.toList,Region.binds .any e=true→D e.on)→∀j,bit b j=true→D j)
theorem cx:∀(rest:List Oper) (done:List Oper) (acc an:List Nat),cw rest acc=some an→SZ done acc→SZ (done ++ rest) an:=by
 intro rest
 induction rest with
 |nil=>intro done acc an h A;cases h;simpa using A
 |cons o rest ih=>
  intro done acc an h A
  simp only [cw] at h
  split at h
  ·cases h
  ·rename_i a ha
   have:=ih (done ++ [o]) (acc ++ [a]) an h ?_
   ·simpa using this
   ·have hl:=A.len
    refine ⟨by simp [hl], ?_, ?_⟩
    ·intro k p hk e he hb
     rw [List.getElem?_append] at hk
     split at hk
     ·exact A.lt k p hk e he hb
     ·rename_i hge
      have:k=done.length:=by
       rcases Nat.lt_or_ge k (done.length+1) with h2 | h2
       ·omega
       ·rw [List.getElem?_eq_none (by simp;omega)] at hk;cases hk
      subst this
      simp at hk;subst hk
      have:=gQ _ _ _ ha e he hb
      omega
    ·intro D hD
     have A2:=A.up D fun k p hk hd=>hD k p (by rw [List.getElem?_append_left (by
      rcases Nat.lt_or_ge k done.length with h2 | h2
      ·exact h2
      ·rw [List.getElem?_eq_none h2] at hk;cases hk)];exact hk) hd
     have new:(∀e∈o.after.toList,Region.binds .any e=true→D e.on)→∀j,bit a j=true→D j:=fun he=>
      YH D A2.1 _ 0 a ha (fun j hj=>by rw [UD] at hj;simp at hj) he
     constructor
     ·intro k b hk hdk
      rw [List.getElem?_append] at hk
      split at hk
      ·exact A2.1 k b hk hdk
      ·rename_i hge
       have:k=acc.length:=by
        rcases Nat.lt_or_ge k (acc.length+1) with h2 | h2
        ·omega
        ·rw [List.getElem?_eq_none (by simp;omega)] at hk;cases hk
       subst this
       simp at hk;subst hk
       exact new (hD acc.length o (by rw [hl];simp) hdk)
     ·intro k p b hp hk he
      rw [List.getElem?_append] at hk
      split at hk
      ·rename_i hlt
       refine A2.2 k p b ?_ hk he
       rwa [List.getElem?_append_left (by omega)] at hp
      ·rename_i hge
       have:k=acc.length:=by
        rcases Nat.lt_or_ge k (acc.length+1) with h2 | h2
        ·omega
        ·rw [List.getElem?_eq_none (by simp;omega)] at hk;cases hk
       subst this
       simp at hk;subst hk
       rw [hl] at hp;simp at hp;subst hp
       exact new he
theorem Zn {ops:List Oper}{an:List Nat}(h:cw ops [] = some an):SZ ops an:=by
 have:=cx ops [] [] an h ⟨rfl,fun k o hk=>by simp at hk,fun D _=>⟨fun k b hk=>by simp at hk,fun k o b hk=>by simp at hk⟩⟩
 simpa using this
theorem PS:∀(ops:List Oper) (i k d:Nat) (o:Oper),ops[k]? = some o→o.dst=some d→(d,i+k)∈Bn ops i:=by
 intro ops
 induction ops with
 |nil=>intro i k d o h;simp at h
 |cons p ops ih=>
  intro i k d o h hd
  cases k with
  |zero=>
   simp at h;subst h
   simp only [Bn,hd]
   exact List.mem_cons_self ..
  |succ k=>
   simp at h
   have:=ih (i+1) k d o h hd
   rw [show i+1+k=i+(k+1) from by omega] at this
   simp only [Bn]
   split
   ·exact List.mem_cons_of_mem _ this
   ·exact this
theorem eg (an:List Nat)(i s:Nat):∀(ws:List (Nat×Nat)),safe an i s ws=true→∀k,(s,k)∈ws→(k < i∧bit (an.getD i 0) k=true)∨(i < k∧bit (an.getD k 0) i=true):=by
 intro ws
 induction ws with
 |nil=>intro _ k h;cases h
 |cons p ws ih=>
  obtain ⟨d,k0⟩:=p
  intro h k hk
  simp only [safe] at h
  split at h
  ·rename_i hd
   rcases List.mem_cons.1 hk with h2 | h2
   ·cases h2;simp at hd
   ·exact ih h k h2
  ·split at h
   ·rename_i hlt
    simp only [Bool.and_eq_true] at h
    rcases List.mem_cons.1 hk with h2 | h2
    ·cases h2;exact .inl ⟨Nat.le_of_ble_eq_true hlt,h.1⟩
    ·exact ih h.2 k h2
   ·simp only [Bool.and_eq_true] at h
    rcases List.mem_cons.1 hk with h2 | h2
    ·cases h2;exact .inr ⟨Nat.le_of_ble_eq_true h.1.1,h.1.2⟩
    ·exact ih h.2 k h2
theorem LQ:∀(ws:List (Nat×Nat)),distinct ws=true→∀d k k',(d,k)∈ws→(d,k')∈ws→(∀p∈ws,∀q∈ws,p.2=q.2→p=q)→k=k':=by
 intro ws
 induction ws with
 |nil=>intro _ d k k' h;cases h
 |cons p ws ih=>
  obtain ⟨d0,k0⟩:=p
  intro h d k k' h1 h2 hu
  simp only [distinct,Bool.and_eq_true,List.all_eq_true] at h
  rcases List.mem_cons.1 h1 with e1 | e1 <;> rcases List.mem_cons.1 h2 with e2 | e2
  ·cases e1;cases e2;rfl
  ·cases e1;have:=h.1 _ e2;simp at this
  ·cases e2;have:=h.1 _ e1;simp at this
  ·exact ih h.2 d k k' e1 e2 fun p hp q hq=>hu p (List.mem_cons_of_mem _ hp) q (List.mem_cons_of_mem _ hq)
structure sM(P:Program)(tt:AM)(all:List Oper)(ev:Operand→Option Value)(o:Oper)(st:St)(e:rV)(st1:St):Prop where
 hp:e.hp=st.hp
 fr:e.fr=st.fr
 top:e.top=st.top
 put:∀t u,st1.fr.get t=some u→(o.dst=some t∧u=e.v)∨(o.dst≠some t∧st.fr.get t=some u)
 cls:(e.cls=0∧Gg ev all o.guard=some false∧e.v=undef∧st1.hp=st.hp∧st1.top=st.top)∨
  (e.cls=1∧Gg ev all o.guard=some true∧DR tt ev st.hp.get o.op=some e.v∧st1.hp=st.hp∧st1.top=st.top)∨
  (e.cls=2∧Gg ev all o.guard=some true∧tv P ev st.hp st.top o e.v st1.hp st1.top)
inductive Tr (P:Program) (tt:AM) (all:List Oper) (ws:List (Nat×Nat)) (an:List Nat):Nat→List Oper→St→List rV→St→Prop
 |nil (i:Nat) (st:St):Tr P tt all ws an i [] st [] st
 |cons (i:Nat) (o:Oper) (os:List Oper) (st st1 stn:St) (e:rV) (L:List rV) (h:sM P tt all (evD st.fr fun s=>safe an i s ws) o st e st1)
   (t:Tr P tt all ws an (i+1) os st1 L stn):Tr P tt all ws an i (o :: os) st (e :: L) stn
def SU:List rV→St→Nat→St
 | [],s,_=>s
 |e :: _,_,0=>⟨e.fr,e.hp,e.top⟩
 |_ :: l,s,k+1=>SU l s k
end Go.Dm
namespace Go.Dm
theorem dB{md:Region.Mode}{e:Edge}(h:Region.binds .any e=true):Region.binds md e=true:=by
 unfold Region.binds at *
 cases hg:e.ground <;> rw[hg]at h <;> first | rfl | exact Bool.noConfusion h
theorem MM {md:Region.Mode}{ops:Array Oper}{listed:Array Bool}{i:Nat}(h:i∈Region.ready md ops listed) :
  i < ops.size∧listed.getD i true=false∧∃o,ops[i]? = some o∧∀e∈o.after.toList,Region.binds .any e=true→listed.getD e.on false=true:=by
 simp only [Region.ready,List.mem_filter,List.mem_range,Bool.and_eq_true,Bool.not_eq_true'] at h
 obtain ⟨h1,h2,h3⟩:=h
 refine ⟨h1,h2,ops[i],by simp [h1], ?_⟩
 simp only [h1,getElem?_pos,Option.map_some,Option.getD_some,Array.all_eq_true_iff_forall_mem] at h3
 intro e he hb
 have:=h3 e (Array.mem_toList_iff.1 he)
 rw [dB hb] at this;simpa using this
def Jg(md:Region.Mode)(ops:Array Oper):Prop:= ∃rank:Nat→Nat,∀(k:Nat)(o:Oper),ops[k]? = some o→∀e∈o.after.toList,Region.binds md e=true→e.on < ops.size∧rank e.on < rank k
theorem eM {md:Region.Mode}{ops:Array Oper}{listed:Array Bool}(hlt:Jg md ops)
  (hsz:listed.size=ops.size) (h:Region.ready md ops listed= []):∀k,k < ops.size→listed.getD k false=true:=by
 obtain ⟨rank,hrank⟩:=hlt
 have key:∀(r k:Nat),rank k=r→k < ops.size→listed.getD k false=true:=by
  intro r
  induction r using Nat.strongRecOn with
  |_ r ih=>
  intro k hkr hk
  cases hl:listed.getD k false with
  |true=>rfl
  |false=>
   exfalso
   have hmem:k∈Region.ready md ops listed:=by
    simp only [Region.ready,List.mem_filter,List.mem_range,Bool.and_eq_true,Bool.not_eq_true']
    refine ⟨hk, ?_, ?_⟩
    ·simp only [Array.getD_eq_getD_getElem?,hsz,hk,getElem?_pos,Option.getD_some] at hl ⊢
     exact hl
    ·simp only [hk,getElem?_pos,Option.map_some,Option.getD_some,Array.all_eq_true_iff_forall_mem]
     intro e he
     cases hb:Region.binds md e with
     |false=>rfl
     |true=>
      have hlt':=hrank k ops[k] (by simp [hk]) e (Array.mem_toList_iff.2 he) hb
      have:=ih (rank e.on) (by omega) e.on rfl hlt'.1
      simp [this]
   rw [h] at hmem;cases hmem
 exact fun k hk=>key (rank k) k rfl hk
theorem Wl{listed:Array Bool}{i j:Nat}(hi:i < listed.size):(listed.setIfInBounds i true).getD j false=true ↔ j=i∨listed.getD j false=true:=by
 simp only[Array.getD_eq_getD_getElem?,Array.getElem?_setIfInBounds]
 by_cases h:i=j
 ·subst h;simp[hi]
 ·simp[h,Ne.symm h]
def left(listed:Array Bool):Nat:=(listed.toList.filter fun b=> !b).length
theorem jW {listed:Array Bool}{i:Nat}(hi:i < listed.size)(hf:listed.getD i true=false):left (listed.setIfInBounds i true)+1=left listed:=by
 unfold left
 rw [Array.toList_setIfInBounds]
 have hi':i < listed.toList.length:=by simpa using hi
 have hv:listed.toList[i] = false:=by
  simp only [Array.getD_eq_getD_getElem?,hi,getElem?_pos,Option.getD_some] at hf
  simpa using hf
 rw [List.set_eq_take_append_cons_drop]
 simp only [hi',if_true]
 conv=>rhs;rw [←List.take_append_drop i listed.toList,List.drop_eq_getElem_cons hi',hv]
 simp [List.filter_append];omega
theorem dy{listed:Array Bool}(h:left listed=0):∀k,k < listed.size→listed.getD k false=true:=by
 intro k hk
 unfold left at h
 have h':=List.eq_nil_of_length_eq_zero h
 rw[List.filter_eq_nil_iff]at h'
 have:=h' listed[k] (by simp)
 simp only[Array.getD_eq_getD_getElem?,hk,getElem?_pos,Option.getD_some]
 simpa using this
theorem Q4 (n:Nat):left (Array.replicate n false)=n:=by simp [left]
section
variable {P:Program} {tt:AM} {ops:Array Oper} {ws:List (Nat×Nat)} {an:List Nat} {L:List rV} {st stn:St} {sz:Nat}
structure yp (P:Program) (tt:AM) (ops:Array Oper) (ws:List (Nat×Nat)) (an:List Nat) (L:List rV) (st stn:St) (sz:Nat):Prop where
 types:Cy P tt
 len:L.length=ops.size
 dst:∀(j:Nat) (p:Oper) d,ops[j]? = some p→p.dst=some d→d < sz
 xe:SZ ops.toList an
 mem:∀(k:Nat) (o:Oper) (d:Nat),ops[k]? = some o→o.dst=some d→(d,k)∈ws
 one:∀d k k',(d,k)∈ws→(d,k')∈ws→k=k'
 zero:SU L stn 0=st
 last:SU L stn ops.size=stn
 step:∀(k:Nat) (o:Oper),ops[k]? = some o→∃e,L[k]? = some e∧sM P tt ops.toList (evD (SU L stn k).fr fun s=>safe an k s ws) o (SU L stn k) e (SU L stn (k+1))
 wch:∀j k ej ek,L[j]? = some ej→L[k]? = some ek→ej.cls=2→ek.cls=2→j < k→bit (an.getD k 0) j=true
 rch:∀(i:Nat) (o:Oper) e,ops[i]? = some o→L[i]? = some e→e.cls=1→∀p,p≤ops.size→
  (∀k ek,L[k]? = some ek→ek.cls=2→k < p→bit (an.getD k 0) i=false)→(∀k ek,L[k]? = some ek→ek.cls=2→¬k < p→bit (an.getD i 0) k=false)→
  DR tt (evD (SU L stn i).fr fun s=>safe an i s ws) (SU L stn p).hp.get o.op=some e.v
structure Inv (L:List rV) (st stn:St) (ops:Array Oper) (sz:Nat) (φ:Ren) (own:Nat→Prop) (ds:List Deferred) (w0:World) (D:Nat→Prop) (p:Nat) (a:Act) (w:World):Prop where
 hr:HR φ own (SU L stn p).hp.get w
 top:∀j,(SU L stn p).top≤j→φ j=none
 k:K own w0 w
 ds:a.defers=ds
 size:a.tmps.size=sz
 pl:p≤ops.size
 wr:∀k ek,L[k]? = some ek→ek.cls=2→(D k ↔ k < p)
 new:∀k o e s,ops[k]? = some o→L[k]? = some e→D k→o.dst=some s→V φ e.v (a.tmps.getD s undef)
 MR:∀s u,(∀(k:Nat) (o:Oper),ops[k]? = some o→D k→o.dst≠some s)→st.fr.get s=some u→V φ u (a.tmps.getD s undef)
end
theorem Region.YU(ops:Array Oper)(h:uc ops.toList=false):Region.departs ops=false:=by
 unfold Region.departs
 rw[←Array.any_toList]
 unfold uc at h
 cases ha:ops.toList.any fun o=>o.after.any fun e=> !Region.binds .any e with
 |false=>rfl
 |true=>
  rw[List.any_eq_true]at ha
  obtain⟨o,ho,he⟩:=ha
  rw[List.any_eq_false]at h
  have:=h o ho
  rw[←Array.any_toList]at he
  rw[he]at this;simp at this
theorem Xf:∀(l:List Oper) (i:Nat),VW l i=true→∀k o,l[k]? = some o→∀e∈o.after.toList,Region.binds .text e=true→e.on < i+k:=by
 intro l
 induction l with
 |nil=>intro i _ k o hk;simp at hk
 |cons p l ih=>
  intro i h k o hk e he hb
  simp only [VW,Bool.and_eq_true] at h
  cases k with
  |zero=>
   simp at hk;subst hk
   have:=List.all_eq_true.1 h.1 e he
   rw [hb] at this
   simp only [Bool.not_true,Bool.false_or] at this
   have:=Nat.le_of_ble_eq_true this;omega
  |succ k=>
   simp at hk
   have:=ih (i+1) h.2 k o hk e he hb;omega
theorem XC (rk:List Nat):∀(l:List Oper) (i:Nat),VJ rk l i=true→∀k o,l[k]? = some o→∀e∈o.after.toList,Region.binds .gc e=true→e.on < rk.length∧rk.getD e.on 0 < rk.getD (i+k) 0:=by
 intro l
 induction l with
 |nil=>intro i _ k o hk;simp at hk
 |cons p l ih=>
  intro i h k o hk e he hb
  simp only [VJ,Bool.and_eq_true] at h
  cases k with
  |zero=>
   simp at hk;subst hk
   have:=List.all_eq_true.1 h.1 e he
   rw [hb] at this
   simp only [Bool.not_true,Bool.false_or,Bool.and_eq_true] at this
   have h1:=Nat.le_of_ble_eq_true this.1
   have h2:=Nat.le_of_ble_eq_true this.2
   exact ⟨by omega,h2⟩
  |succ k=>
   simp at hk
   have:=ih (i+1) h.2 k o hk e he hb
   rw [show i+(k+1)=i+1+k from by omega];exact this
theorem NH {ops:Array Oper}(h:Px ops.toList=true)(hd:Region.departs ops=true):Jg .text ops∧Jg .gc ops:=by
 unfold Px at h
 split at h
 ·rename_i hdep
  rw [Region.YU ops hdep] at hd;cases hd
 ·rw [de] at h
  simp only [Bool.and_eq_true] at h
  obtain ⟨⟨h1,h2⟩,h3⟩:=h
  have hlt:∀(k:Nat) (o:Oper),ops[k]? = some o→k < ops.size:=fun k o hk=>by
   rcases Nat.lt_or_ge k ops.size with h | h
   ·exact h
   ·rw [Array.getElem?_eq_none h] at hk;cases hk
  constructor
  ·refine ⟨fun k=>k,fun k o hk e he hb=> ?_⟩
   have:=Xf _ 0 h1 k o (by simpa using hk) e he hb
   have:=hlt k o hk
   exact ⟨by omega,by show e.on < k;omega⟩
  ·refine ⟨fun k=>(iw ops.toList).getD k 0,fun k o hk e he hb=> ?_⟩
   have:=XC _ _ 0 h2 k o (by simpa using hk) e he hb
   have hl:=Nat.eq_of_beq_eq_true h3
   simp only [Array.length_toList] at hl
   rw [hl] at this
   simpa using this
theorem R0:∀(ops:List Oper) (i:Nat) (p:Nat×Nat),p∈Bn ops i→i≤p.2:=by
 intro ops
 induction ops with
 |nil=>intro i p h;cases h
 |cons o ops ih=>
  intro i p h
  simp only [Bn] at h
  split at h
  ·rcases List.mem_cons.1 h with rfl | h
   ·exact Nat.le_refl _
   ·have:=ih _ _ h;omega
  ·have:=ih _ _ h;omega
theorem PT:∀(ops:List Oper) (i:Nat) (p q:Nat×Nat),p∈Bn ops i→q∈Bn ops i→p.2=q.2→p=q:=by
 intro ops
 induction ops with
 |nil=>intro i p q h;cases h
 |cons o ops ih=>
  intro i p q hp hq hpq
  simp only [Bn] at hp hq
  split at hp
  ·rename_i d hd
   rw [hd] at hq
   rcases List.mem_cons.1 hp with rfl | hp <;> rcases List.mem_cons.1 hq with rfl | hq
   ·rfl
   ·have:=R0 _ _ _ hq;dsimp only at hpq;omega
   ·have:=R0 _ _ _ hp;dsimp only at hpq;omega
   ·exact ih _ _ _ hp hq hpq
  ·rename_i hd
   rw [hd] at hq
   exact ih _ _ _ hp hq hpq
end Go.Dm
namespace Go.Dm
def C3(n:Nat)(x:Value):List Value:=List.replicate n x
def T.yl {α:Type}:T α→Nat→Nat→List (Nat×α)
 | .nil,_,_=> []
 | .node l v r,a,b=>(match v with
  |some x=> [(b,x)]
  |none=> []) ++ (yl l (2 * a) (a+b) ++ yl r (2 * a) (2 * a+b))
theorem T.q9 {α:Type}:∀(t:T α) (a b k:Nat) (x:α),t.get k=some x→(a * k+b,x)∈t.yl a b:=by
 intro t
 induction t with
 |nil=>intro a b k x h;cases h
 |node l v r ihl ihr=>
  intro a b k x h
  rw [T.jA] at h
  simp only [T.yl,List.mem_append]
  split at h
  ·rename_i hk
   left;subst hk;subst h;simp
  ·rename_i hk
   right
   split at h
   ·rename_i h1
    left
    have:=ihl (2 * a) (a+b) _ x h
    have e:2 * a * (k / 2)+(a+b)=a * k+b:=by
     have:k=2 * (k / 2)+1:=by omega
     conv=>rhs;rw [this,Nat.mul_add,Nat.mul_one,←Nat.mul_assoc,Nat.mul_comm a 2]
     omega
    rwa [e] at this
   ·rename_i h1
    right
    have:=ihr (2 * a) (2 * a+b) _ x h
    have e:2 * a * (k / 2 - 1)+(2 * a+b)=a * k+b:=by
     obtain ⟨m,hm⟩:∃m,k=2 * (m+1):=⟨k / 2 - 1,by omega⟩
     subst hm
     have:2 * (m+1) / 2 - 1=m:=by omega
     rw [this,show a * (2 * (m+1))=2 * a * (m+1) by rw [←Nat.mul_assoc,Nat.mul_comm a 2],Nat.mul_add,Nat.mul_one]
     omega
    rwa [e] at this
theorem T.q8 {α:Type}{t:T α}{k:Nat}{x:α}(h:t.get k=some x):(k,x)∈t.yl 1 0:=by
 have:=T.q9 t 1 0 k x h
 simpa using this
theorem Ly.of {P:Program}{t:TypeId}{i:TI}
  (h1:P.underlying t=some i.ud) (h2:(P.info? t).map (fun x=>(x.size,x.bytes,x.zero))=some (i.size,i.bytes,some i.zero))
  (h3:Go.Dm.plain 4 i.zero=true) (h4:(Nat.beq (match i.zero with | .agg ⟨l⟩=>l | v=> [v]).length i.size && Nat.blt i.size BQ)=true) (h5:i.cmp=true→P.stoodInHeld t=false∧P.eqGuardType P.depth t=false):Ly P t i:=by
 cases hx:P.info? t with
 |none=>rw [hx] at h2;cases h2
 |some x=>
  rw [hx] at h2
  simp only [Option.map_some,Option.some.injEq,Prod.mk.injEq] at h2
  rw [Bool.and_eq_true] at h4
  exact ⟨h1,by simp [Program.cellsOf,hx,h2.1],by simp [Program.bytesOf,hx,h2.2.1],⟨x,hx,h2.2.2⟩,h3,Nat.eq_of_beq_eq_true h4.1,h5,Nat.le_of_ble_eq_true h4.2⟩
theorem BU.AR{fn:Func}(h:(match fn.body with | some c=>codeOk fn.ntmps c | none=>true)=true):∀c,fn.body=some c→codeOk fn.ntmps c=true:=by
 intro c hc;rw[hc]at h;exact h
end Go.Dm
