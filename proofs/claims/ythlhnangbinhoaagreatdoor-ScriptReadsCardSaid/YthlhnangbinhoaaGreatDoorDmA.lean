/- The abstract machine, a part of it: operations, regions, code and calls run over values with named blocks; each step is shown of the real run. -/
import Derived.Calls
import Derived.Laws.Sem
import Derived.Laws.StructEq
import Derived.Laws.Entries
import Derived.ChangeKeysEq
set_option linter.unusedVariables false
namespace Go.Dm
inductive T(α:Type)where
 |nil
 |node(l:T α)(v:Option α)(r:T α)
noncomputable def JN {β:Type}(n:Nat)(f:Nat→β):β:=Nat.rec (f 0) (fun m _=>f (Nat.succ m)) n
theorem Rs {β:Type}(n:Nat)(f:Nat→β):JN n f=f n:=by cases n <;> rfl
noncomputable def YP{β:Type}(b:Bool)(x y:β):β:=Bool.rec y x b
theorem Zr{β:Type}(b:Bool)(x y:β):YP b x y=if b=true then x else y:=by cases b <;> rfl
noncomputable def T.get {α:Type}(t:T α):Nat→Option α:=
 T.rec (fun _=>none) (fun _ v _ gl gr k=>
  YP (Nat.beq k 0) v (YP (Nat.beq (Nat.mod k 2) 1) (JN (Nat.div k 2) gl) (JN (Nat.pred (Nat.div k 2)) gr))) t
noncomputable def T.bu {α β:Type}(x:Option α)(ih:T α→Nat→(T α→β)→β)(l:T α)(v:Option α)(r:T α)(k:Nat)(K:T α→β):β:=
 YP (Nat.beq k 0) (K (.node l x r)) (YP (Nat.beq (Nat.mod k 2) 1)
  (JN (Nat.div k 2) fun q=>ih l q fun l'=>K (.node l' v r))
  (JN (Nat.pred (Nat.div k 2)) fun q=>ih r q fun r'=>K (.node l v r')))
noncomputable def T.wh {α β:Type}(x:Option α)(f:Nat):T α→Nat→(T α→β)→β:=
 Nat.rec (fun _ _ K=>K .nil) (fun _ ih t k K=>
  T.rec (T.bu x ih .nil none .nil k K) (fun l v r _ _=>T.bu x ih l v r k K) t) f
noncomputable def T.set{α:Type}(t:T α)(k:Nat)(x:Option α):T α:=T.wh x 40 t k fun t=>t
theorem T.jA {α:Type}(l r:T α)(v:Option α)(k:Nat) :
  (T.node l v r).get k=if k=0 then v else if k % 2=1 then l.get (k / 2) else r.get (k / 2 - 1):=by
 change YP (Nat.beq k 0) v (YP (Nat.beq (Nat.mod k 2) 1) (JN (Nat.div k 2) l.get) (JN (Nat.pred (Nat.div k 2)) r.get))=_
 rw [Zr,Zr,Rs,Rs]
 simp only [Nat.beq_eq]
 rfl
structure Loc where
 BT:Nat
 off:Nat
 CA:Nat
 PY:Nat
abbrev Ren:=Nat→Option Loc
def Ren.le(φ ψ:Ren):Prop:= ∀i L,φ i=some L→ψ i=some L
theorem Ren.le_refl(φ:Ren):φ.le φ:=fun _ _ h=>h
theorem Ren.le_trans {φ ψ χ:Ren}(h:φ.le ψ)(h':ψ.le χ):φ.le χ:=fun i L e=>h' i L (h i L e)
def Ren.ext(φ:Ren)(i:Nat)(L:Loc):Ren:=fun j=>if j=i then some L else φ j
theorem Ren.EZ {φ:Ren}{i:Nat}{L:Loc}(h:φ i=none):φ.le (φ.ext i L):=by
 intro j M e;unfold Ren.ext;split
 ·rename_i hj;subst hj;rw [h] at e;cases e
 ·exact e
theorem Ren.A9(φ:Ren)(i:Nat)(L:Loc):φ.ext i L i=some L:=by simp[Ren.ext]
mutual
inductive V (φ:Ren):Value→Value→Prop
 |bool (b:Bool):V φ (.bool b) (.bool b)
 |int (k:IntKind) (n:Int):V φ (.int k n) (.int k n)
 |str (s:ByteArray):V φ (.string s) (.string s)
 |nilp:V φ (.pointer none) (.pointer none)
 |ptr (i o:Nat) (L:Loc) (h:φ i=some L):V φ (.pointer (some ⟨i,o,none⟩)) (.pointer (some ⟨L.BT,L.off+o,none⟩))
 |nils:V φ (.slice none 0 0) (.slice none 0 0)
 |slice (i o n c c':Nat) (L:Loc) (h:φ i=some L) (hn:n≤c) (hc:c≤c') (hl:L.off+o+c' * L.CA≤L.PY):V φ (.slice (some ⟨i,o,none⟩) n c) (.slice (some ⟨L.BT,L.off+o,none⟩) n c')
 |emp (a':Addr) (c':Nat):V φ (.slice (some ⟨0,0,some 0⟩) 0 0) (.slice (some a') 0 c') -- an empty slice,wherever it points
 |nilm:V φ (.map none) (.map none)
 |map (i:Nat) (L:Loc) (h:φ i=some L):V φ (.map (some i)) (.map (some L.BT))
 |func (fn:Fn) (a a' b b':List Value) (ha:Vs φ a a') (hb:Vs φ b b'):V φ (.func fn ⟨a⟩ ⟨b⟩) (.func fn ⟨a'⟩ ⟨b'⟩)
 |nilf:V φ .nilFunc .nilFunc
 |iface (t:TypeId) (v v':Value) (h:V φ v v'):V φ (.iface t v) (.iface t v')
 |nili:V φ .nilIface .nilIface
 |agg (a a':List Value) (h:Vs φ a a'):V φ (.agg ⟨a⟩) (.agg ⟨a'⟩)
 |tuple (a a':List Value) (h:Vs φ a a'):V φ (.tuple ⟨a⟩) (.tuple ⟨a'⟩)
inductive Vs (φ:Ren):List Value→List Value→Prop
 |nil:Vs φ [] []
 |cons (x x':Value) (l l':List Value) (h:V φ x x') (hl:Vs φ l l'):Vs φ (x :: l) (x' :: l')
end
mutual
theorem V.mono {φ ψ:Ren}(hle:φ.le ψ):∀ {v v':Value},V φ v v'→V ψ v v'
 |_,_, .bool b=> .bool b
 |_,_, .int k n=> .int k n
 |_,_, .str s=> .str s
 |_,_, .nilp=> .nilp
 |_,_, .ptr i o L h=> .ptr i o L (hle _ _ h)
 |_,_, .nils=> .nils
 |_,_, .slice i o n c c' L h hn hc hl=> .slice i o n c c' L (hle _ _ h) hn hc hl
 |_,_, .emp a c=> .emp a c
 |_,_, .nilm=> .nilm
 |_,_, .map i L h=> .map i L (hle _ _ h)
 |_,_, .func fn a a' b b' ha hb=> .func fn a a' b b' (Vs.mono hle ha) (Vs.mono hle hb)
 |_,_, .nilf=> .nilf
 |_,_, .iface t v v' h=> .iface t v v' (V.mono hle h)
 |_,_, .nili=> .nili
 |_,_, .agg a a' h=> .agg a a' (Vs.mono hle h)
 |_,_, .tuple a a' h=> .tuple a a' (Vs.mono hle h)
theorem Vs.mono {φ ψ:Ren}(hle:φ.le ψ):∀ {l l':List Value},Vs φ l l'→Vs ψ l l'
 |_,_, .nil=> .nil
 |_,_, .cons x x' l l' h hl=> .cons x x' l l' (V.mono hle h) (Vs.mono hle hl)
end
theorem Vs.length{φ:Ren}:∀ {l l':List Value},Vs φ l l'→l'.length=l.length
 |_,_, .nil=>rfl
 |_,_, .cons _ _ _ _ _ hl=>by simp[Vs.length hl]
theorem Vs.take {φ:Ren}:∀ {l l':List Value} (n:Nat),Vs φ l l'→Vs φ (l.take n) (l'.take n)
 |_,_,_, .nil=>by simp;exact .nil
 |_,_,0, .cons .. =>by simp;exact .nil
 |_,_,n+1, .cons _ _ _ _ h hl=>by simp only [List.take_succ_cons];exact .cons _ _ _ _ h (Vs.take n hl)
theorem Vs.drop {φ:Ren}:∀ {l l':List Value} (n:Nat),Vs φ l l'→Vs φ (l.drop n) (l'.drop n)
 |_,_,_, .nil=>by simp;exact .nil
 |_,_,0, .cons _ _ _ _ h hl=>by simp;exact .cons _ _ _ _ h hl
 |_,_,n+1, .cons _ _ _ _ h hl=>by simp only [List.drop_succ_cons];exact Vs.drop n hl
theorem Vs.append {φ:Ren}:∀ {l l' m m':List Value},Vs φ l l'→Vs φ m m'→Vs φ (l ++ m) (l' ++ m')
 |_,_,_,_, .nil,h=>h
 |_,_,_,_, .cons _ _ _ _ h hl,h'=> .cons _ _ _ _ h (Vs.append hl h')
theorem Vs.get{φ:Ren}:∀ {l l':List Value}{j:Nat}{x:Value},Vs φ l l'→l[j]? = some x→∃x',l'[j]? = some x'∧V φ x x'
 |_,_,_,_, .nil,h=>by simp at h
 |_,_,0,_, .cons x x' _ _ h hl,e=>by simp at e;subst e;exact⟨x',by simp,h⟩
 |_,_,j+1,_, .cons _ _ _ _ h hl,e=>by simp at e ⊢;exact Vs.get hl e
theorem Vs.NP {φ:Ren}:∀ {l:List Value},(∀x∈l,V φ x x)→Vs φ l l
 | [],_=> .nil
 |x :: l,h=> .cons _ _ _ _ (h x (by simp)) (Vs.NP fun y hy=>h y (by simp [hy]))
theorem Vs.flatten {φ:Ren}:∀ {n:Nat} {l l':List Value},Vs φ l l'→Vs φ (List.replicate n l).flatten (List.replicate n l').flatten
 |0,_,_,_=> .nil
 |n+1,_,_,h=>by simp only [List.replicate_succ,List.flatten_cons];exact Vs.append h (Vs.flatten h)
def plain:Nat→Value→Bool
 |0,_=>false
 |n+1,v=>match v with
  | .bool _ | .int _ _ | .string _ | .pointer none | .slice none 0 0 | .map none | .nilFunc | .nilIface=>true
  | .func _ ⟨a⟩ ⟨b⟩=>a.all (plain n) && b.all (plain n)
  | .iface _ v=>plain n v
  | .agg ⟨l⟩=>l.all (plain n)
  | .tuple ⟨l⟩=>l.all (plain n)
  |_=>false
theorem DG {φ:Ren}:∀(n:Nat) (v:Value),plain n v=true→V φ v v:=by
 intro n
 induction n with
 |zero=>intro v h;cases h
 |succ n ih=>
  have all:∀l:List Value,l.all (plain n)=true→Vs φ l l:=fun l h=>Vs.NP fun x hx=>ih x (by rw [List.all_eq_true] at h;exact h x hx)
  intro v h
  unfold plain at h
  split at h
  all_goals first
   | (constructor;done)
   | (simp only [Bool.and_eq_true] at h;exact .func _ _ _ _ _ (all _ h.1) (all _ h.2))
   |exact .iface _ _ _ (ih _ h)
   |exact .agg _ _ (all _ h)
   |exact .tuple _ _ (all _ h)
   |cases h
inductive A8 where
 |cells(rw:Bool)(CA:Nat)(vs:List Value)
 |map(es:List MapEntry)(CG:Nat)
 |iter(s:ByteArray)(pos:Nat)
 |miter(m since:Nat)(seen:List Nat)(c:Nat)
 |raw(b:Nat)(vs:List Value)
def A8.rw:A8→Bool
 | .cells rw _ _=>rw
 | .raw _ _=>false
 |_=>true
structure EV(φ:Ren)(e e':MapEntry):Prop where
 key:V φ e.key e'.key
 val:V φ e.val e'.val
 born:e'.born=e.born
inductive Es (φ:Ren):List MapEntry→List MapEntry→Prop
 |nil:Es φ [] []
 |cons (e e':MapEntry) (l l':List MapEntry) (h:EV φ e e') (hl:Es φ l l'):Es φ (e :: l) (e' :: l')
theorem EV.mono{φ ψ:Ren}(hle:φ.le ψ){e e':MapEntry}(h:EV φ e e'):EV ψ e e':=⟨h.key.mono hle,h.val.mono hle,h.born⟩
theorem Es.mono {φ ψ:Ren}(hle:φ.le ψ):∀ {l l':List MapEntry},Es φ l l'→Es ψ l l'
 |_,_, .nil=> .nil
 |_,_, .cons _ _ _ _ h hl=> .cons _ _ _ _ (h.mono hle) (Es.mono hle hl)
theorem Es.length{φ:Ren}:∀ {l l':List MapEntry},Es φ l l'→l'.length=l.length
 |_,_, .nil=>rfl
 |_,_, .cons _ _ _ _ _ hl=>by simp[Es.length hl]
def BQ:Nat:=18446744073709551616
def ADk(rw:Bool)(L:Loc)(CA:Nat)(fz:Nat×Nat)(t:TypeId):Prop:=(rw=true→fz.2≤fz.1)∧(rw=false→BQ≤CA→L.BT+4096 * L.PY+BQ=CA∧L.off=0∧L.BT < 4096)∧(rw=true→BQ≤CA→∃m,CA / BQ=1+t+4096 * m∧t < 4095∧L.off=0∧(m=0∨m=L.PY))
def dT(rw:Bool)(CA:Nat):Nat:=match rw with | true=>CA % BQ | false=>CA
theorem GX{rw:Bool}{CA:Nat}(h:CA < BQ):dT rw CA=CA:=by cases rw with | true=>exact Nat.mod_eq_of_lt h | false=>rfl
def EA (φ:Ren)(L:Loc)(o:A8)(x:Option Obj):Prop:=
 match o with
 | .cells rw CA vs=>dT rw CA=L.CA∧∃c t fz,x=some (.cells c t fz)∧c.size=L.PY∧L.off+vs.length≤L.PY∧Vs φ vs ((c.toList.drop L.off).take vs.length)∧ADk rw L CA fz t
 | .map es CG=> ∃es',x=some (.map es' CG)∧Es φ es es'.toList
 | .iter s pos=>x=some (.stringIter s pos)
 | .miter m since seen c=>L.off=0∧∃M,φ m=some M∧x=some (.mapIter (some M.BT) since ⟨seen⟩ c)
 | .raw b vs=>L.BT=b∧L.off=0∧∃t fz,x=some (.cells ⟨vs⟩ t fz)
theorem EA.mono {φ ψ:Ren}(hle:φ.le ψ){L:Loc}{o:A8}{x:Option Obj}(h:EA φ L o x):EA ψ L o x:=by
 cases o with
 |cells rw CA vs=>
  obtain ⟨he,c,t,fz,h1,h2,h3,h4,h5⟩:=h
  exact ⟨he,c,t,fz,h1,h2,h3,h4.mono hle,h5⟩
 |map es CG=>obtain ⟨es',h1,h2⟩:=h;exact ⟨es',h1,h2.mono hle⟩
 |iter s pos=>exact h
 |miter m since seen c=>obtain ⟨h0,M,h1,h2⟩:=h;exact ⟨h0,M,hle _ _ h1,h2⟩
 |raw b vs=>exact h
abbrev Hp:=Nat→Option A8
def Hp.Jb(hp:Hp)(i:Nat)(o:A8):Hp:=fun j=>if j=i then some o else hp j
theorem Hp.El(hp:Hp)(i:Nat)(o:A8):hp.Jb i o i=some o:=by simp[Hp.Jb]
structure HR(φ:Ren)(own:Nat→Prop)(hp:Hp)(w:World):Prop where
 obj:∀i o,hp i=some o→∃L,φ i=some L∧EA φ L o w.heap[L.BT]?
 sep:∀i j oi oj Li Lj,hp i=some oi→hp j=some oj→i≠j→oi.rw=true→φ i=some Li→φ j=some Lj→Li.BT≠Lj.BT
 D0:∀i o L,hp i=some o→o.rw=true→φ i=some L→own L.BT
 val:∀i L,φ i=some L→L.BT < w.heap.size
 fresh:∀b,w.heap.size≤b→own b
def AEO:Option Obj→Nat×Nat
 |some (.cells _ _ f)=>f
 |_=>(0,0)
structure K(own:Nat→Prop)(w w':World):Prop where
 size:w.heap.size≤w'.heap.size
 same:∀b,b < w.heap.size→¬own b→w'.heap[b]? = w.heap[b]?
 os:w'.os=w.os
 tape:w'.tape=w.tape
 output:w'.output=w.output
theorem K.refl(own:Nat→Prop)(w:World):K own w w:=⟨Nat.le_refl _,fun _ _ _=>rfl,rfl,rfl,rfl⟩
theorem K.trans {own:Nat→Prop}{w w' w'':World}(h:K own w w')(h':K own w' w''):K own w w'':=
 ⟨Nat.le_trans h.size h'.size,fun b hb hn=>(h'.same b (Nat.lt_of_lt_of_le hb h.size) hn).trans (h.same b hb hn),h'.os.trans h.os,h'.tape.trans h.tape,h'.output.trans h.output⟩
theorem K.drew (own:Nat→Prop)(w:World)(n:Nat):K own w {w with drawn:=n}:=⟨Nat.le_refl _,fun _ _ _=>rfl,rfl,rfl,rfl⟩
theorem HR.drew {φ:Ren}{own:Nat→Prop}{hp:Hp}{w:World}(h:HR φ own hp w)(n:Nat):HR φ own hp {w with drawn:=n}:=
 ⟨h.obj,h.sep,h.D0,h.val,h.fresh⟩
theorem HR.sub {φ:Ren}{own:Nat→Prop}{hp hp':Hp}{w:World}(h:HR φ own hp w)(hs:∀i o,hp' i=some o→hp i=some o):HR φ own hp' w:=
 ⟨fun i o e=>h.obj i o (hs i o e),fun i j oi oj Li Lj hi hj=>h.sep i j oi oj Li Lj (hs _ _ hi) (hs _ _ hj),fun i o L e=>h.D0 i o L (hs i o e),h.val,h.fresh⟩
theorem HR.alloc {φ:Ren}{own:Nat→Prop}{hp:Hp}{w:World}(h:HR φ own hp w)(i:Nat)(o:A8)(L:Loc)(x:Obj)(n:Nat)
  (hi:φ i=none) (hL:L.BT=w.heap.size) (hx:EA φ L o (some x)) :
  HR (φ.ext i L) own (hp.Jb i o) {w with heap:=w.heap.push x,drawn:=n}:=by
 have hle:=Ren.EZ (L:=L) hi
 have hold:∀b,b < w.heap.size→(w.heap.push x)[b]? = w.heap[b]? :=fun b hb=>by simp [Array.getElem?_push,Nat.ne_of_lt hb]
 have hphi:∀j M,φ.ext i L j=some M→j≠i→φ j=some M:=fun j M e hj=>by simpa [Ren.ext,hj] using e
 refine ⟨?_, ?_, ?_, ?_, ?_⟩
 ·intro j oj e
  unfold Hp.Jb at e
  split at e
  ·rename_i hj;subst hj;cases e
   exact ⟨L,Ren.A9 ..,by rw [hL];simpa using hx.mono hle⟩
  ·rename_i hj
   obtain ⟨M,hM,hok⟩:=h.obj j oj e
   refine ⟨M,hle _ _ hM, ?_⟩
   have:=h.val j M hM
   simpa [hold _ this] using hok.mono hle
 ·intro j k oj ok Lj Lk hj hk hne hrw hLj hLk
  unfold Hp.Jb at hj hk
  by_cases ej:j=i
  ·subst ej
   have ek:k≠j:=fun e=>hne e.symm
   simp only [ek,if_false] at hk
   have:=h.val k Lk (hphi _ _ hLk ek)
   have:Lj=L:=by rw [Ren.A9] at hLj;exact (Option.some.inj hLj).symm
   subst this;omega
  ·simp only [ej,if_false] at hj
   by_cases ek:k=i
   ·subst ek
    have:=h.val j Lj (hphi _ _ hLj ej)
    have:Lk=L:=by rw [Ren.A9] at hLk;exact (Option.some.inj hLk).symm
    subst this;omega
   ·simp only [ek,if_false] at hk
    exact h.sep j k oj ok Lj Lk hj hk hne hrw (hphi _ _ hLj ej) (hphi _ _ hLk ek)
 ·intro j oj Lj hj hrw hLj
  unfold Hp.Jb at hj
  by_cases ej:j=i
  ·subst ej
   have:Lj=L:=by rw [Ren.A9] at hLj;exact (Option.some.inj hLj).symm
   subst this;exact h.fresh _ (by omega)
  ·simp only [ej,if_false] at hj
   exact h.D0 j oj Lj hj hrw (hphi _ _ hLj ej)
 ·intro j Lj hLj
  by_cases ej:j=i
  ·subst ej
   have:Lj=L:=by rw [Ren.A9] at hLj;exact (Option.some.inj hLj).symm
   subst this;simp;omega
  ·have:=h.val j Lj (hphi _ _ hLj ej);simp;omega
 ·intro b hb;exact h.fresh b (by simp at hb;omega)
theorem K.alloc (own:Nat→Prop)(w:World)(x:Obj)(n:Nat)(hx:AEO (some x)=(0,0)):K own w {w with heap:=w.heap.push x,drawn:=n}:=
 ⟨by simp,fun b hb _=>by simp [Array.getElem?_push,Nat.ne_of_lt hb],rfl,rfl,rfl⟩
theorem HR.put {φ:Ren}{own:Nat→Prop}{hp:Hp}{w w':World}(h:HR φ own hp w)(i:Nat)(o o':A8)(L:Loc)
  (hi:hp i=some o) (hrw:o.rw=true) (hL:φ i=some L) (hsz:w'.heap.size=w.heap.size) (hoth:∀b,b≠L.BT→w'.heap[b]? = w.heap[b]?)
  (hx:EA φ L o' w'.heap[L.BT]?):HR φ own (hp.Jb i o') w':=by
 refine ⟨?_, ?_, ?_, ?_, ?_⟩
 ·intro j oj e
  unfold Hp.Jb at e
  split at e
  ·rename_i hj;subst hj;cases e;exact ⟨L,hL,hx⟩
  ·rename_i hj
   obtain ⟨M,hM,hok⟩:=h.obj j oj e
   have:=h.sep i j o oj L M hi e (fun e=>hj e.symm) hrw hL hM
   exact ⟨M,hM,by rw [hoth _ (Ne.symm this)];exact hok⟩
 ·intro j k oj ok Lj Lk hj hk hne hrj hLj hLk
  unfold Hp.Jb at hj hk
  by_cases ej:j=i
  ·subst ej
   have ek:k≠j:=fun e=>hne e.symm
   simp only [ek,if_false] at hk
   exact h.sep j k o ok Lj Lk hi hk hne hrw hLj hLk
  ·simp only [ej,if_false] at hj
   by_cases ek:k=i
   ·subst ek;exact h.sep j k oj o Lj Lk hj hi hne hrj hLj hLk
   ·simp only [ek,if_false] at hk
    exact h.sep j k oj ok Lj Lk hj hk hne hrj hLj hLk
 ·intro j oj Lj hj hrj hLj
  unfold Hp.Jb at hj
  by_cases ej:j=i
  ·subst ej;exact h.D0 j o Lj hi hrw hLj
  ·simp only [ej,if_false] at hj;exact h.D0 j oj Lj hj hrj hLj
 ·intro j Lj hLj;rw [hsz];exact h.val j Lj hLj
 ·intro b hb;exact h.fresh b (by omega)
end Go.Dm
namespace Go.Dm
structure TI where
 ud:TypeDesc
 size:Nat
 bytes:Nat
 zero:Value
 cmp:Bool
def Hh:TypeDesc→Bool
 | .struct _ | .array _ _=>true
 |_=>false
structure Ly (P:Program) (t:TypeId) (i:TI):Prop where
 ud:P.underlying t=some i.ud
 size:P.cellsOf t=i.size
 bytes:P.bytesOf t=i.bytes
 zero:∃x,P.info? t=some x∧x.zero=some i.zero
 plain:plain 4 i.zero=true
 xX:(match i.zero with | .agg ⟨l⟩=>l | v=> [v]).length=i.size
 cmp:i.cmp=true→P.stoodInHeld t=false∧P.eqGuardType P.depth t=false
 small:i.size < BQ
abbrev AM:=Nat→Option TI
def Cy(P:Program)(tt:AM):Prop:= ∀t i,tt t=some i→Ly P t i
section
variable{P:Program}{t:TypeId}{i:TI} (h:Ly P t i)(w:World)
include h
theorem Ly.info:∃x,P.info? t=some x∧x.size=i.size∧x.bytes=i.bytes∧x.zero=some i.zero:=by
 obtain ⟨x,hx,hz⟩:=h.zero
 have h1:=h.size;have h2:=h.bytes
 simp [Program.cellsOf,Program.bytesOf,hx] at h1 h2
 exact ⟨x,hx,h1,h2,hz⟩
theorem Ly.A7:(underlying t).run P w= .ok i.ud w:=run_underlying h.ud w
theorem Ly.Bd:(sizeOf t).run P w= .ok i.size w:=by
 obtain ⟨x,hx,h1,_,_⟩:=h.info
 simp [sizeOf,typeInfo,hx,h1]
theorem Ly.Ek:(zeroValue t).run P w= .ok i.zero w:=by
 obtain ⟨x,hx,_,_,h1⟩:=h.info
 simp [zeroValue,typeInfo,hx,h1]
theorem Ly.OW:(isAgg t).run P w= .ok (Hh i.ud) w:=by
 simp only [isAgg,Sem.run_bind,h.A7,Result.andThen_ok]
 cases i.ud <;> rfl
end
def Ar:Value→List Value
 | .agg ⟨l⟩=>l
 |v=> [v]
theorem Du (v:Value):v.cells.toList=Ar v:=by
 cases v <;> first | rfl | (rename_i a;cases a;rfl)
theorem F1 {φ:Ren}{v v':Value}(h:V φ v v'):Vs φ (Ar v) (Ar v'):=by
 cases h with
 |agg a a' h=>exact h
 |bool b=>exact .cons _ _ _ _ (.bool b) .nil
 |int k n=>exact .cons _ _ _ _ (.int k n) .nil
 |str s=>exact .cons _ _ _ _ (.str s) .nil
 |nilp=>exact .cons _ _ _ _ .nilp .nil
 |ptr i o L h=>exact .cons _ _ _ _ (.ptr i o L h) .nil
 |nils=>exact .cons _ _ _ _ .nils .nil
 |slice i o n c c' L h hn hc hl=>exact .cons _ _ _ _ (.slice i o n c c' L h hn hc hl) .nil
 |emp a c=>exact .cons _ _ _ _ (.emp a c) .nil
 |nilm=>exact .cons _ _ _ _ .nilm .nil
 |map i L h=>exact .cons _ _ _ _ (.map i L h) .nil
 |func fn a a' b b' ha hb=>exact .cons _ _ _ _ (.func fn a a' b b' ha hb) .nil
 |nilf=>exact .cons _ _ _ _ .nilf .nil
 |iface t v v' h=>exact .cons _ _ _ _ (.iface t v v' h) .nil
 |nili=>exact .cons _ _ _ _ .nili .nil
 |tuple a a' h=>exact .cons _ _ _ _ (.tuple a a' h) .nil
def PB (i:TI)(hp:Hp)(b o:Nat):Option Value:=
 match hp b with
 |some (.cells _ _ vs)=>
  match Hh i.ud with
  |true=>let xs:=(vs.drop o).take i.size
   match Nat.beq xs.length i.size with
   |true=>some (.agg ⟨xs⟩)
   |false=>none
  |false=>match vs.drop o with
   |x :: _=>some x
   | []=>none
 |_=>none
theorem addr_add (b o n:Nat):Addr.add ⟨b,o,none⟩ n=⟨b,o+n,none⟩:=by
 unfold Addr.add;split
 ·rename_i h;subst h;rfl
 ·rfl
theorem run_loadCellsFrom (P:Program)(w:World)(g off:Nat)(c:Array Value)(t:TypeId)(fz:Nat×Nat)(hg:w.heap[g]? = some (.cells c t fz)) :
  ∀(n i:Nat) (acc:Array Value),off+i+n≤c.size→
   (loadCellsFrom ⟨g,off,none⟩ i n acc).run P w= .ok (acc ++ ((c.toList.drop (off+i)).take n).toArray) w:=by
 intro n
 induction n with
 |zero=>intro i acc _;simp [loadCellsFrom]
 |succ n ih=>
  intro i acc h
  have hlt:off+i < c.size:=by omega
  have hc:w.cell? ⟨g,off+i,none⟩=some c[off+i]:=by simp [World.cell?,hg,hlt]
  simp only [loadCellsFrom,addr_add,Sem.run_bind,run_load,hc,Result.andThen_ok]
  rw [ih (i+1) _ (by omega)]
  have e:c.toList.drop (off+i)=c[off+i] :: c.toList.drop (off+(i+1)):=by
   rw [List.drop_eq_getElem_cons (by simpa using hlt)];simp [Nat.add_assoc]
  rw [e]
  simp
theorem Ls (P:Program)(w:World)(g off:Nat)(c:Array Value)(ty:TypeId)(fz:Nat×Nat)(hg:w.heap[g]? = some (.cells c ty fz)){t:TypeId}{i:TI}(ht:Ly P t i)
  (h:off+(if Hh i.ud then i.size else 1)≤c.size) :
  (loadVar t ⟨g,off,none⟩).run P w= .ok (if Hh i.ud then .agg ((c.toList.drop off).take i.size).toArray else c[off]?.getD undef) w:=by
 simp only [loadVar,Sem.run_bind,ht.OW,Result.andThen_ok]
 by_cases ha:Hh i.ud=true
 ·simp only [ha,if_true] at h ⊢
  simp only [Sem.run_bind,ht.Bd,Result.andThen_ok,loadCells,run_loadCellsFrom P w g off c ty fz hg i.size 0 #[] (by omega),Sem.run_pure]
  simp
 ·have ha':Hh i.ud=false:=by simpa using ha
  simp only [ha',Bool.false_eq_true,if_false] at h ⊢
  have hlt:off < c.size:=by omega
  have hc:w.cell? ⟨g,off,none⟩=some c[off]:=by simp [World.cell?,hg,hlt]
  simp [hc,hlt]
theorem bU {P:Program}{w:World}{φ:Ren}{own:Nat→Prop}{hp:Hp}(H:HR φ own hp w){t:TypeId}{i:TI}(ht:Ly P t i)
  {b o:Nat} {v:Value} {L:Loc} (hv:PB i hp b o=some v) (hL:φ b=some L) :
  ∃v',(loadVar t ⟨L.BT,L.off+o,none⟩).run P w= .ok v' w∧V φ v v':=by
 unfold PB at hv
 split at hv
 ·rename_i rw CA vs hb
  obtain ⟨L',hL',hok⟩:=H.obj _ _ hb
  rw [hL] at hL';cases hL'
  obtain ⟨_,c,ty,fz,hg,hsz,hlim,hvs,_⟩:=hok
  have hlen:vs.length≤((c.toList.drop L.off).take vs.length).length:=by rw [hvs.length];exact Nat.le_refl _
  split at hv
  ·rename_i ha
   dsimp only at hv
   split at hv
   ·rename_i hxl
    cases hv
    have hxl':((vs.drop o).take i.size).length=i.size:=by simpa using hxl
    simp only [List.length_take,List.length_drop] at hxl'
    by_cases h0:i.size=0
    ·have:L.off+o+0≤c.size∨c.size < L.off+o:=by omega
     refine ⟨.agg #[], ?_, ?_⟩
     ·simp only [loadVar,Sem.run_bind,ht.OW,Result.andThen_ok,ha,if_true,ht.Bd,h0,loadCells,loadCellsFrom,Sem.run_pure]
     ·simp [h0];exact .agg _ _ .nil
    ·have hle:L.off+o+i.size≤c.size:=by omega
     refine ⟨_,Ls P w L.BT (L.off+o) c ty fz hg ht (by simpa [ha] using hle), ?_⟩
     simp only [ha,if_true]
     refine .agg _ _ ?_
     have:=(hvs.drop o).take i.size
     rw [List.drop_take,List.take_take,List.drop_drop] at this
     rwa [Nat.min_eq_left (by omega)] at this
   ·cases hv
  ·rename_i ha
   split at hv
   ·rename_i x xs hd
    cases hv
    have hlt:o < vs.length:=by
     rcases Nat.lt_or_ge o vs.length with h | h
     ·exact h
     ·rw [List.drop_eq_nil_of_le h] at hd;cases hd
    have hx:vs[o]? = some v:=by
     have:(vs.drop o)[0]? = some v:=by rw [hd];rfl
     simpa using this
    obtain ⟨x',hx',hxv⟩:=hvs.get hx
    have hle:L.off+o+1≤c.size:=by omega
    refine ⟨_,Ls P w L.BT (L.off+o) c ty fz hg ht (by simpa [ha] using hle), ?_⟩
    simp only [ha,Bool.false_eq_true,if_false]
    rw [List.getElem?_take_of_lt (by omega),List.getElem?_drop] at hx'
    have:c[L.off+o]? = some x':=by simpa using hx'
    rw [this];exact hxv
   ·cases hv
 ·cases hv
def DE (i:TI)(cs:List Value)(off:Nat):Option Value:=
 match Hh i.ud with
 |true=>some (.agg ⟨(cs.drop off).take i.size⟩)
 |false=>match cs.drop off with
  |x :: _=>some x
  | []=>none
theorem JF {P:Program}{w:World}{φ:Ren}{t:TypeId}{i:TI}(ht:Ly P t i){cs cs':List Value}{off:Nat}{v:Value}
  (hc:Vs φ cs cs') (hv:DE i cs off=some v):∃v',(part t ⟨cs'⟩ off).run P w= .ok v' w∧V φ v v':=by
 unfold DE at hv
 simp only [part,Sem.run_bind,ht.OW,Result.andThen_ok]
 split at hv
 ·rename_i ha
  cases hv
  simp only [ha,if_true,Sem.run_bind,ht.Bd,Result.andThen_ok,Sem.run_pure]
  refine ⟨_,rfl, ?_⟩
  have:(Array.extract ⟨cs'⟩ off (off+i.size))=(⟨(cs'.drop off).take i.size⟩:Array Value):=by
   simp [List.extract_eq_take_drop]
  rw [this]
  exact .agg _ _ ((hc.drop off).take _)
 ·rename_i ha
  split at hv
  ·rename_i x xs hd
   cases hv
   have hx:cs[off]? = some v:=by
    have:(cs.drop off)[0]? = some v:=by rw [hd];rfl
    simpa using this
   obtain ⟨x',hx',hxv⟩:=hc.get hx
   have:(⟨cs'⟩:Array Value)[off]? = some x':=by simpa using hx'
   simp only [ha,Bool.false_eq_true,if_false,this]
   exact ⟨x',rfl,hxv⟩
  ·cases hv
def VQ(k:IntKind):Nat:=
 match k with
 | .i8=>127 | .i16=>32767 | .i32=>2147483647 | .i64=>9223372036854775807
 | .u8=>255 | .u16=>65535 | .u32=>4294967295 | .u64=>18446744073709551615
def Ad (k:IntKind)(n:Int):Int:=
 match n with
 | .ofNat a=>match Nat.ble a (VQ k) with
  |true=> .ofNat a
  |false=>k.wrap (.ofNat a)
 | .negSucc a=>k.wrap (.negSucc a)
theorem En (k:IntKind)(n:Int):Ad k n=k.wrap n:=by
 unfold Ad
 cases n with
 |negSucc a=>rfl
 |ofNat a=>
  dsimp only
  split
  ·rename_i h
   have h':a≤VQ k:=Nat.le_of_ble_eq_true h
   have h0:(0:Int)≤(a:Int):=Int.natCast_nonneg a
   show (a:Int)=k.wrap (a:Int)
   unfold IntKind.wrap
   cases k <;> simp only [VQ] at h' <;> simp [IntKind.bits,IntKind.signed] <;> omega
  ·rfl
def iP(x y:Int):Bool:=
 match x,y with
 | .ofNat a, .ofNat b=>Nat.beq a b
 | .negSucc a, .negSucc b=>Nat.beq a b
 |_,_=>false
theorem Yc(x y:Int):iP x y=(x == y):=by
 cases x <;> cases y <;> simp only[iP] <;> rw[Bool.eq_iff_iff] <;> simp[Nat.beq_eq]
 omega
def X3 (x y:Int):Bool:=
 match x,y with
 | .ofNat a, .ofNat b=>Nat.ble (a+1) b
 | .negSucc a, .negSucc b=>Nat.ble (b+1) a
 | .negSucc _, .ofNat _=>true
 | .ofNat _, .negSucc _=>false
theorem U5 (x y:Int):X3 x y=decide (x < y):=by
 cases x <;> cases y <;> simp only [X3] <;> rw [Bool.eq_iff_iff] <;> simp <;> omega
def RN(s:Sem Value):Option Value:=
 match s with
 | .pure v=>some v
 |_=>none
theorem JG{s:Sem Value}{v:Value}(h:RN s=some v)(P:Program)(w:World):s.run P w= .ok v w:=by
 unfold RN at h;split at h
 ·cases h;rfl
 ·cases h
def dr (op:BinOp)(k:IntKind)(a b:Int):Option Value:=
 match op with
 | .add=>some (.int k (Ad k (a+b)))
 | .sub=>some (.int k (Ad k (a - b)))
 | .mul=>some (.int k (Ad k (a * b)))
 | .eql=>some (.bool (iP a b))
 | .neq=>some (.bool (!iP a b))
 | .lss=>some (.bool (X3 a b))
 | .leq=>some (.bool (!X3 b a))
 | .gtr=>some (.bool (X3 b a))
 | .geq=>some (.bool (!X3 a b))
 | .quo | .rem=>RN (Op.intDiv op k a b)
 |_=>RN (Op.intBits op k a b)
theorem oZ {op:BinOp}{k:IntKind}{a b:Int}{v:Value}(h:dr op k a b=some v)(ho:op≠ .shl)(ho2:op≠ .shr)(t:TypeId)(P:Program)(w:World) :
    (binOp op t (.int k a) (.int k b)).run P w= .ok v w∧(∃n,v= .int k n)∨(binOp op t (.int k a) (.int k b)).run P w= .ok v w∧(∃n,v= .bool n):=by
  have e1:(!decide (b < a))=decide (a≤b):=by rw [Bool.eq_iff_iff];simp
  have e2:(!decide (a < b))=decide (b≤a):=by rw [Bool.eq_iff_iff];simp
  cases op <;> simp only [dr,En,Yc,U5,Option.some.injEq,e1,e2] at h
  case add=>left;subst h;exact ⟨by simp [binOp,Op.intArith],_,rfl⟩
  case sub=>left;subst h;exact ⟨by simp [binOp,Op.intArith],_,rfl⟩
  case mul=>left;subst h;exact ⟨by simp [binOp,Op.intArith],_,rfl⟩
  case quo=>
    left
    refine ⟨by simpa [binOp] using JG h P w, ?_⟩
    unfold Op.intDiv at h;split at h
    · cases h
    · cases h;exact ⟨_,rfl⟩
  case rem=>
    left
    refine ⟨by simpa [binOp] using JG h P w, ?_⟩
    unfold Op.intDiv at h;split at h
    · cases h
    · cases h;exact ⟨_,rfl⟩
  case eql=>right;subst h;exact ⟨by simp [binOp,Op.intCmp],_,rfl⟩
  case neq=>right;subst h;exact ⟨by simp [binOp,Op.intCmp];rfl,_,rfl⟩
  case lss=>right;subst h;exact ⟨by simp [binOp,Op.intCmp],_,rfl⟩
  case leq=>right;subst h;exact ⟨by simp [binOp,Op.intCmp],_,rfl⟩
  case gtr=>right;subst h;exact ⟨by simp [binOp,Op.intCmp],_,rfl⟩
  case geq=>right;subst h;exact ⟨by simp [binOp,Op.intCmp],_,rfl⟩
  all_goals first
    |exact absurd rfl ho
    |exact absurd rfl ho2
    | (left
       refine ⟨by simpa [binOp] using JG h P w, ?_⟩
       unfold Op.intBits at h
       cases h;exact ⟨_,rfl⟩)
def Z9:List UInt8→List UInt8→Bool
 | [], []=>true
 |a :: x,b :: y=>match Nat.beq a.toNat b.toNat with
  |true=>Z9 x y
  |false=>false
 |_,_=>false
theorem Uc:∀x y:List UInt8,Z9 x y=(x == y):=by
 intro x
 induction x with
 |nil=>intro y;cases y <;> rfl
 |cons a x ih=>
  intro y
  cases y with
  |nil=>rfl
  |cons b y=>
   simp only [Z9]
   split
   ·rename_i h
    have:a=b:=UInt8.toNat_inj.1 (Nat.eq_of_beq_eq_true h)
    subst this;rw [ih];simp
   ·rename_i h
    have:a≠b:=fun e=>by subst e;simp at h
    simp [this]
def jX:List UInt8→List UInt8→Bool
 |_, []=>false
 | [],_ :: _=>true
 |a :: x,b :: y=>match Nat.ble (a.toNat+1) b.toNat with
  |true=>true
  |false=>match Nat.beq a.toNat b.toNat with
   |true=>jX x y
   |false=>false
theorem vF:∀x y:List UInt8,jX x y=Op.bytesLess x y:=by
 intro x
 induction x with
 |nil=>intro y;cases y <;> rfl
 |cons a x ih=>
  intro y
  cases y with
  |nil=>rfl
  |cons b y=>
   simp only [jX,Op.bytesLess]
   split
   ·rename_i h
    have:a < b:=UInt8.lt_iff_toNat_lt.2 (by rw [Nat.ble_eq] at h;omega)
    simp [this]
   ·rename_i h
    have h1:¬a < b:=fun e=>by
     have:=UInt8.lt_iff_toNat_lt.1 e
     have:Nat.ble (a.toNat+1) b.toNat=true:=by rw [Nat.ble_eq];omega
     rw [this] at h;cases h
    split
    ·rename_i h2
     have:a=b:=UInt8.toNat_inj.1 (Nat.eq_of_beq_eq_true h2)
     subst this;simp [ih]
    ·rename_i h2
     have:a≠b:=fun e=>by subst e;simp at h2
     simp [h1,this]
def qi (op:BinOp)(a b:ByteArray):Option Value:=
 match op with
 | .add=>match Nat.ble (a.data.toList.length+b.data.toList.length) 4611686018427387904 with
  |true=>some (.string ⟨⟨a.data.toList ++ b.data.toList⟩⟩)
  |false=>none
 | .eql=>some (.bool (Z9 a.data.toList b.data.toList))
 | .neq=>some (.bool (!Z9 a.data.toList b.data.toList))
 | .lss=>some (.bool (jX a.data.toList b.data.toList))
 | .gtr=>some (.bool (!(jX a.data.toList b.data.toList || Z9 a.data.toList b.data.toList)))
 | .leq=>some (.bool (jX a.data.toList b.data.toList || Z9 a.data.toList b.data.toList))
 | .geq=>some (.bool (!jX a.data.toList b.data.toList))
 |_=>none
theorem qj {op:BinOp}{a b:ByteArray}{v:Value}(h:qi op a b=some v)(t:TypeId)(P:Program)(w:World) :
  (binOp op t (.string a) (.string b)).run P w= .ok v w∧plain 1 v=true:=by
 cases op <;> simp only [qi,Option.some.injEq,reduceCtorEq] at h
 case add=>
  split at h
  ·rename_i hle
   cases h
   have hle':=Nat.le_of_ble_eq_true hle
   have h1:a.size=a.data.toList.length:=rfl
   have h2:b.size=b.data.toList.length:=rfl
   refine ⟨?_,rfl⟩
   have hm:¬(((a.size+b.size:Nat):Int) > IntKind.i64.max):=by
    rw [h1,h2];simp only [IntKind.max,IntKind.signed,IntKind.bits];simp only [if_true];omega
   have e:a ++ b=⟨⟨a.data.toList ++ b.data.toList⟩⟩:=by
    apply ByteArray.ext;simp
   simp only [binOp,Op.stringOp]
   rw [if_neg hm,e];rfl
  ·cases h
 all_goals
  subst h
  simp only [Uc,vF]
  refine ⟨?_,rfl⟩
  simp [binOp,Op.stringOp,ByteArray.toList_eq]
end Go.Dm
namespace Go.Dm
mutual
def Ij (tt:AM):Nat→TypeId→Value→Value→Option Bool
 |0,_,_,_=>none
 |d+1,t,x,y=>
  match tt t with
  |none=>none
  |some i=>
   match i.ud,x,y with
   | .bool, .bool a, .bool b=>some (a == b)
   | .int _, .int k a, .int k' b=>if k=k' then some (iP a b) else none
   | .string, .string a, .string b=>some (Z9 a.data.toList b.data.toList)
   | .pointer _, .pointer none, .pointer b=>some b.isNone
   | .pointer _, .pointer (some _), .pointer none=>some false
   | .interface _, .nilIface, .nilIface=>some true
   | .interface _, .nilIface, .iface _ _=>some false
   | .interface _, .iface _ _, .nilIface=>some false
   | .slice _, .slice none _ _, .slice b _ _=>some b.isNone
   | .slice _, .slice (some _) _ _, .slice none _ _=>some false
   | .map _ _, .map none, .map b=>some b.isNone
   | .map _ _, .map (some _), .map none=>some false
   | .func _ _ _, .nilFunc, .nilFunc=>some true
   | .func _ _ _, .nilFunc, .func _ _ _=>some false
   | .func _ _ _, .func _ _ _, .nilFunc=>some false
   | .struct fs, .agg ⟨xs⟩, .agg ⟨ys⟩=>match i.cmp with
    |true=>eqFields tt d xs ys fs.toList
    |false=>none
   | .array n e, .agg ⟨xs⟩, .agg ⟨ys⟩=>match tt e with
    |some j=>eqItems tt d e j xs ys 0 n
    |none=>none
   |_,_,_=>none
def eqItems (tt:AM):Nat→TypeId→TI→List Value→List Value→Nat→Nat→Option Bool
 |0,_,_,_,_,_,_=>none
 |_+1,_,_,_,_,_,0=>some true
 |d+1,e,j,xs,ys,i,n+1=>match DE j xs (i * j.size),DE j ys (i * j.size) with
  |some a,some b=>match Ij tt d e a b with
   |some true=>eqItems tt d e j xs ys (i+1) n
   |some false=>some false
   |none=>none
  |_,_=>none
def eqFields(tt:AM):Nat→List Value→List Value→List Field→Option Bool
 |0,_,_,_=>none
 |_+1,_,_, []=>some true
 |d+1,xs,ys,f :: fs=>
  match f.name == "_" with
  |true=>none
  |false=>match tt f.type with
   |none=>none
   |some i=>match DE i xs f.offset,DE i ys f.offset with
    |some a,some b=>match Ij tt d f.type a b with
     |some true=>eqFields tt d xs ys fs
     |some false=>some false
     |none=>none
    |_,_=>none
end
theorem nz {P:Program}{tt:AM}(htt:Cy P tt){φ:Ren}:∀(d:Nat),
  (∀(t:TypeId) (x y x' y':Value) (r:Bool) (k:Nat) (w:World),Ij tt d t x y=some r→V φ x x'→V φ y y'→(Op.equalIn (d+k) t x' y').run P w= .ok r w)∧
  (∀(fs:List Field) (xs ys xs' ys':List Value) (r:Bool) (k:Nat) (w:World),eqFields tt d xs ys fs=some r→Vs φ xs xs'→Vs φ ys ys'→(Op.eqFields (d+k) ⟨xs'⟩ ⟨ys'⟩ fs).run P w= .ok r w)∧
  (∀(e:TypeId) (j:TI) (xs ys xs' ys':List Value) (i n:Nat) (r:Bool) (k:Nat) (w:World),Ly P e j→eqItems tt d e j xs ys i n=some r→Vs φ xs xs'→Vs φ ys ys'→(Op.eqItems (d+k) e (P.cellsOf e) ⟨xs'⟩ ⟨ys'⟩ (List.range' i n)).run P w= .ok r w):=by
 intro d
 induction d with
 |zero=>exact ⟨fun t x y x' y' r k w h=>by simp [Ij] at h,fun fs xs ys xs' ys' r k w h=>by simp [eqFields] at h,fun e j xs ys xs' ys' i n r k w _ h=>by simp [eqItems] at h⟩
 |succ d ih=>
  obtain ⟨ih1,ih2,ih3⟩:=ih
  refine ⟨?_, ?_, ?_⟩
  ·intro t x y x' y' r k w h hx hy
   rw [Ij] at h
   cases hti:tt t with
   |none=>simp [hti] at h
   |some i=>
    have ht:=htt t i hti
    rw [hti] at h
    dsimp only at h
    have hud:=ht.ud
    have e:d+1+k=(d+k)+1:=by omega
    rw [e]
    split at h
    ·rename_i hd;cases hx <;> cases hy <;> cases h <;> rw [hd] at hud <;> simp [Op.equalIn,run_underlying hud]
    ·rename_i hd;cases hx;cases hy
     split at h
     ·rename_i hk;subst hk;cases h;rw [hd] at hud;rw [Yc];simp [Op.equalIn,run_underlying hud]
     ·cases h
    ·rename_i hd;cases hx;cases hy;cases h;rw [hd] at hud
     rw [run_equalIn_string _ _ _ _ _ hud,Uc,ByteArray.toList_eq,ByteArray.toList_eq]
    ·rename_i hd;cases hx;cases hy <;> cases h <;> rw [hd] at hud <;> simp [Op.equalIn,run_underlying hud]
    ·rename_i hd;cases hx <;> cases hy <;> cases h <;> rw [hd] at hud <;> simp [Op.equalIn,run_underlying hud]
    ·rename_i hd;cases hx <;> cases hy <;> cases h <;> rw [hd] at hud <;> simp [Op.equalIn,run_underlying hud]
    ·rename_i hd;cases hx <;> cases hy <;> cases h <;> rw [hd] at hud <;> simp [Op.equalIn,run_underlying hud]
    ·rename_i hd;cases hx <;> cases hy <;> cases h <;> rw [hd] at hud <;> simp [Op.equalIn,run_underlying hud]
    ·rename_i hd;cases hx;cases hy <;> cases h <;> rw [hd] at hud <;> simp [Op.equalIn,run_underlying hud]
    ·rename_i hd;cases hx <;> cases hy <;> cases h <;> rw [hd] at hud <;> simp [Op.equalIn,run_underlying hud]
    ·rename_i hd;cases hx;cases hy <;> cases h <;> rw [hd] at hud <;> simp [Op.equalIn,run_underlying hud]
    ·rename_i hd;cases hx <;> cases hy <;> cases h <;> rw [hd] at hud <;> simp [Op.equalIn,run_underlying hud]
    ·rename_i hd;cases hx <;> cases hy <;> cases h <;> rw [hd] at hud <;> simp [Op.equalIn,run_underlying hud]
    ·rename_i hd;cases hx <;> cases hy <;> cases h <;> rw [hd] at hud <;> simp [Op.equalIn,run_underlying hud]
    ·rename_i hd;cases hx <;> cases hy <;> cases h <;> rw [hd] at hud <;> simp [Op.equalIn,run_underlying hud]
    ·rename_i fs xs ys hd
     split at h
     ·rename_i hc
      cases hx with
      |agg _ xs' hx=>
       cases hy with
       |agg _ ys' hy=>
        have hf:P.fieldsOf t=fs:=by simp [Program.fieldsOf,hud,hd]
        rw [run_equalIn_struct w (d+k) t _ _ (by rw [hf,hud,hd]) (ht.cmp hc).1,hf]
        exact ih2 _ _ _ _ _ _ _ _ h hx hy
     ·cases h
    ·rename_i n e2 xs ys hd
     split at h
     ·rename_i j hj
      cases hx with
      |agg _ xs' hx=>
       cases hy with
       |agg _ ys' hy=>
        have hj':=htt _ _ hj
        obtain ⟨y,hy2,_⟩:=hj'.zero
        rw [run_equalIn_array w (d+k) ⟨xs'⟩ ⟨ys'⟩ (by rw [hud,hd]) hy2,List.range_eq_range']
        exact ih3 _ _ _ _ _ _ _ _ _ _ _ hj' h hx hy
     ·cases h
    ·cases h
  ·intro fs xs ys xs' ys' r k w h hx hy
   cases fs with
   |nil=>simp [eqFields] at h;subst h;simp [Op.eqFields]
   |cons f fs=>
    rw [eqFields] at h
    have e:d+1+k=d+(k+1):=by omega
    rw [e]
    split at h
    ·cases h
    ·rename_i hn
     have hn':f.name≠ "_" :=by simpa using hn
     cases hti:tt f.type with
     |none=>simp [hti] at h
     |some i=>
      have ht:=htt _ i hti
      rw [hti] at h
      dsimp only at h
      split at h
      ·rename_i a b ha hb
       obtain ⟨a',ha',hva⟩:=JF (w:=w) ht hx ha
       obtain ⟨b',hb',hvb⟩:=JF (w:=w) ht hy hb
       split at h
       ·rename_i he
        simp only [Op.eqFields,hn',ne_eq,not_false_eq_true,if_true,Sem.run_bind,ha',hb',Result.andThen_ok,ih1 _ _ _ _ _ _ (k+1) w he hva hvb]
        simp only [Bool.not_true,Bool.false_eq_true,if_false]
        exact ih2 _ _ _ _ _ _ _ _ h hx hy
       ·rename_i he
        cases h
        simp only [Op.eqFields,hn',ne_eq,not_false_eq_true,if_true,Sem.run_bind,ha',hb',Result.andThen_ok,ih1 _ _ _ _ _ _ (k+1) w he hva hvb]
        simp
       ·cases h
      ·cases h
  ·intro e j xs ys xs' ys' i n r k w hj h hx hy
   cases n with
   |zero=>simp [eqItems] at h;subst h;simp [Op.eqItems]
   |succ n=>
    rw [eqItems] at h
    have e0:d+1+k=d+(k+1):=by omega
    rw [e0,List.range'_succ]
    split at h
    ·rename_i a b ha hb
     rw [←hj.size] at ha hb
     obtain ⟨a',ha',hva⟩:=JF (w:=w) hj hx ha
     obtain ⟨b',hb',hvb⟩:=JF (w:=w) hj hy hb
     split at h
     ·rename_i he
      simp only [Op.eqItems,Sem.run_bind,ha',hb',Result.andThen_ok,ih1 _ _ _ _ _ _ (k+1) w he hva hvb]
      simp only [Bool.not_true,Bool.false_eq_true,if_false]
      exact ih3 _ _ _ _ _ _ _ _ _ _ _ hj h hx hy
     ·rename_i he
      cases h
      simp only [Op.eqItems,Sem.run_bind,ha',hb',Result.andThen_ok,ih1 _ _ _ _ _ _ (k+1) w he hva hvb]
      simp
     ·cases h
    ·cases h
theorem Qq{P:Program}{tt:AM}(htt:Cy P tt){φ:Ren}{t:TypeId}{x y x' y':Value}{r:Bool}(w:World)
  (h:Ij tt 64 t x y=some r)(hx:V φ x x')(hy:V φ y y'):(Op.equal t x' y').run P w= .ok r w:=
 (nz htt 64).1 t x y x' y' r 9936 w h hx hy
end Go.Dm
namespace Go.Dm
def mu:IntKind→Nat
 | .i8=>0 | .i16=>1 | .i32=>2 | .i64=>3 | .u8=>4 | .u16=>5 | .u32=>6 | .u64=>7
theorem om {a b:IntKind}(h:Nat.beq (mu a) (mu b)=true):a=b:=by
 cases a <;> cases b <;> first | rfl | cases h
def VP (op:BinOp)(k:IntKind)(a:Int)(b:Int):Option Value:=
 match b with
 | .negSucc _=>none
 | .ofNat y=>
  let n:=Nat.min y k.bits
  match op with
  | .shl=>some (.int k (Ad k (a * Int.ofNat (Nat.pow 2 n))))
  | .shr=>some (.int k (a.fdiv (Int.ofNat (Nat.pow 2 n))))
  |_=>none
theorem Tg {op:BinOp}{k k':IntKind}{a b:Int}{v:Value}(h:VP op k a b=some v)(t:TypeId)(P:Program)(w:World) :
  (binOp op t (.int k a) (.int k' b)).run P w= .ok v w∧plain 1 v=true:=by
 unfold VP at h
 split at h
 ·cases h
 ·rename_i y
  have hn:¬((Int.ofNat y) < 0):=by simp
  dsimp only at h
  have e:∀n:Nat,Int.ofNat (Nat.pow 2 n)=(2:Int) ^ n:=fun n=>by
   show ((2 ^ n:Nat):Int)=_;simp
  split at h
  ·cases h;refine ⟨?_,rfl⟩;rw [En,e];simp only [binOp,Op.shift,if_neg hn];rfl
  ·cases h;refine ⟨?_,rfl⟩;rw [e];simp only [binOp,Op.shift,if_neg hn];rfl
  ·cases h
def oa:Operand→Bool
 | .const _=>true
 |_=>false
def DC (tt:AM)(op:BinOp)(t:TypeId)(xo yo:Operand)(x y:Value):Option Value:=
 match x,y with
 | .int k a, .int k' b=>
  match op with
  | .shl=>VP .shl k a b
  | .shr=>VP .shr k a b
  |_=>match Nat.beq (mu k) (mu k') with
   |true=>dr op k a b
   |false=>none
 | .string a, .string b=>qi op a b
 | .float _ _, .float _ _=>none
 | .complex _ _ _, .complex _ _ _=>none
 |_,_=>
  let ok:=match x,y with
   | .nilIface, .nilIface=>oa xo || oa yo
   | .agg _, .agg _=>match tt t with
    |some i=>i.cmp
    |none=>false
   |_,_=>true
  match ok with
  |false=>none
  |true=>
   match op with
   | .eql=>match Ij tt 64 t x y with
    |some r=>some (.bool r)
    |none=>none
   | .neq=>match Ij tt 64 t x y with
    |some r=>some (.bool (!r))
    |none=>none
   |_=>none
theorem V.GY {φ:Ren}{k:IntKind}{n:Int}{v:Value}(h:V φ (.int k n) v):v= .int k n:=by cases h;rfl
theorem V.NZ {φ:Ren}{s:ByteArray}{v:Value}(h:V φ (.string s) v):v= .string s:=by cases h;rfl
theorem V.ID {φ:Ren}{s:Bool}{v:Value}(h:V φ (.bool s) v):v= .bool s:=by cases h;rfl
theorem Hk (op:BinOp)(t:TypeId)(xo yo:Operand)(a b:Value)(P:Program)(w:World)
  (h:match a,b with
   | .nilIface, .nilIface=>(oa xo || oa yo)=true
   | .agg _, .agg _=>P.eqGuardType P.depth t=false
   |_,_=>True):(eqGuard op t xo yo a b).run P w= .ok () w:=by
 unfold eqGuard
 cases op
 case eql | neq=>
  dsimp only
  rw [if_neg (by decide)]
  split
  ·dsimp only at h
   cases xo <;> cases yo <;> first | (exfalso;exact Bool.noConfusion h) | rfl
  ·dsimp only at h;simp [h]
  ·rfl
 all_goals rfl
def sJ(x y:Value):Prop:=match x,y with
   | .int _ _, .int _ _ | .string _, .string _ | .float _ _, .float _ _ | .complex _ _ _, .complex _ _ _=>False
   |_,_=>True
theorem QS {t:TypeId}{x y:Value}(h:sJ x y) :
  binOp .eql t x y=(do pure (.bool (←Op.equal t x y)))∧binOp .neq t x y=(do pure (.bool (!(←Op.equal t x y)))):=by
 cases x <;> cases y <;> first | exact ⟨rfl,rfl⟩ | exact h.elim
theorem nV {P:Program}{tt:AM}(htt:Cy P tt){φ:Ren}{op:BinOp}{t:TypeId}{xo yo:Operand}{x y x' y' v:Value}(w:World)
  (h:DC tt op t xo yo x y=some v) (hx:V φ x x') (hy:V φ y y') :
  (do eqGuard op t xo yo x' y';binOp op t x' y':Sem Value).run P w= .ok v w∧plain 1 v=true:=by
 unfold DC at h
 split at h
 ·rename_i k a k' b
  have e1:=hx.GY;have e2:=hy.GY;subst e1;subst e2
  have hg:=Hk op t xo yo (.int k a) (.int k' b) P w trivial
  simp only [Sem.run_bind,hg,Result.andThen_ok]
  split at h
  ·exact Tg h t P w
  ·exact Tg h t P w
  ·rename_i h1 h2
   split at h
   ·rename_i hk
    have:=om hk;subst this
    rcases oZ h (fun e=>h1 e) (fun e=>h2 e) t P w with ⟨e,n,hn⟩ | ⟨e,n,hn⟩ <;> subst hn <;> exact ⟨e,rfl⟩
   ·cases h
 ·rename_i a b
  have e1:=hx.NZ;have e2:=hy.NZ;subst e1;subst e2
  have hg:=Hk op t xo yo (.string a) (.string b) P w trivial
  simp only [Sem.run_bind,hg,Result.andThen_ok]
  exact qj h t P w
 ·cases h
 ·cases h
 ·rename_i n1 n2 n3 n4
  dsimp only at h
  split at h
  ·cases h
  ·rename_i hok
   have hg:(eqGuard op t xo yo x' y').run P w= .ok () w:=by
    apply Hk
    split
    ·cases hx;cases hy;exact hok
    ·cases hx;cases hy
     dsimp only at hok
     split at hok
     ·rename_i i hi;exact ((htt t i hi).cmp hok).2
     ·cases hok
    ·trivial
   have hother:sJ x' y':=by
    cases hx <;> cases hy <;> first | trivial | exact n1 _ _ _ _ rfl rfl | exact n2 _ _ rfl rfl
   obtain ⟨b1,b2⟩:=QS (t:=t) hother
   simp only [Sem.run_bind,hg,Result.andThen_ok]
   split at h
   ·split at h
    ·rename_i r hr
     cases h
     rw [b1];simp only [Sem.run_bind,Qq htt w hr hx hy,Result.andThen_ok,Sem.run_pure];exact ⟨trivial,rfl⟩
    ·cases h
   ·split at h
    ·rename_i r hr
     cases h
     rw [b2];simp only [Sem.run_bind,Qq htt w hr hx hy,Result.andThen_ok,Sem.run_pure];exact ⟨trivial,rfl⟩
    ·cases h
   ·cases h
def A1 (cs:List Value)(off:Nat)(xs:List Value):List Value:=cs.take off ++ xs ++ cs.drop (off+xs.length)
theorem XV {φ:Ren}{cs cs' xs xs':List Value}(off:Nat)(h:Vs φ cs cs')(hx:Vs φ xs xs'):Vs φ (A1 cs off xs) (A1 cs' off xs'):=by
 unfold A1;rw [hx.length];exact ((h.take _).append hx).append (h.drop _)
theorem Dw{cs xs:List Value}{off:Nat}(h:off+xs.length≤cs.length):(A1 cs off xs).length=cs.length:=by
 simp[A1];omega
theorem Uk:∀(xs:List Value) (off k:Nat) (cs:Array Value),off+k+xs.length≤cs.size→
  ((xs.zipIdx k).foldl (fun cs (p:Value×Nat)=>cs.setIfInBounds (off+p.2) p.1) cs).toList=A1 cs.toList (off+k) xs:=by
 intro xs
 induction xs with
 |nil=>intro off k cs _;simp [A1]
 |cons x xs ih=>
  intro off k cs h
  simp only [List.length_cons] at h
  simp only [List.zipIdx_cons,List.foldl_cons]
  rw [ih off (k+1) _ (by simp;omega)]
  unfold A1
  have hlt:off+k < cs.toList.length:=by simp;omega
  simp only [Array.toList_setIfInBounds]
  rw [show off+(k+1)=off+k+1 from rfl,List.take_add_one,List.take_set_of_le (Nat.le_refl _),List.getElem?_set_self hlt,List.drop_set_of_lt (by omega)]
  simp only [Option.toList_some,List.append_assoc,List.length_cons,List.cons_append]
  rw [show off+k+1+xs.length=off+k+(xs.length+1) from by omega]
  simp
def J4 (place:Nat→Option (Nat×Nat))(cells:List Value):List (Nat×Value)→Option (List Value)
 | []=>some cells
 | (i,v) :: rest=>
  match place i with
  |none=>none
  |some (off,size)=>
   let xs:=Ar v
   match Nat.beq xs.length size with
   |true=>match Nat.ble (off+size) cells.length with
    |true=>J4 place (A1 cells off xs) rest
    |false=>none
   |false=>none
inductive Ps (φ:Ren):List (Nat×Value)→List (Nat×Value)→Prop
 |nil:Ps φ [] []
 |cons (i:Nat) (v v':Value) (l l':List (Nat×Value)) (h:V φ v v') (hl:Ps φ l l'):Ps φ ((i,v) :: l) ((i,v') :: l')
theorem Qv {φ:Ren}{place:Nat→Option (Nat×Nat)}:∀ {l l':List (Nat×Value)} {cs:List Value} {cs':Array Value} {r:List Value},
  Ps φ l l'→Vs φ cs cs'.toList→J4 place cs l=some r→∃r',Instr.fill place cs' l' = some r'∧Vs φ r r'.toList:=by
 intro l
 induction l with
 |nil=>intro l' cs cs' r hl hc h;cases hl;simp [J4] at h;subst h;exact ⟨cs',rfl,hc⟩
 |cons p l ih=>
  intro l' cs cs' r hl hc h
  cases hl with
  |cons i v v' _ l' hv hl=>
  simp only [J4] at h
  simp only [Instr.fill]
  split at h
  ·cases h
  ·rename_i off size hp
   rw [hp]
   have hvs:=F1 hv
   split at h
   ·rename_i h1
    split at h
    ·rename_i h2
     have h1':(Ar v).length=size:=by simpa using h1
     have h2':off+size≤cs.length:=Nat.le_of_ble_eq_true h2
     have hs:v'.cells.size=size:=by
      rw [←Array.length_toList,Du,hvs.length,h1']
     have hcl:cs'.size=cs.length:=by rw [←Array.length_toList];exact hc.length
     simp only [hs,ne_eq,not_true_eq_false,decide_false,Bool.false_or,decide_eq_true_eq]
     rw [if_neg (by omega)]
     refine ih hl ?_ h
     have:=Uk v'.cells.toList off 0 cs' (by simp;omega)
     rw [←Array.foldl_toList,Array.toList_zipIdx,this,Du]
     exact XV _ hc hvs
    ·cases h
   ·cases h
def Fo (ev:Operand→Option Value):List (Nat×Operand)→Option (List (Nat×Value))
 | []=>some []
 | (i,x) :: l=>match ev x with
  |none=>none
  |some v=>match Fo ev l with
   |none=>none
   |some r=>some ((i,v) :: r)
theorem Qt {φ:Ren}{ev:Operand→Option Value}{ρ:Operand→Value}(hev:∀x v,ev x=some v→V φ v (ρ x)) :
  ∀ {l:List (Nat×Operand)} {r:List (Nat×Value)},Fo ev l=some r→Ps φ r (l.map fun p=>(p.1,ρ p.2)):=by
 intro l
 induction l with
 |nil=>intro r h;cases h;exact .nil
 |cons p l ih=>
  obtain ⟨i,x⟩:=p
  intro r h
  simp only [Fo] at h
  split at h
  ·cases h
  ·rename_i v hv
   split at h
   ·cases h
   ·rename_i r' hr;cases h;exact .cons _ _ _ _ _ (hev _ _ hv) (ih hr)
def Ex (ev:Operand→Option Value):List Operand→Option (List Value)
 | []=>some []
 |x :: l=>match ev x with
  |none=>none
  |some v=>match Ex ev l with
   |none=>none
   |some r=>some (v :: r)
theorem N5 {φ:Ren}{ev:Operand→Option Value}{ρ:Operand→Value}(hev:∀x v,ev x=some v→V φ v (ρ x)) :
  ∀ {l:List Operand} {r:List Value},Ex ev l=some r→Vs φ r (l.map ρ):=by
 intro l
 induction l with
 |nil=>intro r h;cases h;exact .nil
 |cons x l ih=>
  intro r h
  simp only [Ex] at h
  split at h
  ·cases h
  ·rename_i v hv
   split at h
   ·cases h
   ·rename_i r' hr;cases h;exact .cons _ _ _ _ (hev _ _ hv) (ih hr)
def Ky (tt:AM):List Field→Option (List (Nat×Nat))
 | []=>some []
 |f :: l=>match tt f.type with
  |none=>none
  |some i=>match Ky tt l with
   |none=>none
   |some r=>some ((f.offset,i.size) :: r)
theorem Y2 {P:Program}{tt:AM}(htt:Cy P tt)(w:World):∀ {l:List Field} {r:List (Nat×Nat)},Ky tt l=some r→
  (l.mapM (fun f=>do pure (f.offset,←sizeOf f.type):Field→Sem (Nat×Nat))).run P w= .ok r w:=by
 intro l
 induction l with
 |nil=>intro r h;cases h;rfl
 |cons f l ih=>
  intro r h
  simp only [Ky] at h
  split at h
  ·cases h
  ·rename_i i hi
   split at h
   ·cases h
   ·rename_i r' hr
    cases h
    simp only [List.mapM_cons,Sem.run_bind,(htt _ _ hi).Bd,Result.andThen_ok,ih hr,Sem.run_pure]
def Nw (tt:AM)(ev:Operand→Option Value)(t:TypeId)(parts:Array (Nat×Operand)):Option Value:=
 match tt t with
 |none=>none
 |some i=>
  match Fo ev parts.toList with
  |none=>none
  |some ps=>
   match i.ud with
   | .struct fs=>match Ky tt fs.toList with
    |none=>none
    |some pl=>match J4 (fun j=>pl[j]?) (Ar i.zero) ps with
     |some r=>some (.agg ⟨r⟩)
     |none=>none
   | .array _ e=>match tt e with
    |none=>none
    |some j=>match J4 (fun q=>some (q * j.size,j.size)) (Ar i.zero) ps with
     |some r=>some (.agg ⟨r⟩)
     |none=>none
   |_=>none
theorem gd {P:Program}{tt:AM}(htt:Cy P tt){φ:Ren}{ev:Operand→Option Value}{ρ:Operand→Value}(hev:∀x v,ev x=some v→V φ v (ρ x))
  {t:TypeId} {parts:Array (Nat×Operand)} {v:Value} (w:World) (h:Nw tt ev t parts=some v) :
  ∃v',(Instr.build t (parts.map fun (i,x)=>(i,ρ x))).run P w= .ok v' w∧V φ v v':=by
 unfold Nw at h
 split at h
 ·cases h
 ·rename_i i hi
  have ht:=htt _ _ hi
  split at h
  ·cases h
  ·rename_i ps hps
   have hP:=Qt hev hps
   have hz:Vs φ (Ar i.zero) i.zero.cells.toList:=by rw [Du];exact F1 (DG _ _ ht.plain)
   have hl:(parts.map fun (i,x)=>(i,ρ x)).toList=parts.toList.map fun p=>(p.1,ρ p.2):=by simp
   simp only [Instr.build,Sem.run_bind,ht.Ek,ht.A7,Result.andThen_ok]
   split at h
   ·rename_i fs hud
    split at h
    ·cases h
    ·rename_i pl hpl
     split at h
     ·rename_i r hr
      cases h
      obtain ⟨r',hr',hv⟩:=Qv hP hz hr
      have hm:(fs.mapM (fun f=>do pure (f.offset,←sizeOf f.type):Field→Sem (Nat×Nat))).run P w= .ok pl.toArray w:=by
       rw [Array.mapM_eq_mapM_toList]
       simp only [Sem.run_map,Y2 htt w hpl,Result.andThen_ok]
      rw [hud]
      simp only [Sem.run_bind,hm,Result.andThen_ok,hl]
      have:(fun x=>pl.toArray[x]?)=fun (j:Nat)=>pl[j]? :=by funext j;simp
      rw [this,hr']
      exact ⟨_,rfl,by obtain ⟨r'⟩:=r';exact .agg _ _ hv⟩
     ·cases h
   ·rename_i n e hud
    split at h
    ·cases h
    ·rename_i j hj
     split at h
     ·rename_i r hr
      cases h
      obtain ⟨r',hr',hv⟩:=Qv hP hz hr
      rw [hud]
      simp only [Sem.run_bind,(htt _ _ hj).Bd,Result.andThen_ok,hl,hr']
      exact ⟨_,rfl,by obtain ⟨r'⟩:=r';exact .agg _ _ hv⟩
     ·cases h
   ·cases h
end Go.Dm
