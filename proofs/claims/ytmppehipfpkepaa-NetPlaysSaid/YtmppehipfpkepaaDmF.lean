/- The abstract machine, a part of it: operations, regions, code and calls run Oz values with named blocks; each step is shown of the real run. -/
import Derived.Test.YtmppehipfpkepaaDmE
set_option linter.unusedSimpArgs false
set_option linter.unusedVariables false
/- Names of blocks may be changed:a state is canonical when its own blocks are named in order. -/
namespace Go.Dm
mutual
/-- a value whose blocks are named anew -/
def Ad (ρ:Nat→Nat):Value→Value
 | .pointer (some ⟨b,o,s⟩)=> .pointer (some ⟨ρ b,o,s⟩)
 | .slice (some ⟨b,o,none⟩) n c=> .slice (some ⟨ρ b,o,none⟩) n c
 | .map (some b)=> .map (some (ρ b))
 | .agg ⟨l⟩=> .agg ⟨Ag ρ l⟩
 | .tuple ⟨l⟩=> .tuple ⟨Ag ρ l⟩
 | .iface t v=> .iface t (Ad ρ v)
 | .func f ⟨a⟩ ⟨b⟩=> .func f ⟨Ag ρ a⟩ ⟨Ag ρ b⟩
 |v=>v
def Ag (ρ:Nat→Nat):List Value→List Value
 | []=> []
 |v :: l=>Ad ρ v :: Ag ρ l
end
def RH (ρ:Nat→Nat)(e:MapEntry):MapEntry:= {e with key:=Ad ρ e.key,val:=Ad ρ e.val}
def KZ (ρ:Nat→Nat):BB→BB
 | .cells rw Dj vs=> .cells rw Dj (Ag ρ vs)
 | .map es CC=> .map (es.map (RH ρ)) CC
 | .iter s p=> .iter s p
 | .miter m since seen c=> .miter (ρ m) since seen c
theorem IE (ρ:Nat→Nat):∀l,Ag ρ l=l.map (Ad ρ)
 | []=>rfl
 |v :: l=>by rw [Ag,IE ρ l];rfl
theorem ID (ρ:Nat→Nat)(l m:List Value):Ag ρ (l ++ m)=Ag ρ l ++ Ag ρ m:=by simp only [IE,List.map_append]
theorem Yg (ρ:Nat→Nat)(l:List Value):(Ag ρ l).length=l.length:=by simp only [IE,List.length_map]
/-- names read through -/
def Ren.via (φ:Ren)(ρ:Nat→Nat):Ren:=fun j=>φ (ρ j)
mutual
theorem V.Fk {φ:Ren}{ρ:Nat→Nat}:∀ {v x:Value},V φ (Ad ρ v) x→V (φ.via ρ) v x:=by
 intro v x h
 match v with
 | .bool b=>cases h;exact .bool b
 | .int k n=>cases h;exact .int k n
 | .float k n=>cases h
 | .complex k a b=>cases h
 | .string s=>cases h;exact .str s
 | .pointer none=>cases h;exact .nilp
 | .pointer (some ⟨b,o,s⟩)=>
  simp only [Ad] at h
  cases h with
  |ptr _ _ L hL=>exact .ptr _ _ L hL
 | .slice none n c=>cases h;exact .nils
 | .slice (some ⟨b,o,none⟩) n c=>
  simp only [Ad] at h
  generalize hb:ρ b=b' at h
  cases h with
  |slice _ _ _ _ c' L hL hn hc hl=>exact .slice _ _ _ _ c' L (by rw [←hb] at hL;exact hL) hn hc hl
 | .slice (some ⟨b,o,some s⟩) n c=>
  have e:Ad ρ (.slice (some ⟨b,o,some s⟩) n c)= .slice (some ⟨b,o,some s⟩) n c:=by unfold Ad;rfl
  rw [e] at h
  cases h
  exact .emp _ _
 | .map none=>cases h;exact .nilm
 | .map (some b)=>
  simp only [Ad] at h
  cases h with
  |map _ L hL=>exact .map _ L hL
 | .chan r=>cases h
 | .func f ⟨a⟩ ⟨b⟩=>
  simp only [Ad] at h
  cases h with
  |func _ _ a' _ b' ha hb=>exact .func _ _ _ _ _ (Vs.Fk ha) (Vs.Fk hb)
 | .nilFunc=>cases h;exact .nilf
 | .iface t v=>
  simp only [Ad] at h
  cases h with
  |iface _ _ v' hv=>exact .iface _ _ _ (V.Fk hv)
 | .nilIface=>cases h;exact .nili
 | .agg ⟨l⟩=>
  simp only [Ad] at h
  cases h with
  |agg _ l' hl=>exact .agg _ _ (Vs.Fk hl)
 | .tuple ⟨l⟩=>
  simp only [Ad] at h
  cases h with
  |tuple _ l' hl=>exact .tuple _ _ (Vs.Fk hl)
theorem Vs.Fk {φ:Ren}{ρ:Nat→Nat}:∀ {l m:List Value},Vs φ (Ag ρ l) m→Vs (φ.via ρ) l m:=by
 intro l m h
 match l with
 | []=>cases h;exact .nil
 |v :: l=>
  simp only [Ag] at h
  cases h with
  |cons _ x _ m hx hm=>exact .cons _ _ _ _ (V.Fk hx) (Vs.Fk hm)
end
theorem Es.Fk {φ:Ren}{ρ:Nat→Nat}:∀ {l m:List MapEntry},Es φ (l.map (RH ρ)) m→Es (φ.via ρ) l m:=by
 intro l
 induction l with
 |nil=>intro m h;cases h;exact .nil
 |cons e l ih=>
  intro m h
  simp only [List.map_cons] at h
  cases h with
  |cons _ x _ m hx hm=>exact .cons _ _ _ _ ⟨V.Fk hx.key,V.Fk hx.val,hx.born⟩ (ih hm)
theorem GK.Fk {φ:Ren}{ρ:Nat→Nat}{L:Loc}{o:BB}{x:Option Obj}(h:GK φ L (KZ ρ o) x):GK (φ.via ρ) L o x:=by
 cases o with
 |cells rw Dj vs=>
  obtain ⟨he,c,t,fz,h1,h2,h3,h4,h5⟩:=h
  rw [Yg] at h3 h4
  exact ⟨he,c,t,fz,h1,h2,h3,Vs.Fk h4,h5⟩
 |map es CC=>obtain ⟨es',h1,h2⟩:=h;exact ⟨es',h1,Es.Fk h2⟩
 |iter s pos=>exact h
 |miter m since seen c=>exact h
theorem df (ρ:Nat→Nat)(o:BB):(KZ ρ o).rw=o.rw:=by cases o <;> rfl
/-- what is known of less,under other names -/
structure BO (ρ:Nat→Nat) (base:Nat) (s' s:SS):Prop where
 low:∀j,j < base→ρ j=j
 high:∀j,s'.top≤j→s.top≤ρ j
 inj:∀i j,i < s'.top→j < s'.top→ρ i=ρ j→i=j
 fr:∀t v,N5 s'.fr t=some v→N5 s.fr t=some (Ad ρ v)
 hp:∀i o,s'.hp i=some o→s.hp (ρ i)=some (KZ ρ o)
theorem HR.Fk {φ:Ren}{own:Nat→Prop}{w:World}{hp hp':Hp}{top top':Nat}{ρ:Nat→Nat}(H:HR φ own hp w)(htop:∀j,top≤j→φ j=none)
  (high:∀j,top'≤j→top≤ρ j) (inj:∀i j,i < top'→j < top'→ρ i=ρ j→i=j) (hh:∀i o,hp' i=some o→hp (ρ i)=some (KZ ρ o)):HR (φ.via ρ) own hp' w:=by
 have dom:∀i o,hp' i=some o→i < top':=by
  intro i o e
  rcases Nat.lt_or_ge i top' with h | h
  ·exact h
  ·obtain ⟨L,h1,_⟩:=H.obj _ _ (hh i o e)
   rw [htop _ (high i h)] at h1;cases h1
 refine ⟨?_, ?_, ?_, ?_,H.fresh⟩
 ·intro i o e
  obtain ⟨L,h1,h2⟩:=H.obj _ _ (hh i o e)
  exact ⟨L,h1,GK.Fk h2⟩
 ·intro i j oi oj Li Lj hi hj hne hrw hLi hLj
  exact H.sep (ρ i) (ρ j) _ _ Li Lj (hh _ _ hi) (hh _ _ hj) (fun e=>hne (inj i j (dom _ _ hi) (dom _ _ hj) e)) (by rw [df];exact hrw) hLi hLj
 ·intro i o L e hrw hL
  exact H.H6 _ _ L (hh _ _ e) (by rw [df];exact hrw) hL
 ·intro i L hL
  exact H.val (ρ i) L hL
theorem Rc.ABU {φ:Ren}{own:Nat→Prop}{sz:Nat}{ds:List Deferred}{w0:World}{s s':SS}{a:Act}{w:World}{ρ:Nat→Nat}{base:Nat}(S:Rc φ own sz ds w0 s a w)(h:BO ρ base s' s):Rc (φ.via ρ) own sz ds w0 s' a w:=
 ⟨⟨fun t v e=>V.Fk (S.fr.val t _ (h.fr t v e)),S.fr.size⟩,S.hr.Fk S.top h.high h.inj h.hp,fun j hj=>S.top _ (h.high j hj),S.k,S.ds⟩
theorem BO.le {φ0 φ:Ren}{ρ:Nat→Nat}{base:Nat}{s s':SS}(h:BO ρ base s' s)(hb:∀j,base≤j→φ0 j=none)(hle:φ0.le φ):φ0.le (φ.via ρ):=by
 intro i L e
 have hi:i < base:=by
  rcases Nat.lt_or_ge i base with h | h
  ·exact h
  ·rw [hb i h] at e;cases e
 unfold Ren.via
 rw [h.low i hi];exact hle _ _ e
/-- the next round of a loop -/
def Round {α:Type}(base:Nat)(S:α→SS)(I:α→Prop)(μ:α→Nat)(x:α)(s':SS):Prop:= ∃y,I y∧μ y < μ x∧∃ρ,BO ρ base (S y) s'
theorem Round.mk {α:Type}{base:Nat}{S:α→SS}{I:α→Prop}{μ:α→Nat}{x:α}{s':SS}(y:α)(hI:I y)(hμ:μ y < μ x)(hS:∃ρ,BO ρ base (S y) s'):Round base S I μ x s':=⟨y,hI,hμ,hS⟩
theorem CW.CZ {P:Program}{sz base:Nat}{c:Code}{s:SS}{Q:Exit→SS→Prop}{α:Type}(S:α→SS)(I:α→Prop)(μ:α→Nat)(x0:α)(h0:I x0)(hs:∃ρ,BO ρ base (S x0) s)
  (h:∀x,I x→CW P sz base c (S x) (Ot (Round base S I μ x) Q)):CW P sz base (.loop c) s Q:=by
 intro φ0 φ own ds w0 a w hb hle S0
 have key:∀(m:Nat) (x:α) (φ:Ren) (a:Act) (w:World),I x→μ x≤m→φ0.le φ→Rc φ own sz ds w0 (S x) a w→
   J0 P c (fun x a' w'=>x≠ .outgrown∧∃φ' s',φ0.le φ'∧Rc φ' own sz ds w0 s' a' w'∧Q x s') (m+1) a w:=by
  intro m
  induction m with
  |zero=>
   intro x φ a w hI hm hle S1
   rw [Is]
   refine Dg.mono (h x hI φ0 φ own ds w0 a w hb hle S1) ?_
   rintro e a' w' ⟨hx,φ',s',h1,h2,h3⟩
   cases e with
   |normal=>obtain ⟨y,_,hlt,_⟩:=h3;omega
   |_=>exact ⟨hx,φ',s',h1,h2,h3⟩
  |succ m ih=>
   intro x φ a w hI hm hle S1
   rw [Is]
   refine Dg.mono (h x hI φ0 φ own ds w0 a w hb hle S1) ?_
   rintro e a' w' ⟨hx,φ',s',h1,h2,h3⟩
   cases e with
   |normal=>
    obtain ⟨y,hy,hlt,ρ,hsub⟩:=h3
    exact ih y _ a' w' hy (by omega) (hsub.le hb h1) (h2.ABU hsub)
   |_=>exact ⟨hx,φ',s',h1,h2,h3⟩
 obtain ⟨ρ,hs⟩:=hs
 exact Dg.Qm (μ x0+1) (key (μ x0) x0 _ a w h0 (Nat.le_refl _) (hs.le hb hle) (S0.ABU hs))
/-- a function's end -/
def xQ (tt:Ac)(rs:List ResultVar)(post:Value→Hp→Nat→Prop):Exit→SS→Prop
 | .normal,s=>K3 tt s.fr s.hp rs∧post (Ny (R6 tt s.fr s.hp rs)) s.hp s.top
 | .ret,s=>K3 tt s.fr s.hp rs∧post (Ny (R6 tt s.fr s.hp rs)) s.hp s.top
 |_,_=>False
theorem AL.Au {P:Program}{tt:Ac}(htt:EE P tt){f:FuncId}{fn:Func}(F:Bz P f fn){c:Code}(hc:fn.body=some c)(n:Nat)(hn:fn.ntmps=n)(rs:List ResultVar)(hrs:fn.results.toList=rs)
  {args:List Value} {hp:Hp} {top:Nat} {post:Value→Hp→Nat→Prop} (hle:args.length≤n)
  (h:CW P n top c ⟨Q9 args 0,hp,top⟩ (xQ tt rs post)):AL P f args hp top post:=by
 refine AL.qo htt F hc n hn rs hrs hle (h.mono ?_)
 intro x s h
 cases x with
 |normal=>exact ⟨.inl rfl,h⟩
 |ret=>exact ⟨.inr rfl,h⟩
 |_=>exact h.elim
/-! ### the condition of code,step by step -/
section
variable {P:Program} {tt:Ac} {G:FuncId→Bp} {sz base:Nat} {BT:List Nat} {Q:Exit→SS→Prop} {K:SS→Prop} {s:SS} {a b:Code} {id j:Nat} {ops:Array Oper} {all os:List Oper} {o:Oper} {x:Operand}
theorem qx:vc P tt G sz base BT .skip Q s=Q .normal s:=rfl
theorem xX:vc P tt G sz base BT (.region id ops false) Q s=XJ tt G ops.toList ops.toList (jJ BT Q) s:=rfl
theorem vA:vc P tt G sz base BT (.region id ops true) Q s=(if Q7 BT id=true then CW P sz base (.region id ops true) s Q else Py tt G ops.toList ops.toList (jJ BT Q) s):=by
 show (match Q7 BT id with | true=>_ | false=>_)=_
 cases Q7 BT id <;> simp
theorem cL {g:Bool}{A B:Prop}:((g=true→A)∧(g=false→B))=(if g=true then A else B):=by
 cases g <;> simp
/-- two ways -/
structure Le (v:Bool) (K1 K2:SS→Prop) (s:SS):Prop where
 h1:v=true→K1 s
 h2:v=false→K2 s
theorem qw {K1 K2:SS→Prop}:Le true K1 K2 s=K1 s:=propext ⟨fun h=>h.h1 rfl,fun h=>⟨fun _=>h,fun e=>by cases e⟩⟩
theorem uV {K1 K2:SS→Prop}:Le false K1 K2 s=K2 s:=propext ⟨fun h=>h.h2 rfl,fun h=>⟨fun e=>(by cases e),fun _=>h⟩⟩
/-- the condition of code,not looked into yet -/
structure Vc (P:Program) (tt:Ac) (G:FuncId→Bp) (sz base:Nat) (BT:List Nat) (c:Code) (Q:Exit→SS→Prop) (s:SS):Prop where
 h:vc P tt G sz base BT c Q s
theorem Vc.mk' (h:vc P tt G sz base BT a Q s):Vc P tt G sz base BT a Q s:=⟨h⟩
theorem uA:vc P tt G sz base BT (.seq a b) Q s=vc P tt G sz base BT a (Ot (Vc P tt G sz base BT b Q) Q) s:=by
 have:vc P tt G sz base BT b Q=Vc P tt G sz base BT b Q:=funext fun s=>propext ⟨fun h=>⟨h⟩,fun h=>h.h⟩
 rw [←this];rfl
theorem vP:vc P tt G sz base BT (.cond x a b) Q s=(av s.fr x∧gv (DV s.fr x).1∧Le (Cg (DV s.fr x).1) (vc P tt G sz base BT a Q) (vc P tt G sz base BT b Q) s):=
 propext ⟨fun ⟨h1,h2,h3,h4⟩=>⟨h1,h2,⟨h3,h4⟩⟩,fun ⟨h1,h2,h3⟩=>⟨h1,h2,h3.h1,h3.h2⟩⟩
theorem kZ:vc P tt G sz base BT (.block id b) Q s=vc P tt G sz base BT b (Nt id Q) s:=rfl
theorem vJ:vc P tt G sz base BT (.loop b) Q s=CW P sz base (.loop b) s Q:=rfl
theorem sI:vc P tt G sz base BT (.exit id) Q s=Q (.exit id) s:=rfl
theorem wz:vc P tt G sz base BT .ret Q s=Q .ret s:=rfl
theorem kA:vc P tt G sz base BT (.label id) Q s=Q .normal s:=rfl
theorem ky:XJ tt G all [] K s=K s:=rfl
theorem iq:XJ tt G all (o :: os) K s=((BL all s.fr o.guard).2∧VE tt G (BL all s.fr o.guard).1 o s (XJ tt G all os K)):=rfl
theorem pI:Py tt G all [] K s=K s:=rfl
theorem im:Py tt G all (o :: os) K s=((BL all s.fr o.guard).2∧(match Ij G o.op with
  |true=>(if (BL all s.fr o.guard).1=true then (D0 tt G s.fr s.hp s.top o.op).ob∧
     Py tt G all os K ⟨Ce s.fr o.dst (D0 tt G s.fr s.hp s.top o.op).v true,s.hp.AZ (D0 tt G s.fr s.hp s.top o.op).us,(D0 tt G s.fr s.hp s.top o.op).top⟩
    else Py tt G all os K ⟨Ce s.fr o.dst undef false,s.hp,s.top⟩)
  |false=>((BL all s.fr o.guard).1=true→(pv tt G s.fr s.hp o.op).2)∧Py tt G all os K ⟨Ce s.fr o.dst (pv tt G s.fr s.hp o.op).1 (BL all s.fr o.guard).1,s.hp,s.top⟩)):=by
 rw [←cL];rfl
theorem uL:Ot K Q .normal s=K s:=rfl
theorem tC:Ot K Q .ret s=Q .ret s:=rfl
theorem sa:Ot K Q (.exit j) s=Q (.exit j) s:=rfl
theorem nF:Nt id Q .normal s=Q .normal s:=rfl
theorem kQ:Nt id Q .ret s=Q .ret s:=rfl
theorem lj:Nt id Q (.exit j) s=(if j=id then Q .normal s else Q (.exit j) s):=rfl
theorem sY:jJ BT Q s=Q .normal ⟨KQ s.fr BT,s.hp,s.top⟩:=rfl
theorem zE {rs:List ResultVar}{post:Value→Hp→Nat→Prop}:xQ tt rs post .normal s=(K3 tt s.fr s.hp rs∧post (Ny (R6 tt s.fr s.hp rs)) s.hp s.top):=rfl
theorem yp {rs:List ResultVar}{post:Value→Hp→Nat→Prop}:xQ tt rs post .ret s=(K3 tt s.fr s.hp rs∧post (Ny (R6 tt s.fr s.hp rs)) s.hp s.top):=rfl
theorem ox {g:Bool}:VE tt G g o s K=(match o.op with
  | .call {callee:= .value f,args, ..}=>ZN G s.fr s.hp s.top g f args.toList o.dst K
  | .range t x=>if g=true then av s.fr x∧Qe tt t=true∧(Me s.hp (DV s.fr x).1).isSome=true∧K ⟨Ce s.fr o.dst (.pointer (some ⟨s.top,0,none⟩)) true,s.hp.AZ [(s.top,vd (Me s.hp (DV s.fr x).1))],s.top+1⟩
    else K ⟨Ce s.fr o.dst undef false,s.hp,s.top⟩
  | .next it str=>if g=true then av s.fr it∧str=false∧wG K s.fr s.hp s.top o.dst (DV s.fr it).1 else K ⟨Ce s.fr o.dst undef false,s.hp,s.top⟩
  | .entry it=>if g=true then av s.fr it∧(IP s.hp (DV s.fr it).1).isSome=true∧K ⟨Ce s.fr o.dst (s8 (IP s.hp (DV s.fr it).1)) true,s.hp,s.top⟩ else K ⟨Ce s.fr o.dst undef false,s.hp,s.top⟩
  |op=>match JM op with
   |true=>if g=true then (FP tt s.fr s.hp s.top op).ob∧K ⟨Ce s.fr o.dst (FP tt s.fr s.hp s.top op).v true,s.hp.AZ (FP tt s.fr s.hp s.top op).us,(FP tt s.fr s.hp s.top op).top⟩
     else K ⟨Ce s.fr o.dst undef false,s.hp,s.top⟩
   |false=>(g=true→(NU tt s.fr s.hp op).2)∧K ⟨Ce s.fr o.dst (NU tt s.fr s.hp op).1 g,s.hp,s.top⟩):=by
 simp only [←cL]
 rfl
theorem pS {fr:Ew}{hp:Hp}{top:Nat}{g:Bool}{f:Operand}{args:List Operand}{dst:Option Nat}:ZN G fr hp top g f args dst K=(match G (DH fr f).1 with
  | .none=>False
  | .pure pre res=>(g=true→(DH fr f).2.1=true∧bb fr args∧pre ((DH fr f).2.2.1 ++ Ls fr args ++ (DH fr f).2.2.2) hp)∧
   K ⟨Ce fr dst (res ((DH fr f).2.2.1 ++ Ls fr args ++ (DH fr f).2.2.2) hp) g,hp,top⟩
  | .eff pre post=>if g=true then (DH fr f).2.1=true∧bb fr args∧pre ((DH fr f).2.2.1 ++ Ls fr args ++ (DH fr f).2.2.2) hp top∧
   (∀v hp' top',post ((DH fr f).2.2.1 ++ Ls fr args ++ (DH fr f).2.2.2) hp top v hp' top'→ABF K ⟨Ce fr dst v true,hp',top'⟩)
   else K ⟨Ce fr dst undef false,hp,top⟩
  | .det pre res=>if g=true then (DH fr f).2.1=true∧bb fr args∧pre ((DH fr f).2.2.1 ++ Ls fr args ++ (DH fr f).2.2.2) hp top∧
   K ⟨Ce fr dst (res ((DH fr f).2.2.1 ++ Ls fr args ++ (DH fr f).2.2.2) hp top).1 true,hp.AZ (res ((DH fr f).2.2.1 ++ Ls fr args ++ (DH fr f).2.2.2) hp top).2.1,(res ((DH fr f).2.2.1 ++ Ls fr args ++ (DH fr f).2.2.2) hp top).2.2⟩
   else K ⟨Ce fr dst undef false,hp,top⟩):=by
 simp only [←cL]
 rfl
end
/-! ### names below the base stay,the others by a list -/
def rn (base:Nat)(bs:List Nat)(z j:Nat):Nat:=if j < base then j else (bs[j - base]?).getD z
theorem AA {base:Nat}{bs:List Nat}{z j:Nat}(h:j < base):rn base bs z j=j:=if_pos h
theorem Aw (base:Nat)(bs:List Nat)(z i:Nat):rn base bs z (base+i)=(bs[i]?).getD z:=by
 unfold rn
 rw [if_neg (by omega),Nat.add_sub_cancel_left]
theorem AM (base:Nat)(bs:List Nat)(z:Nat):rn base bs z base=(bs[0]?).getD z:=Aw base bs z 0
theorem YN {base:Nat}{bs:List Nat}{z j:Nat}(h:base+bs.length≤j):rn base bs z j=z:=by
 unfold rn
 rw [if_neg (by omega),List.getElem?_eq_none (by omega)];rfl
theorem cX {base:Nat}{bs:List Nat}{z:Nat}(hn:bs.Nodup)(hb:∀b∈bs,base≤b):∀i j,i < base+bs.length→j < base+bs.length→rn base bs z i=rn base bs z j→i=j:=by
 intro i j hi hj e
 unfold rn at e
 split at e
 ·split at e
  ·exact e
  ·rw [List.getElem?_eq_getElem (by omega),Option.getD_some] at e
   have:=hb _ (List.getElem_mem (show j - base < bs.length by omega))
   omega
 ·rw [List.getElem?_eq_getElem (show i - base < bs.length by omega),Option.getD_some] at e
  split at e
  ·have:=hb _ (List.getElem_mem (show i - base < bs.length by omega))
   omega
  ·rw [List.getElem?_eq_getElem (show j - base < bs.length by omega),Option.getD_some] at e
   have hp:=List.pairwise_iff_getElem.1 hn
   rcases Nat.lt_trichotomy (i - base) (j - base) with h | h | h
   ·exact absurd e (hp _ _ (by omega) (by omega) h)
   ·omega
   ·exact absurd e.symm (hp _ _ (by omega) (by omega) h)
/-! ### memory whose values name only what is below a bound -/
mutual
def Sc (n:Nat):Value→Prop
 | .pointer (some ⟨b,_,_⟩)=>b < n
 | .slice (some ⟨b,_,none⟩) _ _=>b < n
 | .map (some b)=>b < n
 | .agg ⟨l⟩=>RD n l
 | .tuple ⟨l⟩=>RD n l
 | .iface _ v=>Sc n v
 | .func _ ⟨a⟩ ⟨b⟩=>RD n a∧RD n b
 |_=>True
def RD (n:Nat):List Value→Prop
 | []=>True
 |v :: l=>Sc n v∧RD n l
end
def ScO (n:Nat):BB→Prop
 | .cells _ _ vs=>RD n vs
 | .map es _=> ∀e∈es,Sc n e.key∧Sc n e.val
 | .iter _ _=>True
 | .miter m _ _ _=>m < n
mutual
theorem Sc.Ad {n:Nat}{ρ:Nat→Nat}(hρ:∀j,j < n→ρ j=j):∀ {v:Value},Sc n v→Ad ρ v=v
 | .bool _,_=>rfl
 | .int _ _,_=>rfl
 | .float _ _,_=>rfl
 | .complex _ _ _,_=>rfl
 | .string _,_=>rfl
 | .pointer none,_=>rfl
 | .pointer (some ⟨b,o,s⟩),h=>by simp only [Dm.Ad,hρ b h]
 | .slice none _ _,_=>rfl
 | .slice (some ⟨b,o,none⟩) _ _,h=>by simp only [Dm.Ad,hρ b h]
 | .slice (some ⟨b,o,some s⟩) _ _,_=>by unfold Dm.Ad;rfl
 | .map none,_=>rfl
 | .map (some b),h=>by simp only [Dm.Ad,hρ b h]
 | .chan _,_=>rfl
 | .func _ ⟨a⟩ ⟨b⟩,h=>by simp only [Dm.Ad,RD.Ad hρ h.1,RD.Ad hρ h.2]
 | .nilFunc,_=>rfl
 | .iface _ v,h=>by simp only [Dm.Ad,Sc.Ad hρ (v:=v) h]
 | .nilIface,_=>rfl
 | .agg ⟨l⟩,h=>by simp only [Dm.Ad,RD.Ad hρ (l:=l) h]
 | .tuple ⟨l⟩,h=>by simp only [Dm.Ad,RD.Ad hρ (l:=l) h]
theorem RD.Ad {n:Nat}{ρ:Nat→Nat}(hρ:∀j,j < n→ρ j=j):∀ {l:List Value},RD n l→Ag ρ l=l
 | [],_=>rfl
 |v :: l,h=>by simp only [Dm.Ag,Sc.Ad hρ h.1,RD.Ad hρ h.2]
end
theorem ScO.Ad {n:Nat}{ρ:Nat→Nat}(hρ:∀j,j < n→ρ j=j){o:BB}(h:ScO n o):KZ ρ o=o:=by
 cases o with
 |cells rw Dj vs=>simp only [KZ,RD.Ad hρ h]
 |map es CC=>
  simp only [KZ]
  congr 1
  rw [List.map_congr_left (g:=id)]
  ·simp
  ·intro e he
   obtain ⟨h1,h2⟩:=h e he
   simp only [RH,Sc.Ad hρ h1,Sc.Ad hρ h2,id]
 |iter s p=>rfl
 |miter m since seen c=>simp only [KZ];rw [hρ m h]
mutual
theorem V.sc {φ:Ren}{n:Nat}(hn:∀j,n≤j→φ j=none):∀ {v x:Value},V φ v x→Sc n v
 |_,_, .bool _=>trivial
 |_,_, .int _ _=>trivial
 |_,_, .str _=>trivial
 |_,_, .nilp=>trivial
 |_,_, .ptr i o L h=>by
  rcases Nat.lt_or_ge i n with h' | h'
  ·exact h'
  ·rw [hn i h'] at h;cases h
 |_,_, .nils=>trivial
 |_,_, .slice i o m c c' L h _ _ _=>by
  rcases Nat.lt_or_ge i n with h' | h'
  ·exact h'
  ·rw [hn i h'] at h;cases h
 |_,_, .emp _ _=>trivial
 |_,_, .nilm=>trivial
 |_,_, .map i L h=>by
  rcases Nat.lt_or_ge i n with h' | h'
  ·exact h'
  ·rw [hn i h'] at h;cases h
 |_,_, .func _ _ _ _ _ ha hb=>⟨Vs.sc hn ha,Vs.sc hn hb⟩
 |_,_, .nilf=>trivial
 |_,_, .iface _ v _ h=>(V.sc hn h:Sc n v)
 |_,_, .nili=>trivial
 |_,_, .agg _ _ h=>Vs.sc hn h
 |_,_, .tuple _ _ h=>Vs.sc hn h
theorem Vs.sc {φ:Ren}{n:Nat}(hn:∀j,n≤j→φ j=none):∀ {l m:List Value},Vs φ l m→RD n l
 |_,_, .nil=>trivial
 |_,_, .cons _ _ _ _ hx hl=>⟨V.sc hn hx,Vs.sc hn hl⟩
end
theorem Es.sc {φ:Ren}{n:Nat}(hn:∀j,n≤j→φ j=none):∀ {l m:List MapEntry},Es φ l m→∀e∈l,Sc n e.key∧Sc n e.val
 |_,_, .nil,e,he=>by cases he
 |_,_, .cons a _ l _ hx hl,e,he=>by
  cases he with
  |head=>exact ⟨V.sc hn hx.key,V.sc hn hx.val⟩
  |tail _ h=>exact Es.sc hn hl e h
/-- memory that is closed below a bound -/
structure Cl (hp:Hp) (n:Nat):Prop where
 lt:∀i o,hp i=some o→i < n
 sc:∀i o,hp i=some o→ScO n o
theorem HR.cl {φ:Ren}{own:Nat→Prop}{hp:Hp}{w:World}{n:Nat}(H:HR φ own hp w)(hn:∀j,n≤j→φ j=none):Cl hp n:=by
 refine ⟨fun i o e=>H.lt hn e,fun i o e=> ?_⟩
 obtain ⟨L,h1,h2⟩:=H.obj i o e
 cases o with
 |cells rw Dj vs=>obtain ⟨_,_,_,_,_,_,_,h3,_⟩:=h2;exact Vs.sc hn h3
 |map es CC=>obtain ⟨es',_,h3⟩:=h2;exact fun e he=>Es.sc hn h3 e he
 |iter s p=>trivial
 |miter m since seen c=>
  obtain ⟨_,M,h1,_⟩:=h2
  show m < n
  rcases Nat.lt_or_ge m n with h | h
  ·exact h
  ·rw [hn m h] at h1;cases h1
/-- a function whose arguments and memory are closed below the top -/
theorem AL.closed {P:Program}{f:FuncId}{args:List Value}{hp:Hp}{top:Nat}{post:Value→Hp→Nat→Prop}(h:Cl hp top→RD top args→AL P f args hp top post):AL P f args hp top post:=by
 intro φ own w args' ha H htop
 exact h (H.cl htop) (Vs.sc htop ha) φ own w args' ha H htop
/-- memory that was,but for some blocks -/
theorem mY {hp h1:Hp}{base:Nat}{ρ:Nat→Nat}(hcl:Cl hp base)(hlow:∀j,j < base→ρ j=j)(us:BC)
  (hk:∀i,i < base→(∀p∈us,p.1≠i)→h1 i=hp i) (hu:∀p∈us,∀o,p.2=some o→h1 (ρ p.1)=some (KZ ρ o)) :
  ∀i o,(hp.AZ us) i=some o→h1 (ρ i)=some (KZ ρ o):=by
 have key:∀(us:BC) (hp:Hp) i o,(hp.AZ us) i=some o→(∃p∈us,p.1=i∧p.2=some o)∨((∀p∈us,p.1≠i)∧hp i=some o):=by
  intro us
  induction us with
  |nil=>intro hp i o h;exact .inr ⟨fun _ h=>(by cases h),h⟩
  |cons p us ih=>
   intro hp i o h
   obtain ⟨a,x⟩:=p
   rw [Aa] at h
   rcases ih _ i o h with ⟨p,h1,h2,h3⟩ | ⟨h1,h2⟩
   ·exact .inl ⟨p,List.mem_cons_of_mem _ h1,h2,h3⟩
   ·by_cases e:i=a
    ·subst e
     rw [AB] at h2
     exact .inl ⟨(i,x),List.mem_cons_self ..,rfl,h2⟩
    ·rw [AH _ _ _ _ e] at h2
     refine .inr ⟨?_,h2⟩
     intro p hp'
     cases hp' with
     |head=>exact fun e'=>e e'.symm
     |tail _ h=>exact h1 p h
 intro i o h
 rcases key us hp i o h with ⟨p,h2,h3,h4⟩ | ⟨h2,h3⟩
 ·subst h3;exact hu p h2 o h4
 ·have hi:=hcl.lt i o h3
  rw [hlow i hi,hk i hi h2,h3,ScO.Ad hlow (hcl.sc i o h3)]
theorem set_set (hp:Hp)(i:Nat)(a b:Option BB):(hp.set i a).set i b=hp.set i b:=by
 funext j;unfold Hp.set;split <;> rfl
/-- memory below a bound is as it was,but for some blocks -/
def AE (n:Nat)(ks:List Nat)(h1 hp:Hp):Prop:= ∀i,i < n→i ∉ ks→h1 i=hp i
theorem AE.refl (n:Nat)(ks:List Nat)(hp:Hp):AE n ks hp hp=True:=eq_true fun _ _ _=>rfl
theorem AE.set {n:Nat}{ks:List Nat}{h1 hp:Hp}{b:Nat}{o:Option BB}(hb:n≤b):AE n ks (h1.set b o) hp=AE n ks h1 hp:=by
 refine propext ⟨fun h i hi hk=> ?_,fun h i hi hk=> ?_⟩
 ·have:=h i hi hk;rwa [AH _ _ _ _ (by omega)] at this
 ·rw [AH _ _ _ _ (by omega)];exact h i hi hk
theorem AE.B5 {n:Nat}{ks:List Nat}{h1 hp:Hp}{b:Nat}{o:Option BB}(hb:b∈ks):AE n ks (h1.set b o) hp=AE n ks h1 hp:=by
 refine propext ⟨fun h i hi hk=> ?_,fun h i hi hk=> ?_⟩
 ·have:=h i hi hk;rwa [AH _ _ _ _ (fun e=>hk (by rw [e];exact hb))] at this
 ·rw [AH _ _ _ _ (fun e=>hk (by rw [e];exact hb))];exact h i hi hk
theorem AE.nil {n:Nat}{h1 hp:Hp}(h:AE n [] h1 hp):∀i,i < n→h1 i=hp i:=fun i hi=>h i hi (by simp)
def ZV (ρ:Nat→Nat):Option BB→Option BB
 |none=>none
 |some o=>some (KZ ρ o)
/-- the blocks that are told lie where they should -/
def AD (ρ:Nat→Nat)(h1:Hp)(us:BC):Prop:= ∀p∈us,p.2=none∨h1 (ρ p.1)=ZV ρ p.2
theorem AD.nil {ρ:Nat→Nat}{h1:Hp}:AD ρ h1 [] = True:=eq_true fun p h=>by cases h
theorem AD.cons {ρ:Nat→Nat}{h1:Hp}{b:Nat}{o:Option BB}{us:BC}:AD ρ h1 ((b,o) :: us)=((o=none∨h1 (ρ b)=ZV ρ o)∧AD ρ h1 us):=by
 simp [AD]
theorem AD.get {ρ:Nat→Nat}{h1:Hp}{us:BC}(h:AD ρ h1 us):∀p∈us,∀o,p.2=some o→h1 (ρ p.1)=some (KZ ρ o):=by
 intro p hp o e
 rcases h p hp with h | h
 ·rw [h] at e;cases e
 ·rw [h,e];rfl
theorem AF {ρ:Nat→Nat}{o:BB}:ZV ρ (some o)=some (KZ ρ o):=rfl
theorem AG {ρ:Nat→Nat}{rw:Bool}{z:Nat}{vs:List Value}:KZ ρ (.cells rw z vs)= .cells rw z (Ag ρ vs):=rfl
theorem BZ {ρ:Nat→Nat}{es:List MapEntry}{CC:Nat}:KZ ρ (.map es CC)= .map (es.map (RH ρ)) CC:=rfl
/-- a function's end:what it hands back,under canonical names -/
structure ug (hp:Hp) (top:Nat) (bs:List Nat) (r:Value×BC×Nat) (v1:Value) (h1:Hp) (top1:Nat):Prop where
 nodup:bs.Nodup
 ge:∀b∈bs,top≤b
 tp:r.2.2=top+bs.length
 v:v1=Ad (rn top bs top1) r.1
 BT:AE top (r.2.1.map (·.1)) h1 hp
 T5:AD (rn top bs top1) h1 r.2.1
theorem AL.Cc {P:Program}{f:FuncId}{args:List Value}{hp:Hp}{top:Nat}{r:Value×BC×Nat}
  (h:Cl hp top→RD top args→AL P f args hp top fun v1 h1 top1=>top≤top1∧∃bs,ug hp top bs r v1 h1 top1) :
  AL P f args hp top fun v hp' top'=>v=r.1∧hp' = hp.AZ r.2.1∧top' = r.2.2:=by
 intro φ own w args' ha H htop
 have hcl:=H.cl htop
 refine (h hcl (Vs.sc htop ha) φ own w args' ha H htop).mono ?_
 rintro e w' ⟨v1,h1,top1,v',φ1,rfl,⟨ht,bs,R⟩,W⟩
 have hlow:∀j,j < top→rn top bs top1 j=j:=fun j hj=>AA hj
 have hhigh:∀j,r.2.2≤j→top1≤rn top bs top1 j:=fun j hj=>by rw [YN (by rw [←R.tp];exact hj)];exact Nat.le_refl _
 refine ⟨r.1,hp.AZ r.2.1,r.2.2,v',φ1.via (rn top bs top1),rfl,⟨rfl,rfl,rfl⟩,⟨?_, ?_, ?_,W.k, ?_⟩⟩
 ·intro i L e
  have hi:i < top:=by
   rcases Nat.lt_or_ge i top with h | h
   ·exact h
   ·rw [htop i h] at e;cases e
  unfold Ren.via
  rw [hlow i hi];exact W.le _ _ e
 ·refine V.Fk ?_
  rw [←R.v];exact W.v
 ·refine W.hr.Fk W.top hhigh (by rw [R.tp];exact cX R.nodup R.ge) ?_
  exact mY hcl hlow r.2.1 (fun i hi hk=>R.BT i hi (fun hm=>by obtain ⟨p,h1,h2⟩:=List.mem_map.1 hm;exact hk p h1 h2)) R.T5.get
 ·intro j hj
  exact W.top _ (hhigh j hj)
theorem BK.Cc {P:Program}{f:FuncId}{fn:Func}(F:Bz P f fn){pre:List Value→Hp→Nat→Prop}{res:List Value→Hp→Nat→Value×BC×Nat}
  (h:∀args hp top,pre args hp top→Cl hp top→RD top args→AL P f args hp top fun v1 h1 top1=>top≤top1∧∃bs,ug hp top bs (res args hp top) v1 h1 top1):BK P f (.det pre res):=
 ⟨⟨fn,F.toFTOk⟩,fun args hp top hp0=>AL.Cc (h args hp top hp0)⟩
/-- a canonical state behind another one -/
theorem BO.mk' {hp h1:Hp}{base:Nat}(bs:List Nat)(hcl:Cl hp base){fr' fr:Ew}{us:BC}{n top:Nat}
  (nodup:bs.Nodup) (ge:∀b∈bs,base≤b) (hn:n=bs.length)
  (hfr:∀t v,N5 fr' t=some v→N5 fr t=some (Ad (rn base bs top) v))
  (BT:AE base (us.map (·.1)) h1 hp)
  (T5:AD (rn base bs top) h1 us) :
  ∃ρ,BO ρ base ⟨fr',hp.AZ us,base+n⟩ ⟨fr,h1,top⟩:=by
 subst hn
 have hlow:∀j,j < base→rn base bs top j=j:=fun j hj=>AA hj
 exact ⟨rn base bs top,hlow,fun j hj=>by rw [YN hj];exact Nat.le_refl _,cX nodup ge,hfr,mY hcl hlow us (fun i hi hk=>BT i hi (fun hm=>by obtain ⟨p,h1,h2⟩:=List.mem_map.1 hm;exact hk p h1 h2)) T5.get⟩
theorem BK.Gx {P:Program}{f:FuncId}{fn:Func}(F:Bz P f fn){pre:List Value→Hp→Prop}{res:List Value→Hp→Value}(hr:∀args hp,pre args hp→plain 3 (res args hp)=true)
  (h:∀args hp,pre args hp→∀top,Cl hp top→RD top args→AL P f args hp top fun v hp' _=>v=res args hp∧AE top [] hp' hp):BK P f (.pure pre res):=
 .yS F hr fun args hp h0 top φ own w args' ha H htop=>(h args hp h0 top (H.cl htop) (Vs.sc htop ha) φ own w args' ha H htop).mono fun _ _ ⟨v,hp',top',v',φ',e,⟨h1,h2⟩,W⟩=>⟨v,hp',top',v',φ',e,⟨h1,h2.nil⟩,W⟩
theorem dC {k:IntKind}{n:Int}(h:(if k.signed then -(2 ^ (k.bits - 1):Int) else 0)≤n)(h2:n < (if k.signed then 2 ^ (k.bits - 1) else 2 ^ k.bits:Int)):BQ k n=n:=by
 rw [KM]
 unfold IntKind.wrap
 cases k <;> simp [IntKind.signed,IntKind.bits] at h h2 ⊢ <;> omega
theorem wrap64 {n:Int}(h: -9223372036854775808≤n)(h2:n < 9223372036854775808):BQ .i64 n=n:=dC (by simpa [IntKind.signed,IntKind.bits] using h) (by simpa [IntKind.signed,IntKind.bits] using h2)
theorem Av {k n:Nat}(h:k < n)(hn:n≤9223372036854775807):BQ .i64 ((k:Int)+1)=((k+1:Nat):Int):=by
 rw [wrap64 (by omega) (by omega)];omega
theorem AS {b n:Nat}(hb:b < n){hp:Hp}{i:Nat}{o:Option BB}(hi:n≤i):(hp.set i o) b=hp b:=AH _ _ _ _ (by omega)
theorem Nz {b n:Nat}(hb:b < n){hp:Hp}{i:Nat}{o:Option BB}(hi:n≤i):(hp.set b o) i=hp i:=AH _ _ _ _ (by omega)
theorem Xk {k:IntKind}{n:Int}:Value.oneCell' (.int k n)=true:=rfl
theorem RQ {b:Bool}:Value.oneCell' (.bool b)=true:=rfl
theorem Vq {s:ByteArray}:Value.oneCell' (.string s)=true:=rfl
theorem yt {a:Option Addr}:Value.oneCell' (.pointer a)=true:=rfl
theorem mW {a:Option Addr}{n c:Nat}:Value.oneCell' (.slice a n c)=true:=rfl
theorem xe {a:Option Nat}:Value.oneCell' (.map a)=true:=rfl
theorem vi {f:Fn}{a b:Array Value}:Value.oneCell' (.func f a b)=true:=rfl
theorem te:Value.oneCell' .nilFunc=true:=rfl
theorem oW {t:TypeId}{v:Value}:Value.oneCell' (.iface t v)=true:=rfl
theorem uT:Value.oneCell' .nilIface=true:=rfl
theorem wh {l:List Value}:BS (.agg ⟨l⟩)=l:=rfl
theorem yJ {k:IntKind}{n:Int}:BS (.int k n)= [.int k n]:=rfl
theorem sq {b:Bool}:BS (.bool b)= [.bool b]:=rfl
theorem xA {s:ByteArray}:BS (.string s)= [.string s]:=rfl
theorem yf {a:Option Addr}:BS (.pointer a)= [.pointer a]:=rfl
theorem nU {a:Option Addr}{n c:Nat}:BS (.slice a n c)= [.slice a n c]:=rfl
theorem zH {a:Option Nat}:BS (.map a)= [.map a]:=rfl
theorem vf {f:Fn}{a b:Array Value}:BS (.func f a b)= [.func f a b]:=rfl
theorem qT:BS .nilFunc= [.nilFunc]:=rfl
theorem mm {t:TypeId}{v:Value}:BS (.iface t v)= [.iface t v]:=rfl
theorem ry:BS .nilIface= [.nilIface]:=rfl
theorem yl {a b:Nat}(h:a≤b):Nat.ble a b=true:=Nat.ble_eq_true_of_le h
theorem pV {n:Nat}{v:Value}:(List.replicate n [v]).flatten=Gw n v:=by simp [Gw]
theorem AD7 {α:Type}{a:α}:List.replicate 1 a= [a]:=rfl
theorem vB {α:Type}{a:α}:List.replicate 2 a= [a,a]:=rfl
theorem uZ {α:Type}{a:α}:List.replicate 3 a= [a,a,a]:=rfl
theorem ADw {α:Type}{a:α}:List.replicate 4 a= [a,a,a,a]:=rfl
theorem Zb {cs xs:List Value}:Am cs 0 xs=xs ++ cs.drop xs.length:=by simp [Am]
theorem Qo {c:Value}{cs xs:List Value}{n:Nat}:Am (c :: cs) (n+1) xs=c :: Am cs n xs:=by
 simp [Am,Nat.add_right_comm]
theorem aN {c:Value}{cs xs:List Value}{n:Nat}:Am (c :: cs) (1+n) xs=c :: Am cs n xs:=by
 rw [Nat.add_comm];exact Qo
theorem JY {cs:List Value}{v:Value}{n:Nat}(h:n < cs.length):Am cs n [v] = cs.set n v:=by
 simp only [Am,List.length_singleton]
 rw [List.set_eq_take_append_cons_drop,if_pos h];simp
theorem mB {α:Type}{c:α}{l:List α}{n:Nat}:(c :: l)[1+n]? = l[n]? :=by rw [Nat.add_comm,List.getElem?_cons_succ]
theorem g8 {α:Type}{c:α}{l:List α}{n:Nat}:(c :: l).drop (1+n)=l.drop n:=by rw [Nat.add_comm,List.drop_succ_cons]
theorem Yo {n:Nat}{k:IntKind}:Gw n (.int k 0)=(List.replicate n (0:Int)).map (Value.int k):=by simp [Gw]
theorem BX {ρ:Nat→Nat}{k:IntKind}{l:List Int}:Ag ρ (l.map (Value.int k))=l.map (Value.int k):=by
 rw [IE,List.map_map];rfl
theorem PV {ρ:Nat→Nat}{l:List Value}{i:Nat}{v:Value}:Ag ρ (l.set i v)=(Ag ρ l).set i (Ad ρ v):=by
 simp only [IE,List.map_set]
theorem Fy {k:IntKind}{l:List Int}{i:Nat}(h:i < l.length):((l.map (Value.int k))[i]?).getD undef= .int k ((l[i]?).getD 0):=by simp [h]
theorem mn {k:IntKind}{l:List Int}{i:Nat}{n:Int}:(l.map (Value.int k)).set i (.int k n)=(l.set i n).map (Value.int k):=by rw [List.map_set]
theorem H7 {k:IntKind}{l:List Int}{n:Nat}{v:Int}(h:n < l.length):Am (l.map (Value.int k)) n [.int k v] = (l.set n v).map (Value.int k):=by
 rw [JY (by simpa using h),mn]
theorem PH (x y:Int):ji x y=decide (x=y):=by rw [Wi];rfl
/-- frames,slot by slot -/
def Ax (ρ:Nat→Nat):Ew→Ew→Prop
 | [],_=>True
 | (t,v,g) :: l,fr=>Cd fr t=some (bif g then Ad ρ v else v,g)∧Ax ρ l fr
theorem AV {ρ:Nat→Nat}:∀ {fr' fr:Ew},Ax ρ fr' fr→∀t v,N5 fr' t=some v→N5 fr t=some (Ad ρ v):=by
 intro fr'
 induction fr' with
 |nil=>intro fr _ t v h;cases h
 |cons p l ih=>
  obtain ⟨j,x,g⟩:=p
  intro fr h t v hv
  obtain ⟨h1,h2⟩:=h
  simp only [N5,Cd] at hv ⊢
  cases hb:Nat.beq j t with
  |true=>
   rw [hb] at hv
   have:=Nat.eq_of_beq_eq_true hb
   subst this
   cases hv
   rw [h1]
   cases g with
   |true=>rfl
   |false=>rfl
  |false=>
   rw [hb] at hv
   exact ih h2 t v hv
end Go.Dm
/- Slices of data:what they hold,as lists. -/
namespace Go.Dm
/-- how a datum lies in memory -/
structure Bn (α:Type) where
 enc:α→List Value
 dec:List Value→α
 size:Nat
 h:∀a,dec (enc a)=a
 len:∀a,(enc a).length=size
 one:∀a,BD (enc a)=true
/-- data without names of blocks -/
class Bn.Plain {α:Type} (E:Bn α):Prop where
 pl:∀a ρ,Ag ρ (E.enc a)=E.enc a
def Bn.flat {α:Type}(E:Bn α)(l:List α):List Value:=(l.map E.enc).flatten
def Aj {α:Type}[Inhabited α](l:List α)(i:Nat):α:=(l[i]?).getD default
theorem Bj {α:Type}[Inhabited α](l:List α)(i:Nat)(h:i < l.length):Aj l i=l[i]:=by simp [Aj,h]
section
variable {α:Type} {E:Bn α}
theorem Bn.GW:E.flat [] = []:=rfl
theorem Bn.D8 (a:α)(l:List α):E.flat (a :: l)=E.enc a ++ E.flat l:=rfl
theorem Bn.IM (l m:List α):E.flat (l ++ m)=E.flat l ++ E.flat m:=by simp [Bn.flat]
theorem Bn.Bt (l:List α):(E.flat l).length=l.length * E.size:=by
 induction l with
 |nil=>simp [Bn.GW]
 |cons a l ih=>rw [Bn.D8,List.length_append,E.len,ih,List.length_cons,Nat.succ_mul];omega
theorem Bn.F4 (l:List α):BD (E.flat l)=true:=by
 have app:∀x y:List Value,BD (x ++ y)=(BD x && BD y):=by
  intro x y
  induction x with
  |nil=>rfl
  |cons a x ih=>simp only [List.cons_append,BD,ih,Bool.and_assoc]
 induction l with
 |nil=>rfl
 |cons a l ih=>rw [Bn.D8,app,E.one,ih];rfl
theorem Bn.BN [E.Plain](l:List α)(ρ:Nat→Nat):Ag ρ (E.flat l)=E.flat l:=by
 induction l with
 |nil=>rfl
 |cons a l ih=>rw [Bn.D8,ID,Bn.Plain.pl,ih]
theorem Bn.M6 (l:List α):∀i,(E.flat l).drop (i * E.size)=E.flat (l.drop i):=by
 induction l with
 |nil=>intro i;simp [Bn.GW]
 |cons a l ih=>
  intro i
  cases i with
  |zero=>simp
  |succ i=>
   rw [Bn.D8,show (i+1) * E.size=(E.enc a).length+i * E.size from by rw [E.len,Nat.succ_mul];omega,List.drop_append]
   rw [List.drop_eq_nil_of_le (by omega),List.nil_append,show (E.enc a).length+i * E.size - (E.enc a).length=i * E.size from by omega,ih]
   rfl
theorem Bn.HC (l:List α):∀i,(E.flat l).take (i * E.size)=E.flat (l.take i):=by
 induction l with
 |nil=>intro i;simp [Bn.GW]
 |cons a l ih=>
  intro i
  cases i with
  |zero=>simp [Bn.GW]
  |succ i=>
   rw [Bn.D8,show (i+1) * E.size=(E.enc a).length+i * E.size from by rw [E.len,Nat.succ_mul];omega,List.take_append]
   rw [List.take_of_length_le (by omega),show (E.enc a).length+i * E.size - (E.enc a).length=i * E.size from by omega,ih]
   rfl
theorem Bn.PA [Inhabited α](l:List α)(i:Nat)(h:i < l.length):((E.flat l).drop (i * E.size)).take E.size=E.enc (Aj l i):=by
 rw [Bn.M6,List.drop_eq_getElem_cons h,Bn.D8,List.take_append,List.take_of_length_le (by rw [E.len];omega),E.len,Nat.sub_self,List.take_zero,List.append_nil,Bj _ _ h]
end
/-- v is a slice of the data l -/
inductive BU {α:Type} (E:Bn α) (hp:Hp):Value→List α→Prop
 |nils:BU E hp (.slice none 0 0) []
 |emp:BU E hp (.slice (some ⟨0,0,some 0⟩) 0 0) []
 |rows (b o c:Nat) (rw:Bool) (vs:List Value) (l:List α) (hb:hp b=some (.cells rw E.size vs)) (hv:(vs.drop o).take (l.length * E.size)=E.flat l) (ho:o+l.length * E.size≤vs.length) (hc:l.length≤c) (hn:l.length≤9223372036854775807) :
   BU E hp (.slice (some ⟨b,o,none⟩) l.length c) l
/-- where a cell of a slice lies -/
def BM (v:Value)(d:Nat):Value:=match v with
 | .slice (some ⟨b,o,none⟩) _ _=> .pointer (some ⟨b,o+d,none⟩)
 |_=>undef
def Bn.rd {α:Type}(E:Bn α)(hp:Hp)(v:Value):List α:=match v with
 | .slice (some ⟨b,o,none⟩) n _=>match hp b with
  |some (.cells _ _ vs)=>(List.range n).map fun i=>E.dec ((vs.drop (o+i * E.size)).take E.size)
  |_=> []
 |_=> []
section
variable {α:Type} [Inhabited α] {E:Bn α} {hp:Hp} {v:Value} {l:List α} {tt:Ac} {t e:TypeId}
omit [Inhabited α] in
theorem BU.le (h:BU E hp v l):l.length≤9223372036854775807:=by cases h with
 |nils=>simp
 |emp=>simp
 |rows _ _ _ _ _ _ _ _ _ _ hn=>exact hn
omit [Inhabited α] in
omit [Inhabited α] in
theorem BU.Hu (h:BU E hp v l)(hk:BF tt t=some (.slice e)){hp':Hp}:C6 tt hp' t v=(.int .i64 (l.length:Int),True):=by
 obtain ⟨i,hi,hd⟩:=BG hk
 cases h <;> (unfold C6;simp [hk,FD,hi,hd])
theorem BU.at (h:BU E hp v l){i:Nat}(hi:i < l.length):∃b o c rw vs,v= .slice (some ⟨b,o,none⟩) l.length c∧hp b=some (.cells rw E.size vs)∧(vs.drop (o+i * E.size)).take E.size=E.enc (Aj l i)∧o+(i+1) * E.size≤vs.length:=by
 cases h with
 |nils=>simp at hi
 |emp=>simp at hi
 |rows b o c rw vs l hb hv ho hc hn=>
  have h1:(i+1) * E.size≤l.length * E.size:=Nat.mul_le_mul_right _ hi
  refine ⟨b,o,c,rw,vs,rfl,hb, ?_,by omega⟩
  rw [←Bn.PA l i hi,←hv,List.drop_take,List.take_take,List.drop_drop]
  congr 1
  rw [Nat.succ_mul] at h1
  omega
theorem BU.rd (h:BU E hp v l):E.rd hp v=l:=by
 cases hh:h with
 |nils=>rfl
 |emp=>rfl
 |rows b o c rw vs l hb hv ho hc hn=>
  simp only [Bn.rd,hb]
  apply List.ext_getElem
  ·simp
  ·intro i h1 h2
   obtain ⟨b',o',c',rw',vs',e1,e2,e3,e4⟩:=h.at h2
   cases e1
   rw [hb] at e2;cases e2
   simp only [List.getElem_map,List.getElem_range,e3,E.h,Bj _ _ h2]
theorem BU.idx (h:BU E hp v l){j:TI}(hk:BF tt t=some (.slice e))(hj:tt e=some j)(hs:j.size=E.size){k:IntKind}{n:Int}(h0:0≤n)(h1:n < l.length) :
  BP tt t v (.int k n)=(BM v (n.toNat * E.size),True):=by
 obtain ⟨b,o,c,rw,vs,rfl,hb,_⟩:=h.at (i:=n.toNat) (by omega)
 unfold BP
 simp [hk,hj,hs,BM,h0,h1]
theorem BU.load (h:BU E hp v l){j:TI}(hj:tt e=some j)(hs:j.size=E.size)(ha:Jm j.ud=true){i:Nat}(hi:i < l.length) :
  CS tt hp e (BM v (i * E.size))=(.agg ⟨E.enc (Aj l i)⟩,True):=by
 obtain ⟨b,o,c,rw,vs,rfl,hb,hrow,hlen⟩:=h.at hi
 unfold CS
 rw [Nat.succ_mul] at hlen
 simp [BM,hj,hb,ha,hs,hrow]
 omega
theorem BU.cell (h:BU E hp v l){j:TI}(hj:tt e=some j)(ha:Jm j.ud=false){i f:Nat}(hi:i < l.length)(hf:f < E.size) :
  CS tt hp e (BM v (i * E.size+f))=((E.enc (Aj l i))[f]?.getD undef,True):=by
 obtain ⟨b,o,c,rw,vs,rfl,hb,hrow,hlen⟩:=h.at hi
 unfold CS
 rw [Nat.succ_mul] at hlen
 have e1:vs[o+(i * E.size+f)]? = (E.enc (Aj l i))[f]? :=by
  rw [←hrow,List.getElem?_take,List.getElem?_drop,if_pos hf,Nat.add_assoc]
 simp only [BM,hj,hb,ha,e1]
 simp only [Prod.mk.injEq,true_and,eq_iff_iff,iff_true]
 omega
/-- a sub-array of an element -/
theorem BU.sub (h:BU E hp v l){j:TI}(hj:tt e=some j)(ha:Jm j.ud=true){i f:Nat}(hi:i < l.length)(hf:f+j.size≤E.size) :
  CS tt hp e (BM v (i * E.size+f))=(.agg ⟨((E.enc (Aj l i)).drop f).take j.size⟩,True):=by
 obtain ⟨b,o,c,rw,vs,rfl,hb,hrow,hlen⟩:=h.at hi
 unfold CS
 rw [Nat.succ_mul] at hlen
 have e1:(vs.drop (o+(i * E.size+f))).take j.size=((E.enc (Aj l i)).drop f).take j.size:=by
  rw [←hrow,List.drop_take,List.take_take,List.drop_drop,Nat.min_eq_left (by omega),Nat.add_assoc]
 simp only [BM,hj,hb,ha,e1]
 simp only [Prod.mk.injEq,true_and,eq_iff_iff,iff_true]
 omega
theorem BU.field (h:BU E hp v l){i:Nat}(hi:i < l.length){s:TypeId}{f o d:Nat}(hf:∀b o,AY tt s (.pointer (some ⟨b,o,none⟩)) f=some (.pointer (some ⟨b,o+d,none⟩))) :
  AI tt s (BM v o) f=(BM v (o+d),True):=by
 obtain ⟨b,o',c,rw,vs,rfl,hb,_⟩:=h.at hi
 unfold AI BM
 simp only [hf,Nat.add_assoc]
omit [Inhabited α] in
theorem BU.mono {hp':Hp}(h:BU E hp v l)(hs:∀b o n c,v= .slice (some ⟨b,o,none⟩) n c→hp' b=hp b):BU E hp' v l:=by
 cases h with
 |nils=>exact .nils
 |emp=>exact .emp
 |rows b o c rw vs l hb hv ho hc hn=>exact .rows b o c rw vs l (by rw [hs _ _ _ _ rfl];exact hb) hv ho hc hn
omit [Inhabited α] in
theorem BU.low (h:BU E hp v l){n:Nat}(hcl:Cl hp n):Sc n v:=by
 cases h with
 |nils=>trivial
 |emp=>trivial
 |rows b o c rw vs l hb hv ho hc hn=>exact hcl.lt _ _ hb
omit [Inhabited α] in
theorem BU.set (h:BU E hp v l){n i:Nat}{o:Option BB}(hl:Sc n v)(hi:n≤i):BU E (hp.set i o) v l:=by
 refine h.mono fun b o n' c e=> ?_
 subst e
 exact AH _ _ _ _ (by simp only [Sc] at hl;omega)
omit [Inhabited α] in
omit [Inhabited α] in
theorem Ao {tt:Ac}{hp:Hp}{v:Value}{n:Nat}(hl:Sc n v){i d:Nat}{o:Option BB}{t:TypeId}(hi:n≤i):CS tt (hp.set i o) t (BM v d)=CS tt hp t (BM v d):=by
 cases v with
 |slice a m c=>
  cases a with
  |none=>rfl
  |some a=>
   obtain ⟨b,q,s⟩:=a
   cases s with
   |some s=>rfl
   |none=>
   simp only [Sc] at hl
   have e:=AH hp i b o (by omega)
   simp only [BM,CS]
   cases tt t <;> simp only [e]
 |_=>rfl
theorem Ka {α:Type}{E:Bn α}{l:List α}{tt:Ac}{hp hp0:Hp}{v:Value}{n:Nat}(h:BU E hp0 v l)(hl:Sc n v){i:Nat}{o:Option BB}{t e:TypeId}{lo hi:Option Value}(hk:BF tt t=some (.slice e))(hi':n≤i):DU tt (hp.set i o) t v lo hi=DU tt hp t v lo hi:=by
 cases h with
 |nils=>unfold DU;simp only [hk]
 |emp=>
  obtain ⟨i1,hi1,hd⟩:=BG hk
  unfold DU
  simp only [hk,E4,hi1,hd]
 |rows b q c rw vs l hb hv ho hc hn=>
  simp only [Sc] at hl
  have e:=AH hp i b o (by omega)
  unfold DU
  simp only [hk,e]
theorem iH {tt:Ac}{hp:Hp}{t:TypeId}{b o:Nat}:CS tt hp t (.pointer (some ⟨b,o,none⟩))=(match tt t with
  |some i=>match hp b with
   |some (.cells _ _ vs)=>match Jm i.ud with
    |true=>(.agg ⟨(vs.drop o).take i.size⟩,o+i.size≤vs.length)
    |false=>((vs[o]?).getD undef,o < vs.length)
   |_=>(undef,False)
  |none=>(undef,False)):=by
 unfold CS
 cases tt t with
 |none=>rfl
 |some i=>rfl
theorem ax {tt:Ac}{hp:Hp}{t:TypeId}{b o:Nat}{x:Value}:Bg tt hp t (.pointer (some ⟨b,o,none⟩)) x=(match tt t with
  |some i=>match hp b with
   |some (.cells true Dj vs)=>([(b,some (.cells true Dj (Am vs o (BS x))))],Jw x i.size∧o+i.size≤vs.length∧BD (BS x)=true)
   |_=>([],False)
  |none=>([],False)):=by
 unfold Bg
 cases tt t with
 |none=>rfl
 |some i=>rfl
theorem So {tt:Ac}{t:TypeId}{b o:Nat}{ix:Value}:BP tt t (.pointer (some ⟨b,o,none⟩)) ix=(match BF tt t with
  |some (.array len e)=>match tt e with
   |some j=>(.pointer (some ⟨b,o+(intOf ix).toNat * j.size,none⟩),aQ ix∧0≤intOf ix∧intOf ix < (len:Int))
   |none=>(undef,False)
  |_=>(undef,False)):=by
 unfold BP
 cases BF tt t with
 |none=>rfl
 |some d=>cases d <;> rfl
/-- v is a slice of data -/
inductive Dp {α:Type} (E:Bn α) (hp:Hp) (v:Value):Prop
 |mk (l:List α) (h:BU E hp v l)
theorem BU.P {α:Type}{E:Bn α}{hp:Hp}{v:Value}{l:List α}(h:BU E hp v l):Dp E hp v=True:=eq_true ⟨l,h⟩
theorem BU.oc {α:Type}{E:Bn α}{hp:Hp}{v:Value}{l:List α}(h:BU E hp v l):Value.oneCell' v=true:=by cases h <;> rfl
theorem BU.cl {α:Type}{E:Bn α}{hp:Hp}{v:Value}{l:List α}(h:BU E hp v l):BS v= [v]:=by cases h <;> rfl
theorem BU.back {α:Type}{E:Bn α}{hp:Hp}{v:Value}{l:List α}{n i:Nat}{o:Option BB}(h:BU E (hp.set i o) v l)(hl:Sc n v)(hi:n≤i):BU E hp v l:=
 h.mono fun b q n' c e=>by subst e;exact (AH _ _ _ _ (by simp only [Sc] at hl;omega)).symm
theorem CK {α:Type}{E:Bn α}{hp:Hp}{v:Value}{n:Nat}(hl:Sc n v){i:Nat}{o:Option BB}(hi:n≤i):Dp E (hp.set i o) v=Dp E hp v:=
 propext ⟨fun ⟨l,h⟩=>⟨l,h.back hl hi⟩,fun ⟨l,h⟩=>⟨l,h.set hl hi⟩⟩
theorem Bf {α:Type}{E:Bn α}{hp:Hp}{v:Value}{n:Nat}(hl:Sc n v){i:Nat}{o:Option BB}(hi:n≤i):E.rd (hp.set i o) v=E.rd hp v:=by
 cases v with
 |slice a m c=>
  cases a with
  |none=>rfl
  |some a=>
   obtain ⟨b,q,s⟩:=a
   cases s with
   |some s=>rfl
   |none=>
   simp only [Sc] at hl
   have e:=AH hp i b o (by omega)
   simp only [Bn.rd,e]
 |_=>rfl
theorem Ss {tt:Ac}{t:TypeId}{b o n c:Nat}{ix:Value}:BP tt t (.slice (some ⟨b,o,none⟩) n c) ix=(match BF tt t with
  |some (.slice e)=>match tt e with
   |some j=>(.pointer (some ⟨b,o+(intOf ix).toNat * j.size,none⟩),aQ ix∧0≤intOf ix∧intOf ix < (n:Int))
   |none=>(undef,False)
  |_=>(undef,False)):=by
 unfold BP
 cases BF tt t with
 |none=>rfl
 |some d=>cases d <;> rfl
/-! ### parts of a slice -/
def Pv (sz:Nat)(v:Value)(a b:Nat):Value:=match v with
 | .slice (some ⟨k,o,none⟩) _ c=> .slice (some ⟨k,o+a * sz,none⟩) (b - a) (c - a)
 |v=>v
omit [Inhabited α] in
theorem BU.ABE (h:BU E hp v l){j:TI}(hk:BF tt t=some (.slice e))(hj:tt e=some j){k:IntKind}{n:Int}(h0:0≤n)(h1:n≤l.length) :
  DU tt hp t v none (some (.int k n))=(Pv E.size v 0 n.toNat,True):=by
 cases h with
 |nils=>
  have:n=0:=by simp at h1;omega
  subst this
  simp [DU,hk,hj,FA,CV,Pv]
 |emp=>
  have:n=0:=by simp at h1;omega
  subst this
  obtain ⟨i,hi,hd⟩:=BG hk
  have hb:Gk none (some (.int k 0)) 0 0=some (0,0):=rfl
  simp [DU,hk,Pv,E4,hi,hd,hj,hb]
 |rows b o c rw vs l hb hv ho hc hn=>
  simp only [DU,hk,hj,hb,FA,CV,Pv,Rj,BA,Nat.zero_mul,Nat.add_zero,Nat.sub_zero,true_and,Prod.mk.injEq,eq_iff_iff,iff_true]
  omega
omit [Inhabited α] in
theorem BU.take (h:BU E hp v l){n:Nat}(h1:n≤l.length):BU E hp (Pv E.size v 0 n) (l.take n):=by
 cases h with
 |nils=>simp [Pv];exact .nils
 |emp=>simp [Pv];exact .emp
 |rows b o c rw vs l hb hv ho hc hn=>
  have hl:(l.take n).length=n:=by rw [List.length_take];omega
  have h2:n * E.size≤l.length * E.size:=Nat.mul_le_mul_right _ h1
  have:=BU.rows (E:=E) (hp:=hp) b o c rw vs (l.take n) hb (by rw [hl,←Bn.HC,←hv,List.take_take,Nat.min_eq_left h2]) (by rw [hl];omega) (by omega) (by omega)
  rw [hl] at this
  simpa [Pv] using this
end
/-- a slice's rest -/
def Mb (sz:Nat)(v:Value)(a:Nat):Value:=match v with
 | .slice (some ⟨k,o,none⟩) n c=>if a=0∨a < c then .slice (some ⟨k,o+a * sz,none⟩) (n - a) (c - a) else .slice (some ⟨0,0,some 0⟩) 0 0
 |v=>v
theorem BU.ABi {α:Type}{E:Bn α}{hp:Hp}{v:Value}{l:List α}{tt:Ac}{t e:TypeId}(h:BU E hp v l){j:TI}(hk:BF tt t=some (.slice e))(hj:tt e=some j)(hs:j.size=E.size){k:IntKind}{n:Int}(h0:0≤n)(h1:n≤l.length) :
  DU tt hp t v (some (.int k n)) none=(Mb E.size v n.toNat,True):=by
 cases h with
 |nils=>
  have:n=0:=by simp at h1;omega
  subst this
  simp [DU,hk,hj,FA,CV,Mb]
 |emp=>
  have:n=0:=by simp at h1;omega
  subst this
  obtain ⟨i,hi,hd⟩:=BG hk
  have hb:Gk (some (.int k 0)) none 0 0=some (0,0):=rfl
  simp [DU,hk,Mb,E4,hi,hd,hj,hb]
 |rows b o c rw vs l hb hv ho hc hn=>
  simp only [DU,hk,hj,hb,FA,CV,Mb,Rj,BA,hs,Int.toNat_natCast,true_and,Prod.mk.injEq,eq_iff_iff,iff_true,true_or,and_true]
  refine ⟨?_,by omega⟩
  by_cases hh:n.toNat=0∨n < (c:Int)
  ·rw [if_pos hh,if_pos (by omega)]
  ·rw [if_neg hh,if_neg (by omega)]
theorem BU.drop {α:Type}{E:Bn α}{hp:Hp}{v:Value}{l:List α}(h:BU E hp v l){n:Nat}(h1:n≤l.length):BU E hp (Mb E.size v n) (l.drop n):=by
 cases h with
 |nils=>simp [Mb];exact .nils
 |emp=>simp [Mb];exact .emp
 |rows b o c rw vs l hb hv ho hc hn=>
  simp only [Mb]
  have hl:(l.drop n).length=l.length - n:=by rw [List.length_drop]
  have h2:n * E.size≤l.length * E.size:=Nat.mul_le_mul_right _ h1
  split
  ·have e1:(l.length - n) * E.size=l.length * E.size - n * E.size:=by rw [Nat.sub_mul]
   have:=BU.rows (E:=E) (hp:=hp) b (o+n * E.size) (c - n) rw vs (l.drop n) hb (by
    rw [hl,e1,←Bn.M6,←hv,List.drop_take,List.drop_drop]) (by rw [hl,e1];omega) (by omega) (by omega)
   rw [hl] at this
   exact this
  ·rename_i hh
   have:l.drop n= []:=List.drop_eq_nil_of_le (by omega)
   rw [this];exact .emp
/-! ### slices that are the function's own -/
def AK {α:Type}(b:Nat)(l:List α):Value:=match l with
 | []=> .slice none 0 0
 |_ :: l=> .slice (some ⟨b,0,none⟩) (l.length+1) (l.length+1)
def AO {α:Type}(E:Bn α)(l:List α):Option BB:=match l with
 | []=>none
 |a :: l=>some (.cells true E.size (E.flat (a :: l)))
section
variable {α:Type} {E:Bn α} {hp:Hp} {b:Nat} {l:List α} {v:Value}
theorem EN:AO E ([] :List α)=none:=rfl
theorem Ea {α:Type}{E:Bn α}{l:List α}:vr (AO E l)=True:=by cases l <;> exact eq_true (by first | trivial | rfl)
theorem Dh:(AK b ([] :List α))= .slice none 0 0:=rfl
theorem BU.KH (h:hp b=AO E l)(hn:l.length≤9223372036854775807):BU E hp (AK b l) l:=by
 cases l with
 |nil=>exact .nils
 |cons a l=>
  have:=BU.rows (E:=E) (hp:=hp) b 0 (l.length+1) true (E.flat (a :: l)) (a :: l) h (by rw [List.drop_zero,List.take_of_length_le];rw [Bn.Bt];exact Nat.le_refl _) (by rw [Bn.Bt];omega) (by simp) (by omega)
  simpa [AK] using this
theorem BU.own (h:hp b=AO E l)(hn:l.length≤16777216):BU E hp (AK b l) l:=BU.KH h (by omega)
theorem Af {ρ:Nat→Nat}:Ad ρ (AK b l)=AK (ρ b) l:=by cases l <;> rfl
theorem AQ [E.Plain]{ρ:Nat→Nat}:ZV ρ (AO E l)=AO E l:=by
 cases l with
 |nil=>rfl
 |cons a l=>simp only [AO,ZV,KZ,Bn.BN]
/-- what an append does to memory -/
def Em (b:Nat)(l:List α)(top:Nat)(o:Option BB):BC:=match l with
 | []=> [(top,o)]
 |_ :: _=> [(b,none),(top,o)]
theorem I7 {top:Nat}{o:Option BB}(h:hp b=AO E l):hp.AZ (Em b l top o)=(hp.set b none).set top o:=by
 cases l with
 |nil=>
  have:hp.set b none=hp:=by
   funext i
   unfold Hp.set
   split
   ·rename_i e;rw [e,h];rfl
   ·rfl
  rw [this];rfl
 |cons a l=>rfl
theorem BU.J7 (h:BU E hp v l):J7 v=some l.length:=by cases h <;> rfl
theorem BU.FH (h:BU E hp v l):FH hp E.size l.length v=some (E.flat l):=by
 cases h with
 |nils=>simp [Dm.FH,Bn.GW]
 |emp=>simp [Dm.FH,Bn.GW]
 |rows b' o c rw vs l' hb' hv ho hc hn'=>
  simp only [Dm.FH,hb',hv,Bn.Bt,Nat.beq_refl]
/-- an append to a slice of one's own -/
theorem Wq {tt:Ac}{top t0 t1 e:Nat}{i1 j:TI}{x:Value}{m:List α}(h0:BF tt t0=some (.slice e))(h1:tt t1=some i1)(hi:GD i1.ud=false)(hj:tt e=some j)(hs:j.size=E.size)(hby:Nat.ble j.bytes 65536=true)
  (h:hp b=AO E l) (hx:BU E hp x m) (hn:DR (l.length+m.length) j.bytes=true) :
  Ar tt hp top [t0,t1] (AK b l) x=some (AK top (l ++ m),Em b l top (AO E (l ++ m)),top+1):=by
 obtain ⟨i,hi0,hd⟩:=BG h0
 have hf:=hx.FH
 have hlx:=hx.J7
 cases l with
 |nil=>
  cases m with
  |nil=>
   simp only [List.length_nil] at hf hlx
   simp [Ar,hi0,h1,hlx,hi,hd,hj,hs,hf,hby,Bn.GW,BD,AK,AO,Em]
  |cons y m=>
   have h2:DR (y :: m).length j.bytes=true:=by simpa using hn
   have h3:=E.F4 (y :: m)
   have h4:Nat.beq (E.flat (y :: m)).length ((y :: m).length * E.size)=true:=by rw [Bn.Bt];simp
   have h5:Nat.beq (y :: m).length 0=false:=rfl
   simp only [List.length_cons] at hf hlx h2 h4 h5
   simp only [Ar,hi0,h1,hlx,hi,hd,hj,hs,hf,hby,h2,h3,h4,h5,AK,AO,Em,List.nil_append,Bool.and_self,Bool.true_and]
 |cons a l=>
  have hb:hp b=some (.cells true E.size (E.flat (a :: l))):=h
  have h3:=E.F4 m
  have h4:Nat.beq (E.flat m).length (m.length * E.size)=true:=by rw [Bn.Bt];simp
  have h5:Nat.beq E.size E.size=true:=by simp
  have h6:(Nat.ble (l.length+1+m.length) (l.length+1) && !Nat.beq (l.length+1) (l.length+1))=false:=by
   rw [Nat.beq_refl];simp
  have h7:(Nat.beq (0+(l.length+1) * E.size) (E.flat (a :: l)).length && DR (l.length+1+m.length) j.bytes)=true:=by
   rw [Bool.and_eq_true]
   exact ⟨by rw [Bn.Bt];simp,hn⟩
  simp only [Ar,hi0,h1,hlx,hi,hd,hj,hs,hf,hby,hb,h3,h4,h5,h6,h7,AK,AO,Em,Bool.and_self,List.cons_append,List.drop_zero]
  simp only [List.length_append,Bn.D8,Bn.IM,List.append_assoc]
  have e1:l.length+1+m.length=l.length+m.length+1:=by omega
  rw [e1]
theorem Q2 {tt:Ac}{top t0 t1 e:Nat}{i1 j:TI}{x:Value}{m:List α}(h0:BF tt t0=some (.slice e))(h1:tt t1=some i1)(hi:GD i1.ud=false)(hj:tt e=some j)(hs:j.size=E.size)(hby:Nat.ble j.bytes 65536=true)
  (h:hp b=AO E l) (hx:BU E hp x m) (hn:l.length+m.length≤16777216) :
  Ar tt hp top [t0,t1] (AK b l) x=some (AK top (l ++ m),Em b l top (AO E (l ++ m)),top+1):=
 Wq h0 h1 hi hj hs hby h hx (TS hn (Nat.le_of_ble_eq_true hby))
theorem OK {tt:Ac}{top t0 t1 e:Nat}{i1 j:TI}{x:Value}{m:List α}(h0:BF tt t0=some (.slice e))(h1:tt t1=some i1)(hi:GD i1.ud=false)(hj:tt e=some j)(hs:j.size=E.size)(hby:Nat.ble j.bytes 65536=true)
  (hx:BU E hp x m) (hn:DR m.length j.bytes=true) :
  Ar tt hp top [t0,t1] (.slice none 0 0) x=some (AK top m, [(top,AO E m)],top+1):=by
 obtain ⟨i,hi0,hd⟩:=BG h0
 have hf:=hx.FH
 have hlx:=hx.J7
 cases m with
 |nil=>
  simp only [List.length_nil] at hf hlx
  simp [Ar,hi0,h1,hlx,hi,hd,hj,hs,hf,hby,Bn.GW,BD,AK,AO]
 |cons y m=>
  have h2:DR (y :: m).length j.bytes=true:=hn
  have h3:=E.F4 (y :: m)
  have h4:Nat.beq (E.flat (y :: m)).length ((y :: m).length * E.size)=true:=by rw [Bn.Bt];simp
  have h5:Nat.beq (y :: m).length 0=false:=rfl
  simp only [List.length_cons] at hf hlx h2 h4 h5
  simp only [Ar,hi0,h1,hlx,hi,hd,hj,hs,hf,hby,h2,h3,h4,h5,AK,AO,Bool.and_self,Bool.true_and]
theorem Q4 {tt:Ac}{top t0 t1 e:Nat}{i1 j:TI}{x:Value}{m:List α}(h0:BF tt t0=some (.slice e))(h1:tt t1=some i1)(hi:GD i1.ud=false)(hj:tt e=some j)(hs:j.size=E.size)(hby:Nat.ble j.bytes 65536=true)
  (hx:BU E hp x m) (hn:m.length≤16777216) :
  Ar tt hp top [t0,t1] (.slice none 0 0) x=some (AK top m, [(top,AO E m)],top+1):=
 OK h0 h1 hi hj hs hby hx (TS hn (Nat.le_of_ble_eq_true hby))
theorem ABr (h:hp b=AO E l)(hn:l.length≤16777216):Dp E hp (AK b l)=True:=(BU.own h hn).P
theorem xy [Inhabited α](h:hp b=AO E l)(hn:l.length≤16777216):E.rd hp (AK b l)=l:=(BU.own h hn).rd
theorem rD:BS (AK b l)= [AK b l]:=by cases l <;> rfl
theorem qv:Value.oneCell' (AK b l)=true:=by cases l <;> rfl
theorem Da [Inhabited α]{tt:Ac}{top t0 t1 e:Nat}{i1 j:TI}{x:Value}(h0:BF tt t0=some (.slice e))(h1:tt t1=some i1)(hi:GD i1.ud=false)(hj:tt e=some j)(hs:j.size=E.size)(hby:Nat.ble j.bytes 65536=true)
  (h:hp b=AO E l) (hx:Dp E hp x) (hn:l.length+(E.rd hp x).length≤16777216) :
  Ar tt hp top [t0,t1] (AK b l) x=some (AK top (l ++ E.rd hp x),Em b l top (AO E (l ++ E.rd hp x)),top+1):=by
 obtain ⟨m,hm⟩:=hx
 rw [hm.rd] at hn ⊢
 exact Q2 h0 h1 hi hj hs hby h hm hn
theorem xh (h:hp b=AO E l)(hn:l.length≤9223372036854775807):Dp E hp (AK b l)=True:=(BU.KH h hn).P
theorem tG [Inhabited α](h:hp b=AO E l)(hn:l.length≤9223372036854775807):E.rd hp (AK b l)=l:=(BU.KH h hn).rd
theorem C8 [Inhabited α]{tt:Ac}{top t0 t1 e:Nat}{i1 j:TI}{x:Value}(h0:BF tt t0=some (.slice e))(h1:tt t1=some i1)(hi:GD i1.ud=false)(hj:tt e=some j)(hs:j.size=E.size)(hby:Nat.ble j.bytes 65536=true)
  (hx:Dp E hp x) (hn:DR (E.rd hp x).length j.bytes=true) :
  Ar tt hp top [t0,t1] (.slice none 0 0) x=some (AK top (E.rd hp x), [(top,AO E (E.rd hp x))],top+1):=by
 obtain ⟨m,hm⟩:=hx
 rw [hm.rd] at hn ⊢
 exact OK h0 h1 hi hj hs hby hm hn
/-- one datum more -/
theorem BU.one {k:Nat}{a:α}(h:hp k=some (.cells true E.size (E.enc a))):BU E hp (.slice (some ⟨k,0,none⟩) 1 1) [a]:=by
 have hl:=E.len a
 exact BU.rows (E:=E) (hp:=hp) k 0 1 true (E.enc a) [a] h (by simp [Bn.flat,←hl]) (by simp [hl]) (by simp) (by simp)
theorem DY [Inhabited α]{tt:Ac}{top t0 t1 e:Nat}{i1 j:TI}{x:Value}(h0:BF tt t0=some (.slice e))(h1:tt t1=some i1)(hi:GD i1.ud=false)(hj:tt e=some j)(hs:j.size=E.size)(hby:Nat.ble j.bytes 65536=true)
  (hx:Dp E hp x) (hn:(E.rd hp x).length≤16777216) :
  Ar tt hp top [t0,t1] (.slice none 0 0) x=some (AK top (E.rd hp x), [(top,AO E (E.rd hp x))],top+1):=by
 obtain ⟨m,hm⟩:=hx
 rw [hm.rd] at hn ⊢
 exact Q4 h0 h1 hi hj hs hby hm hn
theorem aH {tt:Ac}{top t0 t1 e k:Nat}{i1 j:TI}{cs:List Value}(h0:BF tt t0=some (.slice e))(h1:tt t1=some i1)(hi:GD i1.ud=false)(hj:tt e=some j)(hs:j.size=E.size)(hby:Nat.ble j.bytes 65536=true)
  (h:hp b=AO E l) (hk:hp k=some (.cells true E.size cs)) (hc:E.enc (E.dec cs)=cs) (hn:l.length < 16777216) :
  Ar tt hp top [t0,t1] (AK b l) (.slice (some ⟨k,0,none⟩) 1 1)=some (AK top (l ++ [E.dec cs]),Em b l top (AO E (l ++ [E.dec cs])),top+1):=
 Q2 h0 h1 hi hj hs hby h (BU.one (by rw [hc];exact hk)) (by simp only [List.length_singleton];omega)
def cellsOf:Option BB→List Value
 |some (.cells _ _ cs)=>cs
 |_=> []
theorem El {rw:Bool}{z:Nat}{cs:List Value}:cellsOf (some (.cells rw z cs))=cs:=rfl
theorem Fi {tt:Ac}{top t0 t1 e k:Nat}{i1 j:TI}(h0:BF tt t0=some (.slice e))(h1:tt t1=some i1)(hi:GD i1.ud=false)(hj:tt e=some j)(hs:j.size=E.size)(hby:Nat.ble j.bytes 65536=true)
  (h:hp b=AO E l) (hk:hp k=some (.cells true E.size (cellsOf (hp k)))) (hc:E.enc (E.dec (cellsOf (hp k)))=cellsOf (hp k)) (hn:l.length < 16777216) :
  Ar tt hp top [t0,t1] (AK b l) (.slice (some ⟨k,0,none⟩) 1 1)=some (AK top (l ++ [E.dec (cellsOf (hp k))]),Em b l top (AO E (l ++ [E.dec (cellsOf (hp k))])),top+1):=
 aH h0 h1 hi hj hs hby h hk hc hn
theorem DB {tt:Ac}{top t0 t1 e k:Nat}{i1 j:TI}(h0:BF tt t0=some (.slice e))(h1:tt t1=some i1)(hi:GD i1.ud=false)(hj:tt e=some j)(hs:j.size=E.size)(hby:Nat.ble j.bytes 65536=true)
  (hk:hp k=some (.cells true E.size (cellsOf (hp k)))) (hc:E.enc (E.dec (cellsOf (hp k)))=cellsOf (hp k)) :
  Ar tt hp top [t0,t1] (.slice none 0 0) (.slice (some ⟨k,0,none⟩) 1 1)=some (AK top [E.dec (cellsOf (hp k))], [(top,AO E [E.dec (cellsOf (hp k))])],top+1):=
 Q4 h0 h1 hi hj hs hby (BU.one (by rw [hc];exact hk)) (by simp)
/-- an element of one's own -/
theorem ACy [Inhabited α]{tt:Ac}{t e:TypeId}{j:TI}(hk:BF tt t=some (.slice e))(hj:tt e=some j){k:IntKind}{n:Int}(h0:0≤n)(h1:n < l.length) :
  BP tt t (AK b l) (.int k n)=(.pointer (some ⟨b,n.toNat * j.size,none⟩),True):=by
 cases l with
 |nil=>simp at h1;omega
 |cons a l=>
  unfold BP AK
  simp at h1
  simp [hk,hj,h0]
  omega
/-! ### a write into a slice of one's own -/
theorem YZ [Inhabited α]{a':α}{xs:List Value}{f:Nat}:∀ {l:List α} {i:Nat},i < l.length→f+xs.length≤E.size→E.enc a' = Am (E.enc (Aj l i)) f xs→Am (E.flat l) (i * E.size+f) xs=E.flat (l.set i a'):=by
 intro l
 induction l with
 |nil=>intro i h;simp at h
 |cons a l ih=>
  intro i hi hf he
  have hl:=E.len a
  cases i with
  |zero=>
   have h0:Aj (a :: l) 0=a:=rfl
   rw [h0] at he
   simp only [List.set_cons_zero,Bn.D8,he,Am,Nat.zero_mul,Nat.zero_add]
   rw [List.take_append_of_le_length (by omega),List.drop_append_of_le_length (by omega)]
   simp only [List.append_assoc]
  |succ i=>
   have h1:Aj (a :: l) (i+1)=Aj l i:=by simp [Aj]
   rw [h1] at he
   have:=ih (by simpa using hi) hf he
   simp only [List.set_cons_succ,Bn.D8,←this,Am]
   have e:(i+1) * E.size+f=(E.enc a).length+(i * E.size+f):=by rw [hl,Nat.succ_mul];omega
   rw [e,List.take_length_add_append,Nat.add_assoc,List.drop_length_add_append]
   simp only [List.append_assoc]
theorem jt {i:Nat}{a:α}(h:i < l.length):AO E (l.set i a)=some (.cells true E.size (E.flat (l.set i a))):=by
 cases l with
 |nil=>simp at h
 |cons b l=>cases i <;> rfl
theorem nD {i:Nat}(h:i < l.length):AO E l=some (.cells true E.size (E.flat l)):=by
 cases l with
 |nil=>simp at h
 |cons b l=>rfl
theorem gH {i d:Nat}(h:i < l.length):BM (AK b l) d= .pointer (some ⟨b,d,none⟩):=by
 cases l with
 |nil=>simp at h
 |cons a l=>simp [AK,BM]
theorem Us [Inhabited α]{tt:Ac}{t:TypeId}{j:TI}{x:Value}{i f:Nat}(hj:tt t=some j)(h:hp b=AO E l)(hi:i < l.length)(hx:Jw x j.size)(hf:f+j.size≤E.size)(h1:BD (BS x)=true)
  (he:E.enc (E.dec (Am (E.enc (Aj l i)) f (BS x)))=Am (E.enc (Aj l i)) f (BS x)) :
  Bg tt hp t (BM (AK b l) (i * E.size+f)) x=([(b,AO E (l.set i (E.dec (Am (E.enc (Aj l i)) f (BS x)))))],True):=by
 have hlen:(BS x).length=j.size:=hx
 have h2:(i+1) * E.size≤l.length * E.size:=Nat.mul_le_mul_right _ hi
 rw [Nat.succ_mul] at h2
 rw [gH hi,jt hi]
 unfold Bg
 rw [nD hi] at h
 simp only [hj,h]
 rw [YZ hi (by rw [hlen];exact hf) he,Bn.Bt]
 have h3:i * E.size+f+j.size≤l.length * E.size:=by omega
 simp [hx,h1,h3]
theorem FN [Inhabited α]{tt:Ac}{t:TypeId}{j:TI}{cs:List Value}{i:Nat}(hj:tt t=some j)(hs:j.size=E.size)(h:hp b=AO E l)(hi:i < l.length)(hc:E.enc (E.dec cs)=cs)(h1:BD cs=true) :
  Bg tt hp t (BM (AK b l) (i * E.size)) (.agg ⟨cs⟩)=([(b,AO E (l.set i (E.dec cs)))],True):=by
 have hl:cs.length=E.size:=by rw [←hc];exact E.len _
 have e:Am (E.enc (Aj l i)) 0 cs=cs:=by
  simp only [Am,List.take_zero,List.nil_append,Nat.zero_add]
  rw [List.drop_eq_nil_of_le (by rw [E.len,hl];exact Nat.le_refl _),List.append_nil]
 have:=Us (E:=E) (hp:=hp) (b:=b) (l:=l) (x:= .agg ⟨cs⟩) (i:=i) (f:=0) hj h hi (by show cs.length=j.size;rw [hl,hs]) (by omega) h1 (by show E.enc (E.dec (Am _ 0 cs))=Am _ 0 cs;rw [e,hc])
 rw [Nat.add_zero] at this
 rw [this]
 show ([(b,AO E (l.set i (E.dec (Am _ 0 cs))))],True)=_
 rw [e]
theorem Bm [Inhabited α]{tt:Ac}{t:TypeId}{j:TI}{x:Value}{i f:Nat}{a':α}(hj:tt t=some j)(h:hp b=AO E l)(hi:i < l.length)(hx:Jw x j.size)(hf:f+j.size≤E.size)(h1:BD (BS x)=true)
  (he:E.enc a' = Am (E.enc (Aj l i)) f (BS x)) :
  Bg tt hp t (BM (AK b l) (i * E.size+f)) x=([(b,AO E (l.set i a'))],True):=by
 have:=Us (E:=E) (hp:=hp) (b:=b) (l:=l) (x:=x) (i:=i) (f:=f) hj h hi hx hf h1 (by rw [←he,E.h])
 rw [this,←he,E.h]
theorem Kp {m:List α}(h:m.length=l.length):AK b m=AK b l:=by
 cases l with
 |nil=>cases m with
  |nil=>rfl
  |cons a m=>simp at h
 |cons a l=>cases m with
  |nil=>simp at h
  |cons c m=>simp only [List.length_cons,Nat.add_right_cancel_iff] at h;simp [AK,h]
end
end Go.Dm
/- Maps of data. -/
namespace Go.Dm
/-- how keys of a type lie in memory -/
structure KT (tt:Ac) (kt:TypeId) (κ:Type) [DecidableEq κ] where
 ek:κ→Value
 eq:∀a b,NN tt 64 kt (ek a) (ek b)=some (decide (a=b))
 key:∀a,LC tt 64 kt (ek a)=true
 pl:∀a,plain 8 (ek a)=true
 bits:∀a,Instr.sameBits 10000 (ek a) (ek a)=true
 Ad:∀ρ a,Ad ρ (ek a)=ek a
section
theorem UX {α γ:Type}(f:α→γ):∀(l:List α) (i:Nat),(l.eraseIdx i).map f=(l.map f).eraseIdx i
 | [],_=>rfl
 |_ :: _,0=>rfl
 |a :: l,i+1=>by simp only [List.eraseIdx_cons_succ,List.map_cons,UX f l i]
variable {κ β:Type} [DecidableEq κ]
def Jl (ek:κ→Value)(ev:β→Value)(x:κ×β×Nat):MapEntry:=⟨ek x.1,ev x.2.1,x.2.2⟩
def BV (m:List (κ×β×Nat))(k:κ):Option β:=match m with
 | []=>none
 |x :: m=>if k=x.1 then some x.2.1 else BV m k
def Pq (m:List (κ×β×Nat))(k:κ)(i:Nat):Option (Nat×β):=match m with
 | []=>none
 |x :: m=>if k=x.1 then some (i,x.2.1) else Pq m k (i+1)
def Fs (m:List (κ×β×Nat))(k:κ)(v:β)(CC:Nat):List (κ×β×Nat):=match m with
 | []=> [(k,v,CC)]
 |x :: m=>if k=x.1 then (k,v,x.2.2) :: m else x :: Fs m k v CC
def Ix (m:List (κ×β×Nat))(k:κ):List (κ×β×Nat):=match m with
 | []=> []
 |x :: m=>if k=x.1 then m else x :: Ix m k
def LD (m:List (κ×β×Nat))(k:κ)(CC:Nat):Nat:=match BV m k with
 |some _=>CC
 |none=>CC+1
theorem Ox:∀(m:List (κ×β×Nat)) (k:κ) (i:Nat),(Pq m k i).map (·.2)=BV m k
 | [],_,_=>rfl
 |x :: m,k,i=>by
  unfold Pq BV
  split
  ·rfl
  ·exact Ox m k (i+1)
theorem WB:∀(m:List (κ×β×Nat)) (k:κ) (i j:Nat) (v:β),Pq m k i=some (j,v)→∃q b,j=i+q∧m[q]? = some (k,v,b)∧(∀v CC,Fs m k v CC=m.set q (k,v,b))∧Ix m k=m.eraseIdx q
 | [],_,_,_,_,h=>by cases h
 |x :: m,k,i,j,v,h=>by
  unfold Pq at h
  split at h
  ·rename_i hk
   cases h
   exact ⟨0,x.2.2,rfl,by rw [hk];rfl,fun v CC=>by simp [Fs,hk],by simp [Ix,hk]⟩
  ·rename_i hk
   obtain ⟨q,b,h1,h2,h3,h4⟩:=WB m k (i+1) j v h
   exact ⟨q+1,b,by omega,by simpa using h2,fun v CC=>by simp [Fs,hk,h3],by simp [Ix,hk,h4]⟩
theorem QR:∀(m:List (κ×β×Nat)) (k:κ) (i:Nat),Pq m k i=none→BV m k=none∧(∀v CC,Fs m k v CC=m ++ [(k,v,CC)])∧Ix m k=m
 | [],_,_,_=>⟨rfl,fun _ _=>rfl,rfl⟩
 |x :: m,k,i,h=>by
  unfold Pq at h
  split at h
  ·cases h
  ·rename_i hk
   obtain ⟨h1,h2,h3⟩:=QR m k (i+1) h
   exact ⟨by simp [BV,hk,h1],fun v CC=>by simp [Fs,hk,h2],by simp [Ix,hk,h3]⟩
variable {tt:Ac} {kt:TypeId} (Q:KT tt kt κ) (ev:β→Value)
theorem Od:∀(m:List (κ×β×Nat)) (k:κ) (i:Nat),JW tt kt (Q.ek k) (m.map (Jl Q.ek ev)) i=some ((Pq m k i).map fun p=>(p.1,ev p.2))
 | [],_,_=>rfl
 |x :: m,k,i=>by
  have ih:=Od m k (i+1)
  rw [List.map_cons]
  unfold JW Pq
  have e:=Q.eq k x.1
  show (match NN tt 64 kt (Q.ek k) (Q.ek x.1) with | some true=>_ | some false=>_ | none=>_)=_
  rw [e]
  by_cases hk:k=x.1
  ·simp [hk,Jl]
  ·simp only [decide_eq_false hk,if_neg hk]
   exact ih
/-- a map's entries,as they are asked -/
def HL (tt:Ac)(kt:TypeId)(z:Value)(k:Value)(es:List MapEntry)(ok:Bool):Value×Prop:=
 let v:=match Sp tt kt k es with
  |some (_,v)=>v
  |none=>z
 (match ok with
  |true=> .tuple ⟨[v, .bool (Sp tt kt k es).isSome]⟩
  |false=>v,LC tt 64 kt k=true∧(JW tt kt k es 0).isSome=true)
theorem J2 {hp:Hp}{t et:TypeId}{ki j:TI}{b:Nat}{k:Value}{ok:Bool}(ht:BF tt t=some (.map kt et))(hk:tt kt=some ki)(hj:tt et=some j) :
  Ga tt hp t (.map (some b)) k ok=(match hp b with
   |some (.map es _)=>HL tt kt j.zero k es ok
   |_=>(undef,False)):=by
 unfold Ga
 simp only [ht]
 cases hp b with
 |none=>rfl
 |some o=>cases o with
  |map es CC=>simp only [hk,hj];rfl
  |_=>rfl
theorem Zl {z:Value}(m:List (κ×β×Nat))(k:κ):HL tt kt z (Q.ek k) (m.map (Jl Q.ek ev)) true=(.tuple ⟨[((BV m k).map ev).getD z, .bool (BV m k).isSome]⟩,True):=by
 unfold HL
 simp only [Sp,Od,Q.key,←Ox m k 0]
 cases Pq m k 0 <;> simp
theorem TQ {z:Value}(m:List (κ×β×Nat))(k:κ):HL tt kt z (Q.ek k) (m.map (Jl Q.ek ev)) false=(((BV m k).map ev).getD z,True):=by
 unfold HL
 simp only [Sp,Od,Q.key,←Ox m k 0]
 cases Pq m k 0 <;> simp
def F8 (tt:Ac)(kt:TypeId)(b:Nat)(k x:Value)(es:List MapEntry)(CC:Nat):Option BC:=match LC tt 64 kt k with
 |true=>match JW tt kt k es 0 with
  |some (some (j,_))=>match es[j]? with
   |some e0=>match plain 8 k && plain 8 e0.key && Instr.sameBits 10000 e0.key k with
    |true=>some [(b,some (.map (es.set j {e0 with key:=k,val:=x}) CC))]
    |false=>none
   |none=>none
  |some none=>some [(b,some (.map (es ++ [{key:=k,val:=x,born:=CC}]) (CC+1)))]
  |none=>none
 |false=>none
theorem Ju {hp:Hp}{t et:TypeId}{ki:TI}{b:Nat}{k x:Value}(ht:BF tt t=some (.map kt et))(hk:tt kt=some ki) :
  E5 tt hp t (.map (some b)) k x=(match hp b with
   |some (.map es CC)=>F8 tt kt b k x es CC
   |_=>none):=by
 obtain ⟨i,hi,hd⟩:=BG ht
 unfold E5 F8
 simp only [hi,hd]
 cases hp b with
 |none=>rfl
 |some o=>cases o with
  |map es CC=>simp only [hk];cases LC tt 64 kt k <;> rfl
  |_=>rfl
theorem NG (b:Nat)(m:List (κ×β×Nat))(CC:Nat)(k:κ)(v:β):F8 tt kt b (Q.ek k) (ev v) (m.map (Jl Q.ek ev)) CC=some [(b,some (.map ((Fs m k v CC).map (Jl Q.ek ev)) (LD m k CC)))]:=by
 unfold F8
 simp only [Q.key,Od]
 unfold LD
 rw [←Ox m k 0]
 cases hx:Pq m k 0 with
 |none=>
  obtain ⟨h1,h2,h3⟩:=QR m k 0 hx
  simp only [Option.map_none,h2,List.map_append,List.map_cons,List.map_nil]
  rfl
 |some p=>
  obtain ⟨q,b0,h1,h2,h3,h4⟩:=WB m k 0 p.1 p.2 hx
  simp only [Option.map_some,h1,Nat.zero_add,List.getElem?_map,h2,Jl,Q.pl,Q.bits,Bool.and_self,h3,List.map_set]
def Hm (tt:Ac)(kt:TypeId)(b:Nat)(k:Value)(es:List MapEntry)(CC:Nat):Option BC:=match LC tt 64 kt k with
 |true=>match JW tt kt k es 0 with
  |some (some (j,_))=>some [(b,some (.map (es.eraseIdx j) CC))]
  |some none=>some [(b,some (.map es CC))]
  |none=>none
 |false=>none
theorem MV {hp:Hp}{t et:TypeId}{ki:TI}{b:Nat}{k:Value}{ts:List TypeId}(ht:BF tt t=some (.map kt et))(hk:tt kt=some ki) :
  Gh tt hp (t :: ts) (.map (some b)) k=(match hp b with
   |some (.map es CC)=>Hm tt kt b k es CC
   |_=>none):=by
 obtain ⟨i,hi,hd⟩:=BG ht
 unfold Gh Hm
 simp only [hi,hd]
 cases hp b with
 |none=>rfl
 |some o=>cases o with
  |map es CC=>simp only [hk];cases LC tt 64 kt k <;> rfl
  |_=>rfl
theorem Qa (b:Nat)(m:List (κ×β×Nat))(CC:Nat)(k:κ):Hm tt kt b (Q.ek k) (m.map (Jl Q.ek ev)) CC=some [(b,some (.map ((Ix m k).map (Jl Q.ek ev)) CC))]:=by
 unfold Hm
 simp only [Q.key,Od]
 cases hx:Pq m k 0 with
 |none=>
  obtain ⟨h1,h2,h3⟩:=QR m k 0 hx
  simp only [Option.map_none,h3]
 |some p=>
  obtain ⟨q,b0,h1,h2,h3,h4⟩:=WB m k 0 p.1 p.2 hx
  simp only [Option.map_some,h1,Nat.zero_add,h4]
  rw [UX]
end
theorem YR {κ β:Type}{ρ:Nat→Nat}{ek:κ→Value}{ev:β→Value}(hk:∀a,Ad ρ (ek a)=ek a)(hv:∀a,Ad ρ (ev a)=ev a)(m:List (κ×β×Nat)):(m.map (Jl ek ev)).map (RH ρ)=m.map (Jl ek ev):=by
 rw [List.map_map]
 apply List.map_congr_left
 intro x _
 simp only [Function.comp,Jl,RH,hk,hv]
/-- keys that are data of numbers -/
theorem Qz {l:List Value}{n:Nat}(h:∀v∈l,Instr.sameBits n v v=true):Instr.sameBits (n+1) (.agg ⟨l⟩) (.agg ⟨l⟩)=true:=by
 have:∀l:List Value,(∀v∈l,Instr.sameBits n v v=true)→(l.zip l).all (fun (x,y)=>Instr.sameBits n x y)=true:=by
  intro l
  induction l with
  |nil=>intro _;rfl
  |cons a l ih=>
   intro h
   simp only [List.zip_cons_cons,List.all_cons,h a (List.mem_cons_self ..),Bool.true_and]
   exact ih fun v hv=>h v (List.mem_cons_of_mem _ hv)
 simp only [Instr.sameBits,beq_self_eq_true,Bool.true_and]
 exact this l h
end Go.Dm
/- Drawn regions whose reads are not ordered against all writes:each read is shown to come to the same at each time. -/
namespace Go.Dm
def Nq:List (Nat×Nat)→Nat→Nat→Bool
 | [],_,_=>false
 | (a,b) :: l,i,k=>match Nat.beq a i,Nat.beq b k with
  |true,true=>true
  |_,_=>Nq l i k
structure qC where
 i:Nat
 g:Bool
 fr:Ew
 op:Op
 v:Value
def N9 (tt:Ac)(G:FuncId→Bp)(un:List (Nat×Nat))(k:Nat)(hp:Hp):List qC→Prop
 | []=>True
 |e :: rs=>(if Nq un e.i k=true then (e.g=true→(pv tt G e.fr hp e.op).2∧(pv tt G e.fr hp e.op).1=e.v)∧N9 tt G un k hp rs else N9 tt G un k hp rs)
def LY (tt:Ac)(G:FuncId→Bp)(un:List (Nat×Nat))(i:Nat)(fr:Ew)(op:Op)(v:Value):List (Nat×Hp)→Prop
 | []=>True
 | (k,hp) :: vs=>(if Nq un i k=true then ((pv tt G fr hp op).2∧(pv tt G fr hp op).1=v)∧LY tt G un i fr op v vs else LY tt G un i fr op v vs)
def UP:List (Nat×Nat)→Nat→Bool
 | [],_=>false
 | (a,_) :: l,i=>match Nat.beq a i with
  |true=>true
  |false=>UP l i
def R9 (un:List (Nat×Nat))(e:qC)(rs:List qC):List qC:=match UP un e.i with
 |true=>e :: rs
 |false=>rs
def Nj (tt:Ac)(G:FuncId→Bp)(all:List Oper)(un:List (Nat×Nat)):Nat→List Oper→List qC→List (Nat×Hp)→(SS→Prop)→SS→Prop
 |_, [],_,_,K,s=>K s
 |i,o :: os,rs,vs,K,s=>(BL all s.fr o.guard).2∧(match Ij G o.op with
  |true=>(if (BL all s.fr o.guard).1=true then (D0 tt G s.fr s.hp s.top o.op).ob∧N9 tt G un i (s.hp.AZ (D0 tt G s.fr s.hp s.top o.op).us) rs∧
     Nj tt G all un (i+1) os rs ((i,s.hp) :: vs) K ⟨Ce s.fr o.dst (D0 tt G s.fr s.hp s.top o.op).v true,s.hp.AZ (D0 tt G s.fr s.hp s.top o.op).us,(D0 tt G s.fr s.hp s.top o.op).top⟩
    else Nj tt G all un (i+1) os rs vs K ⟨Ce s.fr o.dst undef false,s.hp,s.top⟩)
  |false=>((BL all s.fr o.guard).1=true→(pv tt G s.fr s.hp o.op).2∧LY tt G un i s.fr o.op (pv tt G s.fr s.hp o.op).1 vs)∧
    Nj tt G all un (i+1) os (R9 un ⟨i,(BL all s.fr o.guard).1,s.fr,o.op,(pv tt G s.fr s.hp o.op).1⟩ rs) vs K ⟨Ce s.fr o.dst (pv tt G s.fr s.hp o.op).1 (BL all s.fr o.guard).1,s.hp,s.top⟩)
theorem ou {un:List (Nat×Nat)}{i k:Nat}(h:Nq un i k=true):UP un i=true:=by
 induction un with
 |nil=>cases h
 |cons p l ih=>
  obtain ⟨a,b⟩:=p
  unfold Nq at h
  unfold UP
  cases ha:Nat.beq a i with
  |true=>rfl
  |false=>rw [ha] at h;exact ih h
theorem ct {tt:Ac}{G:FuncId→Bp}{un:List (Nat×Nat)}{k:Nat}{hp:Hp}:∀ {rs:List qC},N9 tt G un k hp rs→∀e∈rs,Nq un e.i k=true→e.g=true→(pv tt G e.fr hp e.op).2∧(pv tt G e.fr hp e.op).1=e.v:=by
 intro rs
 induction rs with
 |nil=>intro _ e he;cases he
 |cons a rs ih=>
  intro h e he hu hg
  unfold N9 at h
  cases he with
  |head=>
   rw [if_pos hu] at h
   exact h.1 hg
  |tail _ he=>
   split at h
   ·exact ih h.2 e he hu hg
   ·exact ih h e he hu hg
theorem ZA {tt:Ac}{G:FuncId→Bp}{un:List (Nat×Nat)}{i:Nat}{fr:Ew}{op:Op}{v:Value}:∀ {vs:List (Nat×Hp)},LY tt G un i fr op v vs→∀p∈vs,Nq un i p.1=true→(pv tt G fr p.2 op).2∧(pv tt G fr p.2 op).1=v:=by
 intro vs
 induction vs with
 |nil=>intro _ e he;cases he
 |cons a vs ih=>
  intro h e he hu
  obtain ⟨k,hp⟩:=a
  unfold LY at h
  cases he with
  |head=>
   rw [if_pos hu] at h
   exact h.1
  |tail _ he=>
   split at h
   ·exact ih h.2 e he hu
   ·exact ih h e he hu
/-- all that the condition says -/
structure DXF (tt:Ac) (G:FuncId→Bp) (all:List Oper) (un:List (Nat×Nat)) (i:Nat) (os:List Oper) (rs:List qC) (vs:List (Nat×Hp)) (s:SS):Prop where
 step:∀k o,os[k]? = some o→DF tt G all o (Lq tt G all os s k) (Lq tt G all os s (k+1))
 dh:∀e∈rs,∀k o,os[k]? = some o→Ij G o.op=true→(BL all (Lq tt G all os s k).fr o.guard).1=true→Nq un e.i (i+k)=true→e.g=true→
  (pv tt G e.fr (Lq tt G all os s (k+1)).hp e.op).2∧(pv tt G e.fr (Lq tt G all os s (k+1)).hp e.op).1=e.v
 Xm:∀p∈vs,∀k o,os[k]? = some o→Ij G o.op=false→(BL all (Lq tt G all os s k).fr o.guard).1=true→Nq un (i+k) p.1=true→
  (pv tt G (Lq tt G all os s k).fr p.2 o.op).2∧(pv tt G (Lq tt G all os s k).fr p.2 o.op).1=(pv tt G (Lq tt G all os s k).fr (Lq tt G all os s k).hp o.op).1
 late:∀q k oq ok,q < k→os[q]? = some oq→os[k]? = some ok→Ij G oq.op=false→(BL all (Lq tt G all os s q).fr oq.guard).1=true→Ij G ok.op=true→(BL all (Lq tt G all os s k).fr ok.guard).1=true→Nq un (i+q) (i+k)=true→
  (pv tt G (Lq tt G all os s q).fr (Lq tt G all os s (k+1)).hp oq.op).2∧(pv tt G (Lq tt G all os s q).fr (Lq tt G all os s (k+1)).hp oq.op).1=(pv tt G (Lq tt G all os s q).fr (Lq tt G all os s q).hp oq.op).1
 early:∀q k oq ok,q < k→os[q]? = some oq→os[k]? = some ok→Ij G oq.op=true→(BL all (Lq tt G all os s q).fr oq.guard).1=true→Ij G ok.op=false→(BL all (Lq tt G all os s k).fr ok.guard).1=true→Nq un (i+k) (i+q)=true→
  (pv tt G (Lq tt G all os s k).fr (Lq tt G all os s q).hp ok.op).2∧(pv tt G (Lq tt G all os s k).fr (Lq tt G all os s q).hp ok.op).1=(pv tt G (Lq tt G all os s k).fr (Lq tt G all os s k).hp ok.op).1
theorem ZH {tt:Ac}{G:FuncId→Bp}{all:List Oper}{un:List (Nat×Nat)}{K:SS→Prop}:∀(os:List Oper) (i:Nat) (rs:List qC) (vs:List (Nat×Hp)) (s:SS),Nj tt G all un i os rs vs K s→
  K (Lq tt G all os s os.length)∧DXF tt G all un i os rs vs s:=by
 intro os
 induction os with
 |nil=>intro i rs vs s h;exact ⟨h,⟨fun k o hk=>by simp at hk,fun e he k o hk=>by simp at hk,fun p hp k o hk=>by simp at hk,fun q k oq ok hq h1=>by simp at h1,fun q k oq ok hq h1=>by simp at h1⟩⟩
 |cons o os ih=>
  intro i rs vs s h
  obtain ⟨h1,h2⟩:=h
  have z:∀n,Lq tt G all (o :: os) s (n+1)=Lq tt G all os (Pj tt G all o s) n:=fun n=>rfl
  have z0:Lq tt G all (o :: os) s 0=s:=rfl
  have sh:∀n:Nat,i+(n+1)=(i+1)+n:=fun n=>by omega
  cases hw:Ij G o.op with
  |true=>
   rw [hw] at h2
   dsimp only at h2
   cases hg:(BL all s.fr o.guard).1 with
   |true=>
    rw [if_pos hg] at h2
    obtain ⟨h3,h4,h5⟩:=h2
    have hn:Pj tt G all o s=⟨Ce s.fr o.dst (D0 tt G s.fr s.hp s.top o.op).v true,s.hp.AZ (D0 tt G s.fr s.hp s.top o.op).us,(D0 tt G s.fr s.hp s.top o.op).top⟩:=by simp only [Pj,hw,hg]
    rw [←hn] at h5
    obtain ⟨hK,F⟩:=ih _ _ _ _ h5
    refine ⟨hK,⟨?_, ?_, ?_, ?_, ?_⟩⟩
    ·intro k p hk
     cases k with
     |zero=>
      simp at hk;subst hk
      rw [z,z0,Gi]
      exact ⟨h1,fun _ _=>h3,fun e=>(by rw [hw] at e;cases e),rfl⟩
     |succ k=>exact F.step k p (by simpa using hk)
    ·intro e he k p hk hwp hgp hu heg
     cases k with
     |zero=>
      simp at hk;subst hk
      rw [z,Gi,hn]
      exact ct h4 e he (by simpa using hu) heg
     |succ k=>exact F.dh e he k p (by simpa using hk) hwp hgp (by rw [←sh];exact hu) heg
    ·intro e he k p hk hwp hgp hu
     cases k with
     |zero=>
      simp at hk;subst hk
      rw [hw] at hwp;cases hwp
     |succ k=>exact F.Xm e (List.mem_cons_of_mem _ he) k p (by simpa using hk) hwp hgp (by rw [←sh];exact hu)
    ·intro q k oq ok hqk hq hk hwq hgq hwk hgk hu
     cases k with
     |zero=>omega
     |succ k=>
      cases q with
      |zero=>
       simp at hq;subst hq
       rw [hw] at hwq;cases hwq
      |succ q=>exact F.late q k oq ok (by omega) (by simpa using hq) (by simpa using hk) hwq hgq hwk hgk (by rw [←sh,←sh];exact hu)
    ·intro q k oq ok hqk hq hk hwq hgq hwk hgk hu
     cases k with
     |zero=>omega
     |succ k=>
      cases q with
      |zero=>
       simp at hq;subst hq
       exact F.Xm (i,s.hp) (List.mem_cons_self ..) k ok (by simpa using hk) hwk hgk (by rw [←sh];simpa using hu)
      |succ q=>exact F.early q k oq ok (by omega) (by simpa using hq) (by simpa using hk) hwq hgq hwk hgk (by rw [←sh,←sh];exact hu)
   |false=>
    rw [if_neg (by rw [hg];simp)] at h2
    have hn:Pj tt G all o s=⟨Ce s.fr o.dst undef false,s.hp,s.top⟩:=by simp only [Pj,hw,hg]
    rw [←hn] at h2
    obtain ⟨hK,F⟩:=ih _ _ _ _ h2
    refine ⟨hK,⟨?_, ?_, ?_, ?_, ?_⟩⟩
    ·intro k p hk
     cases k with
     |zero=>
      simp at hk;subst hk
      rw [z,z0,Gi]
      exact ⟨h1,fun _ e=>(by rw [hg] at e;cases e),fun e=>(by rw [hw] at e;cases e),rfl⟩
     |succ k=>exact F.step k p (by simpa using hk)
    ·intro e he k p hk hwp hgp hu heg
     cases k with
     |zero=>
      simp at hk;subst hk
      rw [z0,hg] at hgp;cases hgp
     |succ k=>exact F.dh e he k p (by simpa using hk) hwp hgp (by rw [←sh];exact hu) heg
    ·intro e he k p hk hwp hgp hu
     cases k with
     |zero=>
      simp at hk;subst hk
      rw [hw] at hwp;cases hwp
     |succ k=>exact F.Xm e he k p (by simpa using hk) hwp hgp (by rw [←sh];exact hu)
    ·intro q k oq ok hqk hq hk hwq hgq hwk hgk hu
     cases k with
     |zero=>omega
     |succ k=>
      cases q with
      |zero=>
       simp at hq;subst hq
       rw [hw] at hwq;cases hwq
      |succ q=>exact F.late q k oq ok (by omega) (by simpa using hq) (by simpa using hk) hwq hgq hwk hgk (by rw [←sh,←sh];exact hu)
    ·intro q k oq ok hqk hq hk hwq hgq hwk hgk hu
     cases k with
     |zero=>omega
     |succ k=>
      cases q with
      |zero=>
       simp at hq;subst hq
       rw [z0,hg] at hgq;cases hgq
      |succ q=>exact F.early q k oq ok (by omega) (by simpa using hq) (by simpa using hk) hwq hgq hwk hgk (by rw [←sh,←sh];exact hu)
  |false=>
   rw [hw] at h2
   dsimp only at h2
   obtain ⟨h3,h4⟩:=h2
   have hn:Pj tt G all o s=⟨Ce s.fr o.dst (pv tt G s.fr s.hp o.op).1 (BL all s.fr o.guard).1,s.hp,s.top⟩:=by simp only [Pj,hw]
   rw [←hn] at h4
   obtain ⟨hK,F⟩:=ih _ _ _ _ h4
   have hold:∀e∈rs,e∈R9 un ⟨i,(BL all s.fr o.guard).1,s.fr,o.op,(pv tt G s.fr s.hp o.op).1⟩ rs:=by
    intro e he
    unfold R9
    split
    ·exact List.mem_cons_of_mem _ he
    ·exact he
   refine ⟨hK,⟨?_, ?_, ?_, ?_, ?_⟩⟩
   ·intro k p hk
    cases k with
    |zero=>
     simp at hk;subst hk
     rw [z,z0,Gi]
     exact ⟨h1,fun e=>(by rw [hw] at e;cases e),fun _ e=>(h3 e).1,rfl⟩
    |succ k=>exact F.step k p (by simpa using hk)
   ·intro e he k p hk hwp hgp hu heg
    cases k with
    |zero=>
     simp at hk;subst hk
     rw [hw] at hwp;cases hwp
    |succ k=>exact F.dh e (hold e he) k p (by simpa using hk) hwp hgp (by rw [←sh];exact hu) heg
   ·intro e he k p hk hwp hgp hu
    cases k with
    |zero=>
     simp at hk;subst hk
     rw [z0]
     exact ZA (h3 hgp).2 e he (by simpa using hu)
    |succ k=>exact F.Xm e he k p (by simpa using hk) hwp hgp (by rw [←sh];exact hu)
   ·intro q k oq ok hqk hq hk hwq hgq hwk hgk hu
    cases k with
    |zero=>omega
    |succ k=>
     cases q with
     |zero=>
      simp at hq;subst hq
      have hm:(⟨i,(BL all s.fr o.guard).1,s.fr,o.op,(pv tt G s.fr s.hp o.op).1⟩:qC)∈R9 un ⟨i,(BL all s.fr o.guard).1,s.fr,o.op,(pv tt G s.fr s.hp o.op).1⟩ rs:=by
       have hh:UP un i=true:=ou (k:=i+(k+1)) (by simpa using hu)
       simp only [R9,hh,List.mem_cons,true_or]
      exact F.dh _ hm k ok (by simpa using hk) hwk hgk (by rw [←sh];simpa using hu) hgq
     |succ q=>exact F.late q k oq ok (by omega) (by simpa using hq) (by simpa using hk) hwq hgq hwk hgk (by rw [←sh,←sh];exact hu)
   ·intro q k oq ok hqk hq hk hwq hgq hwk hgk hu
    cases k with
    |zero=>omega
    |succ k=>
     cases q with
     |zero=>
      simp at hq;subst hq
      rw [hw] at hwq;cases hwq
     |succ q=>exact F.early q k oq ok (by omega) (by simpa using hq) (by simpa using hk) hwq hgq hwk hgk (by rw [←sh,←sh];exact hu)
/-! ### the look at the region -/
def sS (G:FuncId→Bp)(an:List Nat)(un:List (Nat×Nat))(all:List Oper):Bool:=(List.range all.length).all fun i=>match all[i]? with
 |none=>true
 |some o=>Ij G o.op || Co o.op || (List.range all.length).all fun k=>match all[k]? with
  |none=>true
  |some p=> !Ij G p.op || Nq un i k || (match Nat.ble (k+1) i with
   |true=>bit (an.getD i 0) k
   |false=>bit (an.getD k 0) i)
noncomputable def dW (G:FuncId→Bp)(un:List (Nat×Nat))(ops:List Oper):Bool:=match cq ops [] with
 |none=>false
 |some an=>distinct (Bo ops 0) && PS ops && OU an (Bo ops 0) ops ops 0 && ss G an ops && sS G an un ops
theorem ff {G:FuncId→Bp}{an:List Nat}{un:List (Nat×Nat)}{all:List Oper}(h:sS G an un all=true):∀i k oi ok,all[i]? = some oi→all[k]? = some ok→Ij G oi.op=false→Co oi.op=false→Ij G ok.op=true→
  Nq un i k=true∨((k < i→bit (an.getD i 0) k=true)∧(¬k < i→bit (an.getD k 0) i=true)):=by
 intro i k oi ok hi hk hwi hfi hwk
 have lt_of:∀(k:Nat) (o:Oper),all[k]? = some o→k < all.length:=fun k o h=>by
  rcases Nat.lt_or_ge k all.length with h2 | h2
  ·exact h2
  ·rw [List.getElem?_eq_none h2] at h;cases h
 unfold sS at h
 rw [List.all_eq_true] at h
 have:=h i (List.mem_range.2 (lt_of i oi hi))
 rw [hi] at this
 simp only [hwi,hfi,Bool.false_or,List.all_eq_true] at this
 have:=this k (List.mem_range.2 (lt_of k ok hk))
 rw [hk] at this
 simp only [hwk,Bool.not_true,Bool.false_or,Bool.or_eq_true] at this
 rcases this with h1 | h1
 ·exact .inl h1
 right
 constructor
 ·intro hlt
  have hb:Nat.ble (k+1) i=true:=Nat.ble_eq_true_of_le hlt
  rw [hb] at h1;exact h1
 ·intro hlt
  have hb:Nat.ble (k+1) i=false:=by
   cases hb:Nat.ble (k+1) i with
   |false=>rfl
   |true=>exact absurd (Nat.le_of_ble_eq_true hb) hlt
  rw [hb] at h1
  exact h1
section
variable {P:Program} {tt:Ac} {G:FuncId→Bp} {ops:Array Oper} {an:List Nat} {s0:SS} {sz:Nat}
open Classical in
theorem Bk.AEI (F:Bk P tt G ops an s0 sz)(un:List (Nat×Nat))(hun:sS G an un ops.toList=true)(hX:DXF tt G ops.toList un 0 ops.toList [] [] s0):Pt P tt G ops an s0 sz:=by
 refine ⟨F, ?_⟩
 intro i o ho hwb hg p hp hcomp
 have hilt:=Bk.lt (ops:=ops) i o ho
 have S:=F.step i o ho
 have hpv:=S.r hwb hg
 have ltk:∀k,AW tt G ops s0 k→k < ops.size:=fun k ⟨ok,h1,_⟩=>Bk.lt (ops:=ops) k ok h1
 have free:Co o.op=true→JM o.op=false:=fun h=>by
  cases h2:JM o.op with
  |false=>rfl
  |true=>rw [kS hwb h2] at h;cases h
 -- the read at memory p
 have key:Co o.op=false→(pv tt G (Aq tt G ops s0 i).fr (Aq tt G ops s0 p).hp o.op).2∧(pv tt G (Aq tt G ops s0 i).fr (Aq tt G ops s0 p).hp o.op).1=(pv tt G (Aq tt G ops s0 i).fr (Aq tt G ops s0 i).hp o.op).1:=by
  intro hf
  have un':∀k,AW tt G ops s0 k→((k < i∧¬k < p)∨(¬k < i∧k < p))→Nq un i k=true:=by
   intro k hk hc
   obtain ⟨ok,h1,h2,h3⟩:=hk
   obtain ⟨c1,c2⟩:=hcomp k ok h1 ⟨ok,h1,h2,h3⟩
   rcases ff hun i k o ok (by simpa using ho) (by simpa using h1) hwb hf h2 with h4 | ⟨h4,h5⟩
   ·exact h4
   ·rcases hc with ⟨a,b⟩ | ⟨a,b⟩
    ·exact absurd (c1 (h4 a)) b
    ·have:=h5 a;rw [c2 b] at this;cases this
  rcases Nat.le_total i p with hip | hip
  ·by_cases hex:∃k,AW tt G ops s0 k∧i≤k∧k < p
   ·-- the last writer ahead of p
    have:∃k,(AW tt G ops s0 k∧i≤k∧k < p)∧∀k',AW tt G ops s0 k'→i≤k'→k' < p→k'≤k:=by
     have hb:∀n,(∃k,AW tt G ops s0 k∧i≤k∧k < n)→∃k,(AW tt G ops s0 k∧i≤k∧k < n)∧∀k',AW tt G ops s0 k'→i≤k'→k' < n→k'≤k:=by
      intro n
      induction n with
      |zero=>rintro ⟨k,_,_,h⟩;omega
      |succ n ih=>
       intro h
       by_cases hn:AW tt G ops s0 n∧i≤n
       ·exact ⟨n,⟨hn.1,hn.2,by omega⟩,fun k' _ _ h=>by omega⟩
       ·obtain ⟨k,h1,h2,h3⟩:=h
        have hkn:k≠n:=fun e=>hn (e ▸ ⟨h1,h2⟩)
        obtain ⟨m,⟨m1,m2,m3⟩,m4⟩:=ih ⟨k,h1,h2,by omega⟩
        refine ⟨m,⟨m1,m2,by omega⟩,fun k' h1 h2 h3=> ?_⟩
        have:k'≠n:=fun e=>hn (e ▸ ⟨h1,h2⟩)
        exact m4 k' h1 h2 (by omega)
     exact hb p hex
    obtain ⟨k,⟨k1,k2,k3⟩,k4⟩:=this
    have hgp:=F.XH hp (show k+1≤ops.size from ltk k k1) (fun k' hk'=>by
     constructor
     ·intro h
      rcases Nat.lt_or_ge k' i with h5 | h5
      ·omega
      ·have:=k4 k' hk' h5 h;omega
     ·intro h;omega)
    rw [hgp.1]
    obtain ⟨ok,h1,h2,h3⟩:=k1
    have hne:i≠k:=fun e=>by subst e;rw [ho] at h1;cases h1;rw [hwb] at h2;cases h2
    exact hX.late i k o ok (by omega) (by simpa using ho) (by simpa using h1) hwb hg h2 h3 (by simpa using un' k ⟨ok,h1,h2,h3⟩ (.inr ⟨by omega,k3⟩))
   ·have hgp:=F.XH hp (Nat.le_of_lt hilt) (fun k' hk'=>by
     constructor
     ·intro h
      rcases Nat.lt_or_ge k' i with h5 | h5
      ·exact h5
      ·exact absurd ⟨k',hk',h5,h⟩ hex
     ·intro h;omega)
    rw [hgp.1];exact ⟨hpv,rfl⟩
  ·by_cases hex:∃k,AW tt G ops s0 k∧p≤k∧k < i
   ·have:∃k,(AW tt G ops s0 k∧p≤k∧k < i)∧∀k',AW tt G ops s0 k'→p≤k'→k' < i→k≤k':=by
     have hb:∀d n,n+d=i→(∃k,AW tt G ops s0 k∧n≤k∧k < i)→∃k,(AW tt G ops s0 k∧n≤k∧k < i)∧∀k',AW tt G ops s0 k'→n≤k'→k' < i→k≤k':=by
      intro d
      induction d with
      |zero=>rintro n hn ⟨k,_,h1,h2⟩;omega
      |succ d ih=>
       intro n hn h
       by_cases hc:AW tt G ops s0 n
       ·exact ⟨n,⟨hc,by omega,by omega⟩,fun k' _ h _=>h⟩
       ·obtain ⟨k,h1,h2,h3⟩:=h
        have hkn:k≠n:=fun e=>hc (e ▸ h1)
        obtain ⟨m,⟨m1,m2,m3⟩,m4⟩:=ih (n+1) (by omega) ⟨k,h1,by omega,h3⟩
        refine ⟨m,⟨m1,by omega,m3⟩,fun k' h1 h2 h3=> ?_⟩
        have:k'≠n:=fun e=>hc (e ▸ h1)
        exact m4 k' h1 (by omega) h3
     exact hb (i - p) p (by omega) hex
    obtain ⟨k,⟨k1,k2,k3⟩,k4⟩:=this
    have hgp:=F.XH hp (Nat.le_of_lt (ltk k k1)) (fun k' hk'=>by
     constructor
     ·intro h;omega
     ·intro h
      rcases Nat.lt_or_ge k' p with h5 | h5
      ·exact h5
      ·have:=k4 k' hk' h5 (by omega);omega)
    rw [hgp.1]
    obtain ⟨ok,h1,h2,h3⟩:=k1
    exact hX.early k i ok o k3 (by simpa using h1) (by simpa using ho) h2 h3 hwb hg (by simpa using un' k ⟨ok,h1,h2,h3⟩ (.inl ⟨k3,by omega⟩))
   ·have hgp:=F.XH hp (Nat.le_of_lt hilt) (fun k' hk'=>by
     constructor
     ·intro h;omega
     ·intro h
      rcases Nat.lt_or_ge k' p with h5 | h5
      ·exact h5
      ·exact absurd ⟨k',hk',h5,h⟩ hex)
    rw [hgp.1];exact ⟨hpv,rfl⟩
 constructor
 ·intro hiw
  cases hf:Co o.op with
  |true=>rw [free hf] at hiw;cases hiw
  |false=>exact key hf
 ·intro hiw
  cases hf:Co o.op with
  |true=>rw [Pu (hp':=(Aq tt G ops s0 i).hp) hf];exact PW (P:=P) hiw hpv (fun _ _ e=>e)
  |false=>
   obtain ⟨k1,k2⟩:=key hf
   rw [←k2]
   exact PW (P:=P) hiw k1 (fun _ _ e=>e)
end
theorem CW.CE {P:Program}{tt:Ac}{G:FuncId→Bp}(E:Cf P tt G){sz base:Nat}{s:SS}{Q:Exit→SS→Prop}(id:Nat){ops:Array Oper}(BT:List Nat)(un:List (Nat×Nat))(hdst:MU sz ops=true)(hdr:dW G un ops.toList=true)
  (h:Nj tt G ops.toList un 0 ops.toList [] [] (jJ BT Q) s):CW P sz base (.region id ops true) s Q:=by
 unfold dW at hdr
 split at hdr
 ·cases hdr
 ·rename_i an han
  simp only [Bool.and_eq_true] at hdr
  obtain ⟨⟨⟨⟨hdis,hmo⟩,hsafe⟩,hww⟩,hrw⟩:=hdr
  obtain ⟨hQ,hX⟩:=ZH _ _ _ _ _ h
  have hfacts:=hX.step
  have hmem:∀(k:Nat) (o:Oper) (d:Nat),ops[k]? = some o→o.dst=some d→(d,k)∈Bo ops.toList 0:=by
   intro k o d ho hd
   have:=MP ops.toList 0 k d o (by simpa using ho) hd
   simpa using this
  intro φ0 φ own ds w0 a w hb hle S
  have FB:Bk P tt G ops an s sz:=by
   refine ⟨E,JK hdst,W8 han,hmem, ?_, ?_,fun k o ho=>hfacts k o (by simpa using ho),fun j k oj ok hj hk h1 h2 h3=>(VR hww j k oj ok (by simpa using hj) (by simpa using hk) h1 h2 h3).imp (fun h=>h) (fun h=>⟨h.1,fun i oi hi=>h.2 i oi (by simpa using hi)⟩),fun i o hi=>S.hr.lt S.top hi⟩
   ·intro d k k' h1 h2
    exact J9 _ hdis d k k' h1 h2 fun p hp q hq hpq=>Lw ops.toList 0 p q hp hq hpq
   ·intro k o ho
    have:=PL an _ _ _ 0 hsafe k o (by simpa using ho)
    rw [Nat.zero_add] at this
    exact ⟨this.1,fun j want p d hg hp hd=>this.2 j want p d hg (by simpa using hp) hd⟩
  have F:Pt P tt G ops an s sz:=FB.AEI un hrw hX
  have hn:ops.toList.length=ops.size:=by simp
  rw [hn] at hQ
  have all:∀md,IY md ops→wpAny P md ops (fun x a' w'=>x≠ .outgrown∧∃φ' s',φ0.le φ'∧Rc φ' own sz ds w0 s' a' w'∧Q x s') ops.size (Array.replicate ops.size false) a {w with drawn:=w.drawn+1}:=by
   intro md hrk
   have hf:∀k,¬((Array.replicate ops.size false).getD k false=true):=by
    intro k hk
    simp [Array.getD_eq_getD_getElem?,Array.getElem?_replicate] at hk
    split at hk <;> simp at hk
   refine F.main (φ0:=φ) (own:=own) (ds:=ds) (w0:=w0) hrk ?_ ops.size _ φ 0 a _ (by simp) (OE _) (Ren.le_refl _) ?_ ?_
   ·intro φ' a' w' hle' S'
    exact ⟨nofun,φ',⟨KQ (Aq tt G ops s ops.size).fr BT,(Aq tt G ops s ops.size).hp,(Aq tt G ops s ops.size).top⟩,Ren.le_trans hle hle',S'.sub (Sub.BT (Aq tt G ops s ops.size) BT),hQ⟩
   ·intro k o _ hk;exact absurd hk (hf k)
   ·exact MO.start hf S
  have anyR:IY .any ops:=⟨fun k=>k,fun k o hk e he hb=>by
   have h1:=F.oy.lt k o (by simpa using hk) e he hb
   have h2:k < ops.size:=by
    rcases Nat.lt_or_ge k ops.size with h | h
    ·exact h
    ·rw [Array.getElem?_eq_none h] at hk;cases hk
   exact ⟨by omega,h1⟩⟩
  refine Dg.Q1 (Lz hdst) (fun ⟨_,_,h,_⟩=>h rfl) fun t=> ?_
  unfold Region.schedule
  split
  ·exact wpAny_sound ops.size t _ a _ (all .any anyR)
  ·rename_i hnd
   have hd:Region.departs ops=true:=by
    cases hdp:Region.departs ops with
    |true=>rfl
    |false=>rw [hdp] at hnd;simp at hnd
   obtain ⟨r1,r2⟩:=LI hmo hd
   split
   ·exact wpAny_sound ops.size _ _ a _ (all .text r1)
   ·exact wpAny_sound ops.size _ _ a _ (all .gc r2)
section
variable {tt:Ac} {G:FuncId→Bp} {all os:List Oper} {un:List (Nat×Nat)} {o:Oper} {i:Nat} {rs:List qC} {vs:List (Nat×Hp)} {K:SS→Prop} {s:SS}
theorem gU:Nj tt G all un i [] rs vs K s=K s:=rfl
theorem bw:Nj tt G all un i (o :: os) rs vs K s=((BL all s.fr o.guard).2∧(match Ij G o.op with
  |true=>(if (BL all s.fr o.guard).1=true then (D0 tt G s.fr s.hp s.top o.op).ob∧N9 tt G un i (s.hp.AZ (D0 tt G s.fr s.hp s.top o.op).us) rs∧
     Nj tt G all un (i+1) os rs ((i,s.hp) :: vs) K ⟨Ce s.fr o.dst (D0 tt G s.fr s.hp s.top o.op).v true,s.hp.AZ (D0 tt G s.fr s.hp s.top o.op).us,(D0 tt G s.fr s.hp s.top o.op).top⟩
    else Nj tt G all un (i+1) os rs vs K ⟨Ce s.fr o.dst undef false,s.hp,s.top⟩)
  |false=>((BL all s.fr o.guard).1=true→(pv tt G s.fr s.hp o.op).2∧LY tt G un i s.fr o.op (pv tt G s.fr s.hp o.op).1 vs)∧
    Nj tt G all un (i+1) os (R9 un ⟨i,(BL all s.fr o.guard).1,s.fr,o.op,(pv tt G s.fr s.hp o.op).1⟩ rs) vs K ⟨Ce s.fr o.dst (pv tt G s.fr s.hp o.op).1 (BL all s.fr o.guard).1,s.hp,s.top⟩)):=rfl
end
end Go.Dm
/- A function without arguments that the machine runs. -/
namespace Go.Dm
end Go.Dm
