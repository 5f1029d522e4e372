/- The abstract machine, a part of it: operations, regions, code and calls run over values with named blocks; each step is shown of the real run. -/
import Derived.Test.YthlhnangbinhoaaGreatDoorDmE
set_option linter.unusedSimpArgs false
set_option linter.unusedVariables false
namespace Go.Dm
mutual
def Av (ρ:Nat→Nat):Value→Value
 | .pointer (some ⟨b,o,s⟩)=> .pointer (some ⟨ρ b,o,s⟩)
 | .slice (some ⟨b,o,none⟩) n c=> .slice (some ⟨ρ b,o,none⟩) n c
 | .map (some b)=> .map (some (ρ b))
 | .agg ⟨l⟩=> .agg ⟨DA ρ l⟩
 | .tuple ⟨l⟩=> .tuple ⟨DA ρ l⟩
 | .iface t v=> .iface t (Av ρ v)
 | .func f ⟨a⟩ ⟨b⟩=> .func f ⟨DA ρ a⟩ ⟨DA ρ b⟩
 |v=>v
def DA (ρ:Nat→Nat):List Value→List Value
 | []=> []
 |v :: l=>Av ρ v :: DA ρ l
end
def Oc (ρ:Nat→Nat)(e:MapEntry):MapEntry:= {e with key:=Av ρ e.key,val:=Av ρ e.val}
def Im (ρ:Nat→Nat):BI→BI
 | .cells rw B2 vs=> .cells rw B2 (DA ρ vs)
 | .map es Cc=> .map (es.map (Oc ρ)) Cc
 | .iter s p=> .iter s p
 | .miter m since seen c=> .miter (ρ m) since seen c
 | .raw b vs=> .raw b vs
theorem Gf (ρ:Nat→Nat):∀l,DA ρ l=l.map (Av ρ)
 | []=>rfl
 |v :: l=>by rw [DA,Gf ρ l];rfl
theorem YI (ρ:Nat→Nat)(l m:List Value):DA ρ (l ++ m)=DA ρ l ++ DA ρ m:=by simp only [Gf,List.map_append]
theorem Wg (ρ:Nat→Nat)(l:List Value):(DA ρ l).length=l.length:=by simp only [Gf,List.length_map]
def Ren.via (φ:Ren)(ρ:Nat→Nat):Ren:=fun j=>φ (ρ j)
mutual
theorem V.FN {φ:Ren}{ρ:Nat→Nat}:∀ {v x:Value},V φ (Av ρ v) x→V (φ.via ρ) v x:=by
 intro v x h
 match v with
 | .bool b=>cases h;exact .bool b
 | .int k n=>cases h;exact .int k n
 | .float k n=>cases h
 | .complex k a b=>cases h
 | .string s=>cases h;exact .str s
 | .pointer none=>cases h;exact .nilp
 | .pointer (some ⟨b,o,s⟩)=>
  simp only [Av] at h
  cases h with
  |ptr _ _ L hL=>exact .ptr _ _ L hL
 | .slice none n c=>cases h;exact .nils
 | .slice (some ⟨b,o,none⟩) n c=>
  simp only [Av] at h
  generalize hb:ρ b=b' at h
  cases h with
  |slice _ _ _ _ c' L hL hn hc hl=>exact .slice _ _ _ _ c' L (by rw [←hb] at hL;exact hL) hn hc hl
 | .slice (some ⟨b,o,some s⟩) n c=>
  have e:Av ρ (.slice (some ⟨b,o,some s⟩) n c)= .slice (some ⟨b,o,some s⟩) n c:=by unfold Av;rfl
  rw [e] at h
  cases h
  exact .emp _ _
 | .map none=>cases h;exact .nilm
 | .map (some b)=>
  simp only [Av] at h
  cases h with
  |map _ L hL=>exact .map _ L hL
 | .chan r=>cases h
 | .func f ⟨a⟩ ⟨b⟩=>
  simp only [Av] at h
  cases h with
  |func _ _ a' _ b' ha hb=>exact .func _ _ _ _ _ (Vs.FN ha) (Vs.FN hb)
 | .nilFunc=>cases h;exact .nilf
 | .iface t v=>
  simp only [Av] at h
  cases h with
  |iface _ _ v' hv=>exact .iface _ _ _ (V.FN hv)
 | .nilIface=>cases h;exact .nili
 | .agg ⟨l⟩=>
  simp only [Av] at h
  cases h with
  |agg _ l' hl=>exact .agg _ _ (Vs.FN hl)
 | .tuple ⟨l⟩=>
  simp only [Av] at h
  cases h with
  |tuple _ l' hl=>exact .tuple _ _ (Vs.FN hl)
theorem Vs.FN {φ:Ren}{ρ:Nat→Nat}:∀ {l m:List Value},Vs φ (DA ρ l) m→Vs (φ.via ρ) l m:=by
 intro l m h
 match l with
 | []=>cases h;exact .nil
 |v :: l=>
  simp only [DA] at h
  cases h with
  |cons _ x _ m hx hm=>exact .cons _ _ _ _ (V.FN hx) (Vs.FN hm)
end
theorem Es.FN {φ:Ren}{ρ:Nat→Nat}:∀ {l m:List MapEntry},Es φ (l.map (Oc ρ)) m→Es (φ.via ρ) l m:=by
 intro l
 induction l with
 |nil=>intro m h;cases h;exact .nil
 |cons e l ih=>
  intro m h
  simp only [List.map_cons] at h
  cases h with
  |cons _ x _ m hx hm=>exact .cons _ _ _ _ ⟨V.FN hx.key,V.FN hx.val,hx.born⟩ (ih hm)
theorem FM.FN {φ:Ren}{ρ:Nat→Nat}{L:Loc}{o:BI}{x:Option Obj}(h:FM φ L (Im ρ o) x):FM (φ.via ρ) L o x:=by
 cases o with
 |cells rw B2 vs=>
  obtain ⟨he,c,t,fz,h1,h2,h3,h4,h5⟩:=h
  rw [Wg] at h3 h4
  exact ⟨he,c,t,fz,h1,h2,h3,Vs.FN h4,h5⟩
 |map es Cc=>obtain ⟨es',h1,h2⟩:=h;exact ⟨es',h1,Es.FN h2⟩
 |iter s pos=>exact h
 |miter m since seen c=>exact h
 |raw b vs=>exact h
theorem aI (ρ:Nat→Nat)(o:BI):(Im ρ o).rw=o.rw:=by cases o <;> rfl
structure Bj (ρ:Nat→Nat) (base:Nat) (s' s:SS):Prop where
 low:∀j,j < base→ρ j=j
 high:∀j,s'.top≤j→s.top≤ρ j
 inj:∀i j,i < s'.top→j < s'.top→ρ i=ρ j→i=j
 fr:∀t v,Mj s'.fr t=some v→Mj s.fr t=some (Av ρ v)
 hp:∀i o,s'.hp i=some o→s.hp (ρ i)=some (Im ρ o)
theorem HR.FN {φ:Ren}{own:Nat→Prop}{w:World}{hp hp':Hp}{top top':Nat}{ρ:Nat→Nat}(H:HR φ own hp w)(htop:∀j,top≤j→φ j=none)
  (high:∀j,top'≤j→top≤ρ j) (inj:∀i j,i < top'→j < top'→ρ i=ρ j→i=j) (hh:∀i o,hp' i=some o→hp (ρ i)=some (Im ρ o)):HR (φ.via ρ) own hp' w:=by
 have dom:∀i o,hp' i=some o→i < top':=by
  intro i o e
  rcases Nat.lt_or_ge i top' with h | h
  ·exact h
  ·obtain ⟨L,h1,_⟩:=H.obj _ _ (hh i o e)
   rw [htop _ (high i h)] at h1;cases h1
 refine ⟨?_, ?_, ?_, ?_,H.fresh⟩
 ·intro i o e
  obtain ⟨L,h1,h2⟩:=H.obj _ _ (hh i o e)
  exact ⟨L,h1,FM.FN h2⟩
 ·intro i j oi oj Li Lj hi hj hne hrw hLi hLj
  exact H.sep (ρ i) (ρ j) _ _ Li Lj (hh _ _ hi) (hh _ _ hj) (fun e=>hne (inj i j (dom _ _ hi) (dom _ _ hj) e)) (by rw [aI];exact hrw) hLi hLj
 ·intro i o L e hrw hL
  exact H.Ev _ _ L (hh _ _ e) (by rw [aI];exact hrw) hL
 ·intro i L hL
  exact H.val (ρ i) L hL
theorem Iz.kE {φ:Ren}{own:Nat→Prop}{sz:Nat}{ds:List Deferred}{w0:World}{s s':SS}{a:Act}{w:World}{ρ:Nat→Nat}{base:Nat}(S:Iz φ own sz ds w0 s a w)(h:Bj ρ base s' s):Iz (φ.via ρ) own sz ds w0 s' a w:=
 ⟨⟨fun t v e=>V.FN (S.fr.val t _ (h.fr t v e)),S.fr.size⟩,S.hr.FN S.top h.high h.inj h.hp,fun j hj=>S.top _ (h.high j hj),S.k,S.ds⟩
theorem Bj.le {φ0 φ:Ren}{ρ:Nat→Nat}{base:Nat}{s s':SS}(h:Bj ρ base s' s)(hb:∀j,base≤j→φ0 j=none)(hle:φ0.le φ):φ0.le (φ.via ρ):=by
 intro i L e
 have hi:i < base:=by
  rcases Nat.lt_or_ge i base with h | h
  ·exact h
  ·rw [hb i h] at e;cases e
 unfold Ren.via
 rw [h.low i hi];exact hle _ _ e
theorem CW.aP {P:Program}{sz base:Nat}{c:Code}{s s':SS}{Q:Exit→SS→Prop}{ρ:Nat→Nat}(hs:Bj ρ base s' s)(h:CW P sz base c s' Q):CW P sz base c s Q:=by
 intro φ0 φ own ds w0 a w hb hle S
 exact h φ0 _ own ds w0 a w hb (hs.le hb hle) (S.kE hs)
def Round {α:Type}(base:Nat)(S:α→SS)(I:α→Prop)(μ:α→Nat)(x:α)(s':SS):Prop:= ∃y,I y∧μ y < μ x∧∃ρ,Bj ρ base (S y) s'
theorem Round.mk {α:Type}{base:Nat}{S:α→SS}{I:α→Prop}{μ:α→Nat}{x:α}{s':SS}(y:α)(hI:I y)(hμ:μ y < μ x)(hS:∃ρ,Bj ρ base (S y) s'):Round base S I μ x s':=⟨y,hI,hμ,hS⟩
theorem CW.D9 {P:Program}{sz base:Nat}{c:Code}{s:SS}{Q:Exit→SS→Prop}{α:Type}(S:α→SS)(I:α→Prop)(μ:α→Nat)(x0:α)(h0:I x0)(hs:∃ρ,Bj ρ base (S x0) s)
  (h:∀x,I x→CW P sz base c (S x) (OB (Round base S I μ x) Q)):CW P sz base (.loop c) s Q:=by
 intro φ0 φ own ds w0 a w hb hle S0
 have key:∀(m:Nat) (x:α) (φ:Ren) (a:Act) (w:World),I x→μ x≤m→φ0.le φ→Iz φ own sz ds w0 (S x) a w→
   KJ P c (fun x a' w'=>x≠ .outgrown∧∃φ' s',φ0.le φ'∧Iz φ' own sz ds w0 s' a' w'∧Q x s') (m+1) a w:=by
  intro m
  induction m with
  |zero=>
   intro x φ a w hI hm hle S1
   rw [Nd]
   refine DR.mono (h x hI φ0 φ own ds w0 a w hb hle S1) ?_
   rintro e a' w' ⟨hx,φ',s',h1,h2,h3⟩
   cases e with
   |normal=>obtain ⟨y,_,hlt,_⟩:=h3;omega
   |_=>exact ⟨hx,φ',s',h1,h2,h3⟩
  |succ m ih=>
   intro x φ a w hI hm hle S1
   rw [Nd]
   refine DR.mono (h x hI φ0 φ own ds w0 a w hb hle S1) ?_
   rintro e a' w' ⟨hx,φ',s',h1,h2,h3⟩
   cases e with
   |normal=>
    obtain ⟨y,hy,hlt,ρ,hsub⟩:=h3
    exact ih y _ a' w' hy (by omega) (hsub.le hb h1) (h2.kE hsub)
   |_=>exact ⟨hx,φ',s',h1,h2,h3⟩
 obtain ⟨ρ,hs⟩:=hs
 exact DR.XB (μ x0+1) (key (μ x0) x0 _ a w h0 (Nat.le_refl _) (hs.le hb hle) (S0.kE hs))
def fC (tt:AV)(rs:List ResultVar)(post:Value→Hp→Nat→Prop):Exit→SS→Prop
 | .normal,s=>EP tt s.fr s.hp rs∧post (ID (Jy tt s.fr s.hp rs)) s.hp s.top
 | .ret,s=>EP tt s.fr s.hp rs∧post (ID (Jy tt s.fr s.hp rs)) s.hp s.top
 |_,_=>False
theorem Ae.Bn {P:Program}{tt:AV}(htt:C7 P tt){f:FuncId}{fn:Func}(F:A0 P f fn){c:Code}(hc:fn.body=some c)(n:Nat)(hn:fn.ntmps=n)(rs:List ResultVar)(hrs:fn.results.toList=rs)
  {args:List Value} {hp:Hp} {top:Nat} {post:Value→Hp→Nat→Prop} (hle:args.length≤n)
  (h:CW P n top c ⟨KF args 0,hp,top⟩ (fC tt rs post)):Ae P f args hp top post:=by
 refine Ae.oy htt F hc n hn rs hrs hle (h.mono ?_)
 intro x s h
 cases x with
 |normal=>exact ⟨.inl rfl,h⟩
 |ret=>exact ⟨.inr rfl,h⟩
 |_=>exact h.elim
def rT (tt:AV)(rs:List ResultVar)(post bad:Value→Hp→Nat→Prop):Exit→SS→Prop
 | .normal,s=>EP tt s.fr s.hp rs∧post (ID (Jy tt s.fr s.hp rs)) s.hp s.top
 | .ret,s=>EP tt s.fr s.hp rs∧post (ID (Jy tt s.fr s.hp rs)) s.hp s.top
 | .panic c,s=> ∃v,c=rQ v∧bad v s.hp s.top
 |_,_=>False
theorem uR {tt:AV}{rs:List ResultVar}{post bad:Value→Hp→Nat→Prop}{s:SS}:rT tt rs post bad .normal s=(EP tt s.fr s.hp rs∧post (ID (Jy tt s.fr s.hp rs)) s.hp s.top):=rfl
theorem wV {tt:AV}{rs:List ResultVar}{post bad:Value→Hp→Nat→Prop}{s:SS}:rT tt rs post bad .ret s=(EP tt s.fr s.hp rs∧post (ID (Jy tt s.fr s.hp rs)) s.hp s.top):=rfl
theorem vL {tt:AV}{rs:List ResultVar}{post bad:Value→Hp→Nat→Prop}{s:SS}{v:Value}:rT tt rs post bad (.panic (rQ v)) s=bad v s.hp s.top:=
 propext ⟨fun ⟨v,e,h⟩=>by simp only [rQ,List.cons.injEq,PanicEntry.mk.injEq] at e;rw [e.1.1];exact h,fun h=>⟨v,rfl,h⟩⟩
theorem Ey.Bn {P:Program}{tt:AV}(htt:C7 P tt){f:FuncId}{fn:Func}(F:A0 P f fn){c:Code}(hc:fn.body=some c)(n:Nat)(hn:fn.ntmps=n)(rs:List ResultVar)(hrs:fn.results.toList=rs)
  {args:List Value} {hp:Hp} {top:Nat} {post bad:Value→Hp→Nat→Prop} (hle:args.length≤n)
  (h:CW P n top c ⟨KF args 0,hp,top⟩ (rT tt rs post bad)):Ey P f args hp top post bad:=by
 subst hn hrs
 intro φ own w args' hargs H htop
 refine calls_of_wp F.at_ hc ?_
 have S:=Iz.args (fn:=fn) hargs hle H htop
 refine wp_mono (h φ φ own [] w _ w htop (Ren.le_refl _) S).wp ?_
 rintro x a' w' ⟨_,φ',s',hle',S',hx⟩
 have fin:EP tt s'.fr s'.hp fn.results.toList∧post (ID (Jy tt s'.fr s'.hp fn.results.toList)) s'.hp s'.top→a'.defers= []∧∃v,(results fn a'.tmps).run P w' = .ok v w'∧((∃v1 hp' top' v' φ',Ending.returned v= .returned v'∧post v1 hp' top'∧GP φ own w v1 hp' top' v' w' φ')∨
   ∃v1 hp' top' φ',Ending.returned v= .panicked (rQ v1)∧bad v1 hp' top'∧GP φ own w undef hp' top' undef w' φ'):=by
  rintro ⟨hok,hpost⟩
  obtain ⟨v',e1,e2⟩:=Le htt S' hok
  exact ⟨S'.ds,v',e1, .inl ⟨_,_,_,v',φ',rfl,hpost,⟨hle',e2,S'.hr,S'.k,S'.top⟩⟩⟩
 cases x with
 |normal=>exact fin hx
 |ret=>exact fin hx
 |panic c=>
  obtain ⟨v,rfl,hb⟩:=hx
  exact ⟨S'.ds, .inr ⟨v,_,_,φ',rfl,hb,⟨hle', .tuple _ _ .nil,S'.hr,S'.k,S'.top⟩⟩⟩
 |_=>exact hx.elim
section
variable {P:Program} {tt:AV} {G:FuncId→Bz} {sz base:Nat} {BU:List Nat} {Q:Exit→SS→Prop} {K:SS→Prop} {s:SS} {a b:Code} {id j:Nat} {ops:Array Oper} {all os:List Oper} {o:Oper} {x:Operand}
theorem sA:vc P tt G sz base BU .skip Q s=Q .normal s:=rfl
theorem vh:vc P tt G sz base BU (.region id ops false) Q s=Xs tt G ops.toList ops.toList (Wi BU Q) (mc Q) s:=rfl
theorem re:vc P tt G sz base BU (.region id ops true) Q s=(if P5 BU id=true then CW P sz base (.region id ops true) s Q else PR tt G ops.toList ops.toList (Wi BU Q) s):=by
 show (match P5 BU id with | true=>_ | false=>_)=_
 cases P5 BU id <;> simp
theorem SP {g:Bool}{A B:Prop}:((g=true→A)∧(g=false→B))=(if g=true then A else B):=by
 cases g <;> simp
structure Rj (v:Bool) (K1 K2:SS→Prop) (s:SS):Prop where
 h1:v=true→K1 s
 h2:v=false→K2 s
theorem pA {K1 K2:SS→Prop}:Rj true K1 K2 s=K1 s:=propext ⟨fun h=>h.h1 rfl,fun h=>⟨fun _=>h,fun e=>by cases e⟩⟩
theorem qT {K1 K2:SS→Prop}:Rj false K1 K2 s=K2 s:=propext ⟨fun h=>h.h2 rfl,fun h=>⟨fun e=>(by cases e),fun _=>h⟩⟩
structure Vc (P:Program) (tt:AV) (G:FuncId→Bz) (sz base:Nat) (BU:List Nat) (c:Code) (Q:Exit→SS→Prop) (s:SS):Prop where
 h:vc P tt G sz base BU c Q s
theorem Vc.mk' (h:vc P tt G sz base BU a Q s):Vc P tt G sz base BU a Q s:=⟨h⟩
theorem oX:vc P tt G sz base BU (.seq a b) Q s=vc P tt G sz base BU a (OB (Vc P tt G sz base BU b Q) Q) s:=by
 have:vc P tt G sz base BU b Q=Vc P tt G sz base BU b Q:=funext fun s=>propext ⟨fun h=>⟨h⟩,fun h=>h.h⟩
 rw [←this];rfl
theorem np:vc P tt G sz base BU (.cond x a b) Q s=(av s.fr x∧cr (Cj s.fr x).1∧Rj (CH (Cj s.fr x).1) (vc P tt G sz base BU a Q) (vc P tt G sz base BU b Q) s):=
 propext ⟨fun ⟨h1,h2,h3,h4⟩=>⟨h1,h2,⟨h3,h4⟩⟩,fun ⟨h1,h2,h3⟩=>⟨h1,h2,h3.h1,h3.h2⟩⟩
theorem gE:vc P tt G sz base BU (.block id b) Q s=vc P tt G sz base BU b (Lw id Q) s:=rfl
theorem pC:vc P tt G sz base BU (.loop b) Q s=CW P sz base (.loop b) s Q:=rfl
theorem sE:vc P tt G sz base BU (.exit id) Q s=Q (.exit id) s:=rfl
theorem xQ:vc P tt G sz base BU .ret Q s=Q .ret s:=rfl
theorem ie:vc P tt G sz base BU (.label id) Q s=Q .normal s:=rfl
theorem fL {KP:Value→SS→Prop}:Xs tt G all [] K KP s=K s:=rfl
theorem du {KP:Value→SS→Prop}:Xs tt G all (o :: os) K KP s=((Az all s.fr o.guard).2∧YD tt G (Az all s.fr o.guard).1 o s (Xs tt G all os K KP) KP):=rfl
theorem qA {c:List PanicEntry}:OB K Q (.panic c) s=Q (.panic c) s:=rfl
theorem jY {c:List PanicEntry}:Lw id Q (.panic c) s=Q (.panic c) s:=rfl
theorem ql {v:Value}:mc Q v s=Q (.panic (rQ v)) s:=rfl
theorem fw:PR tt G all [] K s=K s:=rfl
theorem dC:PR tt G all (o :: os) K s=((Az all s.fr o.guard).2∧(match Hv G o.op with
  |true=>(if (Az all s.fr o.guard).1=true then (DT tt G s.fr s.hp s.top o.op).ob∧
     PR tt G all os K ⟨B4 s.fr o.dst (DT tt G s.fr s.hp s.top o.op).v true,s.hp.A6 (DT tt G s.fr s.hp s.top o.op).us,(DT tt G s.fr s.hp s.top o.op).top⟩
    else PR tt G all os K ⟨B4 s.fr o.dst undef false,s.hp,s.top⟩)
  |false=>((Az all s.fr o.guard).1=true→(pv tt G s.fr s.hp o.op).2)∧PR tt G all os K ⟨B4 s.fr o.dst (pv tt G s.fr s.hp o.op).1 (Az all s.fr o.guard).1,s.hp,s.top⟩)):=by
 rw [←SP];rfl
theorem pN:OB K Q .normal s=K s:=rfl
theorem qM:OB K Q .ret s=Q .ret s:=rfl
theorem qW:OB K Q (.exit j) s=Q (.exit j) s:=rfl
theorem gd:Lw id Q .normal s=Q .normal s:=rfl
theorem js:Lw id Q .ret s=Q .ret s:=rfl
theorem fG:Lw id Q (.exit j) s=(if j=id then Q .normal s else Q (.exit j) s):=rfl
theorem ox:Wi BU Q s=Q .normal ⟨IX s.fr BU,s.hp,s.top⟩:=rfl
theorem vS {rs:List ResultVar}{post:Value→Hp→Nat→Prop}:fC tt rs post .normal s=(EP tt s.fr s.hp rs∧post (ID (Jy tt s.fr s.hp rs)) s.hp s.top):=rfl
theorem we {rs:List ResultVar}{post:Value→Hp→Nat→Prop}:fC tt rs post .ret s=(EP tt s.fr s.hp rs∧post (ID (Jy tt s.fr s.hp rs)) s.hp s.top):=rfl
theorem l9 {g:Bool}:Tw tt G g o s K=(match o.op with
  | .call {callee:= .value f,args, ..}=>Qu G s.fr s.hp s.top g f args.toList o.dst K
  | .range t x=>if g=true then av s.fr x∧Ub tt t=true∧(Mu s.hp (Cj s.fr x).1).isSome=true∧K ⟨B4 s.fr o.dst (.pointer (some ⟨s.top,0,none⟩)) true,s.hp.A6 [(s.top,pw (Mu s.hp (Cj s.fr x).1))],s.top+1⟩
    else K ⟨B4 s.fr o.dst undef false,s.hp,s.top⟩
  | .next it str=>if g=true then av s.fr it∧str=false∧tC K s.fr s.hp s.top o.dst (Cj s.fr it).1 else K ⟨B4 s.fr o.dst undef false,s.hp,s.top⟩
  | .entry it=>if g=true then av s.fr it∧(P3 s.hp (Cj s.fr it).1).isSome=true∧K ⟨B4 s.fr o.dst (pQ (P3 s.hp (Cj s.fr it).1)) true,s.hp,s.top⟩ else K ⟨B4 s.fr o.dst undef false,s.hp,s.top⟩
  |op=>match Ih op with
   |true=>if g=true then (FK tt s.fr s.hp s.top op).ob∧K ⟨B4 s.fr o.dst (FK tt s.fr s.hp s.top op).v true,s.hp.A6 (FK tt s.fr s.hp s.top op).us,(FK tt s.fr s.hp s.top op).top⟩
     else K ⟨B4 s.fr o.dst undef false,s.hp,s.top⟩
   |false=>(g=true→(Mp tt s.fr s.hp op).2)∧K ⟨B4 s.fr o.dst (Mp tt s.fr s.hp op).1 g,s.hp,s.top⟩):=by
 simp only [←SP]
 rfl
theorem kg {g:Bool}{KP:Value→SS→Prop}:YD tt G g o s K KP=(match o.op with
  | .call {callee:= .value f,args, ..}=>aX G s.fr s.hp s.top g f args.toList o.dst K KP
  | .panic x=>if g=true then av s.fr x∧vW (Cj s.fr x).1=true∧KP (Cj s.fr x).1 s else K ⟨B4 s.fr o.dst undef false,s.hp,s.top⟩
  |_=>Tw tt G g o s K):=by
 simp only [←SP]
 rfl
theorem j8 {fr:DZ}{hp:Hp}{top:Nat}{g:Bool}{f:Operand}{args:List Operand}{dst:Option Nat}{KP:Value→SS→Prop}:aX G fr hp top g f args dst K KP=(match G (Bm fr f).1 with
  | .pan pre res=>if g=true then (Bm fr f).2.1=true∧Tb fr args∧pre ((Bm fr f).2.2.1 ++ LM fr args ++ (Bm fr f).2.2.2) hp top∧
   vw (res ((Bm fr f).2.2.1 ++ LM fr args ++ (Bm fr f).2.2.2) hp top) fr hp dst K KP
   else K ⟨B4 fr dst undef false,hp,top⟩
  |_=>Qu G fr hp top g f args dst K):=by
 simp only [←SP]
 rfl
theorem kT {fr:DZ}{hp:Hp}{top:Nat}{g:Bool}{f:Operand}{args:List Operand}{dst:Option Nat}:Qu G fr hp top g f args dst K=(match G (Bm fr f).1 with
  | .none=>False
  | .pure pre res=>(g=true→(Bm fr f).2.1=true∧Tb fr args∧pre ((Bm fr f).2.2.1 ++ LM fr args ++ (Bm fr f).2.2.2) hp)∧
   K ⟨B4 fr dst (res ((Bm fr f).2.2.1 ++ LM fr args ++ (Bm fr f).2.2.2) hp) g,hp,top⟩
  | .eff pre post=>if g=true then (Bm fr f).2.1=true∧Tb fr args∧pre ((Bm fr f).2.2.1 ++ LM fr args ++ (Bm fr f).2.2.2) hp top∧
   (∀v hp' top',post ((Bm fr f).2.2.1 ++ LM fr args ++ (Bm fr f).2.2.2) hp top v hp' top'→ABN K ⟨B4 fr dst v true,hp',top'⟩)
   else K ⟨B4 fr dst undef false,hp,top⟩
  | .det pre res=>if g=true then (Bm fr f).2.1=true∧Tb fr args∧pre ((Bm fr f).2.2.1 ++ LM fr args ++ (Bm fr f).2.2.2) hp top∧
   K ⟨B4 fr dst (res ((Bm fr f).2.2.1 ++ LM fr args ++ (Bm fr f).2.2.2) hp top).1 true,hp.A6 (res ((Bm fr f).2.2.1 ++ LM fr args ++ (Bm fr f).2.2.2) hp top).2.1,(res ((Bm fr f).2.2.1 ++ LM fr args ++ (Bm fr f).2.2.2) hp top).2.2⟩
   else K ⟨B4 fr dst undef false,hp,top⟩
  | .pan _ _=>False):=by
 simp only [←SP]
 rfl
end
def rn (base:Nat)(bs:List Nat)(z j:Nat):Nat:=if j < base then j else (bs[j - base]?).getD z
theorem AB {base:Nat}{bs:List Nat}{z j:Nat}(h:j < base):rn base bs z j=j:=if_pos h
theorem Dq (base:Nat)(bs:List Nat)(z i:Nat):rn base bs z (base+i)=(bs[i]?).getD z:=by
 unfold rn
 rw [if_neg (by omega),Nat.add_sub_cancel_left]
theorem E0 (base:Nat)(bs:List Nat)(z:Nat):rn base bs z base=(bs[0]?).getD z:=Dq base bs z 0
theorem WW {base:Nat}{bs:List Nat}{z j:Nat}(h:base+bs.length≤j):rn base bs z j=z:=by
 unfold rn
 rw [if_neg (by omega),List.getElem?_eq_none (by omega)];rfl
theorem ZF {base:Nat}{bs:List Nat}{z:Nat}(hn:bs.Nodup)(hb:∀b∈bs,base≤b):∀i j,i < base+bs.length→j < base+bs.length→rn base bs z i=rn base bs z j→i=j:=by
 intro i j hi hj e
 unfold rn at e
 split at e
 ·split at e
  ·exact e
  ·rw [List.getElem?_eq_getElem (by omega),Option.getD_some] at e
   have:=hb _ (List.getElem_mem (show j - base < bs.length by omega))
   omega
 ·rw [List.getElem?_eq_getElem (show i - base < bs.length by omega),Option.getD_some] at e
  split at e
  ·have:=hb _ (List.getElem_mem (show i - base < bs.length by omega))
   omega
  ·rw [List.getElem?_eq_getElem (show j - base < bs.length by omega),Option.getD_some] at e
   have hp:=List.pairwise_iff_getElem.1 hn
   rcases Nat.lt_trichotomy (i - base) (j - base) with h | h | h
   ·exact absurd e (hp _ _ (by omega) (by omega) h)
   ·omega
   ·exact absurd e.symm (hp _ _ (by omega) (by omega) h)
mutual
def Sc (n:Nat):Value→Prop
 | .pointer (some ⟨b,_,_⟩)=>b < n
 | .slice (some ⟨b,_,none⟩) _ _=>b < n
 | .map (some b)=>b < n
 | .agg ⟨l⟩=>Pv n l
 | .tuple ⟨l⟩=>Pv n l
 | .iface _ v=>Sc n v
 | .func _ ⟨a⟩ ⟨b⟩=>Pv n a∧Pv n b
 |_=>True
def Pv (n:Nat):List Value→Prop
 | []=>True
 |v :: l=>Sc n v∧Pv n l
end
def ye (n:Nat):BI→Prop
 | .cells _ _ vs=>Pv n vs
 | .map es _=> ∀e∈es,Sc n e.key∧Sc n e.val
 | .iter _ _=>True
 | .miter m _ _ _=>m < n
 | .raw _ _=>True
mutual
theorem Sc.Av {n:Nat}{ρ:Nat→Nat}(hρ:∀j,j < n→ρ j=j):∀ {v:Value},Sc n v→Av ρ v=v
 | .bool _,_=>rfl
 | .int _ _,_=>rfl
 | .float _ _,_=>rfl
 | .complex _ _ _,_=>rfl
 | .string _,_=>rfl
 | .pointer none,_=>rfl
 | .pointer (some ⟨b,o,s⟩),h=>by simp only [Dm.Av,hρ b h]
 | .slice none _ _,_=>rfl
 | .slice (some ⟨b,o,none⟩) _ _,h=>by simp only [Dm.Av,hρ b h]
 | .slice (some ⟨b,o,some s⟩) _ _,_=>by unfold Dm.Av;rfl
 | .map none,_=>rfl
 | .map (some b),h=>by simp only [Dm.Av,hρ b h]
 | .chan _,_=>rfl
 | .func _ ⟨a⟩ ⟨b⟩,h=>by simp only [Dm.Av,Pv.Av hρ h.1,Pv.Av hρ h.2]
 | .nilFunc,_=>rfl
 | .iface _ v,h=>by simp only [Dm.Av,Sc.Av hρ (v:=v) h]
 | .nilIface,_=>rfl
 | .agg ⟨l⟩,h=>by simp only [Dm.Av,Pv.Av hρ (l:=l) h]
 | .tuple ⟨l⟩,h=>by simp only [Dm.Av,Pv.Av hρ (l:=l) h]
theorem Pv.Av {n:Nat}{ρ:Nat→Nat}(hρ:∀j,j < n→ρ j=j):∀ {l:List Value},Pv n l→DA ρ l=l
 | [],_=>rfl
 |v :: l,h=>by simp only [Dm.DA,Sc.Av hρ h.1,Pv.Av hρ h.2]
end
theorem ye.Av {n:Nat}{ρ:Nat→Nat}(hρ:∀j,j < n→ρ j=j){o:BI}(h:ye n o):Im ρ o=o:=by
 cases o with
 |cells rw B2 vs=>simp only [Im,Pv.Av hρ h]
 |map es Cc=>
  simp only [Im]
  congr 1
  rw [List.map_congr_left (g:=id)]
  ·simp
  ·intro e he
   obtain ⟨h1,h2⟩:=h e he
   simp only [Oc,Sc.Av hρ h1,Sc.Av hρ h2,id]
 |iter s p=>rfl
 |miter m since seen c=>simp only [Im];rw [hρ m h]
 |raw b vs=>rfl
mutual
theorem V.sc {φ:Ren}{n:Nat}(hn:∀j,n≤j→φ j=none):∀ {v x:Value},V φ v x→Sc n v
 |_,_, .bool _=>trivial
 |_,_, .int _ _=>trivial
 |_,_, .str _=>trivial
 |_,_, .nilp=>trivial
 |_,_, .ptr i o L h=>by
  rcases Nat.lt_or_ge i n with h' | h'
  ·exact h'
  ·rw [hn i h'] at h;cases h
 |_,_, .nils=>trivial
 |_,_, .slice i o m c c' L h _ _ _=>by
  rcases Nat.lt_or_ge i n with h' | h'
  ·exact h'
  ·rw [hn i h'] at h;cases h
 |_,_, .emp _ _=>trivial
 |_,_, .nilm=>trivial
 |_,_, .map i L h=>by
  rcases Nat.lt_or_ge i n with h' | h'
  ·exact h'
  ·rw [hn i h'] at h;cases h
 |_,_, .func _ _ _ _ _ ha hb=>⟨Vs.sc hn ha,Vs.sc hn hb⟩
 |_,_, .nilf=>trivial
 |_,_, .iface _ v _ h=>(V.sc hn h:Sc n v)
 |_,_, .nili=>trivial
 |_,_, .agg _ _ h=>Vs.sc hn h
 |_,_, .tuple _ _ h=>Vs.sc hn h
theorem Vs.sc {φ:Ren}{n:Nat}(hn:∀j,n≤j→φ j=none):∀ {l m:List Value},Vs φ l m→Pv n l
 |_,_, .nil=>trivial
 |_,_, .cons _ _ _ _ hx hl=>⟨V.sc hn hx,Vs.sc hn hl⟩
end
theorem Es.sc {φ:Ren}{n:Nat}(hn:∀j,n≤j→φ j=none):∀ {l m:List MapEntry},Es φ l m→∀e∈l,Sc n e.key∧Sc n e.val
 |_,_, .nil,e,he=>by cases he
 |_,_, .cons a _ l _ hx hl,e,he=>by
  cases he with
  |head=>exact ⟨V.sc hn hx.key,V.sc hn hx.val⟩
  |tail _ h=>exact Es.sc hn hl e h
structure Cl (hp:Hp) (n:Nat):Prop where
 lt:∀i o,hp i=some o→i < n
 sc:∀i o,hp i=some o→ye n o
theorem HR.cl {φ:Ren}{own:Nat→Prop}{hp:Hp}{w:World}{n:Nat}(H:HR φ own hp w)(hn:∀j,n≤j→φ j=none):Cl hp n:=by
 refine ⟨fun i o e=>H.lt hn e,fun i o e=> ?_⟩
 obtain ⟨L,h1,h2⟩:=H.obj i o e
 cases o with
 |cells rw B2 vs=>obtain ⟨_,_,_,_,_,_,_,h3,_⟩:=h2;exact Vs.sc hn h3
 |map es Cc=>obtain ⟨es',_,h3⟩:=h2;exact fun e he=>Es.sc hn h3 e he
 |iter s p=>trivial
 |miter m since seen c=>
  obtain ⟨_,M,h1,_⟩:=h2
  show m < n
  rcases Nat.lt_or_ge m n with h | h
  ·exact h
  ·rw [hn m h] at h1;cases h1
 |raw b vs=>trivial
theorem jo {hp h1:Hp}{base:Nat}{ρ:Nat→Nat}(hcl:Cl hp base)(hlow:∀j,j < base→ρ j=j)(us:BV)
  (hk:∀i,i < base→(∀p∈us,p.1≠i)→h1 i=hp i) (hu:∀p∈us,∀o,p.2=some o→h1 (ρ p.1)=some (Im ρ o)) :
  ∀i o,(hp.A6 us) i=some o→h1 (ρ i)=some (Im ρ o):=by
 have key:∀(us:BV) (hp:Hp) i o,(hp.A6 us) i=some o→(∃p∈us,p.1=i∧p.2=some o)∨((∀p∈us,p.1≠i)∧hp i=some o):=by
  intro us
  induction us with
  |nil=>intro hp i o h;exact .inr ⟨fun _ h=>(by cases h),h⟩
  |cons p us ih=>
   intro hp i o h
   obtain ⟨a,x⟩:=p
   rw [B5] at h
   rcases ih _ i o h with ⟨p,h1,h2,h3⟩ | ⟨h1,h2⟩
   ·exact .inl ⟨p,List.mem_cons_of_mem _ h1,h2,h3⟩
   ·by_cases e:i=a
    ·subst e
     rw [AF] at h2
     exact .inl ⟨(i,x),List.mem_cons_self ..,rfl,h2⟩
    ·rw [AQ _ _ _ _ e] at h2
     refine .inr ⟨?_,h2⟩
     intro p hp'
     cases hp' with
     |head=>exact fun e'=>e e'.symm
     |tail _ h=>exact h1 p h
 intro i o h
 rcases key us hp i o h with ⟨p,h2,h3,h4⟩ | ⟨h2,h3⟩
 ·subst h3;exact hu p h2 o h4
 ·have hi:=hcl.lt i o h3
  rw [hlow i hi,hk i hi h2,h3,ye.Av hlow (hcl.sc i o h3)]
theorem set_set (hp:Hp)(i:Nat)(a b:Option BI):(hp.set i a).set i b=hp.set i b:=by
 funext j;unfold Hp.set;split <;> rfl
def Bc (n:Nat)(ks:List Nat)(h1 hp:Hp):Prop:= ∀i,i < n→i ∉ ks→h1 i=hp i
theorem Bc.refl (n:Nat)(ks:List Nat)(hp:Hp):Bc n ks hp hp=True:=eq_true fun _ _ _=>rfl
theorem Bc.set {n:Nat}{ks:List Nat}{h1 hp:Hp}{b:Nat}{o:Option BI}(hb:n≤b):Bc n ks (h1.set b o) hp=Bc n ks h1 hp:=by
 refine propext ⟨fun h i hi hk=> ?_,fun h i hi hk=> ?_⟩
 ·have:=h i hi hk;rwa [AQ _ _ _ _ (by omega)] at this
 ·rw [AQ _ _ _ _ (by omega)];exact h i hi hk
theorem Bc.NK {n:Nat}{ks:List Nat}{h1 hp:Hp}{b:Nat}{o:Option BI}(hb:b∈ks):Bc n ks (h1.set b o) hp=Bc n ks h1 hp:=by
 refine propext ⟨fun h i hi hk=> ?_,fun h i hi hk=> ?_⟩
 ·have:=h i hi hk;rwa [AQ _ _ _ _ (fun e=>hk (by rw [e];exact hb))] at this
 ·rw [AQ _ _ _ _ (fun e=>hk (by rw [e];exact hb))];exact h i hi hk
theorem Bc.nil {n:Nat}{h1 hp:Hp}(h:Bc n [] h1 hp):∀i,i < n→h1 i=hp i:=fun i hi=>h i hi (by simp)
def Jm (ρ:Nat→Nat):Option BI→Option BI
 |none=>none
 |some o=>some (Im ρ o)
def Hx (ρ:Nat→Nat)(h1:Hp)(us:BV):Prop:= ∀p∈us,p.2=none∨h1 (ρ p.1)=Jm ρ p.2
theorem Hx.nil {ρ:Nat→Nat}{h1:Hp}:Hx ρ h1 [] = True:=eq_true fun p h=>by cases h
theorem Hx.cons {ρ:Nat→Nat}{h1:Hp}{b:Nat}{o:Option BI}{us:BV}:Hx ρ h1 ((b,o) :: us)=((o=none∨h1 (ρ b)=Jm ρ o)∧Hx ρ h1 us):=by
 simp [Hx]
theorem Hx.get {ρ:Nat→Nat}{h1:Hp}{us:BV}(h:Hx ρ h1 us):∀p∈us,∀o,p.2=some o→h1 (ρ p.1)=some (Im ρ o):=by
 intro p hp o e
 rcases h p hp with h | h
 ·rw [h] at e;cases e
 ·rw [h,e];rfl
theorem Za {ρ:Nat→Nat}{o:BI}:Jm ρ (some o)=some (Im ρ o):=rfl
theorem Yu {ρ:Nat→Nat}{rw:Bool}{z:Nat}{vs:List Value}:Im ρ (.cells rw z vs)= .cells rw z (DA ρ vs):=rfl
theorem fU {ρ:Nat→Nat}{es:List MapEntry}{Cc:Nat}:Im ρ (.map es Cc)= .map (es.map (Oc ρ)) Cc:=rfl
structure UJ (hp:Hp) (top:Nat) (bs:List Nat) (r:Value×BV×Nat) (v1:Value) (h1:Hp) (top1:Nat):Prop where
 nodup:bs.Nodup
 ge:∀b∈bs,top≤b
 tp:r.2.2=top+bs.length
 v:v1=Av (rn top bs top1) r.1
 BU:Bc top (r.2.1.map (·.1)) h1 hp
 LA:Hx (rn top bs top1) h1 r.2.1
theorem Ae.Jq {P:Program}{f:FuncId}{args:List Value}{hp:Hp}{top:Nat}{r:Value×BV×Nat}
  (h:Cl hp top→Pv top args→Ae P f args hp top fun v1 h1 top1=>top≤top1∧∃bs,UJ hp top bs r v1 h1 top1) :
  Ae P f args hp top fun v hp' top'=>v=r.1∧hp' = hp.A6 r.2.1∧top' = r.2.2:=by
 intro φ own w args' ha H htop
 have hcl:=H.cl htop
 refine (h hcl (Vs.sc htop ha) φ own w args' ha H htop).mono ?_
 rintro e w' ⟨v1,h1,top1,v',φ1,rfl,⟨ht,bs,R⟩,W⟩
 have hlow:∀j,j < top→rn top bs top1 j=j:=fun j hj=>AB hj
 have hhigh:∀j,r.2.2≤j→top1≤rn top bs top1 j:=fun j hj=>by rw [WW (by rw [←R.tp];exact hj)];exact Nat.le_refl _
 refine ⟨r.1,hp.A6 r.2.1,r.2.2,v',φ1.via (rn top bs top1),rfl,⟨rfl,rfl,rfl⟩,⟨?_, ?_, ?_,W.k, ?_⟩⟩
 ·intro i L e
  have hi:i < top:=by
   rcases Nat.lt_or_ge i top with h | h
   ·exact h
   ·rw [htop i h] at e;cases e
  unfold Ren.via
  rw [hlow i hi];exact W.le _ _ e
 ·refine V.FN ?_
  rw [←R.v];exact W.v
 ·refine W.hr.FN W.top hhigh (by rw [R.tp];exact ZF R.nodup R.ge) ?_
  exact jo hcl hlow r.2.1 (fun i hi hk=>R.BU i hi (fun hm=>by obtain ⟨p,h1,h2⟩:=List.mem_map.1 hm;exact hk p h1 h2)) R.LA.get
 ·intro j hj
  exact W.top _ (hhigh j hj)
theorem cv {ρ:Nat→Nat}:Av ρ undef=undef:=rfl
def tD (r:(Value×BV×Nat) ⊕ (Value×BV×Nat))(hp:Hp)(top:Nat)(v:Value)(h1:Hp)(top1:Nat):Prop:=match r with
 | .inl r=>top≤top1∧∃bs,UJ hp top bs r v h1 top1
 | .inr _=>False
def AAS (r:(Value×BV×Nat) ⊕ (Value×BV×Nat))(hp:Hp)(top:Nat)(v:Value)(h1:Hp)(top1:Nat):Prop:=match r with
 | .inr r=>v=r.1∧top≤top1∧∃bs,UJ hp top bs (undef,r.2) undef h1 top1
 | .inl _=>False
theorem rV {r:Value×BV×Nat}{hp:Hp}{top:Nat}{v:Value}{h1:Hp}{top1:Nat}:tD (.inl r) hp top v h1 top1=(top≤top1∧∃bs,UJ hp top bs r v h1 top1):=rfl
theorem vU {r:Value×BV×Nat}{hp:Hp}{top:Nat}{v:Value}{h1:Hp}{top1:Nat}:AAS (.inr r) hp top v h1 top1=(v=r.1∧top≤top1∧∃bs,UJ hp top bs (undef,r.2) undef h1 top1):=rfl
theorem GP.canon {φ φ1:Ren}{own:Nat→Prop}{w w':World}{hp h1:Hp}{top top1:Nat}{v1 v':Value}{bs:List Nat}{r:Value×BV×Nat}(hcl:Cl hp top)(htop:∀j,top≤j→φ j=none)(R:UJ hp top bs r v1 h1 top1)(W:GP φ own w v1 h1 top1 v' w' φ1) :
  GP φ own w r.1 (hp.A6 r.2.1) r.2.2 v' w' (φ1.via (rn top bs top1)):=by
 have hlow:∀j,j < top→rn top bs top1 j=j:=fun j hj=>AB hj
 have hhigh:∀j,r.2.2≤j→top1≤rn top bs top1 j:=fun j hj=>by rw [WW (by rw [←R.tp];exact hj)];exact Nat.le_refl _
 refine ⟨?_, ?_, ?_,W.k, ?_⟩
 ·intro i L e
  have hi:i < top:=by
   rcases Nat.lt_or_ge i top with h | h
   ·exact h
   ·rw [htop i h] at e;cases e
  unfold Ren.via
  rw [hlow i hi];exact W.le _ _ e
 ·refine V.FN ?_
  rw [←R.v];exact W.v
 ·refine W.hr.FN W.top hhigh (by rw [R.tp];exact ZF R.nodup R.ge) ?_
  exact jo hcl hlow r.2.1 (fun i hi hk=>R.BU i hi (fun hm=>by obtain ⟨p,h1,h2⟩:=List.mem_map.1 hm;exact hk p h1 h2)) R.LA.get
 ·intro j hj
  exact W.top _ (hhigh j hj)
theorem BR.Pr {P:Program}{f:FuncId}{fn:Func}(F:A0 P f fn){pre:List Value→Hp→Nat→Prop}{res:List Value→Hp→Nat→(Value×BV×Nat) ⊕ (Value×BV×Nat)}
  (h:∀args hp top,pre args hp top→Cl hp top→Pv top args→Ey P f args hp top (tD (res args hp top) hp top) (AAS (res args hp top) hp top)):BR P f (.pan pre res):=by
 refine ⟨⟨fn,F.toFTOk⟩,fun args hp top hp0=> ?_⟩
 intro φ own w args' ha H htop
 refine (h args hp top hp0 (H.cl htop) (Vs.sc htop ha) φ own w args' ha H htop).mono ?_
 rintro e w' (⟨v1,h1,top1,v',φ1,he,hx,W⟩ | ⟨v1,h1,top1,φ1,he,hx,W⟩)
 ·left
  generalize hr:res args hp top=r at hx
  cases r with
  |inr r=>exact hx.elim
  |inl r=>
   obtain ⟨_,bs,R⟩:=hx
   exact ⟨_,_,_,v',_,he,⟨r,rfl,rfl,rfl,rfl⟩,W.canon (H.cl htop) htop R⟩
 ·right
  generalize hr:res args hp top=r at hx
  cases r with
  |inl r=>exact hx.elim
  |inr r=>
   obtain ⟨hv,_,bs,R⟩:=hx
   exact ⟨_,_,_,_,he,⟨r,rfl,hv,rfl,rfl⟩,W.canon (H.cl htop) htop R⟩
theorem BR.Jq {P:Program}{f:FuncId}{fn:Func}(F:A0 P f fn){pre:List Value→Hp→Nat→Prop}{res:List Value→Hp→Nat→Value×BV×Nat}
  (h:∀args hp top,pre args hp top→Cl hp top→Pv top args→Ae P f args hp top fun v1 h1 top1=>top≤top1∧∃bs,UJ hp top bs (res args hp top) v1 h1 top1):BR P f (.det pre res):=
 ⟨⟨fn,F.toFTOk⟩,fun args hp top hp0=>Ae.Jq (h args hp top hp0)⟩
theorem Bj.mk' {hp h1:Hp}{base:Nat}(bs:List Nat)(hcl:Cl hp base){fr' fr:DZ}{us:BV}{n top:Nat}
  (nodup:bs.Nodup) (ge:∀b∈bs,base≤b) (hn:n=bs.length)
  (hfr:∀t v,Mj fr' t=some v→Mj fr t=some (Av (rn base bs top) v))
  (BU:Bc base (us.map (·.1)) h1 hp)
  (LA:Hx (rn base bs top) h1 us) :
  ∃ρ,Bj ρ base ⟨fr',hp.A6 us,base+n⟩ ⟨fr,h1,top⟩:=by
 subst hn
 have hlow:∀j,j < base→rn base bs top j=j:=fun j hj=>AB hj
 exact ⟨rn base bs top,hlow,fun j hj=>by rw [WW hj];exact Nat.le_refl _,ZF nodup ge,hfr,jo hcl hlow us (fun i hi hk=>BU i hi (fun hm=>by obtain ⟨p,h1,h2⟩:=List.mem_map.1 hm;exact hk p h1 h2)) LA.get⟩
theorem BR.LN {P:Program}{f:FuncId}{fn:Func}(F:A0 P f fn){pre:List Value→Hp→Prop}{res:List Value→Hp→Value}(hr:∀args hp,pre args hp→plain 3 (res args hp)=true)
  (h:∀args hp,pre args hp→∀top,Cl hp top→Pv top args→Ae P f args hp top fun v hp' _=>v=res args hp∧Bc top [] hp' hp):BR P f (.pure pre res):=
 .vq F hr fun args hp h0 top φ own w args' ha H htop=>(h args hp h0 top (H.cl htop) (Vs.sc htop ha) φ own w args' ha H htop).mono fun _ _ ⟨v,hp',top',v',φ',e,⟨h1,h2⟩,W⟩=>⟨v,hp',top',v',φ',e,⟨h1,h2.nil⟩,W⟩
theorem Qd {k:IntKind}{n:Int}(h:(if k.signed then -(2 ^ (k.bits - 1):Int) else 0)≤n)(h2:n < (if k.signed then 2 ^ (k.bits - 1) else 2 ^ k.bits:Int)):Ar k n=n:=by
 rw [It]
 unfold IntKind.wrap
 cases k <;> simp [IntKind.signed,IntKind.bits] at h h2 ⊢ <;> omega
theorem wrap64 {n:Int}(h: -9223372036854775808≤n)(h2:n < 9223372036854775808):Ar .i64 n=n:=Qd (by simpa [IntKind.signed,IntKind.bits] using h) (by simpa [IntKind.signed,IntKind.bits] using h2)
theorem B0 {k n:Nat}(h:k < n)(hn:n≤9223372036854775807):Ar .i64 ((k:Int)+1)=((k+1:Nat):Int):=by
 rw [wrap64 (by omega) (by omega)];omega
theorem AG {b n:Nat}(hb:b < n){hp:Hp}{i:Nat}{o:Option BI}(hi:n≤i):(hp.set i o) b=hp b:=AQ _ _ _ _ (by omega)
theorem Bx {b n:Nat}(hb:b < n){hp:Hp}{i:Nat}{o:Option BI}(hi:n≤i):(hp.set b o) i=hp i:=AQ _ _ _ _ (by omega)
theorem Rn {k:IntKind}{n:Int}:Value.oneCell' (.int k n)=true:=rfl
theorem OA {b:Bool}:Value.oneCell' (.bool b)=true:=rfl
theorem R2 {s:ByteArray}:Value.oneCell' (.string s)=true:=rfl
theorem vC {a:Option Addr}:Value.oneCell' (.pointer a)=true:=rfl
theorem ic {a:Option Addr}{n c:Nat}:Value.oneCell' (.slice a n c)=true:=rfl
theorem ug {a:Option Nat}:Value.oneCell' (.map a)=true:=rfl
theorem pc {f:Fn}{a b:Array Value}:Value.oneCell' (.func f a b)=true:=rfl
theorem oN:Value.oneCell' .nilFunc=true:=rfl
theorem fO {t:TypeId}{v:Value}:Value.oneCell' (.iface t v)=true:=rfl
theorem q6:Value.oneCell' .nilIface=true:=rfl
theorem wB {l:List Value}:A8 (.agg ⟨l⟩)=l:=rfl
theorem uS {k:IntKind}{n:Int}:A8 (.int k n)= [.int k n]:=rfl
theorem pH {b:Bool}:A8 (.bool b)= [.bool b]:=rfl
theorem uh {s:ByteArray}:A8 (.string s)= [.string s]:=rfl
theorem vO {a:Option Addr}:A8 (.pointer a)= [.pointer a]:=rfl
theorem gH {a:Option Addr}{n c:Nat}:A8 (.slice a n c)= [.slice a n c]:=rfl
theorem vK {a:Option Nat}:A8 (.map a)= [.map a]:=rfl
theorem oL {f:Fn}{a b:Array Value}:A8 (.func f a b)= [.func f a b]:=rfl
theorem nb:A8 .nilFunc= [.nilFunc]:=rfl
theorem mx {t:TypeId}{v:Value}:A8 (.iface t v)= [.iface t v]:=rfl
theorem nk:A8 .nilIface= [.nilIface]:=rfl
theorem wQ {a b:Nat}(h:a≤b):Nat.ble a b=true:=Nat.ble_eq_true_of_le h
theorem mo {n:Nat}{v:Value}:(List.replicate n [v]).flatten=Dp n v:=by simp [Dp]
theorem AC1 {α:Type}{a:α}:List.replicate 1 a= [a]:=rfl
theorem ADk {α:Type}{a:α}:List.replicate 2 a= [a,a]:=rfl
theorem ACx {α:Type}{a:α}:List.replicate 3 a= [a,a,a]:=rfl
theorem ADc {α:Type}{a:α}:List.replicate 4 a= [a,a,a,a]:=rfl
theorem YG {cs xs:List Value}:BH cs 0 xs=xs ++ cs.drop xs.length:=by simp [BH]
theorem P6 {c:Value}{cs xs:List Value}{n:Nat}:BH (c :: cs) (n+1) xs=c :: BH cs n xs:=by
 simp [BH,Nat.add_right_comm]
theorem YV {c:Value}{cs xs:List Value}{n:Nat}:BH (c :: cs) (1+n) xs=c :: BH cs n xs:=by
 rw [Nat.add_comm];exact P6
theorem Ql {cs:List Value}{v:Value}{n:Nat}(h:n < cs.length):BH cs n [v] = cs.set n v:=by
 simp only [BH,List.length_singleton]
 rw [List.set_eq_take_append_cons_drop,if_pos h];simp
theorem jM {α:Type}{c:α}{l:List α}{n:Nat}:(c :: l)[1+n]? = l[n]? :=by rw [Nat.add_comm,List.getElem?_cons_succ]
theorem ec {α:Type}{c:α}{l:List α}{n:Nat}:(c :: l).drop (1+n)=l.drop n:=by rw [Nat.add_comm,List.drop_succ_cons]
theorem Qq {n:Nat}{k:IntKind}:Dp n (.int k 0)=(List.replicate n (0:Int)).map (Value.int k):=by simp [Dp]
theorem X1 {n:Nat}{v:Value}:(Dp n v).length=n:=by simp [Dp]
theorem cp {ρ:Nat→Nat}{k:IntKind}{l:List Int}:DA ρ (l.map (Value.int k))=l.map (Value.int k):=by
 rw [Gf,List.map_map];rfl
theorem jc {ρ:Nat→Nat}{l:List Value}{i:Nat}{v:Value}:DA ρ (l.set i v)=(DA ρ l).set i (Av ρ v):=by
 simp only [Gf,List.map_set]
theorem Du {k:IntKind}{l:List Int}{i:Nat}(h:i < l.length):((l.map (Value.int k))[i]?).getD undef= .int k ((l[i]?).getD 0):=by simp [h]
theorem ju {k:IntKind}{l:List Int}{i:Nat}{n:Int}:(l.map (Value.int k)).set i (.int k n)=(l.set i n).map (Value.int k):=by rw [List.map_set]
theorem W7 {k:IntKind}{l:List Int}{n:Nat}{v:Int}(h:n < l.length):BH (l.map (Value.int k)) n [.int k v] = (l.set n v).map (Value.int k):=by
 rw [Ql (by simpa using h),ju]
theorem MZ (x y:Int):ez x y=decide (x=y):=by rw [UT];rfl
def Gk (ρ:Nat→Nat):DZ→DZ→Prop
 | [],_=>True
 | (t,v,g) :: l,fr=>KI fr t=some (bif g then Av ρ v else v,g)∧Gk ρ l fr
theorem Ac {ρ:Nat→Nat}:∀ {fr' fr:DZ},Gk ρ fr' fr→∀t v,Mj fr' t=some v→Mj fr t=some (Av ρ v):=by
 intro fr'
 induction fr' with
 |nil=>intro fr _ t v h;cases h
 |cons p l ih=>
  obtain ⟨j,x,g⟩:=p
  intro fr h t v hv
  obtain ⟨h1,h2⟩:=h
  simp only [Mj,KI] at hv ⊢
  cases hb:Nat.beq j t with
  |true=>
   rw [hb] at hv
   have:=Nat.eq_of_beq_eq_true hb
   subst this
   cases hv
   rw [h1]
   cases g with
   |true=>rfl
   |false=>rfl
  |false=>
   rw [hb] at hv
   exact ih h2 t v hv
end Go.Dm
namespace Go.Dm
structure B9 (α:Type) where
 enc:α→List Value
 dec:List Value→α
 size:Nat
 h:∀a,dec (enc a)=a
 len:∀a,(enc a).length=size
 one:∀a,A9 (enc a)=true
class B9.Plain {α:Type} (E:B9 α):Prop where
 pl:∀a ρ,DA ρ (E.enc a)=E.enc a
def B9.flat {α:Type}(E:B9 α)(l:List α):List Value:=(l.map E.enc).flatten
def at' {α:Type}[Inhabited α](l:List α)(i:Nat):α:=(l[i]?).getD default
theorem Cb {α:Type}[Inhabited α](l:List α)(i:Nat)(h:i < l.length):at' l i=l[i]:=by simp [at',h]
section
variable {α:Type} {E:B9 α}
theorem B9.F1:E.flat [] = []:=rfl
theorem B9.Dt (a:α)(l:List α):E.flat (a :: l)=E.enc a ++ E.flat l:=rfl
theorem B9.Pw (l m:List α):E.flat (l ++ m)=E.flat l ++ E.flat m:=by simp [B9.flat]
theorem B9.Df (l:List α):(E.flat l).length=l.length * E.size:=by
 induction l with
 |nil=>simp [B9.F1]
 |cons a l ih=>rw [B9.Dt,List.length_append,E.len,ih,List.length_cons,Nat.succ_mul];omega
theorem B9.OS (l:List α):A9 (E.flat l)=true:=by
 have app:∀x y:List Value,A9 (x ++ y)=(A9 x && A9 y):=by
  intro x y
  induction x with
  |nil=>rfl
  |cons a x ih=>simp only [List.cons_append,A9,ih,Bool.and_assoc]
 induction l with
 |nil=>rfl
 |cons a l ih=>rw [B9.Dt,app,E.one,ih];rfl
theorem B9.Dd [E.Plain](l:List α)(ρ:Nat→Nat):DA ρ (E.flat l)=E.flat l:=by
 induction l with
 |nil=>rfl
 |cons a l ih=>rw [B9.Dt,YI,B9.Plain.pl,ih]
theorem B9.TB (l:List α):∀i,(E.flat l).drop (i * E.size)=E.flat (l.drop i):=by
 induction l with
 |nil=>intro i;simp [B9.F1]
 |cons a l ih=>
  intro i
  cases i with
  |zero=>simp
  |succ i=>
   rw [B9.Dt,show (i+1) * E.size=(E.enc a).length+i * E.size from by rw [E.len,Nat.succ_mul];omega,List.drop_append]
   rw [List.drop_eq_nil_of_le (by omega),List.nil_append,show (E.enc a).length+i * E.size - (E.enc a).length=i * E.size from by omega,ih]
   rfl
theorem B9.PU (l:List α):∀i,(E.flat l).take (i * E.size)=E.flat (l.take i):=by
 induction l with
 |nil=>intro i;simp [B9.F1]
 |cons a l ih=>
  intro i
  cases i with
  |zero=>simp [B9.F1]
  |succ i=>
   rw [B9.Dt,show (i+1) * E.size=(E.enc a).length+i * E.size from by rw [E.len,Nat.succ_mul];omega,List.take_append]
   rw [List.take_of_length_le (by omega),show (E.enc a).length+i * E.size - (E.enc a).length=i * E.size from by omega,ih]
   rfl
theorem B9.Na [Inhabited α](l:List α)(i:Nat)(h:i < l.length):((E.flat l).drop (i * E.size)).take E.size=E.enc (at' l i):=by
 rw [B9.TB,List.drop_eq_getElem_cons h,B9.Dt,List.take_append,List.take_of_length_le (by rw [E.len];omega),E.len,Nat.sub_self,List.take_zero,List.append_nil,Cb _ _ h]
end
inductive BJ {α:Type} (E:B9 α) (hp:Hp):Value→List α→Prop
 |nils:BJ E hp (.slice none 0 0) []
 |emp:BJ E hp (.slice (some ⟨0,0,some 0⟩) 0 0) []
 |rows (b o c:Nat) (rw:Bool) (vs:List Value) (l:List α) (hb:hp b=some (.cells rw E.size vs)) (hv:(vs.drop o).take (l.length * E.size)=E.flat l) (ho:o+l.length * E.size≤vs.length) (hc:l.length≤c) (hn:l.length≤9223372036854775807) :
   BJ E hp (.slice (some ⟨b,o,none⟩) l.length c) l
def Ag (v:Value)(d:Nat):Value:=match v with
 | .slice (some ⟨b,o,none⟩) _ _=> .pointer (some ⟨b,o+d,none⟩)
 |_=>undef
def B9.rd {α:Type}(E:B9 α)(hp:Hp)(v:Value):List α:=match v with
 | .slice (some ⟨b,o,none⟩) n _=>match hp b with
  |some (.cells _ _ vs)=>(List.range n).map fun i=>E.dec ((vs.drop (o+i * E.size)).take E.size)
  |_=> []
 |_=> []
section
variable {α:Type} [Inhabited α] {E:B9 α} {hp:Hp} {v:Value} {l:List α} {tt:AV} {t e:TypeId}
omit [Inhabited α] in
theorem BJ.le (h:BJ E hp v l):l.length≤9223372036854775807:=by cases h with
 |nils=>simp
 |emp=>simp
 |rows _ _ _ _ _ _ _ _ _ _ hn=>exact hn
omit [Inhabited α] in
omit [Inhabited α] in
theorem BJ.KL (h:BJ E hp v l)(hk:kindOf tt t=some (.slice e)){hp':Hp}:CQ tt hp' t v=(.int .i64 (l.length:Int),True):=by
 obtain ⟨i,hi,hd⟩:=Am hk
 cases h <;> (unfold CQ;simp [hk,Eb,hi,hd])
theorem BJ.at (h:BJ E hp v l){i:Nat}(hi:i < l.length):∃b o c rw vs,v= .slice (some ⟨b,o,none⟩) l.length c∧hp b=some (.cells rw E.size vs)∧(vs.drop (o+i * E.size)).take E.size=E.enc (at' l i)∧o+(i+1) * E.size≤vs.length:=by
 cases h with
 |nils=>simp at hi
 |emp=>simp at hi
 |rows b o c rw vs l hb hv ho hc hn=>
  have h1:(i+1) * E.size≤l.length * E.size:=Nat.mul_le_mul_right _ hi
  refine ⟨b,o,c,rw,vs,rfl,hb, ?_,by omega⟩
  rw [←B9.Na l i hi,←hv,List.drop_take,List.take_take,List.drop_drop]
  congr 1
  rw [Nat.succ_mul] at h1
  omega
theorem BJ.rd (h:BJ E hp v l):E.rd hp v=l:=by
 cases hh:h with
 |nils=>rfl
 |emp=>rfl
 |rows b o c rw vs l hb hv ho hc hn=>
  simp only [B9.rd,hb]
  apply List.ext_getElem
  ·simp
  ·intro i h1 h2
   obtain ⟨b',o',c',rw',vs',e1,e2,e3,e4⟩:=h.at h2
   cases e1
   rw [hb] at e2;cases e2
   simp only [List.getElem_map,List.getElem_range,e3,E.h,Cb _ _ h2]
theorem BJ.idx (h:BJ E hp v l){j:TI}(hk:kindOf tt t=some (.slice e))(hj:tt e=some j)(hs:j.size=E.size){k:IntKind}{n:Int}(h0:0≤n)(h1:n < l.length) :
  Ak tt t v (.int k n)=(Ag v (n.toNat * E.size),True):=by
 obtain ⟨b,o,c,rw,vs,rfl,hb,_⟩:=h.at (i:=n.toNat) (by omega)
 unfold Ak
 simp [hk,hj,hs,Ag,h0,h1]
theorem BJ.load (h:BJ E hp v l){j:TI}(hj:tt e=some j)(hs:j.size=E.size)(ha:JW j.ud=true){i:Nat}(hi:i < l.length) :
  BA tt hp e (Ag v (i * E.size))=(.agg ⟨E.enc (at' l i)⟩,True):=by
 obtain ⟨b,o,c,rw,vs,rfl,hb,hrow,hlen⟩:=h.at hi
 unfold BA
 rw [Nat.succ_mul] at hlen
 simp [Ag,hj,hb,ha,hs,hrow]
 omega
theorem BJ.cell (h:BJ E hp v l){j:TI}(hj:tt e=some j)(ha:JW j.ud=false){i f:Nat}(hi:i < l.length)(hf:f < E.size) :
  BA tt hp e (Ag v (i * E.size+f))=((E.enc (at' l i))[f]?.getD undef,True):=by
 obtain ⟨b,o,c,rw,vs,rfl,hb,hrow,hlen⟩:=h.at hi
 unfold BA
 rw [Nat.succ_mul] at hlen
 have e1:vs[o+(i * E.size+f)]? = (E.enc (at' l i))[f]? :=by
  rw [←hrow,List.getElem?_take,List.getElem?_drop,if_pos hf,Nat.add_assoc]
 simp only [Ag,hj,hb,ha,e1]
 simp only [Prod.mk.injEq,true_and,eq_iff_iff,iff_true]
 omega
theorem BJ.field (h:BJ E hp v l){i:Nat}(hi:i < l.length){s:TypeId}{f o d:Nat}(hf:∀b o,AM tt s (.pointer (some ⟨b,o,none⟩)) f=some (.pointer (some ⟨b,o+d,none⟩))) :
  AD tt s (Ag v o) f=(Ag v (o+d),True):=by
 obtain ⟨b,o',c,rw,vs,rfl,hb,_⟩:=h.at hi
 unfold AD Ag
 simp only [hf,Nat.add_assoc]
omit [Inhabited α] in
theorem BJ.mono {hp':Hp}(h:BJ E hp v l)(hs:∀b o n c,v= .slice (some ⟨b,o,none⟩) n c→hp' b=hp b):BJ E hp' v l:=by
 cases h with
 |nils=>exact .nils
 |emp=>exact .emp
 |rows b o c rw vs l hb hv ho hc hn=>exact .rows b o c rw vs l (by rw [hs _ _ _ _ rfl];exact hb) hv ho hc hn
omit [Inhabited α] in
theorem BJ.low (h:BJ E hp v l){n:Nat}(hcl:Cl hp n):Sc n v:=by
 cases h with
 |nils=>trivial
 |emp=>trivial
 |rows b o c rw vs l hb hv ho hc hn=>exact hcl.lt _ _ hb
omit [Inhabited α] in
theorem BJ.set (h:BJ E hp v l){n i:Nat}{o:Option BI}(hl:Sc n v)(hi:n≤i):BJ E (hp.set i o) v l:=by
 refine h.mono fun b o n' c e=> ?_
 subst e
 exact AQ _ _ _ _ (by simp only [Sc] at hl;omega)
omit [Inhabited α] in
omit [Inhabited α] in
theorem AY {tt:AV}{hp:Hp}{v:Value}{n:Nat}(hl:Sc n v){i d:Nat}{o:Option BI}{t:TypeId}(hi:n≤i):BA tt (hp.set i o) t (Ag v d)=BA tt hp t (Ag v d):=by
 cases v with
 |slice a m c=>
  cases a with
  |none=>rfl
  |some a=>
   obtain ⟨b,q,s⟩:=a
   cases s with
   |some s=>rfl
   |none=>
   simp only [Sc] at hl
   have e:=AQ hp i b o (by omega)
   simp only [Ag,BA]
   cases tt t <;> simp only [e]
 |_=>rfl
theorem AX {α:Type}{E:B9 α}{l:List α}{tt:AV}{hp hp0:Hp}{v:Value}{n:Nat}(h:BJ E hp0 v l)(hl:Sc n v){i:Nat}{o:Option BI}{t e:TypeId}{lo hi:Option Value}(hk:kindOf tt t=some (.slice e))(hi':n≤i):Bv tt (hp.set i o) t v lo hi=Bv tt hp t v lo hi:=by
 cases h with
 |nils=>unfold Bv;simp only [hk]
 |emp=>
  obtain ⟨i1,hi1,hd⟩:=Am hk
  unfold Bv
  simp only [hk,Eu,hi1,hd]
 |rows b q c rw vs l hb hv ho hc hn=>
  simp only [Sc] at hl
  have e:=AQ hp i b o (by omega)
  unfold Bv
  simp only [hk,e]
theorem eI {tt:AV}{hp:Hp}{t:TypeId}{b o:Nat}:BA tt hp t (.pointer (some ⟨b,o,none⟩))=(match tt t with
  |some i=>match hp b with
   |some (.cells _ _ vs)=>match JW i.ud with
    |true=>(.agg ⟨(vs.drop o).take i.size⟩,o+i.size≤vs.length)
    |false=>((vs[o]?).getD undef,o < vs.length)
   |_=>(undef,False)
  |none=>(undef,False)):=by
 unfold BA
 cases tt t with
 |none=>rfl
 |some i=>rfl
theorem Y4 {tt:AV}{hp:Hp}{t:TypeId}{b o:Nat}{x:Value}:BW tt hp t (.pointer (some ⟨b,o,none⟩)) x=(match tt t with
  |some i=>match hp b with
   |some (.cells true B2 vs)=>([(b,some (.cells true B2 (BH vs o (A8 x))))],JI x i.size∧o+i.size≤vs.length∧A9 (A8 x)=true)
   |_=>([],False)
  |none=>([],False)):=by
 unfold BW
 cases tt t with
 |none=>rfl
 |some i=>rfl
theorem Ro {tt:AV}{t:TypeId}{b o:Nat}{ix:Value}:Ak tt t (.pointer (some ⟨b,o,none⟩)) ix=(match kindOf tt t with
  |some (.array len e)=>match tt e with
   |some j=>(.pointer (some ⟨b,o+(intOf ix).toNat * j.size,none⟩),Sf ix∧0≤intOf ix∧intOf ix < (len:Int))
   |none=>(undef,False)
  |_=>(undef,False)):=by
 unfold Ak
 cases kindOf tt t with
 |none=>rfl
 |some d=>cases d <;> rfl
inductive G6 {α:Type} (E:B9 α) (hp:Hp) (v:Value):Prop
 |mk (l:List α) (h:BJ E hp v l)
theorem BJ.P {α:Type}{E:B9 α}{hp:Hp}{v:Value}{l:List α}(h:BJ E hp v l):G6 E hp v=True:=eq_true ⟨l,h⟩
theorem BJ.oc {α:Type}{E:B9 α}{hp:Hp}{v:Value}{l:List α}(h:BJ E hp v l):Value.oneCell' v=true:=by cases h <;> rfl
theorem BJ.cl {α:Type}{E:B9 α}{hp:Hp}{v:Value}{l:List α}(h:BJ E hp v l):A8 v= [v]:=by cases h <;> rfl
theorem BJ.back {α:Type}{E:B9 α}{hp:Hp}{v:Value}{l:List α}{n i:Nat}{o:Option BI}(h:BJ E (hp.set i o) v l)(hl:Sc n v)(hi:n≤i):BJ E hp v l:=
 h.mono fun b q n' c e=>by subst e;exact (AQ _ _ _ _ (by simp only [Sc] at hl;omega)).symm
theorem Aj {α:Type}{E:B9 α}{hp:Hp}{v:Value}{n:Nat}(hl:Sc n v){i:Nat}{o:Option BI}(hi:n≤i):G6 E (hp.set i o) v=G6 E hp v:=
 propext ⟨fun ⟨l,h⟩=>⟨l,h.back hl hi⟩,fun ⟨l,h⟩=>⟨l,h.set hl hi⟩⟩
theorem AZ {α:Type}{E:B9 α}{hp:Hp}{v:Value}{n:Nat}(hl:Sc n v){i:Nat}{o:Option BI}(hi:n≤i):E.rd (hp.set i o) v=E.rd hp v:=by
 cases v with
 |slice a m c=>
  cases a with
  |none=>rfl
  |some a=>
   obtain ⟨b,q,s⟩:=a
   cases s with
   |some s=>rfl
   |none=>
   simp only [Sc] at hl
   have e:=AQ hp i b o (by omega)
   simp only [B9.rd,e]
 |_=>rfl
theorem RU {tt:AV}{t:TypeId}{b o n c:Nat}{ix:Value}:Ak tt t (.slice (some ⟨b,o,none⟩) n c) ix=(match kindOf tt t with
  |some (.slice e)=>match tt e with
   |some j=>(.pointer (some ⟨b,o+(intOf ix).toNat * j.size,none⟩),Sf ix∧0≤intOf ix∧intOf ix < (n:Int))
   |none=>(undef,False)
  |_=>(undef,False)):=by
 unfold Ak
 cases kindOf tt t with
 |none=>rfl
 |some d=>cases d <;> rfl
def K8 (sz:Nat)(v:Value)(a b:Nat):Value:=match v with
 | .slice (some ⟨k,o,none⟩) _ c=> .slice (some ⟨k,o+a * sz,none⟩) (b - a) (c - a)
 |v=>v
omit [Inhabited α] in
theorem BJ.ZI (h:BJ E hp v l){j:TI}(hk:kindOf tt t=some (.slice e))(hj:tt e=some j){k:IntKind}{n:Int}(h0:0≤n)(h1:n≤l.length) :
  Bv tt hp t v none (some (.int k n))=(K8 E.size v 0 n.toNat,True):=by
 cases h with
 |nils=>
  have:n=0:=by simp at h1;omega
  subst this
  simp [Bv,hk,hj,EA,B7,K8]
 |emp=>
  have:n=0:=by simp at h1;omega
  subst this
  obtain ⟨i,hi,hd⟩:=Am hk
  have hb:Ga none (some (.int k 0)) 0 0=some (0,0):=rfl
  simp [Bv,hk,K8,Eu,hi,hd,hj,hb]
 |rows b o c rw vs l hb hv ho hc hn=>
  simp only [Bv,hk,hj,hb,EA,B7,K8,VY,intOf_int,Nat.zero_mul,Nat.add_zero,Nat.sub_zero,true_and,Prod.mk.injEq,eq_iff_iff,iff_true]
  omega
omit [Inhabited α] in
theorem BJ.take (h:BJ E hp v l){n:Nat}(h1:n≤l.length):BJ E hp (K8 E.size v 0 n) (l.take n):=by
 cases h with
 |nils=>simp [K8];exact .nils
 |emp=>simp [K8];exact .emp
 |rows b o c rw vs l hb hv ho hc hn=>
  have hl:(l.take n).length=n:=by rw [List.length_take];omega
  have h2:n * E.size≤l.length * E.size:=Nat.mul_le_mul_right _ h1
  have:=BJ.rows (E:=E) (hp:=hp) b o c rw vs (l.take n) hb (by rw [hl,←B9.PU,←hv,List.take_take,Nat.min_eq_left h2]) (by rw [hl];omega) (by omega) (by omega)
  rw [hl] at this
  simpa [K8] using this
end
def G8 (sz:Nat)(v:Value)(a:Nat):Value:=match v with
 | .slice (some ⟨k,o,none⟩) n c=>if a=0∨a < c then .slice (some ⟨k,o+a * sz,none⟩) (n - a) (c - a) else .slice (some ⟨0,0,some 0⟩) 0 0
 |v=>v
theorem BJ.Y6 {α:Type}{E:B9 α}{hp:Hp}{v:Value}{l:List α}{tt:AV}{t e:TypeId}(h:BJ E hp v l){j:TI}(hk:kindOf tt t=some (.slice e))(hj:tt e=some j)(hs:j.size=E.size){k:IntKind}{n:Int}(h0:0≤n)(h1:n≤l.length) :
  Bv tt hp t v (some (.int k n)) none=(G8 E.size v n.toNat,True):=by
 cases h with
 |nils=>
  have:n=0:=by simp at h1;omega
  subst this
  simp [Bv,hk,hj,EA,B7,G8]
 |emp=>
  have:n=0:=by simp at h1;omega
  subst this
  obtain ⟨i,hi,hd⟩:=Am hk
  have hb:Ga (some (.int k 0)) none 0 0=some (0,0):=rfl
  simp [Bv,hk,G8,Eu,hi,hd,hj,hb]
 |rows b o c rw vs l hb hv ho hc hn=>
  simp only [Bv,hk,hj,hb,EA,B7,G8,VY,intOf_int,hs,Int.toNat_natCast,true_and,Prod.mk.injEq,eq_iff_iff,iff_true,true_or,and_true]
  refine ⟨?_,by omega⟩
  by_cases hh:n.toNat=0∨n < (c:Int)
  ·rw [if_pos hh,if_pos (by omega)]
  ·rw [if_neg hh,if_neg (by omega)]
theorem BJ.drop {α:Type}{E:B9 α}{hp:Hp}{v:Value}{l:List α}(h:BJ E hp v l){n:Nat}(h1:n≤l.length):BJ E hp (G8 E.size v n) (l.drop n):=by
 cases h with
 |nils=>simp [G8];exact .nils
 |emp=>simp [G8];exact .emp
 |rows b o c rw vs l hb hv ho hc hn=>
  simp only [G8]
  have hl:(l.drop n).length=l.length - n:=by rw [List.length_drop]
  have h2:n * E.size≤l.length * E.size:=Nat.mul_le_mul_right _ h1
  split
  ·have e1:(l.length - n) * E.size=l.length * E.size - n * E.size:=by rw [Nat.sub_mul]
   have:=BJ.rows (E:=E) (hp:=hp) b (o+n * E.size) (c - n) rw vs (l.drop n) hb (by
    rw [hl,e1,←B9.TB,←hv,List.drop_take,List.drop_drop]) (by rw [hl,e1];omega) (by omega) (by omega)
   rw [hl] at this
   exact this
  ·rename_i hh
   have:l.drop n= []:=List.drop_eq_nil_of_le (by omega)
   rw [this];exact .emp
def AA {α:Type}(b:Nat)(l:List α):Value:=match l with
 | []=> .slice none 0 0
 |_ :: l=> .slice (some ⟨b,0,none⟩) (l.length+1) (l.length+1)
def AE {α:Type}(E:B9 α)(l:List α):Option BI:=match l with
 | []=>none
 |a :: l=>some (.cells true E.size (E.flat (a :: l)))
section
variable {α:Type} {E:B9 α} {hp:Hp} {b:Nat} {l:List α} {v:Value}
theorem OG:AE E ([] :List α)=none:=rfl
theorem mF {α:Type}{E:B9 α}{l:List α}:xe (AE E l)=True:=by cases l <;> exact eq_true (by first | trivial | rfl)
theorem J1:(AA b ([] :List α))= .slice none 0 0:=rfl
theorem BJ.IP (h:hp b=AE E l)(hn:l.length≤9223372036854775807):BJ E hp (AA b l) l:=by
 cases l with
 |nil=>exact .nils
 |cons a l=>
  have:=BJ.rows (E:=E) (hp:=hp) b 0 (l.length+1) true (E.flat (a :: l)) (a :: l) h (by rw [List.drop_zero,List.take_of_length_le];rw [B9.Df];exact Nat.le_refl _) (by rw [B9.Df];omega) (by simp) (by omega)
  simpa [AA] using this
theorem BJ.own (h:hp b=AE E l)(hn:l.length≤16777216):BJ E hp (AA b l) l:=BJ.IP h (by omega)
theorem Al {ρ:Nat→Nat}:Av ρ (AA b l)=AA (ρ b) l:=by cases l <;> rfl
theorem Aa [E.Plain]{ρ:Nat→Nat}:Jm ρ (AE E l)=AE E l:=by
 cases l with
 |nil=>rfl
 |cons a l=>simp only [AE,Jm,Im,B9.Dd]
def Ck (b:Nat)(l:List α)(top:Nat)(o:Option BI):BV:=match l with
 | []=> [(top,o)]
 |_ :: _=> [(b,none),(top,o)]
theorem HL {top:Nat}{o:Option BI}(h:hp b=AE E l):hp.A6 (Ck b l top o)=(hp.set b none).set top o:=by
 cases l with
 |nil=>
  have:hp.set b none=hp:=by
   funext i
   unfold Hp.set
   split
   ·rename_i e;rw [e,h];rfl
   ·rfl
  rw [this];rfl
 |cons a l=>rfl
theorem BJ.Ij (h:BJ E hp v l):Ij v=some l.length:=by cases h <;> rfl
theorem BJ.DG (h:BJ E hp v l):DG hp E.size l.length v=some (E.flat l):=by
 cases h with
 |nils=>simp [Dm.DG,B9.F1]
 |emp=>simp [Dm.DG,B9.F1]
 |rows b' o c rw vs l' hb' hv ho hc hn'=>
  simp only [Dm.DG,hb',hv,B9.Df,Nat.beq_refl]
theorem Nv {tt:AV}{top t0 t1 e:Nat}{i1 j:TI}{x:Value}{m:List α}(h0:kindOf tt t0=some (.slice e))(h1:tt t1=some i1)(hi:Et i1.ud=false)(hj:tt e=some j)(hs:j.size=E.size)(hby:Nat.ble j.bytes 65536=true)
  (h:hp b=AE E l) (hx:BJ E hp x m) (hn:DX (l.length+m.length) j.bytes=true) :
  AR tt hp top [t0,t1] (AA b l) x=some (AA top (l ++ m),Ck b l top (AE E (l ++ m)),top+1):=by
 obtain ⟨i,hi0,hd⟩:=Am h0
 have hf:=hx.DG
 have hlx:=hx.Ij
 cases l with
 |nil=>
  cases m with
  |nil=>
   simp only [List.length_nil] at hf hlx
   simp [AR,hi0,h1,hlx,hi,hd,hj,hs,hf,hby,B9.F1,A9,AA,AE,Ck]
  |cons y m=>
   have h2:DX (y :: m).length j.bytes=true:=by simpa using hn
   have h3:=E.OS (y :: m)
   have h4:Nat.beq (E.flat (y :: m)).length ((y :: m).length * E.size)=true:=by rw [B9.Df];simp
   have h5:Nat.beq (y :: m).length 0=false:=rfl
   simp only [List.length_cons] at hf hlx h2 h4 h5
   simp only [AR,hi0,h1,hlx,hi,hd,hj,hs,hf,hby,h2,h3,h4,h5,AA,AE,Ck,List.nil_append,Bool.and_self,Bool.true_and]
 |cons a l=>
  have hb:hp b=some (.cells true E.size (E.flat (a :: l))):=h
  have h3:=E.OS m
  have h4:Nat.beq (E.flat m).length (m.length * E.size)=true:=by rw [B9.Df];simp
  have h5:Nat.beq E.size E.size=true:=by simp
  have h6:(Nat.ble (l.length+1+m.length) (l.length+1) && !Nat.beq (l.length+1) (l.length+1))=false:=by
   rw [Nat.beq_refl];simp
  have h7:(Nat.beq (0+(l.length+1) * E.size) (E.flat (a :: l)).length && DX (l.length+1+m.length) j.bytes)=true:=by
   rw [Bool.and_eq_true]
   exact ⟨by rw [B9.Df];simp,hn⟩
  simp only [AR,hi0,h1,hlx,hi,hd,hj,hs,hf,hby,hb,h3,h4,h5,h6,h7,AA,AE,Ck,Bool.and_self,List.cons_append,List.drop_zero]
  simp only [List.length_append,B9.Dt,B9.Pw,List.append_assoc]
  have e1:l.length+1+m.length=l.length+m.length+1:=by omega
  rw [e1]
theorem Po {tt:AV}{top t0 t1 e:Nat}{i1 j:TI}{x:Value}{m:List α}(h0:kindOf tt t0=some (.slice e))(h1:tt t1=some i1)(hi:Et i1.ud=false)(hj:tt e=some j)(hs:j.size=E.size)(hby:Nat.ble j.bytes 65536=true)
  (h:hp b=AE E l) (hx:BJ E hp x m) (hn:l.length+m.length≤16777216) :
  AR tt hp top [t0,t1] (AA b l) x=some (AA top (l ++ m),Ck b l top (AE E (l ++ m)),top+1):=
 Nv h0 h1 hi hj hs hby h hx (Dc hn (Nat.le_of_ble_eq_true hby))
theorem Nn {tt:AV}{top t0 t1 e:Nat}{i1 j:TI}{x:Value}{m:List α}(h0:kindOf tt t0=some (.slice e))(h1:tt t1=some i1)(hi:Et i1.ud=false)(hj:tt e=some j)(hs:j.size=E.size)(hby:Nat.ble j.bytes 65536=true)
  (hx:BJ E hp x m) (hn:DX m.length j.bytes=true) :
  AR tt hp top [t0,t1] (.slice none 0 0) x=some (AA top m, [(top,AE E m)],top+1):=by
 obtain ⟨i,hi0,hd⟩:=Am h0
 have hf:=hx.DG
 have hlx:=hx.Ij
 cases m with
 |nil=>
  simp only [List.length_nil] at hf hlx
  simp [AR,hi0,h1,hlx,hi,hd,hj,hs,hf,hby,B9.F1,A9,AA,AE]
 |cons y m=>
  have h2:DX (y :: m).length j.bytes=true:=hn
  have h3:=E.OS (y :: m)
  have h4:Nat.beq (E.flat (y :: m)).length ((y :: m).length * E.size)=true:=by rw [B9.Df];simp
  have h5:Nat.beq (y :: m).length 0=false:=rfl
  simp only [List.length_cons] at hf hlx h2 h4 h5
  simp only [AR,hi0,h1,hlx,hi,hd,hj,hs,hf,hby,h2,h3,h4,h5,AA,AE,Bool.and_self,Bool.true_and]
theorem Pz {tt:AV}{top t0 t1 e:Nat}{i1 j:TI}{x:Value}{m:List α}(h0:kindOf tt t0=some (.slice e))(h1:tt t1=some i1)(hi:Et i1.ud=false)(hj:tt e=some j)(hs:j.size=E.size)(hby:Nat.ble j.bytes 65536=true)
  (hx:BJ E hp x m) (hn:m.length≤16777216) :
  AR tt hp top [t0,t1] (.slice none 0 0) x=some (AA top m, [(top,AE E m)],top+1):=
 Nn h0 h1 hi hj hs hby hx (Dc hn (Nat.le_of_ble_eq_true hby))
theorem tb (h:hp b=AE E l)(hn:l.length≤16777216):G6 E hp (AA b l)=True:=(BJ.own h hn).P
theorem Mz [Inhabited α](h:hp b=AE E l)(hn:l.length≤16777216):E.rd hp (AA b l)=l:=(BJ.own h hn).rd
theorem aM:A8 (AA b l)= [AA b l]:=by cases l <;> rfl
theorem bq:Value.oneCell' (AA b l)=true:=by cases l <;> rfl
theorem Cz [Inhabited α]{tt:AV}{top t0 t1 e:Nat}{i1 j:TI}{x:Value}(h0:kindOf tt t0=some (.slice e))(h1:tt t1=some i1)(hi:Et i1.ud=false)(hj:tt e=some j)(hs:j.size=E.size)(hby:Nat.ble j.bytes 65536=true)
  (h:hp b=AE E l) (hx:G6 E hp x) (hn:l.length+(E.rd hp x).length≤16777216) :
  AR tt hp top [t0,t1] (AA b l) x=some (AA top (l ++ E.rd hp x),Ck b l top (AE E (l ++ E.rd hp x)),top+1):=by
 obtain ⟨m,hm⟩:=hx
 rw [hm.rd] at hn ⊢
 exact Po h0 h1 hi hj hs hby h hm hn
theorem xV (h:hp b=AE E l)(hn:l.length≤9223372036854775807):G6 E hp (AA b l)=True:=(BJ.IP h hn).P
theorem ni [Inhabited α](h:hp b=AE E l)(hn:l.length≤9223372036854775807):E.rd hp (AA b l)=l:=(BJ.IP h hn).rd
theorem Cd [Inhabited α]{tt:AV}{top t0 t1 e:Nat}{i1 j:TI}{x:Value}(h0:kindOf tt t0=some (.slice e))(h1:tt t1=some i1)(hi:Et i1.ud=false)(hj:tt e=some j)(hs:j.size=E.size)(hby:Nat.ble j.bytes 65536=true)
  (hx:G6 E hp x) (hn:DX (E.rd hp x).length j.bytes=true) :
  AR tt hp top [t0,t1] (.slice none 0 0) x=some (AA top (E.rd hp x), [(top,AE E (E.rd hp x))],top+1):=by
 obtain ⟨m,hm⟩:=hx
 rw [hm.rd] at hn ⊢
 exact Nn h0 h1 hi hj hs hby hm hn
theorem BJ.one {k:Nat}{a:α}(h:hp k=some (.cells true E.size (E.enc a))):BJ E hp (.slice (some ⟨k,0,none⟩) 1 1) [a]:=by
 have hl:=E.len a
 exact BJ.rows (E:=E) (hp:=hp) k 0 1 true (E.enc a) [a] h (by simp [B9.flat,←hl]) (by simp [hl]) (by simp) (by simp)
theorem C0 [Inhabited α]{tt:AV}{top t0 t1 e:Nat}{i1 j:TI}{x:Value}(h0:kindOf tt t0=some (.slice e))(h1:tt t1=some i1)(hi:Et i1.ud=false)(hj:tt e=some j)(hs:j.size=E.size)(hby:Nat.ble j.bytes 65536=true)
  (hx:G6 E hp x) (hn:(E.rd hp x).length≤16777216) :
  AR tt hp top [t0,t1] (.slice none 0 0) x=some (AA top (E.rd hp x), [(top,AE E (E.rd hp x))],top+1):=by
 obtain ⟨m,hm⟩:=hx
 rw [hm.rd] at hn ⊢
 exact Pz h0 h1 hi hj hs hby hm hn
theorem Xl {tt:AV}{top t0 t1 e k:Nat}{i1 j:TI}{cs:List Value}(h0:kindOf tt t0=some (.slice e))(h1:tt t1=some i1)(hi:Et i1.ud=false)(hj:tt e=some j)(hs:j.size=E.size)(hby:Nat.ble j.bytes 65536=true)
  (h:hp b=AE E l) (hk:hp k=some (.cells true E.size cs)) (hc:E.enc (E.dec cs)=cs) (hn:l.length < 16777216) :
  AR tt hp top [t0,t1] (AA b l) (.slice (some ⟨k,0,none⟩) 1 1)=some (AA top (l ++ [E.dec cs]),Ck b l top (AE E (l ++ [E.dec cs])),top+1):=
 Po h0 h1 hi hj hs hby h (BJ.one (by rw [hc];exact hk)) (by simp only [List.length_singleton];omega)
def cellsOf:Option BI→List Value
 |some (.cells _ _ cs)=>cs
 |_=> []
theorem VF {rw:Bool}{z:Nat}{cs:List Value}:cellsOf (some (.cells rw z cs))=cs:=rfl
theorem N9 {tt:AV}{top t0 t1 e k:Nat}{i1 j:TI}(h0:kindOf tt t0=some (.slice e))(h1:tt t1=some i1)(hi:Et i1.ud=false)(hj:tt e=some j)(hs:j.size=E.size)(hby:Nat.ble j.bytes 65536=true)
  (h:hp b=AE E l) (hk:hp k=some (.cells true E.size (cellsOf (hp k)))) (hc:E.enc (E.dec (cellsOf (hp k)))=cellsOf (hp k)) (hn:l.length < 16777216) :
  AR tt hp top [t0,t1] (AA b l) (.slice (some ⟨k,0,none⟩) 1 1)=some (AA top (l ++ [E.dec (cellsOf (hp k))]),Ck b l top (AE E (l ++ [E.dec (cellsOf (hp k))])),top+1):=
 Xl h0 h1 hi hj hs hby h hk hc hn
theorem Ce {tt:AV}{top t0 t1 e k:Nat}{i1 j:TI}(h0:kindOf tt t0=some (.slice e))(h1:tt t1=some i1)(hi:Et i1.ud=false)(hj:tt e=some j)(hs:j.size=E.size)(hby:Nat.ble j.bytes 65536=true)
  (hk:hp k=some (.cells true E.size (cellsOf (hp k)))) (hc:E.enc (E.dec (cellsOf (hp k)))=cellsOf (hp k)) :
  AR tt hp top [t0,t1] (.slice none 0 0) (.slice (some ⟨k,0,none⟩) 1 1)=some (AA top [E.dec (cellsOf (hp k))], [(top,AE E [E.dec (cellsOf (hp k))])],top+1):=
 Pz h0 h1 hi hj hs hby (BJ.one (by rw [hc];exact hk)) (by simp)
theorem Wm [Inhabited α]{a':α}{xs:List Value}{f:Nat}:∀ {l:List α} {i:Nat},i < l.length→f+xs.length≤E.size→E.enc a' = BH (E.enc (at' l i)) f xs→BH (E.flat l) (i * E.size+f) xs=E.flat (l.set i a'):=by
 intro l
 induction l with
 |nil=>intro i h;simp at h
 |cons a l ih=>
  intro i hi hf he
  have hl:=E.len a
  cases i with
  |zero=>
   have h0:at' (a :: l) 0=a:=rfl
   rw [h0] at he
   simp only [List.set_cons_zero,B9.Dt,he,BH,Nat.zero_mul,Nat.zero_add]
   rw [List.take_append_of_le_length (by omega),List.drop_append_of_le_length (by omega)]
   simp only [List.append_assoc]
  |succ i=>
   have h1:at' (a :: l) (i+1)=at' l i:=by simp [at']
   rw [h1] at he
   have:=ih (by simpa using hi) hf he
   simp only [List.set_cons_succ,B9.Dt,←this,BH]
   have e:(i+1) * E.size+f=(E.enc a).length+(i * E.size+f):=by rw [hl,Nat.succ_mul];omega
   rw [e,List.take_length_add_append,Nat.add_assoc,List.drop_length_add_append]
   simp only [List.append_assoc]
theorem kI {i:Nat}{a:α}(h:i < l.length):AE E (l.set i a)=some (.cells true E.size (E.flat (l.set i a))):=by
 cases l with
 |nil=>simp at h
 |cons b l=>cases i <;> rfl
theorem gi {i:Nat}(h:i < l.length):AE E l=some (.cells true E.size (E.flat l)):=by
 cases l with
 |nil=>simp at h
 |cons b l=>rfl
theorem db {i d:Nat}(h:i < l.length):Ag (AA b l) d= .pointer (some ⟨b,d,none⟩):=by
 cases l with
 |nil=>simp at h
 |cons a l=>simp [AA,Ag]
theorem Tt [Inhabited α]{tt:AV}{t:TypeId}{j:TI}{x:Value}{i f:Nat}(hj:tt t=some j)(h:hp b=AE E l)(hi:i < l.length)(hx:JI x j.size)(hf:f+j.size≤E.size)(h1:A9 (A8 x)=true)
  (he:E.enc (E.dec (BH (E.enc (at' l i)) f (A8 x)))=BH (E.enc (at' l i)) f (A8 x)) :
  BW tt hp t (Ag (AA b l) (i * E.size+f)) x=([(b,AE E (l.set i (E.dec (BH (E.enc (at' l i)) f (A8 x)))))],True):=by
 have hlen:(A8 x).length=j.size:=hx
 have h2:(i+1) * E.size≤l.length * E.size:=Nat.mul_le_mul_right _ hi
 rw [Nat.succ_mul] at h2
 rw [db hi,kI hi]
 unfold BW
 rw [gi hi] at h
 simp only [hj,h]
 rw [Wm hi (by rw [hlen];exact hf) he,B9.Df]
 have h3:i * E.size+f+j.size≤l.length * E.size:=by omega
 simp [hx,h1,h3]
theorem GH [Inhabited α]{tt:AV}{t:TypeId}{j:TI}{cs:List Value}{i:Nat}(hj:tt t=some j)(hs:j.size=E.size)(h:hp b=AE E l)(hi:i < l.length)(hc:E.enc (E.dec cs)=cs)(h1:A9 cs=true) :
  BW tt hp t (Ag (AA b l) (i * E.size)) (.agg ⟨cs⟩)=([(b,AE E (l.set i (E.dec cs)))],True):=by
 have hl:cs.length=E.size:=by rw [←hc];exact E.len _
 have e:BH (E.enc (at' l i)) 0 cs=cs:=by
  simp only [BH,List.take_zero,List.nil_append,Nat.zero_add]
  rw [List.drop_eq_nil_of_le (by rw [E.len,hl];exact Nat.le_refl _),List.append_nil]
 have:=Tt (E:=E) (hp:=hp) (b:=b) (l:=l) (x:= .agg ⟨cs⟩) (i:=i) (f:=0) hj h hi (by show cs.length=j.size;rw [hl,hs]) (by omega) h1 (by show E.enc (E.dec (BH _ 0 cs))=BH _ 0 cs;rw [e,hc])
 rw [Nat.add_zero] at this
 rw [this]
 show ([(b,AE E (l.set i (E.dec (BH _ 0 cs))))],True)=_
 rw [e]
theorem A5 [Inhabited α]{tt:AV}{t:TypeId}{j:TI}{x:Value}{i f:Nat}{a':α}(hj:tt t=some j)(h:hp b=AE E l)(hi:i < l.length)(hx:JI x j.size)(hf:f+j.size≤E.size)(h1:A9 (A8 x)=true)
  (he:E.enc a' = BH (E.enc (at' l i)) f (A8 x)) :
  BW tt hp t (Ag (AA b l) (i * E.size+f)) x=([(b,AE E (l.set i a'))],True):=by
 have:=Tt (E:=E) (hp:=hp) (b:=b) (l:=l) (x:=x) (i:=i) (f:=f) hj h hi hx hf h1 (by rw [←he,E.h])
 rw [this,←he,E.h]
end
end Go.Dm
namespace Go.Dm
structure KT (tt:AV) (kt:TypeId) (κ:Type) [DecidableEq κ] where
 ek:κ→Value
 eq:∀a b,LC tt 64 kt (ek a) (ek b)=some (decide (a=b))
 key:∀a,La tt 64 kt (ek a)=true
 pl:∀a,plain 8 (ek a)=true
 bits:∀a,Instr.sameBits 10000 (ek a) (ek a)=true
 Av:∀ρ a,Av ρ (ek a)=ek a
section
variable {κ β:Type} [DecidableEq κ]
def M3 (ek:κ→Value)(ev:β→Value)(x:κ×β×Nat):MapEntry:=⟨ek x.1,ev x.2.1,x.2.2⟩
def LP (m:List (κ×β×Nat))(k:κ):Option β:=match m with
 | []=>none
 |x :: m=>if k=x.1 then some x.2.1 else LP m k
def QF (m:List (κ×β×Nat))(k:κ)(i:Nat):Option (Nat×β):=match m with
 | []=>none
 |x :: m=>if k=x.1 then some (i,x.2.1) else QF m k (i+1)
def NW (m:List (κ×β×Nat))(k:κ)(v:β)(Cc:Nat):List (κ×β×Nat):=match m with
 | []=> [(k,v,Cc)]
 |x :: m=>if k=x.1 then (k,v,x.2.2) :: m else x :: NW m k v Cc
def dq (m:List (κ×β×Nat))(k:κ):List (κ×β×Nat):=match m with
 | []=> []
 |x :: m=>if k=x.1 then m else x :: dq m k
def WS (m:List (κ×β×Nat))(k:κ)(Cc:Nat):Nat:=match LP m k with
 |some _=>Cc
 |none=>Cc+1
theorem OI:∀(m:List (κ×β×Nat)) (k:κ) (i:Nat),(QF m k i).map (·.2)=LP m k
 | [],_,_=>rfl
 |x :: m,k,i=>by
  unfold QF LP
  split
  ·rfl
  ·exact OI m k (i+1)
theorem bX:∀(m:List (κ×β×Nat)) (k:κ) (i j:Nat) (v:β),QF m k i=some (j,v)→∃q b,j=i+q∧m[q]? = some (k,v,b)∧(∀v Cc,NW m k v Cc=m.set q (k,v,b))∧dq m k=m.eraseIdx q
 | [],_,_,_,_,h=>by cases h
 |x :: m,k,i,j,v,h=>by
  unfold QF at h
  split at h
  ·rename_i hk
   cases h
   exact ⟨0,x.2.2,rfl,by rw [hk];rfl,fun v Cc=>by simp [NW,hk],by simp [dq,hk]⟩
  ·rename_i hk
   obtain ⟨q,b,h1,h2,h3,h4⟩:=bX m k (i+1) j v h
   exact ⟨q+1,b,by omega,by simpa using h2,fun v Cc=>by simp [NW,hk,h3],by simp [dq,hk,h4]⟩
theorem Ti:∀(m:List (κ×β×Nat)) (k:κ) (i:Nat),QF m k i=none→LP m k=none∧(∀v Cc,NW m k v Cc=m ++ [(k,v,Cc)])∧dq m k=m
 | [],_,_,_=>⟨rfl,fun _ _=>rfl,rfl⟩
 |x :: m,k,i,h=>by
  unfold QF at h
  split at h
  ·cases h
  ·rename_i hk
   obtain ⟨h1,h2,h3⟩:=Ti m k (i+1) h
   exact ⟨by simp [LP,hk,h1],fun v Cc=>by simp [NW,hk,h2],by simp [dq,hk,h3]⟩
variable {tt:AV} {kt:TypeId} (Q:KT tt kt κ) (ev:β→Value)
theorem Qb:∀(m:List (κ×β×Nat)) (k:κ) (i:Nat),JF tt kt (Q.ek k) (m.map (M3 Q.ek ev)) i=some ((QF m k i).map fun p=>(p.1,ev p.2))
 | [],_,_=>rfl
 |x :: m,k,i=>by
  have ih:=Qb m k (i+1)
  rw [List.map_cons]
  unfold JF QF
  have e:=Q.eq k x.1
  show (match LC tt 64 kt (Q.ek k) (Q.ek x.1) with | some true=>_ | some false=>_ | none=>_)=_
  rw [e]
  by_cases hk:k=x.1
  ·simp [hk,M3]
  ·simp only [decide_eq_false hk,if_neg hk]
   exact ih
def Ka (tt:AV)(kt:TypeId)(z:Value)(k:Value)(es:List MapEntry)(ok:Bool):Value×Prop:=
 let v:=match SN tt kt k es with
  |some (_,v)=>v
  |none=>z
 (match ok with
  |true=> .tuple ⟨[v, .bool (SN tt kt k es).isSome]⟩
  |false=>v,La tt 64 kt k=true∧(JF tt kt k es 0).isSome=true)
theorem Pu {hp:Hp}{t et:TypeId}{ki j:TI}{b:Nat}{k:Value}{ok:Bool}(ht:kindOf tt t=some (.map kt et))(hk:tt kt=some ki)(hj:tt et=some j) :
  H7 tt hp t (.map (some b)) k ok=(match hp b with
   |some (.map es _)=>Ka tt kt j.zero k es ok
   |_=>(undef,False)):=by
 unfold H7
 simp only [ht]
 cases hp b with
 |none=>rfl
 |some o=>cases o with
  |map es Cc=>simp only [hk,hj];rfl
  |_=>rfl
theorem YM {z:Value}(m:List (κ×β×Nat))(k:κ):Ka tt kt z (Q.ek k) (m.map (M3 Q.ek ev)) true=(.tuple ⟨[((LP m k).map ev).getD z, .bool (LP m k).isSome]⟩,True):=by
 unfold Ka
 simp only [SN,Qb,Q.key,←OI m k 0]
 cases QF m k 0 <;> simp
theorem mS {z:Value}(m:List (κ×β×Nat))(k:κ):Ka tt kt z (Q.ek k) (m.map (M3 Q.ek ev)) false=(((LP m k).map ev).getD z,True):=by
 unfold Ka
 simp only [SN,Qb,Q.key,←OI m k 0]
 cases QF m k 0 <;> simp
def HU (tt:AV)(kt:TypeId)(b:Nat)(k x:Value)(es:List MapEntry)(Cc:Nat):Option BV:=match La tt 64 kt k with
 |true=>match JF tt kt k es 0 with
  |some (some (j,_))=>match es[j]? with
   |some e0=>match plain 8 k && plain 8 e0.key && Instr.sameBits 10000 e0.key k with
    |true=>some [(b,some (.map (es.set j {e0 with key:=k,val:=x}) Cc))]
    |false=>none
   |none=>none
  |some none=>some [(b,some (.map (es ++ [{key:=k,val:=x,born:=Cc}]) (Cc+1)))]
  |none=>none
 |false=>none
theorem LU {hp:Hp}{t et:TypeId}{ki:TI}{b:Nat}{k x:Value}(ht:kindOf tt t=some (.map kt et))(hk:tt kt=some ki) :
  Fb tt hp t (.map (some b)) k x=(match hp b with
   |some (.map es Cc)=>HU tt kt b k x es Cc
   |_=>none):=by
 obtain ⟨i,hi,hd⟩:=Am ht
 unfold Fb HU
 simp only [hi,hd]
 cases hp b with
 |none=>rfl
 |some o=>cases o with
  |map es Cc=>simp only [hk];cases La tt 64 kt k <;> rfl
  |_=>rfl
theorem Pb (b:Nat)(m:List (κ×β×Nat))(Cc:Nat)(k:κ)(v:β):HU tt kt b (Q.ek k) (ev v) (m.map (M3 Q.ek ev)) Cc=some [(b,some (.map ((NW m k v Cc).map (M3 Q.ek ev)) (WS m k Cc)))]:=by
 unfold HU
 simp only [Q.key,Qb]
 unfold WS
 rw [←OI m k 0]
 cases hx:QF m k 0 with
 |none=>
  obtain ⟨h1,h2,h3⟩:=Ti m k 0 hx
  simp only [Option.map_none,h2,List.map_append,List.map_cons,List.map_nil]
  rfl
 |some p=>
  obtain ⟨q,b0,h1,h2,h3,h4⟩:=bX m k 0 p.1 p.2 hx
  simp only [Option.map_some,h1,Nat.zero_add,List.getElem?_map,h2,M3,Q.pl,Q.bits,Bool.and_self,h3,List.map_set]
end
theorem SX {κ β:Type}{ρ:Nat→Nat}{ek:κ→Value}{ev:β→Value}(hk:∀a,Av ρ (ek a)=ek a)(hv:∀a,Av ρ (ev a)=ev a)(m:List (κ×β×Nat)):(m.map (M3 ek ev)).map (Oc ρ)=m.map (M3 ek ev):=by
 rw [List.map_map]
 apply List.map_congr_left
 intro x _
 simp only [Function.comp,M3,Oc,hk,hv]
theorem Pq {l:List Value}{n:Nat}(h:∀v∈l,Instr.sameBits n v v=true):Instr.sameBits (n+1) (.agg ⟨l⟩) (.agg ⟨l⟩)=true:=by
 have:∀l:List Value,(∀v∈l,Instr.sameBits n v v=true)→(l.zip l).all (fun (x,y)=>Instr.sameBits n x y)=true:=by
  intro l
  induction l with
  |nil=>intro _;rfl
  |cons a l ih=>
   intro h
   simp only [List.zip_cons_cons,List.all_cons,h a (List.mem_cons_self ..),Bool.true_and]
   exact ih fun v hv=>h v (List.mem_cons_of_mem _ hv)
 simp only [Instr.sameBits,beq_self_eq_true,Bool.true_and]
 exact this l h
end Go.Dm
namespace Go.Dm
def ND:List (Nat×Nat)→Nat→Nat→Bool
 | [],_,_=>false
 | (a,b) :: l,i,k=>match Nat.beq a i,Nat.beq b k with
  |true,true=>true
  |_,_=>ND l i k
structure nS where
 i:Nat
 g:Bool
 fr:DZ
 op:Op
 v:Value
def NH (tt:AV)(G:FuncId→Bz)(un:List (Nat×Nat))(k:Nat)(hp:Hp):List nS→Prop
 | []=>True
 |e :: rs=>(if ND un e.i k=true then (e.g=true→(pv tt G e.fr hp e.op).2∧(pv tt G e.fr hp e.op).1=e.v)∧NH tt G un k hp rs else NH tt G un k hp rs)
def Kc (tt:AV)(G:FuncId→Bz)(un:List (Nat×Nat))(i:Nat)(fr:DZ)(op:Op)(v:Value):List (Nat×Hp)→Prop
 | []=>True
 | (k,hp) :: vs=>(if ND un i k=true then ((pv tt G fr hp op).2∧(pv tt G fr hp op).1=v)∧Kc tt G un i fr op v vs else Kc tt G un i fr op v vs)
def TT:List (Nat×Nat)→Nat→Bool
 | [],_=>false
 | (a,_) :: l,i=>match Nat.beq a i with
  |true=>true
  |false=>TT l i
def Q9 (un:List (Nat×Nat))(e:nS)(rs:List nS):List nS:=match TT un e.i with
 |true=>e :: rs
 |false=>rs
def Mq (tt:AV)(G:FuncId→Bz)(all:List Oper)(un:List (Nat×Nat)):Nat→List Oper→List nS→List (Nat×Hp)→(SS→Prop)→SS→Prop
 |_, [],_,_,K,s=>K s
 |i,o :: os,rs,vs,K,s=>(Az all s.fr o.guard).2∧(match Hv G o.op with
  |true=>(if (Az all s.fr o.guard).1=true then (DT tt G s.fr s.hp s.top o.op).ob∧NH tt G un i (s.hp.A6 (DT tt G s.fr s.hp s.top o.op).us) rs∧
     Mq tt G all un (i+1) os rs ((i,s.hp) :: vs) K ⟨B4 s.fr o.dst (DT tt G s.fr s.hp s.top o.op).v true,s.hp.A6 (DT tt G s.fr s.hp s.top o.op).us,(DT tt G s.fr s.hp s.top o.op).top⟩
    else Mq tt G all un (i+1) os rs vs K ⟨B4 s.fr o.dst undef false,s.hp,s.top⟩)
  |false=>((Az all s.fr o.guard).1=true→(pv tt G s.fr s.hp o.op).2∧Kc tt G un i s.fr o.op (pv tt G s.fr s.hp o.op).1 vs)∧
    Mq tt G all un (i+1) os (Q9 un ⟨i,(Az all s.fr o.guard).1,s.fr,o.op,(pv tt G s.fr s.hp o.op).1⟩ rs) vs K ⟨B4 s.fr o.dst (pv tt G s.fr s.hp o.op).1 (Az all s.fr o.guard).1,s.hp,s.top⟩)
theorem fN {un:List (Nat×Nat)}{i k:Nat}(h:ND un i k=true):TT un i=true:=by
 induction un with
 |nil=>cases h
 |cons p l ih=>
  obtain ⟨a,b⟩:=p
  unfold ND at h
  unfold TT
  cases ha:Nat.beq a i with
  |true=>rfl
  |false=>rw [ha] at h;exact ih h
theorem Yj {tt:AV}{G:FuncId→Bz}{un:List (Nat×Nat)}{k:Nat}{hp:Hp}:∀ {rs:List nS},NH tt G un k hp rs→∀e∈rs,ND un e.i k=true→e.g=true→(pv tt G e.fr hp e.op).2∧(pv tt G e.fr hp e.op).1=e.v:=by
 intro rs
 induction rs with
 |nil=>intro _ e he;cases he
 |cons a rs ih=>
  intro h e he hu hg
  unfold NH at h
  cases he with
  |head=>
   rw [if_pos hu] at h
   exact h.1 hg
  |tail _ he=>
   split at h
   ·exact ih h.2 e he hu hg
   ·exact ih h e he hu hg
theorem We {tt:AV}{G:FuncId→Bz}{un:List (Nat×Nat)}{i:Nat}{fr:DZ}{op:Op}{v:Value}:∀ {vs:List (Nat×Hp)},Kc tt G un i fr op v vs→∀p∈vs,ND un i p.1=true→(pv tt G fr p.2 op).2∧(pv tt G fr p.2 op).1=v:=by
 intro vs
 induction vs with
 |nil=>intro _ e he;cases he
 |cons a vs ih=>
  intro h e he hu
  obtain ⟨k,hp⟩:=a
  unfold Kc at h
  cases he with
  |head=>
   rw [if_pos hu] at h
   exact h.1
  |tail _ he=>
   split at h
   ·exact ih h.2 e he hu
   ·exact ih h e he hu
structure DXF (tt:AV) (G:FuncId→Bz) (all:List Oper) (un:List (Nat×Nat)) (i:Nat) (os:List Oper) (rs:List nS) (vs:List (Nat×Hp)) (s:SS):Prop where
 step:∀k o,os[k]? = some o→DF tt G all o (JS tt G all os s k) (JS tt G all os s (k+1))
 bR:∀e∈rs,∀k o,os[k]? = some o→Hv G o.op=true→(Az all (JS tt G all os s k).fr o.guard).1=true→ND un e.i (i+k)=true→e.g=true→
  (pv tt G e.fr (JS tt G all os s (k+1)).hp e.op).2∧(pv tt G e.fr (JS tt G all os s (k+1)).hp e.op).1=e.v
 Ul:∀p∈vs,∀k o,os[k]? = some o→Hv G o.op=false→(Az all (JS tt G all os s k).fr o.guard).1=true→ND un (i+k) p.1=true→
  (pv tt G (JS tt G all os s k).fr p.2 o.op).2∧(pv tt G (JS tt G all os s k).fr p.2 o.op).1=(pv tt G (JS tt G all os s k).fr (JS tt G all os s k).hp o.op).1
 late:∀q k oq ok,q < k→os[q]? = some oq→os[k]? = some ok→Hv G oq.op=false→(Az all (JS tt G all os s q).fr oq.guard).1=true→Hv G ok.op=true→(Az all (JS tt G all os s k).fr ok.guard).1=true→ND un (i+q) (i+k)=true→
  (pv tt G (JS tt G all os s q).fr (JS tt G all os s (k+1)).hp oq.op).2∧(pv tt G (JS tt G all os s q).fr (JS tt G all os s (k+1)).hp oq.op).1=(pv tt G (JS tt G all os s q).fr (JS tt G all os s q).hp oq.op).1
 early:∀q k oq ok,q < k→os[q]? = some oq→os[k]? = some ok→Hv G oq.op=true→(Az all (JS tt G all os s q).fr oq.guard).1=true→Hv G ok.op=false→(Az all (JS tt G all os s k).fr ok.guard).1=true→ND un (i+k) (i+q)=true→
  (pv tt G (JS tt G all os s k).fr (JS tt G all os s q).hp ok.op).2∧(pv tt G (JS tt G all os s k).fr (JS tt G all os s q).hp ok.op).1=(pv tt G (JS tt G all os s k).fr (JS tt G all os s k).hp ok.op).1
theorem YS {tt:AV}{G:FuncId→Bz}{all:List Oper}{un:List (Nat×Nat)}{K:SS→Prop}:∀(os:List Oper) (i:Nat) (rs:List nS) (vs:List (Nat×Hp)) (s:SS),Mq tt G all un i os rs vs K s→
  K (JS tt G all os s os.length)∧DXF tt G all un i os rs vs s:=by
 intro os
 induction os with
 |nil=>intro i rs vs s h;exact ⟨h,⟨fun k o hk=>by simp at hk,fun e he k o hk=>by simp at hk,fun p hp k o hk=>by simp at hk,fun q k oq ok hq h1=>by simp at h1,fun q k oq ok hq h1=>by simp at h1⟩⟩
 |cons o os ih=>
  intro i rs vs s h
  obtain ⟨h1,h2⟩:=h
  have z:∀n,JS tt G all (o :: os) s (n+1)=JS tt G all os (Ov tt G all o s) n:=fun n=>rfl
  have z0:JS tt G all (o :: os) s 0=s:=rfl
  have sh:∀n:Nat,i+(n+1)=(i+1)+n:=fun n=>by omega
  cases hw:Hv G o.op with
  |true=>
   rw [hw] at h2
   dsimp only at h2
   cases hg:(Az all s.fr o.guard).1 with
   |true=>
    rw [if_pos hg] at h2
    obtain ⟨h3,h4,h5⟩:=h2
    have hn:Ov tt G all o s=⟨B4 s.fr o.dst (DT tt G s.fr s.hp s.top o.op).v true,s.hp.A6 (DT tt G s.fr s.hp s.top o.op).us,(DT tt G s.fr s.hp s.top o.op).top⟩:=by simp only [Ov,hw,hg]
    rw [←hn] at h5
    obtain ⟨hK,F⟩:=ih _ _ _ _ h5
    refine ⟨hK,⟨?_, ?_, ?_, ?_, ?_⟩⟩
    ·intro k p hk
     cases k with
     |zero=>
      simp at hk;subst hk
      rw [z,z0,Gc]
      exact ⟨h1,fun _ _=>h3,fun e=>(by rw [hw] at e;cases e),rfl⟩
     |succ k=>exact F.step k p (by simpa using hk)
    ·intro e he k p hk hwp hgp hu heg
     cases k with
     |zero=>
      simp at hk;subst hk
      rw [z,Gc,hn]
      exact Yj h4 e he (by simpa using hu) heg
     |succ k=>exact F.bR e he k p (by simpa using hk) hwp hgp (by rw [←sh];exact hu) heg
    ·intro e he k p hk hwp hgp hu
     cases k with
     |zero=>
      simp at hk;subst hk
      rw [hw] at hwp;cases hwp
     |succ k=>exact F.Ul e (List.mem_cons_of_mem _ he) k p (by simpa using hk) hwp hgp (by rw [←sh];exact hu)
    ·intro q k oq ok hqk hq hk hwq hgq hwk hgk hu
     cases k with
     |zero=>omega
     |succ k=>
      cases q with
      |zero=>
       simp at hq;subst hq
       rw [hw] at hwq;cases hwq
      |succ q=>exact F.late q k oq ok (by omega) (by simpa using hq) (by simpa using hk) hwq hgq hwk hgk (by rw [←sh,←sh];exact hu)
    ·intro q k oq ok hqk hq hk hwq hgq hwk hgk hu
     cases k with
     |zero=>omega
     |succ k=>
      cases q with
      |zero=>
       simp at hq;subst hq
       exact F.Ul (i,s.hp) (List.mem_cons_self ..) k ok (by simpa using hk) hwk hgk (by rw [←sh];simpa using hu)
      |succ q=>exact F.early q k oq ok (by omega) (by simpa using hq) (by simpa using hk) hwq hgq hwk hgk (by rw [←sh,←sh];exact hu)
   |false=>
    rw [if_neg (by rw [hg];simp)] at h2
    have hn:Ov tt G all o s=⟨B4 s.fr o.dst undef false,s.hp,s.top⟩:=by simp only [Ov,hw,hg]
    rw [←hn] at h2
    obtain ⟨hK,F⟩:=ih _ _ _ _ h2
    refine ⟨hK,⟨?_, ?_, ?_, ?_, ?_⟩⟩
    ·intro k p hk
     cases k with
     |zero=>
      simp at hk;subst hk
      rw [z,z0,Gc]
      exact ⟨h1,fun _ e=>(by rw [hg] at e;cases e),fun e=>(by rw [hw] at e;cases e),rfl⟩
     |succ k=>exact F.step k p (by simpa using hk)
    ·intro e he k p hk hwp hgp hu heg
     cases k with
     |zero=>
      simp at hk;subst hk
      rw [z0,hg] at hgp;cases hgp
     |succ k=>exact F.bR e he k p (by simpa using hk) hwp hgp (by rw [←sh];exact hu) heg
    ·intro e he k p hk hwp hgp hu
     cases k with
     |zero=>
      simp at hk;subst hk
      rw [hw] at hwp;cases hwp
     |succ k=>exact F.Ul e he k p (by simpa using hk) hwp hgp (by rw [←sh];exact hu)
    ·intro q k oq ok hqk hq hk hwq hgq hwk hgk hu
     cases k with
     |zero=>omega
     |succ k=>
      cases q with
      |zero=>
       simp at hq;subst hq
       rw [hw] at hwq;cases hwq
      |succ q=>exact F.late q k oq ok (by omega) (by simpa using hq) (by simpa using hk) hwq hgq hwk hgk (by rw [←sh,←sh];exact hu)
    ·intro q k oq ok hqk hq hk hwq hgq hwk hgk hu
     cases k with
     |zero=>omega
     |succ k=>
      cases q with
      |zero=>
       simp at hq;subst hq
       rw [z0,hg] at hgq;cases hgq
      |succ q=>exact F.early q k oq ok (by omega) (by simpa using hq) (by simpa using hk) hwq hgq hwk hgk (by rw [←sh,←sh];exact hu)
  |false=>
   rw [hw] at h2
   dsimp only at h2
   obtain ⟨h3,h4⟩:=h2
   have hn:Ov tt G all o s=⟨B4 s.fr o.dst (pv tt G s.fr s.hp o.op).1 (Az all s.fr o.guard).1,s.hp,s.top⟩:=by simp only [Ov,hw]
   rw [←hn] at h4
   obtain ⟨hK,F⟩:=ih _ _ _ _ h4
   have hold:∀e∈rs,e∈Q9 un ⟨i,(Az all s.fr o.guard).1,s.fr,o.op,(pv tt G s.fr s.hp o.op).1⟩ rs:=by
    intro e he
    unfold Q9
    split
    ·exact List.mem_cons_of_mem _ he
    ·exact he
   refine ⟨hK,⟨?_, ?_, ?_, ?_, ?_⟩⟩
   ·intro k p hk
    cases k with
    |zero=>
     simp at hk;subst hk
     rw [z,z0,Gc]
     exact ⟨h1,fun e=>(by rw [hw] at e;cases e),fun _ e=>(h3 e).1,rfl⟩
    |succ k=>exact F.step k p (by simpa using hk)
   ·intro e he k p hk hwp hgp hu heg
    cases k with
    |zero=>
     simp at hk;subst hk
     rw [hw] at hwp;cases hwp
    |succ k=>exact F.bR e (hold e he) k p (by simpa using hk) hwp hgp (by rw [←sh];exact hu) heg
   ·intro e he k p hk hwp hgp hu
    cases k with
    |zero=>
     simp at hk;subst hk
     rw [z0]
     exact We (h3 hgp).2 e he (by simpa using hu)
    |succ k=>exact F.Ul e he k p (by simpa using hk) hwp hgp (by rw [←sh];exact hu)
   ·intro q k oq ok hqk hq hk hwq hgq hwk hgk hu
    cases k with
    |zero=>omega
    |succ k=>
     cases q with
     |zero=>
      simp at hq;subst hq
      have hm:(⟨i,(Az all s.fr o.guard).1,s.fr,o.op,(pv tt G s.fr s.hp o.op).1⟩:nS)∈Q9 un ⟨i,(Az all s.fr o.guard).1,s.fr,o.op,(pv tt G s.fr s.hp o.op).1⟩ rs:=by
       have hh:TT un i=true:=fN (k:=i+(k+1)) (by simpa using hu)
       simp only [Q9,hh,List.mem_cons,true_or]
      exact F.bR _ hm k ok (by simpa using hk) hwk hgk (by rw [←sh];simpa using hu) hgq
     |succ q=>exact F.late q k oq ok (by omega) (by simpa using hq) (by simpa using hk) hwq hgq hwk hgk (by rw [←sh,←sh];exact hu)
   ·intro q k oq ok hqk hq hk hwq hgq hwk hgk hu
    cases k with
    |zero=>omega
    |succ k=>
     cases q with
     |zero=>
      simp at hq;subst hq
      rw [hw] at hwq;cases hwq
     |succ q=>exact F.early q k oq ok (by omega) (by simpa using hq) (by simpa using hk) hwq hgq hwk hgk (by rw [←sh,←sh];exact hu)
def rS (G:FuncId→Bz)(an:List Nat)(un:List (Nat×Nat))(all:List Oper):Bool:=(List.range all.length).all fun i=>match all[i]? with
 |none=>true
 |some o=>Hv G o.op || CN o.op || (List.range all.length).all fun k=>match all[k]? with
  |none=>true
  |some p=> !Hv G p.op || ND un i k || (match Nat.ble (k+1) i with
   |true=>bit (an.getD i 0) k
   |false=>bit (an.getD k 0) i)
noncomputable def aK (G:FuncId→Bz)(un:List (Nat×Nat))(ops:List Oper):Bool:=match ZW ops [] with
 |none=>false
 |some an=>distinct (Bf ops 0) && N8 ops && Nc an (Bf ops 0) ops ops 0 && qn G an ops && rS G an un ops
theorem dT {G:FuncId→Bz}{an:List Nat}{un:List (Nat×Nat)}{all:List Oper}(h:rS G an un all=true):∀i k oi ok,all[i]? = some oi→all[k]? = some ok→Hv G oi.op=false→CN oi.op=false→Hv G ok.op=true→
  ND un i k=true∨((k < i→bit (an.getD i 0) k=true)∧(¬k < i→bit (an.getD k 0) i=true)):=by
 intro i k oi ok hi hk hwi hfi hwk
 have lt_of:∀(k:Nat) (o:Oper),all[k]? = some o→k < all.length:=fun k o h=>by
  rcases Nat.lt_or_ge k all.length with h2 | h2
  ·exact h2
  ·rw [List.getElem?_eq_none h2] at h;cases h
 unfold rS at h
 rw [List.all_eq_true] at h
 have:=h i (List.mem_range.2 (lt_of i oi hi))
 rw [hi] at this
 simp only [hwi,hfi,Bool.false_or,List.all_eq_true] at this
 have:=this k (List.mem_range.2 (lt_of k ok hk))
 rw [hk] at this
 simp only [hwk,Bool.not_true,Bool.false_or,Bool.or_eq_true] at this
 rcases this with h1 | h1
 ·exact .inl h1
 right
 constructor
 ·intro hlt
  have hb:Nat.ble (k+1) i=true:=Nat.ble_eq_true_of_le hlt
  rw [hb] at h1;exact h1
 ·intro hlt
  have hb:Nat.ble (k+1) i=false:=by
   cases hb:Nat.ble (k+1) i with
   |false=>rfl
   |true=>exact absurd (Nat.le_of_ble_eq_true hb) hlt
  rw [hb] at h1
  exact h1
section
variable {P:Program} {tt:AV} {G:FuncId→Bz} {ops:Array Oper} {an:List Nat} {s0:SS} {sz:Nat}
open Classical in
theorem Ba.ADn (F:Ba P tt G ops an s0 sz)(un:List (Nat×Nat))(hun:rS G an un ops.toList=true)(hX:DXF tt G ops.toList un 0 ops.toList [] [] s0):On P tt G ops an s0 sz:=by
 refine ⟨F, ?_⟩
 intro i o ho hwb hg p hp hcomp
 have hilt:=Ba.lt (ops:=ops) i o ho
 have S:=F.step i o ho
 have hpv:=S.r hwb hg
 have ltk:∀k,AW tt G ops s0 k→k < ops.size:=fun k ⟨ok,h1,_⟩=>Ba.lt (ops:=ops) k ok h1
 have free:CN o.op=true→Ih o.op=false:=fun h=>by
  cases h2:Ih o.op with
  |false=>rfl
  |true=>rw [lk hwb h2] at h;cases h
 -- the read at memory p
 have key:CN o.op=false→(pv tt G (Ai tt G ops s0 i).fr (Ai tt G ops s0 p).hp o.op).2∧(pv tt G (Ai tt G ops s0 i).fr (Ai tt G ops s0 p).hp o.op).1=(pv tt G (Ai tt G ops s0 i).fr (Ai tt G ops s0 i).hp o.op).1:=by
  intro hf
  have un':∀k,AW tt G ops s0 k→((k < i∧¬k < p)∨(¬k < i∧k < p))→ND un i k=true:=by
   intro k hk hc
   obtain ⟨ok,h1,h2,h3⟩:=hk
   obtain ⟨c1,c2⟩:=hcomp k ok h1 ⟨ok,h1,h2,h3⟩
   rcases dT hun i k o ok (by simpa using ho) (by simpa using h1) hwb hf h2 with h4 | ⟨h4,h5⟩
   ·exact h4
   ·rcases hc with ⟨a,b⟩ | ⟨a,b⟩
    ·exact absurd (c1 (h4 a)) b
    ·have:=h5 a;rw [c2 b] at this;cases this
  rcases Nat.le_total i p with hip | hip
  ·by_cases hex:∃k,AW tt G ops s0 k∧i≤k∧k < p
   ·-- the last writer ahead of p
    have:∃k,(AW tt G ops s0 k∧i≤k∧k < p)∧∀k',AW tt G ops s0 k'→i≤k'→k' < p→k'≤k:=by
     have hb:∀n,(∃k,AW tt G ops s0 k∧i≤k∧k < n)→∃k,(AW tt G ops s0 k∧i≤k∧k < n)∧∀k',AW tt G ops s0 k'→i≤k'→k' < n→k'≤k:=by
      intro n
      induction n with
      |zero=>rintro ⟨k,_,_,h⟩;omega
      |succ n ih=>
       intro h
       by_cases hn:AW tt G ops s0 n∧i≤n
       ·exact ⟨n,⟨hn.1,hn.2,by omega⟩,fun k' _ _ h=>by omega⟩
       ·obtain ⟨k,h1,h2,h3⟩:=h
        have hkn:k≠n:=fun e=>hn (e ▸ ⟨h1,h2⟩)
        obtain ⟨m,⟨m1,m2,m3⟩,m4⟩:=ih ⟨k,h1,h2,by omega⟩
        refine ⟨m,⟨m1,m2,by omega⟩,fun k' h1 h2 h3=> ?_⟩
        have:k'≠n:=fun e=>hn (e ▸ ⟨h1,h2⟩)
        exact m4 k' h1 h2 (by omega)
     exact hb p hex
    obtain ⟨k,⟨k1,k2,k3⟩,k4⟩:=this
    have hgp:=F.VG hp (show k+1≤ops.size from ltk k k1) (fun k' hk'=>by
     constructor
     ·intro h
      rcases Nat.lt_or_ge k' i with h5 | h5
      ·omega
      ·have:=k4 k' hk' h5 h;omega
     ·intro h;omega)
    rw [hgp.1]
    obtain ⟨ok,h1,h2,h3⟩:=k1
    have hne:i≠k:=fun e=>by subst e;rw [ho] at h1;cases h1;rw [hwb] at h2;cases h2
    exact hX.late i k o ok (by omega) (by simpa using ho) (by simpa using h1) hwb hg h2 h3 (by simpa using un' k ⟨ok,h1,h2,h3⟩ (.inr ⟨by omega,k3⟩))
   ·have hgp:=F.VG hp (Nat.le_of_lt hilt) (fun k' hk'=>by
     constructor
     ·intro h
      rcases Nat.lt_or_ge k' i with h5 | h5
      ·exact h5
      ·exact absurd ⟨k',hk',h5,h⟩ hex
     ·intro h;omega)
    rw [hgp.1];exact ⟨hpv,rfl⟩
  ·by_cases hex:∃k,AW tt G ops s0 k∧p≤k∧k < i
   ·have:∃k,(AW tt G ops s0 k∧p≤k∧k < i)∧∀k',AW tt G ops s0 k'→p≤k'→k' < i→k≤k':=by
     have hb:∀d n,n+d=i→(∃k,AW tt G ops s0 k∧n≤k∧k < i)→∃k,(AW tt G ops s0 k∧n≤k∧k < i)∧∀k',AW tt G ops s0 k'→n≤k'→k' < i→k≤k':=by
      intro d
      induction d with
      |zero=>rintro n hn ⟨k,_,h1,h2⟩;omega
      |succ d ih=>
       intro n hn h
       by_cases hc:AW tt G ops s0 n
       ·exact ⟨n,⟨hc,by omega,by omega⟩,fun k' _ h _=>h⟩
       ·obtain ⟨k,h1,h2,h3⟩:=h
        have hkn:k≠n:=fun e=>hc (e ▸ h1)
        obtain ⟨m,⟨m1,m2,m3⟩,m4⟩:=ih (n+1) (by omega) ⟨k,h1,by omega,h3⟩
        refine ⟨m,⟨m1,by omega,m3⟩,fun k' h1 h2 h3=> ?_⟩
        have:k'≠n:=fun e=>hc (e ▸ h1)
        exact m4 k' h1 (by omega) h3
     exact hb (i - p) p (by omega) hex
    obtain ⟨k,⟨k1,k2,k3⟩,k4⟩:=this
    have hgp:=F.VG hp (Nat.le_of_lt (ltk k k1)) (fun k' hk'=>by
     constructor
     ·intro h;omega
     ·intro h
      rcases Nat.lt_or_ge k' p with h5 | h5
      ·exact h5
      ·have:=k4 k' hk' h5 (by omega);omega)
    rw [hgp.1]
    obtain ⟨ok,h1,h2,h3⟩:=k1
    exact hX.early k i ok o k3 (by simpa using h1) (by simpa using ho) h2 h3 hwb hg (by simpa using un' k ⟨ok,h1,h2,h3⟩ (.inl ⟨k3,by omega⟩))
   ·have hgp:=F.VG hp (Nat.le_of_lt hilt) (fun k' hk'=>by
     constructor
     ·intro h;omega
     ·intro h
      rcases Nat.lt_or_ge k' p with h5 | h5
      ·exact h5
      ·exact absurd ⟨k',hk',h5,h⟩ hex)
    rw [hgp.1];exact ⟨hpv,rfl⟩
 constructor
 ·intro hiw
  cases hf:CN o.op with
  |true=>rw [free hf] at hiw;cases hiw
  |false=>exact key hf
 ·intro hiw
  cases hf:CN o.op with
  |true=>rw [Ok (hp':=(Ai tt G ops s0 i).hp) hf];exact OT (P:=P) hiw hpv (fun _ _ e=>e)
  |false=>
   obtain ⟨k1,k2⟩:=key hf
   rw [←k2]
   exact OT (P:=P) hiw k1 (fun _ _ e=>e)
end
theorem CW.Ia {P:Program}{tt:AV}{G:FuncId→Bz}(E:DU P tt G){sz base:Nat}{s:SS}{Q:Exit→SS→Prop}(id:Nat){ops:Array Oper}(BU:List Nat)(un:List (Nat×Nat))(hdst:LW sz ops=true)(hdr:aK G un ops.toList=true)
  (h:Mq tt G ops.toList un 0 ops.toList [] [] (Wi BU Q) s):CW P sz base (.region id ops true) s Q:=by
 unfold aK at hdr
 split at hdr
 ·cases hdr
 ·rename_i an han
  simp only [Bool.and_eq_true] at hdr
  obtain ⟨⟨⟨⟨hdis,hmo⟩,hsafe⟩,hww⟩,hrw⟩:=hdr
  obtain ⟨hQ,hX⟩:=YS _ _ _ _ _ h
  have hfacts:=hX.step
  have hmem:∀(k:Nat) (o:Oper) (d:Nat),ops[k]? = some o→o.dst=some d→(d,k)∈Bf ops.toList 0:=by
   intro k o d ho hd
   have:=L3 ops.toList 0 k d o (by simpa using ho) hd
   simpa using this
  intro φ0 φ own ds w0 a w hb hle S
  have FB:Ba P tt G ops an s sz:=by
   refine ⟨E,IQ hdst,WE han,hmem, ?_, ?_,fun k o ho=>hfacts k o (by simpa using ho),fun j k oj ok hj hk h1 h2 h3=>(TH hww j k oj ok (by simpa using hj) (by simpa using hk) h1 h2 h3).imp (fun h=>h) (fun h=>⟨h.1,fun i oi hi=>h.2 i oi (by simpa using hi)⟩),fun i o hi=>S.hr.lt S.top hi⟩
   ·intro d k k' h1 h2
    exact Ja _ hdis d k k' h1 h2 fun p hp q hq hpq=>MC ops.toList 0 p q hp hq hpq
   ·intro k o ho
    have:=N1 an _ _ _ 0 hsafe k o (by simpa using ho)
    rw [Nat.zero_add] at this
    exact ⟨this.1,fun j want p d hg hp hd=>this.2 j want p d hg (by simpa using hp) hd⟩
  have F:On P tt G ops an s sz:=FB.ADn un hrw hX
  have hn:ops.toList.length=ops.size:=by simp
  rw [hn] at hQ
  have all:∀md,Ho md ops→wpAny P md ops (fun x a' w'=>x≠ .outgrown∧∃φ' s',φ0.le φ'∧Iz φ' own sz ds w0 s' a' w'∧Q x s') ops.size (Array.replicate ops.size false) a {w with drawn:=w.drawn+1}:=by
   intro md hrk
   have hf:∀k,¬((Array.replicate ops.size false).getD k false=true):=by
    intro k hk
    simp [Array.getD_eq_getD_getElem?,Array.getElem?_replicate] at hk
    split at hk <;> simp at hk
   refine F.main (φ0:=φ) (own:=own) (ds:=ds) (w0:=w0) hrk ?_ ops.size _ φ 0 a _ (by simp) (M1 _) (Ren.le_refl _) ?_ ?_
   ·intro φ' a' w' hle' S'
    exact ⟨nofun,φ',⟨IX (Ai tt G ops s ops.size).fr BU,(Ai tt G ops s ops.size).hp,(Ai tt G ops s ops.size).top⟩,Ren.le_trans hle hle',S'.sub (Sub.BU (Ai tt G ops s ops.size) BU),hQ⟩
   ·intro k o _ hk;exact absurd hk (hf k)
   ·exact Ls.start hf S
  have anyR:Ho .any ops:=⟨fun k=>k,fun k o hk e he hb=>by
   have h1:=F.fT.lt k o (by simpa using hk) e he hb
   have h2:k < ops.size:=by
    rcases Nat.lt_or_ge k ops.size with h | h
    ·exact h
    ·rw [Array.getElem?_eq_none h] at hk;cases hk
   exact ⟨by omega,h1⟩⟩
  refine DR.P8 (LZ hdst) (fun ⟨_,_,h,_⟩=>h rfl) fun t=> ?_
  unfold Region.schedule
  split
  ·exact wpAny_sound ops.size t _ a _ (all .any anyR)
  ·rename_i hnd
   have hd:Region.departs ops=true:=by
    cases hdp:Region.departs ops with
    |true=>rfl
    |false=>rw [hdp] at hnd;simp at hnd
   obtain ⟨r1,r2⟩:=K6 hmo hd
   split
   ·exact wpAny_sound ops.size _ _ a _ (all .text r1)
   ·exact wpAny_sound ops.size _ _ a _ (all .gc r2)
section
variable {tt:AV} {G:FuncId→Bz} {all os:List Oper} {un:List (Nat×Nat)} {o:Oper} {i:Nat} {rs:List nS} {vs:List (Nat×Hp)} {K:SS→Prop} {s:SS}
theorem cx:Mq tt G all un i [] rs vs K s=K s:=rfl
theorem Ys:Mq tt G all un i (o :: os) rs vs K s=((Az all s.fr o.guard).2∧(match Hv G o.op with
  |true=>(if (Az all s.fr o.guard).1=true then (DT tt G s.fr s.hp s.top o.op).ob∧NH tt G un i (s.hp.A6 (DT tt G s.fr s.hp s.top o.op).us) rs∧
     Mq tt G all un (i+1) os rs ((i,s.hp) :: vs) K ⟨B4 s.fr o.dst (DT tt G s.fr s.hp s.top o.op).v true,s.hp.A6 (DT tt G s.fr s.hp s.top o.op).us,(DT tt G s.fr s.hp s.top o.op).top⟩
    else Mq tt G all un (i+1) os rs vs K ⟨B4 s.fr o.dst undef false,s.hp,s.top⟩)
  |false=>((Az all s.fr o.guard).1=true→(pv tt G s.fr s.hp o.op).2∧Kc tt G un i s.fr o.op (pv tt G s.fr s.hp o.op).1 vs)∧
    Mq tt G all un (i+1) os (Q9 un ⟨i,(Az all s.fr o.guard).1,s.fr,o.op,(pv tt G s.fr s.hp o.op).1⟩ rs) vs K ⟨B4 s.fr o.dst (pv tt G s.fr s.hp o.op).1 (Az all s.fr o.guard).1,s.hp,s.top⟩)):=rfl
end
end Go.Dm
namespace Go.Dm
theorem HR.stay {φ:Ren}{own:Nat→Prop}{hp:Hp}{w w':World}(H:HR φ own hp w)(hk:K (fun b=>w.heap.size≤b) w w'):HR φ own hp w':=by
 have same:∀b,b < w.heap.size→w'.heap[b]? = w.heap[b]? :=fun b hb=>hk.same b hb (by omega)
 refine ⟨?_,H.sep,H.Ev,fun i L e=>Nat.lt_of_lt_of_le (H.val i L e) hk.size,fun b hb=>H.fresh b (Nat.le_trans hk.size hb)⟩
 intro i o e
 obtain ⟨L,h1,h2⟩:=H.obj i o e
 exact ⟨L,h1,by rw [same _ (H.val i L h1)];exact h2⟩
theorem K.UP {own:Nat→Prop}{w w':World}(hf:∀b,w.heap.size≤b→own b)(hk:K (fun b=>w.heap.size≤b) w w'):K own w w':=
 ⟨hk.size,fun b hb _=>hk.same b hb (by omega),hk.os,hk.tape,hk.output⟩
end Go.Dm
