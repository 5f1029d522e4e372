/- The abstract machine, a part of it: operations, regions, code and calls run over values with named blocks; each step is shown of the real run. -/
import Derived.Test.YthlhnangbinhoaaGreatDoorDmE
set_option linter.unusedVariables false
namespace Go.Dm
mutual
def Ao (ρ:Nat→Nat):Value→Value
 | .pointer (some ⟨b,o,s⟩)=> .pointer (some ⟨ρ b,o,s⟩)
 | .slice (some ⟨b,o,none⟩) n c=> .slice (some ⟨ρ b,o,none⟩) n c
 | .map (some b)=> .map (some (ρ b))
 | .agg ⟨l⟩=> .agg ⟨Cg ρ l⟩
 | .tuple ⟨l⟩=> .tuple ⟨Cg ρ l⟩
 | .iface t v=> .iface t (Ao ρ v)
 | .func f ⟨a⟩ ⟨b⟩=> .func f ⟨Cg ρ a⟩ ⟨Cg ρ b⟩
 |v=>v
def Cg(ρ:Nat→Nat):List Value→List Value
 | []=> []
 |v :: l=>Ao ρ v :: Cg ρ l
end
def RP(ρ:Nat→Nat)(e:MapEntry):MapEntry:= {e with key:=Ao ρ e.key,val:=Ao ρ e.val}
def HE (ρ:Nat→Nat):A8→A8
 | .cells rw CA vs=> .cells rw CA (Cg ρ vs)
 | .map es CG=> .map (es.map (RP ρ)) CG
 | .iter s p=> .iter s p
 | .miter m since seen c=> .miter (ρ m) since seen c
 | .raw b vs=> .raw b vs
theorem EM (ρ:Nat→Nat):∀l,Cg ρ l=l.map (Ao ρ)
 | []=>rfl
 |v :: l=>by rw [Cg,EM ρ l];rfl
theorem KX (ρ:Nat→Nat)(l m:List Value):Cg ρ (l ++ m)=Cg ρ l ++ Cg ρ m:=by simp only [EM,List.map_append]
theorem XE (ρ:Nat→Nat)(l:List Value):(Cg ρ l).length=l.length:=by simp only [EM,List.length_map]
def Ren.via (φ:Ren)(ρ:Nat→Nat):Ren:=fun j=>φ (ρ j)
mutual
theorem V.ER {φ:Ren}{ρ:Nat→Nat}:∀ {v x:Value},V φ (Ao ρ v) x→V (φ.via ρ) v x:=by
 intro v x h
 match v with
 | .bool b=>cases h;exact .bool b
 | .int k n=>cases h;exact .int k n
 | .float k n=>cases h
 | .complex k a b=>cases h
 | .string s=>cases h;exact .str s
 | .pointer none=>cases h;exact .nilp
 | .pointer (some ⟨b,o,s⟩)=>
  simp only [Ao] at h
  cases h with
  |ptr _ _ L hL=>exact .ptr _ _ L hL
 | .slice none n c=>cases h;exact .nils
 | .slice (some ⟨b,o,none⟩) n c=>
  simp only [Ao] at h
  generalize hb:ρ b=b' at h
  cases h with
  |slice _ _ _ _ c' L hL hn hc hl=>exact .slice _ _ _ _ c' L (by rw [←hb] at hL;exact hL) hn hc hl
 | .slice (some ⟨b,o,some s⟩) n c=>
  have e:Ao ρ (.slice (some ⟨b,o,some s⟩) n c)= .slice (some ⟨b,o,some s⟩) n c:=by unfold Ao;rfl
  rw [e] at h
  cases h
  exact .emp _ _
 | .map none=>cases h;exact .nilm
 | .map (some b)=>
  simp only [Ao] at h
  cases h with
  |map _ L hL=>exact .map _ L hL
 | .chan r=>cases h
 | .func f ⟨a⟩ ⟨b⟩=>
  simp only [Ao] at h
  cases h with
  |func _ _ a' _ b' ha hb=>exact .func _ _ _ _ _ (Vs.ER ha) (Vs.ER hb)
 | .nilFunc=>cases h;exact .nilf
 | .iface t v=>
  simp only [Ao] at h
  cases h with
  |iface _ _ v' hv=>exact .iface _ _ _ (V.ER hv)
 | .nilIface=>cases h;exact .nili
 | .agg ⟨l⟩=>
  simp only [Ao] at h
  cases h with
  |agg _ l' hl=>exact .agg _ _ (Vs.ER hl)
 | .tuple ⟨l⟩=>
  simp only [Ao] at h
  cases h with
  |tuple _ l' hl=>exact .tuple _ _ (Vs.ER hl)
theorem Vs.ER {φ:Ren}{ρ:Nat→Nat}:∀ {l m:List Value},Vs φ (Cg ρ l) m→Vs (φ.via ρ) l m:=by
 intro l m h
 match l with
 | []=>cases h;exact .nil
 |v :: l=>
  simp only [Cg] at h
  cases h with
  |cons _ x _ m hx hm=>exact .cons _ _ _ _ (V.ER hx) (Vs.ER hm)
end
theorem Es.ER {φ:Ren}{ρ:Nat→Nat}:∀ {l m:List MapEntry},Es φ (l.map (RP ρ)) m→Es (φ.via ρ) l m:=by
 intro l
 induction l with
 |nil=>intro m h;cases h;exact .nil
 |cons e l ih=>
  intro m h
  simp only [List.map_cons] at h
  cases h with
  |cons _ x _ m hx hm=>exact .cons _ _ _ _ ⟨V.ER hx.key,V.ER hx.val,hx.born⟩ (ih hm)
theorem EA.ER {φ:Ren}{ρ:Nat→Nat}{L:Loc}{o:A8}{x:Option Obj}(h:EA φ L (HE ρ o) x):EA (φ.via ρ) L o x:=by
 cases o with
 |cells rw CA vs=>
  obtain ⟨he,c,t,fz,h1,h2,h3,h4,h5⟩:=h
  rw [XE] at h3 h4
  exact ⟨he,c,t,fz,h1,h2,h3,Vs.ER h4,h5⟩
 |map es CG=>obtain ⟨es',h1,h2⟩:=h;exact ⟨es',h1,Es.ER h2⟩
 |iter s pos=>exact h
 |miter m since seen c=>exact h
 |raw b vs=>exact h
theorem bn (ρ:Nat→Nat)(o:A8):(HE ρ o).rw=o.rw:=by cases o <;> rfl
structure Al (ρ:Nat→Nat) (base:Nat) (s' s:SS):Prop where
 low:∀j,j < base→ρ j=j
 high:∀j,s'.top≤j→s.top≤ρ j
 inj:∀i j,i < s'.top→j < s'.top→ρ i=ρ j→i=j
 fr:∀t v,N6 s'.fr t=some v→N6 s.fr t=some (Ao ρ v)
 hp:∀i o,s'.hp i=some o→s.hp (ρ i)=some (HE ρ o)
theorem HR.ER {φ:Ren}{own:Nat→Prop}{w:World}{hp hp':Hp}{top top':Nat}{ρ:Nat→Nat}(H:HR φ own hp w)(htop:∀j,top≤j→φ j=none)
  (high:∀j,top'≤j→top≤ρ j) (inj:∀i j,i < top'→j < top'→ρ i=ρ j→i=j) (hh:∀i o,hp' i=some o→hp (ρ i)=some (HE ρ o)):HR (φ.via ρ) own hp' w:=by
 have dom:∀i o,hp' i=some o→i < top':=by
  intro i o e
  rcases Nat.lt_or_ge i top' with h | h
  ·exact h
  ·obtain ⟨L,h1,_⟩:=H.obj _ _ (hh i o e)
   rw [htop _ (high i h)] at h1;cases h1
 refine ⟨?_, ?_, ?_, ?_,H.fresh⟩
 ·intro i o e
  obtain ⟨L,h1,h2⟩:=H.obj _ _ (hh i o e)
  exact ⟨L,h1,EA.ER h2⟩
 ·intro i j oi oj Li Lj hi hj hne hrw hLi hLj
  exact H.sep (ρ i) (ρ j) _ _ Li Lj (hh _ _ hi) (hh _ _ hj) (fun e=>hne (inj i j (dom _ _ hi) (dom _ _ hj) e)) (by rw [bn];exact hrw) hLi hLj
 ·intro i o L e hrw hL
  exact H.D0 _ _ L (hh _ _ e) (by rw [bn];exact hrw) hL
 ·intro i L hL
  exact H.val (ρ i) L hL
theorem HI.lM {φ:Ren}{own:Nat→Prop}{sz:Nat}{ds:List Deferred}{w0:World}{s s':SS}{a:Act}{w:World}{ρ:Nat→Nat}{base:Nat}(S:HI φ own sz ds w0 s a w)(h:Al ρ base s' s):HI (φ.via ρ) own sz ds w0 s' a w:=
 ⟨⟨fun t v e=>V.ER (S.fr.val t _ (h.fr t v e)),S.fr.size⟩,S.hr.ER S.top h.high h.inj h.hp,fun j hj=>S.top _ (h.high j hj),S.k,S.ds⟩
theorem Al.le {φ0 φ:Ren}{ρ:Nat→Nat}{base:Nat}{s s':SS}(h:Al ρ base s' s)(hb:∀j,base≤j→φ0 j=none)(hle:φ0.le φ):φ0.le (φ.via ρ):=by
 intro i L e
 have hi:i < base:=by
  rcases Nat.lt_or_ge i base with h | h
  ·exact h
  ·rw [hb i h] at e;cases e
 unfold Ren.via
 rw [h.low i hi];exact hle _ _ e
theorem CW.ca {P:Program}{sz base:Nat}{c:Code}{s s':SS}{Q:Exit→SS→Prop}{ρ:Nat→Nat}(hs:Al ρ base s' s)(h:CW P sz base c s' Q):CW P sz base c s Q:=by
 intro φ0 φ own ds w0 a w hb hle S
 exact h φ0 _ own ds w0 a w hb (hs.le hb hle) (S.lM hs)
def Round {α:Type}(base:Nat)(S:α→SS)(I:α→Prop)(μ:α→Nat)(x:α)(s':SS):Prop:= ∃y,I y∧μ y < μ x∧∃ρ,Al ρ base (S y) s'
theorem Round.mk {α:Type}{base:Nat}{S:α→SS}{I:α→Prop}{μ:α→Nat}{x:α}{s':SS}(y:α)(hI:I y)(hμ:μ y < μ x)(hS:∃ρ,Al ρ base (S y) s'):Round base S I μ x s':=⟨y,hI,hμ,hS⟩
theorem CW.Bc {P:Program}{sz base:Nat}{c:Code}{s:SS}{Q:Exit→SS→Prop}{α:Type}(S:α→SS)(I:α→Prop)(μ:α→Nat)(x0:α)(h0:I x0)(hs:∃ρ,Al ρ base (S x0) s)
  (h:∀x,I x→CW P sz base c (S x) (PQ (Round base S I μ x) Q)):CW P sz base (.loop c) s Q:=by
 intro φ0 φ own ds w0 a w hb hle S0
 have key:∀(m:Nat) (x:α) (φ:Ren) (a:Act) (w:World),I x→μ x≤m→φ0.le φ→HI φ own sz ds w0 (S x) a w→
   Ix P c (fun x a' w'=>x≠ .outgrown∧∃φ' s',φ0.le φ'∧HI φ' own sz ds w0 s' a' w'∧Q x s') (m+1) a w:=by
  intro m
  induction m with
  |zero=>
   intro x φ a w hI hm hle S1
   rw [Mn]
   refine Cr.mono (h x hI φ0 φ own ds w0 a w hb hle S1) ?_
   rintro e a' w' ⟨hx,φ',s',h1,h2,h3⟩
   cases e with
   |normal=>obtain ⟨y,_,hlt,_⟩:=h3;omega
   |_=>exact ⟨hx,φ',s',h1,h2,h3⟩
  |succ m ih=>
   intro x φ a w hI hm hle S1
   rw [Mn]
   refine Cr.mono (h x hI φ0 φ own ds w0 a w hb hle S1) ?_
   rintro e a' w' ⟨hx,φ',s',h1,h2,h3⟩
   cases e with
   |normal=>
    obtain ⟨y,hy,hlt,ρ,hsub⟩:=h3
    exact ih y _ a' w' hy (by omega) (hsub.le hb h1) (h2.lM hsub)
   |_=>exact ⟨hx,φ',s',h1,h2,h3⟩
 obtain ⟨ρ,hs⟩:=hs
 exact Cr.W2 (μ x0+1) (key (μ x0) x0 _ a w h0 (Nat.le_refl _) (hs.le hb hle) (S0.lM hs))
def kQ (tt:AM)(rs:List ResultVar)(post:Value→Hp→Nat→Prop):Exit→SS→Prop
 | .normal,s=>Dn tt s.fr s.hp rs∧post (Kf (Ia tt s.fr s.hp rs)) s.hp s.top
 | .ret,s=>Dn tt s.fr s.hp rs∧post (Kf (Ia tt s.fr s.hp rs)) s.hp s.top
 |_,_=>False
theorem AJ.Af {P:Program}{tt:AM}(htt:Cy P tt){f:FuncId}{fn:Func}(F:BU P f fn){c:Code}(hc:fn.body=some c)(n:Nat)(hn:fn.ntmps=n)(rs:List ResultVar)(hrs:fn.results.toList=rs)
  {args:List Value} {hp:Hp} {top:Nat} {post:Value→Hp→Nat→Prop} (hle:args.length≤n)
  (h:CW P n top c ⟨IY args 0,hp,top⟩ (kQ tt rs post)):AJ P f args hp top post:=by
 refine AJ.pW htt F hc n hn rs hrs hle (h.mono ?_)
 intro x s h
 cases x with
 |normal=>exact ⟨.inl rfl,h⟩
 |ret=>exact ⟨.inr rfl,h⟩
 |_=>exact h.elim
def qB (tt:AM)(rs:List ResultVar)(post bad:Value→Hp→Nat→Prop):Exit→SS→Prop
 | .normal,s=>Dn tt s.fr s.hp rs∧post (Kf (Ia tt s.fr s.hp rs)) s.hp s.top
 | .ret,s=>Dn tt s.fr s.hp rs∧post (Kf (Ia tt s.fr s.hp rs)) s.hp s.top
 | .panic c,s=> ∃v,c=pn v∧bad v s.hp s.top
 |_,_=>False
theorem wS {tt:AM}{rs:List ResultVar}{post bad:Value→Hp→Nat→Prop}{s:SS}:qB tt rs post bad .normal s=(Dn tt s.fr s.hp rs∧post (Kf (Ia tt s.fr s.hp rs)) s.hp s.top):=rfl
theorem wU {tt:AM}{rs:List ResultVar}{post bad:Value→Hp→Nat→Prop}{s:SS}:qB tt rs post bad .ret s=(Dn tt s.fr s.hp rs∧post (Kf (Ia tt s.fr s.hp rs)) s.hp s.top):=rfl
theorem wT {tt:AM}{rs:List ResultVar}{post bad:Value→Hp→Nat→Prop}{s:SS}{v:Value}:qB tt rs post bad (.panic (pn v)) s=bad v s.hp s.top:=
 propext ⟨fun ⟨v,e,h⟩=>by simp only [pn,List.cons.injEq,PanicEntry.mk.injEq] at e;rw [e.1.1];exact h,fun h=>⟨v,rfl,h⟩⟩
theorem D4.Af {P:Program}{tt:AM}(htt:Cy P tt){f:FuncId}{fn:Func}(F:BU P f fn){c:Code}(hc:fn.body=some c)(n:Nat)(hn:fn.ntmps=n)(rs:List ResultVar)(hrs:fn.results.toList=rs)
  {args:List Value} {hp:Hp} {top:Nat} {post bad:Value→Hp→Nat→Prop} (hle:args.length≤n)
  (h:CW P n top c ⟨IY args 0,hp,top⟩ (qB tt rs post bad)):D4 P f args hp top post bad:=by
 subst hn hrs
 intro φ own w args' hargs H htop
 refine calls_of_wp F.at_ hc ?_
 have S:=HI.args (fn:=fn) hargs hle H htop
 refine wp_mono (h φ φ own [] w _ w htop (Ren.le_refl _) S).wp ?_
 rintro x a' w' ⟨_,φ',s',hle',S',hx⟩
 have fin:Dn tt s'.fr s'.hp fn.results.toList∧post (Kf (Ia tt s'.fr s'.hp fn.results.toList)) s'.hp s'.top→a'.defers= []∧∃v,(results fn a'.tmps).run P w' = .ok v w'∧((∃v1 hp' top' v' φ',Ending.returned v= .returned v'∧post v1 hp' top'∧E8 φ own w v1 hp' top' v' w' φ')∨
   ∃v1 hp' top' φ',Ending.returned v= .panicked (pn v1)∧bad v1 hp' top'∧E8 φ own w undef hp' top' undef w' φ'):=by
  rintro ⟨hok,hpost⟩
  obtain ⟨v',e1,e2⟩:=Kd htt S' hok
  exact ⟨S'.ds,v',e1, .inl ⟨_,_,_,v',φ',rfl,hpost,⟨hle',e2,S'.hr,S'.k,S'.top⟩⟩⟩
 cases x with
 |normal=>exact fin hx
 |ret=>exact fin hx
 |panic c=>
  obtain ⟨v,rfl,hb⟩:=hx
  exact ⟨S'.ds, .inr ⟨v,_,_,φ',rfl,hb,⟨hle', .tuple _ _ .nil,S'.hr,S'.k,S'.top⟩⟩⟩
 |_=>exact hx.elim
section
variable{P:Program}{tt:AM}{G:FuncId→BE}{sz base:Nat}{Ax:List Nat}{Q:Exit→SS→Prop}{K:SS→Prop}{s:SS}{a b:Code}{id j:Nat}{ops:Array Oper}{all os:List Oper}{o:Oper}{x:Operand}
theorem rI:vc P tt G sz base Ax .skip Q s=Q .normal s:=rfl
theorem xO:vc P tt G sz base Ax (.region id ops false) Q s=Xz tt G ops.toList ops.toList (XD Ax Q) (gV Q) s:=rfl
theorem rE:vc P tt G sz base Ax (.region id ops true) Q s=(if O9 Ax id=true then CW P sz base (.region id ops true) s Q else N2 tt G ops.toList ops.toList (XD Ax Q) s):=by
 show (match O9 Ax id with | true=>_ | false=>_)=_
 cases O9 Ax id <;> simp
theorem Qz{g:Bool}{A B:Prop}:((g=true→A)∧(g=false→B))=(if g=true then A else B):=by
 cases g <;> simp
structure JV(v:Bool)(K1 K2:SS→Prop)(s:SS):Prop where
 h1:v=true→K1 s
 h2:v=false→K2 s
theorem np {K1 K2:SS→Prop}:JV true K1 K2 s=K1 s:=propext ⟨fun h=>h.h1 rfl,fun h=>⟨fun _=>h,fun e=>by cases e⟩⟩
theorem nn {K1 K2:SS→Prop}:JV false K1 K2 s=K2 s:=propext ⟨fun h=>h.h2 rfl,fun h=>⟨fun e=>(by cases e),fun _=>h⟩⟩
structure Vc(P:Program)(tt:AM)(G:FuncId→BE)(sz base:Nat)(Ax:List Nat)(c:Code)(Q:Exit→SS→Prop)(s:SS):Prop where
 h:vc P tt G sz base Ax c Q s
theorem Vc.mk'(h:vc P tt G sz base Ax a Q s):Vc P tt G sz base Ax a Q s:=⟨h⟩
theorem rH:vc P tt G sz base Ax (.seq a b) Q s=vc P tt G sz base Ax a (PQ (Vc P tt G sz base Ax b Q) Q) s:=by
 have:vc P tt G sz base Ax b Q=Vc P tt G sz base Ax b Q:=funext fun s=>propext ⟨fun h=>⟨h⟩,fun h=>h.h⟩
 rw [←this];rfl
theorem rD:vc P tt G sz base Ax (.cond x a b) Q s=(av s.fr x∧ck (CU s.fr x).1∧JV (Bs (CU s.fr x).1) (vc P tt G sz base Ax a Q) (vc P tt G sz base Ax b Q) s):=
 propext ⟨fun ⟨h1,h2,h3,h4⟩=>⟨h1,h2,⟨h3,h4⟩⟩,fun ⟨h1,h2,h3⟩=>⟨h1,h2,h3.h1,h3.h2⟩⟩
theorem mL:vc P tt G sz base Ax (.block id b) Q s=vc P tt G sz base Ax b (Jn id Q) s:=rfl
theorem rG:vc P tt G sz base Ax (.loop b) Q s=CW P sz base (.loop b) s Q:=rfl
theorem rF:vc P tt G sz base Ax (.exit id) Q s=Q (.exit id) s:=rfl
theorem xP:vc P tt G sz base Ax .ret Q s=Q .ret s:=rfl
theorem mM:vc P tt G sz base Ax (.label id) Q s=Q .normal s:=rfl
theorem mT {KP:Value→SS→Prop}:Xz tt G all [] K KP s=K s:=rfl
theorem fb {KP:Value→SS→Prop}:Xz tt G all (o :: os) K KP s=((Ak all s.fr o.guard).2∧X2 tt G (Ak all s.fr o.guard).1 o s (Xz tt G all os K KP) KP):=rfl
theorem qv {c:List PanicEntry}:PQ K Q (.panic c) s=Q (.panic c) s:=rfl
theorem gY {c:List PanicEntry}:Jn id Q (.panic c) s=Q (.panic c) s:=rfl
theorem nU {v:Value}:gV Q v s=Q (.panic (pn v)) s:=rfl
theorem iA:N2 tt G all [] K s=K s:=rfl
theorem dP:N2 tt G all (o :: os) K s=((Ak all s.fr o.guard).2∧(match GQ G o.op with
  |true=>(if (Ak all s.fr o.guard).1=true then (C0 tt G s.fr s.hp s.top o.op).ob∧
     N2 tt G all os K ⟨Bi s.fr o.dst (C0 tt G s.fr s.hp s.top o.op).v true,s.hp.Ac (C0 tt G s.fr s.hp s.top o.op).us,(C0 tt G s.fr s.hp s.top o.op).top⟩
    else N2 tt G all os K ⟨Bi s.fr o.dst undef false,s.hp,s.top⟩)
  |false=>((Ak all s.fr o.guard).1=true→(pv tt G s.fr s.hp o.op).2)∧N2 tt G all os K ⟨Bi s.fr o.dst (pv tt G s.fr s.hp o.op).1 (Ak all s.fr o.guard).1,s.hp,s.top⟩)):=by
 rw [←Qz];rfl
theorem qu:PQ K Q .normal s=K s:=rfl
theorem qw:PQ K Q .ret s=Q .ret s:=rfl
theorem qt:PQ K Q (.exit j) s=Q (.exit j) s:=rfl
theorem gX:Jn id Q .normal s=Q .normal s:=rfl
theorem gZ:Jn id Q .ret s=Q .ret s:=rfl
theorem gW:Jn id Q (.exit j) s=(if j=id then Q .normal s else Q (.exit j) s):=rfl
theorem p9:XD Ax Q s=Q .normal ⟨G8 s.fr Ax,s.hp,s.top⟩:=rfl
theorem wM {rs:List ResultVar}{post:Value→Hp→Nat→Prop}:kQ tt rs post .normal s=(Dn tt s.fr s.hp rs∧post (Kf (Ia tt s.fr s.hp rs)) s.hp s.top):=rfl
theorem wQ {rs:List ResultVar}{post:Value→Hp→Nat→Prop}:kQ tt rs post .ret s=(Dn tt s.fr s.hp rs∧post (Kf (Ia tt s.fr s.hp rs)) s.hp s.top):=rfl
theorem mO {g:Bool}:Tv tt G g o s K=(match o.op with
  | .call {callee:= .value f,args, ..}=>Ri G s.fr s.hp s.top g f args.toList o.dst K
  | .range t x=>if g=true then av s.fr x∧Us tt t=true∧(Lq s.hp (CU s.fr x).1).isSome=true∧K ⟨Bi s.fr o.dst (.pointer (some ⟨s.top,0,none⟩)) true,s.hp.Ac [(s.top,qC (Lq s.hp (CU s.fr x).1))],s.top+1⟩
    else K ⟨Bi s.fr o.dst undef false,s.hp,s.top⟩
  | .next it str=>if g=true then av s.fr it∧str=false∧sH K s.fr s.hp s.top o.dst (CU s.fr it).1 else K ⟨Bi s.fr o.dst undef false,s.hp,s.top⟩
  | .entry it=>if g=true then av s.fr it∧(Oq s.hp (CU s.fr it).1).isSome=true∧K ⟨Bi s.fr o.dst (nx (Oq s.hp (CU s.fr it).1)) true,s.hp,s.top⟩ else K ⟨Bi s.fr o.dst undef false,s.hp,s.top⟩
  |op=>match IM op with
   |true=>if g=true then (EP tt s.fr s.hp s.top op).ob∧K ⟨Bi s.fr o.dst (EP tt s.fr s.hp s.top op).v true,s.hp.Ac (EP tt s.fr s.hp s.top op).us,(EP tt s.fr s.hp s.top op).top⟩
     else K ⟨Bi s.fr o.dst undef false,s.hp,s.top⟩
   |false=>(g=true→(Lu tt s.fr s.hp op).2)∧K ⟨Bi s.fr o.dst (Lu tt s.fr s.hp op).1 g,s.hp,s.top⟩):=by
 simp only [←Qz]
 rfl
theorem mX {g:Bool}{KP:Value→SS→Prop}:X2 tt G g o s K KP=(match o.op with
  | .call {callee:= .value f,args, ..}=>cd G s.fr s.hp s.top g f args.toList o.dst K KP
  | .panic x=>if g=true then av s.fr x∧wE (CU s.fr x).1=true∧KP (CU s.fr x).1 s else K ⟨Bi s.fr o.dst undef false,s.hp,s.top⟩
  |_=>Tv tt G g o s K):=by
 simp only [←Qz]
 rfl
theorem mW {fr:Cx}{hp:Hp}{top:Nat}{g:Bool}{f:Operand}{args:List Operand}{dst:Option Nat}{KP:Value→SS→Prop}:cd G fr hp top g f args dst K KP=(match G (BL fr f).1 with
  | .pan pre res=>if g=true then (BL fr f).2.1=true∧Sj fr args∧pre ((BL fr f).2.2.1 ++ Ja fr args ++ (BL fr f).2.2.2) hp top∧
   wD (res ((BL fr f).2.2.1 ++ Ja fr args ++ (BL fr f).2.2.2) hp top) fr hp dst K KP
   else K ⟨Bi fr dst undef false,hp,top⟩
  |_=>Ri G fr hp top g f args dst K):=by
 simp only [←Qz]
 rfl
theorem km {fr:Cx}{hp:Hp}{top:Nat}{g:Bool}{f:Operand}{args:List Operand}{dst:Option Nat}:Ri G fr hp top g f args dst K=(match G (BL fr f).1 with
  | .none=>False
  | .pure pre res=>(g=true→(BL fr f).2.1=true∧Sj fr args∧pre ((BL fr f).2.2.1 ++ Ja fr args ++ (BL fr f).2.2.2) hp)∧
   K ⟨Bi fr dst (res ((BL fr f).2.2.1 ++ Ja fr args ++ (BL fr f).2.2.2) hp) g,hp,top⟩
  | .eff pre post=>if g=true then (BL fr f).2.1=true∧Sj fr args∧pre ((BL fr f).2.2.1 ++ Ja fr args ++ (BL fr f).2.2.2) hp top∧
   (∀v hp' top',post ((BL fr f).2.2.1 ++ Ja fr args ++ (BL fr f).2.2.2) hp top v hp' top'→zQ K ⟨Bi fr dst v true,hp',top'⟩)
   else K ⟨Bi fr dst undef false,hp,top⟩
  | .det pre res=>if g=true then (BL fr f).2.1=true∧Sj fr args∧pre ((BL fr f).2.2.1 ++ Ja fr args ++ (BL fr f).2.2.2) hp top∧
   K ⟨Bi fr dst (res ((BL fr f).2.2.1 ++ Ja fr args ++ (BL fr f).2.2.2) hp top).1 true,hp.Ac (res ((BL fr f).2.2.1 ++ Ja fr args ++ (BL fr f).2.2.2) hp top).2.1,(res ((BL fr f).2.2.1 ++ Ja fr args ++ (BL fr f).2.2.2) hp top).2.2⟩
   else K ⟨Bi fr dst undef false,hp,top⟩
  | .pan _ _=>False):=by
 simp only [←Qz]
 rfl
end
def rn(base:Nat)(bs:List Nat)(z j:Nat):Nat:=if j < base then j else(bs[j - base]?).getD z
theorem AE{base:Nat}{bs:List Nat}{z j:Nat}(h:j < base):rn base bs z j=j:=if_pos h
theorem Ci (base:Nat)(bs:List Nat)(z i:Nat):rn base bs z (base+i)=(bs[i]?).getD z:=by
 unfold rn
 rw [if_neg (by omega),Nat.add_sub_cancel_left]
theorem Eu(base:Nat)(bs:List Nat)(z:Nat):rn base bs z base=(bs[0]?).getD z:=Ci base bs z 0
theorem VM {base:Nat}{bs:List Nat}{z j:Nat}(h:base+bs.length≤j):rn base bs z j=z:=by
 unfold rn
 rw [if_neg (by omega),List.getElem?_eq_none (by omega)];rfl
theorem ZA {base:Nat}{bs:List Nat}{z:Nat}(hn:bs.Nodup)(hb:∀b∈bs,base≤b):∀i j,i < base+bs.length→j < base+bs.length→rn base bs z i=rn base bs z j→i=j:=by
 intro i j hi hj e
 unfold rn at e
 split at e
 ·split at e
  ·exact e
  ·rw [List.getElem?_eq_getElem (by omega),Option.getD_some] at e
   have:=hb _ (List.getElem_mem (show j - base < bs.length by omega))
   omega
 ·rw [List.getElem?_eq_getElem (show i - base < bs.length by omega),Option.getD_some] at e
  split at e
  ·have:=hb _ (List.getElem_mem (show i - base < bs.length by omega))
   omega
  ·rw [List.getElem?_eq_getElem (show j - base < bs.length by omega),Option.getD_some] at e
   have hp:=List.pairwise_iff_getElem.1 hn
   rcases Nat.lt_trichotomy (i - base) (j - base) with h | h | h
   ·exact absurd e (hp _ _ (by omega) (by omega) h)
   ·omega
   ·exact absurd e.symm (hp _ _ (by omega) (by omega) h)
mutual
def Sc (n:Nat):Value→Prop
 | .pointer (some ⟨b,_,_⟩)=>b < n
 | .slice (some ⟨b,_,none⟩) _ _=>b < n
 | .map (some b)=>b < n
 | .agg ⟨l⟩=>QH n l
 | .tuple ⟨l⟩=>QH n l
 | .iface _ v=>Sc n v
 | .func _ ⟨a⟩ ⟨b⟩=>QH n a∧QH n b
 |_=>True
def QH(n:Nat):List Value→Prop
 | []=>True
 |v :: l=>Sc n v∧QH n l
end
def xZ(n:Nat):A8→Prop
 | .cells _ _ vs=>QH n vs
 | .map es _=> ∀e∈es,Sc n e.key∧Sc n e.val
 | .iter _ _=>True
 | .miter m _ _ _=>m < n
 | .raw _ _=>True
mutual
theorem Sc.Ao {n:Nat}{ρ:Nat→Nat}(hρ:∀j,j < n→ρ j=j):∀ {v:Value},Sc n v→Ao ρ v=v
 | .bool _,_=>rfl
 | .int _ _,_=>rfl
 | .float _ _,_=>rfl
 | .complex _ _ _,_=>rfl
 | .string _,_=>rfl
 | .pointer none,_=>rfl
 | .pointer (some ⟨b,o,s⟩),h=>by simp only [Dm.Ao,hρ b h]
 | .slice none _ _,_=>rfl
 | .slice (some ⟨b,o,none⟩) _ _,h=>by simp only [Dm.Ao,hρ b h]
 | .slice (some ⟨b,o,some s⟩) _ _,_=>by unfold Dm.Ao;rfl
 | .map none,_=>rfl
 | .map (some b),h=>by simp only [Dm.Ao,hρ b h]
 | .chan _,_=>rfl
 | .func _ ⟨a⟩ ⟨b⟩,h=>by simp only [Dm.Ao,QH.Ao hρ h.1,QH.Ao hρ h.2]
 | .nilFunc,_=>rfl
 | .iface _ v,h=>by simp only [Dm.Ao,Sc.Ao hρ (v:=v) h]
 | .nilIface,_=>rfl
 | .agg ⟨l⟩,h=>by simp only [Dm.Ao,QH.Ao hρ (l:=l) h]
 | .tuple ⟨l⟩,h=>by simp only [Dm.Ao,QH.Ao hρ (l:=l) h]
theorem QH.Ao{n:Nat}{ρ:Nat→Nat}(hρ:∀j,j < n→ρ j=j):∀ {l:List Value},QH n l→Cg ρ l=l
 | [],_=>rfl
 |v :: l,h=>by simp only[Dm.Cg,Sc.Ao hρ h.1,QH.Ao hρ h.2]
end
theorem xZ.Ao {n:Nat}{ρ:Nat→Nat}(hρ:∀j,j < n→ρ j=j){o:A8}(h:xZ n o):HE ρ o=o:=by
 cases o with
 |cells rw CA vs=>simp only [HE,QH.Ao hρ h]
 |map es CG=>
  simp only [HE]
  congr 1
  rw [List.map_congr_left (g:=id)]
  ·simp
  ·intro e he
   obtain ⟨h1,h2⟩:=h e he
   simp only [RP,Sc.Ao hρ h1,Sc.Ao hρ h2,id]
 |iter s p=>rfl
 |miter m since seen c=>simp only [HE];rw [hρ m h]
 |raw b vs=>rfl
mutual
theorem V.sc {φ:Ren}{n:Nat}(hn:∀j,n≤j→φ j=none):∀ {v x:Value},V φ v x→Sc n v
 |_,_, .bool _=>trivial
 |_,_, .int _ _=>trivial
 |_,_, .str _=>trivial
 |_,_, .nilp=>trivial
 |_,_, .ptr i o L h=>by
  rcases Nat.lt_or_ge i n with h' | h'
  ·exact h'
  ·rw [hn i h'] at h;cases h
 |_,_, .nils=>trivial
 |_,_, .slice i o m c c' L h _ _ _=>by
  rcases Nat.lt_or_ge i n with h' | h'
  ·exact h'
  ·rw [hn i h'] at h;cases h
 |_,_, .emp _ _=>trivial
 |_,_, .nilm=>trivial
 |_,_, .map i L h=>by
  rcases Nat.lt_or_ge i n with h' | h'
  ·exact h'
  ·rw [hn i h'] at h;cases h
 |_,_, .func _ _ _ _ _ ha hb=>⟨Vs.sc hn ha,Vs.sc hn hb⟩
 |_,_, .nilf=>trivial
 |_,_, .iface _ v _ h=>(V.sc hn h:Sc n v)
 |_,_, .nili=>trivial
 |_,_, .agg _ _ h=>Vs.sc hn h
 |_,_, .tuple _ _ h=>Vs.sc hn h
theorem Vs.sc{φ:Ren}{n:Nat}(hn:∀j,n≤j→φ j=none):∀ {l m:List Value},Vs φ l m→QH n l
 |_,_, .nil=>trivial
 |_,_, .cons _ _ _ _ hx hl=>⟨V.sc hn hx,Vs.sc hn hl⟩
end
theorem Es.sc{φ:Ren}{n:Nat}(hn:∀j,n≤j→φ j=none):∀ {l m:List MapEntry},Es φ l m→∀e∈l,Sc n e.key∧Sc n e.val
 |_,_, .nil,e,he=>by cases he
 |_,_, .cons a _ l _ hx hl,e,he=>by
  cases he with
  |head=>exact⟨V.sc hn hx.key,V.sc hn hx.val⟩
  |tail _ h=>exact Es.sc hn hl e h
structure Cl(hp:Hp)(n:Nat):Prop where
 lt:∀i o,hp i=some o→i < n
 sc:∀i o,hp i=some o→xZ n o
theorem HR.cl{φ:Ren}{own:Nat→Prop}{hp:Hp}{w:World}{n:Nat}(H:HR φ own hp w)(hn:∀j,n≤j→φ j=none):Cl hp n:=by
 refine⟨fun i o e=>H.lt hn e,fun i o e=> ?_⟩
 obtain⟨L,h1,h2⟩:=H.obj i o e
 cases o with
 |cells rw CA vs=>obtain⟨_,_,_,_,_,_,_,h3,_⟩:=h2;exact Vs.sc hn h3
 |map es CG=>obtain⟨es',_,h3⟩:=h2;exact fun e he=>Es.sc hn h3 e he
 |iter s p=>trivial
 |miter m since seen c=>
  obtain⟨_,M,h1,_⟩:=h2
  show m < n
  rcases Nat.lt_or_ge m n with h | h
  ·exact h
  ·rw[hn m h]at h1;cases h1
 |raw b vs=>trivial
theorem lL {hp h1:Hp}{base:Nat}{ρ:Nat→Nat}(hcl:Cl hp base)(hlow:∀j,j < base→ρ j=j)(us:A6)
  (hk:∀i,i < base→(∀p∈us,p.1≠i)→h1 i=hp i) (hu:∀p∈us,∀o,p.2=some o→h1 (ρ p.1)=some (HE ρ o)) :
  ∀i o,(hp.Ac us) i=some o→h1 (ρ i)=some (HE ρ o):=by
 have key:∀(us:A6) (hp:Hp) i o,(hp.Ac us) i=some o→(∃p∈us,p.1=i∧p.2=some o)∨((∀p∈us,p.1≠i)∧hp i=some o):=by
  intro us
  induction us with
  |nil=>intro hp i o h;exact .inr ⟨fun _ h=>(by cases h),h⟩
  |cons p us ih=>
   intro hp i o h
   obtain ⟨a,x⟩:=p
   rw [BR] at h
   rcases ih _ i o h with ⟨p,h1,h2,h3⟩ | ⟨h1,h2⟩
   ·exact .inl ⟨p,List.mem_cons_of_mem _ h1,h2,h3⟩
   ·by_cases e:i=a
    ·subst e
     rw [AY] at h2
     exact .inl ⟨(i,x),List.mem_cons_self ..,rfl,h2⟩
    ·rw [Aj _ _ _ _ e] at h2
     refine .inr ⟨?_,h2⟩
     intro p hp'
     cases hp' with
     |head=>exact fun e'=>e e'.symm
     |tail _ h=>exact h1 p h
 intro i o h
 rcases key us hp i o h with ⟨p,h2,h3,h4⟩ | ⟨h2,h3⟩
 ·subst h3;exact hu p h2 o h4
 ·have hi:=hcl.lt i o h3
  rw [hlow i hi,hk i hi h2,h3,xZ.Ao hlow (hcl.sc i o h3)]
theorem set_set(hp:Hp)(i:Nat)(a b:Option A8):(hp.set i a).set i b=hp.set i b:=by
 funext j;unfold Hp.set;split <;> rfl
def BK(n:Nat)(ks:List Nat)(h1 hp:Hp):Prop:= ∀i,i < n→i ∉ ks→h1 i=hp i
theorem BK.refl(n:Nat)(ks:List Nat)(hp:Hp):BK n ks hp hp=True:=eq_true fun _ _ _=>rfl
theorem BK.set {n:Nat}{ks:List Nat}{h1 hp:Hp}{b:Nat}{o:Option A8}(hb:n≤b):BK n ks (h1.set b o) hp=BK n ks h1 hp:=by
 refine propext ⟨fun h i hi hk=> ?_,fun h i hi hk=> ?_⟩
 ·have:=h i hi hk;rwa [Aj _ _ _ _ (by omega)] at this
 ·rw [Aj _ _ _ _ (by omega)];exact h i hi hk
theorem BK.wh {n:Nat}{ks:List Nat}{h1 hp:Hp}{b:Nat}{o:Option A8}(hb:b∈ks):BK n ks (h1.set b o) hp=BK n ks h1 hp:=by
 refine propext ⟨fun h i hi hk=> ?_,fun h i hi hk=> ?_⟩
 ·have:=h i hi hk;rwa [Aj _ _ _ _ (fun e=>hk (by rw [e];exact hb))] at this
 ·rw [Aj _ _ _ _ (fun e=>hk (by rw [e];exact hb))];exact h i hi hk
theorem BK.nil {n:Nat}{h1 hp:Hp}(h:BK n [] h1 hp):∀i,i < n→h1 i=hp i:=fun i hi=>h i hi (by simp)
def GN (ρ:Nat→Nat):Option A8→Option A8
 |none=>none
 |some o=>some (HE ρ o)
def FQ (ρ:Nat→Nat)(h1:Hp)(us:A6):Prop:= ∀p∈us,p.2=none∨h1 (ρ p.1)=GN ρ p.2
theorem FQ.nil{ρ:Nat→Nat}{h1:Hp}:FQ ρ h1 [] = True:=eq_true fun p h=>by cases h
theorem FQ.cons {ρ:Nat→Nat}{h1:Hp}{b:Nat}{o:Option A8}{us:A6}:FQ ρ h1 ((b,o) :: us)=((o=none∨h1 (ρ b)=GN ρ o)∧FQ ρ h1 us):=by
 simp [FQ]
theorem FQ.get {ρ:Nat→Nat}{h1:Hp}{us:A6}(h:FQ ρ h1 us):∀p∈us,∀o,p.2=some o→h1 (ρ p.1)=some (HE ρ o):=by
 intro p hp o e
 rcases h p hp with h | h
 ·rw [h] at e;cases e
 ·rw [h,e];rfl
theorem Y6 {ρ:Nat→Nat}{o:A8}:GN ρ (some o)=some (HE ρ o):=rfl
theorem Y7 {ρ:Nat→Nat}{rw:Bool}{z:Nat}{vs:List Value}:HE ρ (.cells rw z vs)= .cells rw z (Cg ρ vs):=rfl
theorem kM {ρ:Nat→Nat}{es:List MapEntry}{CG:Nat}:HE ρ (.map es CG)= .map (es.map (RP ρ)) CG:=rfl
structure T6 (hp:Hp) (top:Nat) (bs:List Nat) (r:Value×A6×Nat) (v1:Value) (h1:Hp) (top1:Nat):Prop where
 nodup:bs.Nodup
 ge:∀b∈bs,top≤b
 tp:r.2.2=top+bs.length
 v:v1=Ao (rn top bs top1) r.1
 Ax:BK top (r.2.1.map (·.1)) h1 hp
 Jb:FQ (rn top bs top1) h1 r.2.1
theorem AJ.Eh {P:Program}{f:FuncId}{args:List Value}{hp:Hp}{top:Nat}{r:Value×A6×Nat}
  (h:Cl hp top→QH top args→AJ P f args hp top fun v1 h1 top1=>top≤top1∧∃bs,T6 hp top bs r v1 h1 top1) :
  AJ P f args hp top fun v hp' top'=>v=r.1∧hp' = hp.Ac r.2.1∧top' = r.2.2:=by
 intro φ own w args' ha H htop
 have hcl:=H.cl htop
 refine (h hcl (Vs.sc htop ha) φ own w args' ha H htop).mono ?_
 rintro e w' ⟨v1,h1,top1,v',φ1,rfl,⟨ht,bs,R⟩,W⟩
 have hlow:∀j,j < top→rn top bs top1 j=j:=fun j hj=>AE hj
 have hhigh:∀j,r.2.2≤j→top1≤rn top bs top1 j:=fun j hj=>by rw [VM (by rw [←R.tp];exact hj)];exact Nat.le_refl _
 refine ⟨r.1,hp.Ac r.2.1,r.2.2,v',φ1.via (rn top bs top1),rfl,⟨rfl,rfl,rfl⟩,⟨?_, ?_, ?_,W.k, ?_⟩⟩
 ·intro i L e
  have hi:i < top:=by
   rcases Nat.lt_or_ge i top with h | h
   ·exact h
   ·rw [htop i h] at e;cases e
  unfold Ren.via
  rw [hlow i hi];exact W.le _ _ e
 ·refine V.ER ?_
  rw [←R.v];exact W.v
 ·refine W.hr.ER W.top hhigh (by rw [R.tp];exact ZA R.nodup R.ge) ?_
  exact lL hcl hlow r.2.1 (fun i hi hk=>R.Ax i hi (fun hm=>by obtain ⟨p,h1,h2⟩:=List.mem_map.1 hm;exact hk p h1 h2)) R.Jb.get
 ·intro j hj
  exact W.top _ (hhigh j hj)
theorem eR {ρ:Nat→Nat}:Ao ρ undef=undef:=rfl
def s9(r:(Value×A6×Nat) ⊕ (Value×A6×Nat))(hp:Hp)(top:Nat)(v:Value)(h1:Hp)(top1:Nat):Prop:=match r with
 | .inl r=>top≤top1∧∃bs,T6 hp top bs r v h1 top1
 | .inr _=>False
def zp (r:(Value×A6×Nat) ⊕ (Value×A6×Nat))(hp:Hp)(top:Nat)(v:Value)(h1:Hp)(top1:Nat):Prop:=match r with
 | .inr r=>v=r.1∧top≤top1∧∃bs,T6 hp top bs (undef,r.2) undef h1 top1
 | .inl _=>False
theorem pt {r:Value×A6×Nat}{hp:Hp}{top:Nat}{v:Value}{h1:Hp}{top1:Nat}:s9 (.inl r) hp top v h1 top1=(top≤top1∧∃bs,T6 hp top bs r v h1 top1):=rfl
theorem uK {r:Value×A6×Nat}{hp:Hp}{top:Nat}{v:Value}{h1:Hp}{top1:Nat}:zp (.inr r) hp top v h1 top1=(v=r.1∧top≤top1∧∃bs,T6 hp top bs (undef,r.2) undef h1 top1):=rfl
theorem E8.canon {φ φ1:Ren}{own:Nat→Prop}{w w':World}{hp h1:Hp}{top top1:Nat}{v1 v':Value}{bs:List Nat}{r:Value×A6×Nat}(hcl:Cl hp top)(htop:∀j,top≤j→φ j=none)(R:T6 hp top bs r v1 h1 top1)(W:E8 φ own w v1 h1 top1 v' w' φ1) :
  E8 φ own w r.1 (hp.Ac r.2.1) r.2.2 v' w' (φ1.via (rn top bs top1)):=by
 have hlow:∀j,j < top→rn top bs top1 j=j:=fun j hj=>AE hj
 have hhigh:∀j,r.2.2≤j→top1≤rn top bs top1 j:=fun j hj=>by rw [VM (by rw [←R.tp];exact hj)];exact Nat.le_refl _
 refine ⟨?_, ?_, ?_,W.k, ?_⟩
 ·intro i L e
  have hi:i < top:=by
   rcases Nat.lt_or_ge i top with h | h
   ·exact h
   ·rw [htop i h] at e;cases e
  unfold Ren.via
  rw [hlow i hi];exact W.le _ _ e
 ·refine V.ER ?_
  rw [←R.v];exact W.v
 ·refine W.hr.ER W.top hhigh (by rw [R.tp];exact ZA R.nodup R.ge) ?_
  exact lL hcl hlow r.2.1 (fun i hi hk=>R.Ax i hi (fun hm=>by obtain ⟨p,h1,h2⟩:=List.mem_map.1 hm;exact hk p h1 h2)) R.Jb.get
 ·intro j hj
  exact W.top _ (hhigh j hj)
theorem Ag.PD {P:Program}{f:FuncId}{fn:Func}(F:BU P f fn){pre:List Value→Hp→Nat→Prop}{res:List Value→Hp→Nat→(Value×A6×Nat) ⊕ (Value×A6×Nat)}
  (h:∀args hp top,pre args hp top→Cl hp top→QH top args→D4 P f args hp top (s9 (res args hp top) hp top) (zp (res args hp top) hp top)):Ag P f (.pan pre res):=by
 refine ⟨⟨fn,F.toFTOk⟩,fun args hp top hp0=> ?_⟩
 intro φ own w args' ha H htop
 refine (h args hp top hp0 (H.cl htop) (Vs.sc htop ha) φ own w args' ha H htop).mono ?_
 rintro e w' (⟨v1,h1,top1,v',φ1,he,hx,W⟩ | ⟨v1,h1,top1,φ1,he,hx,W⟩)
 ·left
  generalize hr:res args hp top=r at hx
  cases r with
  |inr r=>exact hx.elim
  |inl r=>
   obtain ⟨_,bs,R⟩:=hx
   exact ⟨_,_,_,v',_,he,⟨r,rfl,rfl,rfl,rfl⟩,W.canon (H.cl htop) htop R⟩
 ·right
  generalize hr:res args hp top=r at hx
  cases r with
  |inl r=>exact hx.elim
  |inr r=>
   obtain ⟨hv,_,bs,R⟩:=hx
   exact ⟨_,_,_,_,he,⟨r,rfl,hv,rfl,rfl⟩,W.canon (H.cl htop) htop R⟩
theorem Ag.Eh {P:Program}{f:FuncId}{fn:Func}(F:BU P f fn){pre:List Value→Hp→Nat→Prop}{res:List Value→Hp→Nat→Value×A6×Nat}
  (h:∀args hp top,pre args hp top→Cl hp top→QH top args→AJ P f args hp top fun v1 h1 top1=>top≤top1∧∃bs,T6 hp top bs (res args hp top) v1 h1 top1):Ag P f (.det pre res):=
 ⟨⟨fn,F.toFTOk⟩,fun args hp top hp0=>AJ.Eh (h args hp top hp0)⟩
theorem Al.mk' {hp h1:Hp}{base:Nat}(bs:List Nat)(hcl:Cl hp base){fr' fr:Cx}{us:A6}{n top:Nat}
  (nodup:bs.Nodup) (ge:∀b∈bs,base≤b) (hn:n=bs.length)
  (hfr:∀t v,N6 fr' t=some v→N6 fr t=some (Ao (rn base bs top) v))
  (Ax:BK base (us.map (·.1)) h1 hp)
  (Jb:FQ (rn base bs top) h1 us) :
  ∃ρ,Al ρ base ⟨fr',hp.Ac us,base+n⟩ ⟨fr,h1,top⟩:=by
 subst hn
 have hlow:∀j,j < base→rn base bs top j=j:=fun j hj=>AE hj
 exact ⟨rn base bs top,hlow,fun j hj=>by rw [VM hj];exact Nat.le_refl _,ZA nodup ge,hfr,lL hcl hlow us (fun i hi hk=>Ax i hi (fun hm=>by obtain ⟨p,h1,h2⟩:=List.mem_map.1 hm;exact hk p h1 h2)) Jb.get⟩
theorem Ag.EK {P:Program}{f:FuncId}{fn:Func}(F:BU P f fn){pre:List Value→Hp→Prop}{res:List Value→Hp→Value}(hr:∀args hp,pre args hp→plain 3 (res args hp)=true)
  (h:∀args hp,pre args hp→∀top,Cl hp top→QH top args→AJ P f args hp top fun v hp' _=>v=res args hp∧BK top [] hp' hp):Ag P f (.pure pre res):=
 .vK F hr fun args hp h0 top φ own w args' ha H htop=>(h args hp h0 top (H.cl htop) (Vs.sc htop ha) φ own w args' ha H htop).mono fun _ _ ⟨v,hp',top',v',φ',e,⟨h1,h2⟩,W⟩=>⟨v,hp',top',v',φ',e,⟨h1,h2.nil⟩,W⟩
theorem Gh{k:IntKind}{n:Int}(h:(if k.signed then -(2 ^ (k.bits - 1):Int)else 0)≤n)(h2:n < (if k.signed then 2 ^ (k.bits - 1)else 2 ^ k.bits:Int)):Ad k n=n:=by
 rw[En]
 unfold IntKind.wrap
 cases k <;> simp[IntKind.signed,IntKind.bits]at h h2 ⊢ <;> omega
theorem wrap64 {n:Int}(h: -9223372036854775808≤n)(h2:n < 9223372036854775808):Ad .i64 n=n:=Gh (by simpa [IntKind.signed,IntKind.bits] using h) (by simpa [IntKind.signed,IntKind.bits] using h2)
theorem Ae {k n:Nat}(h:k < n)(hn:n≤9223372036854775807):Ad .i64 ((k:Int)+1)=((k+1:Nat):Int):=by
 rw [wrap64 (by omega) (by omega)];omega
theorem Bw {b n:Nat}(hb:b < n){hp:Hp}{i:Nat}{o:Option A8}(hi:n≤i):(hp.set i o) b=hp b:=Aj _ _ _ _ (by omega)
theorem wi {b n:Nat}(hb:b < n){hp:Hp}{i:Nat}{o:Option A8}(hi:n≤i):(hp.set b o) i=hp i:=Aj _ _ _ _ (by omega)
theorem VA {k:IntKind}{n:Int}:Value.oneCell' (.int k n)=true:=rfl
theorem bc {b:Bool}:Value.oneCell' (.bool b)=true:=rfl
theorem vV {s:ByteArray}:Value.oneCell' (.string s)=true:=rfl
theorem vU {a:Option Addr}:Value.oneCell' (.pointer a)=true:=rfl
theorem ju {a:Option Addr}{n c:Nat}:Value.oneCell' (.slice a n c)=true:=rfl
theorem vT {a:Option Nat}:Value.oneCell' (.map a)=true:=rfl
theorem pT {f:Fn}{a b:Array Value}:Value.oneCell' (.func f a b)=true:=rfl
theorem pU:Value.oneCell' .nilFunc=true:=rfl
theorem jt {t:TypeId}{v:Value}:Value.oneCell' (.iface t v)=true:=rfl
theorem pV:Value.oneCell' .nilIface=true:=rfl
theorem uO {l:List Value}:Ar (.agg ⟨l⟩)=l:=rfl
theorem uP {k:IntKind}{n:Int}:Ar (.int k n)= [.int k n]:=rfl
theorem nc {b:Bool}:Ar (.bool b)= [.bool b]:=rfl
theorem uS {s:ByteArray}:Ar (.string s)= [.string s]:=rfl
theorem uR {a:Option Addr}:Ar (.pointer a)= [.pointer a]:=rfl
theorem gk {a:Option Addr}{n c:Nat}:Ar (.slice a n c)= [.slice a n c]:=rfl
theorem uQ {a:Option Nat}:Ar (.map a)= [.map a]:=rfl
theorem nf {f:Fn}{a b:Array Value}:Ar (.func f a b)= [.func f a b]:=rfl
theorem ng:Ar .nilFunc= [.nilFunc]:=rfl
theorem gi {t:TypeId}{v:Value}:Ar (.iface t v)= [.iface t v]:=rfl
theorem nh:Ar .nilIface= [.nilIface]:=rfl
theorem vN{a b:Nat}(h:a≤b):Nat.ble a b=true:=Nat.ble_eq_true_of_le h
theorem ib{n:Nat}{v:Value}:(List.replicate n [v]).flatten=C3 n v:=by simp[C3]
theorem AEd{α:Type}{a:α}:List.replicate 1 a= [a]:=rfl
theorem AEe{α:Type}{a:α}:List.replicate 2 a= [a,a]:=rfl
theorem AEf{α:Type}{a:α}:List.replicate 3 a= [a,a,a]:=rfl
theorem AEg{α:Type}{a:α}:List.replicate 4 a= [a,a,a,a]:=rfl
theorem XY{cs xs:List Value}:A1 cs 0 xs=xs ++ cs.drop xs.length:=by simp[A1]
theorem PM {c:Value}{cs xs:List Value}{n:Nat}:A1 (c :: cs) (n+1) xs=c :: A1 cs n xs:=by
 simp [A1,Nat.add_right_comm]
theorem XU {c:Value}{cs xs:List Value}{n:Nat}:A1 (c :: cs) (1+n) xs=c :: A1 cs n xs:=by
 rw [Nat.add_comm];exact PM
theorem Rq{cs:List Value}{v:Value}{n:Nat}(h:n < cs.length):A1 cs n [v] = cs.set n v:=by
 simp only[A1,List.length_singleton]
 rw[List.set_eq_take_append_cons_drop,if_pos h];simp
theorem iz{α:Type}{c:α}{l:List α}{n:Nat}:(c :: l)[1+n]? = l[n]? :=by rw[Nat.add_comm,List.getElem?_cons_succ]
theorem dQ {α:Type}{c:α}{l:List α}{n:Nat}:(c :: l).drop (1+n)=l.drop n:=by rw [Nat.add_comm,List.drop_succ_cons]
theorem XF {n:Nat}{k:IntKind}:C3 n (.int k 0)=(List.replicate n (0:Int)).map (Value.int k):=by simp [C3]
theorem kP{n:Nat}{v:Value}:(C3 n v).length=n:=by simp[C3]
theorem eQ {ρ:Nat→Nat}{k:IntKind}{l:List Int}:Cg ρ (l.map (Value.int k))=l.map (Value.int k):=by
 rw [EM,List.map_map];rfl
theorem kL {ρ:Nat→Nat}{l:List Value}{i:Nat}{v:Value}:Cg ρ (l.set i v)=(Cg ρ l).set i (Ao ρ v):=by
 simp only [EM,List.map_set]
theorem J7 {k:IntKind}{l:List Int}{i:Nat}(h:i < l.length):((l.map (Value.int k))[i]?).getD undef= .int k ((l[i]?).getD 0):=by simp [h]
theorem ko {k:IntKind}{l:List Int}{i:Nat}{n:Int}:(l.map (Value.int k)).set i (.int k n)=(l.set i n).map (Value.int k):=by rw [List.map_set]
theorem XX {k:IntKind}{l:List Int}{n:Nat}{v:Int}(h:n < l.length):A1 (l.map (Value.int k)) n [.int k v] = (l.set n v).map (Value.int k):=by
 rw [Rq (by simpa using h),ko]
theorem HY (x y:Int):iP x y=decide (x=y):=by rw [Yc];rfl
def Ha (ρ:Nat→Nat):Cx→Cx→Prop
 | [],_=>True
 | (t,v,g) :: l,fr=>Hx fr t=some (bif g then Ao ρ v else v,g)∧Ha ρ l fr
theorem AF {ρ:Nat→Nat}:∀ {fr' fr:Cx},Ha ρ fr' fr→∀t v,N6 fr' t=some v→N6 fr t=some (Ao ρ v):=by
 intro fr'
 induction fr' with
 |nil=>intro fr _ t v h;cases h
 |cons p l ih=>
  obtain ⟨j,x,g⟩:=p
  intro fr h t v hv
  obtain ⟨h1,h2⟩:=h
  simp only [N6,Hx] at hv ⊢
  cases hb:Nat.beq j t with
  |true=>
   rw [hb] at hv
   have:=Nat.eq_of_beq_eq_true hb
   subst this
   cases hv
   rw [h1]
   cases g with
   |true=>rfl
   |false=>rfl
  |false=>
   rw [hb] at hv
   exact ih h2 t v hv
end Go.Dm
namespace Go.Dm
structure B6 (α:Type) where
 enc:α→List Value
 dec:List Value→α
 size:Nat
 h:∀a,dec (enc a)=a
 len:∀a,(enc a).length=size
 one:∀a,Au (enc a)=true
class B6.Plain {α:Type} (E:B6 α):Prop where
 pl:∀a ρ,Cg ρ (E.enc a)=E.enc a
def B6.flat{α:Type}(E:B6 α)(l:List α):List Value:=(l.map E.enc).flatten
def at'{α:Type}[Inhabited α](l:List α)(i:Nat):α:=(l[i]?).getD default
theorem BS{α:Type}[Inhabited α](l:List α)(i:Nat)(h:i < l.length):at' l i=l[i]:=by simp[at',h]
section
variable{α:Type}{E:B6 α}
theorem B6.F6:E.flat [] = []:=rfl
theorem B6.C2 (a:α)(l:List α):E.flat (a :: l)=E.enc a ++ E.flat l:=rfl
theorem B6.WU (l m:List α):E.flat (l ++ m)=E.flat l ++ E.flat m:=by simp [B6.flat]
theorem B6.EH (l:List α):(E.flat l).length=l.length * E.size:=by
 induction l with
 |nil=>simp [B6.F6]
 |cons a l ih=>rw [B6.C2,List.length_append,E.len,ih,List.length_cons,Nat.succ_mul];omega
theorem B6.Mx (l:List α):Au (E.flat l)=true:=by
 have app:∀x y:List Value,Au (x ++ y)=(Au x && Au y):=by
  intro x y
  induction x with
  |nil=>rfl
  |cons a x ih=>simp only [List.cons_append,Au,ih,Bool.and_assoc]
 induction l with
 |nil=>rfl
 |cons a l ih=>rw [B6.C2,app,E.one,ih];rfl
theorem B6.WV [E.Plain](l:List α)(ρ:Nat→Nat):Cg ρ (E.flat l)=E.flat l:=by
 induction l with
 |nil=>rfl
 |cons a l ih=>rw [B6.C2,KX,B6.Plain.pl,ih]
theorem B6.S9 (l:List α):∀i,(E.flat l).drop (i * E.size)=E.flat (l.drop i):=by
 induction l with
 |nil=>intro i;simp [B6.F6]
 |cons a l ih=>
  intro i
  cases i with
  |zero=>simp
  |succ i=>
   rw [B6.C2,show (i+1) * E.size=(E.enc a).length+i * E.size from by rw [E.len,Nat.succ_mul];omega,List.drop_append]
   rw [List.drop_eq_nil_of_le (by omega),List.nil_append,show (E.enc a).length+i * E.size - (E.enc a).length=i * E.size from by omega,ih]
   rfl
theorem B6.N7 (l:List α):∀i,(E.flat l).take (i * E.size)=E.flat (l.take i):=by
 induction l with
 |nil=>intro i;simp [B6.F6]
 |cons a l ih=>
  intro i
  cases i with
  |zero=>simp [B6.F6]
  |succ i=>
   rw [B6.C2,show (i+1) * E.size=(E.enc a).length+i * E.size from by rw [E.len,Nat.succ_mul];omega,List.take_append]
   rw [List.take_of_length_le (by omega),show (E.enc a).length+i * E.size - (E.enc a).length=i * E.size from by omega,ih]
   rfl
theorem B6.ie [Inhabited α](l:List α)(i:Nat)(h:i < l.length):((E.flat l).drop (i * E.size)).take E.size=E.enc (at' l i):=by
 rw [B6.S9,List.drop_eq_getElem_cons h,B6.C2,List.take_append,List.take_of_length_le (by rw [E.len];omega),E.len,Nat.sub_self,List.take_zero,List.append_nil,BS _ _ h]
end
inductive BF {α:Type} (E:B6 α) (hp:Hp):Value→List α→Prop
 |nils:BF E hp (.slice none 0 0) []
 |emp:BF E hp (.slice (some ⟨0,0,some 0⟩) 0 0) []
 |rows (b o c:Nat) (rw:Bool) (vs:List Value) (l:List α) (hb:hp b=some (.cells rw E.size vs)) (hv:(vs.drop o).take (l.length * E.size)=E.flat l) (ho:o+l.length * E.size≤vs.length) (hc:l.length≤c) (hn:l.length≤9223372036854775807) :
   BF E hp (.slice (some ⟨b,o,none⟩) l.length c) l
def Ah (v:Value)(d:Nat):Value:=match v with
 | .slice (some ⟨b,o,none⟩) _ _=> .pointer (some ⟨b,o+d,none⟩)
 |_=>undef
def B6.rd {α:Type}(E:B6 α)(hp:Hp)(v:Value):List α:=match v with
 | .slice (some ⟨b,o,none⟩) n _=>match hp b with
  |some (.cells _ _ vs)=>(List.range n).map fun i=>E.dec ((vs.drop (o+i * E.size)).take E.size)
  |_=> []
 |_=> []
section
variable{α:Type} [Inhabited α]{E:B6 α}{hp:Hp}{v:Value}{l:List α}{tt:AM}{t e:TypeId}
omit [Inhabited α]in
theorem BF.le(h:BF E hp v l):l.length≤9223372036854775807:=by cases h with
 |nils=>simp
 |emp=>simp
 |rows _ _ _ _ _ _ _ _ _ _ hn=>exact hn
omit [Inhabited α]in
omit [Inhabited α]in
theorem BF.Kw (h:BF E hp v l)(hk:kindOf tt t=some (.slice e)){hp':Hp}:Bv tt hp' t v=(.int .i64 (l.length:Int),True):=by
 obtain ⟨i,hi,hd⟩:=Aa hk
 cases h <;> (unfold Bv;simp [hk,DV,hi,hd])
theorem BF.at (h:BF E hp v l){i:Nat}(hi:i < l.length):∃b o c rw vs,v= .slice (some ⟨b,o,none⟩) l.length c∧hp b=some (.cells rw E.size vs)∧(vs.drop (o+i * E.size)).take E.size=E.enc (at' l i)∧o+(i+1) * E.size≤vs.length:=by
 cases h with
 |nils=>simp at hi
 |emp=>simp at hi
 |rows b o c rw vs l hb hv ho hc hn=>
  have h1:(i+1) * E.size≤l.length * E.size:=Nat.mul_le_mul_right _ hi
  refine ⟨b,o,c,rw,vs,rfl,hb, ?_,by omega⟩
  rw [←B6.ie l i hi,←hv,List.drop_take,List.take_take,List.drop_drop]
  congr 1
  rw [Nat.succ_mul] at h1
  omega
theorem BF.rd(h:BF E hp v l):E.rd hp v=l:=by
 cases hh:h with
 |nils=>rfl
 |emp=>rfl
 |rows b o c rw vs l hb hv ho hc hn=>
  simp only[B6.rd,hb]
  apply List.ext_getElem
  ·simp
  ·intro i h1 h2
   obtain⟨b',o',c',rw',vs',e1,e2,e3,e4⟩:=h.at h2
   cases e1
   rw[hb]at e2;cases e2
   simp only[List.getElem_map,List.getElem_range,e3,E.h,BS _ _ h2]
theorem BF.idx (h:BF E hp v l){j:TI}(hk:kindOf tt t=some (.slice e))(hj:tt e=some j)(hs:j.size=E.size){k:IntKind}{n:Int}(h0:0≤n)(h1:n < l.length) :
  AZ tt t v (.int k n)=(Ah v (n.toNat * E.size),True):=by
 obtain ⟨b,o,c,rw,vs,rfl,hb,_⟩:=h.at (i:=n.toNat) (by omega)
 unfold AZ
 simp [hk,hj,hs,Ah,h0,h1]
theorem BF.load (h:BF E hp v l){j:TI}(hj:tt e=some j)(hs:j.size=E.size)(ha:Hh j.ud=true){i:Nat}(hi:i < l.length) :
  BN tt hp e (Ah v (i * E.size))=(.agg ⟨E.enc (at' l i)⟩,True):=by
 obtain ⟨b,o,c,rw,vs,rfl,hb,hrow,hlen⟩:=h.at hi
 unfold BN
 rw [Nat.succ_mul] at hlen
 simp [Ah,hj,hb,ha,hs,hrow]
 omega
theorem BF.cell (h:BF E hp v l){j:TI}(hj:tt e=some j)(ha:Hh j.ud=false){i f:Nat}(hi:i < l.length)(hf:f < E.size) :
  BN tt hp e (Ah v (i * E.size+f))=((E.enc (at' l i))[f]?.getD undef,True):=by
 obtain ⟨b,o,c,rw,vs,rfl,hb,hrow,hlen⟩:=h.at hi
 unfold BN
 rw [Nat.succ_mul] at hlen
 have e1:vs[o+(i * E.size+f)]? = (E.enc (at' l i))[f]? :=by
  rw [←hrow,List.getElem?_take,List.getElem?_drop,if_pos hf,Nat.add_assoc]
 simp only [Ah,hj,hb,ha,e1]
 simp only [Prod.mk.injEq,true_and,eq_iff_iff,iff_true]
 omega
theorem BF.field (h:BF E hp v l){i:Nat}(hi:i < l.length){s:TypeId}{f o d:Nat}(hf:∀b o,AV tt s (.pointer (some ⟨b,o,none⟩)) f=some (.pointer (some ⟨b,o+d,none⟩))) :
  AG tt s (Ah v o) f=(Ah v (o+d),True):=by
 obtain ⟨b,o',c,rw,vs,rfl,hb,_⟩:=h.at hi
 unfold AG Ah
 simp only [hf,Nat.add_assoc]
omit [Inhabited α]in
theorem BF.mono {hp':Hp}(h:BF E hp v l)(hs:∀b o n c,v= .slice (some ⟨b,o,none⟩) n c→hp' b=hp b):BF E hp' v l:=by
 cases h with
 |nils=>exact .nils
 |emp=>exact .emp
 |rows b o c rw vs l hb hv ho hc hn=>exact .rows b o c rw vs l (by rw [hs _ _ _ _ rfl];exact hb) hv ho hc hn
omit [Inhabited α]in
theorem BF.low(h:BF E hp v l){n:Nat}(hcl:Cl hp n):Sc n v:=by
 cases h with
 |nils=>trivial
 |emp=>trivial
 |rows b o c rw vs l hb hv ho hc hn=>exact hcl.lt _ _ hb
omit [Inhabited α]in
theorem BF.set (h:BF E hp v l){n i:Nat}{o:Option A8}(hl:Sc n v)(hi:n≤i):BF E (hp.set i o) v l:=by
 refine h.mono fun b o n' c e=> ?_
 subst e
 exact Aj _ _ _ _ (by simp only [Sc] at hl;omega)
omit [Inhabited α]in
omit [Inhabited α]in
theorem Ab {tt:AM}{hp:Hp}{v:Value}{n:Nat}(hl:Sc n v){i d:Nat}{o:Option A8}{t:TypeId}(hi:n≤i):BN tt (hp.set i o) t (Ah v d)=BN tt hp t (Ah v d):=by
 cases v with
 |slice a m c=>
  cases a with
  |none=>rfl
  |some a=>
   obtain ⟨b,q,s⟩:=a
   cases s with
   |some s=>rfl
   |none=>
   simp only [Sc] at hl
   have e:=Aj hp i b o (by omega)
   simp only [Ah,BN]
   cases tt t <;> simp only [e]
 |_=>rfl
theorem FN {α:Type}{E:B6 α}{l:List α}{tt:AM}{hp hp0:Hp}{v:Value}{n:Nat}(h:BF E hp0 v l)(hl:Sc n v){i:Nat}{o:Option A8}{t e:TypeId}{lo hi:Option Value}(hk:kindOf tt t=some (.slice e))(hi':n≤i):B5 tt (hp.set i o) t v lo hi=B5 tt hp t v lo hi:=by
 cases h with
 |nils=>unfold B5;simp only [hk]
 |emp=>
  obtain ⟨i1,hi1,hd⟩:=Aa hk
  unfold B5
  simp only [hk,D3,hi1,hd]
 |rows b q c rw vs l hb hv ho hc hn=>
  simp only [Sc] at hl
  have e:=Aj hp i b o (by omega)
  unfold B5
  simp only [hk,e]
theorem fD {tt:AM}{hp:Hp}{t:TypeId}{b o:Nat}:BN tt hp t (.pointer (some ⟨b,o,none⟩))=(match tt t with
  |some i=>match hp b with
   |some (.cells _ _ vs)=>match Hh i.ud with
    |true=>(.agg ⟨(vs.drop o).take i.size⟩,o+i.size≤vs.length)
    |false=>((vs[o]?).getD undef,o < vs.length)
   |_=>(undef,False)
  |none=>(undef,False)):=by
 unfold BN
 cases tt t with
 |none=>rfl
 |some i=>rfl
theorem ZT {tt:AM}{hp:Hp}{t:TypeId}{b o:Nat}{x:Value}:BJ tt hp t (.pointer (some ⟨b,o,none⟩)) x=(match tt t with
  |some i=>match hp b with
   |some (.cells true CA vs)=>([(b,some (.cells true CA (A1 vs o (Ar x))))],HT x i.size∧o+i.size≤vs.length∧Au (Ar x)=true)
   |_=>([],False)
  |none=>([],False)):=by
 unfold BJ
 cases tt t with
 |none=>rfl
 |some i=>rfl
theorem Rn {tt:AM}{t:TypeId}{b o:Nat}{ix:Value}:AZ tt t (.pointer (some ⟨b,o,none⟩)) ix=(match kindOf tt t with
  |some (.array len e)=>match tt e with
   |some j=>(.pointer (some ⟨b,o+(intOf ix).toNat * j.size,none⟩),R3 ix∧0≤intOf ix∧intOf ix < (len:Int))
   |none=>(undef,False)
  |_=>(undef,False)):=by
 unfold AZ
 cases kindOf tt t with
 |none=>rfl
 |some d=>cases d <;> rfl
inductive Dy{α:Type} (E:B6 α)(hp:Hp)(v:Value):Prop
 |mk(l:List α)(h:BF E hp v l)
theorem BF.P {α:Type}{E:B6 α}{hp:Hp}{v:Value}{l:List α}(h:BF E hp v l):Dy E hp v=True:=eq_true ⟨l,h⟩
theorem BF.oc{α:Type}{E:B6 α}{hp:Hp}{v:Value}{l:List α}(h:BF E hp v l):Value.oneCell' v=true:=by cases h <;> rfl
theorem BF.cl{α:Type}{E:B6 α}{hp:Hp}{v:Value}{l:List α}(h:BF E hp v l):Ar v= [v]:=by cases h <;> rfl
theorem BF.back {α:Type}{E:B6 α}{hp:Hp}{v:Value}{l:List α}{n i:Nat}{o:Option A8}(h:BF E (hp.set i o) v l)(hl:Sc n v)(hi:n≤i):BF E hp v l:=
 h.mono fun b q n' c e=>by subst e;exact (Aj _ _ _ _ (by simp only [Sc] at hl;omega)).symm
theorem FM {α:Type}{E:B6 α}{hp:Hp}{v:Value}{n:Nat}(hl:Sc n v){i:Nat}{o:Option A8}(hi:n≤i):Dy E (hp.set i o) v=Dy E hp v:=
 propext ⟨fun ⟨l,h⟩=>⟨l,h.back hl hi⟩,fun ⟨l,h⟩=>⟨l,h.set hl hi⟩⟩
theorem EO {α:Type}{E:B6 α}{hp:Hp}{v:Value}{n:Nat}(hl:Sc n v){i:Nat}{o:Option A8}(hi:n≤i):E.rd (hp.set i o) v=E.rd hp v:=by
 cases v with
 |slice a m c=>
  cases a with
  |none=>rfl
  |some a=>
   obtain ⟨b,q,s⟩:=a
   cases s with
   |some s=>rfl
   |none=>
   simp only [Sc] at hl
   have e:=Aj hp i b o (by omega)
   simp only [B6.rd,e]
 |_=>rfl
theorem Ro {tt:AM}{t:TypeId}{b o n c:Nat}{ix:Value}:AZ tt t (.slice (some ⟨b,o,none⟩) n c) ix=(match kindOf tt t with
  |some (.slice e)=>match tt e with
   |some j=>(.pointer (some ⟨b,o+(intOf ix).toNat * j.size,none⟩),R3 ix∧0≤intOf ix∧intOf ix < (n:Int))
   |none=>(undef,False)
  |_=>(undef,False)):=by
 unfold AZ
 cases kindOf tt t with
 |none=>rfl
 |some d=>cases d <;> rfl
def GK (sz:Nat)(v:Value)(a b:Nat):Value:=match v with
 | .slice (some ⟨k,o,none⟩) _ c=> .slice (some ⟨k,o+a * sz,none⟩) (b - a) (c - a)
 |v=>v
omit [Inhabited α]in
theorem BF.AB3 (h:BF E hp v l){j:TI}(hk:kindOf tt t=some (.slice e))(hj:tt e=some j){k:IntKind}{n:Int}(h0:0≤n)(h1:n≤l.length) :
  B5 tt hp t v none (some (.int k n))=(GK E.size v 0 n.toNat,True):=by
 cases h with
 |nils=>
  have:n=0:=by simp at h1;omega
  subst this
  simp [B5,hk,hj,Dg,Bm,GK]
 |emp=>
  have:n=0:=by simp at h1;omega
  subst this
  obtain ⟨i,hi,hd⟩:=Aa hk
  have hb:FD none (some (.int k 0)) 0 0=some (0,0):=rfl
  simp [B5,hk,GK,D3,hi,hd,hj,hb]
 |rows b o c rw vs l hb hv ho hc hn=>
  simp only [B5,hk,hj,hb,Dg,Bm,GK,T3,intOf_int,Nat.zero_mul,Nat.add_zero,Nat.sub_zero,true_and,Prod.mk.injEq,eq_iff_iff,iff_true]
  omega
omit [Inhabited α]in
theorem BF.take (h:BF E hp v l){n:Nat}(h1:n≤l.length):BF E hp (GK E.size v 0 n) (l.take n):=by
 cases h with
 |nils=>simp [GK];exact .nils
 |emp=>simp [GK];exact .emp
 |rows b o c rw vs l hb hv ho hc hn=>
  have hl:(l.take n).length=n:=by rw [List.length_take];omega
  have h2:n * E.size≤l.length * E.size:=Nat.mul_le_mul_right _ h1
  have:=BF.rows (E:=E) (hp:=hp) b o c rw vs (l.take n) hb (by rw [hl,←B6.N7,←hv,List.take_take,Nat.min_eq_left h2]) (by rw [hl];omega) (by omega) (by omega)
  rw [hl] at this
  simpa [GK] using this
end
def Gf (sz:Nat)(v:Value)(a:Nat):Value:=match v with
 | .slice (some ⟨k,o,none⟩) n c=>if a=0∨a < c then .slice (some ⟨k,o+a * sz,none⟩) (n - a) (c - a) else .slice (some ⟨0,0,some 0⟩) 0 0
 |v=>v
theorem BF.AEn {α:Type}{E:B6 α}{hp:Hp}{v:Value}{l:List α}{tt:AM}{t e:TypeId}(h:BF E hp v l){j:TI}(hk:kindOf tt t=some (.slice e))(hj:tt e=some j)(hs:j.size=E.size){k:IntKind}{n:Int}(h0:0≤n)(h1:n≤l.length) :
  B5 tt hp t v (some (.int k n)) none=(Gf E.size v n.toNat,True):=by
 cases h with
 |nils=>
  have:n=0:=by simp at h1;omega
  subst this
  simp [B5,hk,hj,Dg,Bm,Gf]
 |emp=>
  have:n=0:=by simp at h1;omega
  subst this
  obtain ⟨i,hi,hd⟩:=Aa hk
  have hb:FD (some (.int k 0)) none 0 0=some (0,0):=rfl
  simp [B5,hk,Gf,D3,hi,hd,hj,hb]
 |rows b o c rw vs l hb hv ho hc hn=>
  simp only [B5,hk,hj,hb,Dg,Bm,Gf,T3,intOf_int,hs,Int.toNat_natCast,true_and,Prod.mk.injEq,eq_iff_iff,iff_true,true_or,and_true]
  refine ⟨?_,by omega⟩
  by_cases hh:n.toNat=0∨n < (c:Int)
  ·rw [if_pos hh,if_pos (by omega)]
  ·rw [if_neg hh,if_neg (by omega)]
theorem BF.drop {α:Type}{E:B6 α}{hp:Hp}{v:Value}{l:List α}(h:BF E hp v l){n:Nat}(h1:n≤l.length):BF E hp (Gf E.size v n) (l.drop n):=by
 cases h with
 |nils=>simp [Gf];exact .nils
 |emp=>simp [Gf];exact .emp
 |rows b o c rw vs l hb hv ho hc hn=>
  simp only [Gf]
  have hl:(l.drop n).length=l.length - n:=by rw [List.length_drop]
  have h2:n * E.size≤l.length * E.size:=Nat.mul_le_mul_right _ h1
  split
  ·have e1:(l.length - n) * E.size=l.length * E.size - n * E.size:=by rw [Nat.sub_mul]
   have:=BF.rows (E:=E) (hp:=hp) b (o+n * E.size) (c - n) rw vs (l.drop n) hb (by
    rw [hl,e1,←B6.S9,←hv,List.drop_take,List.drop_drop]) (by rw [hl,e1];omega) (by omega) (by omega)
   rw [hl] at this
   exact this
  ·rename_i hh
   have:l.drop n= []:=List.drop_eq_nil_of_le (by omega)
   rw [this];exact .emp
def AA {α:Type}(b:Nat)(l:List α):Value:=match l with
 | []=> .slice none 0 0
 |_ :: l=> .slice (some ⟨b,0,none⟩) (l.length+1) (l.length+1)
def AD {α:Type}(E:B6 α)(l:List α):Option A8:=match l with
 | []=>none
 |a :: l=>some (.cells true E.size (E.flat (a :: l)))
section
variable{α:Type}{E:B6 α}{hp:Hp}{b:Nat}{l:List α}{v:Value}
theorem Dp:AD E ([] :List α)=none:=rfl
theorem kX {α:Type}{E:B6 α}{l:List α}:yd (AD E l)=True:=by cases l <;> exact eq_true (by first | trivial | rfl)
theorem DD:(AA b ([] :List α))= .slice none 0 0:=rfl
theorem BF.DK (h:hp b=AD E l)(hn:l.length≤9223372036854775807):BF E hp (AA b l) l:=by
 cases l with
 |nil=>exact .nils
 |cons a l=>
  have:=BF.rows (E:=E) (hp:=hp) b 0 (l.length+1) true (E.flat (a :: l)) (a :: l) h (by rw [List.drop_zero,List.take_of_length_le];rw [B6.EH];exact Nat.le_refl _) (by rw [B6.EH];omega) (by simp) (by omega)
  simpa [AA] using this
theorem BF.own (h:hp b=AD E l)(hn:l.length≤16777216):BF E hp (AA b l) l:=BF.DK h (by omega)
theorem Av {ρ:Nat→Nat}:Ao ρ (AA b l)=AA (ρ b) l:=by cases l <;> rfl
theorem Ai [E.Plain]{ρ:Nat→Nat}:GN ρ (AD E l)=AD E l:=by
 cases l with
 |nil=>rfl
 |cons a l=>simp only [AD,GN,HE,B6.WV]
def Bu(b:Nat)(l:List α)(top:Nat)(o:Option A8):A6:=match l with
 | []=> [(top,o)]
 |_ :: _=> [(b,none),(top,o)]
theorem E6 {top:Nat}{o:Option A8}(h:hp b=AD E l):hp.Ac (Bu b l top o)=(hp.set b none).set top o:=by
 cases l with
 |nil=>
  have:hp.set b none=hp:=by
   funext i
   unfold Hp.set
   split
   ·rename_i e;rw [e,h];rfl
   ·rfl
  rw [this];rfl
 |cons a l=>rfl
theorem BF.G9(h:BF E hp v l):G9 v=some l.length:=by cases h <;> rfl
theorem BF.Co (h:BF E hp v l):Co hp E.size l.length v=some (E.flat l):=by
 cases h with
 |nils=>simp [Dm.Co,B6.F6]
 |emp=>simp [Dm.Co,B6.F6]
 |rows b' o c rw vs l' hb' hv ho hc hn'=>
  simp only [Dm.Co,hb',hv,B6.EH,Nat.beq_refl]
theorem GV {tt:AM}{top t0 t1 e:Nat}{i1 j:TI}{x:Value}{m:List α}(h0:kindOf tt t0=some (.slice e))(h1:tt t1=some i1)(hi:Dz i1.ud=false)(hj:tt e=some j)(hs:j.size=E.size)(hby:Nat.ble j.bytes 65536=true)
  (h:hp b=AD E l) (hx:BF E hp x m) (hn:Cu (l.length+m.length) j.bytes=true) :
  AK tt hp top [t0,t1] (AA b l) x=some (AA top (l ++ m),Bu b l top (AD E (l ++ m)),top+1):=by
 obtain ⟨i,hi0,hd⟩:=Aa h0
 have hf:=hx.Co
 have hlx:=hx.G9
 cases l with
 |nil=>
  cases m with
  |nil=>
   simp only [List.length_nil] at hf hlx
   simp [AK,hi0,h1,hlx,hi,hd,hj,hs,hf,hby,B6.F6,Au,AA,AD,Bu]
  |cons y m=>
   have h2:Cu (y :: m).length j.bytes=true:=by simpa using hn
   have h3:=E.Mx (y :: m)
   have h4:Nat.beq (E.flat (y :: m)).length ((y :: m).length * E.size)=true:=by rw [B6.EH];simp
   have h5:Nat.beq (y :: m).length 0=false:=rfl
   simp only [List.length_cons] at hf hlx h2 h4 h5
   simp only [AK,hi0,h1,hlx,hi,hd,hj,hs,hf,hby,h2,h3,h4,h5,AA,AD,Bu,List.nil_append,Bool.and_self]
 |cons a l=>
  have hb:hp b=some (.cells true E.size (E.flat (a :: l))):=h
  have h3:=E.Mx m
  have h4:Nat.beq (E.flat m).length (m.length * E.size)=true:=by rw [B6.EH];simp
  have h5:Nat.beq E.size E.size=true:=by simp
  have h6:(Nat.ble (l.length+1+m.length) (l.length+1) && !Nat.beq (l.length+1) (l.length+1))=false:=by
   rw [Nat.beq_refl];simp
  have h7:(Nat.beq (0+(l.length+1) * E.size) (E.flat (a :: l)).length && Cu (l.length+1+m.length) j.bytes)=true:=by
   rw [Bool.and_eq_true]
   exact ⟨by rw [B6.EH];simp,hn⟩
  simp only [AK,hi0,h1,hlx,hi,hd,hj,hs,hf,hby,hb,h3,h4,h5,h6,h7,AA,AD,Bu,Bool.and_self,List.cons_append,List.drop_zero]
  simp only [List.length_append,B6.C2,B6.WU,List.append_assoc]
  have e1:l.length+1+m.length=l.length+m.length+1:=by omega
  rw [e1]
theorem Ol {tt:AM}{top t0 t1 e:Nat}{i1 j:TI}{x:Value}{m:List α}(h0:kindOf tt t0=some (.slice e))(h1:tt t1=some i1)(hi:Dz i1.ud=false)(hj:tt e=some j)(hs:j.size=E.size)(hby:Nat.ble j.bytes 65536=true)
  (h:hp b=AD E l) (hx:BF E hp x m) (hn:l.length+m.length≤16777216) :
  AK tt hp top [t0,t1] (AA b l) x=some (AA top (l ++ m),Bu b l top (AD E (l ++ m)),top+1):=
 GV h0 h1 hi hj hs hby h hx (CO hn (Nat.le_of_ble_eq_true hby))
theorem MX {tt:AM}{top t0 t1 e:Nat}{i1 j:TI}{x:Value}{m:List α}(h0:kindOf tt t0=some (.slice e))(h1:tt t1=some i1)(hi:Dz i1.ud=false)(hj:tt e=some j)(hs:j.size=E.size)(hby:Nat.ble j.bytes 65536=true)
  (hx:BF E hp x m) (hn:Cu m.length j.bytes=true) :
  AK tt hp top [t0,t1] (.slice none 0 0) x=some (AA top m, [(top,AD E m)],top+1):=by
 obtain ⟨i,hi0,hd⟩:=Aa h0
 have hf:=hx.Co
 have hlx:=hx.G9
 cases m with
 |nil=>
  simp only [List.length_nil] at hf hlx
  simp [AK,hi0,h1,hlx,hi,hd,hj,hs,hf,hby,B6.F6,Au,AA,AD]
 |cons y m=>
  have h2:Cu (y :: m).length j.bytes=true:=hn
  have h3:=E.Mx (y :: m)
  have h4:Nat.beq (E.flat (y :: m)).length ((y :: m).length * E.size)=true:=by rw [B6.EH];simp
  have h5:Nat.beq (y :: m).length 0=false:=rfl
  simp only [List.length_cons] at hf hlx h2 h4 h5
  simp only [AK,hi0,h1,hlx,hi,hd,hj,hs,hf,hby,h2,h3,h4,h5,AA,AD,Bool.and_self]
theorem Ok {tt:AM}{top t0 t1 e:Nat}{i1 j:TI}{x:Value}{m:List α}(h0:kindOf tt t0=some (.slice e))(h1:tt t1=some i1)(hi:Dz i1.ud=false)(hj:tt e=some j)(hs:j.size=E.size)(hby:Nat.ble j.bytes 65536=true)
  (hx:BF E hp x m) (hn:m.length≤16777216) :
  AK tt hp top [t0,t1] (.slice none 0 0) x=some (AA top m, [(top,AD E m)],top+1):=
 MX h0 h1 hi hj hs hby hx (CO hn (Nat.le_of_ble_eq_true hby))
theorem sx (h:hp b=AD E l)(hn:l.length≤16777216):Dy E hp (AA b l)=True:=(BF.own h hn).P
theorem KV [Inhabited α](h:hp b=AD E l)(hn:l.length≤16777216):E.rd hp (AA b l)=l:=(BF.own h hn).rd
theorem bX:Ar (AA b l)= [AA b l]:=by cases l <;> rfl
theorem bZ:Value.oneCell' (AA b l)=true:=by cases l <;> rfl
theorem CJ [Inhabited α]{tt:AM}{top t0 t1 e:Nat}{i1 j:TI}{x:Value}(h0:kindOf tt t0=some (.slice e))(h1:tt t1=some i1)(hi:Dz i1.ud=false)(hj:tt e=some j)(hs:j.size=E.size)(hby:Nat.ble j.bytes 65536=true)
  (h:hp b=AD E l) (hx:Dy E hp x) (hn:l.length+(E.rd hp x).length≤16777216) :
  AK tt hp top [t0,t1] (AA b l) x=some (AA top (l ++ E.rd hp x),Bu b l top (AD E (l ++ E.rd hp x)),top+1):=by
 obtain ⟨m,hm⟩:=hx
 rw [hm.rd] at hn ⊢
 exact Ol h0 h1 hi hj hs hby h hm hn
theorem v8 (h:hp b=AD E l)(hn:l.length≤9223372036854775807):Dy E hp (AA b l)=True:=(BF.DK h hn).P
theorem pf [Inhabited α](h:hp b=AD E l)(hn:l.length≤9223372036854775807):E.rd hp (AA b l)=l:=(BF.DK h hn).rd
theorem B0 [Inhabited α]{tt:AM}{top t0 t1 e:Nat}{i1 j:TI}{x:Value}(h0:kindOf tt t0=some (.slice e))(h1:tt t1=some i1)(hi:Dz i1.ud=false)(hj:tt e=some j)(hs:j.size=E.size)(hby:Nat.ble j.bytes 65536=true)
  (hx:Dy E hp x) (hn:Cu (E.rd hp x).length j.bytes=true) :
  AK tt hp top [t0,t1] (.slice none 0 0) x=some (AA top (E.rd hp x), [(top,AD E (E.rd hp x))],top+1):=by
 obtain ⟨m,hm⟩:=hx
 rw [hm.rd] at hn ⊢
 exact MX h0 h1 hi hj hs hby hm hn
theorem BF.one {k:Nat}{a:α}(h:hp k=some (.cells true E.size (E.enc a))):BF E hp (.slice (some ⟨k,0,none⟩) 1 1) [a]:=by
 have hl:=E.len a
 exact BF.rows (E:=E) (hp:=hp) k 0 1 true (E.enc a) [a] h (by simp [B6.flat,←hl]) (by simp [hl]) (by simp) (by simp)
theorem CI [Inhabited α]{tt:AM}{top t0 t1 e:Nat}{i1 j:TI}{x:Value}(h0:kindOf tt t0=some (.slice e))(h1:tt t1=some i1)(hi:Dz i1.ud=false)(hj:tt e=some j)(hs:j.size=E.size)(hby:Nat.ble j.bytes 65536=true)
  (hx:Dy E hp x) (hn:(E.rd hp x).length≤16777216) :
  AK tt hp top [t0,t1] (.slice none 0 0) x=some (AA top (E.rd hp x), [(top,AD E (E.rd hp x))],top+1):=by
 obtain ⟨m,hm⟩:=hx
 rw [hm.rd] at hn ⊢
 exact Ok h0 h1 hi hj hs hby hm hn
theorem V6 {tt:AM}{top t0 t1 e k:Nat}{i1 j:TI}{cs:List Value}(h0:kindOf tt t0=some (.slice e))(h1:tt t1=some i1)(hi:Dz i1.ud=false)(hj:tt e=some j)(hs:j.size=E.size)(hby:Nat.ble j.bytes 65536=true)
  (h:hp b=AD E l) (hk:hp k=some (.cells true E.size cs)) (hc:E.enc (E.dec cs)=cs) (hn:l.length < 16777216) :
  AK tt hp top [t0,t1] (AA b l) (.slice (some ⟨k,0,none⟩) 1 1)=some (AA top (l ++ [E.dec cs]),Bu b l top (AD E (l ++ [E.dec cs])),top+1):=
 Ol h0 h1 hi hj hs hby h (BF.one (by rw [hc];exact hk)) (by simp only [List.length_singleton];omega)
def cellsOf:Option A8→List Value
 |some (.cells _ _ cs)=>cs
 |_=> []
theorem UF {rw:Bool}{z:Nat}{cs:List Value}:cellsOf (some (.cells rw z cs))=cs:=rfl
theorem MY {tt:AM}{top t0 t1 e k:Nat}{i1 j:TI}(h0:kindOf tt t0=some (.slice e))(h1:tt t1=some i1)(hi:Dz i1.ud=false)(hj:tt e=some j)(hs:j.size=E.size)(hby:Nat.ble j.bytes 65536=true)
  (h:hp b=AD E l) (hk:hp k=some (.cells true E.size (cellsOf (hp k)))) (hc:E.enc (E.dec (cellsOf (hp k)))=cellsOf (hp k)) (hn:l.length < 16777216) :
  AK tt hp top [t0,t1] (AA b l) (.slice (some ⟨k,0,none⟩) 1 1)=some (AA top (l ++ [E.dec (cellsOf (hp k))]),Bu b l top (AD E (l ++ [E.dec (cellsOf (hp k))])),top+1):=
 V6 h0 h1 hi hj hs hby h hk hc hn
theorem B1 {tt:AM}{top t0 t1 e k:Nat}{i1 j:TI}(h0:kindOf tt t0=some (.slice e))(h1:tt t1=some i1)(hi:Dz i1.ud=false)(hj:tt e=some j)(hs:j.size=E.size)(hby:Nat.ble j.bytes 65536=true)
  (hk:hp k=some (.cells true E.size (cellsOf (hp k)))) (hc:E.enc (E.dec (cellsOf (hp k)))=cellsOf (hp k)) :
  AK tt hp top [t0,t1] (.slice none 0 0) (.slice (some ⟨k,0,none⟩) 1 1)=some (AA top [E.dec (cellsOf (hp k))], [(top,AD E [E.dec (cellsOf (hp k))])],top+1):=
 Ok h0 h1 hi hj hs hby (BF.one (by rw [hc];exact hk)) (by simp)
theorem XW [Inhabited α]{a':α}{xs:List Value}{f:Nat}:∀ {l:List α} {i:Nat},i < l.length→f+xs.length≤E.size→E.enc a' = A1 (E.enc (at' l i)) f xs→A1 (E.flat l) (i * E.size+f) xs=E.flat (l.set i a'):=by
 intro l
 induction l with
 |nil=>intro i h;simp at h
 |cons a l ih=>
  intro i hi hf he
  have hl:=E.len a
  cases i with
  |zero=>
   have h0:at' (a :: l) 0=a:=rfl
   rw [h0] at he
   simp only [List.set_cons_zero,B6.C2,he,A1,Nat.zero_mul,Nat.zero_add]
   rw [List.take_append_of_le_length (by omega),List.drop_append_of_le_length (by omega)]
   simp only [List.append_assoc]
  |succ i=>
   have h1:at' (a :: l) (i+1)=at' l i:=by simp [at']
   rw [h1] at he
   have:=ih (by simpa using hi) hf he
   simp only [List.set_cons_succ,B6.C2,←this,A1]
   have e:(i+1) * E.size+f=(E.enc a).length+(i * E.size+f):=by rw [hl,Nat.succ_mul];omega
   rw [e,List.take_length_add_append,Nat.add_assoc,List.drop_length_add_append]
   simp only [List.append_assoc]
theorem jZ {i:Nat}{a:α}(h:i < l.length):AD E (l.set i a)=some (.cells true E.size (E.flat (l.set i a))):=by
 cases l with
 |nil=>simp at h
 |cons b l=>cases i <;> rfl
theorem jY {i:Nat}(h:i < l.length):AD E l=some (.cells true E.size (E.flat l)):=by
 cases l with
 |nil=>simp at h
 |cons b l=>rfl
theorem eK {i d:Nat}(h:i < l.length):Ah (AA b l) d= .pointer (some ⟨b,d,none⟩):=by
 cases l with
 |nil=>simp at h
 |cons a l=>simp [AA,Ah]
theorem TY [Inhabited α]{tt:AM}{t:TypeId}{j:TI}{x:Value}{i f:Nat}(hj:tt t=some j)(h:hp b=AD E l)(hi:i < l.length)(hx:HT x j.size)(hf:f+j.size≤E.size)(h1:Au (Ar x)=true)
  (he:E.enc (E.dec (A1 (E.enc (at' l i)) f (Ar x)))=A1 (E.enc (at' l i)) f (Ar x)) :
  BJ tt hp t (Ah (AA b l) (i * E.size+f)) x=([(b,AD E (l.set i (E.dec (A1 (E.enc (at' l i)) f (Ar x)))))],True):=by
 have hlen:(Ar x).length=j.size:=hx
 have h2:(i+1) * E.size≤l.length * E.size:=Nat.mul_le_mul_right _ hi
 rw [Nat.succ_mul] at h2
 rw [eK hi,jZ hi]
 unfold BJ
 rw [jY hi] at h
 simp only [hj,h]
 rw [XW hi (by rw [hlen];exact hf) he,B6.EH]
 have h3:i * E.size+f+j.size≤l.length * E.size:=by omega
 simp [hx,h1,h3]
theorem Ez [Inhabited α]{tt:AM}{t:TypeId}{j:TI}{cs:List Value}{i:Nat}(hj:tt t=some j)(hs:j.size=E.size)(h:hp b=AD E l)(hi:i < l.length)(hc:E.enc (E.dec cs)=cs)(h1:Au cs=true) :
  BJ tt hp t (Ah (AA b l) (i * E.size)) (.agg ⟨cs⟩)=([(b,AD E (l.set i (E.dec cs)))],True):=by
 have hl:cs.length=E.size:=by rw [←hc];exact E.len _
 have e:A1 (E.enc (at' l i)) 0 cs=cs:=by
  simp only [A1,List.take_zero,List.nil_append,Nat.zero_add]
  rw [List.drop_eq_nil_of_le (by rw [E.len,hl];exact Nat.le_refl _),List.append_nil]
 have:=TY (E:=E) (hp:=hp) (b:=b) (l:=l) (x:= .agg ⟨cs⟩) (i:=i) (f:=0) hj h hi (by show cs.length=j.size;rw [hl,hs]) (by omega) h1 (by show E.enc (E.dec (A1 _ 0 cs))=A1 _ 0 cs;rw [e,hc])
 rw [Nat.add_zero] at this
 rw [this]
 show ([(b,AD E (l.set i (E.dec (A1 _ 0 cs))))],True)=_
 rw [e]
theorem A4 [Inhabited α]{tt:AM}{t:TypeId}{j:TI}{x:Value}{i f:Nat}{a':α}(hj:tt t=some j)(h:hp b=AD E l)(hi:i < l.length)(hx:HT x j.size)(hf:f+j.size≤E.size)(h1:Au (Ar x)=true)
  (he:E.enc a' = A1 (E.enc (at' l i)) f (Ar x)) :
  BJ tt hp t (Ah (AA b l) (i * E.size+f)) x=([(b,AD E (l.set i a'))],True):=by
 have:=TY (E:=E) (hp:=hp) (b:=b) (l:=l) (x:=x) (i:=i) (f:=f) hj h hi hx hf h1 (by rw [←he,E.h])
 rw [this,←he,E.h]
end
end Go.Dm
namespace Go.Dm
structure KT (tt:AM) (kt:TypeId) (κ:Type) [DecidableEq κ] where
 ek:κ→Value
 eq:∀a b,Ij tt 64 kt (ek a) (ek b)=some (decide (a=b))
 key:∀a,KM tt 64 kt (ek a)=true
 pl:∀a,plain 8 (ek a)=true
 bits:∀a,Instr.sameBits 10000 (ek a) (ek a)=true
 Ao:∀ρ a,Ao ρ (ek a)=ek a
section
variable{κ β:Type} [DecidableEq κ]
def L6(ek:κ→Value)(ev:β→Value)(x:κ×β×Nat):MapEntry:=⟨ek x.1,ev x.2.1,x.2.2⟩
def GH (m:List (κ×β×Nat))(k:κ):Option β:=match m with
 | []=>none
 |x :: m=>if k=x.1 then some x.2.1 else GH m k
def PZ (m:List (κ×β×Nat))(k:κ)(i:Nat):Option (Nat×β):=match m with
 | []=>none
 |x :: m=>if k=x.1 then some (i,x.2.1) else PZ m k (i+1)
def KO (m:List (κ×β×Nat))(k:κ)(v:β)(CG:Nat):List (κ×β×Nat):=match m with
 | []=> [(k,v,CG)]
 |x :: m=>if k=x.1 then (k,v,x.2.2) :: m else x :: KO m k v CG
def eC (m:List (κ×β×Nat))(k:κ):List (κ×β×Nat):=match m with
 | []=> []
 |x :: m=>if k=x.1 then m else x :: eC m k
def U7 (m:List (κ×β×Nat))(k:κ)(CG:Nat):Nat:=match GH m k with
 |some _=>CG
 |none=>CG+1
theorem NG:∀(m:List (κ×β×Nat)) (k:κ) (i:Nat),(PZ m k i).map (·.2)=GH m k
 | [],_,_=>rfl
 |x :: m,k,i=>by
  unfold PZ GH
  split
  ·rfl
  ·exact NG m k (i+1)
theorem bV:∀(m:List (κ×β×Nat)) (k:κ) (i j:Nat) (v:β),PZ m k i=some (j,v)→∃q b,j=i+q∧m[q]? = some (k,v,b)∧(∀v CG,KO m k v CG=m.set q (k,v,b))∧eC m k=m.eraseIdx q
 | [],_,_,_,_,h=>by cases h
 |x :: m,k,i,j,v,h=>by
  unfold PZ at h
  split at h
  ·rename_i hk
   cases h
   exact ⟨0,x.2.2,rfl,by rw [hk];rfl,fun v CG=>by simp [KO,hk],by simp [eC,hk]⟩
  ·rename_i hk
   obtain ⟨q,b,h1,h2,h3,h4⟩:=bV m k (i+1) j v h
   exact ⟨q+1,b,by omega,by simpa using h2,fun v CG=>by simp [KO,hk,h3],by simp [eC,hk,h4]⟩
theorem TM:∀(m:List (κ×β×Nat)) (k:κ) (i:Nat),PZ m k i=none→GH m k=none∧(∀v CG,KO m k v CG=m ++ [(k,v,CG)])∧eC m k=m
 | [],_,_,_=>⟨rfl,fun _ _=>rfl,rfl⟩
 |x :: m,k,i,h=>by
  unfold PZ at h
  split at h
  ·cases h
  ·rename_i hk
   obtain ⟨h1,h2,h3⟩:=TM m k (i+1) h
   exact ⟨by simp [GH,hk,h1],fun v CG=>by simp [KO,hk,h2],by simp [eC,hk,h3]⟩
variable{tt:AM}{kt:TypeId} (Q:KT tt kt κ)(ev:β→Value)
theorem Pr:∀(m:List (κ×β×Nat)) (k:κ) (i:Nat),HZ tt kt (Q.ek k) (m.map (L6 Q.ek ev)) i=some ((PZ m k i).map fun p=>(p.1,ev p.2))
 | [],_,_=>rfl
 |x :: m,k,i=>by
  have ih:=Pr m k (i+1)
  rw [List.map_cons]
  unfold HZ PZ
  have e:=Q.eq k x.1
  show (match Ij tt 64 kt (Q.ek k) (Q.ek x.1) with | some true=>_ | some false=>_ | none=>_)=_
  rw [e]
  by_cases hk:k=x.1
  ·simp [hk,L6]
  ·simp only [decide_eq_false hk,if_neg hk]
   exact ih
def JK (tt:AM)(kt:TypeId)(z:Value)(k:Value)(es:List MapEntry)(ok:Bool):Value×Prop:=
 let v:=match Qw tt kt k es with
  |some (_,v)=>v
  |none=>z
 (match ok with
  |true=> .tuple ⟨[v, .bool (Qw tt kt k es).isSome]⟩
  |false=>v,KM tt 64 kt k=true∧(HZ tt kt k es 0).isSome=true)
theorem PK {hp:Hp}{t et:TypeId}{ki j:TI}{b:Nat}{k:Value}{ok:Bool}(ht:kindOf tt t=some (.map kt et))(hk:tt kt=some ki)(hj:tt et=some j) :
  Ge tt hp t (.map (some b)) k ok=(match hp b with
   |some (.map es _)=>JK tt kt j.zero k es ok
   |_=>(undef,False)):=by
 unfold Ge
 simp only [ht]
 cases hp b with
 |none=>rfl
 |some o=>cases o with
  |map es CG=>simp only [hk,hj];rfl
  |_=>rfl
theorem XS {z:Value}(m:List (κ×β×Nat))(k:κ):JK tt kt z (Q.ek k) (m.map (L6 Q.ek ev)) true=(.tuple ⟨[((GH m k).map ev).getD z, .bool (GH m k).isSome]⟩,True):=by
 unfold JK
 simp only [Qw,Pr,Q.key,←NG m k 0]
 cases PZ m k 0 <;> simp
theorem ku {z:Value}(m:List (κ×β×Nat))(k:κ):JK tt kt z (Q.ek k) (m.map (L6 Q.ek ev)) false=(((GH m k).map ev).getD z,True):=by
 unfold JK
 simp only [Qw,Pr,Q.key,←NG m k 0]
 cases PZ m k 0 <;> simp
def Fp (tt:AM)(kt:TypeId)(b:Nat)(k x:Value)(es:List MapEntry)(CG:Nat):Option A6:=match KM tt 64 kt k with
 |true=>match HZ tt kt k es 0 with
  |some (some (j,_))=>match es[j]? with
   |some e0=>match plain 8 k && plain 8 e0.key && Instr.sameBits 10000 e0.key k with
    |true=>some [(b,some (.map (es.set j {e0 with key:=k,val:=x}) CG))]
    |false=>none
   |none=>none
  |some none=>some [(b,some (.map (es ++ [{key:=k,val:=x,born:=CG}]) (CG+1)))]
  |none=>none
 |false=>none
theorem KN {hp:Hp}{t et:TypeId}{ki:TI}{b:Nat}{k x:Value}(ht:kindOf tt t=some (.map kt et))(hk:tt kt=some ki) :
  ET tt hp t (.map (some b)) k x=(match hp b with
   |some (.map es CG)=>Fp tt kt b k x es CG
   |_=>none):=by
 obtain ⟨i,hi,hd⟩:=Aa ht
 unfold ET Fp
 simp only [hi,hd]
 cases hp b with
 |none=>rfl
 |some o=>cases o with
  |map es CG=>simp only [hk];cases KM tt 64 kt k <;> rfl
  |_=>rfl
theorem OH (b:Nat)(m:List (κ×β×Nat))(CG:Nat)(k:κ)(v:β):Fp tt kt b (Q.ek k) (ev v) (m.map (L6 Q.ek ev)) CG=some [(b,some (.map ((KO m k v CG).map (L6 Q.ek ev)) (U7 m k CG)))]:=by
 unfold Fp
 simp only [Q.key,Pr]
 unfold U7
 rw [←NG m k 0]
 cases hx:PZ m k 0 with
 |none=>
  obtain ⟨h1,h2,h3⟩:=TM m k 0 hx
  simp only [Option.map_none,h2,List.map_append,List.map_cons,List.map_nil]
  rfl
 |some p=>
  obtain ⟨q,b0,h1,h2,h3,h4⟩:=bV m k 0 p.1 p.2 hx
  simp only [Option.map_some,h1,Nat.zero_add,List.getElem?_map,h2,L6,Q.pl,Q.bits,Bool.and_self,h3,List.map_set]
end
theorem RQ {κ β:Type}{ρ:Nat→Nat}{ek:κ→Value}{ev:β→Value}(hk:∀a,Ao ρ (ek a)=ek a)(hv:∀a,Ao ρ (ev a)=ev a)(m:List (κ×β×Nat)):(m.map (L6 ek ev)).map (RP ρ)=m.map (L6 ek ev):=by
 rw [List.map_map]
 apply List.map_congr_left
 intro x _
 simp only [Function.comp,L6,RP,hk,hv]
theorem PJ {l:List Value}{n:Nat}(h:∀v∈l,Instr.sameBits n v v=true):Instr.sameBits (n+1) (.agg ⟨l⟩) (.agg ⟨l⟩)=true:=by
 have:∀l:List Value,(∀v∈l,Instr.sameBits n v v=true)→(l.zip l).all (fun (x,y)=>Instr.sameBits n x y)=true:=by
  intro l
  induction l with
  |nil=>intro _;rfl
  |cons a l ih=>
   intro h
   simp only [List.zip_cons_cons,List.all_cons,h a (List.mem_cons_self ..),Bool.true_and]
   exact ih fun v hv=>h v (List.mem_cons_of_mem _ hv)
 simp only [Instr.sameBits,beq_self_eq_true,Bool.true_and]
 exact this l h
end Go.Dm
namespace Go.Dm
def MH:List (Nat×Nat)→Nat→Nat→Bool
 | [],_,_=>false
 | (a,b) :: l,i,k=>match Nat.beq a i,Nat.beq b k with
  |true,true=>true
  |_,_=>MH l i k
structure mj where
 i:Nat
 g:Bool
 fr:Cx
 op:Op
 v:Value
def MJ (tt:AM)(G:FuncId→BE)(un:List (Nat×Nat))(k:Nat)(hp:Hp):List mj→Prop
 | []=>True
 |e :: rs=>(if MH un e.i k=true then (e.g=true→(pv tt G e.fr hp e.op).2∧(pv tt G e.fr hp e.op).1=e.v)∧MJ tt G un k hp rs else MJ tt G un k hp rs)
def Iy (tt:AM)(G:FuncId→BE)(un:List (Nat×Nat))(i:Nat)(fr:Cx)(op:Op)(v:Value):List (Nat×Hp)→Prop
 | []=>True
 | (k,hp) :: vs=>(if MH un i k=true then ((pv tt G fr hp op).2∧(pv tt G fr hp op).1=v)∧Iy tt G un i fr op v vs else Iy tt G un i fr op v vs)
def TB:List (Nat×Nat)→Nat→Bool
 | [],_=>false
 | (a,_) :: l,i=>match Nat.beq a i with
  |true=>true
  |false=>TB l i
def QN (un:List (Nat×Nat))(e:mj)(rs:List mj):List mj:=match TB un e.i with
 |true=>e :: rs
 |false=>rs
def LR (tt:AM)(G:FuncId→BE)(all:List Oper)(un:List (Nat×Nat)):Nat→List Oper→List mj→List (Nat×Hp)→(SS→Prop)→SS→Prop
 |_, [],_,_,K,s=>K s
 |i,o :: os,rs,vs,K,s=>(Ak all s.fr o.guard).2∧(match GQ G o.op with
  |true=>(if (Ak all s.fr o.guard).1=true then (C0 tt G s.fr s.hp s.top o.op).ob∧MJ tt G un i (s.hp.Ac (C0 tt G s.fr s.hp s.top o.op).us) rs∧
     LR tt G all un (i+1) os rs ((i,s.hp) :: vs) K ⟨Bi s.fr o.dst (C0 tt G s.fr s.hp s.top o.op).v true,s.hp.Ac (C0 tt G s.fr s.hp s.top o.op).us,(C0 tt G s.fr s.hp s.top o.op).top⟩
    else LR tt G all un (i+1) os rs vs K ⟨Bi s.fr o.dst undef false,s.hp,s.top⟩)
  |false=>((Ak all s.fr o.guard).1=true→(pv tt G s.fr s.hp o.op).2∧Iy tt G un i s.fr o.op (pv tt G s.fr s.hp o.op).1 vs)∧
    LR tt G all un (i+1) os (QN un ⟨i,(Ak all s.fr o.guard).1,s.fr,o.op,(pv tt G s.fr s.hp o.op).1⟩ rs) vs K ⟨Bi s.fr o.dst (pv tt G s.fr s.hp o.op).1 (Ak all s.fr o.guard).1,s.hp,s.top⟩)
theorem jH {un:List (Nat×Nat)}{i k:Nat}(h:MH un i k=true):TB un i=true:=by
 induction un with
 |nil=>cases h
 |cons p l ih=>
  obtain ⟨a,b⟩:=p
  unfold MH at h
  unfold TB
  cases ha:Nat.beq a i with
  |true=>rfl
  |false=>rw [ha] at h;exact ih h
theorem Ym {tt:AM}{G:FuncId→BE}{un:List (Nat×Nat)}{k:Nat}{hp:Hp}:∀ {rs:List mj},MJ tt G un k hp rs→∀e∈rs,MH un e.i k=true→e.g=true→(pv tt G e.fr hp e.op).2∧(pv tt G e.fr hp e.op).1=e.v:=by
 intro rs
 induction rs with
 |nil=>intro _ e he;cases he
 |cons a rs ih=>
  intro h e he hu hg
  unfold MJ at h
  cases he with
  |head=>
   rw [if_pos hu] at h
   exact h.1 hg
  |tail _ he=>
   split at h
   ·exact ih h.2 e he hu hg
   ·exact ih h e he hu hg
theorem WO {tt:AM}{G:FuncId→BE}{un:List (Nat×Nat)}{i:Nat}{fr:Cx}{op:Op}{v:Value}:∀ {vs:List (Nat×Hp)},Iy tt G un i fr op v vs→∀p∈vs,MH un i p.1=true→(pv tt G fr p.2 op).2∧(pv tt G fr p.2 op).1=v:=by
 intro vs
 induction vs with
 |nil=>intro _ e he;cases he
 |cons a vs ih=>
  intro h e he hu
  obtain ⟨k,hp⟩:=a
  unfold Iy at h
  cases he with
  |head=>
   rw [if_pos hu] at h
   exact h.1
  |tail _ he=>
   split at h
   ·exact ih h.2 e he hu
   ·exact ih h e he hu
structure DXF (tt:AM) (G:FuncId→BE) (all:List Oper) (un:List (Nat×Nat)) (i:Nat) (os:List Oper) (rs:List mj) (vs:List (Nat×Hp)) (s:SS):Prop where
 step:∀k o,os[k]? = some o→DF tt G all o (Hu tt G all os s k) (Hu tt G all os s (k+1))
 bO:∀e∈rs,∀k o,os[k]? = some o→GQ G o.op=true→(Ak all (Hu tt G all os s k).fr o.guard).1=true→MH un e.i (i+k)=true→e.g=true→
  (pv tt G e.fr (Hu tt G all os s (k+1)).hp e.op).2∧(pv tt G e.fr (Hu tt G all os s (k+1)).hp e.op).1=e.v
 Ua:∀p∈vs,∀k o,os[k]? = some o→GQ G o.op=false→(Ak all (Hu tt G all os s k).fr o.guard).1=true→MH un (i+k) p.1=true→
  (pv tt G (Hu tt G all os s k).fr p.2 o.op).2∧(pv tt G (Hu tt G all os s k).fr p.2 o.op).1=(pv tt G (Hu tt G all os s k).fr (Hu tt G all os s k).hp o.op).1
 late:∀q k oq ok,q < k→os[q]? = some oq→os[k]? = some ok→GQ G oq.op=false→(Ak all (Hu tt G all os s q).fr oq.guard).1=true→GQ G ok.op=true→(Ak all (Hu tt G all os s k).fr ok.guard).1=true→MH un (i+q) (i+k)=true→
  (pv tt G (Hu tt G all os s q).fr (Hu tt G all os s (k+1)).hp oq.op).2∧(pv tt G (Hu tt G all os s q).fr (Hu tt G all os s (k+1)).hp oq.op).1=(pv tt G (Hu tt G all os s q).fr (Hu tt G all os s q).hp oq.op).1
 early:∀q k oq ok,q < k→os[q]? = some oq→os[k]? = some ok→GQ G oq.op=true→(Ak all (Hu tt G all os s q).fr oq.guard).1=true→GQ G ok.op=false→(Ak all (Hu tt G all os s k).fr ok.guard).1=true→MH un (i+k) (i+q)=true→
  (pv tt G (Hu tt G all os s k).fr (Hu tt G all os s q).hp ok.op).2∧(pv tt G (Hu tt G all os s k).fr (Hu tt G all os s q).hp ok.op).1=(pv tt G (Hu tt G all os s k).fr (Hu tt G all os s k).hp ok.op).1
theorem WN {tt:AM}{G:FuncId→BE}{all:List Oper}{un:List (Nat×Nat)}{K:SS→Prop}:∀(os:List Oper) (i:Nat) (rs:List mj) (vs:List (Nat×Hp)) (s:SS),LR tt G all un i os rs vs K s→
  K (Hu tt G all os s os.length)∧DXF tt G all un i os rs vs s:=by
 intro os
 induction os with
 |nil=>intro i rs vs s h;exact ⟨h,⟨fun k o hk=>by simp at hk,fun e he k o hk=>by simp at hk,fun p hp k o hk=>by simp at hk,fun q k oq ok hq h1=>by simp at h1,fun q k oq ok hq h1=>by simp at h1⟩⟩
 |cons o os ih=>
  intro i rs vs s h
  obtain ⟨h1,h2⟩:=h
  have z:∀n,Hu tt G all (o :: os) s (n+1)=Hu tt G all os (OL tt G all o s) n:=fun n=>rfl
  have z0:Hu tt G all (o :: os) s 0=s:=rfl
  have sh:∀n:Nat,i+(n+1)=(i+1)+n:=fun n=>by omega
  cases hw:GQ G o.op with
  |true=>
   rw [hw] at h2
   dsimp only at h2
   cases hg:(Ak all s.fr o.guard).1 with
   |true=>
    rw [if_pos hg] at h2
    obtain ⟨h3,h4,h5⟩:=h2
    have hn:OL tt G all o s=⟨Bi s.fr o.dst (C0 tt G s.fr s.hp s.top o.op).v true,s.hp.Ac (C0 tt G s.fr s.hp s.top o.op).us,(C0 tt G s.fr s.hp s.top o.op).top⟩:=by simp only [OL,hw,hg]
    rw [←hn] at h5
    obtain ⟨hK,F⟩:=ih _ _ _ _ h5
    refine ⟨hK,⟨?_, ?_, ?_, ?_, ?_⟩⟩
    ·intro k p hk
     cases k with
     |zero=>
      simp at hk;subst hk
      rw [z,z0,FL]
      exact ⟨h1,fun _ _=>h3,fun e=>(by rw [hw] at e;cases e),rfl⟩
     |succ k=>exact F.step k p (by simpa using hk)
    ·intro e he k p hk hwp hgp hu heg
     cases k with
     |zero=>
      simp at hk;subst hk
      rw [z,FL,hn]
      exact Ym h4 e he (by simpa using hu) heg
     |succ k=>exact F.bO e he k p (by simpa using hk) hwp hgp (by rw [←sh];exact hu) heg
    ·intro e he k p hk hwp hgp hu
     cases k with
     |zero=>
      simp at hk;subst hk
      rw [hw] at hwp;cases hwp
     |succ k=>exact F.Ua e (List.mem_cons_of_mem _ he) k p (by simpa using hk) hwp hgp (by rw [←sh];exact hu)
    ·intro q k oq ok hqk hq hk hwq hgq hwk hgk hu
     cases k with
     |zero=>omega
     |succ k=>
      cases q with
      |zero=>
       simp at hq;subst hq
       rw [hw] at hwq;cases hwq
      |succ q=>exact F.late q k oq ok (by omega) (by simpa using hq) (by simpa using hk) hwq hgq hwk hgk (by rw [←sh,←sh];exact hu)
    ·intro q k oq ok hqk hq hk hwq hgq hwk hgk hu
     cases k with
     |zero=>omega
     |succ k=>
      cases q with
      |zero=>
       simp at hq;subst hq
       exact F.Ua (i,s.hp) (List.mem_cons_self ..) k ok (by simpa using hk) hwk hgk (by rw [←sh];simpa using hu)
      |succ q=>exact F.early q k oq ok (by omega) (by simpa using hq) (by simpa using hk) hwq hgq hwk hgk (by rw [←sh,←sh];exact hu)
   |false=>
    rw [if_neg (by rw [hg];simp)] at h2
    have hn:OL tt G all o s=⟨Bi s.fr o.dst undef false,s.hp,s.top⟩:=by simp only [OL,hw,hg]
    rw [←hn] at h2
    obtain ⟨hK,F⟩:=ih _ _ _ _ h2
    refine ⟨hK,⟨?_, ?_, ?_, ?_, ?_⟩⟩
    ·intro k p hk
     cases k with
     |zero=>
      simp at hk;subst hk
      rw [z,z0,FL]
      exact ⟨h1,fun _ e=>(by rw [hg] at e;cases e),fun e=>(by rw [hw] at e;cases e),rfl⟩
     |succ k=>exact F.step k p (by simpa using hk)
    ·intro e he k p hk hwp hgp hu heg
     cases k with
     |zero=>
      simp at hk;subst hk
      rw [z0,hg] at hgp;cases hgp
     |succ k=>exact F.bO e he k p (by simpa using hk) hwp hgp (by rw [←sh];exact hu) heg
    ·intro e he k p hk hwp hgp hu
     cases k with
     |zero=>
      simp at hk;subst hk
      rw [hw] at hwp;cases hwp
     |succ k=>exact F.Ua e he k p (by simpa using hk) hwp hgp (by rw [←sh];exact hu)
    ·intro q k oq ok hqk hq hk hwq hgq hwk hgk hu
     cases k with
     |zero=>omega
     |succ k=>
      cases q with
      |zero=>
       simp at hq;subst hq
       rw [hw] at hwq;cases hwq
      |succ q=>exact F.late q k oq ok (by omega) (by simpa using hq) (by simpa using hk) hwq hgq hwk hgk (by rw [←sh,←sh];exact hu)
    ·intro q k oq ok hqk hq hk hwq hgq hwk hgk hu
     cases k with
     |zero=>omega
     |succ k=>
      cases q with
      |zero=>
       simp at hq;subst hq
       rw [z0,hg] at hgq;cases hgq
      |succ q=>exact F.early q k oq ok (by omega) (by simpa using hq) (by simpa using hk) hwq hgq hwk hgk (by rw [←sh,←sh];exact hu)
  |false=>
   rw [hw] at h2
   dsimp only at h2
   obtain ⟨h3,h4⟩:=h2
   have hn:OL tt G all o s=⟨Bi s.fr o.dst (pv tt G s.fr s.hp o.op).1 (Ak all s.fr o.guard).1,s.hp,s.top⟩:=by simp only [OL,hw]
   rw [←hn] at h4
   obtain ⟨hK,F⟩:=ih _ _ _ _ h4
   have hold:∀e∈rs,e∈QN un ⟨i,(Ak all s.fr o.guard).1,s.fr,o.op,(pv tt G s.fr s.hp o.op).1⟩ rs:=by
    intro e he
    unfold QN
    split
    ·exact List.mem_cons_of_mem _ he
    ·exact he
   refine ⟨hK,⟨?_, ?_, ?_, ?_, ?_⟩⟩
   ·intro k p hk
    cases k with
    |zero=>
     simp at hk;subst hk
     rw [z,z0,FL]
     exact ⟨h1,fun e=>(by rw [hw] at e;cases e),fun _ e=>(h3 e).1,rfl⟩
    |succ k=>exact F.step k p (by simpa using hk)
   ·intro e he k p hk hwp hgp hu heg
    cases k with
    |zero=>
     simp at hk;subst hk
     rw [hw] at hwp;cases hwp
    |succ k=>exact F.bO e (hold e he) k p (by simpa using hk) hwp hgp (by rw [←sh];exact hu) heg
   ·intro e he k p hk hwp hgp hu
    cases k with
    |zero=>
     simp at hk;subst hk
     rw [z0]
     exact WO (h3 hgp).2 e he (by simpa using hu)
    |succ k=>exact F.Ua e he k p (by simpa using hk) hwp hgp (by rw [←sh];exact hu)
   ·intro q k oq ok hqk hq hk hwq hgq hwk hgk hu
    cases k with
    |zero=>omega
    |succ k=>
     cases q with
     |zero=>
      simp at hq;subst hq
      have hm:(⟨i,(Ak all s.fr o.guard).1,s.fr,o.op,(pv tt G s.fr s.hp o.op).1⟩:mj)∈QN un ⟨i,(Ak all s.fr o.guard).1,s.fr,o.op,(pv tt G s.fr s.hp o.op).1⟩ rs:=by
       have hh:TB un i=true:=jH (k:=i+(k+1)) (by simpa using hu)
       simp only [QN,hh,List.mem_cons,true_or]
      exact F.bO _ hm k ok (by simpa using hk) hwk hgk (by rw [←sh];simpa using hu) hgq
     |succ q=>exact F.late q k oq ok (by omega) (by simpa using hq) (by simpa using hk) hwq hgq hwk hgk (by rw [←sh,←sh];exact hu)
   ·intro q k oq ok hqk hq hk hwq hgq hwk hgk hu
    cases k with
    |zero=>omega
    |succ k=>
     cases q with
     |zero=>
      simp at hq;subst hq
      rw [hw] at hwq;cases hwq
     |succ q=>exact F.early q k oq ok (by omega) (by simpa using hq) (by simpa using hk) hwq hgq hwk hgk (by rw [←sh,←sh];exact hu)
def rA (G:FuncId→BE)(an:List Nat)(un:List (Nat×Nat))(all:List Oper):Bool:=(List.range all.length).all fun i=>match all[i]? with
 |none=>true
 |some o=>GQ G o.op || B3 o.op || (List.range all.length).all fun k=>match all[k]? with
  |none=>true
  |some p=> !GQ G p.op || MH un i k || (match Nat.ble (k+1) i with
   |true=>bit (an.getD i 0) k
   |false=>bit (an.getD k 0) i)
noncomputable def Z6 (G:FuncId→BE)(un:List (Nat×Nat))(ops:List Oper):Bool:=match cw ops [] with
 |none=>false
 |some an=>distinct (Bn ops 0) && Px ops && NT an (Bn ops 0) ops ops 0 && rT G an ops && rA G an un ops
theorem fZ {G:FuncId→BE}{an:List Nat}{un:List (Nat×Nat)}{all:List Oper}(h:rA G an un all=true):∀i k oi ok,all[i]? = some oi→all[k]? = some ok→GQ G oi.op=false→B3 oi.op=false→GQ G ok.op=true→
  MH un i k=true∨((k < i→bit (an.getD i 0) k=true)∧(¬k < i→bit (an.getD k 0) i=true)):=by
 intro i k oi ok hi hk hwi hfi hwk
 have lt_of:∀(k:Nat) (o:Oper),all[k]? = some o→k < all.length:=fun k o h=>by
  rcases Nat.lt_or_ge k all.length with h2 | h2
  ·exact h2
  ·rw [List.getElem?_eq_none h2] at h;cases h
 unfold rA at h
 rw [List.all_eq_true] at h
 have:=h i (List.mem_range.2 (lt_of i oi hi))
 rw [hi] at this
 simp only [hwi,hfi,Bool.false_or,List.all_eq_true] at this
 have:=this k (List.mem_range.2 (lt_of k ok hk))
 rw [hk] at this
 simp only [hwk,Bool.not_true,Bool.false_or,Bool.or_eq_true] at this
 rcases this with h1 | h1
 ·exact .inl h1
 right
 constructor
 ·intro hlt
  have hb:Nat.ble (k+1) i=true:=Nat.ble_eq_true_of_le hlt
  rw [hb] at h1;exact h1
 ·intro hlt
  have hb:Nat.ble (k+1) i=false:=by
   cases hb:Nat.ble (k+1) i with
   |false=>rfl
   |true=>exact absurd (Nat.le_of_ble_eq_true hb) hlt
  rw [hb] at h1
  exact h1
section
variable{P:Program}{tt:AM}{G:FuncId→BE}{ops:Array Oper}{an:List Nat}{s0:SS}{sz:Nat}
open Classical in
theorem BB.AEb (F:BB P tt G ops an s0 sz)(un:List (Nat×Nat))(hun:rA G an un ops.toList=true)(hX:DXF tt G ops.toList un 0 ops.toList [] [] s0):Ni P tt G ops an s0 sz:=by
 refine ⟨F, ?_⟩
 intro i o ho hwb hg p hp hcomp
 have hilt:=BB.lt (ops:=ops) i o ho
 have S:=F.step i o ho
 have hpv:=S.r hwb hg
 have ltk:∀k,AW tt G ops s0 k→k < ops.size:=fun k ⟨ok,h1,_⟩=>BB.lt (ops:=ops) k ok h1
 have free:B3 o.op=true→IM o.op=false:=fun h=>by
  cases h2:IM o.op with
  |false=>rfl
  |true=>rw [jB hwb h2] at h;cases h
 -- the read at memory p
 have key:B3 o.op=false→(pv tt G (AX tt G ops s0 i).fr (AX tt G ops s0 p).hp o.op).2∧(pv tt G (AX tt G ops s0 i).fr (AX tt G ops s0 p).hp o.op).1=(pv tt G (AX tt G ops s0 i).fr (AX tt G ops s0 i).hp o.op).1:=by
  intro hf
  have un':∀k,AW tt G ops s0 k→((k < i∧¬k < p)∨(¬k < i∧k < p))→MH un i k=true:=by
   intro k hk hc
   obtain ⟨ok,h1,h2,h3⟩:=hk
   obtain ⟨c1,c2⟩:=hcomp k ok h1 ⟨ok,h1,h2,h3⟩
   rcases fZ hun i k o ok (by simpa using ho) (by simpa using h1) hwb hf h2 with h4 | ⟨h4,h5⟩
   ·exact h4
   ·rcases hc with ⟨a,b⟩ | ⟨a,b⟩
    ·exact absurd (c1 (h4 a)) b
    ·have:=h5 a;rw [c2 b] at this;cases this
  rcases Nat.le_total i p with hip | hip
  ·by_cases hex:∃k,AW tt G ops s0 k∧i≤k∧k < p
   ·-- the last writer ahead of p
    have:∃k,(AW tt G ops s0 k∧i≤k∧k < p)∧∀k',AW tt G ops s0 k'→i≤k'→k' < p→k'≤k:=by
     have hb:∀n,(∃k,AW tt G ops s0 k∧i≤k∧k < n)→∃k,(AW tt G ops s0 k∧i≤k∧k < n)∧∀k',AW tt G ops s0 k'→i≤k'→k' < n→k'≤k:=by
      intro n
      induction n with
      |zero=>rintro ⟨k,_,_,h⟩;omega
      |succ n ih=>
       intro h
       by_cases hn:AW tt G ops s0 n∧i≤n
       ·exact ⟨n,⟨hn.1,hn.2,by omega⟩,fun k' _ _ h=>by omega⟩
       ·obtain ⟨k,h1,h2,h3⟩:=h
        have hkn:k≠n:=fun e=>hn (e ▸ ⟨h1,h2⟩)
        obtain ⟨m,⟨m1,m2,m3⟩,m4⟩:=ih ⟨k,h1,h2,by omega⟩
        refine ⟨m,⟨m1,m2,by omega⟩,fun k' h1 h2 h3=> ?_⟩
        have:k'≠n:=fun e=>hn (e ▸ ⟨h1,h2⟩)
        exact m4 k' h1 h2 (by omega)
     exact hb p hex
    obtain ⟨k,⟨k1,k2,k3⟩,k4⟩:=this
    have hgp:=F.di hp (show k+1≤ops.size from ltk k k1) (fun k' hk'=>by
     constructor
     ·intro h
      rcases Nat.lt_or_ge k' i with h5 | h5
      ·omega
      ·have:=k4 k' hk' h5 h;omega
     ·intro h;omega)
    rw [hgp.1]
    obtain ⟨ok,h1,h2,h3⟩:=k1
    have hne:i≠k:=fun e=>by subst e;rw [ho] at h1;cases h1;rw [hwb] at h2;cases h2
    exact hX.late i k o ok (by omega) (by simpa using ho) (by simpa using h1) hwb hg h2 h3 (by simpa using un' k ⟨ok,h1,h2,h3⟩ (.inr ⟨by omega,k3⟩))
   ·have hgp:=F.di hp (Nat.le_of_lt hilt) (fun k' hk'=>by
     constructor
     ·intro h
      rcases Nat.lt_or_ge k' i with h5 | h5
      ·exact h5
      ·exact absurd ⟨k',hk',h5,h⟩ hex
     ·intro h;omega)
    rw [hgp.1];exact ⟨hpv,rfl⟩
  ·by_cases hex:∃k,AW tt G ops s0 k∧p≤k∧k < i
   ·have:∃k,(AW tt G ops s0 k∧p≤k∧k < i)∧∀k',AW tt G ops s0 k'→p≤k'→k' < i→k≤k':=by
     have hb:∀d n,n+d=i→(∃k,AW tt G ops s0 k∧n≤k∧k < i)→∃k,(AW tt G ops s0 k∧n≤k∧k < i)∧∀k',AW tt G ops s0 k'→n≤k'→k' < i→k≤k':=by
      intro d
      induction d with
      |zero=>rintro n hn ⟨k,_,h1,h2⟩;omega
      |succ d ih=>
       intro n hn h
       by_cases hc:AW tt G ops s0 n
       ·exact ⟨n,⟨hc,by omega,by omega⟩,fun k' _ h _=>h⟩
       ·obtain ⟨k,h1,h2,h3⟩:=h
        have hkn:k≠n:=fun e=>hc (e ▸ h1)
        obtain ⟨m,⟨m1,m2,m3⟩,m4⟩:=ih (n+1) (by omega) ⟨k,h1,by omega,h3⟩
        refine ⟨m,⟨m1,by omega,m3⟩,fun k' h1 h2 h3=> ?_⟩
        have:k'≠n:=fun e=>hc (e ▸ h1)
        exact m4 k' h1 (by omega) h3
     exact hb (i - p) p (by omega) hex
    obtain ⟨k,⟨k1,k2,k3⟩,k4⟩:=this
    have hgp:=F.di hp (Nat.le_of_lt (ltk k k1)) (fun k' hk'=>by
     constructor
     ·intro h;omega
     ·intro h
      rcases Nat.lt_or_ge k' p with h5 | h5
      ·exact h5
      ·have:=k4 k' hk' h5 (by omega);omega)
    rw [hgp.1]
    obtain ⟨ok,h1,h2,h3⟩:=k1
    exact hX.early k i ok o k3 (by simpa using h1) (by simpa using ho) h2 h3 hwb hg (by simpa using un' k ⟨ok,h1,h2,h3⟩ (.inl ⟨k3,by omega⟩))
   ·have hgp:=F.di hp (Nat.le_of_lt hilt) (fun k' hk'=>by
     constructor
     ·intro h;omega
     ·intro h
      rcases Nat.lt_or_ge k' p with h5 | h5
      ·exact h5
      ·exact absurd ⟨k',hk',h5,h⟩ hex)
    rw [hgp.1];exact ⟨hpv,rfl⟩
 constructor
 ·intro hiw
  cases hf:B3 o.op with
  |true=>rw [free hf] at hiw;cases hiw
  |false=>exact key hf
 ·intro hiw
  cases hf:B3 o.op with
  |true=>rw [Nt (hp':=(AX tt G ops s0 i).hp) hf];exact NM (P:=P) hiw hpv (fun _ _ e=>e)
  |false=>
   obtain ⟨k1,k2⟩:=key hf
   rw [←k2]
   exact NM (P:=P) hiw k1 (fun _ _ e=>e)
end
theorem CW.Db {P:Program}{tt:AM}{G:FuncId→BE}(E:Bp P tt G){sz base:Nat}{s:SS}{Q:Exit→SS→Prop}(id:Nat){ops:Array Oper}(Ax:List Nat)(un:List (Nat×Nat))(hdst:LS sz ops=true)(hdr:Z6 G un ops.toList=true)
  (h:LR tt G ops.toList un 0 ops.toList [] [] (XD Ax Q) s):CW P sz base (.region id ops true) s Q:=by
 unfold Z6 at hdr
 split at hdr
 ·cases hdr
 ·rename_i an han
  simp only [Bool.and_eq_true] at hdr
  obtain ⟨⟨⟨⟨hdis,hmo⟩,hsafe⟩,hww⟩,hrw⟩:=hdr
  obtain ⟨hQ,hX⟩:=WN _ _ _ _ _ h
  have hfacts:=hX.step
  have hmem:∀(k:Nat) (o:Oper) (d:Nat),ops[k]? = some o→o.dst=some d→(d,k)∈Bn ops.toList 0:=by
   intro k o d ho hd
   have:=PS ops.toList 0 k d o (by simpa using ho) hd
   simpa using this
  intro φ0 φ own ds w0 a w hb hle S
  have FB:BB P tt G ops an s sz:=by
   refine ⟨E,L5 hdst,Zn han,hmem, ?_, ?_,fun k o ho=>hfacts k o (by simpa using ho),fun j k oj ok hj hk h1 h2 h3=>(Tw hww j k oj ok (by simpa using hj) (by simpa using hk) h1 h2 h3).imp (fun h=>h) (fun h=>⟨h.1,fun i oi hi=>h.2 i oi (by simpa using hi)⟩),fun i o hi=>S.hr.lt S.top hi⟩
   ·intro d k k' h1 h2
    exact LQ _ hdis d k k' h1 h2 fun p hp q hq hpq=>PT ops.toList 0 p q hp hq hpq
   ·intro k o ho
    have:=NU an _ _ _ 0 hsafe k o (by simpa using ho)
    rw [Nat.zero_add] at this
    exact ⟨this.1,fun j want p d hg hp hd=>this.2 j want p d hg (by simpa using hp) hd⟩
  have F:Ni P tt G ops an s sz:=FB.AEb un hrw hX
  have hn:ops.toList.length=ops.size:=by simp
  rw [hn] at hQ
  have all:∀md,Jg md ops→wpAny P md ops (fun x a' w'=>x≠ .outgrown∧∃φ' s',φ0.le φ'∧HI φ' own sz ds w0 s' a' w'∧Q x s') ops.size (Array.replicate ops.size false) a {w with drawn:=w.drawn+1}:=by
   intro md hrk
   have hf:∀k,¬((Array.replicate ops.size false).getD k false=true):=by
    intro k hk
    simp [Array.getD_eq_getD_getElem?,Array.getElem?_replicate] at hk
    split at hk <;> simp at hk
   refine F.main (φ0:=φ) (own:=own) (ds:=ds) (w0:=w0) hrk ?_ ops.size _ φ 0 a _ (by simp) (Q4 _) (Ren.le_refl _) ?_ ?_
   ·intro φ' a' w' hle' S'
    exact ⟨nofun,φ',⟨G8 (AX tt G ops s ops.size).fr Ax,(AX tt G ops s ops.size).hp,(AX tt G ops s ops.size).top⟩,Ren.le_trans hle hle',S'.sub (Sub.Ax (AX tt G ops s ops.size) Ax),hQ⟩
   ·intro k o _ hk;exact absurd hk (hf k)
   ·exact Jf.start hf S
  have anyR:Jg .any ops:=⟨fun k=>k,fun k o hk e he hb=>by
   have h1:=F.xe.lt k o (by simpa using hk) e he hb
   have h2:k < ops.size:=by
    rcases Nat.lt_or_ge k ops.size with h | h
    ·exact h
    ·rw [Array.getElem?_eq_none h] at hk;cases hk
   exact ⟨by omega,h1⟩⟩
  refine Cr.PG (Jy hdst) (fun ⟨_,_,h,_⟩=>h rfl) fun t=> ?_
  unfold Region.schedule
  split
  ·exact wpAny_sound ops.size t _ a _ (all .any anyR)
  ·rename_i hnd
   have hd:Region.departs ops=true:=by
    cases hdp:Region.departs ops with
    |true=>rfl
    |false=>rw [hdp] at hnd;simp at hnd
   obtain ⟨r1,r2⟩:=NH hmo hd
   split
   ·exact wpAny_sound ops.size _ _ a _ (all .text r1)
   ·exact wpAny_sound ops.size _ _ a _ (all .gc r2)
section
variable {tt:AM} {G:FuncId→BE} {all os:List Oper} {un:List (Nat×Nat)} {o:Oper} {i:Nat} {rs:List mj} {vs:List (Nat×Hp)} {K:SS→Prop} {s:SS}
theorem dN:LR tt G all un i [] rs vs K s=K s:=rfl
theorem YW:LR tt G all un i (o :: os) rs vs K s=((Ak all s.fr o.guard).2∧(match GQ G o.op with
  |true=>(if (Ak all s.fr o.guard).1=true then (C0 tt G s.fr s.hp s.top o.op).ob∧MJ tt G un i (s.hp.Ac (C0 tt G s.fr s.hp s.top o.op).us) rs∧
     LR tt G all un (i+1) os rs ((i,s.hp) :: vs) K ⟨Bi s.fr o.dst (C0 tt G s.fr s.hp s.top o.op).v true,s.hp.Ac (C0 tt G s.fr s.hp s.top o.op).us,(C0 tt G s.fr s.hp s.top o.op).top⟩
    else LR tt G all un (i+1) os rs vs K ⟨Bi s.fr o.dst undef false,s.hp,s.top⟩)
  |false=>((Ak all s.fr o.guard).1=true→(pv tt G s.fr s.hp o.op).2∧Iy tt G un i s.fr o.op (pv tt G s.fr s.hp o.op).1 vs)∧
    LR tt G all un (i+1) os (QN un ⟨i,(Ak all s.fr o.guard).1,s.fr,o.op,(pv tt G s.fr s.hp o.op).1⟩ rs) vs K ⟨Bi s.fr o.dst (pv tt G s.fr s.hp o.op).1 (Ak all s.fr o.guard).1,s.hp,s.top⟩)):=rfl
end
end Go.Dm
namespace Go.Dm
theorem HR.stay {φ:Ren}{own:Nat→Prop}{hp:Hp}{w w':World}(H:HR φ own hp w)(hk:K (fun b=>w.heap.size≤b) w w'):HR φ own hp w':=by
 have same:∀b,b < w.heap.size→w'.heap[b]? = w.heap[b]? :=fun b hb=>hk.same b hb (by omega)
 refine ⟨?_,H.sep,H.D0,fun i L e=>Nat.lt_of_lt_of_le (H.val i L e) hk.size,fun b hb=>H.fresh b (Nat.le_trans hk.size hb)⟩
 intro i o e
 obtain ⟨L,h1,h2⟩:=H.obj i o e
 exact ⟨L,h1,by rw [same _ (H.val i L h1)];exact h2⟩
theorem K.VB {own:Nat→Prop}{w w':World}(hf:∀b,w.heap.size≤b→own b)(hk:K (fun b=>w.heap.size≤b) w w'):K own w w':=
 ⟨hk.size,fun b hb _=>hk.same b hb (by omega),hk.os,hk.tape,hk.output⟩
end Go.Dm
