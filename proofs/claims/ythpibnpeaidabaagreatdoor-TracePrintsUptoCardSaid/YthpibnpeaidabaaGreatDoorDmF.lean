import Derived.Test.YthpibnpeaidabaaGreatDoorDmE
set_option linter.unusedSimpArgs false
set_option linter.unusedVariables false
namespace Go.Dm
mutual
def Ax (ρ:Nat→Nat):Value→Value
 | .pointer (some ⟨b,o,s⟩)=> .pointer (some ⟨ρ b,o,s⟩)
 | .slice (some ⟨b,o,none⟩) n c=> .slice (some ⟨ρ b,o,none⟩) n c
 | .map (some b)=> .map (some (ρ b))
 | .agg ⟨l⟩=> .agg ⟨Bt ρ l⟩
 | .tuple ⟨l⟩=> .tuple ⟨Bt ρ l⟩
 | .iface t v=> .iface t (Ax ρ v)
 | .func f ⟨a⟩ ⟨b⟩=> .func f ⟨Bt ρ a⟩ ⟨Bt ρ b⟩
 |v=>v
def Bt (ρ:Nat→Nat):List Value→List Value
 | []=> []
 |v :: l=>Ax ρ v :: Bt ρ l
end
def mL (ρ:Nat→Nat)(e:MapEntry):MapEntry:= {e with key:=Ax ρ e.key,val:=Ax ρ e.val}
def I6 (ρ:Nat→Nat):Ay→Ay
 | .cells rw BO vs=> .cells rw BO (Bt ρ vs)
 | .map es clk=> .map (es.map (mL ρ)) clk
 | .iter s p=> .iter s p
 | .miter m since seen c=> .miter (ρ m) since seen c
 | .raw b vs=> .raw b vs
theorem FU (ρ:Nat→Nat):∀l,Bt ρ l=l.map (Ax ρ)
 | []=>rfl
 |v :: l=>by rw [Bt,FU ρ l];rfl
theorem S6 (ρ:Nat→Nat)(l m:List Value):Bt ρ (l ++ m)=Bt ρ l ++ Bt ρ m:=by simp only [FU,List.map_append]
theorem TX (ρ:Nat→Nat)(l:List Value):(Bt ρ l).length=l.length:=by simp only [FU,List.length_map]
def Ren.via (φ:Ren)(ρ:Nat→Nat):Ren:=fun j=>φ (ρ j)
mutual
theorem V.Dg {φ:Ren}{ρ:Nat→Nat}:∀ {v x:Value},V φ (Ax ρ v) x→V (φ.via ρ) v x:=by
 intro v x h
 match v with
 | .bool b=>cases h;exact .bool b
 | .int k n=>cases h;exact .int k n
 | .float k n=>cases h
 | .complex k a b=>cases h
 | .string s=>cases h;exact .str s
 | .pointer none=>cases h;exact .nilp
 | .pointer (some ⟨b,o,s⟩)=>
  simp only [Ax] at h
  cases h with
  |ptr _ _ L hL=>exact .ptr _ _ L hL
 | .slice none n c=>cases h;exact .nils
 | .slice (some ⟨b,o,none⟩) n c=>
  simp only [Ax] at h
  generalize hb:ρ b=b' at h
  cases h with
  |slice _ _ _ _ c' L hL hn hc hl=>exact .slice _ _ _ _ c' L (by rw [←hb] at hL;exact hL) hn hc hl
 | .slice (some ⟨b,o,some s⟩) n c=>
  have e:Ax ρ (.slice (some ⟨b,o,some s⟩) n c)= .slice (some ⟨b,o,some s⟩) n c:=by unfold Ax;rfl
  rw [e] at h
  cases h
  exact .emp _ _
 | .map none=>cases h;exact .nilm
 | .map (some b)=>
  simp only [Ax] at h
  cases h with
  |map _ L hL=>exact .map _ L hL
 | .chan r=>cases h
 | .func f ⟨a⟩ ⟨b⟩=>
  simp only [Ax] at h
  cases h with
  |func _ _ a' _ b' ha hb=>exact .func _ _ _ _ _ (Vs.Dg ha) (Vs.Dg hb)
 | .nilFunc=>cases h;exact .nilf
 | .iface t v=>
  simp only [Ax] at h
  cases h with
  |iface _ _ v' hv=>exact .iface _ _ _ (V.Dg hv)
 | .nilIface=>cases h;exact .nili
 | .agg ⟨l⟩=>
  simp only [Ax] at h
  cases h with
  |agg _ l' hl=>exact .agg _ _ (Vs.Dg hl)
 | .tuple ⟨l⟩=>
  simp only [Ax] at h
  cases h with
  |tuple _ l' hl=>exact .tuple _ _ (Vs.Dg hl)
theorem Vs.Dg {φ:Ren}{ρ:Nat→Nat}:∀ {l m:List Value},Vs φ (Bt ρ l) m→Vs (φ.via ρ) l m:=by
 intro l m h
 match l with
 | []=>cases h;exact .nil
 |v :: l=>
  simp only [Bt] at h
  cases h with
  |cons _ x _ m hx hm=>exact .cons _ _ _ _ (V.Dg hx) (Vs.Dg hm)
end
theorem Es.Dg {φ:Ren}{ρ:Nat→Nat}:∀ {l m:List MapEntry},Es φ (l.map (mL ρ)) m→Es (φ.via ρ) l m:=by
 intro l
 induction l with
 |nil=>intro m h;cases h;exact .nil
 |cons e l ih=>
  intro m h
  simp only [List.map_cons] at h
  cases h with
  |cons _ x _ m hx hm=>exact .cons _ _ _ _ ⟨V.Dg hx.key,V.Dg hx.val,hx.born⟩ (ih hm)
theorem DH.Dg {φ:Ren}{ρ:Nat→Nat}{L:Loc}{o:Ay}{x:Option Obj}(h:DH φ L (I6 ρ o) x):DH (φ.via ρ) L o x:=by
 cases o with
 |cells rw BO vs=>
  obtain ⟨he,c,t,fz,h1,h2,h3,h4,h5⟩:=h
  rw [TX] at h3 h4
  exact ⟨he,c,t,fz,h1,h2,h3,Vs.Dg h4,h5⟩
 |map es clk=>obtain ⟨es',h1,h2⟩:=h;exact ⟨es',h1,Es.Dg h2⟩
 |iter s pos=>exact h
 |miter m since seen c=>exact h
 |raw b vs=>exact h
theorem Xo (ρ:Nat→Nat)(o:Ay):(I6 ρ o).rw=o.rw:=by cases o <;> rfl
structure Ao (ρ:Nat→Nat) (base:Nat) (s' s:SS):Prop where
 low:∀j,j < base→ρ j=j
 high:∀j,s'.top≤j→s.top≤ρ j
 inj:∀i j,i < s'.top→j < s'.top→ρ i=ρ j→i=j
 fr:∀t v,GY s'.fr t=some v→GY s.fr t=some (Ax ρ v)
 hp:∀i o,s'.hp i=some o→s.hp (ρ i)=some (I6 ρ o)
theorem HR.Dg {φ:Ren}{own:Nat→Prop}{w:World}{hp hp':Hp}{top top':Nat}{ρ:Nat→Nat}(H:HR φ own hp w)(htop:∀j,top≤j→φ j=none)
  (high:∀j,top'≤j→top≤ρ j) (inj:∀i j,i < top'→j < top'→ρ i=ρ j→i=j) (hh:∀i o,hp' i=some o→hp (ρ i)=some (I6 ρ o)):HR (φ.via ρ) own hp' w:=by
 have dom:∀i o,hp' i=some o→i < top':=by
  intro i o e
  rcases Nat.lt_or_ge i top' with h | h
  ·exact h
  ·obtain ⟨L,h1,_⟩:=H.obj _ _ (hh i o e)
   rw [htop _ (high i h)] at h1;cases h1
 refine ⟨?_, ?_, ?_, ?_,H.fresh⟩
 ·intro i o e
  obtain ⟨L,h1,h2⟩:=H.obj _ _ (hh i o e)
  exact ⟨L,h1,DH.Dg h2⟩
 ·intro i j oi oj Li Lj hi hj hne hrw hLi hLj
  exact H.sep (ρ i) (ρ j) _ _ Li Lj (hh _ _ hi) (hh _ _ hj) (fun e=>hne (inj i j (dom _ _ hi) (dom _ _ hj) e)) (by rw [Xo];exact hrw) hLi hLj
 ·intro i o L e hrw hL
  exact H.DC _ _ L (hh _ _ e) (by rw [Xo];exact hrw) hL
 ·intro i L hL
  exact H.val (ρ i) L hL
theorem Ha.gP {φ:Ren}{own:Nat→Prop}{sz:Nat}{ds:List Deferred}{w0:World}{s s':SS}{a:Act}{w:World}{ρ:Nat→Nat}{base:Nat}(S:Ha φ own sz ds w0 s a w)(h:Ao ρ base s' s):Ha (φ.via ρ) own sz ds w0 s' a w:=
 ⟨⟨fun t v e=>V.Dg (S.fr.val t _ (h.fr t v e)),S.fr.size⟩,S.hr.Dg S.top h.high h.inj h.hp,fun j hj=>S.top _ (h.high j hj),S.k,S.ds⟩
theorem Ao.le {φ0 φ:Ren}{ρ:Nat→Nat}{base:Nat}{s s':SS}(h:Ao ρ base s' s)(hb:∀j,base≤j→φ0 j=none)(hle:φ0.le φ):φ0.le (φ.via ρ):=by
 intro i L e
 have hi:i < base:=by
  rcases Nat.lt_or_ge i base with h | h
  ·exact h
  ·rw [hb i h] at e;cases e
 unfold Ren.via
 rw [h.low i hi];exact hle _ _ e
theorem CW.QL {P:Program}{sz base:Nat}{c:Code}{s s':SS}{Q:Exit→SS→Prop}{ρ:Nat→Nat}(hs:Ao ρ base s' s)(h:CW P sz base c s' Q):CW P sz base c s Q:=by
 intro φ0 φ own ds w0 a w hb hle S
 exact h φ0 _ own ds w0 a w hb (hs.le hb hle) (S.gP hs)
def Round {α:Type}(base:Nat)(S:α→SS)(I:α→Prop)(μ:α→Nat)(x:α)(s':SS):Prop:= ∃y,I y∧μ y < μ x∧∃ρ,Ao ρ base (S y) s'
theorem Round.mk {α:Type}{base:Nat}{S:α→SS}{I:α→Prop}{μ:α→Nat}{x:α}{s':SS}(y:α)(hI:I y)(hμ:μ y < μ x)(hS:∃ρ,Ao ρ base (S y) s'):Round base S I μ x s':=⟨y,hI,hμ,hS⟩
theorem CW.Bs {P:Program}{sz base:Nat}{c:Code}{s:SS}{Q:Exit→SS→Prop}{α:Type}(S:α→SS)(I:α→Prop)(μ:α→Nat)(x0:α)(h0:I x0)(hs:∃ρ,Ao ρ base (S x0) s)
  (h:∀x,I x→CW P sz base c (S x) (KP (Round base S I μ x) Q)):CW P sz base (.loop c) s Q:=by
 intro φ0 φ own ds w0 a w hb hle S0
 have key:∀(m:Nat) (x:α) (φ:Ren) (a:Act) (w:World),I x→μ x≤m→φ0.le φ→Ha φ own sz ds w0 (S x) a w→
   F6 P c (fun x a' w'=>x≠ .outgrown∧∃φ' s',φ0.le φ'∧Ha φ' own sz ds w0 s' a' w'∧Q x s') (m+1) a w:=by
  intro m
  induction m with
  |zero=>
   intro x φ a w hI hm hle S1
   rw [FC]
   refine B8.mono (h x hI φ0 φ own ds w0 a w hb hle S1) ?_
   rintro e a' w' ⟨hx,φ',s',h1,h2,h3⟩
   cases e with
   |normal=>obtain ⟨y,_,hlt,_⟩:=h3;omega
   |_=>exact ⟨hx,φ',s',h1,h2,h3⟩
  |succ m ih=>
   intro x φ a w hI hm hle S1
   rw [FC]
   refine B8.mono (h x hI φ0 φ own ds w0 a w hb hle S1) ?_
   rintro e a' w' ⟨hx,φ',s',h1,h2,h3⟩
   cases e with
   |normal=>
    obtain ⟨y,hy,hlt,ρ,hsub⟩:=h3
    exact ih y _ a' w' hy (by omega) (hsub.le hb h1) (h2.gP hsub)
   |_=>exact ⟨hx,φ',s',h1,h2,h3⟩
 obtain ⟨ρ,hs⟩:=hs
 exact B8.LP (μ x0+1) (key (μ x0) x0 _ a w h0 (Nat.le_refl _) (hs.le hb hle) (S0.gP hs))
def mn (tt:AO)(rs:List ResultVar)(post:Value→Hp→Nat→Prop):Exit→SS→Prop
 | .normal,s=>Fg tt s.fr s.hp rs∧post (Hq (JZ tt s.fr s.hp rs)) s.hp s.top
 | .ret,s=>Fg tt s.fr s.hp rs∧post (Hq (JZ tt s.fr s.hp rs)) s.hp s.top
 |_,_=>False
theorem AK.Ar {P:Program}{tt:AO}(htt:CO P tt){f:FuncId}{fn:Func}(F:An P f fn){c:Code}(hc:fn.body=some c)(n:Nat)(hn:fn.ntmps=n)(rs:List ResultVar)(hrs:fn.results.toList=rs)
  {args:List Value} {hp:Hp} {top:Nat} {post:Value→Hp→Nat→Prop} (hle:args.length≤n)
  (h:CW P n top c ⟨JB args 0,hp,top⟩ (mn tt rs post)):AK P f args hp top post:=by
 refine AK.jK htt F hc n hn rs hrs hle (h.mono ?_)
 intro x s h
 cases x with
 |normal=>exact ⟨.inl rfl,h⟩
 |ret=>exact ⟨.inr rfl,h⟩
 |_=>exact h.elim
section
variable {P:Program} {tt:AO} {G:FuncId→BG} {sz base:Nat} {BN:List Nat} {Q:Exit→SS→Prop} {K:SS→Prop} {s:SS} {a b:Code} {id j:Nat} {ops:Array Oper} {all os:List Oper} {o:Oper} {x:Operand}
theorem nH:vc P tt G sz base BN .skip Q s=Q .normal s:=rfl
theorem q9:vc P tt G sz base BN (.region id ops false) Q s=P3 tt G ops.toList ops.toList (YO BN Q) s:=rfl
theorem oW:vc P tt G sz base BN (.region id ops true) Q s=(if LG BN id=true then CW P sz base (.region id ops true) s Q else Ks tt G ops.toList ops.toList (YO BN Q) s):=by
 show (match LG BN id with | true=>_ | false=>_)=_
 cases LG BN id <;> simp
theorem VD {g:Bool}{A B:Prop}:((g=true→A)∧(g=false→B))=(if g=true then A else B):=by
 cases g <;> simp
structure JN (v:Bool) (K1 K2:SS→Prop) (s:SS):Prop where
 h1:v=true→K1 s
 h2:v=false→K2 s
theorem mD {K1 K2:SS→Prop}:JN true K1 K2 s=K1 s:=propext ⟨fun h=>h.h1 rfl,fun h=>⟨fun _=>h,fun e=>by cases e⟩⟩
theorem jn {K1 K2:SS→Prop}:JN false K1 K2 s=K2 s:=propext ⟨fun h=>h.h2 rfl,fun h=>⟨fun e=>(by cases e),fun _=>h⟩⟩
structure Vc (P:Program) (tt:AO) (G:FuncId→BG) (sz base:Nat) (BN:List Nat) (c:Code) (Q:Exit→SS→Prop) (s:SS):Prop where
 h:vc P tt G sz base BN c Q s
theorem Vc.mk' (h:vc P tt G sz base BN a Q s):Vc P tt G sz base BN a Q s:=⟨h⟩
theorem ma:vc P tt G sz base BN (.seq a b) Q s=vc P tt G sz base BN a (KP (Vc P tt G sz base BN b Q) Q) s:=by
 have:vc P tt G sz base BN b Q=Vc P tt G sz base BN b Q:=funext fun s=>propext ⟨fun h=>⟨h⟩,fun h=>h.h⟩
 rw [←this];rfl
theorem mh:vc P tt G sz base BN (.cond x a b) Q s=(av s.fr x∧Wb (Bz s.fr x).1∧JN (CF (Bz s.fr x).1) (vc P tt G sz base BN a Q) (vc P tt G sz base BN b Q) s):=
 propext ⟨fun ⟨h1,h2,h3,h4⟩=>⟨h1,h2,⟨h3,h4⟩⟩,fun ⟨h1,h2,h3⟩=>⟨h1,h2,h3.h1,h3.h2⟩⟩
theorem gC:vc P tt G sz base BN (.block id b) Q s=vc P tt G sz base BN b (Gx id Q) s:=rfl
theorem mg:vc P tt G sz base BN (.loop b) Q s=CW P sz base (.loop b) s Q:=rfl
theorem lH:vc P tt G sz base BN (.exit id) Q s=Q (.exit id) s:=rfl
theorem rz:vc P tt G sz base BN .ret Q s=Q .ret s:=rfl
theorem eJ:vc P tt G sz base BN (.label id) Q s=Q .normal s:=rfl
theorem cN:P3 tt G all [] K s=K s:=rfl
theorem ZI:P3 tt G all (o :: os) K s=((Ah all s.fr o.guard).2∧Ow tt G (Ah all s.fr o.guard).1 o s (P3 tt G all os K)):=rfl
theorem ck:Ks tt G all [] K s=K s:=rfl
theorem Yr:Ks tt G all (o :: os) K s=((Ah all s.fr o.guard).2∧(match E3 G o.op with
  |true=>(if (Ah all s.fr o.guard).1=true then (CI tt G s.fr s.hp s.top o.op).ob∧
     Ks tt G all os K ⟨Bl s.fr o.dst (CI tt G s.fr s.hp s.top o.op).v true,s.hp.Al (CI tt G s.fr s.hp s.top o.op).us,(CI tt G s.fr s.hp s.top o.op).top⟩
    else Ks tt G all os K ⟨Bl s.fr o.dst undef false,s.hp,s.top⟩)
  |false=>((Ah all s.fr o.guard).1=true→(pv tt G s.fr s.hp o.op).2)∧Ks tt G all os K ⟨Bl s.fr o.dst (pv tt G s.fr s.hp o.op).1 (Ah all s.fr o.guard).1,s.hp,s.top⟩)):=by
 rw [←VD];rfl
theorem oQ:KP K Q .normal s=K s:=rfl
theorem nX:KP K Q .ret s=Q .ret s:=rfl
theorem oH:KP K Q (.exit j) s=Q (.exit j) s:=rfl
theorem dJ:Gx id Q .normal s=Q .normal s:=rfl
theorem bI:Gx id Q .ret s=Q .ret s:=rfl
theorem dy:Gx id Q (.exit j) s=(if j=id then Q .normal s else Q (.exit j) s):=rfl
theorem mo:YO BN Q s=Q .normal ⟨FW s.fr BN,s.hp,s.top⟩:=rfl
theorem tH {rs:List ResultVar}{post:Value→Hp→Nat→Prop}:mn tt rs post .normal s=(Fg tt s.fr s.hp rs∧post (Hq (JZ tt s.fr s.hp rs)) s.hp s.top):=rfl
theorem r0 {rs:List ResultVar}{post:Value→Hp→Nat→Prop}:mn tt rs post .ret s=(Fg tt s.fr s.hp rs∧post (Hq (JZ tt s.fr s.hp rs)) s.hp s.top):=rfl
theorem dP {g:Bool}:Ow tt G g o s K=(match o.op with
  | .call {callee:= .value f,args, ..}=>Uw G s.fr s.hp s.top g f args.toList o.dst K
  | .range t x=>if g=true then av s.fr x∧QI tt t=true∧(JH s.hp (Bz s.fr x).1).isSome=true∧K ⟨Bl s.fr o.dst (.pointer (some ⟨s.top,0,none⟩)) true,s.hp.Al [(s.top,mw (JH s.hp (Bz s.fr x).1))],s.top+1⟩
    else K ⟨Bl s.fr o.dst undef false,s.hp,s.top⟩
  | .next it str=>if g=true then av s.fr it∧str=false∧qJ K s.fr s.hp s.top o.dst (Bz s.fr it).1 else K ⟨Bl s.fr o.dst undef false,s.hp,s.top⟩
  | .entry it=>if g=true then av s.fr it∧(LU s.hp (Bz s.fr it).1).isSome=true∧K ⟨Bl s.fr o.dst (kR (LU s.hp (Bz s.fr it).1)) true,s.hp,s.top⟩ else K ⟨Bl s.fr o.dst undef false,s.hp,s.top⟩
  |op=>match E4 op with
   |true=>if g=true then (DS tt s.fr s.hp s.top op).ob∧K ⟨Bl s.fr o.dst (DS tt s.fr s.hp s.top op).v true,s.hp.Al (DS tt s.fr s.hp s.top op).us,(DS tt s.fr s.hp s.top op).top⟩
     else K ⟨Bl s.fr o.dst undef false,s.hp,s.top⟩
   |false=>(g=true→(I9 tt s.fr s.hp op).2)∧K ⟨Bl s.fr o.dst (I9 tt s.fr s.hp op).1 g,s.hp,s.top⟩):=by
 simp only [←VD]
 rfl
theorem eV {fr:B0}{hp:Hp}{top:Nat}{g:Bool}{f:Operand}{args:List Operand}{dst:Option Nat}:Uw G fr hp top g f args dst K=(match G (Bo fr f).1 with
  | .none=>False
  | .pure pre res=>(g=true→(Bo fr f).2.1=true∧UA fr args∧pre ((Bo fr f).2.2.1 ++ Ju fr args ++ (Bo fr f).2.2.2) hp)∧
   K ⟨Bl fr dst (res ((Bo fr f).2.2.1 ++ Ju fr args ++ (Bo fr f).2.2.2) hp) g,hp,top⟩
  | .eff pre post=>if g=true then (Bo fr f).2.1=true∧UA fr args∧pre ((Bo fr f).2.2.1 ++ Ju fr args ++ (Bo fr f).2.2.2) hp top∧
   (∀v hp' top',post ((Bo fr f).2.2.1 ++ Ju fr args ++ (Bo fr f).2.2.2) hp top v hp' top'→v8 K ⟨Bl fr dst v true,hp',top'⟩)
   else K ⟨Bl fr dst undef false,hp,top⟩
  | .det pre res=>if g=true then (Bo fr f).2.1=true∧UA fr args∧pre ((Bo fr f).2.2.1 ++ Ju fr args ++ (Bo fr f).2.2.2) hp top∧
   K ⟨Bl fr dst (res ((Bo fr f).2.2.1 ++ Ju fr args ++ (Bo fr f).2.2.2) hp top).1 true,hp.Al (res ((Bo fr f).2.2.1 ++ Ju fr args ++ (Bo fr f).2.2.2) hp top).2.1,(res ((Bo fr f).2.2.1 ++ Ju fr args ++ (Bo fr f).2.2.2) hp top).2.2⟩
   else K ⟨Bl fr dst undef false,hp,top⟩):=by
 simp only [←VD]
 rfl
end
def rn (base:Nat)(bs:List Nat)(z j:Nat):Nat:=if j < base then j else (bs[j - base]?).getD z
theorem AM {base:Nat}{bs:List Nat}{z j:Nat}(h:j < base):rn base bs z j=j:=if_pos h
theorem DY (base:Nat)(bs:List Nat)(z i:Nat):rn base bs z (base+i)=(bs[i]?).getD z:=by
 unfold rn
 rw [if_neg (by omega),Nat.add_sub_cancel_left]
theorem Ap (base:Nat)(bs:List Nat)(z:Nat):rn base bs z base=(bs[0]?).getD z:=DY base bs z 0
theorem XI {base:Nat}{bs:List Nat}{z j:Nat}(h:base+bs.length≤j):rn base bs z j=z:=by
 unfold rn
 rw [if_neg (by omega),List.getElem?_eq_none (by omega)];rfl
theorem bz {base:Nat}{bs:List Nat}{z:Nat}(hn:bs.Nodup)(hb:∀b∈bs,base≤b):∀i j,i < base+bs.length→j < base+bs.length→rn base bs z i=rn base bs z j→i=j:=by
 intro i j hi hj e
 unfold rn at e
 split at e
 ·split at e
  ·exact e
  ·rw [List.getElem?_eq_getElem (by omega),Option.getD_some] at e
   have:=hb _ (List.getElem_mem (show j - base < bs.length by omega))
   omega
 ·rw [List.getElem?_eq_getElem (show i - base < bs.length by omega),Option.getD_some] at e
  split at e
  ·have:=hb _ (List.getElem_mem (show i - base < bs.length by omega))
   omega
  ·rw [List.getElem?_eq_getElem (show j - base < bs.length by omega),Option.getD_some] at e
   have hp:=List.pairwise_iff_getElem.1 hn
   rcases Nat.lt_trichotomy (i - base) (j - base) with h | h | h
   ·exact absurd e (hp _ _ (by omega) (by omega) h)
   ·omega
   ·exact absurd e.symm (hp _ _ (by omega) (by omega) h)
mutual
def Sc (n:Nat):Value→Prop
 | .pointer (some ⟨b,_,_⟩)=>b < n
 | .slice (some ⟨b,_,none⟩) _ _=>b < n
 | .map (some b)=>b < n
 | .agg ⟨l⟩=>F5 n l
 | .tuple ⟨l⟩=>F5 n l
 | .iface _ v=>Sc n v
 | .func _ ⟨a⟩ ⟨b⟩=>F5 n a∧F5 n b
 |_=>True
def F5 (n:Nat):List Value→Prop
 | []=>True
 |v :: l=>Sc n v∧F5 n l
end
def zR (n:Nat):Ay→Prop
 | .cells _ _ vs=>F5 n vs
 | .map es _=> ∀e∈es,Sc n e.key∧Sc n e.val
 | .iter _ _=>True
 | .miter m _ _ _=>m < n
 | .raw _ _=>True
mutual
theorem Sc.Ax {n:Nat}{ρ:Nat→Nat}(hρ:∀j,j < n→ρ j=j):∀ {v:Value},Sc n v→Ax ρ v=v
 | .bool _,_=>rfl
 | .int _ _,_=>rfl
 | .float _ _,_=>rfl
 | .complex _ _ _,_=>rfl
 | .string _,_=>rfl
 | .pointer none,_=>rfl
 | .pointer (some ⟨b,o,s⟩),h=>by simp only [Dm.Ax,hρ b h]
 | .slice none _ _,_=>rfl
 | .slice (some ⟨b,o,none⟩) _ _,h=>by simp only [Dm.Ax,hρ b h]
 | .slice (some ⟨b,o,some s⟩) _ _,_=>by unfold Dm.Ax;rfl
 | .map none,_=>rfl
 | .map (some b),h=>by simp only [Dm.Ax,hρ b h]
 | .chan _,_=>rfl
 | .func _ ⟨a⟩ ⟨b⟩,h=>by simp only [Dm.Ax,F5.Ax hρ h.1,F5.Ax hρ h.2]
 | .nilFunc,_=>rfl
 | .iface _ v,h=>by simp only [Dm.Ax,Sc.Ax hρ (v:=v) h]
 | .nilIface,_=>rfl
 | .agg ⟨l⟩,h=>by simp only [Dm.Ax,F5.Ax hρ (l:=l) h]
 | .tuple ⟨l⟩,h=>by simp only [Dm.Ax,F5.Ax hρ (l:=l) h]
theorem F5.Ax {n:Nat}{ρ:Nat→Nat}(hρ:∀j,j < n→ρ j=j):∀ {l:List Value},F5 n l→Bt ρ l=l
 | [],_=>rfl
 |v :: l,h=>by simp only [Dm.Bt,Sc.Ax hρ h.1,F5.Ax hρ h.2]
end
theorem zR.Ax {n:Nat}{ρ:Nat→Nat}(hρ:∀j,j < n→ρ j=j){o:Ay}(h:zR n o):I6 ρ o=o:=by
 cases o with
 |cells rw BO vs=>simp only [I6,F5.Ax hρ h]
 |map es clk=>
  simp only [I6]
  congr 1
  rw [List.map_congr_left (g:=id)]
  ·simp
  ·intro e he
   obtain ⟨h1,h2⟩:=h e he
   simp only [mL,Sc.Ax hρ h1,Sc.Ax hρ h2,id]
 |iter s p=>rfl
 |miter m since seen c=>simp only [I6];rw [hρ m h]
 |raw b vs=>rfl
mutual
theorem V.sc {φ:Ren}{n:Nat}(hn:∀j,n≤j→φ j=none):∀ {v x:Value},V φ v x→Sc n v
 |_,_, .bool _=>trivial
 |_,_, .int _ _=>trivial
 |_,_, .str _=>trivial
 |_,_, .nilp=>trivial
 |_,_, .ptr i o L h=>by
  rcases Nat.lt_or_ge i n with h' | h'
  ·exact h'
  ·rw [hn i h'] at h;cases h
 |_,_, .nils=>trivial
 |_,_, .slice i o m c c' L h _ _ _=>by
  rcases Nat.lt_or_ge i n with h' | h'
  ·exact h'
  ·rw [hn i h'] at h;cases h
 |_,_, .emp _ _=>trivial
 |_,_, .nilm=>trivial
 |_,_, .map i L h=>by
  rcases Nat.lt_or_ge i n with h' | h'
  ·exact h'
  ·rw [hn i h'] at h;cases h
 |_,_, .func _ _ _ _ _ ha hb=>⟨Vs.sc hn ha,Vs.sc hn hb⟩
 |_,_, .nilf=>trivial
 |_,_, .iface _ v _ h=>(V.sc hn h:Sc n v)
 |_,_, .nili=>trivial
 |_,_, .agg _ _ h=>Vs.sc hn h
 |_,_, .tuple _ _ h=>Vs.sc hn h
theorem Vs.sc {φ:Ren}{n:Nat}(hn:∀j,n≤j→φ j=none):∀ {l m:List Value},Vs φ l m→F5 n l
 |_,_, .nil=>trivial
 |_,_, .cons _ _ _ _ hx hl=>⟨V.sc hn hx,Vs.sc hn hl⟩
end
theorem Es.sc {φ:Ren}{n:Nat}(hn:∀j,n≤j→φ j=none):∀ {l m:List MapEntry},Es φ l m→∀e∈l,Sc n e.key∧Sc n e.val
 |_,_, .nil,e,he=>by cases he
 |_,_, .cons a _ l _ hx hl,e,he=>by
  cases he with
  |head=>exact ⟨V.sc hn hx.key,V.sc hn hx.val⟩
  |tail _ h=>exact Es.sc hn hl e h
structure Cl (hp:Hp) (n:Nat):Prop where
 lt:∀i o,hp i=some o→i < n
 sc:∀i o,hp i=some o→zR n o
theorem HR.cl {φ:Ren}{own:Nat→Prop}{hp:Hp}{w:World}{n:Nat}(H:HR φ own hp w)(hn:∀j,n≤j→φ j=none):Cl hp n:=by
 refine ⟨fun i o e=>H.lt hn e,fun i o e=> ?_⟩
 obtain ⟨L,h1,h2⟩:=H.obj i o e
 cases o with
 |cells rw BO vs=>obtain ⟨_,_,_,_,_,_,_,h3,_⟩:=h2;exact Vs.sc hn h3
 |map es clk=>obtain ⟨es',_,h3⟩:=h2;exact fun e he=>Es.sc hn h3 e he
 |iter s p=>trivial
 |miter m since seen c=>
  obtain ⟨_,M,h1,_⟩:=h2
  show m < n
  rcases Nat.lt_or_ge m n with h | h
  ·exact h
  ·rw [hn m h] at h1;cases h1
 |raw b vs=>trivial
theorem AK.closed {P:Program}{f:FuncId}{args:List Value}{hp:Hp}{top:Nat}{post:Value→Hp→Nat→Prop}(h:Cl hp top→F5 top args→AK P f args hp top post):AK P f args hp top post:=by
 intro φ own w args' ha H htop
 exact h (H.cl htop) (Vs.sc htop ha) φ own w args' ha H htop
theorem pB {hp h1:Hp}{base:Nat}{ρ:Nat→Nat}(hcl:Cl hp base)(hlow:∀j,j < base→ρ j=j)(us:BZ)
  (hk:∀i,i < base→(∀p∈us,p.1≠i)→h1 i=hp i) (hu:∀p∈us,∀o,p.2=some o→h1 (ρ p.1)=some (I6 ρ o)) :
  ∀i o,(hp.Al us) i=some o→h1 (ρ i)=some (I6 ρ o):=by
 have key:∀(us:BZ) (hp:Hp) i o,(hp.Al us) i=some o→(∃p∈us,p.1=i∧p.2=some o)∨((∀p∈us,p.1≠i)∧hp i=some o):=by
  intro us
  induction us with
  |nil=>intro hp i o h;exact .inr ⟨fun _ h=>(by cases h),h⟩
  |cons p us ih=>
   intro hp i o h
   obtain ⟨a,x⟩:=p
   rw [CA] at h
   rcases ih _ i o h with ⟨p,h1,h2,h3⟩ | ⟨h1,h2⟩
   ·exact .inl ⟨p,List.mem_cons_of_mem _ h1,h2,h3⟩
   ·by_cases e:i=a
    ·subst e
     rw [AD] at h2
     exact .inl ⟨(i,x),List.mem_cons_self ..,rfl,h2⟩
    ·rw [BF _ _ _ _ e] at h2
     refine .inr ⟨?_,h2⟩
     intro p hp'
     cases hp' with
     |head=>exact fun e'=>e e'.symm
     |tail _ h=>exact h1 p h
 intro i o h
 rcases key us hp i o h with ⟨p,h2,h3,h4⟩ | ⟨h2,h3⟩
 ·subst h3;exact hu p h2 o h4
 ·have hi:=hcl.lt i o h3
  rw [hlow i hi,hk i hi h2,h3,zR.Ax hlow (hcl.sc i o h3)]
theorem set_set (hp:Hp)(i:Nat)(a b:Option Ay):(hp.set i a).set i b=hp.set i b:=by
 funext j;unfold Hp.set;split <;> rfl
def AJ (n:Nat)(ks:List Nat)(h1 hp:Hp):Prop:= ∀i,i < n→i ∉ ks→h1 i=hp i
theorem AJ.refl (n:Nat)(ks:List Nat)(hp:Hp):AJ n ks hp hp=True:=eq_true fun _ _ _=>rfl
theorem AJ.set {n:Nat}{ks:List Nat}{h1 hp:Hp}{b:Nat}{o:Option Ay}(hb:n≤b):AJ n ks (h1.set b o) hp=AJ n ks h1 hp:=by
 refine propext ⟨fun h i hi hk=> ?_,fun h i hi hk=> ?_⟩
 ·have:=h i hi hk;rwa [BF _ _ _ _ (by omega)] at this
 ·rw [BF _ _ _ _ (by omega)];exact h i hi hk
theorem AJ.A5 {n:Nat}{ks:List Nat}{h1 hp:Hp}{b:Nat}{o:Option Ay}(hb:b∈ks):AJ n ks (h1.set b o) hp=AJ n ks h1 hp:=by
 refine propext ⟨fun h i hi hk=> ?_,fun h i hi hk=> ?_⟩
 ·have:=h i hi hk;rwa [BF _ _ _ _ (fun e=>hk (by rw [e];exact hb))] at this
 ·rw [BF _ _ _ _ (fun e=>hk (by rw [e];exact hb))];exact h i hi hk
theorem AJ.nil {n:Nat}{h1 hp:Hp}(h:AJ n [] h1 hp):∀i,i < n→h1 i=hp i:=fun i hi=>h i hi (by simp)
def IZ (ρ:Nat→Nat):Option Ay→Option Ay
 |none=>none
 |some o=>some (I6 ρ o)
def AB (ρ:Nat→Nat)(h1:Hp)(us:BZ):Prop:= ∀p∈us,p.2=none∨h1 (ρ p.1)=IZ ρ p.2
theorem AB.nil {ρ:Nat→Nat}{h1:Hp}:AB ρ h1 [] = True:=eq_true fun p h=>by cases h
theorem AB.cons {ρ:Nat→Nat}{h1:Hp}{b:Nat}{o:Option Ay}{us:BZ}:AB ρ h1 ((b,o) :: us)=((o=none∨h1 (ρ b)=IZ ρ o)∧AB ρ h1 us):=by
 simp [AB]
theorem AB.get {ρ:Nat→Nat}{h1:Hp}{us:BZ}(h:AB ρ h1 us):∀p∈us,∀o,p.2=some o→h1 (ρ p.1)=some (I6 ρ o):=by
 intro p hp o e
 rcases h p hp with h | h
 ·rw [h] at e;cases e
 ·rw [h,e];rfl
theorem A9 {ρ:Nat→Nat}{o:Ay}:IZ ρ (some o)=some (I6 ρ o):=rfl
theorem BA {ρ:Nat→Nat}{rw:Bool}{z:Nat}{vs:List Value}:I6 ρ (.cells rw z vs)= .cells rw z (Bt ρ vs):=rfl
theorem xn {ρ:Nat→Nat}{es:List MapEntry}{clk:Nat}:I6 ρ (.map es clk)= .map (es.map (mL ρ)) clk:=rfl
structure vR (hp:Hp) (top:Nat) (bs:List Nat) (r:Value×BZ×Nat) (v1:Value) (h1:Hp) (top1:Nat):Prop where
 nodup:bs.Nodup
 ge:∀b∈bs,top≤b
 tp:r.2.2=top+bs.length
 v:v1=Ax (rn top bs top1) r.1
 BN:AJ top (r.2.1.map (·.1)) h1 hp
 Ij:AB (rn top bs top1) h1 r.2.1
theorem AK.Cg {P:Program}{f:FuncId}{args:List Value}{hp:Hp}{top:Nat}{r:Value×BZ×Nat}
  (h:Cl hp top→F5 top args→AK P f args hp top fun v1 h1 top1=>top≤top1∧∃bs,vR hp top bs r v1 h1 top1) :
  AK P f args hp top fun v hp' top'=>v=r.1∧hp' = hp.Al r.2.1∧top' = r.2.2:=by
 intro φ own w args' ha H htop
 have hcl:=H.cl htop
 refine (h hcl (Vs.sc htop ha) φ own w args' ha H htop).mono ?_
 rintro e w' ⟨v1,h1,top1,v',φ1,rfl,⟨ht,bs,R⟩,W⟩
 have hlow:∀j,j < top→rn top bs top1 j=j:=fun j hj=>AM hj
 have hhigh:∀j,r.2.2≤j→top1≤rn top bs top1 j:=fun j hj=>by rw [XI (by rw [←R.tp];exact hj)];exact Nat.le_refl _
 refine ⟨r.1,hp.Al r.2.1,r.2.2,v',φ1.via (rn top bs top1),rfl,⟨rfl,rfl,rfl⟩,⟨?_, ?_, ?_,W.k, ?_⟩⟩
 ·intro i L e
  have hi:i < top:=by
   rcases Nat.lt_or_ge i top with h | h
   ·exact h
   ·rw [htop i h] at e;cases e
  unfold Ren.via
  rw [hlow i hi];exact W.le _ _ e
 ·refine V.Dg ?_
  rw [←R.v];exact W.v
 ·refine W.hr.Dg W.top hhigh (by rw [R.tp];exact bz R.nodup R.ge) ?_
  exact pB hcl hlow r.2.1 (fun i hi hk=>R.BN i hi (fun hm=>by obtain ⟨p,h1,h2⟩:=List.mem_map.1 hm;exact hk p h1 h2)) R.Ij.get
 ·intro j hj
  exact W.top _ (hhigh j hj)
theorem Aw.Cg {P:Program}{f:FuncId}{fn:Func}(F:An P f fn){pre:List Value→Hp→Nat→Prop}{res:List Value→Hp→Nat→Value×BZ×Nat}
  (h:∀args hp top,pre args hp top→Cl hp top→F5 top args→AK P f args hp top fun v1 h1 top1=>top≤top1∧∃bs,vR hp top bs (res args hp top) v1 h1 top1):Aw P f (.det pre res):=
 ⟨⟨fn,F.toFTOk⟩,fun args hp top hp0=>AK.Cg (h args hp top hp0)⟩
theorem Ao.mk' {hp h1:Hp}{base:Nat}(bs:List Nat)(hcl:Cl hp base){fr' fr:B0}{us:BZ}{n top:Nat}
  (nodup:bs.Nodup) (ge:∀b∈bs,base≤b) (hn:n=bs.length)
  (hfr:∀t v,GY fr' t=some v→GY fr t=some (Ax (rn base bs top) v))
  (BN:AJ base (us.map (·.1)) h1 hp)
  (Ij:AB (rn base bs top) h1 us) :
  ∃ρ,Ao ρ base ⟨fr',hp.Al us,base+n⟩ ⟨fr,h1,top⟩:=by
 subst hn
 have hlow:∀j,j < base→rn base bs top j=j:=fun j hj=>AM hj
 exact ⟨rn base bs top,hlow,fun j hj=>by rw [XI hj];exact Nat.le_refl _,bz nodup ge,hfr,pB hcl hlow us (fun i hi hk=>BN i hi (fun hm=>by obtain ⟨p,h1,h2⟩:=List.mem_map.1 hm;exact hk p h1 h2)) Ij.get⟩
theorem Aw.Ep {P:Program}{f:FuncId}{fn:Func}(F:An P f fn){pre:List Value→Hp→Prop}{res:List Value→Hp→Value}(hr:∀args hp,pre args hp→plain 3 (res args hp)=true)
  (h:∀args hp,pre args hp→∀top,Cl hp top→F5 top args→AK P f args hp top fun v hp' _=>v=res args hp∧AJ top [] hp' hp):Aw P f (.pure pre res):=
 .rS F hr fun args hp h0 top φ own w args' ha H htop=>(h args hp h0 top (H.cl htop) (Vs.sc htop ha) φ own w args' ha H htop).mono fun _ _ ⟨v,hp',top',v',φ',e,⟨h1,h2⟩,W⟩=>⟨v,hp',top',v',φ',e,⟨h1,h2.nil⟩,W⟩
theorem Rc {k:IntKind}{n:Int}(h:(if k.signed then -(2 ^ (k.bits - 1):Int) else 0)≤n)(h2:n < (if k.signed then 2 ^ (k.bits - 1) else 2 ^ k.bits:Int)):AP k n=n:=by
 rw [CS]
 unfold IntKind.wrap
 cases k <;> simp [IntKind.signed,IntKind.bits] at h h2 ⊢ <;> omega
theorem wrap64 {n:Int}(h: -9223372036854775808≤n)(h2:n < 9223372036854775808):AP .i64 n=n:=Rc (by simpa [IntKind.signed,IntKind.bits] using h) (by simpa [IntKind.signed,IntKind.bits] using h2)
theorem CL {k n:Nat}(h:k < n)(hn:n≤9223372036854775807):AP .i64 ((k:Int)+1)=((k+1:Nat):Int):=by
 rw [wrap64 (by omega) (by omega)];omega
theorem BS {b n:Nat}(hb:b < n){hp:Hp}{i:Nat}{o:Option Ay}(hi:n≤i):(hp.set i o) b=hp b:=BF _ _ _ _ (by omega)
theorem tK {k:IntKind}{n:Int}:Value.oneCell' (.int k n)=true:=rfl
theorem n8 {b:Bool}:Value.oneCell' (.bool b)=true:=rfl
theorem rW {s:ByteArray}:Value.oneCell' (.string s)=true:=rfl
theorem uT {a:Option Addr}:Value.oneCell' (.pointer a)=true:=rfl
theorem gB {a:Option Addr}{n c:Nat}:Value.oneCell' (.slice a n c)=true:=rfl
theorem sx {a:Option Nat}:Value.oneCell' (.map a)=true:=rfl
theorem nv {f:Fn}{a b:Array Value}:Value.oneCell' (.func f a b)=true:=rfl
theorem mC:Value.oneCell' .nilFunc=true:=rfl
theorem eE {t:TypeId}{v:Value}:Value.oneCell' (.iface t v)=true:=rfl
theorem kT:Value.oneCell' .nilIface=true:=rfl
theorem rj {l:List Value}:Au (.agg ⟨l⟩)=l:=rfl
theorem rL {k:IntKind}{n:Int}:Au (.int k n)= [.int k n]:=rfl
theorem ly {b:Bool}:Au (.bool b)= [.bool b]:=rfl
theorem rR {s:ByteArray}:Au (.string s)= [.string s]:=rfl
theorem uQ {a:Option Addr}:Au (.pointer a)= [.pointer a]:=rfl
theorem ag {a:Option Addr}{n c:Nat}:Au (.slice a n c)= [.slice a n c]:=rfl
theorem tN {a:Option Nat}:Au (.map a)= [.map a]:=rfl
theorem nh {f:Fn}{a b:Array Value}:Au (.func f a b)= [.func f a b]:=rfl
theorem kE:Au .nilFunc= [.nilFunc]:=rfl
theorem aq {t:TypeId}{v:Value}:Au (.iface t v)= [.iface t v]:=rfl
theorem kY:Au .nilIface= [.nilIface]:=rfl
theorem uC {a b:Nat}(h:a≤b):Nat.ble a b=true:=Nat.ble_eq_true_of_le h
theorem dL {n:Nat}{v:Value}:(List.replicate n [v]).flatten=Jr n v:=by simp [Jr]
theorem AAo {α:Type}{a:α}:List.replicate 1 a= [a]:=rfl
theorem AAS {α:Type}{a:α}:List.replicate 2 a= [a,a]:=rfl
theorem AAh {α:Type}{a:α}:List.replicate 3 a= [a,a,a]:=rfl
theorem AAJ {α:Type}{a:α}:List.replicate 4 a= [a,a,a,a]:=rfl
theorem Th {cs xs:List Value}:Ag cs 0 xs=xs ++ cs.drop xs.length:=by simp [Ag]
theorem LI {c:Value}{cs xs:List Value}{n:Nat}:Ag (c :: cs) (n+1) xs=c :: Ag cs n xs:=by
 simp [Ag,Nat.add_right_comm]
theorem Uf {c:Value}{cs xs:List Value}{n:Nat}:Ag (c :: cs) (1+n) xs=c :: Ag cs n xs:=by
 rw [Nat.add_comm];exact LI
theorem NB {cs:List Value}{v:Value}{n:Nat}(h:n < cs.length):Ag cs n [v] = cs.set n v:=by
 simp only [Ag,List.length_singleton]
 rw [List.set_eq_take_append_cons_drop,if_pos h];simp
theorem bB {α:Type}{c:α}{l:List α}{n:Nat}:(c :: l)[1+n]? = l[n]? :=by rw [Nat.add_comm,List.getElem?_cons_succ]
theorem Z0 {α:Type}{c:α}{l:List α}{n:Nat}:(c :: l).drop (1+n)=l.drop n:=by rw [Nat.add_comm,List.drop_succ_cons]
theorem vG {ρ:Nat→Nat}{k:IntKind}{l:List Int}:Bt ρ (l.map (Value.int k))=l.map (Value.int k):=by
 rw [FU,List.map_map];rfl
theorem xr {ρ:Nat→Nat}{l:List Value}{i:Nat}{v:Value}:Bt ρ (l.set i v)=(Bt ρ l).set i (Ax ρ v):=by
 simp only [FU,List.map_set]
theorem MB (x y:Int):aE x y=decide (x=y):=by rw [Ro];rfl
def Ac (ρ:Nat→Nat):B0→B0→Prop
 | [],_=>True
 | (t,v,g) :: l,fr=>BU fr t=some (bif g then Ax ρ v else v,g)∧Ac ρ l fr
theorem AG {ρ:Nat→Nat}:∀ {fr' fr:B0},Ac ρ fr' fr→∀t v,GY fr' t=some v→GY fr t=some (Ax ρ v):=by
 intro fr'
 induction fr' with
 |nil=>intro fr _ t v h;cases h
 |cons p l ih=>
  obtain ⟨j,x,g⟩:=p
  intro fr h t v hv
  obtain ⟨h1,h2⟩:=h
  simp only [GY,BU] at hv ⊢
  cases hb:Nat.beq j t with
  |true=>
   rw [hb] at hv
   have:=Nat.eq_of_beq_eq_true hb
   subst this
   cases hv
   rw [h1]
   cases g with
   |true=>rfl
   |false=>rfl
  |false=>
   rw [hb] at hv
   exact ih h2 t v hv
end Go.Dm
namespace Go.Dm
structure Bk (α:Type) where
 enc:α→List Value
 dec:List Value→α
 size:Nat
 h:∀a,dec (enc a)=a
 len:∀a,(enc a).length=size
 one:∀a,Aq (enc a)=true
class Bk.Plain {α:Type} (E:Bk α):Prop where
 pl:∀a ρ,Bt ρ (E.enc a)=E.enc a
def Bk.flat {α:Type}(E:Bk α)(l:List α):List Value:=(l.map E.enc).flatten
def at' {α:Type}[Inhabited α](l:List α)(i:Nat):α:=(l[i]?).getD default
theorem DV {α:Type}[Inhabited α](l:List α)(i:Nat)(h:i < l.length):at' l i=l[i]:=by simp [at',h]
section
variable {α:Type} {E:Bk α}
theorem Bk.Dj:E.flat [] = []:=rfl
theorem Bk.CB (a:α)(l:List α):E.flat (a :: l)=E.enc a ++ E.flat l:=rfl
theorem Bk.Ev (l m:List α):E.flat (l ++ m)=E.flat l ++ E.flat m:=by simp [Bk.flat]
theorem Bk.Bb (l:List α):(E.flat l).length=l.length * E.size:=by
 induction l with
 |nil=>simp [Bk.Dj]
 |cons a l ih=>rw [Bk.CB,List.length_append,E.len,ih,List.length_cons,Nat.succ_mul];omega
theorem Bk.GO (l:List α):Aq (E.flat l)=true:=by
 have app:∀x y:List Value,Aq (x ++ y)=(Aq x && Aq y):=by
  intro x y
  induction x with
  |nil=>rfl
  |cons a x ih=>simp only [List.cons_append,Aq,ih,Bool.and_assoc]
 induction l with
 |nil=>rfl
 |cons a l ih=>rw [Bk.CB,app,E.one,ih];rfl
theorem Bk.bH [E.Plain](l:List α)(ρ:Nat→Nat):Bt ρ (E.flat l)=E.flat l:=by
 induction l with
 |nil=>rfl
 |cons a l ih=>rw [Bk.CB,S6,Bk.Plain.pl,ih]
theorem Bk.LB (l:List α):∀i,(E.flat l).drop (i * E.size)=E.flat (l.drop i):=by
 induction l with
 |nil=>intro i;simp [Bk.Dj]
 |cons a l ih=>
  intro i
  cases i with
  |zero=>simp
  |succ i=>
   rw [Bk.CB,show (i+1) * E.size=(E.enc a).length+i * E.size from by rw [E.len,Nat.succ_mul];omega,List.drop_append]
   rw [List.drop_eq_nil_of_le (by omega),List.nil_append,show (E.enc a).length+i * E.size - (E.enc a).length=i * E.size from by omega,ih]
   rfl
theorem Bk.Gu (l:List α):∀i,(E.flat l).take (i * E.size)=E.flat (l.take i):=by
 induction l with
 |nil=>intro i;simp [Bk.Dj]
 |cons a l ih=>
  intro i
  cases i with
  |zero=>simp [Bk.Dj]
  |succ i=>
   rw [Bk.CB,show (i+1) * E.size=(E.enc a).length+i * E.size from by rw [E.len,Nat.succ_mul];omega,List.take_append]
   rw [List.take_of_length_le (by omega),show (E.enc a).length+i * E.size - (E.enc a).length=i * E.size from by omega,ih]
   rfl
theorem Bk.J0 [Inhabited α](l:List α)(i:Nat)(h:i < l.length):((E.flat l).drop (i * E.size)).take E.size=E.enc (at' l i):=by
 rw [Bk.LB,List.drop_eq_getElem_cons h,Bk.CB,List.take_append,List.take_of_length_le (by rw [E.len];omega),E.len,Nat.sub_self,List.take_zero,List.append_nil,DV _ _ h]
end
inductive BM {α:Type} (E:Bk α) (hp:Hp):Value→List α→Prop
 |nils:BM E hp (.slice none 0 0) []
 |emp:BM E hp (.slice (some ⟨0,0,some 0⟩) 0 0) []
 |rows (b o c:Nat) (rw:Bool) (vs:List Value) (l:List α) (hb:hp b=some (.cells rw E.size vs)) (hv:(vs.drop o).take (l.length * E.size)=E.flat l) (ho:o+l.length * E.size≤vs.length) (hc:l.length≤c) (hn:l.length≤9223372036854775807) :
   BM E hp (.slice (some ⟨b,o,none⟩) l.length c) l
def BK (v:Value)(d:Nat):Value:=match v with
 | .slice (some ⟨b,o,none⟩) _ _=> .pointer (some ⟨b,o+d,none⟩)
 |_=>undef
def Bk.rd {α:Type}(E:Bk α)(hp:Hp)(v:Value):List α:=match v with
 | .slice (some ⟨b,o,none⟩) n _=>match hp b with
  |some (.cells _ _ vs)=>(List.range n).map fun i=>E.dec ((vs.drop (o+i * E.size)).take E.size)
  |_=> []
 |_=> []
section
variable {α:Type} [Inhabited α] {E:Bk α} {hp:Hp} {v:Value} {l:List α} {tt:AO} {t e:TypeId}
omit [Inhabited α] in
theorem BM.le (h:BM E hp v l):l.length≤9223372036854775807:=by cases h with
 |nils=>simp
 |emp=>simp
 |rows _ _ _ _ _ _ _ _ _ _ hn=>exact hn
omit [Inhabited α] in
theorem BM.len (h:BM E hp v l)(hk:kindOf tt t=some (.slice e)):Cj tt hp t v=(.int .i64 (l.length:Int),True):=by
 obtain ⟨i,hi,hd⟩:=Aa hk
 cases h <;> (unfold Cj;simp [hk,El,hi,hd])
omit [Inhabited α] in
theorem BM.P1 (h:BM E hp v l)(hk:kindOf tt t=some (.slice e)){hp':Hp}:Cj tt hp' t v=(.int .i64 (l.length:Int),True):=by
 obtain ⟨i,hi,hd⟩:=Aa hk
 cases h <;> (unfold Cj;simp [hk,El,hi,hd])
theorem BM.at (h:BM E hp v l){i:Nat}(hi:i < l.length):∃b o c rw vs,v= .slice (some ⟨b,o,none⟩) l.length c∧hp b=some (.cells rw E.size vs)∧(vs.drop (o+i * E.size)).take E.size=E.enc (at' l i)∧o+(i+1) * E.size≤vs.length:=by
 cases h with
 |nils=>simp at hi
 |emp=>simp at hi
 |rows b o c rw vs l hb hv ho hc hn=>
  have h1:(i+1) * E.size≤l.length * E.size:=Nat.mul_le_mul_right _ hi
  refine ⟨b,o,c,rw,vs,rfl,hb, ?_,by omega⟩
  rw [←Bk.J0 l i hi,←hv,List.drop_take,List.take_take,List.drop_drop]
  congr 1
  rw [Nat.succ_mul] at h1
  omega
theorem BM.rd (h:BM E hp v l):E.rd hp v=l:=by
 cases hh:h with
 |nils=>rfl
 |emp=>rfl
 |rows b o c rw vs l hb hv ho hc hn=>
  simp only [Bk.rd,hb]
  apply List.ext_getElem
  ·simp
  ·intro i h1 h2
   obtain ⟨b',o',c',rw',vs',e1,e2,e3,e4⟩:=h.at h2
   cases e1
   rw [hb] at e2;cases e2
   simp only [List.getElem_map,List.getElem_range,e3,E.h,DV _ _ h2]
theorem BM.idx (h:BM E hp v l){j:TI}(hk:kindOf tt t=some (.slice e))(hj:tt e=some j)(hs:j.size=E.size){k:IntKind}{n:Int}(h0:0≤n)(h1:n < l.length) :
  Af tt t v (.int k n)=(BK v (n.toNat * E.size),True):=by
 obtain ⟨b,o,c,rw,vs,rfl,hb,_⟩:=h.at (i:=n.toNat) (by omega)
 unfold Af
 simp [hk,hj,hs,BK,h0,h1]
theorem BM.load (h:BM E hp v l){j:TI}(hj:tt e=some j)(hs:j.size=E.size)(ha:Hc j.ud=true){i:Nat}(hi:i < l.length) :
  Ad tt hp e (BK v (i * E.size))=(.agg ⟨E.enc (at' l i)⟩,True):=by
 obtain ⟨b,o,c,rw,vs,rfl,hb,hrow,hlen⟩:=h.at hi
 unfold Ad
 rw [Nat.succ_mul] at hlen
 simp [BK,hj,hb,ha,hs,hrow]
 omega
theorem BM.cell (h:BM E hp v l){j:TI}(hj:tt e=some j)(ha:Hc j.ud=false){i f:Nat}(hi:i < l.length)(hf:f < E.size) :
  Ad tt hp e (BK v (i * E.size+f))=((E.enc (at' l i))[f]?.getD undef,True):=by
 obtain ⟨b,o,c,rw,vs,rfl,hb,hrow,hlen⟩:=h.at hi
 unfold Ad
 rw [Nat.succ_mul] at hlen
 have e1:vs[o+(i * E.size+f)]? = (E.enc (at' l i))[f]? :=by
  rw [←hrow,List.getElem?_take,List.getElem?_drop,if_pos hf,Nat.add_assoc]
 simp only [BK,hj,hb,ha,e1]
 simp only [Prod.mk.injEq,true_and,eq_iff_iff,iff_true]
 omega
theorem BM.sub (h:BM E hp v l){j:TI}(hj:tt e=some j)(ha:Hc j.ud=true){i f:Nat}(hi:i < l.length)(hf:f+j.size≤E.size) :
  Ad tt hp e (BK v (i * E.size+f))=(.agg ⟨((E.enc (at' l i)).drop f).take j.size⟩,True):=by
 obtain ⟨b,o,c,rw,vs,rfl,hb,hrow,hlen⟩:=h.at hi
 unfold Ad
 rw [Nat.succ_mul] at hlen
 have e1:(vs.drop (o+(i * E.size+f))).take j.size=((E.enc (at' l i)).drop f).take j.size:=by
  rw [←hrow,List.drop_take,List.take_take,List.drop_drop,Nat.min_eq_left (by omega),Nat.add_assoc]
 simp only [BK,hj,hb,ha,e1]
 simp only [Prod.mk.injEq,true_and,eq_iff_iff,iff_true]
 omega
theorem BM.field (h:BM E hp v l){i:Nat}(hi:i < l.length){s:TypeId}{f o d:Nat}(hf:∀b o,Av tt s (.pointer (some ⟨b,o,none⟩)) f=some (.pointer (some ⟨b,o+d,none⟩))) :
  AZ tt s (BK v o) f=(BK v (o+d),True):=by
 obtain ⟨b,o',c,rw,vs,rfl,hb,_⟩:=h.at hi
 unfold AZ BK
 simp only [hf,Nat.add_assoc]
omit [Inhabited α] in
theorem BM.mono {hp':Hp}(h:BM E hp v l)(hs:∀b o n c,v= .slice (some ⟨b,o,none⟩) n c→hp' b=hp b):BM E hp' v l:=by
 cases h with
 |nils=>exact .nils
 |emp=>exact .emp
 |rows b o c rw vs l hb hv ho hc hn=>exact .rows b o c rw vs l (by rw [hs _ _ _ _ rfl];exact hb) hv ho hc hn
omit [Inhabited α] in
theorem BM.low (h:BM E hp v l){n:Nat}(hcl:Cl hp n):Sc n v:=by
 cases h with
 |nils=>trivial
 |emp=>trivial
 |rows b o c rw vs l hb hv ho hc hn=>exact hcl.lt _ _ hb
omit [Inhabited α] in
theorem BM.set (h:BM E hp v l){n i:Nat}{o:Option Ay}(hl:Sc n v)(hi:n≤i):BM E (hp.set i o) v l:=by
 refine h.mono fun b o n' c e=> ?_
 subst e
 exact BF _ _ _ _ (by simp only [Sc] at hl;omega)
omit [Inhabited α] in
theorem BM.Al (h:BM E hp v l){n:Nat}(hl:Sc n v):∀(us:BZ),(∀p∈us,n≤p.1)→BM E (hp.Al us) v l:=by
 intro us
 induction us generalizing hp with
 |nil=>intro _;exact h
 |cons p us ih=>
  intro hu
  obtain ⟨i,o⟩:=p
  exact ih (h.set hl (hu _ (List.mem_cons_self ..))) fun q hq=>hu q (List.mem_cons_of_mem _ hq)
omit [Inhabited α] in
theorem BM.Ax {n:Nat}{ρ:Nat→Nat}(_:BM E hp v l)(hl:Sc n v)(hρ:∀j,j < n→ρ j=j):Ax ρ v=v:=Sc.Ax hρ hl
theorem Cf {tt:AO}{hp:Hp}{v:Value}{n:Nat}(hl:Sc n v){i d:Nat}{o:Option Ay}{t:TypeId}(hi:n≤i):Ad tt (hp.set i o) t (BK v d)=Ad tt hp t (BK v d):=by
 cases v with
 |slice a m c=>
  cases a with
  |none=>rfl
  |some a=>
   obtain ⟨b,q,s⟩:=a
   cases s with
   |some s=>rfl
   |none=>
   simp only [Sc] at hl
   have e:=BF hp i b o (by omega)
   simp only [BK,Ad]
   cases tt t <;> simp only [e]
 |_=>rfl
theorem xm {α:Type}{E:Bk α}{l:List α}{tt:AO}{hp hp0:Hp}{v:Value}{n:Nat}(h:BM E hp0 v l)(hl:Sc n v){i:Nat}{o:Option Ay}{t e:TypeId}{lo hi:Option Value}(hk:kindOf tt t=some (.slice e))(hi':n≤i):Be tt (hp.set i o) t v lo hi=Be tt hp t v lo hi:=by
 cases h with
 |nils=>unfold Be;simp only [hk]
 |emp=>
  obtain ⟨i1,hi1,hd⟩:=Aa hk
  unfold Be
  simp only [hk,Cx,hi1,hd]
 |rows b q c rw vs l hb hv ho hc hn=>
  simp only [Sc] at hl
  have e:=BF hp i b o (by omega)
  unfold Be
  simp only [hk,e]
theorem ZG {tt:AO}{hp:Hp}{t:TypeId}{b o:Nat}:Ad tt hp t (.pointer (some ⟨b,o,none⟩))=(match tt t with
  |some i=>match hp b with
   |some (.cells _ _ vs)=>match Hc i.ud with
    |true=>(.agg ⟨(vs.drop o).take i.size⟩,o+i.size≤vs.length)
    |false=>((vs[o]?).getD undef,o < vs.length)
   |_=>(undef,False)
  |none=>(undef,False)):=by
 unfold Ad
 cases tt t with
 |none=>rfl
 |some i=>rfl
theorem VX {tt:AO}{hp:Hp}{t:TypeId}{b o:Nat}{x:Value}:Ai tt hp t (.pointer (some ⟨b,o,none⟩)) x=(match tt t with
  |some i=>match hp b with
   |some (.cells true BO vs)=>([(b,some (.cells true BO (Ag vs o (Au x))))],Fy x i.size∧o+i.size≤vs.length∧Aq (Au x)=true)
   |_=>([],False)
  |none=>([],False)):=by
 unfold Ai
 cases tt t with
 |none=>rfl
 |some i=>rfl
theorem NP {tt:AO}{t:TypeId}{b o:Nat}{ix:Value}:Af tt t (.pointer (some ⟨b,o,none⟩)) ix=(match kindOf tt t with
  |some (.array len e)=>match tt e with
   |some j=>(.pointer (some ⟨b,o+(intOf ix).toNat * j.size,none⟩),Hs ix∧0≤intOf ix∧intOf ix < (len:Int))
   |none=>(undef,False)
  |_=>(undef,False)):=by
 unfold Af
 cases kindOf tt t with
 |none=>rfl
 |some d=>cases d <;> rfl
inductive HJ {α:Type} (E:Bk α) (hp:Hp) (v:Value):Prop
 |mk (l:List α) (h:BM E hp v l)
theorem BM.P {α:Type}{E:Bk α}{hp:Hp}{v:Value}{l:List α}(h:BM E hp v l):HJ E hp v=True:=eq_true ⟨l,h⟩
theorem BM.oc {α:Type}{E:Bk α}{hp:Hp}{v:Value}{l:List α}(h:BM E hp v l):Value.oneCell' v=true:=by cases h <;> rfl
theorem BM.cl {α:Type}{E:Bk α}{hp:Hp}{v:Value}{l:List α}(h:BM E hp v l):Au v= [v]:=by cases h <;> rfl
theorem BM.back {α:Type}{E:Bk α}{hp:Hp}{v:Value}{l:List α}{n i:Nat}{o:Option Ay}(h:BM E (hp.set i o) v l)(hl:Sc n v)(hi:n≤i):BM E hp v l:=
 h.mono fun b q n' c e=>by subst e;exact (BF _ _ _ _ (by simp only [Sc] at hl;omega)).symm
theorem jq {α:Type}{E:Bk α}{hp:Hp}{v:Value}{n:Nat}(hl:Sc n v){i:Nat}{o:Option Ay}(hi:n≤i):HJ E (hp.set i o) v=HJ E hp v:=
 propext ⟨fun ⟨l,h⟩=>⟨l,h.back hl hi⟩,fun ⟨l,h⟩=>⟨l,h.set hl hi⟩⟩
theorem iE {α:Type}{E:Bk α}{hp:Hp}{v:Value}{n:Nat}(hl:Sc n v){i:Nat}{o:Option Ay}(hi:n≤i):E.rd (hp.set i o) v=E.rd hp v:=by
 cases v with
 |slice a m c=>
  cases a with
  |none=>rfl
  |some a=>
   obtain ⟨b,q,s⟩:=a
   cases s with
   |some s=>rfl
   |none=>
   simp only [Sc] at hl
   have e:=BF hp i b o (by omega)
   simp only [Bk.rd,e]
 |_=>rfl
theorem MN {tt:AO}{t:TypeId}{b o n c:Nat}{ix:Value}:Af tt t (.slice (some ⟨b,o,none⟩) n c) ix=(match kindOf tt t with
  |some (.slice e)=>match tt e with
   |some j=>(.pointer (some ⟨b,o+(intOf ix).toNat * j.size,none⟩),Hs ix∧0≤intOf ix∧intOf ix < (n:Int))
   |none=>(undef,False)
  |_=>(undef,False)):=by
 unfold Af
 cases kindOf tt t with
 |none=>rfl
 |some d=>cases d <;> rfl
def Hd (sz:Nat)(v:Value)(a b:Nat):Value:=match v with
 | .slice (some ⟨k,o,none⟩) _ c=> .slice (some ⟨k,o+a * sz,none⟩) (b - a) (c - a)
 |v=>v
omit [Inhabited α] in
theorem BM.sC (h:BM E hp v l){j:TI}(hk:kindOf tt t=some (.slice e))(hj:tt e=some j){k:IntKind}{n:Int}(h0:0≤n)(h1:n≤l.length) :
  Be tt hp t v none (some (.int k n))=(Hd E.size v 0 n.toNat,True):=by
 cases h with
 |nils=>
  have:n=0:=by simp at h1;omega
  subst this
  simp [Be,hk,hj,DG,Bh,Hd]
 |emp=>
  have:n=0:=by simp at h1;omega
  subst this
  obtain ⟨i,hi,hd⟩:=Aa hk
  have hb:EL none (some (.int k 0)) 0 0=some (0,0):=rfl
  simp [Be,hk,Hd,Cx,hi,hd,hj,hb]
 |rows b o c rw vs l hb hv ho hc hn=>
  simp only [Be,hk,hj,hb,DG,Bh,Hd,Rd,intOf_int,Nat.zero_mul,Nat.add_zero,Nat.sub_zero,true_and,Prod.mk.injEq,eq_iff_iff,iff_true]
  omega
omit [Inhabited α] in
theorem BM.take (h:BM E hp v l){n:Nat}(h1:n≤l.length):BM E hp (Hd E.size v 0 n) (l.take n):=by
 cases h with
 |nils=>simp [Hd];exact .nils
 |emp=>simp [Hd];exact .emp
 |rows b o c rw vs l hb hv ho hc hn=>
  have hl:(l.take n).length=n:=by rw [List.length_take];omega
  have h2:n * E.size≤l.length * E.size:=Nat.mul_le_mul_right _ h1
  have:=BM.rows (E:=E) (hp:=hp) b o c rw vs (l.take n) hb (by rw [hl,←Bk.Gu,←hv,List.take_take,Nat.min_eq_left h2]) (by rw [hl];omega) (by omega) (by omega)
  rw [hl] at this
  simpa [Hd] using this
end
def Gv (sz:Nat)(v:Value)(a:Nat):Value:=match v with
 | .slice (some ⟨k,o,none⟩) n c=>if a=0∨a < c then .slice (some ⟨k,o+a * sz,none⟩) (n - a) (c - a) else .slice (some ⟨0,0,some 0⟩) 0 0
 |v=>v
theorem BM.sA {α:Type}{E:Bk α}{hp:Hp}{v:Value}{l:List α}{tt:AO}{t e:TypeId}(h:BM E hp v l){j:TI}(hk:kindOf tt t=some (.slice e))(hj:tt e=some j)(hs:j.size=E.size){k:IntKind}{n:Int}(h0:0≤n)(h1:n≤l.length) :
  Be tt hp t v (some (.int k n)) none=(Gv E.size v n.toNat,True):=by
 cases h with
 |nils=>
  have:n=0:=by simp at h1;omega
  subst this
  simp [Be,hk,hj,DG,Bh,Gv]
 |emp=>
  have:n=0:=by simp at h1;omega
  subst this
  obtain ⟨i,hi,hd⟩:=Aa hk
  have hb:EL (some (.int k 0)) none 0 0=some (0,0):=rfl
  simp [Be,hk,Gv,Cx,hi,hd,hj,hb]
 |rows b o c rw vs l hb hv ho hc hn=>
  simp only [Be,hk,hj,hb,DG,Bh,Gv,Rd,intOf_int,hs,Int.toNat_natCast,true_and,Prod.mk.injEq,eq_iff_iff,iff_true,true_or,and_true]
  refine ⟨?_,by omega⟩
  by_cases hh:n.toNat=0∨n < (c:Int)
  ·rw [if_pos hh,if_pos (by omega)]
  ·rw [if_neg hh,if_neg (by omega)]
theorem BM.drop {α:Type}{E:Bk α}{hp:Hp}{v:Value}{l:List α}(h:BM E hp v l){n:Nat}(h1:n≤l.length):BM E hp (Gv E.size v n) (l.drop n):=by
 cases h with
 |nils=>simp [Gv];exact .nils
 |emp=>simp [Gv];exact .emp
 |rows b o c rw vs l hb hv ho hc hn=>
  simp only [Gv]
  have hl:(l.drop n).length=l.length - n:=by rw [List.length_drop]
  have h2:n * E.size≤l.length * E.size:=Nat.mul_le_mul_right _ h1
  split
  ·have e1:(l.length - n) * E.size=l.length * E.size - n * E.size:=by rw [Nat.sub_mul]
   have:=BM.rows (E:=E) (hp:=hp) b (o+n * E.size) (c - n) rw vs (l.drop n) hb (by
    rw [hl,e1,←Bk.LB,←hv,List.drop_take,List.drop_drop]) (by rw [hl,e1];omega) (by omega) (by omega)
   rw [hl] at this
   exact this
  ·rename_i hh
   have:l.drop n= []:=List.drop_eq_nil_of_le (by omega)
   rw [this];exact .emp
def AR {α:Type}(b:Nat)(l:List α):Value:=match l with
 | []=> .slice none 0 0
 |_ :: l=> .slice (some ⟨b,0,none⟩) (l.length+1) (l.length+1)
def AV {α:Type}(E:Bk α)(l:List α):Option Ay:=match l with
 | []=>none
 |a :: l=>some (.cells true E.size (E.flat (a :: l)))
section
variable {α:Type} {E:Bk α} {hp:Hp} {b:Nat} {l:List α} {v:Value}
theorem Et:AV E ([] :List α)=none:=rfl
theorem dG {α:Type}{E:Bk α}{l:List α}:vF (AV E l)=True:=by cases l <;> exact eq_true (by first | trivial | rfl)
theorem EC:(AR b ([] :List α))= .slice none 0 0:=rfl
theorem BM.VI (h:hp b=AV E l)(hn:l.length≤9223372036854775807):BM E hp (AR b l) l:=by
 cases l with
 |nil=>exact .nils
 |cons a l=>
  have:=BM.rows (E:=E) (hp:=hp) b 0 (l.length+1) true (E.flat (a :: l)) (a :: l) h (by rw [List.drop_zero,List.take_of_length_le];rw [Bk.Bb];exact Nat.le_refl _) (by rw [Bk.Bb];omega) (by simp) (by omega)
  simpa [AR] using this
theorem BM.own (h:hp b=AV E l)(hn:l.length≤16777216):BM E hp (AR b l) l:=BM.VI h (by omega)
theorem BJ {ρ:Nat→Nat}:Ax ρ (AR b l)=AR (ρ b) l:=by cases l <;> rfl
theorem Az [E.Plain]{ρ:Nat→Nat}:IZ ρ (AV E l)=AV E l:=by
 cases l with
 |nil=>rfl
 |cons a l=>simp only [AV,IZ,I6,Bk.bH]
def CP (b:Nat)(l:List α)(top:Nat)(o:Option Ay):BZ:=match l with
 | []=> [(top,o)]
 |_ :: _=> [(b,none),(top,o)]
theorem Gd {top:Nat}{o:Option Ay}(h:hp b=AV E l):hp.Al (CP b l top o)=(hp.set b none).set top o:=by
 cases l with
 |nil=>
  have:hp.set b none=hp:=by
   funext i
   unfold Hp.set
   split
   ·rename_i e;rw [e,h];rfl
   ·rfl
  rw [this];rfl
 |cons a l=>rfl
theorem BM.FO (h:BM E hp v l):FO v=some l.length:=by cases h <;> rfl
theorem BM.Ck (h:BM E hp v l):Ck hp E.size l.length v=some (E.flat l):=by
 cases h with
 |nils=>simp [Dm.Ck,Bk.Dj]
 |emp=>simp [Dm.Ck,Bk.Dj]
 |rows b' o c rw vs l' hb' hv ho hc hn'=>
  simp only [Dm.Ck,hb',hv,Bk.Bb,Nat.beq_refl]
theorem J3 {tt:AO}{top t0 t1 e:Nat}{i1 j:TI}{x:Value}{m:List α}(h0:kindOf tt t0=some (.slice e))(h1:tt t1=some i1)(hi:DB i1.ud=false)(hj:tt e=some j)(hs:j.size=E.size)(hby:Nat.ble j.bytes 65536=true)
  (h:hp b=AV E l) (hx:BM E hp x m) (hn:B6 (l.length+m.length) j.bytes=true) :
  Ab tt hp top [t0,t1] (AR b l) x=some (AR top (l ++ m),CP b l top (AV E (l ++ m)),top+1):=by
 obtain ⟨i,hi0,hd⟩:=Aa h0
 have hf:=hx.Ck
 have hlx:=hx.FO
 cases l with
 |nil=>
  cases m with
  |nil=>
   simp only [List.length_nil] at hf hlx
   simp [Ab,hi0,h1,hlx,hi,hd,hj,hs,hf,hby,Bk.Dj,Aq,AR,AV,CP]
  |cons y m=>
   have h2:B6 (y :: m).length j.bytes=true:=by simpa using hn
   have h3:=E.GO (y :: m)
   have h4:Nat.beq (E.flat (y :: m)).length ((y :: m).length * E.size)=true:=by rw [Bk.Bb];simp
   have h5:Nat.beq (y :: m).length 0=false:=rfl
   simp only [List.length_cons] at hf hlx h2 h4 h5
   simp only [Ab,hi0,h1,hlx,hi,hd,hj,hs,hf,hby,h2,h3,h4,h5,AR,AV,CP,List.nil_append,Bool.and_self,Bool.true_and]
 |cons a l=>
  have hb:hp b=some (.cells true E.size (E.flat (a :: l))):=h
  have h3:=E.GO m
  have h4:Nat.beq (E.flat m).length (m.length * E.size)=true:=by rw [Bk.Bb];simp
  have h5:Nat.beq E.size E.size=true:=by simp
  have h6:(Nat.ble (l.length+1+m.length) (l.length+1) && !Nat.beq (l.length+1) (l.length+1))=false:=by
   rw [Nat.beq_refl];simp
  have h7:(Nat.beq (0+(l.length+1) * E.size) (E.flat (a :: l)).length && B6 (l.length+1+m.length) j.bytes)=true:=by
   rw [Bool.and_eq_true]
   exact ⟨by rw [Bk.Bb];simp,hn⟩
  simp only [Ab,hi0,h1,hlx,hi,hd,hj,hs,hf,hby,hb,h3,h4,h5,h6,h7,AR,AV,CP,Bool.and_self,List.cons_append,List.drop_zero]
  simp only [List.length_append,Bk.CB,Bk.Ev,List.append_assoc]
  have e1:l.length+1+m.length=l.length+m.length+1:=by omega
  rw [e1]
theorem LR {tt:AO}{top t0 t1 e:Nat}{i1 j:TI}{x:Value}{m:List α}(h0:kindOf tt t0=some (.slice e))(h1:tt t1=some i1)(hi:DB i1.ud=false)(hj:tt e=some j)(hs:j.size=E.size)(hby:Nat.ble j.bytes 65536=true)
  (h:hp b=AV E l) (hx:BM E hp x m) (hn:l.length+m.length≤16777216) :
  Ab tt hp top [t0,t1] (AR b l) x=some (AR top (l ++ m),CP b l top (AV E (l ++ m)),top+1):=
 J3 h0 h1 hi hj hs hby h hx (H5 hn (Nat.le_of_ble_eq_true hby))
theorem Kb {tt:AO}{top t0 t1 e:Nat}{i1 j:TI}{x:Value}{m:List α}(h0:kindOf tt t0=some (.slice e))(h1:tt t1=some i1)(hi:DB i1.ud=false)(hj:tt e=some j)(hs:j.size=E.size)(hby:Nat.ble j.bytes 65536=true)
  (hx:BM E hp x m) (hn:B6 m.length j.bytes=true) :
  Ab tt hp top [t0,t1] (.slice none 0 0) x=some (AR top m, [(top,AV E m)],top+1):=by
 obtain ⟨i,hi0,hd⟩:=Aa h0
 have hf:=hx.Ck
 have hlx:=hx.FO
 cases m with
 |nil=>
  simp only [List.length_nil] at hf hlx
  simp [Ab,hi0,h1,hlx,hi,hd,hj,hs,hf,hby,Bk.Dj,Aq,AR,AV]
 |cons y m=>
  have h2:B6 (y :: m).length j.bytes=true:=hn
  have h3:=E.GO (y :: m)
  have h4:Nat.beq (E.flat (y :: m)).length ((y :: m).length * E.size)=true:=by rw [Bk.Bb];simp
  have h5:Nat.beq (y :: m).length 0=false:=rfl
  simp only [List.length_cons] at hf hlx h2 h4 h5
  simp only [Ab,hi0,h1,hlx,hi,hd,hj,hs,hf,hby,h2,h3,h4,h5,AR,AV,Bool.and_self,Bool.true_and]
theorem LJ {tt:AO}{top t0 t1 e:Nat}{i1 j:TI}{x:Value}{m:List α}(h0:kindOf tt t0=some (.slice e))(h1:tt t1=some i1)(hi:DB i1.ud=false)(hj:tt e=some j)(hs:j.size=E.size)(hby:Nat.ble j.bytes 65536=true)
  (hx:BM E hp x m) (hn:m.length≤16777216) :
  Ab tt hp top [t0,t1] (.slice none 0 0) x=some (AR top m, [(top,AV E m)],top+1):=
 Kb h0 h1 hi hj hs hby hx (H5 hn (Nat.le_of_ble_eq_true hby))
theorem pc (h:hp b=AV E l)(hn:l.length≤16777216):HJ E hp (AR b l)=True:=(BM.own h hn).P
theorem dq [Inhabited α](h:hp b=AV E l)(hn:l.length≤16777216):E.rd hp (AR b l)=l:=(BM.own h hn).rd
theorem mU:Au (AR b l)= [AR b l]:=by cases l <;> rfl
theorem mW:Value.oneCell' (AR b l)=true:=by cases l <;> rfl
theorem EE [Inhabited α]{tt:AO}{top t0 t1 e:Nat}{i1 j:TI}{x:Value}(h0:kindOf tt t0=some (.slice e))(h1:tt t1=some i1)(hi:DB i1.ud=false)(hj:tt e=some j)(hs:j.size=E.size)(hby:Nat.ble j.bytes 65536=true)
  (h:hp b=AV E l) (hx:HJ E hp x) (hn:l.length+(E.rd hp x).length≤16777216) :
  Ab tt hp top [t0,t1] (AR b l) x=some (AR top (l ++ E.rd hp x),CP b l top (AV E (l ++ E.rd hp x)),top+1):=by
 obtain ⟨m,hm⟩:=hx
 rw [hm.rd] at hn ⊢
 exact LR h0 h1 hi hj hs hby h hm hn
theorem uX (h:hp b=AV E l)(hn:l.length≤9223372036854775807):HJ E hp (AR b l)=True:=(BM.VI h hn).P
theorem jF [Inhabited α](h:hp b=AV E l)(hn:l.length≤9223372036854775807):E.rd hp (AR b l)=l:=(BM.VI h hn).rd
theorem Dc [Inhabited α]{tt:AO}{top t0 t1 e:Nat}{i1 j:TI}{x:Value}(h0:kindOf tt t0=some (.slice e))(h1:tt t1=some i1)(hi:DB i1.ud=false)(hj:tt e=some j)(hs:j.size=E.size)(hby:Nat.ble j.bytes 65536=true)
  (hx:HJ E hp x) (hn:B6 (E.rd hp x).length j.bytes=true) :
  Ab tt hp top [t0,t1] (.slice none 0 0) x=some (AR top (E.rd hp x), [(top,AV E (E.rd hp x))],top+1):=by
 obtain ⟨m,hm⟩:=hx
 rw [hm.rd] at hn ⊢
 exact Kb h0 h1 hi hj hs hby hm hn
theorem BM.one {k:Nat}{a:α}(h:hp k=some (.cells true E.size (E.enc a))):BM E hp (.slice (some ⟨k,0,none⟩) 1 1) [a]:=by
 have hl:=E.len a
 exact BM.rows (E:=E) (hp:=hp) k 0 1 true (E.enc a) [a] h (by simp [Bk.flat,←hl]) (by simp [hl]) (by simp) (by simp)
theorem EJ [Inhabited α]{tt:AO}{top t0 t1 e:Nat}{i1 j:TI}{x:Value}(h0:kindOf tt t0=some (.slice e))(h1:tt t1=some i1)(hi:DB i1.ud=false)(hj:tt e=some j)(hs:j.size=E.size)(hby:Nat.ble j.bytes 65536=true)
  (hx:HJ E hp x) (hn:(E.rd hp x).length≤16777216) :
  Ab tt hp top [t0,t1] (.slice none 0 0) x=some (AR top (E.rd hp x), [(top,AV E (E.rd hp x))],top+1):=by
 obtain ⟨m,hm⟩:=hx
 rw [hm.rd] at hn ⊢
 exact LJ h0 h1 hi hj hs hby hm hn
theorem Sf {tt:AO}{top t0 t1 e k:Nat}{i1 j:TI}{cs:List Value}(h0:kindOf tt t0=some (.slice e))(h1:tt t1=some i1)(hi:DB i1.ud=false)(hj:tt e=some j)(hs:j.size=E.size)(hby:Nat.ble j.bytes 65536=true)
  (h:hp b=AV E l) (hk:hp k=some (.cells true E.size cs)) (hc:E.enc (E.dec cs)=cs) (hn:l.length < 16777216) :
  Ab tt hp top [t0,t1] (AR b l) (.slice (some ⟨k,0,none⟩) 1 1)=some (AR top (l ++ [E.dec cs]),CP b l top (AV E (l ++ [E.dec cs])),top+1):=
 LR h0 h1 hi hj hs hby h (BM.one (by rw [hc];exact hk)) (by simp only [List.length_singleton];omega)
def cellsOf:Option Ay→List Value
 |some (.cells _ _ cs)=>cs
 |_=> []
theorem Qq {rw:Bool}{z:Nat}{cs:List Value}:cellsOf (some (.cells rw z cs))=cs:=rfl
theorem EA {tt:AO}{top t0 t1 e k:Nat}{i1 j:TI}(h0:kindOf tt t0=some (.slice e))(h1:tt t1=some i1)(hi:DB i1.ud=false)(hj:tt e=some j)(hs:j.size=E.size)(hby:Nat.ble j.bytes 65536=true)
  (h:hp b=AV E l) (hk:hp k=some (.cells true E.size (cellsOf (hp k)))) (hc:E.enc (E.dec (cellsOf (hp k)))=cellsOf (hp k)) (hn:l.length < 16777216) :
  Ab tt hp top [t0,t1] (AR b l) (.slice (some ⟨k,0,none⟩) 1 1)=some (AR top (l ++ [E.dec (cellsOf (hp k))]),CP b l top (AV E (l ++ [E.dec (cellsOf (hp k))])),top+1):=
 Sf h0 h1 hi hj hs hby h hk hc hn
theorem DZ {tt:AO}{top t0 t1 e k:Nat}{i1 j:TI}(h0:kindOf tt t0=some (.slice e))(h1:tt t1=some i1)(hi:DB i1.ud=false)(hj:tt e=some j)(hs:j.size=E.size)(hby:Nat.ble j.bytes 65536=true)
  (hk:hp k=some (.cells true E.size (cellsOf (hp k)))) (hc:E.enc (E.dec (cellsOf (hp k)))=cellsOf (hp k)) :
  Ab tt hp top [t0,t1] (.slice none 0 0) (.slice (some ⟨k,0,none⟩) 1 1)=some (AR top [E.dec (cellsOf (hp k))], [(top,AV E [E.dec (cellsOf (hp k))])],top+1):=
 LJ h0 h1 hi hj hs hby (BM.one (by rw [hc];exact hk)) (by simp)
theorem zT [Inhabited α]{tt:AO}{t e:TypeId}{j:TI}(hk:kindOf tt t=some (.slice e))(hj:tt e=some j){k:IntKind}{n:Int}(h0:0≤n)(h1:n < l.length) :
  Af tt t (AR b l) (.int k n)=(.pointer (some ⟨b,n.toNat * j.size,none⟩),True):=by
 cases l with
 |nil=>simp at h1;omega
 |cons a l=>
  unfold Af AR
  simp at h1
  simp [hk,hj,h0]
  omega
theorem Tz [Inhabited α]{a':α}{xs:List Value}{f:Nat}:∀ {l:List α} {i:Nat},i < l.length→f+xs.length≤E.size→E.enc a' = Ag (E.enc (at' l i)) f xs→Ag (E.flat l) (i * E.size+f) xs=E.flat (l.set i a'):=by
 intro l
 induction l with
 |nil=>intro i h;simp at h
 |cons a l ih=>
  intro i hi hf he
  have hl:=E.len a
  cases i with
  |zero=>
   have h0:at' (a :: l) 0=a:=rfl
   rw [h0] at he
   simp only [List.set_cons_zero,Bk.CB,he,Ag,Nat.zero_mul,Nat.zero_add]
   rw [List.take_append_of_le_length (by omega),List.drop_append_of_le_length (by omega)]
   simp only [List.append_assoc]
  |succ i=>
   have h1:at' (a :: l) (i+1)=at' l i:=by simp [at']
   rw [h1] at he
   have:=ih (by simpa using hi) hf he
   simp only [List.set_cons_succ,Bk.CB,←this,Ag]
   have e:(i+1) * E.size+f=(E.enc a).length+(i * E.size+f):=by rw [hl,Nat.succ_mul];omega
   rw [e,List.take_length_add_append,Nat.add_assoc,List.drop_length_add_append]
   simp only [List.append_assoc]
theorem ay {i:Nat}{a:α}(h:i < l.length):AV E (l.set i a)=some (.cells true E.size (E.flat (l.set i a))):=by
 cases l with
 |nil=>simp at h
 |cons b l=>cases i <;> rfl
theorem gG {i:Nat}(h:i < l.length):AV E l=some (.cells true E.size (E.flat l)):=by
 cases l with
 |nil=>simp at h
 |cons b l=>rfl
theorem Y2 {i d:Nat}(h:i < l.length):BK (AR b l) d= .pointer (some ⟨b,d,none⟩):=by
 cases l with
 |nil=>simp at h
 |cons a l=>simp [AR,BK]
theorem Ou [Inhabited α]{tt:AO}{t:TypeId}{j:TI}{x:Value}{i f:Nat}(hj:tt t=some j)(h:hp b=AV E l)(hi:i < l.length)(hx:Fy x j.size)(hf:f+j.size≤E.size)(h1:Aq (Au x)=true)
  (he:E.enc (E.dec (Ag (E.enc (at' l i)) f (Au x)))=Ag (E.enc (at' l i)) f (Au x)) :
  Ai tt hp t (BK (AR b l) (i * E.size+f)) x=([(b,AV E (l.set i (E.dec (Ag (E.enc (at' l i)) f (Au x)))))],True):=by
 have hlen:(Au x).length=j.size:=hx
 have h2:(i+1) * E.size≤l.length * E.size:=Nat.mul_le_mul_right _ hi
 rw [Nat.succ_mul] at h2
 rw [Y2 hi,ay hi]
 unfold Ai
 rw [gG hi] at h
 simp only [hj,h]
 rw [Tz hi (by rw [hlen];exact hf) he,Bk.Bb]
 have h3:i * E.size+f+j.size≤l.length * E.size:=by omega
 simp [hx,h1,h3]
theorem Vp [Inhabited α]{tt:AO}{t:TypeId}{j:TI}{cs:List Value}{i:Nat}(hj:tt t=some j)(hs:j.size=E.size)(h:hp b=AV E l)(hi:i < l.length)(hc:E.enc (E.dec cs)=cs)(h1:Aq cs=true) :
  Ai tt hp t (BK (AR b l) (i * E.size)) (.agg ⟨cs⟩)=([(b,AV E (l.set i (E.dec cs)))],True):=by
 have hl:cs.length=E.size:=by rw [←hc];exact E.len _
 have e:Ag (E.enc (at' l i)) 0 cs=cs:=by
  simp only [Ag,List.take_zero,List.nil_append,Nat.zero_add]
  rw [List.drop_eq_nil_of_le (by rw [E.len,hl];exact Nat.le_refl _),List.append_nil]
 have:=Ou (E:=E) (hp:=hp) (b:=b) (l:=l) (x:= .agg ⟨cs⟩) (i:=i) (f:=0) hj h hi (by show cs.length=j.size;rw [hl,hs]) (by omega) h1 (by show E.enc (E.dec (Ag _ 0 cs))=Ag _ 0 cs;rw [e,hc])
 rw [Nat.add_zero] at this
 rw [this]
 show ([(b,AV E (l.set i (E.dec (Ag _ 0 cs))))],True)=_
 rw [e]
theorem Cn [Inhabited α]{tt:AO}{t:TypeId}{j:TI}{x:Value}{i f:Nat}{a':α}(hj:tt t=some j)(h:hp b=AV E l)(hi:i < l.length)(hx:Fy x j.size)(hf:f+j.size≤E.size)(h1:Aq (Au x)=true)
  (he:E.enc a' = Ag (E.enc (at' l i)) f (Au x)) :
  Ai tt hp t (BK (AR b l) (i * E.size+f)) x=([(b,AV E (l.set i a'))],True):=by
 have:=Ou (E:=E) (hp:=hp) (b:=b) (l:=l) (x:=x) (i:=i) (f:=f) hj h hi hx hf h1 (by rw [←he,E.h])
 rw [this,←he,E.h]
end
end Go.Dm
namespace Go.Dm
structure KT (tt:AO) (kt:TypeId) (κ:Type) [DecidableEq κ] where
 ek:κ→Value
 eq:∀a b,Em tt 64 kt (ek a) (ek b)=some (decide (a=b))
 key:∀a,Lh tt 64 kt (ek a)=true
 pl:∀a,plain 8 (ek a)=true
 bits:∀a,Instr.sameBits 10000 (ek a) (ek a)=true
 Ax:∀ρ a,Ax ρ (ek a)=ek a
section
variable {κ β:Type} [DecidableEq κ]
variable {tt:AO} {kt:TypeId} (Q:KT tt kt κ) (ev:β→Value)
def AAD (tt:AO)(kt:TypeId)(z:Value)(k:Value)(es:List MapEntry)(ok:Bool):Value×Prop:=
 let v:=match UJ tt kt k es with
  |some (_,v)=>v
  |none=>z
 (match ok with
  |true=> .tuple ⟨[v, .bool (UJ tt kt k es).isSome]⟩
  |false=>v,Lh tt 64 kt k=true∧(Hx tt kt k es 0).isSome=true)
end
theorem ov {l:List Value}{n:Nat}(h:∀v∈l,Instr.sameBits n v v=true):Instr.sameBits (n+1) (.agg ⟨l⟩) (.agg ⟨l⟩)=true:=by
 have:∀l:List Value,(∀v∈l,Instr.sameBits n v v=true)→(l.zip l).all (fun (x,y)=>Instr.sameBits n x y)=true:=by
  intro l
  induction l with
  |nil=>intro _;rfl
  |cons a l ih=>
   intro h
   simp only [List.zip_cons_cons,List.all_cons,h a (List.mem_cons_self ..),Bool.true_and]
   exact ih fun v hv=>h v (List.mem_cons_of_mem _ hv)
 simp only [Instr.sameBits,beq_self_eq_true,Bool.true_and]
 exact this l h
end Go.Dm
namespace Go.Dm
def Jg:List (Nat×Nat)→Nat→Nat→Bool
 | [],_,_=>false
 | (a,b) :: l,i,k=>match Nat.beq a i,Nat.beq b k with
  |true,true=>true
  |_,_=>Jg l i k
structure ig where
 i:Nat
 g:Bool
 fr:B0
 op:Op
 v:Value
def Jh (tt:AO)(G:FuncId→BG)(un:List (Nat×Nat))(k:Nat)(hp:Hp):List ig→Prop
 | []=>True
 |e :: rs=>(if Jg un e.i k=true then (e.g=true→(pv tt G e.fr hp e.op).2∧(pv tt G e.fr hp e.op).1=e.v)∧Jh tt G un k hp rs else Jh tt G un k hp rs)
def HX (tt:AO)(G:FuncId→BG)(un:List (Nat×Nat))(i:Nat)(fr:B0)(op:Op)(v:Value):List (Nat×Hp)→Prop
 | []=>True
 | (k,hp) :: vs=>(if Jg un i k=true then ((pv tt G fr hp op).2∧(pv tt G fr hp op).1=v)∧HX tt G un i fr op v vs else HX tt G un i fr op v vs)
def PB:List (Nat×Nat)→Nat→Bool
 | [],_=>false
 | (a,_) :: l,i=>match Nat.beq a i with
  |true=>true
  |false=>PB l i
def N0 (un:List (Nat×Nat))(e:ig)(rs:List ig):List ig:=match PB un e.i with
 |true=>e :: rs
 |false=>rs
def I8 (tt:AO)(G:FuncId→BG)(all:List Oper)(un:List (Nat×Nat)):Nat→List Oper→List ig→List (Nat×Hp)→(SS→Prop)→SS→Prop
 |_, [],_,_,K,s=>K s
 |i,o :: os,rs,vs,K,s=>(Ah all s.fr o.guard).2∧(match E3 G o.op with
  |true=>(if (Ah all s.fr o.guard).1=true then (CI tt G s.fr s.hp s.top o.op).ob∧Jh tt G un i (s.hp.Al (CI tt G s.fr s.hp s.top o.op).us) rs∧
     I8 tt G all un (i+1) os rs ((i,s.hp) :: vs) K ⟨Bl s.fr o.dst (CI tt G s.fr s.hp s.top o.op).v true,s.hp.Al (CI tt G s.fr s.hp s.top o.op).us,(CI tt G s.fr s.hp s.top o.op).top⟩
    else I8 tt G all un (i+1) os rs vs K ⟨Bl s.fr o.dst undef false,s.hp,s.top⟩)
  |false=>((Ah all s.fr o.guard).1=true→(pv tt G s.fr s.hp o.op).2∧HX tt G un i s.fr o.op (pv tt G s.fr s.hp o.op).1 vs)∧
    I8 tt G all un (i+1) os (N0 un ⟨i,(Ah all s.fr o.guard).1,s.fr,o.op,(pv tt G s.fr s.hp o.op).1⟩ rs) vs K ⟨Bl s.fr o.dst (pv tt G s.fr s.hp o.op).1 (Ah all s.fr o.guard).1,s.hp,s.top⟩)
theorem fD {un:List (Nat×Nat)}{i k:Nat}(h:Jg un i k=true):PB un i=true:=by
 induction un with
 |nil=>cases h
 |cons p l ih=>
  obtain ⟨a,b⟩:=p
  unfold Jg at h
  unfold PB
  cases ha:Nat.beq a i with
  |true=>rfl
  |false=>rw [ha] at h;exact ih h
theorem Vo {tt:AO}{G:FuncId→BG}{un:List (Nat×Nat)}{k:Nat}{hp:Hp}:∀ {rs:List ig},Jh tt G un k hp rs→∀e∈rs,Jg un e.i k=true→e.g=true→(pv tt G e.fr hp e.op).2∧(pv tt G e.fr hp e.op).1=e.v:=by
 intro rs
 induction rs with
 |nil=>intro _ e he;cases he
 |cons a rs ih=>
  intro h e he hu hg
  unfold Jh at h
  cases he with
  |head=>
   rw [if_pos hu] at h
   exact h.1 hg
  |tail _ he=>
   split at h
   ·exact ih h.2 e he hu hg
   ·exact ih h e he hu hg
theorem SX {tt:AO}{G:FuncId→BG}{un:List (Nat×Nat)}{i:Nat}{fr:B0}{op:Op}{v:Value}:∀ {vs:List (Nat×Hp)},HX tt G un i fr op v vs→∀p∈vs,Jg un i p.1=true→(pv tt G fr p.2 op).2∧(pv tt G fr p.2 op).1=v:=by
 intro vs
 induction vs with
 |nil=>intro _ e he;cases he
 |cons a vs ih=>
  intro h e he hu
  obtain ⟨k,hp⟩:=a
  unfold HX at h
  cases he with
  |head=>
   rw [if_pos hu] at h
   exact h.1
  |tail _ he=>
   split at h
   ·exact ih h.2 e he hu
   ·exact ih h e he hu
structure DXF (tt:AO) (G:FuncId→BG) (all:List Oper) (un:List (Nat×Nat)) (i:Nat) (os:List Oper) (rs:List ig) (vs:List (Nat×Hp)) (s:SS):Prop where
 step:∀k o,os[k]? = some o→DF tt G all o (Hm tt G all os s k) (Hm tt G all os s (k+1))
 WV:∀e∈rs,∀k o,os[k]? = some o→E3 G o.op=true→(Ah all (Hm tt G all os s k).fr o.guard).1=true→Jg un e.i (i+k)=true→e.g=true→
  (pv tt G e.fr (Hm tt G all os s (k+1)).hp e.op).2∧(pv tt G e.fr (Hm tt G all os s (k+1)).hp e.op).1=e.v
 Qz:∀p∈vs,∀k o,os[k]? = some o→E3 G o.op=false→(Ah all (Hm tt G all os s k).fr o.guard).1=true→Jg un (i+k) p.1=true→
  (pv tt G (Hm tt G all os s k).fr p.2 o.op).2∧(pv tt G (Hm tt G all os s k).fr p.2 o.op).1=(pv tt G (Hm tt G all os s k).fr (Hm tt G all os s k).hp o.op).1
 late:∀q k oq ok,q < k→os[q]? = some oq→os[k]? = some ok→E3 G oq.op=false→(Ah all (Hm tt G all os s q).fr oq.guard).1=true→E3 G ok.op=true→(Ah all (Hm tt G all os s k).fr ok.guard).1=true→Jg un (i+q) (i+k)=true→
  (pv tt G (Hm tt G all os s q).fr (Hm tt G all os s (k+1)).hp oq.op).2∧(pv tt G (Hm tt G all os s q).fr (Hm tt G all os s (k+1)).hp oq.op).1=(pv tt G (Hm tt G all os s q).fr (Hm tt G all os s q).hp oq.op).1
 early:∀q k oq ok,q < k→os[q]? = some oq→os[k]? = some ok→E3 G oq.op=true→(Ah all (Hm tt G all os s q).fr oq.guard).1=true→E3 G ok.op=false→(Ah all (Hm tt G all os s k).fr ok.guard).1=true→Jg un (i+k) (i+q)=true→
  (pv tt G (Hm tt G all os s k).fr (Hm tt G all os s q).hp ok.op).2∧(pv tt G (Hm tt G all os s k).fr (Hm tt G all os s q).hp ok.op).1=(pv tt G (Hm tt G all os s k).fr (Hm tt G all os s k).hp ok.op).1
theorem Tl {tt:AO}{G:FuncId→BG}{all:List Oper}{un:List (Nat×Nat)}{K:SS→Prop}:∀(os:List Oper) (i:Nat) (rs:List ig) (vs:List (Nat×Hp)) (s:SS),I8 tt G all un i os rs vs K s→
  K (Hm tt G all os s os.length)∧DXF tt G all un i os rs vs s:=by
 intro os
 induction os with
 |nil=>intro i rs vs s h;exact ⟨h,⟨fun k o hk=>by simp at hk,fun e he k o hk=>by simp at hk,fun p hp k o hk=>by simp at hk,fun q k oq ok hq h1=>by simp at h1,fun q k oq ok hq h1=>by simp at h1⟩⟩
 |cons o os ih=>
  intro i rs vs s h
  obtain ⟨h1,h2⟩:=h
  have z:∀n,Hm tt G all (o :: os) s (n+1)=Hm tt G all os (Ky tt G all o s) n:=fun n=>rfl
  have z0:Hm tt G all (o :: os) s 0=s:=rfl
  have sh:∀n:Nat,i+(n+1)=(i+1)+n:=fun n=>by omega
  cases hw:E3 G o.op with
  |true=>
   rw [hw] at h2
   dsimp only at h2
   cases hg:(Ah all s.fr o.guard).1 with
   |true=>
    rw [if_pos hg] at h2
    obtain ⟨h3,h4,h5⟩:=h2
    have hn:Ky tt G all o s=⟨Bl s.fr o.dst (CI tt G s.fr s.hp s.top o.op).v true,s.hp.Al (CI tt G s.fr s.hp s.top o.op).us,(CI tt G s.fr s.hp s.top o.op).top⟩:=by simp only [Ky,hw,hg]
    rw [←hn] at h5
    obtain ⟨hK,F⟩:=ih _ _ _ _ h5
    refine ⟨hK,⟨?_, ?_, ?_, ?_, ?_⟩⟩
    ·intro k p hk
     cases k with
     |zero=>
      simp at hk;subst hk
      rw [z,z0,ED]
      exact ⟨h1,fun _ _=>h3,fun e=>(by rw [hw] at e;cases e),rfl⟩
     |succ k=>exact F.step k p (by simpa using hk)
    ·intro e he k p hk hwp hgp hu heg
     cases k with
     |zero=>
      simp at hk;subst hk
      rw [z,ED,hn]
      exact Vo h4 e he (by simpa using hu) heg
     |succ k=>exact F.WV e he k p (by simpa using hk) hwp hgp (by rw [←sh];exact hu) heg
    ·intro e he k p hk hwp hgp hu
     cases k with
     |zero=>
      simp at hk;subst hk
      rw [hw] at hwp;cases hwp
     |succ k=>exact F.Qz e (List.mem_cons_of_mem _ he) k p (by simpa using hk) hwp hgp (by rw [←sh];exact hu)
    ·intro q k oq ok hqk hq hk hwq hgq hwk hgk hu
     cases k with
     |zero=>omega
     |succ k=>
      cases q with
      |zero=>
       simp at hq;subst hq
       rw [hw] at hwq;cases hwq
      |succ q=>exact F.late q k oq ok (by omega) (by simpa using hq) (by simpa using hk) hwq hgq hwk hgk (by rw [←sh,←sh];exact hu)
    ·intro q k oq ok hqk hq hk hwq hgq hwk hgk hu
     cases k with
     |zero=>omega
     |succ k=>
      cases q with
      |zero=>
       simp at hq;subst hq
       exact F.Qz (i,s.hp) (List.mem_cons_self ..) k ok (by simpa using hk) hwk hgk (by rw [←sh];simpa using hu)
      |succ q=>exact F.early q k oq ok (by omega) (by simpa using hq) (by simpa using hk) hwq hgq hwk hgk (by rw [←sh,←sh];exact hu)
   |false=>
    rw [if_neg (by rw [hg];simp)] at h2
    have hn:Ky tt G all o s=⟨Bl s.fr o.dst undef false,s.hp,s.top⟩:=by simp only [Ky,hw,hg]
    rw [←hn] at h2
    obtain ⟨hK,F⟩:=ih _ _ _ _ h2
    refine ⟨hK,⟨?_, ?_, ?_, ?_, ?_⟩⟩
    ·intro k p hk
     cases k with
     |zero=>
      simp at hk;subst hk
      rw [z,z0,ED]
      exact ⟨h1,fun _ e=>(by rw [hg] at e;cases e),fun e=>(by rw [hw] at e;cases e),rfl⟩
     |succ k=>exact F.step k p (by simpa using hk)
    ·intro e he k p hk hwp hgp hu heg
     cases k with
     |zero=>
      simp at hk;subst hk
      rw [z0,hg] at hgp;cases hgp
     |succ k=>exact F.WV e he k p (by simpa using hk) hwp hgp (by rw [←sh];exact hu) heg
    ·intro e he k p hk hwp hgp hu
     cases k with
     |zero=>
      simp at hk;subst hk
      rw [hw] at hwp;cases hwp
     |succ k=>exact F.Qz e he k p (by simpa using hk) hwp hgp (by rw [←sh];exact hu)
    ·intro q k oq ok hqk hq hk hwq hgq hwk hgk hu
     cases k with
     |zero=>omega
     |succ k=>
      cases q with
      |zero=>
       simp at hq;subst hq
       rw [hw] at hwq;cases hwq
      |succ q=>exact F.late q k oq ok (by omega) (by simpa using hq) (by simpa using hk) hwq hgq hwk hgk (by rw [←sh,←sh];exact hu)
    ·intro q k oq ok hqk hq hk hwq hgq hwk hgk hu
     cases k with
     |zero=>omega
     |succ k=>
      cases q with
      |zero=>
       simp at hq;subst hq
       rw [z0,hg] at hgq;cases hgq
      |succ q=>exact F.early q k oq ok (by omega) (by simpa using hq) (by simpa using hk) hwq hgq hwk hgk (by rw [←sh,←sh];exact hu)
  |false=>
   rw [hw] at h2
   dsimp only at h2
   obtain ⟨h3,h4⟩:=h2
   have hn:Ky tt G all o s=⟨Bl s.fr o.dst (pv tt G s.fr s.hp o.op).1 (Ah all s.fr o.guard).1,s.hp,s.top⟩:=by simp only [Ky,hw]
   rw [←hn] at h4
   obtain ⟨hK,F⟩:=ih _ _ _ _ h4
   have hold:∀e∈rs,e∈N0 un ⟨i,(Ah all s.fr o.guard).1,s.fr,o.op,(pv tt G s.fr s.hp o.op).1⟩ rs:=by
    intro e he
    unfold N0
    split
    ·exact List.mem_cons_of_mem _ he
    ·exact he
   refine ⟨hK,⟨?_, ?_, ?_, ?_, ?_⟩⟩
   ·intro k p hk
    cases k with
    |zero=>
     simp at hk;subst hk
     rw [z,z0,ED]
     exact ⟨h1,fun e=>(by rw [hw] at e;cases e),fun _ e=>(h3 e).1,rfl⟩
    |succ k=>exact F.step k p (by simpa using hk)
   ·intro e he k p hk hwp hgp hu heg
    cases k with
    |zero=>
     simp at hk;subst hk
     rw [hw] at hwp;cases hwp
    |succ k=>exact F.WV e (hold e he) k p (by simpa using hk) hwp hgp (by rw [←sh];exact hu) heg
   ·intro e he k p hk hwp hgp hu
    cases k with
    |zero=>
     simp at hk;subst hk
     rw [z0]
     exact SX (h3 hgp).2 e he (by simpa using hu)
    |succ k=>exact F.Qz e he k p (by simpa using hk) hwp hgp (by rw [←sh];exact hu)
   ·intro q k oq ok hqk hq hk hwq hgq hwk hgk hu
    cases k with
    |zero=>omega
    |succ k=>
     cases q with
     |zero=>
      simp at hq;subst hq
      have hm:(⟨i,(Ah all s.fr o.guard).1,s.fr,o.op,(pv tt G s.fr s.hp o.op).1⟩:ig)∈N0 un ⟨i,(Ah all s.fr o.guard).1,s.fr,o.op,(pv tt G s.fr s.hp o.op).1⟩ rs:=by
       have hh:PB un i=true:=fD (k:=i+(k+1)) (by simpa using hu)
       simp only [N0,hh,List.mem_cons,true_or]
      exact F.WV _ hm k ok (by simpa using hk) hwk hgk (by rw [←sh];simpa using hu) hgq
     |succ q=>exact F.late q k oq ok (by omega) (by simpa using hq) (by simpa using hk) hwq hgq hwk hgk (by rw [←sh,←sh];exact hu)
   ·intro q k oq ok hqk hq hk hwq hgq hwk hgk hu
    cases k with
    |zero=>omega
    |succ k=>
     cases q with
     |zero=>
      simp at hq;subst hq
      rw [hw] at hwq;cases hwq
     |succ q=>exact F.early q k oq ok (by omega) (by simpa using hq) (by simpa using hk) hwq hgq hwk hgk (by rw [←sh,←sh];exact hu)
def j9 (G:FuncId→BG)(an:List Nat)(un:List (Nat×Nat))(all:List Oper):Bool:=(List.range all.length).all fun i=>match all[i]? with
 |none=>true
 |some o=>E3 G o.op || Bu o.op || (List.range all.length).all fun k=>match all[k]? with
  |none=>true
  |some p=> !E3 G p.op || Jg un i k || (match Nat.ble (k+1) i with
   |true=>bit (an.getD i 0) k
   |false=>bit (an.getD k 0) i)
noncomputable def XK (G:FuncId→BG)(un:List (Nat×Nat))(ops:List Oper):Bool:=match SF ops [] with
 |none=>false
 |some an=>distinct (A3 ops 0) && Ie ops && It an (A3 ops 0) ops ops 0 && l9 G an ops && j9 G an un ops
theorem ZX {G:FuncId→BG}{an:List Nat}{un:List (Nat×Nat)}{all:List Oper}(h:j9 G an un all=true):∀i k oi ok,all[i]? = some oi→all[k]? = some ok→E3 G oi.op=false→Bu oi.op=false→E3 G ok.op=true→
  Jg un i k=true∨((k < i→bit (an.getD i 0) k=true)∧(¬k < i→bit (an.getD k 0) i=true)):=by
 intro i k oi ok hi hk hwi hfi hwk
 have lt_of:∀(k:Nat) (o:Oper),all[k]? = some o→k < all.length:=fun k o h=>by
  rcases Nat.lt_or_ge k all.length with h2 | h2
  ·exact h2
  ·rw [List.getElem?_eq_none h2] at h;cases h
 unfold j9 at h
 rw [List.all_eq_true] at h
 have:=h i (List.mem_range.2 (lt_of i oi hi))
 rw [hi] at this
 simp only [hwi,hfi,Bool.false_or,List.all_eq_true] at this
 have:=this k (List.mem_range.2 (lt_of k ok hk))
 rw [hk] at this
 simp only [hwk,Bool.not_true,Bool.false_or,Bool.or_eq_true] at this
 rcases this with h1 | h1
 ·exact .inl h1
 right
 constructor
 ·intro hlt
  have hb:Nat.ble (k+1) i=true:=Nat.ble_eq_true_of_le hlt
  rw [hb] at h1;exact h1
 ·intro hlt
  have hb:Nat.ble (k+1) i=false:=by
   cases hb:Nat.ble (k+1) i with
   |false=>rfl
   |true=>exact absurd (Nat.le_of_ble_eq_true hb) hlt
  rw [hb] at h1
  exact h1
section
variable {P:Program} {tt:AO} {G:FuncId→BG} {ops:Array Oper} {an:List Nat} {s0:SS} {sz:Nat}
open Classical in
theorem A8.AAX (F:A8 P tt G ops an s0 sz)(un:List (Nat×Nat))(hun:j9 G an un ops.toList=true)(hX:DXF tt G ops.toList un 0 ops.toList [] [] s0):Kw P tt G ops an s0 sz:=by
 refine ⟨F, ?_⟩
 intro i o ho hwb hg p hp hcomp
 have hilt:=A8.lt (ops:=ops) i o ho
 have S:=F.step i o ho
 have hpv:=S.r hwb hg
 have ltk:∀k,AW tt G ops s0 k→k < ops.size:=fun k ⟨ok,h1,_⟩=>A8.lt (ops:=ops) k ok h1
 have free:Bu o.op=true→E4 o.op=false:=fun h=>by
  cases h2:E4 o.op with
  |false=>rfl
  |true=>rw [ab hwb h2] at h;cases h
 -- the read at memory p
 have key:Bu o.op=false→(pv tt G (AY tt G ops s0 i).fr (AY tt G ops s0 p).hp o.op).2∧(pv tt G (AY tt G ops s0 i).fr (AY tt G ops s0 p).hp o.op).1=(pv tt G (AY tt G ops s0 i).fr (AY tt G ops s0 i).hp o.op).1:=by
  intro hf
  have un':∀k,AW tt G ops s0 k→((k < i∧¬k < p)∨(¬k < i∧k < p))→Jg un i k=true:=by
   intro k hk hc
   obtain ⟨ok,h1,h2,h3⟩:=hk
   obtain ⟨c1,c2⟩:=hcomp k ok h1 ⟨ok,h1,h2,h3⟩
   rcases ZX hun i k o ok (by simpa using ho) (by simpa using h1) hwb hf h2 with h4 | ⟨h4,h5⟩
   ·exact h4
   ·rcases hc with ⟨a,b⟩ | ⟨a,b⟩
    ·exact absurd (c1 (h4 a)) b
    ·have:=h5 a;rw [c2 b] at this;cases this
  rcases Nat.le_total i p with hip | hip
  ·by_cases hex:∃k,AW tt G ops s0 k∧i≤k∧k < p
   ·-- the last writer ahead of p
    have:∃k,(AW tt G ops s0 k∧i≤k∧k < p)∧∀k',AW tt G ops s0 k'→i≤k'→k' < p→k'≤k:=by
     have hb:∀n,(∃k,AW tt G ops s0 k∧i≤k∧k < n)→∃k,(AW tt G ops s0 k∧i≤k∧k < n)∧∀k',AW tt G ops s0 k'→i≤k'→k' < n→k'≤k:=by
      intro n
      induction n with
      |zero=>rintro ⟨k,_,_,h⟩;omega
      |succ n ih=>
       intro h
       by_cases hn:AW tt G ops s0 n∧i≤n
       ·exact ⟨n,⟨hn.1,hn.2,by omega⟩,fun k' _ _ h=>by omega⟩
       ·obtain ⟨k,h1,h2,h3⟩:=h
        have hkn:k≠n:=fun e=>hn (e ▸ ⟨h1,h2⟩)
        obtain ⟨m,⟨m1,m2,m3⟩,m4⟩:=ih ⟨k,h1,h2,by omega⟩
        refine ⟨m,⟨m1,m2,by omega⟩,fun k' h1 h2 h3=> ?_⟩
        have:k'≠n:=fun e=>hn (e ▸ ⟨h1,h2⟩)
        exact m4 k' h1 h2 (by omega)
     exact hb p hex
    obtain ⟨k,⟨k1,k2,k3⟩,k4⟩:=this
    have hgp:=F.QQ hp (show k+1≤ops.size from ltk k k1) (fun k' hk'=>by
     constructor
     ·intro h
      rcases Nat.lt_or_ge k' i with h5 | h5
      ·omega
      ·have:=k4 k' hk' h5 h;omega
     ·intro h;omega)
    rw [hgp.1]
    obtain ⟨ok,h1,h2,h3⟩:=k1
    have hne:i≠k:=fun e=>by subst e;rw [ho] at h1;cases h1;rw [hwb] at h2;cases h2
    exact hX.late i k o ok (by omega) (by simpa using ho) (by simpa using h1) hwb hg h2 h3 (by simpa using un' k ⟨ok,h1,h2,h3⟩ (.inr ⟨by omega,k3⟩))
   ·have hgp:=F.QQ hp (Nat.le_of_lt hilt) (fun k' hk'=>by
     constructor
     ·intro h
      rcases Nat.lt_or_ge k' i with h5 | h5
      ·exact h5
      ·exact absurd ⟨k',hk',h5,h⟩ hex
     ·intro h;omega)
    rw [hgp.1];exact ⟨hpv,rfl⟩
  ·by_cases hex:∃k,AW tt G ops s0 k∧p≤k∧k < i
   ·have:∃k,(AW tt G ops s0 k∧p≤k∧k < i)∧∀k',AW tt G ops s0 k'→p≤k'→k' < i→k≤k':=by
     have hb:∀d n,n+d=i→(∃k,AW tt G ops s0 k∧n≤k∧k < i)→∃k,(AW tt G ops s0 k∧n≤k∧k < i)∧∀k',AW tt G ops s0 k'→n≤k'→k' < i→k≤k':=by
      intro d
      induction d with
      |zero=>rintro n hn ⟨k,_,h1,h2⟩;omega
      |succ d ih=>
       intro n hn h
       by_cases hc:AW tt G ops s0 n
       ·exact ⟨n,⟨hc,by omega,by omega⟩,fun k' _ h _=>h⟩
       ·obtain ⟨k,h1,h2,h3⟩:=h
        have hkn:k≠n:=fun e=>hc (e ▸ h1)
        obtain ⟨m,⟨m1,m2,m3⟩,m4⟩:=ih (n+1) (by omega) ⟨k,h1,by omega,h3⟩
        refine ⟨m,⟨m1,by omega,m3⟩,fun k' h1 h2 h3=> ?_⟩
        have:k'≠n:=fun e=>hc (e ▸ h1)
        exact m4 k' h1 (by omega) h3
     exact hb (i - p) p (by omega) hex
    obtain ⟨k,⟨k1,k2,k3⟩,k4⟩:=this
    have hgp:=F.QQ hp (Nat.le_of_lt (ltk k k1)) (fun k' hk'=>by
     constructor
     ·intro h;omega
     ·intro h
      rcases Nat.lt_or_ge k' p with h5 | h5
      ·exact h5
      ·have:=k4 k' hk' h5 (by omega);omega)
    rw [hgp.1]
    obtain ⟨ok,h1,h2,h3⟩:=k1
    exact hX.early k i ok o k3 (by simpa using h1) (by simpa using ho) h2 h3 hwb hg (by simpa using un' k ⟨ok,h1,h2,h3⟩ (.inl ⟨k3,by omega⟩))
   ·have hgp:=F.QQ hp (Nat.le_of_lt hilt) (fun k' hk'=>by
     constructor
     ·intro h;omega
     ·intro h
      rcases Nat.lt_or_ge k' p with h5 | h5
      ·exact h5
      ·exact absurd ⟨k',hk',h5,h⟩ hex)
    rw [hgp.1];exact ⟨hpv,rfl⟩
 constructor
 ·intro hiw
  cases hf:Bu o.op with
  |true=>rw [free hf] at hiw;cases hiw
  |false=>exact key hf
 ·intro hiw
  cases hf:Bu o.op with
  |true=>rw [Ko (hp':=(AY tt G ops s0 i).hp) hf];exact KV (P:=P) hiw hpv (fun _ _ e=>e)
  |false=>
   obtain ⟨k1,k2⟩:=key hf
   rw [←k2]
   exact KV (P:=P) hiw k1 (fun _ _ e=>e)
end
theorem CW.UI {P:Program}{tt:AO}{G:FuncId→BG}(E:B4 P tt G){sz base:Nat}{s:SS}{Q:Exit→SS→Prop}(id:Nat){ops:Array Oper}(BN:List Nat)(un:List (Nat×Nat))(hdst:GV sz ops=true)(hdr:XK G un ops.toList=true)
  (h:I8 tt G ops.toList un 0 ops.toList [] [] (YO BN Q) s):CW P sz base (.region id ops true) s Q:=by
 unfold XK at hdr
 split at hdr
 ·cases hdr
 ·rename_i an han
  simp only [Bool.and_eq_true] at hdr
  obtain ⟨⟨⟨⟨hdis,hmo⟩,hsafe⟩,hww⟩,hrw⟩:=hdr
  obtain ⟨hQ,hX⟩:=Tl _ _ _ _ _ h
  have hfacts:=hX.step
  have hmem:∀(k:Nat) (o:Oper) (d:Nat),ops[k]? = some o→o.dst=some d→(d,k)∈A3 ops.toList 0:=by
   intro k o d ho hd
   have:=Fp ops.toList 0 k d o (by simpa using ho) hd
   simpa using this
  intro φ0 φ own ds w0 a w hb hle S
  have FB:A8 P tt G ops an s sz:=by
   refine ⟨E,C2 hdst,MF han,hmem, ?_, ?_,fun k o ho=>hfacts k o (by simpa using ho),fun j k oj ok hj hk h1 h2 h3=>(PL hww j k oj ok (by simpa using hj) (by simpa using hk) h1 h2 h3).imp (fun h=>h) (fun h=>⟨h.1,fun i oi hi=>h.2 i oi (by simpa using hi)⟩),fun i o hi=>S.hr.lt S.top hi⟩
   ·intro d k k' h1 h2
    exact Ej _ hdis d k k' h1 h2 fun p hp q hq hpq=>Fw ops.toList 0 p q hp hq hpq
   ·intro k o ho
    have:=HQ an _ _ _ 0 hsafe k o (by simpa using ho)
    rw [Nat.zero_add] at this
    exact ⟨this.1,fun j want p d hg hp hd=>this.2 j want p d hg (by simpa using hp) hd⟩
  have F:Kw P tt G ops an s sz:=FB.AAX un hrw hX
  have hn:ops.toList.length=ops.size:=by simp
  rw [hn] at hQ
  have all:∀md,D7 md ops→wpAny P md ops (fun x a' w'=>x≠ .outgrown∧∃φ' s',φ0.le φ'∧Ha φ' own sz ds w0 s' a' w'∧Q x s') ops.size (Array.replicate ops.size false) a {w with drawn:=w.drawn+1}:=by
   intro md hrk
   have hf:∀k,¬((Array.replicate ops.size false).getD k false=true):=by
    intro k hk
    simp [Array.getD_eq_getD_getElem?,Array.getElem?_replicate] at hk
    split at hk <;> simp at hk
   refine F.main (φ0:=φ) (own:=own) (ds:=ds) (w0:=w0) hrk ?_ ops.size _ φ 0 a _ (by simp) (HS _) (Ren.le_refl _) ?_ ?_
   ·intro φ' a' w' hle' S'
    exact ⟨nofun,φ',⟨FW (AY tt G ops s ops.size).fr BN,(AY tt G ops s ops.size).hp,(AY tt G ops s ops.size).top⟩,Ren.le_trans hle hle',S'.sub (Sub.BN (AY tt G ops s ops.size) BN),hQ⟩
   ·intro k o _ hk;exact absurd hk (hf k)
   ·exact IU.start hf S
  have anyR:D7 .any ops:=⟨fun k=>k,fun k o hk e he hb=>by
   have h1:=F.Z7.lt k o (by simpa using hk) e he hb
   have h2:k < ops.size:=by
    rcases Nat.lt_or_ge k ops.size with h | h
    ·exact h
    ·rw [Array.getElem?_eq_none h] at hk;cases hk
   exact ⟨by omega,h1⟩⟩
  refine B8.IJ (F3 hdst) (fun ⟨_,_,h,_⟩=>h rfl) fun t=> ?_
  unfold Region.schedule
  split
  ·exact wpAny_sound ops.size t _ a _ (all .any anyR)
  ·rename_i hnd
   have hd:Region.departs ops=true:=by
    cases hdp:Region.departs ops with
    |true=>rfl
    |false=>rw [hdp] at hnd;simp at hnd
   obtain ⟨r1,r2⟩:=E7 hmo hd
   split
   ·exact wpAny_sound ops.size _ _ a _ (all .text r1)
   ·exact wpAny_sound ops.size _ _ a _ (all .gc r2)
section
variable {tt:AO} {G:FuncId→BG} {all os:List Oper} {un:List (Nat×Nat)} {o:Oper} {i:Nat} {rs:List ig} {vs:List (Nat×Hp)} {K:SS→Prop} {s:SS}
theorem YG:I8 tt G all un i [] rs vs K s=K s:=rfl
theorem VW:I8 tt G all un i (o :: os) rs vs K s=((Ah all s.fr o.guard).2∧(match E3 G o.op with
  |true=>(if (Ah all s.fr o.guard).1=true then (CI tt G s.fr s.hp s.top o.op).ob∧Jh tt G un i (s.hp.Al (CI tt G s.fr s.hp s.top o.op).us) rs∧
     I8 tt G all un (i+1) os rs ((i,s.hp) :: vs) K ⟨Bl s.fr o.dst (CI tt G s.fr s.hp s.top o.op).v true,s.hp.Al (CI tt G s.fr s.hp s.top o.op).us,(CI tt G s.fr s.hp s.top o.op).top⟩
    else I8 tt G all un (i+1) os rs vs K ⟨Bl s.fr o.dst undef false,s.hp,s.top⟩)
  |false=>((Ah all s.fr o.guard).1=true→(pv tt G s.fr s.hp o.op).2∧HX tt G un i s.fr o.op (pv tt G s.fr s.hp o.op).1 vs)∧
    I8 tt G all un (i+1) os (N0 un ⟨i,(Ah all s.fr o.guard).1,s.fr,o.op,(pv tt G s.fr s.hp o.op).1⟩ rs) vs K ⟨Bl s.fr o.dst (pv tt G s.fr s.hp o.op).1 (Ah all s.fr o.guard).1,s.hp,s.top⟩)):=rfl
end
end Go.Dm
namespace Go.Dm
theorem HR.stay {φ:Ren}{own:Nat→Prop}{hp:Hp}{w w':World}(H:HR φ own hp w)(hk:K (fun b=>w.heap.size≤b) w w'):HR φ own hp w':=by
 have same:∀b,b < w.heap.size→w'.heap[b]? = w.heap[b]? :=fun b hb=>hk.same b hb (by omega)
 refine ⟨?_,H.sep,H.DC,fun i L e=>Nat.lt_of_lt_of_le (H.val i L e) hk.size,fun b hb=>H.fresh b (Nat.le_trans hk.size hb)⟩
 intro i o e
 obtain ⟨L,h1,h2⟩:=H.obj i o e
 exact ⟨L,h1,by rw [same _ (H.val i L h1)];exact h2⟩
theorem K.L9 {own:Nat→Prop}{w w':World}(hf:∀b,w.heap.size≤b→own b)(hk:K (fun b=>w.heap.size≤b) w w'):K own w w':=
 ⟨hk.size,fun b hb _=>hk.same b hb (by omega),hk.os,hk.tape,hk.output⟩
end Go.Dm
