/- The abstract machine, a part of it: operations, regions, code and calls run over values with named blocks; each step is shown of the real run. -/
import Derived.Test.YthpibnpeaidabaaGreatDoorDmE
set_option linter.unusedSimpArgs false
set_option linter.unusedVariables false
namespace Go.Dm
mutual
def BH (ρ:Nat→Nat):Value→Value
 | .pointer (some ⟨b,o,s⟩)=> .pointer (some ⟨ρ b,o,s⟩)
 | .slice (some ⟨b,o,none⟩) n c=> .slice (some ⟨ρ b,o,none⟩) n c
 | .map (some b)=> .map (some (ρ b))
 | .agg ⟨l⟩=> .agg ⟨Am ρ l⟩
 | .tuple ⟨l⟩=> .tuple ⟨Am ρ l⟩
 | .iface t v=> .iface t (BH ρ v)
 | .func f ⟨a⟩ ⟨b⟩=> .func f ⟨Am ρ a⟩ ⟨Am ρ b⟩
 |v=>v
def Am (ρ:Nat→Nat):List Value→List Value
 | []=> []
 |v :: l=>BH ρ v :: Am ρ l
end
def gG (ρ:Nat→Nat)(e:MapEntry):MapEntry:= {e with key:=BH ρ e.key,val:=BH ρ e.val}
def IL (ρ:Nat→Nat):A5→A5
 | .cells rw BU vs=> .cells rw BU (Am ρ vs)
 | .map es clk=> .map (es.map (gG ρ)) clk
 | .iter s p=> .iter s p
 | .miter m since seen c=> .miter (ρ m) since seen c
 | .raw b vs=> .raw b vs
theorem GG (ρ:Nat→Nat):∀l,Am ρ l=l.map (BH ρ)
 | []=>rfl
 |v :: l=>by rw [Am,GG ρ l];rfl
theorem Qq (ρ:Nat→Nat)(l m:List Value):Am ρ (l ++ m)=Am ρ l ++ Am ρ m:=by simp only [GG,List.map_append]
theorem Q1 (ρ:Nat→Nat)(l:List Value):(Am ρ l).length=l.length:=by simp only [GG,List.length_map]
def Ren.via (φ:Ren)(ρ:Nat→Nat):Ren:=fun j=>φ (ρ j)
mutual
theorem V.Di {φ:Ren}{ρ:Nat→Nat}:∀ {v x:Value},V φ (BH ρ v) x→V (φ.via ρ) v x:=by
 intro v x h
 match v with
 | .bool b=>cases h;exact .bool b
 | .int k n=>cases h;exact .int k n
 | .float k n=>cases h
 | .complex k a b=>cases h
 | .string s=>cases h;exact .str s
 | .pointer none=>cases h;exact .nilp
 | .pointer (some ⟨b,o,s⟩)=>
  simp only [BH] at h
  cases h with
  |ptr _ _ L hL=>exact .ptr _ _ L hL
 | .slice none n c=>cases h;exact .nils
 | .slice (some ⟨b,o,none⟩) n c=>
  simp only [BH] at h
  generalize hb:ρ b=b' at h
  cases h with
  |slice _ _ _ _ c' L hL hn hc hl=>exact .slice _ _ _ _ c' L (by rw [←hb] at hL;exact hL) hn hc hl
 | .slice (some ⟨b,o,some s⟩) n c=>
  have e:BH ρ (.slice (some ⟨b,o,some s⟩) n c)= .slice (some ⟨b,o,some s⟩) n c:=by unfold BH;rfl
  rw [e] at h
  cases h
  exact .emp _ _
 | .map none=>cases h;exact .nilm
 | .map (some b)=>
  simp only [BH] at h
  cases h with
  |map _ L hL=>exact .map _ L hL
 | .chan r=>cases h
 | .func f ⟨a⟩ ⟨b⟩=>
  simp only [BH] at h
  cases h with
  |func _ _ a' _ b' ha hb=>exact .func _ _ _ _ _ (Vs.Di ha) (Vs.Di hb)
 | .nilFunc=>cases h;exact .nilf
 | .iface t v=>
  simp only [BH] at h
  cases h with
  |iface _ _ v' hv=>exact .iface _ _ _ (V.Di hv)
 | .nilIface=>cases h;exact .nili
 | .agg ⟨l⟩=>
  simp only [BH] at h
  cases h with
  |agg _ l' hl=>exact .agg _ _ (Vs.Di hl)
 | .tuple ⟨l⟩=>
  simp only [BH] at h
  cases h with
  |tuple _ l' hl=>exact .tuple _ _ (Vs.Di hl)
theorem Vs.Di {φ:Ren}{ρ:Nat→Nat}:∀ {l m:List Value},Vs φ (Am ρ l) m→Vs (φ.via ρ) l m:=by
 intro l m h
 match l with
 | []=>cases h;exact .nil
 |v :: l=>
  simp only [Am] at h
  cases h with
  |cons _ x _ m hx hm=>exact .cons _ _ _ _ (V.Di hx) (Vs.Di hm)
end
theorem Es.Di {φ:Ren}{ρ:Nat→Nat}:∀ {l m:List MapEntry},Es φ (l.map (gG ρ)) m→Es (φ.via ρ) l m:=by
 intro l
 induction l with
 |nil=>intro m h;cases h;exact .nil
 |cons e l ih=>
  intro m h
  simp only [List.map_cons] at h
  cases h with
  |cons _ x _ m hx hm=>exact .cons _ _ _ _ ⟨V.Di hx.key,V.Di hx.val,hx.born⟩ (ih hm)
theorem Da.Di {φ:Ren}{ρ:Nat→Nat}{L:Loc}{o:A5}{x:Option Obj}(h:Da φ L (IL ρ o) x):Da (φ.via ρ) L o x:=by
 cases o with
 |cells rw BU vs=>
  obtain ⟨he,c,t,fz,h1,h2,h3,h4,h5⟩:=h
  rw [Q1] at h3 h4
  exact ⟨he,c,t,fz,h1,h2,h3,Vs.Di h4,h5⟩
 |map es clk=>obtain ⟨es',h1,h2⟩:=h;exact ⟨es',h1,Es.Di h2⟩
 |iter s pos=>exact h
 |miter m since seen c=>exact h
 |raw b vs=>exact h
theorem Va (ρ:Nat→Nat)(o:A5):(IL ρ o).rw=o.rw:=by cases o <;> rfl
structure A9 (ρ:Nat→Nat) (base:Nat) (s' s:SS):Prop where
 low:∀j,j < base→ρ j=j
 high:∀j,s'.top≤j→s.top≤ρ j
 inj:∀i j,i < s'.top→j < s'.top→ρ i=ρ j→i=j
 fr:∀t v,Fx s'.fr t=some v→Fx s.fr t=some (BH ρ v)
 hp:∀i o,s'.hp i=some o→s.hp (ρ i)=some (IL ρ o)
theorem HR.Di {φ:Ren}{own:Nat→Prop}{w:World}{hp hp':Hp}{top top':Nat}{ρ:Nat→Nat}(H:HR φ own hp w)(htop:∀j,top≤j→φ j=none)
  (high:∀j,top'≤j→top≤ρ j) (inj:∀i j,i < top'→j < top'→ρ i=ρ j→i=j) (hh:∀i o,hp' i=some o→hp (ρ i)=some (IL ρ o)):HR (φ.via ρ) own hp' w:=by
 have dom:∀i o,hp' i=some o→i < top':=by
  intro i o e
  rcases Nat.lt_or_ge i top' with h | h
  ·exact h
  ·obtain ⟨L,h1,_⟩:=H.obj _ _ (hh i o e)
   rw [htop _ (high i h)] at h1;cases h1
 refine ⟨?_, ?_, ?_, ?_,H.fresh⟩
 ·intro i o e
  obtain ⟨L,h1,h2⟩:=H.obj _ _ (hh i o e)
  exact ⟨L,h1,Da.Di h2⟩
 ·intro i j oi oj Li Lj hi hj hne hrw hLi hLj
  exact H.sep (ρ i) (ρ j) _ _ Li Lj (hh _ _ hi) (hh _ _ hj) (fun e=>hne (inj i j (dom _ _ hi) (dom _ _ hj) e)) (by rw [Va];exact hrw) hLi hLj
 ·intro i o L e hrw hL
  exact H.Dq _ _ L (hh _ _ e) (by rw [Va];exact hrw) hL
 ·intro i L hL
  exact H.val (ρ i) L hL
theorem HF.ZK {φ:Ren}{own:Nat→Prop}{sz:Nat}{ds:List Deferred}{w0:World}{s s':SS}{a:Act}{w:World}{ρ:Nat→Nat}{base:Nat}(S:HF φ own sz ds w0 s a w)(h:A9 ρ base s' s):HF (φ.via ρ) own sz ds w0 s' a w:=
 ⟨⟨fun t v e=>V.Di (S.fr.val t _ (h.fr t v e)),S.fr.size⟩,S.hr.Di S.top h.high h.inj h.hp,fun j hj=>S.top _ (h.high j hj),S.k,S.ds⟩
theorem A9.le {φ0 φ:Ren}{ρ:Nat→Nat}{base:Nat}{s s':SS}(h:A9 ρ base s' s)(hb:∀j,base≤j→φ0 j=none)(hle:φ0.le φ):φ0.le (φ.via ρ):=by
 intro i L e
 have hi:i < base:=by
  rcases Nat.lt_or_ge i base with h | h
  ·exact h
  ·rw [hb i h] at e;cases e
 unfold Ren.via
 rw [h.low i hi];exact hle _ _ e
theorem CW.QW {P:Program}{sz base:Nat}{c:Code}{s s':SS}{Q:Exit→SS→Prop}{ρ:Nat→Nat}(hs:A9 ρ base s' s)(h:CW P sz base c s' Q):CW P sz base c s Q:=by
 intro φ0 φ own ds w0 a w hb hle S
 exact h φ0 _ own ds w0 a w hb (hs.le hb hle) (S.ZK hs)
def Round {α:Type}(base:Nat)(S:α→SS)(I:α→Prop)(μ:α→Nat)(x:α)(s':SS):Prop:= ∃y,I y∧μ y < μ x∧∃ρ,A9 ρ base (S y) s'
theorem Round.mk {α:Type}{base:Nat}{S:α→SS}{I:α→Prop}{μ:α→Nat}{x:α}{s':SS}(y:α)(hI:I y)(hμ:μ y < μ x)(hS:∃ρ,A9 ρ base (S y) s'):Round base S I μ x s':=⟨y,hI,hμ,hS⟩
theorem CW.Bx {P:Program}{sz base:Nat}{c:Code}{s:SS}{Q:Exit→SS→Prop}{α:Type}(S:α→SS)(I:α→Prop)(μ:α→Nat)(x0:α)(h0:I x0)(hs:∃ρ,A9 ρ base (S x0) s)
  (h:∀x,I x→CW P sz base c (S x) (Kh (Round base S I μ x) Q)):CW P sz base (.loop c) s Q:=by
 intro φ0 φ own ds w0 a w hb hle S0
 have key:∀(m:Nat) (x:α) (φ:Ren) (a:Act) (w:World),I x→μ x≤m→φ0.le φ→HF φ own sz ds w0 (S x) a w→
   Gk P c (fun x a' w'=>x≠ .outgrown∧∃φ' s',φ0.le φ'∧HF φ' own sz ds w0 s' a' w'∧Q x s') (m+1) a w:=by
  intro m
  induction m with
  |zero=>
   intro x φ a w hI hm hle S1
   rw [JU]
   refine B8.mono (h x hI φ0 φ own ds w0 a w hb hle S1) ?_
   rintro e a' w' ⟨hx,φ',s',h1,h2,h3⟩
   cases e with
   |normal=>obtain ⟨y,_,hlt,_⟩:=h3;omega
   |_=>exact ⟨hx,φ',s',h1,h2,h3⟩
  |succ m ih=>
   intro x φ a w hI hm hle S1
   rw [JU]
   refine B8.mono (h x hI φ0 φ own ds w0 a w hb hle S1) ?_
   rintro e a' w' ⟨hx,φ',s',h1,h2,h3⟩
   cases e with
   |normal=>
    obtain ⟨y,hy,hlt,ρ,hsub⟩:=h3
    exact ih y _ a' w' hy (by omega) (hsub.le hb h1) (h2.ZK hsub)
   |_=>exact ⟨hx,φ',s',h1,h2,h3⟩
 obtain ⟨ρ,hs⟩:=hs
 exact B8.Q3 (μ x0+1) (key (μ x0) x0 _ a w h0 (Nat.le_refl _) (hs.le hb hle) (S0.ZK hs))
def iq (tt:Aa)(rs:List ResultVar)(post:Value→Hp→Nat→Prop):Exit→SS→Prop
 | .normal,s=>FG tt s.fr s.hp rs∧post (HE (Iu tt s.fr s.hp rs)) s.hp s.top
 | .ret,s=>FG tt s.fr s.hp rs∧post (HE (Iu tt s.fr s.hp rs)) s.hp s.top
 |_,_=>False
theorem Ab.BF {P:Program}{tt:Aa}(htt:CR P tt){f:FuncId}{fn:Func}(F:Av P f fn){c:Code}(hc:fn.body=some c)(n:Nat)(hn:fn.ntmps=n)(rs:List ResultVar)(hrs:fn.results.toList=rs)
  {args:List Value} {hp:Hp} {top:Nat} {post:Value→Hp→Nat→Prop} (hle:args.length≤n)
  (h:CW P n top c ⟨Im args 0,hp,top⟩ (iq tt rs post)):Ab P f args hp top post:=by
 refine Ab.iL htt F hc n hn rs hrs hle (h.mono ?_)
 intro x s h
 cases x with
 |normal=>exact ⟨.inl rfl,h⟩
 |ret=>exact ⟨.inr rfl,h⟩
 |_=>exact h.elim
section
variable {P:Program} {tt:Aa} {G:FuncId→BO} {sz base:Nat} {BS:List Nat} {Q:Exit→SS→Prop} {K:SS→Prop} {s:SS} {a b:Code} {id j:Nat} {ops:Array Oper} {all os:List Oper} {o:Oper} {x:Operand}
theorem dq:vc P tt G sz base BS .skip Q s=Q .normal s:=rfl
theorem lK:vc P tt G sz base BS (.region id ops false) Q s=Pv tt G ops.toList ops.toList (Wi BS Q) s:=rfl
theorem gR:vc P tt G sz base BS (.region id ops true) Q s=(if KS BS id=true then CW P sz base (.region id ops true) s Q else J7 tt G ops.toList ops.toList (Wi BS Q) s):=by
 show (match KS BS id with | true=>_ | false=>_)=_
 cases KS BS id <;> simp
theorem TD {g:Bool}{A B:Prop}:((g=true→A)∧(g=false→B))=(if g=true then A else B):=by
 cases g <;> simp
structure Nz (v:Bool) (K1 K2:SS→Prop) (s:SS):Prop where
 h1:v=true→K1 s
 h2:v=false→K2 s
theorem fh {K1 K2:SS→Prop}:Nz true K1 K2 s=K1 s:=propext ⟨fun h=>h.h1 rfl,fun h=>⟨fun _=>h,fun e=>by cases e⟩⟩
theorem iP {K1 K2:SS→Prop}:Nz false K1 K2 s=K2 s:=propext ⟨fun h=>h.h2 rfl,fun h=>⟨fun e=>(by cases e),fun _=>h⟩⟩
structure Vc (P:Program) (tt:Aa) (G:FuncId→BO) (sz base:Nat) (BS:List Nat) (c:Code) (Q:Exit→SS→Prop) (s:SS):Prop where
 h:vc P tt G sz base BS c Q s
theorem Vc.mk' (h:vc P tt G sz base BS a Q s):Vc P tt G sz base BS a Q s:=⟨h⟩
theorem iI:vc P tt G sz base BS (.seq a b) Q s=vc P tt G sz base BS a (Kh (Vc P tt G sz base BS b Q) Q) s:=by
 have:vc P tt G sz base BS b Q=Vc P tt G sz base BS b Q:=funext fun s=>propext ⟨fun h=>⟨h⟩,fun h=>h.h⟩
 rw [←this];rfl
theorem dX:vc P tt G sz base BS (.cond x a b) Q s=(av s.fr x∧Xh (Bt s.fr x).1∧Nz (Cd (Bt s.fr x).1) (vc P tt G sz base BS a Q) (vc P tt G sz base BS b Q) s):=
 propext ⟨fun ⟨h1,h2,h3,h4⟩=>⟨h1,h2,⟨h3,h4⟩⟩,fun ⟨h1,h2,h3⟩=>⟨h1,h2,h3.h1,h3.h2⟩⟩
theorem Ym:vc P tt G sz base BS (.block id b) Q s=vc P tt G sz base BS b (GW id Q) s:=rfl
theorem gI:vc P tt G sz base BS (.loop b) Q s=CW P sz base (.loop b) s Q:=rfl
theorem fW:vc P tt G sz base BS (.exit id) Q s=Q (.exit id) s:=rfl
theorem mH:vc P tt G sz base BS .ret Q s=Q .ret s:=rfl
theorem cy:vc P tt G sz base BS (.label id) Q s=Q .normal s:=rfl
theorem br:Pv tt G all [] K s=K s:=rfl
theorem WZ:Pv tt G all (o :: os) K s=((Aq all s.fr o.guard).2∧Ng tt G (Aq all s.fr o.guard).1 o s (Pv tt G all os K)):=rfl
theorem Y2:J7 tt G all [] K s=K s:=rfl
theorem Wh:J7 tt G all (o :: os) K s=((Aq all s.fr o.guard).2∧(match Ey G o.op with
  |true=>(if (Aq all s.fr o.guard).1=true then (CC tt G s.fr s.hp s.top o.op).ob∧
     J7 tt G all os K ⟨Bf s.fr o.dst (CC tt G s.fr s.hp s.top o.op).v true,s.hp.A0 (CC tt G s.fr s.hp s.top o.op).us,(CC tt G s.fr s.hp s.top o.op).top⟩
    else J7 tt G all os K ⟨Bf s.fr o.dst undef false,s.hp,s.top⟩)
  |false=>((Aq all s.fr o.guard).1=true→(pv tt G s.fr s.hp o.op).2)∧J7 tt G all os K ⟨Bf s.fr o.dst (pv tt G s.fr s.hp o.op).1 (Aq all s.fr o.guard).1,s.hp,s.top⟩)):=by
 rw [←TD];rfl
theorem ic:Kh K Q .normal s=K s:=rfl
theorem iB:Kh K Q .ret s=Q .ret s:=rfl
theorem gO:Kh K Q (.exit j) s=Q (.exit j) s:=rfl
theorem X4:GW id Q .normal s=Q .normal s:=rfl
theorem Zz:GW id Q .ret s=Q .ret s:=rfl
theorem Zi:GW id Q (.exit j) s=(if j=id then Q .normal s else Q (.exit j) s):=rfl
theorem gB:Wi BS Q s=Q .normal ⟨GC s.fr BS,s.hp,s.top⟩:=rfl
theorem nT {rs:List ResultVar}{post:Value→Hp→Nat→Prop}:iq tt rs post .normal s=(FG tt s.fr s.hp rs∧post (HE (Iu tt s.fr s.hp rs)) s.hp s.top):=rfl
theorem lM {rs:List ResultVar}{post:Value→Hp→Nat→Prop}:iq tt rs post .ret s=(FG tt s.fr s.hp rs∧post (HE (Iu tt s.fr s.hp rs)) s.hp s.top):=rfl
theorem ZH {g:Bool}:Ng tt G g o s K=(match o.op with
  | .call {callee:= .value f,args, ..}=>Qt G s.fr s.hp s.top g f args.toList o.dst K
  | .range t x=>if g=true then av s.fr x∧Pg tt t=true∧(IQ s.hp (Bt s.fr x).1).isSome=true∧K ⟨Bf s.fr o.dst (.pointer (some ⟨s.top,0,none⟩)) true,s.hp.A0 [(s.top,jW (IQ s.hp (Bt s.fr x).1))],s.top+1⟩
    else K ⟨Bf s.fr o.dst undef false,s.hp,s.top⟩
  | .next it str=>if g=true then av s.fr it∧str=false∧kA K s.fr s.hp s.top o.dst (Bt s.fr it).1 else K ⟨Bf s.fr o.dst undef false,s.hp,s.top⟩
  | .entry it=>if g=true then av s.fr it∧(KR s.hp (Bt s.fr it).1).isSome=true∧K ⟨Bf s.fr o.dst (dx (KR s.hp (Bt s.fr it).1)) true,s.hp,s.top⟩ else K ⟨Bf s.fr o.dst undef false,s.hp,s.top⟩
  |op=>match FU op with
   |true=>if g=true then (DK tt s.fr s.hp s.top op).ob∧K ⟨Bf s.fr o.dst (DK tt s.fr s.hp s.top op).v true,s.hp.A0 (DK tt s.fr s.hp s.top op).us,(DK tt s.fr s.hp s.top op).top⟩
     else K ⟨Bf s.fr o.dst undef false,s.hp,s.top⟩
   |false=>(g=true→(Ib tt s.fr s.hp op).2)∧K ⟨Bf s.fr o.dst (Ib tt s.fr s.hp op).1 g,s.hp,s.top⟩):=by
 simp only [←TD]
 rfl
theorem Y0 {fr:Bw}{hp:Hp}{top:Nat}{g:Bool}{f:Operand}{args:List Operand}{dst:Option Nat}:Qt G fr hp top g f args dst K=(match G (Bg fr f).1 with
  | .none=>False
  | .pure pre res=>(g=true→(Bg fr f).2.1=true∧RI fr args∧pre ((Bg fr f).2.2.1 ++ JF fr args ++ (Bg fr f).2.2.2) hp)∧
   K ⟨Bf fr dst (res ((Bg fr f).2.2.1 ++ JF fr args ++ (Bg fr f).2.2.2) hp) g,hp,top⟩
  | .eff pre post=>if g=true then (Bg fr f).2.1=true∧RI fr args∧pre ((Bg fr f).2.2.1 ++ JF fr args ++ (Bg fr f).2.2.2) hp top∧
   (∀v hp' top',post ((Bg fr f).2.2.1 ++ JF fr args ++ (Bg fr f).2.2.2) hp top v hp' top'→qh K ⟨Bf fr dst v true,hp',top'⟩)
   else K ⟨Bf fr dst undef false,hp,top⟩
  | .det pre res=>if g=true then (Bg fr f).2.1=true∧RI fr args∧pre ((Bg fr f).2.2.1 ++ JF fr args ++ (Bg fr f).2.2.2) hp top∧
   K ⟨Bf fr dst (res ((Bg fr f).2.2.1 ++ JF fr args ++ (Bg fr f).2.2.2) hp top).1 true,hp.A0 (res ((Bg fr f).2.2.1 ++ JF fr args ++ (Bg fr f).2.2.2) hp top).2.1,(res ((Bg fr f).2.2.1 ++ JF fr args ++ (Bg fr f).2.2.2) hp top).2.2⟩
   else K ⟨Bf fr dst undef false,hp,top⟩):=by
 simp only [←TD]
 rfl
end
def rn (base:Nat)(bs:List Nat)(z j:Nat):Nat:=if j < base then j else (bs[j - base]?).getD z
theorem Af {base:Nat}{bs:List Nat}{z j:Nat}(h:j < base):rn base bs z j=j:=if_pos h
theorem AX (base:Nat)(bs:List Nat)(z i:Nat):rn base bs z (base+i)=(bs[i]?).getD z:=by
 unfold rn
 rw [if_neg (by omega),Nat.add_sub_cancel_left]
theorem AQ (base:Nat)(bs:List Nat)(z:Nat):rn base bs z base=(bs[0]?).getD z:=AX base bs z 0
theorem WH {base:Nat}{bs:List Nat}{z j:Nat}(h:base+bs.length≤j):rn base bs z j=z:=by
 unfold rn
 rw [if_neg (by omega),List.getElem?_eq_none (by omega)];rfl
theorem X2 {base:Nat}{bs:List Nat}{z:Nat}(hn:bs.Nodup)(hb:∀b∈bs,base≤b):∀i j,i < base+bs.length→j < base+bs.length→rn base bs z i=rn base bs z j→i=j:=by
 intro i j hi hj e
 unfold rn at e
 split at e
 ·split at e
  ·exact e
  ·rw [List.getElem?_eq_getElem (by omega),Option.getD_some] at e
   have:=hb _ (List.getElem_mem (show j - base < bs.length by omega))
   omega
 ·rw [List.getElem?_eq_getElem (show i - base < bs.length by omega),Option.getD_some] at e
  split at e
  ·have:=hb _ (List.getElem_mem (show i - base < bs.length by omega))
   omega
  ·rw [List.getElem?_eq_getElem (show j - base < bs.length by omega),Option.getD_some] at e
   have hp:=List.pairwise_iff_getElem.1 hn
   rcases Nat.lt_trichotomy (i - base) (j - base) with h | h | h
   ·exact absurd e (hp _ _ (by omega) (by omega) h)
   ·omega
   ·exact absurd e.symm (hp _ _ (by omega) (by omega) h)
mutual
def Sc (n:Nat):Value→Prop
 | .pointer (some ⟨b,_,_⟩)=>b < n
 | .slice (some ⟨b,_,none⟩) _ _=>b < n
 | .map (some b)=>b < n
 | .agg ⟨l⟩=>G7 n l
 | .tuple ⟨l⟩=>G7 n l
 | .iface _ v=>Sc n v
 | .func _ ⟨a⟩ ⟨b⟩=>G7 n a∧G7 n b
 |_=>True
def G7 (n:Nat):List Value→Prop
 | []=>True
 |v :: l=>Sc n v∧G7 n l
end
def r7 (n:Nat):A5→Prop
 | .cells _ _ vs=>G7 n vs
 | .map es _=> ∀e∈es,Sc n e.key∧Sc n e.val
 | .iter _ _=>True
 | .miter m _ _ _=>m < n
 | .raw _ _=>True
mutual
theorem Sc.BH {n:Nat}{ρ:Nat→Nat}(hρ:∀j,j < n→ρ j=j):∀ {v:Value},Sc n v→BH ρ v=v
 | .bool _,_=>rfl
 | .int _ _,_=>rfl
 | .float _ _,_=>rfl
 | .complex _ _ _,_=>rfl
 | .string _,_=>rfl
 | .pointer none,_=>rfl
 | .pointer (some ⟨b,o,s⟩),h=>by simp only [Dm.BH,hρ b h]
 | .slice none _ _,_=>rfl
 | .slice (some ⟨b,o,none⟩) _ _,h=>by simp only [Dm.BH,hρ b h]
 | .slice (some ⟨b,o,some s⟩) _ _,_=>by unfold Dm.BH;rfl
 | .map none,_=>rfl
 | .map (some b),h=>by simp only [Dm.BH,hρ b h]
 | .chan _,_=>rfl
 | .func _ ⟨a⟩ ⟨b⟩,h=>by simp only [Dm.BH,G7.BH hρ h.1,G7.BH hρ h.2]
 | .nilFunc,_=>rfl
 | .iface _ v,h=>by simp only [Dm.BH,Sc.BH hρ (v:=v) h]
 | .nilIface,_=>rfl
 | .agg ⟨l⟩,h=>by simp only [Dm.BH,G7.BH hρ (l:=l) h]
 | .tuple ⟨l⟩,h=>by simp only [Dm.BH,G7.BH hρ (l:=l) h]
theorem G7.BH {n:Nat}{ρ:Nat→Nat}(hρ:∀j,j < n→ρ j=j):∀ {l:List Value},G7 n l→Am ρ l=l
 | [],_=>rfl
 |v :: l,h=>by simp only [Dm.Am,Sc.BH hρ h.1,G7.BH hρ h.2]
end
theorem r7.BH {n:Nat}{ρ:Nat→Nat}(hρ:∀j,j < n→ρ j=j){o:A5}(h:r7 n o):IL ρ o=o:=by
 cases o with
 |cells rw BU vs=>simp only [IL,G7.BH hρ h]
 |map es clk=>
  simp only [IL]
  congr 1
  rw [List.map_congr_left (g:=id)]
  ·simp
  ·intro e he
   obtain ⟨h1,h2⟩:=h e he
   simp only [gG,Sc.BH hρ h1,Sc.BH hρ h2,id]
 |iter s p=>rfl
 |miter m since seen c=>simp only [IL];rw [hρ m h]
 |raw b vs=>rfl
mutual
theorem V.sc {φ:Ren}{n:Nat}(hn:∀j,n≤j→φ j=none):∀ {v x:Value},V φ v x→Sc n v
 |_,_, .bool _=>trivial
 |_,_, .int _ _=>trivial
 |_,_, .str _=>trivial
 |_,_, .nilp=>trivial
 |_,_, .ptr i o L h=>by
  rcases Nat.lt_or_ge i n with h' | h'
  ·exact h'
  ·rw [hn i h'] at h;cases h
 |_,_, .nils=>trivial
 |_,_, .slice i o m c c' L h _ _ _=>by
  rcases Nat.lt_or_ge i n with h' | h'
  ·exact h'
  ·rw [hn i h'] at h;cases h
 |_,_, .emp _ _=>trivial
 |_,_, .nilm=>trivial
 |_,_, .map i L h=>by
  rcases Nat.lt_or_ge i n with h' | h'
  ·exact h'
  ·rw [hn i h'] at h;cases h
 |_,_, .func _ _ _ _ _ ha hb=>⟨Vs.sc hn ha,Vs.sc hn hb⟩
 |_,_, .nilf=>trivial
 |_,_, .iface _ v _ h=>(V.sc hn h:Sc n v)
 |_,_, .nili=>trivial
 |_,_, .agg _ _ h=>Vs.sc hn h
 |_,_, .tuple _ _ h=>Vs.sc hn h
theorem Vs.sc {φ:Ren}{n:Nat}(hn:∀j,n≤j→φ j=none):∀ {l m:List Value},Vs φ l m→G7 n l
 |_,_, .nil=>trivial
 |_,_, .cons _ _ _ _ hx hl=>⟨V.sc hn hx,Vs.sc hn hl⟩
end
theorem Es.sc {φ:Ren}{n:Nat}(hn:∀j,n≤j→φ j=none):∀ {l m:List MapEntry},Es φ l m→∀e∈l,Sc n e.key∧Sc n e.val
 |_,_, .nil,e,he=>by cases he
 |_,_, .cons a _ l _ hx hl,e,he=>by
  cases he with
  |head=>exact ⟨V.sc hn hx.key,V.sc hn hx.val⟩
  |tail _ h=>exact Es.sc hn hl e h
structure Cl (hp:Hp) (n:Nat):Prop where
 lt:∀i o,hp i=some o→i < n
 sc:∀i o,hp i=some o→r7 n o
theorem HR.cl {φ:Ren}{own:Nat→Prop}{hp:Hp}{w:World}{n:Nat}(H:HR φ own hp w)(hn:∀j,n≤j→φ j=none):Cl hp n:=by
 refine ⟨fun i o e=>H.lt hn e,fun i o e=> ?_⟩
 obtain ⟨L,h1,h2⟩:=H.obj i o e
 cases o with
 |cells rw BU vs=>obtain ⟨_,_,_,_,_,_,_,h3,_⟩:=h2;exact Vs.sc hn h3
 |map es clk=>obtain ⟨es',_,h3⟩:=h2;exact fun e he=>Es.sc hn h3 e he
 |iter s p=>trivial
 |miter m since seen c=>
  obtain ⟨_,M,h1,_⟩:=h2
  show m < n
  rcases Nat.lt_or_ge m n with h | h
  ·exact h
  ·rw [hn m h] at h1;cases h1
 |raw b vs=>trivial
theorem kc {hp h1:Hp}{base:Nat}{ρ:Nat→Nat}(hcl:Cl hp base)(hlow:∀j,j < base→ρ j=j)(us:BZ)
  (hk:∀i,i < base→(∀p∈us,p.1≠i)→h1 i=hp i) (hu:∀p∈us,∀o,p.2=some o→h1 (ρ p.1)=some (IL ρ o)) :
  ∀i o,(hp.A0 us) i=some o→h1 (ρ i)=some (IL ρ o):=by
 have key:∀(us:BZ) (hp:Hp) i o,(hp.A0 us) i=some o→(∃p∈us,p.1=i∧p.2=some o)∨((∀p∈us,p.1≠i)∧hp i=some o):=by
  intro us
  induction us with
  |nil=>intro hp i o h;exact .inr ⟨fun _ h=>(by cases h),h⟩
  |cons p us ih=>
   intro hp i o h
   obtain ⟨a,x⟩:=p
   rw [AE] at h
   rcases ih _ i o h with ⟨p,h1,h2,h3⟩ | ⟨h1,h2⟩
   ·exact .inl ⟨p,List.mem_cons_of_mem _ h1,h2,h3⟩
   ·by_cases e:i=a
    ·subst e
     rw [AG] at h2
     exact .inl ⟨(i,x),List.mem_cons_self ..,rfl,h2⟩
    ·rw [AV _ _ _ _ e] at h2
     refine .inr ⟨?_,h2⟩
     intro p hp'
     cases hp' with
     |head=>exact fun e'=>e e'.symm
     |tail _ h=>exact h1 p h
 intro i o h
 rcases key us hp i o h with ⟨p,h2,h3,h4⟩ | ⟨h2,h3⟩
 ·subst h3;exact hu p h2 o h4
 ·have hi:=hcl.lt i o h3
  rw [hlow i hi,hk i hi h2,h3,r7.BH hlow (hcl.sc i o h3)]
theorem set_set (hp:Hp)(i:Nat)(a b:Option A5):(hp.set i a).set i b=hp.set i b:=by
 funext j;unfold Hp.set;split <;> rfl
def AK (n:Nat)(ks:List Nat)(h1 hp:Hp):Prop:= ∀i,i < n→i ∉ ks→h1 i=hp i
theorem AK.refl (n:Nat)(ks:List Nat)(hp:Hp):AK n ks hp hp=True:=eq_true fun _ _ _=>rfl
theorem AK.set {n:Nat}{ks:List Nat}{h1 hp:Hp}{b:Nat}{o:Option A5}(hb:n≤b):AK n ks (h1.set b o) hp=AK n ks h1 hp:=by
 refine propext ⟨fun h i hi hk=> ?_,fun h i hi hk=> ?_⟩
 ·have:=h i hi hk;rwa [AV _ _ _ _ (by omega)] at this
 ·rw [AV _ _ _ _ (by omega)];exact h i hi hk
theorem AK.Ao {n:Nat}{ks:List Nat}{h1 hp:Hp}{b:Nat}{o:Option A5}(hb:b∈ks):AK n ks (h1.set b o) hp=AK n ks h1 hp:=by
 refine propext ⟨fun h i hi hk=> ?_,fun h i hi hk=> ?_⟩
 ·have:=h i hi hk;rwa [AV _ _ _ _ (fun e=>hk (by rw [e];exact hb))] at this
 ·rw [AV _ _ _ _ (fun e=>hk (by rw [e];exact hb))];exact h i hi hk
theorem AK.nil {n:Nat}{h1 hp:Hp}(h:AK n [] h1 hp):∀i,i < n→h1 i=hp i:=fun i hi=>h i hi (by simp)
def Ku (ρ:Nat→Nat):Option A5→Option A5
 |none=>none
 |some o=>some (IL ρ o)
def AJ (ρ:Nat→Nat)(h1:Hp)(us:BZ):Prop:= ∀p∈us,p.2=none∨h1 (ρ p.1)=Ku ρ p.2
theorem AJ.nil {ρ:Nat→Nat}{h1:Hp}:AJ ρ h1 [] = True:=eq_true fun p h=>by cases h
theorem AJ.cons {ρ:Nat→Nat}{h1:Hp}{b:Nat}{o:Option A5}{us:BZ}:AJ ρ h1 ((b,o) :: us)=((o=none∨h1 (ρ b)=Ku ρ o)∧AJ ρ h1 us):=by
 simp [AJ]
theorem AJ.get {ρ:Nat→Nat}{h1:Hp}{us:BZ}(h:AJ ρ h1 us):∀p∈us,∀o,p.2=some o→h1 (ρ p.1)=some (IL ρ o):=by
 intro p hp o e
 rcases h p hp with h | h
 ·rw [h] at e;cases e
 ·rw [h,e];rfl
theorem AB {ρ:Nat→Nat}{o:A5}:Ku ρ (some o)=some (IL ρ o):=rfl
theorem AD {ρ:Nat→Nat}{rw:Bool}{z:Nat}{vs:List Value}:IL ρ (.cells rw z vs)= .cells rw z (Am ρ vs):=rfl
theorem AM {ρ:Nat→Nat}{es:List MapEntry}{clk:Nat}:IL ρ (.map es clk)= .map (es.map (gG ρ)) clk:=rfl
structure oz (hp:Hp) (top:Nat) (bs:List Nat) (r:Value×BZ×Nat) (v1:Value) (h1:Hp) (top1:Nat):Prop where
 nodup:bs.Nodup
 ge:∀b∈bs,top≤b
 tp:r.2.2=top+bs.length
 v:v1=BH (rn top bs top1) r.1
 BS:AK top (r.2.1.map (·.1)) h1 hp
 H3:AJ (rn top bs top1) h1 r.2.1
theorem Ab.Cy {P:Program}{f:FuncId}{args:List Value}{hp:Hp}{top:Nat}{r:Value×BZ×Nat}
  (h:Cl hp top→G7 top args→Ab P f args hp top fun v1 h1 top1=>top≤top1∧∃bs,oz hp top bs r v1 h1 top1) :
  Ab P f args hp top fun v hp' top'=>v=r.1∧hp' = hp.A0 r.2.1∧top' = r.2.2:=by
 intro φ own w args' ha H htop
 have hcl:=H.cl htop
 refine (h hcl (Vs.sc htop ha) φ own w args' ha H htop).mono ?_
 rintro e w' ⟨v1,h1,top1,v',φ1,rfl,⟨ht,bs,R⟩,W⟩
 have hlow:∀j,j < top→rn top bs top1 j=j:=fun j hj=>Af hj
 have hhigh:∀j,r.2.2≤j→top1≤rn top bs top1 j:=fun j hj=>by rw [WH (by rw [←R.tp];exact hj)];exact Nat.le_refl _
 refine ⟨r.1,hp.A0 r.2.1,r.2.2,v',φ1.via (rn top bs top1),rfl,⟨rfl,rfl,rfl⟩,⟨?_, ?_, ?_,W.k, ?_⟩⟩
 ·intro i L e
  have hi:i < top:=by
   rcases Nat.lt_or_ge i top with h | h
   ·exact h
   ·rw [htop i h] at e;cases e
  unfold Ren.via
  rw [hlow i hi];exact W.le _ _ e
 ·refine V.Di ?_
  rw [←R.v];exact W.v
 ·refine W.hr.Di W.top hhigh (by rw [R.tp];exact X2 R.nodup R.ge) ?_
  exact kc hcl hlow r.2.1 (fun i hi hk=>R.BS i hi (fun hm=>by obtain ⟨p,h1,h2⟩:=List.mem_map.1 hm;exact hk p h1 h2)) R.H3.get
 ·intro j hj
  exact W.top _ (hhigh j hj)
theorem BG.Cy {P:Program}{f:FuncId}{fn:Func}(F:Av P f fn){pre:List Value→Hp→Nat→Prop}{res:List Value→Hp→Nat→Value×BZ×Nat}
  (h:∀args hp top,pre args hp top→Cl hp top→G7 top args→Ab P f args hp top fun v1 h1 top1=>top≤top1∧∃bs,oz hp top bs (res args hp top) v1 h1 top1):BG P f (.det pre res):=
 ⟨⟨fn,F.toFTOk⟩,fun args hp top hp0=>Ab.Cy (h args hp top hp0)⟩
theorem A9.mk' {hp h1:Hp}{base:Nat}(bs:List Nat)(hcl:Cl hp base){fr' fr:Bw}{us:BZ}{n top:Nat}
  (nodup:bs.Nodup) (ge:∀b∈bs,base≤b) (hn:n=bs.length)
  (hfr:∀t v,Fx fr' t=some v→Fx fr t=some (BH (rn base bs top) v))
  (BS:AK base (us.map (·.1)) h1 hp)
  (H3:AJ (rn base bs top) h1 us) :
  ∃ρ,A9 ρ base ⟨fr',hp.A0 us,base+n⟩ ⟨fr,h1,top⟩:=by
 subst hn
 have hlow:∀j,j < base→rn base bs top j=j:=fun j hj=>Af hj
 exact ⟨rn base bs top,hlow,fun j hj=>by rw [WH hj];exact Nat.le_refl _,X2 nodup ge,hfr,kc hcl hlow us (fun i hi hk=>BS i hi (fun hm=>by obtain ⟨p,h1,h2⟩:=List.mem_map.1 hm;exact hk p h1 h2)) H3.get⟩
theorem BG.HS {P:Program}{f:FuncId}{fn:Func}(F:Av P f fn){pre:List Value→Hp→Prop}{res:List Value→Hp→Value}(hr:∀args hp,pre args hp→plain 3 (res args hp)=true)
  (h:∀args hp,pre args hp→∀top,Cl hp top→G7 top args→Ab P f args hp top fun v hp' _=>v=res args hp∧AK top [] hp' hp):BG P f (.pure pre res):=
 .oA F hr fun args hp h0 top φ own w args' ha H htop=>(h args hp h0 top (H.cl htop) (Vs.sc htop ha) φ own w args' ha H htop).mono fun _ _ ⟨v,hp',top',v',φ',e,⟨h1,h2⟩,W⟩=>⟨v,hp',top',v',φ',e,⟨h1,h2.nil⟩,W⟩
theorem Pr {k:IntKind}{n:Int}(h:(if k.signed then -(2 ^ (k.bits - 1):Int) else 0)≤n)(h2:n < (if k.signed then 2 ^ (k.bits - 1) else 2 ^ k.bits:Int)):Ae k n=n:=by
 rw [Cg]
 unfold IntKind.wrap
 cases k <;> simp [IntKind.signed,IntKind.bits] at h h2 ⊢ <;> omega
theorem wrap64 {n:Int}(h: -9223372036854775808≤n)(h2:n < 9223372036854775808):Ae .i64 n=n:=Pr (by simpa [IntKind.signed,IntKind.bits] using h) (by simpa [IntKind.signed,IntKind.bits] using h2)
theorem GO {k n:Nat}(h:k < n)(hn:n≤9223372036854775807):Ae .i64 ((k:Int)+1)=((k+1:Nat):Int):=by
 rw [wrap64 (by omega) (by omega)];omega
theorem BI {b n:Nat}(hb:b < n){hp:Hp}{i:Nat}{o:Option A5}(hi:n≤i):(hp.set i o) b=hp b:=AV _ _ _ _ (by omega)
theorem nP {k:IntKind}{n:Int}:Value.oneCell' (.int k n)=true:=rfl
theorem jD {b:Bool}:Value.oneCell' (.bool b)=true:=rfl
theorem lR {s:ByteArray}:Value.oneCell' (.string s)=true:=rfl
theorem lO {a:Option Addr}:Value.oneCell' (.pointer a)=true:=rfl
theorem YA {a:Option Addr}{n c:Nat}:Value.oneCell' (.slice a n c)=true:=rfl
theorem lq {a:Option Nat}:Value.oneCell' (.map a)=true:=rfl
theorem dW {f:Fn}{a b:Array Value}:Value.oneCell' (.func f a b)=true:=rfl
theorem jL:Value.oneCell' .nilFunc=true:=rfl
theorem cx {t:TypeId}{v:Value}:Value.oneCell' (.iface t v)=true:=rfl
theorem gJ:Value.oneCell' .nilIface=true:=rfl
theorem kz {l:List Value}:Ay (.agg ⟨l⟩)=l:=rfl
theorem nN {k:IntKind}{n:Int}:Ay (.int k n)= [.int k n]:=rfl
theorem e9 {b:Bool}:Ay (.bool b)= [.bool b]:=rfl
theorem nx {s:ByteArray}:Ay (.string s)= [.string s]:=rfl
theorem mG {a:Option Addr}:Ay (.pointer a)= [.pointer a]:=rfl
theorem cE {a:Option Addr}{n c:Nat}:Ay (.slice a n c)= [.slice a n c]:=rfl
theorem mf {a:Option Nat}:Ay (.map a)= [.map a]:=rfl
theorem fF {f:Fn}{a b:Array Value}:Ay (.func f a b)= [.func f a b]:=rfl
theorem jP:Ay .nilFunc= [.nilFunc]:=rfl
theorem cX {t:TypeId}{v:Value}:Ay (.iface t v)= [.iface t v]:=rfl
theorem fb:Ay .nilIface= [.nilIface]:=rfl
theorem kv {a b:Nat}(h:a≤b):Nat.ble a b=true:=Nat.ble_eq_true_of_le h
theorem ah {n:Nat}{v:Value}:(List.replicate n [v]).flatten=E3 n v:=by simp [E3]
theorem sI {α:Type}{a:α}:List.replicate 1 a= [a]:=rfl
theorem sa {α:Type}{a:α}:List.replicate 2 a= [a,a]:=rfl
theorem mW {α:Type}{a:α}:List.replicate 3 a= [a,a,a]:=rfl
theorem sT {α:Type}{a:α}:List.replicate 4 a= [a,a,a,a]:=rfl
theorem Sb {cs xs:List Value}:A7 cs 0 xs=xs ++ cs.drop xs.length:=by simp [A7]
theorem Kj {c:Value}{cs xs:List Value}{n:Nat}:A7 (c :: cs) (n+1) xs=c :: A7 cs n xs:=by
 simp [A7,Nat.add_right_comm]
theorem Q0 {c:Value}{cs xs:List Value}{n:Nat}:A7 (c :: cs) (1+n) xs=c :: A7 cs n xs:=by
 rw [Nat.add_comm];exact Kj
theorem Lo {cs:List Value}{v:Value}{n:Nat}(h:n < cs.length):A7 cs n [v] = cs.set n v:=by
 simp only [A7,List.length_singleton]
 rw [List.set_eq_take_append_cons_drop,if_pos h];simp
theorem bX {α:Type}{c:α}{l:List α}{n:Nat}:(c :: l)[1+n]? = l[n]? :=by rw [Nat.add_comm,List.getElem?_cons_succ]
theorem Wv {α:Type}{c:α}{l:List α}{n:Nat}:(c :: l).drop (1+n)=l.drop n:=by rw [Nat.add_comm,List.drop_succ_cons]
theorem dB {n:Nat}{k:IntKind}:E3 n (.int k 0)=(List.replicate n (0:Int)).map (Value.int k):=by simp [E3]
theorem Zu {n:Nat}{v:Value}:(E3 n v).length=n:=by simp [E3]
theorem AF {ρ:Nat→Nat}{k:IntKind}{l:List Int}:Am ρ (l.map (Value.int k))=l.map (Value.int k):=by
 rw [GG,List.map_map];rfl
theorem AP {ρ:Nat→Nat}{l:List Value}{i:Nat}{v:Value}:Am ρ (l.set i v)=(Am ρ l).set i (BH ρ v):=by
 simp only [GG,List.map_set]
theorem LI (x y:Int):Xv x y=decide (x=y):=by rw [Py];rfl
def Ag (ρ:Nat→Nat):Bw→Bw→Prop
 | [],_=>True
 | (t,v,g) :: l,fr=>BJ fr t=some (bif g then BH ρ v else v,g)∧Ag ρ l fr
theorem AZ {ρ:Nat→Nat}:∀ {fr' fr:Bw},Ag ρ fr' fr→∀t v,Fx fr' t=some v→Fx fr t=some (BH ρ v):=by
 intro fr'
 induction fr' with
 |nil=>intro fr _ t v h;cases h
 |cons p l ih=>
  obtain ⟨j,x,g⟩:=p
  intro fr h t v hv
  obtain ⟨h1,h2⟩:=h
  simp only [Fx,BJ] at hv ⊢
  cases hb:Nat.beq j t with
  |true=>
   rw [hb] at hv
   have:=Nat.eq_of_beq_eq_true hb
   subst this
   cases hv
   rw [h1]
   cases g with
   |true=>rfl
   |false=>rfl
  |false=>
   rw [hb] at hv
   exact ih h2 t v hv
end Go.Dm
namespace Go.Dm
structure Ax (α:Type) where
 enc:α→List Value
 dec:List Value→α
 size:Nat
 h:∀a,dec (enc a)=a
 len:∀a,(enc a).length=size
 one:∀a,BA (enc a)=true
class Ax.Plain {α:Type} (E:Ax α):Prop where
 pl:∀a ρ,Am ρ (E.enc a)=E.enc a
def Ax.flat {α:Type}(E:Ax α)(l:List α):List Value:=(l.map E.enc).flatten
def at' {α:Type}[Inhabited α](l:List α)(i:Nat):α:=(l[i]?).getD default
theorem Dt {α:Type}[Inhabited α](l:List α)(i:Nat)(h:i < l.length):at' l i=l[i]:=by simp [at',h]
section
variable {α:Type} {E:Ax α}
theorem Ax.Eg:E.flat [] = []:=rfl
theorem Ax.CS (a:α)(l:List α):E.flat (a :: l)=E.enc a ++ E.flat l:=rfl
theorem Ax.SN (l m:List α):E.flat (l ++ m)=E.flat l ++ E.flat m:=by simp [Ax.flat]
theorem Ax.Dk (l:List α):(E.flat l).length=l.length * E.size:=by
 induction l with
 |nil=>simp [Ax.Eg]
 |cons a l ih=>rw [Ax.CS,List.length_append,E.len,ih,List.length_cons,Nat.succ_mul];omega
theorem Ax.L8 (l:List α):BA (E.flat l)=true:=by
 have app:∀x y:List Value,BA (x ++ y)=(BA x && BA y):=by
  intro x y
  induction x with
  |nil=>rfl
  |cons a x ih=>simp only [List.cons_append,BA,ih,Bool.and_assoc]
 induction l with
 |nil=>rfl
 |cons a l ih=>rw [Ax.CS,app,E.one,ih];rfl
theorem Ax.AL [E.Plain](l:List α)(ρ:Nat→Nat):Am ρ (E.flat l)=E.flat l:=by
 induction l with
 |nil=>rfl
 |cons a l ih=>rw [Ax.CS,Qq,Ax.Plain.pl,ih]
theorem Ax.Wr (l:List α):∀i,(E.flat l).drop (i * E.size)=E.flat (l.drop i):=by
 induction l with
 |nil=>intro i;simp [Ax.Eg]
 |cons a l ih=>
  intro i
  cases i with
  |zero=>simp
  |succ i=>
   rw [Ax.CS,show (i+1) * E.size=(E.enc a).length+i * E.size from by rw [E.len,Nat.succ_mul];omega,List.drop_append]
   rw [List.drop_eq_nil_of_le (by omega),List.nil_append,show (E.enc a).length+i * E.size - (E.enc a).length=i * E.size from by omega,ih]
   rfl
theorem Ax.Nh (l:List α):∀i,(E.flat l).take (i * E.size)=E.flat (l.take i):=by
 induction l with
 |nil=>intro i;simp [Ax.Eg]
 |cons a l ih=>
  intro i
  cases i with
  |zero=>simp [Ax.Eg]
  |succ i=>
   rw [Ax.CS,show (i+1) * E.size=(E.enc a).length+i * E.size from by rw [E.len,Nat.succ_mul];omega,List.take_append]
   rw [List.take_of_length_le (by omega),show (E.enc a).length+i * E.size - (E.enc a).length=i * E.size from by omega,ih]
   rfl
theorem Ax.cL [Inhabited α](l:List α)(i:Nat)(h:i < l.length):((E.flat l).drop (i * E.size)).take E.size=E.enc (at' l i):=by
 rw [Ax.Wr,List.drop_eq_getElem_cons h,Ax.CS,List.take_append,List.take_of_length_le (by rw [E.len];omega),E.len,Nat.sub_self,List.take_zero,List.append_nil,Dt _ _ h]
end
inductive Br {α:Type} (E:Ax α) (hp:Hp):Value→List α→Prop
 |nils:Br E hp (.slice none 0 0) []
 |emp:Br E hp (.slice (some ⟨0,0,some 0⟩) 0 0) []
 |rows (b o c:Nat) (rw:Bool) (vs:List Value) (l:List α) (hb:hp b=some (.cells rw E.size vs)) (hv:(vs.drop o).take (l.length * E.size)=E.flat l) (ho:o+l.length * E.size≤vs.length) (hc:l.length≤c) (hn:l.length≤9223372036854775807) :
   Br E hp (.slice (some ⟨b,o,none⟩) l.length c) l
def BX (v:Value)(d:Nat):Value:=match v with
 | .slice (some ⟨b,o,none⟩) _ _=> .pointer (some ⟨b,o+d,none⟩)
 |_=>undef
def Ax.rd {α:Type}(E:Ax α)(hp:Hp)(v:Value):List α:=match v with
 | .slice (some ⟨b,o,none⟩) n _=>match hp b with
  |some (.cells _ _ vs)=>(List.range n).map fun i=>E.dec ((vs.drop (o+i * E.size)).take E.size)
  |_=> []
 |_=> []
section
variable {α:Type} [Inhabited α] {E:Ax α} {hp:Hp} {v:Value} {l:List α} {tt:Aa} {t e:TypeId}
omit [Inhabited α] in
omit [Inhabited α] in
omit [Inhabited α] in
theorem Br.QU (h:Br E hp v l)(hk:kindOf tt t=some (.slice e)){hp':Hp}:DY tt hp' t v=(.int .i64 (l.length:Int),True):=by
 obtain ⟨i,hi,hd⟩:=Al hk
 cases h <;> (unfold DY;simp [hk,Fv,hi,hd])
theorem Br.at (h:Br E hp v l){i:Nat}(hi:i < l.length):∃b o c rw vs,v= .slice (some ⟨b,o,none⟩) l.length c∧hp b=some (.cells rw E.size vs)∧(vs.drop (o+i * E.size)).take E.size=E.enc (at' l i)∧o+(i+1) * E.size≤vs.length:=by
 cases h with
 |nils=>simp at hi
 |emp=>simp at hi
 |rows b o c rw vs l hb hv ho hc hn=>
  have h1:(i+1) * E.size≤l.length * E.size:=Nat.mul_le_mul_right _ hi
  refine ⟨b,o,c,rw,vs,rfl,hb, ?_,by omega⟩
  rw [←Ax.cL l i hi,←hv,List.drop_take,List.take_take,List.drop_drop]
  congr 1
  rw [Nat.succ_mul] at h1
  omega
theorem Br.rd (h:Br E hp v l):E.rd hp v=l:=by
 cases hh:h with
 |nils=>rfl
 |emp=>rfl
 |rows b o c rw vs l hb hv ho hc hn=>
  simp only [Ax.rd,hb]
  apply List.ext_getElem
  ·simp
  ·intro i h1 h2
   obtain ⟨b',o',c',rw',vs',e1,e2,e3,e4⟩:=h.at h2
   cases e1
   rw [hb] at e2;cases e2
   simp only [List.getElem_map,List.getElem_range,e3,E.h,Dt _ _ h2]
theorem Br.idx (h:Br E hp v l){j:TI}(hk:kindOf tt t=some (.slice e))(hj:tt e=some j)(hs:j.size=E.size){k:IntKind}{n:Int}(h0:0≤n)(h1:n < l.length) :
  A1 tt t v (.int k n)=(BX v (n.toNat * E.size),True):=by
 obtain ⟨b,o,c,rw,vs,rfl,hb,_⟩:=h.at (i:=n.toNat) (by omega)
 unfold A1
 simp [hk,hj,hs,BX,h0,h1]
theorem Br.load (h:Br E hp v l){j:TI}(hj:tt e=some j)(hs:j.size=E.size)(ha:HC j.ud=true){i:Nat}(hi:i < l.length) :
  An tt hp e (BX v (i * E.size))=(.agg ⟨E.enc (at' l i)⟩,True):=by
 obtain ⟨b,o,c,rw,vs,rfl,hb,hrow,hlen⟩:=h.at hi
 unfold An
 rw [Nat.succ_mul] at hlen
 simp [BX,hj,hb,ha,hs,hrow]
 omega
theorem Br.cell (h:Br E hp v l){j:TI}(hj:tt e=some j)(ha:HC j.ud=false){i f:Nat}(hi:i < l.length)(hf:f < E.size) :
  An tt hp e (BX v (i * E.size+f))=((E.enc (at' l i))[f]?.getD undef,True):=by
 obtain ⟨b,o,c,rw,vs,rfl,hb,hrow,hlen⟩:=h.at hi
 unfold An
 rw [Nat.succ_mul] at hlen
 have e1:vs[o+(i * E.size+f)]? = (E.enc (at' l i))[f]? :=by
  rw [←hrow,List.getElem?_take,List.getElem?_drop,if_pos hf,Nat.add_assoc]
 simp only [BX,hj,hb,ha,e1]
 simp only [Prod.mk.injEq,true_and,eq_iff_iff,iff_true]
 omega
theorem Br.field (h:Br E hp v l){i:Nat}(hi:i < l.length){s:TypeId}{f o d:Nat}(hf:∀b o,BL tt s (.pointer (some ⟨b,o,none⟩)) f=some (.pointer (some ⟨b,o+d,none⟩))) :
  Az tt s (BX v o) f=(BX v (o+d),True):=by
 obtain ⟨b,o',c,rw,vs,rfl,hb,_⟩:=h.at hi
 unfold Az BX
 simp only [hf,Nat.add_assoc]
omit [Inhabited α] in
theorem Br.mono {hp':Hp}(h:Br E hp v l)(hs:∀b o n c,v= .slice (some ⟨b,o,none⟩) n c→hp' b=hp b):Br E hp' v l:=by
 cases h with
 |nils=>exact .nils
 |emp=>exact .emp
 |rows b o c rw vs l hb hv ho hc hn=>exact .rows b o c rw vs l (by rw [hs _ _ _ _ rfl];exact hb) hv ho hc hn
omit [Inhabited α] in
theorem Br.low (h:Br E hp v l){n:Nat}(hcl:Cl hp n):Sc n v:=by
 cases h with
 |nils=>trivial
 |emp=>trivial
 |rows b o c rw vs l hb hv ho hc hn=>exact hcl.lt _ _ hb
omit [Inhabited α] in
theorem Br.set (h:Br E hp v l){n i:Nat}{o:Option A5}(hl:Sc n v)(hi:n≤i):Br E (hp.set i o) v l:=by
 refine h.mono fun b o n' c e=> ?_
 subst e
 exact AV _ _ _ _ (by simp only [Sc] at hl;omega)
omit [Inhabited α] in
omit [Inhabited α] in
theorem Ef {tt:Aa}{hp:Hp}{v:Value}{n:Nat}(hl:Sc n v){i d:Nat}{o:Option A5}{t:TypeId}(hi:n≤i):An tt (hp.set i o) t (BX v d)=An tt hp t (BX v d):=by
 cases v with
 |slice a m c=>
  cases a with
  |none=>rfl
  |some a=>
   obtain ⟨b,q,s⟩:=a
   cases s with
   |some s=>rfl
   |none=>
   simp only [Sc] at hl
   have e:=AV hp i b o (by omega)
   simp only [BX,An]
   cases tt t <;> simp only [e]
 |_=>rfl
theorem Ec {α:Type}{E:Ax α}{l:List α}{tt:Aa}{hp hp0:Hp}{v:Value}{n:Nat}(h:Br E hp0 v l)(hl:Sc n v){i:Nat}{o:Option A5}{t e:TypeId}{lo hi:Option Value}(hk:kindOf tt t=some (.slice e))(hi':n≤i):Bk tt (hp.set i o) t v lo hi=Bk tt hp t v lo hi:=by
 cases h with
 |nils=>unfold Bk;simp only [hk]
 |emp=>
  obtain ⟨i1,hi1,hd⟩:=Al hk
  unfold Bk
  simp only [hk,Cr,hi1,hd]
 |rows b q c rw vs l hb hv ho hc hn=>
  simp only [Sc] at hl
  have e:=AV hp i b o (by omega)
  unfold Bk
  simp only [hk,e]
theorem XJ {tt:Aa}{hp:Hp}{t:TypeId}{b o:Nat}:An tt hp t (.pointer (some ⟨b,o,none⟩))=(match tt t with
  |some i=>match hp b with
   |some (.cells _ _ vs)=>match HC i.ud with
    |true=>(.agg ⟨(vs.drop o).take i.size⟩,o+i.size≤vs.length)
    |false=>((vs[o]?).getD undef,o < vs.length)
   |_=>(undef,False)
  |none=>(undef,False)):=by
 unfold An
 cases tt t with
 |none=>rfl
 |some i=>rfl
theorem Tn {tt:Aa}{hp:Hp}{t:TypeId}{b o:Nat}{x:Value}:Aw tt hp t (.pointer (some ⟨b,o,none⟩)) x=(match tt t with
  |some i=>match hp b with
   |some (.cells true BU vs)=>([(b,some (.cells true BU (A7 vs o (Ay x))))],Fi x i.size∧o+i.size≤vs.length∧BA (Ay x)=true)
   |_=>([],False)
  |none=>([],False)):=by
 unfold Aw
 cases tt t with
 |none=>rfl
 |some i=>rfl
theorem Mk {tt:Aa}{t:TypeId}{b o:Nat}{ix:Value}:A1 tt t (.pointer (some ⟨b,o,none⟩)) ix=(match kindOf tt t with
  |some (.array len e)=>match tt e with
   |some j=>(.pointer (some ⟨b,o+(intOf ix).toNat * j.size,none⟩),M4 ix∧0≤intOf ix∧intOf ix < (len:Int))
   |none=>(undef,False)
  |_=>(undef,False)):=by
 unfold A1
 cases kindOf tt t with
 |none=>rfl
 |some d=>cases d <;> rfl
inductive K3 {α:Type} (E:Ax α) (hp:Hp) (v:Value):Prop
 |mk (l:List α) (h:Br E hp v l)
theorem Br.P {α:Type}{E:Ax α}{hp:Hp}{v:Value}{l:List α}(h:Br E hp v l):K3 E hp v=True:=eq_true ⟨l,h⟩
theorem Br.oc {α:Type}{E:Ax α}{hp:Hp}{v:Value}{l:List α}(h:Br E hp v l):Value.oneCell' v=true:=by cases h <;> rfl
theorem Br.cl {α:Type}{E:Ax α}{hp:Hp}{v:Value}{l:List α}(h:Br E hp v l):Ay v= [v]:=by cases h <;> rfl
theorem Br.back {α:Type}{E:Ax α}{hp:Hp}{v:Value}{l:List α}{n i:Nat}{o:Option A5}(h:Br E (hp.set i o) v l)(hl:Sc n v)(hi:n≤i):Br E hp v l:=
 h.mono fun b q n' c e=>by subst e;exact (AV _ _ _ _ (by simp only [Sc] at hl;omega)).symm
theorem Fo {α:Type}{E:Ax α}{hp:Hp}{v:Value}{n:Nat}(hl:Sc n v){i:Nat}{o:Option A5}(hi:n≤i):K3 E (hp.set i o) v=K3 E hp v:=
 propext ⟨fun ⟨l,h⟩=>⟨l,h.back hl hi⟩,fun ⟨l,h⟩=>⟨l,h.set hl hi⟩⟩
theorem En {α:Type}{E:Ax α}{hp:Hp}{v:Value}{n:Nat}(hl:Sc n v){i:Nat}{o:Option A5}(hi:n≤i):E.rd (hp.set i o) v=E.rd hp v:=by
 cases v with
 |slice a m c=>
  cases a with
  |none=>rfl
  |some a=>
   obtain ⟨b,q,s⟩:=a
   cases s with
   |some s=>rfl
   |none=>
   simp only [Sc] at hl
   have e:=AV hp i b o (by omega)
   simp only [Ax.rd,e]
 |_=>rfl
theorem Mg {tt:Aa}{t:TypeId}{b o n c:Nat}{ix:Value}:A1 tt t (.slice (some ⟨b,o,none⟩) n c) ix=(match kindOf tt t with
  |some (.slice e)=>match tt e with
   |some j=>(.pointer (some ⟨b,o+(intOf ix).toNat * j.size,none⟩),M4 ix∧0≤intOf ix∧intOf ix < (n:Int))
   |none=>(undef,False)
  |_=>(undef,False)):=by
 unfold A1
 cases kindOf tt t with
 |none=>rfl
 |some d=>cases d <;> rfl
def R3 (sz:Nat)(v:Value)(a b:Nat):Value:=match v with
 | .slice (some ⟨k,o,none⟩) _ c=> .slice (some ⟨k,o+a * sz,none⟩) (b - a) (c - a)
 |v=>v
omit [Inhabited α] in
theorem Br.ng (h:Br E hp v l){j:TI}(hk:kindOf tt t=some (.slice e))(hj:tt e=some j){k:IntKind}{n:Int}(h0:0≤n)(h1:n≤l.length) :
  Bk tt hp t v none (some (.int k n))=(R3 E.size v 0 n.toNat,True):=by
 cases h with
 |nils=>
  have:n=0:=by simp at h1;omega
  subst this
  simp [Bk,hk,hj,DV,Bc,R3]
 |emp=>
  have:n=0:=by simp at h1;omega
  subst this
  obtain ⟨i,hi,hd⟩:=Al hk
  have hb:D7 none (some (.int k 0)) 0 0=some (0,0):=rfl
  simp [Bk,hk,R3,Cr,hi,hd,hj,hb]
 |rows b o c rw vs l hb hv ho hc hn=>
  simp only [Bk,hk,hj,hb,DV,Bc,R3,OZ,intOf_int,Nat.zero_mul,Nat.add_zero,Nat.sub_zero,true_and,Prod.mk.injEq,eq_iff_iff,iff_true]
  omega
omit [Inhabited α] in
end
def Rq (sz:Nat)(v:Value)(a:Nat):Value:=match v with
 | .slice (some ⟨k,o,none⟩) n c=>if a=0∨a < c then .slice (some ⟨k,o+a * sz,none⟩) (n - a) (c - a) else .slice (some ⟨0,0,some 0⟩) 0 0
 |v=>v
theorem Br.nw {α:Type}{E:Ax α}{hp:Hp}{v:Value}{l:List α}{tt:Aa}{t e:TypeId}(h:Br E hp v l){j:TI}(hk:kindOf tt t=some (.slice e))(hj:tt e=some j)(hs:j.size=E.size){k:IntKind}{n:Int}(h0:0≤n)(h1:n≤l.length) :
  Bk tt hp t v (some (.int k n)) none=(Rq E.size v n.toNat,True):=by
 cases h with
 |nils=>
  have:n=0:=by simp at h1;omega
  subst this
  simp [Bk,hk,hj,DV,Bc,Rq]
 |emp=>
  have:n=0:=by simp at h1;omega
  subst this
  obtain ⟨i,hi,hd⟩:=Al hk
  have hb:D7 (some (.int k 0)) none 0 0=some (0,0):=rfl
  simp [Bk,hk,Rq,Cr,hi,hd,hj,hb]
 |rows b o c rw vs l hb hv ho hc hn=>
  simp only [Bk,hk,hj,hb,DV,Bc,Rq,OZ,intOf_int,hs,Int.toNat_natCast,true_and,Prod.mk.injEq,eq_iff_iff,iff_true,true_or,and_true]
  refine ⟨?_,by omega⟩
  by_cases hh:n.toNat=0∨n < (c:Int)
  ·rw [if_pos hh,if_pos (by omega)]
  ·rw [if_neg hh,if_neg (by omega)]
def A4 {α:Type}(b:Nat)(l:List α):Value:=match l with
 | []=> .slice none 0 0
 |_ :: l=> .slice (some ⟨b,0,none⟩) (l.length+1) (l.length+1)
def Au {α:Type}(E:Ax α)(l:List α):Option A5:=match l with
 | []=>none
 |a :: l=>some (.cells true E.size (E.flat (a :: l)))
section
variable {α:Type} {E:Ax α} {hp:Hp} {b:Nat} {l:List α} {v:Value}
theorem HI:Au E ([] :List α)=none:=rfl
theorem ZU {α:Type}{E:Ax α}{l:List α}:oN (Au E l)=True:=by cases l <;> exact eq_true (by first | trivial | rfl)
theorem Hf:(A4 b ([] :List α))= .slice none 0 0:=rfl
theorem Br.Tu (h:hp b=Au E l)(hn:l.length≤9223372036854775807):Br E hp (A4 b l) l:=by
 cases l with
 |nil=>exact .nils
 |cons a l=>
  have:=Br.rows (E:=E) (hp:=hp) b 0 (l.length+1) true (E.flat (a :: l)) (a :: l) h (by rw [List.drop_zero,List.take_of_length_le];rw [Ax.Dk];exact Nat.le_refl _) (by rw [Ax.Dk];omega) (by simp) (by omega)
  simpa [A4] using this
theorem Br.own (h:hp b=Au E l)(hn:l.length≤16777216):Br E hp (A4 b l) l:=Br.Tu h (by omega)
theorem AO {ρ:Nat→Nat}:BH ρ (A4 b l)=A4 (ρ b) l:=by cases l <;> rfl
theorem AA [E.Plain]{ρ:Nat→Nat}:Ku ρ (Au E l)=Au E l:=by
 cases l with
 |nil=>rfl
 |cons a l=>simp only [Au,Ku,IL,Ax.AL]
def FK (b:Nat)(l:List α)(top:Nat)(o:Option A5):BZ:=match l with
 | []=> [(top,o)]
 |_ :: _=> [(b,none),(top,o)]
theorem KN {top:Nat}{o:Option A5}(h:hp b=Au E l):hp.A0 (FK b l top o)=(hp.set b none).set top o:=by
 cases l with
 |nil=>
  have:hp.set b none=hp:=by
   funext i
   unfold Hp.set
   split
   ·rename_i e;rw [e,h];rfl
   ·rfl
  rw [this];rfl
 |cons a l=>rfl
theorem Br.He (h:Br E hp v l):He v=some l.length:=by cases h <;> rfl
theorem Br.EB (h:Br E hp v l):EB hp E.size l.length v=some (E.flat l):=by
 cases h with
 |nils=>simp [Dm.EB,Ax.Eg]
 |emp=>simp [Dm.EB,Ax.Eg]
 |rows b' o c rw vs l' hb' hv ho hc hn'=>
  simp only [Dm.EB,hb',hv,Ax.Dk,Nat.beq_refl]
theorem Jo {tt:Aa}{top t0 t1 e:Nat}{i1 j:TI}{x:Value}{m:List α}(h0:kindOf tt t0=some (.slice e))(h1:tt t1=some i1)(hi:EF i1.ud=false)(hj:tt e=some j)(hs:j.size=E.size)(hby:Nat.ble j.bytes 65536=true)
  (h:hp b=Au E l) (hx:Br E hp x m) (hn:DR (l.length+m.length) j.bytes=true) :
  A6 tt hp top [t0,t1] (A4 b l) x=some (A4 top (l ++ m),FK b l top (Au E (l ++ m)),top+1):=by
 obtain ⟨i,hi0,hd⟩:=Al h0
 have hf:=hx.EB
 have hlx:=hx.He
 cases l with
 |nil=>
  cases m with
  |nil=>
   simp only [List.length_nil] at hf hlx
   simp [A6,hi0,h1,hlx,hi,hd,hj,hs,hf,hby,Ax.Eg,BA,A4,Au,FK]
  |cons y m=>
   have h2:DR (y :: m).length j.bytes=true:=by simpa using hn
   have h3:=E.L8 (y :: m)
   have h4:Nat.beq (E.flat (y :: m)).length ((y :: m).length * E.size)=true:=by rw [Ax.Dk];simp
   have h5:Nat.beq (y :: m).length 0=false:=rfl
   simp only [List.length_cons] at hf hlx h2 h4 h5
   simp only [A6,hi0,h1,hlx,hi,hd,hj,hs,hf,hby,h2,h3,h4,h5,A4,Au,FK,List.nil_append,Bool.and_self,Bool.true_and]
 |cons a l=>
  have hb:hp b=some (.cells true E.size (E.flat (a :: l))):=h
  have h3:=E.L8 m
  have h4:Nat.beq (E.flat m).length (m.length * E.size)=true:=by rw [Ax.Dk];simp
  have h5:Nat.beq E.size E.size=true:=by simp
  have h6:(Nat.ble (l.length+1+m.length) (l.length+1) && !Nat.beq (l.length+1) (l.length+1))=false:=by
   rw [Nat.beq_refl];simp
  have h7:(Nat.beq (0+(l.length+1) * E.size) (E.flat (a :: l)).length && DR (l.length+1+m.length) j.bytes)=true:=by
   rw [Bool.and_eq_true]
   exact ⟨by rw [Ax.Dk];simp,hn⟩
  simp only [A6,hi0,h1,hlx,hi,hd,hj,hs,hf,hby,hb,h3,h4,h5,h6,h7,A4,Au,FK,Bool.and_self,List.cons_append,List.drop_zero]
  simp only [List.length_append,Ax.CS,Ax.SN,List.append_assoc]
  have e1:l.length+1+m.length=l.length+m.length+1:=by omega
  rw [e1]
theorem Kc {tt:Aa}{top t0 t1 e:Nat}{i1 j:TI}{x:Value}{m:List α}(h0:kindOf tt t0=some (.slice e))(h1:tt t1=some i1)(hi:EF i1.ud=false)(hj:tt e=some j)(hs:j.size=E.size)(hby:Nat.ble j.bytes 65536=true)
  (h:hp b=Au E l) (hx:Br E hp x m) (hn:l.length+m.length≤16777216) :
  A6 tt hp top [t0,t1] (A4 b l) x=some (A4 top (l ++ m),FK b l top (Au E (l ++ m)),top+1):=
 Jo h0 h1 hi hj hs hby h hx (Ml hn (Nat.le_of_ble_eq_true hby))
theorem JX {tt:Aa}{top t0 t1 e:Nat}{i1 j:TI}{x:Value}{m:List α}(h0:kindOf tt t0=some (.slice e))(h1:tt t1=some i1)(hi:EF i1.ud=false)(hj:tt e=some j)(hs:j.size=E.size)(hby:Nat.ble j.bytes 65536=true)
  (hx:Br E hp x m) (hn:DR m.length j.bytes=true) :
  A6 tt hp top [t0,t1] (.slice none 0 0) x=some (A4 top m, [(top,Au E m)],top+1):=by
 obtain ⟨i,hi0,hd⟩:=Al h0
 have hf:=hx.EB
 have hlx:=hx.He
 cases m with
 |nil=>
  simp only [List.length_nil] at hf hlx
  simp [A6,hi0,h1,hlx,hi,hd,hj,hs,hf,hby,Ax.Eg,BA,A4,Au]
 |cons y m=>
  have h2:DR (y :: m).length j.bytes=true:=hn
  have h3:=E.L8 (y :: m)
  have h4:Nat.beq (E.flat (y :: m)).length ((y :: m).length * E.size)=true:=by rw [Ax.Dk];simp
  have h5:Nat.beq (y :: m).length 0=false:=rfl
  simp only [List.length_cons] at hf hlx h2 h4 h5
  simp only [A6,hi0,h1,hlx,hi,hd,hj,hs,hf,hby,h2,h3,h4,h5,A4,Au,Bool.and_self,Bool.true_and]
theorem Kf {tt:Aa}{top t0 t1 e:Nat}{i1 j:TI}{x:Value}{m:List α}(h0:kindOf tt t0=some (.slice e))(h1:tt t1=some i1)(hi:EF i1.ud=false)(hj:tt e=some j)(hs:j.size=E.size)(hby:Nat.ble j.bytes 65536=true)
  (hx:Br E hp x m) (hn:m.length≤16777216) :
  A6 tt hp top [t0,t1] (.slice none 0 0) x=some (A4 top m, [(top,Au E m)],top+1):=
 JX h0 h1 hi hj hs hby hx (Ml hn (Nat.le_of_ble_eq_true hby))
theorem jl (h:hp b=Au E l)(hn:l.length≤16777216):K3 E hp (A4 b l)=True:=(Br.own h hn).P
theorem Y9 [Inhabited α](h:hp b=Au E l)(hn:l.length≤16777216):E.rd hp (A4 b l)=l:=(Br.own h hn).rd
theorem eC:Ay (A4 b l)= [A4 b l]:=by cases l <;> rfl
theorem gQ:Value.oneCell' (A4 b l)=true:=by cases l <;> rfl
theorem E6 [Inhabited α]{tt:Aa}{top t0 t1 e:Nat}{i1 j:TI}{x:Value}(h0:kindOf tt t0=some (.slice e))(h1:tt t1=some i1)(hi:EF i1.ud=false)(hj:tt e=some j)(hs:j.size=E.size)(hby:Nat.ble j.bytes 65536=true)
  (h:hp b=Au E l) (hx:K3 E hp x) (hn:l.length+(E.rd hp x).length≤16777216) :
  A6 tt hp top [t0,t1] (A4 b l) x=some (A4 top (l ++ E.rd hp x),FK b l top (Au E (l ++ E.rd hp x)),top+1):=by
 obtain ⟨m,hm⟩:=hx
 rw [hm.rd] at hn ⊢
 exact Kc h0 h1 hi hj hs hby h hm hn
theorem lH (h:hp b=Au E l)(hn:l.length≤9223372036854775807):K3 E hp (A4 b l)=True:=(Br.Tu h hn).P
theorem dh [Inhabited α](h:hp b=Au E l)(hn:l.length≤9223372036854775807):E.rd hp (A4 b l)=l:=(Br.Tu h hn).rd
theorem ES [Inhabited α]{tt:Aa}{top t0 t1 e:Nat}{i1 j:TI}{x:Value}(h0:kindOf tt t0=some (.slice e))(h1:tt t1=some i1)(hi:EF i1.ud=false)(hj:tt e=some j)(hs:j.size=E.size)(hby:Nat.ble j.bytes 65536=true)
  (hx:K3 E hp x) (hn:DR (E.rd hp x).length j.bytes=true) :
  A6 tt hp top [t0,t1] (.slice none 0 0) x=some (A4 top (E.rd hp x), [(top,Au E (E.rd hp x))],top+1):=by
 obtain ⟨m,hm⟩:=hx
 rw [hm.rd] at hn ⊢
 exact JX h0 h1 hi hj hs hby hm hn
theorem Br.one {k:Nat}{a:α}(h:hp k=some (.cells true E.size (E.enc a))):Br E hp (.slice (some ⟨k,0,none⟩) 1 1) [a]:=by
 have hl:=E.len a
 exact Br.rows (E:=E) (hp:=hp) k 0 1 true (E.enc a) [a] h (by simp [Ax.flat,←hl]) (by simp [hl]) (by simp) (by simp)
theorem Ez [Inhabited α]{tt:Aa}{top t0 t1 e:Nat}{i1 j:TI}{x:Value}(h0:kindOf tt t0=some (.slice e))(h1:tt t1=some i1)(hi:EF i1.ud=false)(hj:tt e=some j)(hs:j.size=E.size)(hby:Nat.ble j.bytes 65536=true)
  (hx:K3 E hp x) (hn:(E.rd hp x).length≤16777216) :
  A6 tt hp top [t0,t1] (.slice none 0 0) x=some (A4 top (E.rd hp x), [(top,Au E (E.rd hp x))],top+1):=by
 obtain ⟨m,hm⟩:=hx
 rw [hm.rd] at hn ⊢
 exact Kf h0 h1 hi hj hs hby hm hn
theorem Q2 {tt:Aa}{top t0 t1 e k:Nat}{i1 j:TI}{cs:List Value}(h0:kindOf tt t0=some (.slice e))(h1:tt t1=some i1)(hi:EF i1.ud=false)(hj:tt e=some j)(hs:j.size=E.size)(hby:Nat.ble j.bytes 65536=true)
  (h:hp b=Au E l) (hk:hp k=some (.cells true E.size cs)) (hc:E.enc (E.dec cs)=cs) (hn:l.length < 16777216) :
  A6 tt hp top [t0,t1] (A4 b l) (.slice (some ⟨k,0,none⟩) 1 1)=some (A4 top (l ++ [E.dec cs]),FK b l top (Au E (l ++ [E.dec cs])),top+1):=
 Kc h0 h1 hi hj hs hby h (Br.one (by rw [hc];exact hk)) (by simp only [List.length_singleton];omega)
def cellsOf:Option A5→List Value
 |some (.cells _ _ cs)=>cs
 |_=> []
theorem QV {rw:Bool}{z:Nat}{cs:List Value}:cellsOf (some (.cells rw z cs))=cs:=rfl
theorem Oy {tt:Aa}{top t0 t1 e k:Nat}{i1 j:TI}(h0:kindOf tt t0=some (.slice e))(h1:tt t1=some i1)(hi:EF i1.ud=false)(hj:tt e=some j)(hs:j.size=E.size)(hby:Nat.ble j.bytes 65536=true)
  (h:hp b=Au E l) (hk:hp k=some (.cells true E.size (cellsOf (hp k)))) (hc:E.enc (E.dec (cellsOf (hp k)))=cellsOf (hp k)) (hn:l.length < 16777216) :
  A6 tt hp top [t0,t1] (A4 b l) (.slice (some ⟨k,0,none⟩) 1 1)=some (A4 top (l ++ [E.dec (cellsOf (hp k))]),FK b l top (Au E (l ++ [E.dec (cellsOf (hp k))])),top+1):=
 Q2 h0 h1 hi hj hs hby h hk hc hn
theorem EU {tt:Aa}{top t0 t1 e k:Nat}{i1 j:TI}(h0:kindOf tt t0=some (.slice e))(h1:tt t1=some i1)(hi:EF i1.ud=false)(hj:tt e=some j)(hs:j.size=E.size)(hby:Nat.ble j.bytes 65536=true)
  (hk:hp k=some (.cells true E.size (cellsOf (hp k)))) (hc:E.enc (E.dec (cellsOf (hp k)))=cellsOf (hp k)) :
  A6 tt hp top [t0,t1] (.slice none 0 0) (.slice (some ⟨k,0,none⟩) 1 1)=some (A4 top [E.dec (cellsOf (hp k))], [(top,Au E [E.dec (cellsOf (hp k))])],top+1):=
 Kf h0 h1 hi hj hs hby (Br.one (by rw [hc];exact hk)) (by simp)
theorem SG [Inhabited α]{a':α}{xs:List Value}{f:Nat}:∀ {l:List α} {i:Nat},i < l.length→f+xs.length≤E.size→E.enc a' = A7 (E.enc (at' l i)) f xs→A7 (E.flat l) (i * E.size+f) xs=E.flat (l.set i a'):=by
 intro l
 induction l with
 |nil=>intro i h;simp at h
 |cons a l ih=>
  intro i hi hf he
  have hl:=E.len a
  cases i with
  |zero=>
   have h0:at' (a :: l) 0=a:=rfl
   rw [h0] at he
   simp only [List.set_cons_zero,Ax.CS,he,A7,Nat.zero_mul,Nat.zero_add]
   rw [List.take_append_of_le_length (by omega),List.drop_append_of_le_length (by omega)]
   simp only [List.append_assoc]
  |succ i=>
   have h1:at' (a :: l) (i+1)=at' l i:=by simp [at']
   rw [h1] at he
   have:=ih (by simpa using hi) hf he
   simp only [List.set_cons_succ,Ax.CS,←this,A7]
   have e:(i+1) * E.size+f=(E.enc a).length+(i * E.size+f):=by rw [hl,Nat.succ_mul];omega
   rw [e,List.take_length_add_append,Nat.add_assoc,List.drop_length_add_append]
   simp only [List.append_assoc]
theorem Z7 {i:Nat}{a:α}(h:i < l.length):Au E (l.set i a)=some (.cells true E.size (E.flat (l.set i a))):=by
 cases l with
 |nil=>simp at h
 |cons b l=>cases i <;> rfl
theorem aU {i:Nat}(h:i < l.length):Au E l=some (.cells true E.size (E.flat l)):=by
 cases l with
 |nil=>simp at h
 |cons b l=>rfl
theorem Xe {i d:Nat}(h:i < l.length):BX (A4 b l) d= .pointer (some ⟨b,d,none⟩):=by
 cases l with
 |nil=>simp at h
 |cons a l=>simp [A4,BX]
theorem NV [Inhabited α]{tt:Aa}{t:TypeId}{j:TI}{x:Value}{i f:Nat}(hj:tt t=some j)(h:hp b=Au E l)(hi:i < l.length)(hx:Fi x j.size)(hf:f+j.size≤E.size)(h1:BA (Ay x)=true)
  (he:E.enc (E.dec (A7 (E.enc (at' l i)) f (Ay x)))=A7 (E.enc (at' l i)) f (Ay x)) :
  Aw tt hp t (BX (A4 b l) (i * E.size+f)) x=([(b,Au E (l.set i (E.dec (A7 (E.enc (at' l i)) f (Ay x)))))],True):=by
 have hlen:(Ay x).length=j.size:=hx
 have h2:(i+1) * E.size≤l.length * E.size:=Nat.mul_le_mul_right _ hi
 rw [Nat.succ_mul] at h2
 rw [Xe hi,Z7 hi]
 unfold Aw
 rw [aU hi] at h
 simp only [hj,h]
 rw [SG hi (by rw [hlen];exact hf) he,Ax.Dk]
 have h3:i * E.size+f+j.size≤l.length * E.size:=by omega
 simp [hx,h1,h3]
theorem Sx [Inhabited α]{tt:Aa}{t:TypeId}{j:TI}{cs:List Value}{i:Nat}(hj:tt t=some j)(hs:j.size=E.size)(h:hp b=Au E l)(hi:i < l.length)(hc:E.enc (E.dec cs)=cs)(h1:BA cs=true) :
  Aw tt hp t (BX (A4 b l) (i * E.size)) (.agg ⟨cs⟩)=([(b,Au E (l.set i (E.dec cs)))],True):=by
 have hl:cs.length=E.size:=by rw [←hc];exact E.len _
 have e:A7 (E.enc (at' l i)) 0 cs=cs:=by
  simp only [A7,List.take_zero,List.nil_append,Nat.zero_add]
  rw [List.drop_eq_nil_of_le (by rw [E.len,hl];exact Nat.le_refl _),List.append_nil]
 have:=NV (E:=E) (hp:=hp) (b:=b) (l:=l) (x:= .agg ⟨cs⟩) (i:=i) (f:=0) hj h hi (by show cs.length=j.size;rw [hl,hs]) (by omega) h1 (by show E.enc (E.dec (A7 _ 0 cs))=A7 _ 0 cs;rw [e,hc])
 rw [Nat.add_zero] at this
 rw [this]
 show ([(b,Au E (l.set i (E.dec (A7 _ 0 cs))))],True)=_
 rw [e]
theorem C0 [Inhabited α]{tt:Aa}{t:TypeId}{j:TI}{x:Value}{i f:Nat}{a':α}(hj:tt t=some j)(h:hp b=Au E l)(hi:i < l.length)(hx:Fi x j.size)(hf:f+j.size≤E.size)(h1:BA (Ay x)=true)
  (he:E.enc a' = A7 (E.enc (at' l i)) f (Ay x)) :
  Aw tt hp t (BX (A4 b l) (i * E.size+f)) x=([(b,Au E (l.set i a'))],True):=by
 have:=NV (E:=E) (hp:=hp) (b:=b) (l:=l) (x:=x) (i:=i) (f:=f) hj h hi hx hf h1 (by rw [←he,E.h])
 rw [this,←he,E.h]
end
end Go.Dm
namespace Go.Dm
structure KT (tt:Aa) (kt:TypeId) (κ:Type) [DecidableEq κ] where
 ek:κ→Value
 eq:∀a b,Ih tt 64 kt (ek a) (ek b)=some (decide (a=b))
 key:∀a,MD tt 64 kt (ek a)=true
 pl:∀a,plain 8 (ek a)=true
 bits:∀a,Instr.sameBits 10000 (ek a) (ek a)=true
 BH:∀ρ a,BH ρ (ek a)=ek a
section
variable {κ β:Type} [DecidableEq κ]
variable {tt:Aa} {kt:TypeId} (Q:KT tt kt κ) (ev:β→Value)
end
end Go.Dm
namespace Go.Dm
def JC:List (Nat×Nat)→Nat→Nat→Bool
 | [],_,_=>false
 | (a,b) :: l,i,k=>match Nat.beq a i,Nat.beq b k with
  |true,true=>true
  |_,_=>JC l i k
structure dH where
 i:Nat
 g:Bool
 fr:Bw
 op:Op
 v:Value
def Ix (tt:Aa)(G:FuncId→BO)(un:List (Nat×Nat))(k:Nat)(hp:Hp):List dH→Prop
 | []=>True
 |e :: rs=>(if JC un e.i k=true then (e.g=true→(pv tt G e.fr hp e.op).2∧(pv tt G e.fr hp e.op).1=e.v)∧Ix tt G un k hp rs else Ix tt G un k hp rs)
def Gm (tt:Aa)(G:FuncId→BO)(un:List (Nat×Nat))(i:Nat)(fr:Bw)(op:Op)(v:Value):List (Nat×Hp)→Prop
 | []=>True
 | (k,hp) :: vs=>(if JC un i k=true then ((pv tt G fr hp op).2∧(pv tt G fr hp op).1=v)∧Gm tt G un i fr op v vs else Gm tt G un i fr op v vs)
def Nn:List (Nat×Nat)→Nat→Bool
 | [],_=>false
 | (a,_) :: l,i=>match Nat.beq a i with
  |true=>true
  |false=>Nn l i
def Md (un:List (Nat×Nat))(e:dH)(rs:List dH):List dH:=match Nn un e.i with
 |true=>e :: rs
 |false=>rs
def Ir (tt:Aa)(G:FuncId→BO)(all:List Oper)(un:List (Nat×Nat)):Nat→List Oper→List dH→List (Nat×Hp)→(SS→Prop)→SS→Prop
 |_, [],_,_,K,s=>K s
 |i,o :: os,rs,vs,K,s=>(Aq all s.fr o.guard).2∧(match Ey G o.op with
  |true=>(if (Aq all s.fr o.guard).1=true then (CC tt G s.fr s.hp s.top o.op).ob∧Ix tt G un i (s.hp.A0 (CC tt G s.fr s.hp s.top o.op).us) rs∧
     Ir tt G all un (i+1) os rs ((i,s.hp) :: vs) K ⟨Bf s.fr o.dst (CC tt G s.fr s.hp s.top o.op).v true,s.hp.A0 (CC tt G s.fr s.hp s.top o.op).us,(CC tt G s.fr s.hp s.top o.op).top⟩
    else Ir tt G all un (i+1) os rs vs K ⟨Bf s.fr o.dst undef false,s.hp,s.top⟩)
  |false=>((Aq all s.fr o.guard).1=true→(pv tt G s.fr s.hp o.op).2∧Gm tt G un i s.fr o.op (pv tt G s.fr s.hp o.op).1 vs)∧
    Ir tt G all un (i+1) os (Md un ⟨i,(Aq all s.fr o.guard).1,s.fr,o.op,(pv tt G s.fr s.hp o.op).1⟩ rs) vs K ⟨Bf s.fr o.dst (pv tt G s.fr s.hp o.op).1 (Aq all s.fr o.guard).1,s.hp,s.top⟩)
theorem Yw {un:List (Nat×Nat)}{i k:Nat}(h:JC un i k=true):Nn un i=true:=by
 induction un with
 |nil=>cases h
 |cons p l ih=>
  obtain ⟨a,b⟩:=p
  unfold JC at h
  unfold Nn
  cases ha:Nat.beq a i with
  |true=>rfl
  |false=>rw [ha] at h;exact ih h
theorem UG {tt:Aa}{G:FuncId→BO}{un:List (Nat×Nat)}{k:Nat}{hp:Hp}:∀ {rs:List dH},Ix tt G un k hp rs→∀e∈rs,JC un e.i k=true→e.g=true→(pv tt G e.fr hp e.op).2∧(pv tt G e.fr hp e.op).1=e.v:=by
 intro rs
 induction rs with
 |nil=>intro _ e he;cases he
 |cons a rs ih=>
  intro h e he hu hg
  unfold Ix at h
  cases he with
  |head=>
   rw [if_pos hu] at h
   exact h.1 hg
  |tail _ he=>
   split at h
   ·exact ih h.2 e he hu hg
   ·exact ih h e he hu hg
theorem SI {tt:Aa}{G:FuncId→BO}{un:List (Nat×Nat)}{i:Nat}{fr:Bw}{op:Op}{v:Value}:∀ {vs:List (Nat×Hp)},Gm tt G un i fr op v vs→∀p∈vs,JC un i p.1=true→(pv tt G fr p.2 op).2∧(pv tt G fr p.2 op).1=v:=by
 intro vs
 induction vs with
 |nil=>intro _ e he;cases he
 |cons a vs ih=>
  intro h e he hu
  obtain ⟨k,hp⟩:=a
  unfold Gm at h
  cases he with
  |head=>
   rw [if_pos hu] at h
   exact h.1
  |tail _ he=>
   split at h
   ·exact ih h.2 e he hu
   ·exact ih h e he hu
structure tJ (tt:Aa) (G:FuncId→BO) (all:List Oper) (un:List (Nat×Nat)) (i:Nat) (os:List Oper) (rs:List dH) (vs:List (Nat×Hp)) (s:SS):Prop where
 step:∀k o,os[k]? = some o→DF tt G all o (HB tt G all os s k) (HB tt G all os s (k+1))
 Vy:∀e∈rs,∀k o,os[k]? = some o→Ey G o.op=true→(Aq all (HB tt G all os s k).fr o.guard).1=true→JC un e.i (i+k)=true→e.g=true→
  (pv tt G e.fr (HB tt G all os s (k+1)).hp e.op).2∧(pv tt G e.fr (HB tt G all os s (k+1)).hp e.op).1=e.v
 Oo:∀p∈vs,∀k o,os[k]? = some o→Ey G o.op=false→(Aq all (HB tt G all os s k).fr o.guard).1=true→JC un (i+k) p.1=true→
  (pv tt G (HB tt G all os s k).fr p.2 o.op).2∧(pv tt G (HB tt G all os s k).fr p.2 o.op).1=(pv tt G (HB tt G all os s k).fr (HB tt G all os s k).hp o.op).1
 late:∀q k oq ok,q < k→os[q]? = some oq→os[k]? = some ok→Ey G oq.op=false→(Aq all (HB tt G all os s q).fr oq.guard).1=true→Ey G ok.op=true→(Aq all (HB tt G all os s k).fr ok.guard).1=true→JC un (i+q) (i+k)=true→
  (pv tt G (HB tt G all os s q).fr (HB tt G all os s (k+1)).hp oq.op).2∧(pv tt G (HB tt G all os s q).fr (HB tt G all os s (k+1)).hp oq.op).1=(pv tt G (HB tt G all os s q).fr (HB tt G all os s q).hp oq.op).1
 early:∀q k oq ok,q < k→os[q]? = some oq→os[k]? = some ok→Ey G oq.op=true→(Aq all (HB tt G all os s q).fr oq.guard).1=true→Ey G ok.op=false→(Aq all (HB tt G all os s k).fr ok.guard).1=true→JC un (i+k) (i+q)=true→
  (pv tt G (HB tt G all os s k).fr (HB tt G all os s q).hp ok.op).2∧(pv tt G (HB tt G all os s k).fr (HB tt G all os s q).hp ok.op).1=(pv tt G (HB tt G all os s k).fr (HB tt G all os s k).hp ok.op).1
theorem R4 {tt:Aa}{G:FuncId→BO}{all:List Oper}{un:List (Nat×Nat)}{K:SS→Prop}:∀(os:List Oper) (i:Nat) (rs:List dH) (vs:List (Nat×Hp)) (s:SS),Ir tt G all un i os rs vs K s→
  K (HB tt G all os s os.length)∧tJ tt G all un i os rs vs s:=by
 intro os
 induction os with
 |nil=>intro i rs vs s h;exact ⟨h,⟨fun k o hk=>by simp at hk,fun e he k o hk=>by simp at hk,fun p hp k o hk=>by simp at hk,fun q k oq ok hq h1=>by simp at h1,fun q k oq ok hq h1=>by simp at h1⟩⟩
 |cons o os ih=>
  intro i rs vs s h
  obtain ⟨h1,h2⟩:=h
  have z:∀n,HB tt G all (o :: os) s (n+1)=HB tt G all os (KE tt G all o s) n:=fun n=>rfl
  have z0:HB tt G all (o :: os) s 0=s:=rfl
  have sh:∀n:Nat,i+(n+1)=(i+1)+n:=fun n=>by omega
  cases hw:Ey G o.op with
  |true=>
   rw [hw] at h2
   dsimp only at h2
   cases hg:(Aq all s.fr o.guard).1 with
   |true=>
    rw [if_pos hg] at h2
    obtain ⟨h3,h4,h5⟩:=h2
    have hn:KE tt G all o s=⟨Bf s.fr o.dst (CC tt G s.fr s.hp s.top o.op).v true,s.hp.A0 (CC tt G s.fr s.hp s.top o.op).us,(CC tt G s.fr s.hp s.top o.op).top⟩:=by simp only [KE,hw,hg]
    rw [←hn] at h5
    obtain ⟨hK,F⟩:=ih _ _ _ _ h5
    refine ⟨hK,⟨?_, ?_, ?_, ?_, ?_⟩⟩
    ·intro k p hk
     cases k with
     |zero=>
      simp at hk;subst hk
      rw [z,z0,ED]
      exact ⟨h1,fun _ _=>h3,fun e=>(by rw [hw] at e;cases e),rfl⟩
     |succ k=>exact F.step k p (by simpa using hk)
    ·intro e he k p hk hwp hgp hu heg
     cases k with
     |zero=>
      simp at hk;subst hk
      rw [z,ED,hn]
      exact UG h4 e he (by simpa using hu) heg
     |succ k=>exact F.Vy e he k p (by simpa using hk) hwp hgp (by rw [←sh];exact hu) heg
    ·intro e he k p hk hwp hgp hu
     cases k with
     |zero=>
      simp at hk;subst hk
      rw [hw] at hwp;cases hwp
     |succ k=>exact F.Oo e (List.mem_cons_of_mem _ he) k p (by simpa using hk) hwp hgp (by rw [←sh];exact hu)
    ·intro q k oq ok hqk hq hk hwq hgq hwk hgk hu
     cases k with
     |zero=>omega
     |succ k=>
      cases q with
      |zero=>
       simp at hq;subst hq
       rw [hw] at hwq;cases hwq
      |succ q=>exact F.late q k oq ok (by omega) (by simpa using hq) (by simpa using hk) hwq hgq hwk hgk (by rw [←sh,←sh];exact hu)
    ·intro q k oq ok hqk hq hk hwq hgq hwk hgk hu
     cases k with
     |zero=>omega
     |succ k=>
      cases q with
      |zero=>
       simp at hq;subst hq
       exact F.Oo (i,s.hp) (List.mem_cons_self ..) k ok (by simpa using hk) hwk hgk (by rw [←sh];simpa using hu)
      |succ q=>exact F.early q k oq ok (by omega) (by simpa using hq) (by simpa using hk) hwq hgq hwk hgk (by rw [←sh,←sh];exact hu)
   |false=>
    rw [if_neg (by rw [hg];simp)] at h2
    have hn:KE tt G all o s=⟨Bf s.fr o.dst undef false,s.hp,s.top⟩:=by simp only [KE,hw,hg]
    rw [←hn] at h2
    obtain ⟨hK,F⟩:=ih _ _ _ _ h2
    refine ⟨hK,⟨?_, ?_, ?_, ?_, ?_⟩⟩
    ·intro k p hk
     cases k with
     |zero=>
      simp at hk;subst hk
      rw [z,z0,ED]
      exact ⟨h1,fun _ e=>(by rw [hg] at e;cases e),fun e=>(by rw [hw] at e;cases e),rfl⟩
     |succ k=>exact F.step k p (by simpa using hk)
    ·intro e he k p hk hwp hgp hu heg
     cases k with
     |zero=>
      simp at hk;subst hk
      rw [z0,hg] at hgp;cases hgp
     |succ k=>exact F.Vy e he k p (by simpa using hk) hwp hgp (by rw [←sh];exact hu) heg
    ·intro e he k p hk hwp hgp hu
     cases k with
     |zero=>
      simp at hk;subst hk
      rw [hw] at hwp;cases hwp
     |succ k=>exact F.Oo e he k p (by simpa using hk) hwp hgp (by rw [←sh];exact hu)
    ·intro q k oq ok hqk hq hk hwq hgq hwk hgk hu
     cases k with
     |zero=>omega
     |succ k=>
      cases q with
      |zero=>
       simp at hq;subst hq
       rw [hw] at hwq;cases hwq
      |succ q=>exact F.late q k oq ok (by omega) (by simpa using hq) (by simpa using hk) hwq hgq hwk hgk (by rw [←sh,←sh];exact hu)
    ·intro q k oq ok hqk hq hk hwq hgq hwk hgk hu
     cases k with
     |zero=>omega
     |succ k=>
      cases q with
      |zero=>
       simp at hq;subst hq
       rw [z0,hg] at hgq;cases hgq
      |succ q=>exact F.early q k oq ok (by omega) (by simpa using hq) (by simpa using hk) hwq hgq hwk hgk (by rw [←sh,←sh];exact hu)
  |false=>
   rw [hw] at h2
   dsimp only at h2
   obtain ⟨h3,h4⟩:=h2
   have hn:KE tt G all o s=⟨Bf s.fr o.dst (pv tt G s.fr s.hp o.op).1 (Aq all s.fr o.guard).1,s.hp,s.top⟩:=by simp only [KE,hw]
   rw [←hn] at h4
   obtain ⟨hK,F⟩:=ih _ _ _ _ h4
   have hold:∀e∈rs,e∈Md un ⟨i,(Aq all s.fr o.guard).1,s.fr,o.op,(pv tt G s.fr s.hp o.op).1⟩ rs:=by
    intro e he
    unfold Md
    split
    ·exact List.mem_cons_of_mem _ he
    ·exact he
   refine ⟨hK,⟨?_, ?_, ?_, ?_, ?_⟩⟩
   ·intro k p hk
    cases k with
    |zero=>
     simp at hk;subst hk
     rw [z,z0,ED]
     exact ⟨h1,fun e=>(by rw [hw] at e;cases e),fun _ e=>(h3 e).1,rfl⟩
    |succ k=>exact F.step k p (by simpa using hk)
   ·intro e he k p hk hwp hgp hu heg
    cases k with
    |zero=>
     simp at hk;subst hk
     rw [hw] at hwp;cases hwp
    |succ k=>exact F.Vy e (hold e he) k p (by simpa using hk) hwp hgp (by rw [←sh];exact hu) heg
   ·intro e he k p hk hwp hgp hu
    cases k with
    |zero=>
     simp at hk;subst hk
     rw [z0]
     exact SI (h3 hgp).2 e he (by simpa using hu)
    |succ k=>exact F.Oo e he k p (by simpa using hk) hwp hgp (by rw [←sh];exact hu)
   ·intro q k oq ok hqk hq hk hwq hgq hwk hgk hu
    cases k with
    |zero=>omega
    |succ k=>
     cases q with
     |zero=>
      simp at hq;subst hq
      have hm:(⟨i,(Aq all s.fr o.guard).1,s.fr,o.op,(pv tt G s.fr s.hp o.op).1⟩:dH)∈Md un ⟨i,(Aq all s.fr o.guard).1,s.fr,o.op,(pv tt G s.fr s.hp o.op).1⟩ rs:=by
       have hh:Nn un i=true:=Yw (k:=i+(k+1)) (by simpa using hu)
       simp only [Md,hh,List.mem_cons,true_or]
      exact F.Vy _ hm k ok (by simpa using hk) hwk hgk (by rw [←sh];simpa using hu) hgq
     |succ q=>exact F.late q k oq ok (by omega) (by simpa using hq) (by simpa using hk) hwq hgq hwk hgk (by rw [←sh,←sh];exact hu)
   ·intro q k oq ok hqk hq hk hwq hgq hwk hgk hu
    cases k with
    |zero=>omega
    |succ k=>
     cases q with
     |zero=>
      simp at hq;subst hq
      rw [hw] at hwq;cases hwq
     |succ q=>exact F.early q k oq ok (by omega) (by simpa using hq) (by simpa using hk) hwq hgq hwk hgk (by rw [←sh,←sh];exact hu)
def iU (G:FuncId→BO)(an:List Nat)(un:List (Nat×Nat))(all:List Oper):Bool:=(List.range all.length).all fun i=>match all[i]? with
 |none=>true
 |some o=>Ey G o.op || Bi o.op || (List.range all.length).all fun k=>match all[k]? with
  |none=>true
  |some p=> !Ey G p.op || JC un i k || (match Nat.ble (k+1) i with
   |true=>bit (an.getD i 0) k
   |false=>bit (an.getD k 0) i)
noncomputable def U3 (G:FuncId→BO)(un:List (Nat×Nat))(ops:List Oper):Bool:=match TK ops [] with
 |none=>false
 |some an=>distinct (BE ops 0) && Jb ops && JG an (BE ops 0) ops ops 0 && dV G an ops && iU G an un ops
theorem XF {G:FuncId→BO}{an:List Nat}{un:List (Nat×Nat)}{all:List Oper}(h:iU G an un all=true):∀i k oi ok,all[i]? = some oi→all[k]? = some ok→Ey G oi.op=false→Bi oi.op=false→Ey G ok.op=true→
  JC un i k=true∨((k < i→bit (an.getD i 0) k=true)∧(¬k < i→bit (an.getD k 0) i=true)):=by
 intro i k oi ok hi hk hwi hfi hwk
 have lt_of:∀(k:Nat) (o:Oper),all[k]? = some o→k < all.length:=fun k o h=>by
  rcases Nat.lt_or_ge k all.length with h2 | h2
  ·exact h2
  ·rw [List.getElem?_eq_none h2] at h;cases h
 unfold iU at h
 rw [List.all_eq_true] at h
 have:=h i (List.mem_range.2 (lt_of i oi hi))
 rw [hi] at this
 simp only [hwi,hfi,Bool.false_or,List.all_eq_true] at this
 have:=this k (List.mem_range.2 (lt_of k ok hk))
 rw [hk] at this
 simp only [hwk,Bool.not_true,Bool.false_or,Bool.or_eq_true] at this
 rcases this with h1 | h1
 ·exact .inl h1
 right
 constructor
 ·intro hlt
  have hb:Nat.ble (k+1) i=true:=Nat.ble_eq_true_of_le hlt
  rw [hb] at h1;exact h1
 ·intro hlt
  have hb:Nat.ble (k+1) i=false:=by
   cases hb:Nat.ble (k+1) i with
   |false=>rfl
   |true=>exact absurd (Nat.le_of_ble_eq_true hb) hlt
  rw [hb] at h1
  exact h1
section
variable {P:Program} {tt:Aa} {G:FuncId→BO} {ops:Array Oper} {an:List Nat} {s0:SS} {sz:Nat}
open Classical in
theorem BB.sL (F:BB P tt G ops an s0 sz)(un:List (Nat×Nat))(hun:iU G an un ops.toList=true)(hX:tJ tt G ops.toList un 0 ops.toList [] [] s0):Jy P tt G ops an s0 sz:=by
 refine ⟨F, ?_⟩
 intro i o ho hwb hg p hp hcomp
 have hilt:=BB.lt (ops:=ops) i o ho
 have S:=F.step i o ho
 have hpv:=S.r hwb hg
 have ltk:∀k,AW tt G ops s0 k→k < ops.size:=fun k ⟨ok,h1,_⟩=>BB.lt (ops:=ops) k ok h1
 have free:Bi o.op=true→FU o.op=false:=fun h=>by
  cases h2:FU o.op with
  |false=>rfl
  |true=>rw [Zs hwb h2] at h;cases h
 -- the read at memory p
 have key:Bi o.op=false→(pv tt G (Ai tt G ops s0 i).fr (Ai tt G ops s0 p).hp o.op).2∧(pv tt G (Ai tt G ops s0 i).fr (Ai tt G ops s0 p).hp o.op).1=(pv tt G (Ai tt G ops s0 i).fr (Ai tt G ops s0 i).hp o.op).1:=by
  intro hf
  have un':∀k,AW tt G ops s0 k→((k < i∧¬k < p)∨(¬k < i∧k < p))→JC un i k=true:=by
   intro k hk hc
   obtain ⟨ok,h1,h2,h3⟩:=hk
   obtain ⟨c1,c2⟩:=hcomp k ok h1 ⟨ok,h1,h2,h3⟩
   rcases XF hun i k o ok (by simpa using ho) (by simpa using h1) hwb hf h2 with h4 | ⟨h4,h5⟩
   ·exact h4
   ·rcases hc with ⟨a,b⟩ | ⟨a,b⟩
    ·exact absurd (c1 (h4 a)) b
    ·have:=h5 a;rw [c2 b] at this;cases this
  rcases Nat.le_total i p with hip | hip
  ·by_cases hex:∃k,AW tt G ops s0 k∧i≤k∧k < p
   ·-- the last writer ahead of p
    have:∃k,(AW tt G ops s0 k∧i≤k∧k < p)∧∀k',AW tt G ops s0 k'→i≤k'→k' < p→k'≤k:=by
     have hb:∀n,(∃k,AW tt G ops s0 k∧i≤k∧k < n)→∃k,(AW tt G ops s0 k∧i≤k∧k < n)∧∀k',AW tt G ops s0 k'→i≤k'→k' < n→k'≤k:=by
      intro n
      induction n with
      |zero=>rintro ⟨k,_,_,h⟩;omega
      |succ n ih=>
       intro h
       by_cases hn:AW tt G ops s0 n∧i≤n
       ·exact ⟨n,⟨hn.1,hn.2,by omega⟩,fun k' _ _ h=>by omega⟩
       ·obtain ⟨k,h1,h2,h3⟩:=h
        have hkn:k≠n:=fun e=>hn (e ▸ ⟨h1,h2⟩)
        obtain ⟨m,⟨m1,m2,m3⟩,m4⟩:=ih ⟨k,h1,h2,by omega⟩
        refine ⟨m,⟨m1,m2,by omega⟩,fun k' h1 h2 h3=> ?_⟩
        have:k'≠n:=fun e=>hn (e ▸ ⟨h1,h2⟩)
        exact m4 k' h1 h2 (by omega)
     exact hb p hex
    obtain ⟨k,⟨k1,k2,k3⟩,k4⟩:=this
    have hgp:=F.QY hp (show k+1≤ops.size from ltk k k1) (fun k' hk'=>by
     constructor
     ·intro h
      rcases Nat.lt_or_ge k' i with h5 | h5
      ·omega
      ·have:=k4 k' hk' h5 h;omega
     ·intro h;omega)
    rw [hgp.1]
    obtain ⟨ok,h1,h2,h3⟩:=k1
    have hne:i≠k:=fun e=>by subst e;rw [ho] at h1;cases h1;rw [hwb] at h2;cases h2
    exact hX.late i k o ok (by omega) (by simpa using ho) (by simpa using h1) hwb hg h2 h3 (by simpa using un' k ⟨ok,h1,h2,h3⟩ (.inr ⟨by omega,k3⟩))
   ·have hgp:=F.QY hp (Nat.le_of_lt hilt) (fun k' hk'=>by
     constructor
     ·intro h
      rcases Nat.lt_or_ge k' i with h5 | h5
      ·exact h5
      ·exact absurd ⟨k',hk',h5,h⟩ hex
     ·intro h;omega)
    rw [hgp.1];exact ⟨hpv,rfl⟩
  ·by_cases hex:∃k,AW tt G ops s0 k∧p≤k∧k < i
   ·have:∃k,(AW tt G ops s0 k∧p≤k∧k < i)∧∀k',AW tt G ops s0 k'→p≤k'→k' < i→k≤k':=by
     have hb:∀d n,n+d=i→(∃k,AW tt G ops s0 k∧n≤k∧k < i)→∃k,(AW tt G ops s0 k∧n≤k∧k < i)∧∀k',AW tt G ops s0 k'→n≤k'→k' < i→k≤k':=by
      intro d
      induction d with
      |zero=>rintro n hn ⟨k,_,h1,h2⟩;omega
      |succ d ih=>
       intro n hn h
       by_cases hc:AW tt G ops s0 n
       ·exact ⟨n,⟨hc,by omega,by omega⟩,fun k' _ h _=>h⟩
       ·obtain ⟨k,h1,h2,h3⟩:=h
        have hkn:k≠n:=fun e=>hc (e ▸ h1)
        obtain ⟨m,⟨m1,m2,m3⟩,m4⟩:=ih (n+1) (by omega) ⟨k,h1,by omega,h3⟩
        refine ⟨m,⟨m1,by omega,m3⟩,fun k' h1 h2 h3=> ?_⟩
        have:k'≠n:=fun e=>hc (e ▸ h1)
        exact m4 k' h1 (by omega) h3
     exact hb (i - p) p (by omega) hex
    obtain ⟨k,⟨k1,k2,k3⟩,k4⟩:=this
    have hgp:=F.QY hp (Nat.le_of_lt (ltk k k1)) (fun k' hk'=>by
     constructor
     ·intro h;omega
     ·intro h
      rcases Nat.lt_or_ge k' p with h5 | h5
      ·exact h5
      ·have:=k4 k' hk' h5 (by omega);omega)
    rw [hgp.1]
    obtain ⟨ok,h1,h2,h3⟩:=k1
    exact hX.early k i ok o k3 (by simpa using h1) (by simpa using ho) h2 h3 hwb hg (by simpa using un' k ⟨ok,h1,h2,h3⟩ (.inl ⟨k3,by omega⟩))
   ·have hgp:=F.QY hp (Nat.le_of_lt hilt) (fun k' hk'=>by
     constructor
     ·intro h;omega
     ·intro h
      rcases Nat.lt_or_ge k' p with h5 | h5
      ·exact h5
      ·exact absurd ⟨k',hk',h5,h⟩ hex)
    rw [hgp.1];exact ⟨hpv,rfl⟩
 constructor
 ·intro hiw
  cases hf:Bi o.op with
  |true=>rw [free hf] at hiw;cases hiw
  |false=>exact key hf
 ·intro hiw
  cases hf:Bi o.op with
  |true=>rw [J1 (hp':=(Ai tt G ops s0 i).hp) hf];exact Jp (P:=P) hiw hpv (fun _ _ e=>e)
  |false=>
   obtain ⟨k1,k2⟩:=key hf
   rw [←k2]
   exact Jp (P:=P) hiw k1 (fun _ _ e=>e)
end
theorem CW.Sf {P:Program}{tt:Aa}{G:FuncId→BO}(E:B9 P tt G){sz base:Nat}{s:SS}{Q:Exit→SS→Prop}(id:Nat){ops:Array Oper}(BS:List Nat)(un:List (Nat×Nat))(hdst:G8 sz ops=true)(hdr:U3 G un ops.toList=true)
  (h:Ir tt G ops.toList un 0 ops.toList [] [] (Wi BS Q) s):CW P sz base (.region id ops true) s Q:=by
 unfold U3 at hdr
 split at hdr
 ·cases hdr
 ·rename_i an han
  simp only [Bool.and_eq_true] at hdr
  obtain ⟨⟨⟨⟨hdis,hmo⟩,hsafe⟩,hww⟩,hrw⟩:=hdr
  obtain ⟨hQ,hX⟩:=R4 _ _ _ _ _ h
  have hfacts:=hX.step
  have hmem:∀(k:Nat) (o:Oper) (d:Nat),ops[k]? = some o→o.dst=some d→(d,k)∈BE ops.toList 0:=by
   intro k o d ho hd
   have:=Hq ops.toList 0 k d o (by simpa using ho) hd
   simpa using this
  intro φ0 φ own ds w0 a w hb hle S
  have FB:BB P tt G ops an s sz:=by
   refine ⟨E,DL hdst,Od han,hmem, ?_, ?_,fun k o ho=>hfacts k o (by simpa using ho),fun j k oj ok hj hk h1 h2 h3=>(NW hww j k oj ok (by simpa using hj) (by simpa using hk) h1 h2 h3).imp (fun h=>h) (fun h=>⟨h.1,fun i oi hi=>h.2 i oi (by simpa using hi)⟩),fun i o hi=>S.hr.lt S.top hi⟩
   ·intro d k k' h1 h2
    exact Fs _ hdis d k k' h1 h2 fun p hp q hq hpq=>HG ops.toList 0 p q hp hq hpq
   ·intro k o ho
    have:=Ju an _ _ _ 0 hsafe k o (by simpa using ho)
    rw [Nat.zero_add] at this
    exact ⟨this.1,fun j want p d hg hp hd=>this.2 j want p d hg (by simpa using hp) hd⟩
  have F:Jy P tt G ops an s sz:=FB.sL un hrw hX
  have hn:ops.toList.length=ops.size:=by simp
  rw [hn] at hQ
  have all:∀md,Ev md ops→wpAny P md ops (fun x a' w'=>x≠ .outgrown∧∃φ' s',φ0.le φ'∧HF φ' own sz ds w0 s' a' w'∧Q x s') ops.size (Array.replicate ops.size false) a {w with drawn:=w.drawn+1}:=by
   intro md hrk
   have hf:∀k,¬((Array.replicate ops.size false).getD k false=true):=by
    intro k hk
    simp [Array.getD_eq_getD_getElem?,Array.getElem?_replicate] at hk
    split at hk <;> simp at hk
   refine F.main (φ0:=φ) (own:=own) (ds:=ds) (w0:=w0) hrk ?_ ops.size _ φ 0 a _ (by simp) (I1 _) (Ren.le_refl _) ?_ ?_
   ·intro φ' a' w' hle' S'
    exact ⟨nofun,φ',⟨GC (Ai tt G ops s ops.size).fr BS,(Ai tt G ops s ops.size).hp,(Ai tt G ops s ops.size).top⟩,Ren.le_trans hle hle',S'.sub (Sub.BS (Ai tt G ops s ops.size) BS),hQ⟩
   ·intro k o _ hk;exact absurd hk (hf k)
   ·exact Hd.start hf S
  have anyR:Ev .any ops:=⟨fun k=>k,fun k o hk e he hb=>by
   have h1:=F.cn.lt k o (by simpa using hk) e he hb
   have h2:k < ops.size:=by
    rcases Nat.lt_or_ge k ops.size with h | h
    ·exact h
    ·rw [Array.getElem?_eq_none h] at hk;cases hk
   exact ⟨by omega,h1⟩⟩
  refine B8.Ka (HZ hdst) (fun ⟨_,_,h,_⟩=>h rfl) fun t=> ?_
  unfold Region.schedule
  split
  ·exact wpAny_sound ops.size t _ a _ (all .any anyR)
  ·rename_i hnd
   have hd:Region.departs ops=true:=by
    cases hdp:Region.departs ops with
    |true=>rfl
    |false=>rw [hdp] at hnd;simp at hnd
   obtain ⟨r1,r2⟩:=Gr hmo hd
   split
   ·exact wpAny_sound ops.size _ _ a _ (all .text r1)
   ·exact wpAny_sound ops.size _ _ a _ (all .gc r2)
section
variable {tt:Aa} {G:FuncId→BO} {all os:List Oper} {un:List (Nat×Nat)} {o:Oper} {i:Nat} {rs:List dH} {vs:List (Nat×Hp)} {K:SS→Prop} {s:SS}
theorem XS:Ir tt G all un i [] rs vs K s=K s:=rfl
theorem So:Ir tt G all un i (o :: os) rs vs K s=((Aq all s.fr o.guard).2∧(match Ey G o.op with
  |true=>(if (Aq all s.fr o.guard).1=true then (CC tt G s.fr s.hp s.top o.op).ob∧Ix tt G un i (s.hp.A0 (CC tt G s.fr s.hp s.top o.op).us) rs∧
     Ir tt G all un (i+1) os rs ((i,s.hp) :: vs) K ⟨Bf s.fr o.dst (CC tt G s.fr s.hp s.top o.op).v true,s.hp.A0 (CC tt G s.fr s.hp s.top o.op).us,(CC tt G s.fr s.hp s.top o.op).top⟩
    else Ir tt G all un (i+1) os rs vs K ⟨Bf s.fr o.dst undef false,s.hp,s.top⟩)
  |false=>((Aq all s.fr o.guard).1=true→(pv tt G s.fr s.hp o.op).2∧Gm tt G un i s.fr o.op (pv tt G s.fr s.hp o.op).1 vs)∧
    Ir tt G all un (i+1) os (Md un ⟨i,(Aq all s.fr o.guard).1,s.fr,o.op,(pv tt G s.fr s.hp o.op).1⟩ rs) vs K ⟨Bf s.fr o.dst (pv tt G s.fr s.hp o.op).1 (Aq all s.fr o.guard).1,s.hp,s.top⟩)):=rfl
end
end Go.Dm
namespace Go.Dm
theorem HR.stay {φ:Ren}{own:Nat→Prop}{hp:Hp}{w w':World}(H:HR φ own hp w)(hk:K (fun b=>w.heap.size≤b) w w'):HR φ own hp w':=by
 have same:∀b,b < w.heap.size→w'.heap[b]? = w.heap[b]? :=fun b hb=>hk.same b hb (by omega)
 refine ⟨?_,H.sep,H.Dq,fun i L e=>Nat.lt_of_lt_of_le (H.val i L e) hk.size,fun b hb=>H.fresh b (Nat.le_trans hk.size hb)⟩
 intro i o e
 obtain ⟨L,h1,h2⟩:=H.obj i o e
 exact ⟨L,h1,by rw [same _ (H.val i L h1)];exact h2⟩
theorem K.LG {own:Nat→Prop}{w w':World}(hf:∀b,w.heap.size≤b→own b)(hk:K (fun b=>w.heap.size≤b) w w'):K own w w':=
 ⟨hk.size,fun b hb _=>hk.same b hb (by omega),hk.os,hk.tape,hk.output⟩
end Go.Dm
