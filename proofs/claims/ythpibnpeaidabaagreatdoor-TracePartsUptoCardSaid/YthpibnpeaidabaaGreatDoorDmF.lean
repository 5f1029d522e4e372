/- The abstract machine, a part of it: operations, regions, code and calls run over values with named blocks; each step is shown of the real run. -/
import Derived.Test.YthpibnpeaidabaaGreatDoorDmE
set_option linter.unusedSimpArgs false
set_option linter.unusedVariables false
/- Names of blocks may be changed:a state is canonical when its own blocks are named in order. -/
namespace Go.Dm
mutual
/-- a value whose blocks are named anew -/
def A3 (ρ:Nat→Nat):Value→Value
 | .pointer (some ⟨b,o,s⟩)=> .pointer (some ⟨ρ b,o,s⟩)
 | .slice (some ⟨b,o,none⟩) n c=> .slice (some ⟨ρ b,o,none⟩) n c
 | .map (some b)=> .map (some (ρ b))
 | .agg ⟨l⟩=> .agg ⟨Bi ρ l⟩
 | .tuple ⟨l⟩=> .tuple ⟨Bi ρ l⟩
 | .iface t v=> .iface t (A3 ρ v)
 | .func f ⟨a⟩ ⟨b⟩=> .func f ⟨Bi ρ a⟩ ⟨Bi ρ b⟩
 |v=>v
def Bi (ρ:Nat→Nat):List Value→List Value
 | []=> []
 |v :: l=>A3 ρ v :: Bi ρ l
end
def fX (ρ:Nat→Nat)(e:MapEntry):MapEntry:= {e with key:=A3 ρ e.key,val:=A3 ρ e.val}
def Hj (ρ:Nat→Nat):Av→Av
 | .cells rw BD vs=> .cells rw BD (Bi ρ vs)
 | .map es clk=> .map (es.map (fX ρ)) clk
 | .iter s p=> .iter s p
 | .miter m since seen c=> .miter (ρ m) since seen c
 | .raw b vs=> .raw b vs
theorem FU (ρ:Nat→Nat):∀l,Bi ρ l=l.map (A3 ρ)
 | []=>rfl
 |v :: l=>by rw [Bi,FU ρ l];rfl
theorem Ql (ρ:Nat→Nat)(l m:List Value):Bi ρ (l ++ m)=Bi ρ l ++ Bi ρ m:=by simp only [FU,List.map_append]
theorem SU (ρ:Nat→Nat)(l:List Value):(Bi ρ l).length=l.length:=by simp only [FU,List.length_map]
/-- names read through -/
def Ren.via (φ:Ren)(ρ:Nat→Nat):Ren:=fun j=>φ (ρ j)
mutual
theorem V.C9 {φ:Ren}{ρ:Nat→Nat}:∀ {v x:Value},V φ (A3 ρ v) x→V (φ.via ρ) v x:=by
 intro v x h
 match v with
 | .bool b=>cases h;exact .bool b
 | .int k n=>cases h;exact .int k n
 | .float k n=>cases h
 | .complex k a b=>cases h
 | .string s=>cases h;exact .str s
 | .pointer none=>cases h;exact .nilp
 | .pointer (some ⟨b,o,s⟩)=>
  simp only [A3] at h
  cases h with
  |ptr _ _ L hL=>exact .ptr _ _ L hL
 | .slice none n c=>cases h;exact .nils
 | .slice (some ⟨b,o,none⟩) n c=>
  simp only [A3] at h
  generalize hb:ρ b=b' at h
  cases h with
  |slice _ _ _ _ c' L hL hn hc hl=>exact .slice _ _ _ _ c' L (by rw [←hb] at hL;exact hL) hn hc hl
 | .slice (some ⟨b,o,some s⟩) n c=>
  have e:A3 ρ (.slice (some ⟨b,o,some s⟩) n c)= .slice (some ⟨b,o,some s⟩) n c:=by unfold A3;rfl
  rw [e] at h
  cases h
  exact .emp _ _
 | .map none=>cases h;exact .nilm
 | .map (some b)=>
  simp only [A3] at h
  cases h with
  |map _ L hL=>exact .map _ L hL
 | .chan r=>cases h
 | .func f ⟨a⟩ ⟨b⟩=>
  simp only [A3] at h
  cases h with
  |func _ _ a' _ b' ha hb=>exact .func _ _ _ _ _ (Vs.C9 ha) (Vs.C9 hb)
 | .nilFunc=>cases h;exact .nilf
 | .iface t v=>
  simp only [A3] at h
  cases h with
  |iface _ _ v' hv=>exact .iface _ _ _ (V.C9 hv)
 | .nilIface=>cases h;exact .nili
 | .agg ⟨l⟩=>
  simp only [A3] at h
  cases h with
  |agg _ l' hl=>exact .agg _ _ (Vs.C9 hl)
 | .tuple ⟨l⟩=>
  simp only [A3] at h
  cases h with
  |tuple _ l' hl=>exact .tuple _ _ (Vs.C9 hl)
theorem Vs.C9 {φ:Ren}{ρ:Nat→Nat}:∀ {l m:List Value},Vs φ (Bi ρ l) m→Vs (φ.via ρ) l m:=by
 intro l m h
 match l with
 | []=>cases h;exact .nil
 |v :: l=>
  simp only [Bi] at h
  cases h with
  |cons _ x _ m hx hm=>exact .cons _ _ _ _ (V.C9 hx) (Vs.C9 hm)
end
theorem Es.C9 {φ:Ren}{ρ:Nat→Nat}:∀ {l m:List MapEntry},Es φ (l.map (fX ρ)) m→Es (φ.via ρ) l m:=by
 intro l
 induction l with
 |nil=>intro m h;cases h;exact .nil
 |cons e l ih=>
  intro m h
  simp only [List.map_cons] at h
  cases h with
  |cons _ x _ m hx hm=>exact .cons _ _ _ _ ⟨V.C9 hx.key,V.C9 hx.val,hx.born⟩ (ih hm)
theorem C2.C9 {φ:Ren}{ρ:Nat→Nat}{L:Loc}{o:Av}{x:Option Obj}(h:C2 φ L (Hj ρ o) x):C2 (φ.via ρ) L o x:=by
 cases o with
 |cells rw BD vs=>
  obtain ⟨he,c,t,fz,h1,h2,h3,h4,h5⟩:=h
  rw [SU] at h3 h4
  exact ⟨he,c,t,fz,h1,h2,h3,Vs.C9 h4,h5⟩
 |map es clk=>obtain ⟨es',h1,h2⟩:=h;exact ⟨es',h1,Es.C9 h2⟩
 |iter s pos=>exact h
 |miter m since seen c=>exact h
 |raw b vs=>exact h
theorem VD (ρ:Nat→Nat)(o:Av):(Hj ρ o).rw=o.rw:=by cases o <;> rfl
/-- what is known of less,under other names -/
structure Ar (ρ:Nat→Nat) (base:Nat) (s' s:SS):Prop where
 low:∀j,j < base→ρ j=j
 high:∀j,s'.top≤j→s.top≤ρ j
 inj:∀i j,i < s'.top→j < s'.top→ρ i=ρ j→i=j
 fr:∀t v,Fi s'.fr t=some v→Fi s.fr t=some (A3 ρ v)
 hp:∀i o,s'.hp i=some o→s.hp (ρ i)=some (Hj ρ o)
theorem HR.C9 {φ:Ren}{own:Nat→Prop}{w:World}{hp hp':Hp}{top top':Nat}{ρ:Nat→Nat}(H:HR φ own hp w)(htop:∀j,top≤j→φ j=none)
  (high:∀j,top'≤j→top≤ρ j) (inj:∀i j,i < top'→j < top'→ρ i=ρ j→i=j) (hh:∀i o,hp' i=some o→hp (ρ i)=some (Hj ρ o)):HR (φ.via ρ) own hp' w:=by
 have dom:∀i o,hp' i=some o→i < top':=by
  intro i o e
  rcases Nat.lt_or_ge i top' with h | h
  ·exact h
  ·obtain ⟨L,h1,_⟩:=H.obj _ _ (hh i o e)
   rw [htop _ (high i h)] at h1;cases h1
 refine ⟨?_, ?_, ?_, ?_,H.fresh⟩
 ·intro i o e
  obtain ⟨L,h1,h2⟩:=H.obj _ _ (hh i o e)
  exact ⟨L,h1,C2.C9 h2⟩
 ·intro i j oi oj Li Lj hi hj hne hrw hLi hLj
  exact H.sep (ρ i) (ρ j) _ _ Li Lj (hh _ _ hi) (hh _ _ hj) (fun e=>hne (inj i j (dom _ _ hi) (dom _ _ hj) e)) (by rw [VD];exact hrw) hLi hLj
 ·intro i o L e hrw hL
  exact H.C7 _ _ L (hh _ _ e) (by rw [VD];exact hrw) hL
 ·intro i L hL
  exact H.val (ρ i) L hL
theorem GD.aw {φ:Ren}{own:Nat→Prop}{sz:Nat}{ds:List Deferred}{w0:World}{s s':SS}{a:Act}{w:World}{ρ:Nat→Nat}{base:Nat}(S:GD φ own sz ds w0 s a w)(h:Ar ρ base s' s):GD (φ.via ρ) own sz ds w0 s' a w:=
 ⟨⟨fun t v e=>V.C9 (S.fr.val t _ (h.fr t v e)),S.fr.size⟩,S.hr.C9 S.top h.high h.inj h.hp,fun j hj=>S.top _ (h.high j hj),S.k,S.ds⟩
theorem Ar.le {φ0 φ:Ren}{ρ:Nat→Nat}{base:Nat}{s s':SS}(h:Ar ρ base s' s)(hb:∀j,base≤j→φ0 j=none)(hle:φ0.le φ):φ0.le (φ.via ρ):=by
 intro i L e
 have hi:i < base:=by
  rcases Nat.lt_or_ge i base with h | h
  ·exact h
  ·rw [hb i h] at e;cases e
 unfold Ren.via
 rw [h.low i hi];exact hle _ _ e
theorem CW.Nr {P:Program}{sz base:Nat}{c:Code}{s s':SS}{Q:Exit→SS→Prop}{ρ:Nat→Nat}(hs:Ar ρ base s' s)(h:CW P sz base c s' Q):CW P sz base c s Q:=by
 intro φ0 φ own ds w0 a w hb hle S
 exact h φ0 _ own ds w0 a w hb (hs.le hb hle) (S.aw hs)
/-- the next round of a loop -/
def Round {α:Type}(base:Nat)(S:α→SS)(I:α→Prop)(μ:α→Nat)(x:α)(s':SS):Prop:= ∃y,I y∧μ y < μ x∧∃ρ,Ar ρ base (S y) s'
theorem Round.mk {α:Type}{base:Nat}{S:α→SS}{I:α→Prop}{μ:α→Nat}{x:α}{s':SS}(y:α)(hI:I y)(hμ:μ y < μ x)(hS:∃ρ,Ar ρ base (S y) s'):Round base S I μ x s':=⟨y,hI,hμ,hS⟩
theorem CW.Bp {P:Program}{sz base:Nat}{c:Code}{s:SS}{Q:Exit→SS→Prop}{α:Type}(S:α→SS)(I:α→Prop)(μ:α→Nat)(x0:α)(h0:I x0)(hs:∃ρ,Ar ρ base (S x0) s)
  (h:∀x,I x→CW P sz base c (S x) (JB (Round base S I μ x) Q)):CW P sz base (.loop c) s Q:=by
 intro φ0 φ own ds w0 a w hb hle S0
 have key:∀(m:Nat) (x:α) (φ:Ren) (a:Act) (w:World),I x→μ x≤m→φ0.le φ→GD φ own sz ds w0 (S x) a w→
   FA P c (fun x a' w'=>x≠ .outgrown∧∃φ' s',φ0.le φ'∧GD φ' own sz ds w0 s' a' w'∧Q x s') (m+1) a w:=by
  intro m
  induction m with
  |zero=>
   intro x φ a w hI hm hle S1
   rw [EW]
   refine Bu.mono (h x hI φ0 φ own ds w0 a w hb hle S1) ?_
   rintro e a' w' ⟨hx,φ',s',h1,h2,h3⟩
   cases e with
   |normal=>obtain ⟨y,_,hlt,_⟩:=h3;omega
   |_=>exact ⟨hx,φ',s',h1,h2,h3⟩
  |succ m ih=>
   intro x φ a w hI hm hle S1
   rw [EW]
   refine Bu.mono (h x hI φ0 φ own ds w0 a w hb hle S1) ?_
   rintro e a' w' ⟨hx,φ',s',h1,h2,h3⟩
   cases e with
   |normal=>
    obtain ⟨y,hy,hlt,ρ,hsub⟩:=h3
    exact ih y _ a' w' hy (by omega) (hsub.le hb h1) (h2.aw hsub)
   |_=>exact ⟨hx,φ',s',h1,h2,h3⟩
 obtain ⟨ρ,hs⟩:=hs
 exact Bu.J9 (μ x0+1) (key (μ x0) x0 _ a w h0 (Nat.le_refl _) (hs.le hb hle) (S0.aw hs))
/-- a function's end -/
def dj (tt:AJ)(rs:List ResultVar)(post:Value→Hp→Nat→Prop):Exit→SS→Prop
 | .normal,s=>Ei tt s.fr s.hp rs∧post (Gb (IC tt s.fr s.hp rs)) s.hp s.top
 | .ret,s=>Ei tt s.fr s.hp rs∧post (Gb (IC tt s.fr s.hp rs)) s.hp s.top
 |_,_=>False
theorem AK.A5 {P:Program}{tt:AJ}(htt:B5 P tt){f:FuncId}{fn:Func}(F:Ah P f fn){c:Code}(hc:fn.body=some c)(n:Nat)(hn:fn.ntmps=n)(rs:List ResultVar)(hrs:fn.results.toList=rs)
  {args:List Value} {hp:Hp} {top:Nat} {post:Value→Hp→Nat→Prop} (hle:args.length≤n)
  (h:CW P n top c ⟨Hl args 0,hp,top⟩ (dj tt rs post)):AK P f args hp top post:=by
 refine AK.fU htt F hc n hn rs hrs hle (h.mono ?_)
 intro x s h
 cases x with
 |normal=>exact ⟨.inl rfl,h⟩
 |ret=>exact ⟨.inr rfl,h⟩
 |_=>exact h.elim
/-! ### the condition of code,step by step -/
section
variable {P:Program} {tt:AJ} {G:FuncId→BB} {sz base:Nat} {BA:List Nat} {Q:Exit→SS→Prop} {K:SS→Prop} {s:SS} {a b:Code} {id j:Nat} {ops:Array Oper} {all os:List Oper} {o:Oper} {x:Operand}
theorem fW:vc P tt G sz base BA .skip Q s=Q .normal s:=rfl
theorem pN:vc P tt G sz base BA (.region id ops false) Q s=OD tt G ops.toList ops.toList (XO BA Q) s:=rfl
theorem gU:vc P tt G sz base BA (.region id ops true) Q s=(if J4 BA id=true then CW P sz base (.region id ops true) s Q else Jd tt G ops.toList ops.toList (XO BA Q) s):=by
 show (match J4 BA id with | true=>_ | false=>_)=_
 cases J4 BA id <;> simp
theorem Tf {g:Bool}{A B:Prop}:((g=true→A)∧(g=false→B))=(if g=true then A else B):=by
 cases g <;> simp
/-- two ways -/
structure Ms (v:Bool) (K1 K2:SS→Prop) (s:SS):Prop where
 h1:v=true→K1 s
 h2:v=false→K2 s
theorem dM {K1 K2:SS→Prop}:Ms true K1 K2 s=K1 s:=propext ⟨fun h=>h.h1 rfl,fun h=>⟨fun _=>h,fun e=>by cases e⟩⟩
theorem jU {K1 K2:SS→Prop}:Ms false K1 K2 s=K2 s:=propext ⟨fun h=>h.h2 rfl,fun h=>⟨fun e=>(by cases e),fun _=>h⟩⟩
/-- the condition of code,not looked into yet -/
structure Vc (P:Program) (tt:AJ) (G:FuncId→BB) (sz base:Nat) (BA:List Nat) (c:Code) (Q:Exit→SS→Prop) (s:SS):Prop where
 h:vc P tt G sz base BA c Q s
theorem Vc.mk' (h:vc P tt G sz base BA a Q s):Vc P tt G sz base BA a Q s:=⟨h⟩
theorem ij:vc P tt G sz base BA (.seq a b) Q s=vc P tt G sz base BA a (JB (Vc P tt G sz base BA b Q) Q) s:=by
 have:vc P tt G sz base BA b Q=Vc P tt G sz base BA b Q:=funext fun s=>propext ⟨fun h=>⟨h⟩,fun h=>h.h⟩
 rw [←this];rfl
theorem e8:vc P tt G sz base BA (.cond x a b) Q s=(av s.fr x∧Uz (Bk s.fr x).1∧Ms (Bz (Bk s.fr x).1) (vc P tt G sz base BA a Q) (vc P tt G sz base BA b Q) s):=
 propext ⟨fun ⟨h1,h2,h3,h4⟩=>⟨h1,h2,⟨h3,h4⟩⟩,fun ⟨h1,h2,h3⟩=>⟨h1,h2,h3.h1,h3.h2⟩⟩
theorem Z3:vc P tt G sz base BA (.block id b) Q s=vc P tt G sz base BA b (F3 id Q) s:=rfl
theorem dn:vc P tt G sz base BA (.loop b) Q s=CW P sz base (.loop b) s Q:=rfl
theorem eO:vc P tt G sz base BA (.exit id) Q s=Q (.exit id) s:=rfl
theorem oL:vc P tt G sz base BA .ret Q s=Q .ret s:=rfl
theorem ag:vc P tt G sz base BA (.label id) Q s=Q .normal s:=rfl
theorem bn:OD tt G all [] K s=K s:=rfl
theorem Vz:OD tt G all (o :: os) K s=((Aa all s.fr o.guard).2∧NK tt G (Aa all s.fr o.guard).1 o s (OD tt G all os K)):=rfl
theorem aH:Jd tt G all [] K s=K s:=rfl
theorem XC:Jd tt G all (o :: os) K s=((Aa all s.fr o.guard).2∧(match EJ G o.op with
  |true=>(if (Aa all s.fr o.guard).1=true then (B4 tt G s.fr s.hp s.top o.op).ob∧
     Jd tt G all os K ⟨BW s.fr o.dst (B4 tt G s.fr s.hp s.top o.op).v true,s.hp.Am (B4 tt G s.fr s.hp s.top o.op).us,(B4 tt G s.fr s.hp s.top o.op).top⟩
    else Jd tt G all os K ⟨BW s.fr o.dst undef false,s.hp,s.top⟩)
  |false=>((Aa all s.fr o.guard).1=true→(pv tt G s.fr s.hp o.op).2)∧Jd tt G all os K ⟨BW s.fr o.dst (pv tt G s.fr s.hp o.op).1 (Aa all s.fr o.guard).1,s.hp,s.top⟩)):=by
 rw [←Tf];rfl
theorem eH:JB K Q .normal s=K s:=rfl
theorem iM:JB K Q .ret s=Q .ret s:=rfl
theorem gC:JB K Q (.exit j) s=Q (.exit j) s:=rfl
theorem Xp:F3 id Q .normal s=Q .normal s:=rfl
theorem Xq:F3 id Q .ret s=Q .ret s:=rfl
theorem YI:F3 id Q (.exit j) s=(if j=id then Q .normal s else Q (.exit j) s):=rfl
theorem ic:XO BA Q s=Q .normal ⟨Ek s.fr BA,s.hp,s.top⟩:=rfl
theorem nt {rs:List ResultVar}{post:Value→Hp→Nat→Prop}:dj tt rs post .normal s=(Ei tt s.fr s.hp rs∧post (Gb (IC tt s.fr s.hp rs)) s.hp s.top):=rfl
theorem nf {rs:List ResultVar}{post:Value→Hp→Nat→Prop}:dj tt rs post .ret s=(Ei tt s.fr s.hp rs∧post (Gb (IC tt s.fr s.hp rs)) s.hp s.top):=rfl
theorem YT {g:Bool}:NK tt G g o s K=(match o.op with
  | .call {callee:= .value f,args, ..}=>SD G s.fr s.hp s.top g f args.toList o.dst K
  | .range t x=>if g=true then av s.fr x∧N3 tt t=true∧(Hm s.hp (Bk s.fr x).1).isSome=true∧K ⟨BW s.fr o.dst (.pointer (some ⟨s.top,0,none⟩)) true,s.hp.Am [(s.top,jy (Hm s.hp (Bk s.fr x).1))],s.top+1⟩
    else K ⟨BW s.fr o.dst undef false,s.hp,s.top⟩
  | .next it str=>if g=true then av s.fr it∧str=false∧lV K s.fr s.hp s.top o.dst (Bk s.fr it).1 else K ⟨BW s.fr o.dst undef false,s.hp,s.top⟩
  | .entry it=>if g=true then av s.fr it∧(KB s.hp (Bk s.fr it).1).isSome=true∧K ⟨BW s.fr o.dst (iV (KB s.hp (Bk s.fr it).1)) true,s.hp,s.top⟩ else K ⟨BW s.fr o.dst undef false,s.hp,s.top⟩
  |op=>match EU op with
   |true=>if g=true then (Cw tt s.fr s.hp s.top op).ob∧K ⟨BW s.fr o.dst (Cw tt s.fr s.hp s.top op).v true,s.hp.Am (Cw tt s.fr s.hp s.top op).us,(Cw tt s.fr s.hp s.top op).top⟩
     else K ⟨BW s.fr o.dst undef false,s.hp,s.top⟩
   |false=>(g=true→(Hv tt s.fr s.hp op).2)∧K ⟨BW s.fr o.dst (Hv tt s.fr s.hp op).1 g,s.hp,s.top⟩):=by
 simp only [←Tf]
 rfl
theorem Xd {fr:Bl}{hp:Hp}{top:Nat}{g:Bool}{f:Operand}{args:List Operand}{dst:Option Nat}:SD G fr hp top g f args dst K=(match G (BX fr f).1 with
  | .none=>False
  | .pure pre res=>(g=true→(BX fr f).2.1=true∧Qv fr args∧pre ((BX fr f).2.2.1 ++ IZ fr args ++ (BX fr f).2.2.2) hp)∧
   K ⟨BW fr dst (res ((BX fr f).2.2.1 ++ IZ fr args ++ (BX fr f).2.2.2) hp) g,hp,top⟩
  | .eff pre post=>if g=true then (BX fr f).2.1=true∧Qv fr args∧pre ((BX fr f).2.2.1 ++ IZ fr args ++ (BX fr f).2.2.2) hp top∧
   (∀v hp' top',post ((BX fr f).2.2.1 ++ IZ fr args ++ (BX fr f).2.2.2) hp top v hp' top'→sM K ⟨BW fr dst v true,hp',top'⟩)
   else K ⟨BW fr dst undef false,hp,top⟩
  | .det pre res=>if g=true then (BX fr f).2.1=true∧Qv fr args∧pre ((BX fr f).2.2.1 ++ IZ fr args ++ (BX fr f).2.2.2) hp top∧
   K ⟨BW fr dst (res ((BX fr f).2.2.1 ++ IZ fr args ++ (BX fr f).2.2.2) hp top).1 true,hp.Am (res ((BX fr f).2.2.1 ++ IZ fr args ++ (BX fr f).2.2.2) hp top).2.1,(res ((BX fr f).2.2.1 ++ IZ fr args ++ (BX fr f).2.2.2) hp top).2.2⟩
   else K ⟨BW fr dst undef false,hp,top⟩):=by
 simp only [←Tf]
 rfl
end
/-! ### names below the base stay,the others by a list -/
def rn (base:Nat)(bs:List Nat)(z j:Nat):Nat:=if j < base then j else (bs[j - base]?).getD z
theorem AP {base:Nat}{bs:List Nat}{z j:Nat}(h:j < base):rn base bs z j=j:=if_pos h
theorem Gw (base:Nat)(bs:List Nat)(z i:Nat):rn base bs z (base+i)=(bs[i]?).getD z:=by
 unfold rn
 rw [if_neg (by omega),Nat.add_sub_cancel_left]
theorem BG (base:Nat)(bs:List Nat)(z:Nat):rn base bs z base=(bs[0]?).getD z:=Gw base bs z 0
theorem T6 {base:Nat}{bs:List Nat}{z j:Nat}(h:base+bs.length≤j):rn base bs z j=z:=by
 unfold rn
 rw [if_neg (by omega),List.getElem?_eq_none (by omega)];rfl
theorem X1 {base:Nat}{bs:List Nat}{z:Nat}(hn:bs.Nodup)(hb:∀b∈bs,base≤b):∀i j,i < base+bs.length→j < base+bs.length→rn base bs z i=rn base bs z j→i=j:=by
 intro i j hi hj e
 unfold rn at e
 split at e
 ·split at e
  ·exact e
  ·rw [List.getElem?_eq_getElem (by omega),Option.getD_some] at e
   have:=hb _ (List.getElem_mem (show j - base < bs.length by omega))
   omega
 ·rw [List.getElem?_eq_getElem (show i - base < bs.length by omega),Option.getD_some] at e
  split at e
  ·have:=hb _ (List.getElem_mem (show i - base < bs.length by omega))
   omega
  ·rw [List.getElem?_eq_getElem (show j - base < bs.length by omega),Option.getD_some] at e
   have hp:=List.pairwise_iff_getElem.1 hn
   rcases Nat.lt_trichotomy (i - base) (j - base) with h | h | h
   ·exact absurd e (hp _ _ (by omega) (by omega) h)
   ·omega
   ·exact absurd e.symm (hp _ _ (by omega) (by omega) h)
/-! ### memory whose values name only what is below a bound -/
mutual
def Sc (n:Nat):Value→Prop
 | .pointer (some ⟨b,_,_⟩)=>b < n
 | .slice (some ⟨b,_,none⟩) _ _=>b < n
 | .map (some b)=>b < n
 | .agg ⟨l⟩=>E5 n l
 | .tuple ⟨l⟩=>E5 n l
 | .iface _ v=>Sc n v
 | .func _ ⟨a⟩ ⟨b⟩=>E5 n a∧E5 n b
 |_=>True
def E5 (n:Nat):List Value→Prop
 | []=>True
 |v :: l=>Sc n v∧E5 n l
end
def uQ (n:Nat):Av→Prop
 | .cells _ _ vs=>E5 n vs
 | .map es _=> ∀e∈es,Sc n e.key∧Sc n e.val
 | .iter _ _=>True
 | .miter m _ _ _=>m < n
 | .raw _ _=>True
mutual
theorem Sc.A3 {n:Nat}{ρ:Nat→Nat}(hρ:∀j,j < n→ρ j=j):∀ {v:Value},Sc n v→A3 ρ v=v
 | .bool _,_=>rfl
 | .int _ _,_=>rfl
 | .float _ _,_=>rfl
 | .complex _ _ _,_=>rfl
 | .string _,_=>rfl
 | .pointer none,_=>rfl
 | .pointer (some ⟨b,o,s⟩),h=>by simp only [Dm.A3,hρ b h]
 | .slice none _ _,_=>rfl
 | .slice (some ⟨b,o,none⟩) _ _,h=>by simp only [Dm.A3,hρ b h]
 | .slice (some ⟨b,o,some s⟩) _ _,_=>by unfold Dm.A3;rfl
 | .map none,_=>rfl
 | .map (some b),h=>by simp only [Dm.A3,hρ b h]
 | .chan _,_=>rfl
 | .func _ ⟨a⟩ ⟨b⟩,h=>by simp only [Dm.A3,E5.A3 hρ h.1,E5.A3 hρ h.2]
 | .nilFunc,_=>rfl
 | .iface _ v,h=>by simp only [Dm.A3,Sc.A3 hρ (v:=v) h]
 | .nilIface,_=>rfl
 | .agg ⟨l⟩,h=>by simp only [Dm.A3,E5.A3 hρ (l:=l) h]
 | .tuple ⟨l⟩,h=>by simp only [Dm.A3,E5.A3 hρ (l:=l) h]
theorem E5.A3 {n:Nat}{ρ:Nat→Nat}(hρ:∀j,j < n→ρ j=j):∀ {l:List Value},E5 n l→Bi ρ l=l
 | [],_=>rfl
 |v :: l,h=>by simp only [Dm.Bi,Sc.A3 hρ h.1,E5.A3 hρ h.2]
end
theorem uQ.A3 {n:Nat}{ρ:Nat→Nat}(hρ:∀j,j < n→ρ j=j){o:Av}(h:uQ n o):Hj ρ o=o:=by
 cases o with
 |cells rw BD vs=>simp only [Hj,E5.A3 hρ h]
 |map es clk=>
  simp only [Hj]
  congr 1
  rw [List.map_congr_left (g:=id)]
  ·simp
  ·intro e he
   obtain ⟨h1,h2⟩:=h e he
   simp only [fX,Sc.A3 hρ h1,Sc.A3 hρ h2,id]
 |iter s p=>rfl
 |miter m since seen c=>simp only [Hj];rw [hρ m h]
 |raw b vs=>rfl
mutual
theorem V.sc {φ:Ren}{n:Nat}(hn:∀j,n≤j→φ j=none):∀ {v x:Value},V φ v x→Sc n v
 |_,_, .bool _=>trivial
 |_,_, .int _ _=>trivial
 |_,_, .str _=>trivial
 |_,_, .nilp=>trivial
 |_,_, .ptr i o L h=>by
  rcases Nat.lt_or_ge i n with h' | h'
  ·exact h'
  ·rw [hn i h'] at h;cases h
 |_,_, .nils=>trivial
 |_,_, .slice i o m c c' L h _ _ _=>by
  rcases Nat.lt_or_ge i n with h' | h'
  ·exact h'
  ·rw [hn i h'] at h;cases h
 |_,_, .emp _ _=>trivial
 |_,_, .nilm=>trivial
 |_,_, .map i L h=>by
  rcases Nat.lt_or_ge i n with h' | h'
  ·exact h'
  ·rw [hn i h'] at h;cases h
 |_,_, .func _ _ _ _ _ ha hb=>⟨Vs.sc hn ha,Vs.sc hn hb⟩
 |_,_, .nilf=>trivial
 |_,_, .iface _ v _ h=>(V.sc hn h:Sc n v)
 |_,_, .nili=>trivial
 |_,_, .agg _ _ h=>Vs.sc hn h
 |_,_, .tuple _ _ h=>Vs.sc hn h
theorem Vs.sc {φ:Ren}{n:Nat}(hn:∀j,n≤j→φ j=none):∀ {l m:List Value},Vs φ l m→E5 n l
 |_,_, .nil=>trivial
 |_,_, .cons _ _ _ _ hx hl=>⟨V.sc hn hx,Vs.sc hn hl⟩
end
theorem Es.sc {φ:Ren}{n:Nat}(hn:∀j,n≤j→φ j=none):∀ {l m:List MapEntry},Es φ l m→∀e∈l,Sc n e.key∧Sc n e.val
 |_,_, .nil,e,he=>by cases he
 |_,_, .cons a _ l _ hx hl,e,he=>by
  cases he with
  |head=>exact ⟨V.sc hn hx.key,V.sc hn hx.val⟩
  |tail _ h=>exact Es.sc hn hl e h
/-- memory that is closed below a bound -/
structure Cl (hp:Hp) (n:Nat):Prop where
 lt:∀i o,hp i=some o→i < n
 sc:∀i o,hp i=some o→uQ n o
theorem HR.cl {φ:Ren}{own:Nat→Prop}{hp:Hp}{w:World}{n:Nat}(H:HR φ own hp w)(hn:∀j,n≤j→φ j=none):Cl hp n:=by
 refine ⟨fun i o e=>H.lt hn e,fun i o e=> ?_⟩
 obtain ⟨L,h1,h2⟩:=H.obj i o e
 cases o with
 |cells rw BD vs=>obtain ⟨_,_,_,_,_,_,_,h3,_⟩:=h2;exact Vs.sc hn h3
 |map es clk=>obtain ⟨es',_,h3⟩:=h2;exact fun e he=>Es.sc hn h3 e he
 |iter s p=>trivial
 |miter m since seen c=>
  obtain ⟨_,M,h1,_⟩:=h2
  show m < n
  rcases Nat.lt_or_ge m n with h | h
  ·exact h
  ·rw [hn m h] at h1;cases h1
 |raw b vs=>trivial
/-- a function whose arguments and memory are closed below the top -/
theorem AK.closed {P:Program}{f:FuncId}{args:List Value}{hp:Hp}{top:Nat}{post:Value→Hp→Nat→Prop}(h:Cl hp top→E5 top args→AK P f args hp top post):AK P f args hp top post:=by
 intro φ own w args' ha H htop
 exact h (H.cl htop) (Vs.sc htop ha) φ own w args' ha H htop
/-- memory that was,but for some blocks -/
theorem lX {hp h1:Hp}{base:Nat}{ρ:Nat→Nat}(hcl:Cl hp base)(hlow:∀j,j < base→ρ j=j)(us:BP)
  (hk:∀i,i < base→(∀p∈us,p.1≠i)→h1 i=hp i) (hu:∀p∈us,∀o,p.2=some o→h1 (ρ p.1)=some (Hj ρ o)) :
  ∀i o,(hp.Am us) i=some o→h1 (ρ i)=some (Hj ρ o):=by
 have key:∀(us:BP) (hp:Hp) i o,(hp.Am us) i=some o→(∃p∈us,p.1=i∧p.2=some o)∨((∀p∈us,p.1≠i)∧hp i=some o):=by
  intro us
  induction us with
  |nil=>intro hp i o h;exact .inr ⟨fun _ h=>(by cases h),h⟩
  |cons p us ih=>
   intro hp i o h
   obtain ⟨a,x⟩:=p
   rw [Dj] at h
   rcases ih _ i o h with ⟨p,h1,h2,h3⟩ | ⟨h1,h2⟩
   ·exact .inl ⟨p,List.mem_cons_of_mem _ h1,h2,h3⟩
   ·by_cases e:i=a
    ·subst e
     rw [AB] at h2
     exact .inl ⟨(i,x),List.mem_cons_self ..,rfl,h2⟩
    ·rw [BH _ _ _ _ e] at h2
     refine .inr ⟨?_,h2⟩
     intro p hp'
     cases hp' with
     |head=>exact fun e'=>e e'.symm
     |tail _ h=>exact h1 p h
 intro i o h
 rcases key us hp i o h with ⟨p,h2,h3,h4⟩ | ⟨h2,h3⟩
 ·subst h3;exact hu p h2 o h4
 ·have hi:=hcl.lt i o h3
  rw [hlow i hi,hk i hi h2,h3,uQ.A3 hlow (hcl.sc i o h3)]
theorem set_set (hp:Hp)(i:Nat)(a b:Option Av):(hp.set i a).set i b=hp.set i b:=by
 funext j;unfold Hp.set;split <;> rfl
/-- memory below a bound is as it was,but for some blocks -/
def AH (n:Nat)(ks:List Nat)(h1 hp:Hp):Prop:= ∀i,i < n→i ∉ ks→h1 i=hp i
theorem AH.refl (n:Nat)(ks:List Nat)(hp:Hp):AH n ks hp hp=True:=eq_true fun _ _ _=>rfl
theorem AH.set {n:Nat}{ks:List Nat}{h1 hp:Hp}{b:Nat}{o:Option Av}(hb:n≤b):AH n ks (h1.set b o) hp=AH n ks h1 hp:=by
 refine propext ⟨fun h i hi hk=> ?_,fun h i hi hk=> ?_⟩
 ·have:=h i hi hk;rwa [BH _ _ _ _ (by omega)] at this
 ·rw [BH _ _ _ _ (by omega)];exact h i hi hk
theorem AH.Aw {n:Nat}{ks:List Nat}{h1 hp:Hp}{b:Nat}{o:Option Av}(hb:b∈ks):AH n ks (h1.set b o) hp=AH n ks h1 hp:=by
 refine propext ⟨fun h i hi hk=> ?_,fun h i hi hk=> ?_⟩
 ·have:=h i hi hk;rwa [BH _ _ _ _ (fun e=>hk (by rw [e];exact hb))] at this
 ·rw [BH _ _ _ _ (fun e=>hk (by rw [e];exact hb))];exact h i hi hk
theorem AH.nil {n:Nat}{h1 hp:Hp}(h:AH n [] h1 hp):∀i,i < n→h1 i=hp i:=fun i hi=>h i hi (by simp)
def KC (ρ:Nat→Nat):Option Av→Option Av
 |none=>none
 |some o=>some (Hj ρ o)
/-- the blocks that are told lie where they should -/
def AA (ρ:Nat→Nat)(h1:Hp)(us:BP):Prop:= ∀p∈us,p.2=none∨h1 (ρ p.1)=KC ρ p.2
theorem AA.nil {ρ:Nat→Nat}{h1:Hp}:AA ρ h1 [] = True:=eq_true fun p h=>by cases h
theorem AA.cons {ρ:Nat→Nat}{h1:Hp}{b:Nat}{o:Option Av}{us:BP}:AA ρ h1 ((b,o) :: us)=((o=none∨h1 (ρ b)=KC ρ o)∧AA ρ h1 us):=by
 simp [AA]
theorem AA.get {ρ:Nat→Nat}{h1:Hp}{us:BP}(h:AA ρ h1 us):∀p∈us,∀o,p.2=some o→h1 (ρ p.1)=some (Hj ρ o):=by
 intro p hp o e
 rcases h p hp with h | h
 ·rw [h] at e;cases e
 ·rw [h,e];rfl
theorem BJ {ρ:Nat→Nat}{o:Av}:KC ρ (some o)=some (Hj ρ o):=rfl
theorem BI {ρ:Nat→Nat}{rw:Bool}{z:Nat}{vs:List Value}:Hj ρ (.cells rw z vs)= .cells rw z (Bi ρ vs):=rfl
theorem rh {ρ:Nat→Nat}{es:List MapEntry}{clk:Nat}:Hj ρ (.map es clk)= .map (es.map (fX ρ)) clk:=rfl
/-- a function's end:what it hands back,under canonical names -/
structure qy (hp:Hp) (top:Nat) (bs:List Nat) (r:Value×BP×Nat) (v1:Value) (h1:Hp) (top1:Nat):Prop where
 nodup:bs.Nodup
 ge:∀b∈bs,top≤b
 tp:r.2.2=top+bs.length
 v:v1=A3 (rn top bs top1) r.1
 BA:AH top (r.2.1.map (·.1)) h1 hp
 H8:AA (rn top bs top1) h1 r.2.1
theorem AK.Ci {P:Program}{f:FuncId}{args:List Value}{hp:Hp}{top:Nat}{r:Value×BP×Nat}
  (h:Cl hp top→E5 top args→AK P f args hp top fun v1 h1 top1=>top≤top1∧∃bs,qy hp top bs r v1 h1 top1) :
  AK P f args hp top fun v hp' top'=>v=r.1∧hp' = hp.Am r.2.1∧top' = r.2.2:=by
 intro φ own w args' ha H htop
 have hcl:=H.cl htop
 refine (h hcl (Vs.sc htop ha) φ own w args' ha H htop).mono ?_
 rintro e w' ⟨v1,h1,top1,v',φ1,rfl,⟨ht,bs,R⟩,W⟩
 have hlow:∀j,j < top→rn top bs top1 j=j:=fun j hj=>AP hj
 have hhigh:∀j,r.2.2≤j→top1≤rn top bs top1 j:=fun j hj=>by rw [T6 (by rw [←R.tp];exact hj)];exact Nat.le_refl _
 refine ⟨r.1,hp.Am r.2.1,r.2.2,v',φ1.via (rn top bs top1),rfl,⟨rfl,rfl,rfl⟩,⟨?_, ?_, ?_,W.k, ?_⟩⟩
 ·intro i L e
  have hi:i < top:=by
   rcases Nat.lt_or_ge i top with h | h
   ·exact h
   ·rw [htop i h] at e;cases e
  unfold Ren.via
  rw [hlow i hi];exact W.le _ _ e
 ·refine V.C9 ?_
  rw [←R.v];exact W.v
 ·refine W.hr.C9 W.top hhigh (by rw [R.tp];exact X1 R.nodup R.ge) ?_
  exact lX hcl hlow r.2.1 (fun i hi hk=>R.BA i hi (fun hm=>by obtain ⟨p,h1,h2⟩:=List.mem_map.1 hm;exact hk p h1 h2)) R.H8.get
 ·intro j hj
  exact W.top _ (hhigh j hj)
theorem A4.Ci {P:Program}{f:FuncId}{fn:Func}(F:Ah P f fn){pre:List Value→Hp→Nat→Prop}{res:List Value→Hp→Nat→Value×BP×Nat}
  (h:∀args hp top,pre args hp top→Cl hp top→E5 top args→AK P f args hp top fun v1 h1 top1=>top≤top1∧∃bs,qy hp top bs (res args hp top) v1 h1 top1):A4 P f (.det pre res):=
 ⟨⟨fn,F.toFTOk⟩,fun args hp top hp0=>AK.Ci (h args hp top hp0)⟩
/-- a canonical state behind another one -/
theorem Ar.mk' {hp h1:Hp}{base:Nat}(bs:List Nat)(hcl:Cl hp base){fr' fr:Bl}{us:BP}{n top:Nat}
  (nodup:bs.Nodup) (ge:∀b∈bs,base≤b) (hn:n=bs.length)
  (hfr:∀t v,Fi fr' t=some v→Fi fr t=some (A3 (rn base bs top) v))
  (BA:AH base (us.map (·.1)) h1 hp)
  (H8:AA (rn base bs top) h1 us) :
  ∃ρ,Ar ρ base ⟨fr',hp.Am us,base+n⟩ ⟨fr,h1,top⟩:=by
 subst hn
 have hlow:∀j,j < base→rn base bs top j=j:=fun j hj=>AP hj
 exact ⟨rn base bs top,hlow,fun j hj=>by rw [T6 hj];exact Nat.le_refl _,X1 nodup ge,hfr,lX hcl hlow us (fun i hi hk=>BA i hi (fun hm=>by obtain ⟨p,h1,h2⟩:=List.mem_map.1 hm;exact hk p h1 h2)) H8.get⟩
theorem A4.Hg {P:Program}{f:FuncId}{fn:Func}(F:Ah P f fn){pre:List Value→Hp→Prop}{res:List Value→Hp→Value}(hr:∀args hp,pre args hp→plain 3 (res args hp)=true)
  (h:∀args hp,pre args hp→∀top,Cl hp top→E5 top args→AK P f args hp top fun v hp' _=>v=res args hp∧AH top [] hp' hp):A4 P f (.pure pre res):=
 .ov F hr fun args hp h0 top φ own w args' ha H htop=>(h args hp h0 top (H.cl htop) (Vs.sc htop ha) φ own w args' ha H htop).mono fun _ _ ⟨v,hp',top',v',φ',e,⟨h1,h2⟩,W⟩=>⟨v,hp',top',v',φ',e,⟨h1,h2.nil⟩,W⟩
theorem N5 {k:IntKind}{n:Int}(h:(if k.signed then -(2 ^ (k.bits - 1):Int) else 0)≤n)(h2:n < (if k.signed then 2 ^ (k.bits - 1) else 2 ^ k.bits:Int)):AL k n=n:=by
 rw [CI]
 unfold IntKind.wrap
 cases k <;> simp [IntKind.signed,IntKind.bits] at h h2 ⊢ <;> omega
theorem wrap64 {n:Int}(h: -9223372036854775808≤n)(h2:n < 9223372036854775808):AL .i64 n=n:=N5 (by simpa [IntKind.signed,IntKind.bits] using h) (by simpa [IntKind.signed,IntKind.bits] using h2)
theorem Fp {k n:Nat}(h:k < n)(hn:n≤9223372036854775807):AL .i64 ((k:Int)+1)=((k+1:Nat):Int):=by
 rw [wrap64 (by omega) (by omega)];omega
theorem B8 {b n:Nat}(hb:b < n){hp:Hp}{i:Nat}{o:Option Av}(hi:n≤i):(hp.set i o) b=hp b:=BH _ _ _ _ (by omega)
theorem nv {k:IntKind}{n:Int}:Value.oneCell' (.int k n)=true:=rfl
theorem gR {b:Bool}:Value.oneCell' (.bool b)=true:=rfl
theorem mN {s:ByteArray}:Value.oneCell' (.string s)=true:=rfl
theorem ox {a:Option Addr}:Value.oneCell' (.pointer a)=true:=rfl
theorem bW {a:Option Addr}{n c:Nat}:Value.oneCell' (.slice a n c)=true:=rfl
theorem oa {a:Option Nat}:Value.oneCell' (.map a)=true:=rfl
theorem ir {f:Fn}{a b:Array Value}:Value.oneCell' (.func f a b)=true:=rfl
theorem fY:Value.oneCell' .nilFunc=true:=rfl
theorem bK {t:TypeId}{v:Value}:Value.oneCell' (.iface t v)=true:=rfl
theorem jB:Value.oneCell' .nilIface=true:=rfl
theorem mj {l:List Value}:Ak (.agg ⟨l⟩)=l:=rfl
theorem mR {k:IntKind}{n:Int}:Ak (.int k n)= [.int k n]:=rfl
theorem fw {b:Bool}:Ak (.bool b)= [.bool b]:=rfl
theorem nH {s:ByteArray}:Ak (.string s)= [.string s]:=rfl
theorem oG {a:Option Addr}:Ak (.pointer a)= [.pointer a]:=rfl
theorem YS {a:Option Addr}{n c:Nat}:Ak (.slice a n c)= [.slice a n c]:=rfl
theorem oU {a:Option Nat}:Ak (.map a)= [.map a]:=rfl
theorem gV {f:Fn}{a b:Array Value}:Ak (.func f a b)= [.func f a b]:=rfl
theorem gD:Ak .nilFunc= [.nilFunc]:=rfl
theorem X2 {t:TypeId}{v:Value}:Ak (.iface t v)= [.iface t v]:=rfl
theorem dv:Ak .nilIface= [.nilIface]:=rfl
theorem mO {a b:Nat}(h:a≤b):Nat.ble a b=true:=Nat.ble_eq_true_of_le h
theorem Z8 {n:Nat}{v:Value}:(List.replicate n [v]).flatten=IV n v:=by simp [IV]
theorem uf {α:Type}{a:α}:List.replicate 1 a= [a]:=rfl
theorem vB {α:Type}{a:α}:List.replicate 2 a= [a,a]:=rfl
theorem vR {α:Type}{a:α}:List.replicate 3 a= [a,a,a]:=rfl
theorem vV {α:Type}{a:α}:List.replicate 4 a= [a,a,a,a]:=rfl
theorem Rx {cs xs:List Value}:Ad cs 0 xs=xs ++ cs.drop xs.length:=by simp [Ad]
theorem KH {c:Value}{cs xs:List Value}{n:Nat}:Ad (c :: cs) (n+1) xs=c :: Ad cs n xs:=by
 simp [Ad,Nat.add_right_comm]
theorem Q8 {c:Value}{cs xs:List Value}{n:Nat}:Ad (c :: cs) (1+n) xs=c :: Ad cs n xs:=by
 rw [Nat.add_comm];exact KH
theorem LN {cs:List Value}{v:Value}{n:Nat}(h:n < cs.length):Ad cs n [v] = cs.set n v:=by
 simp only [Ad,List.length_singleton]
 rw [List.set_eq_take_append_cons_drop,if_pos h];simp
theorem Zn {α:Type}{c:α}{l:List α}{n:Nat}:(c :: l)[1+n]? = l[n]? :=by rw [Nat.add_comm,List.getElem?_cons_succ]
theorem Wv {α:Type}{c:α}{l:List α}{n:Nat}:(c :: l).drop (1+n)=l.drop n:=by rw [Nat.add_comm,List.drop_succ_cons]
theorem qU {ρ:Nat→Nat}{k:IntKind}{l:List Int}:Bi ρ (l.map (Value.int k))=l.map (Value.int k):=by
 rw [FU,List.map_map];rfl
theorem s8 {ρ:Nat→Nat}{l:List Value}{i:Nat}{v:Value}:Bi ρ (l.set i v)=(Bi ρ l).set i (A3 ρ v):=by
 simp only [FU,List.map_set]
theorem KX (x y:Int):XS x y=decide (x=y):=by rw [PI];rfl
/-- frames,slot by slot -/
def Ac (ρ:Nat→Nat):Bl→Bl→Prop
 | [],_=>True
 | (t,v,g) :: l,fr=>Ba fr t=some (bif g then A3 ρ v else v,g)∧Ac ρ l fr
theorem AG {ρ:Nat→Nat}:∀ {fr' fr:Bl},Ac ρ fr' fr→∀t v,Fi fr' t=some v→Fi fr t=some (A3 ρ v):=by
 intro fr'
 induction fr' with
 |nil=>intro fr _ t v h;cases h
 |cons p l ih=>
  obtain ⟨j,x,g⟩:=p
  intro fr h t v hv
  obtain ⟨h1,h2⟩:=h
  simp only [Fi,Ba] at hv ⊢
  cases hb:Nat.beq j t with
  |true=>
   rw [hb] at hv
   have:=Nat.eq_of_beq_eq_true hb
   subst this
   cases hv
   rw [h1]
   cases g with
   |true=>rfl
   |false=>rfl
  |false=>
   rw [hb] at hv
   exact ih h2 t v hv
end Go.Dm
/- Slices of data:what they hold,as lists. -/
namespace Go.Dm
/-- how a datum lies in memory -/
structure Be (α:Type) where
 enc:α→List Value
 dec:List Value→α
 size:Nat
 h:∀a,dec (enc a)=a
 len:∀a,(enc a).length=size
 one:∀a,Ap (enc a)=true
/-- data without names of blocks -/
class Be.Plain {α:Type} (E:Be α):Prop where
 pl:∀a ρ,Bi ρ (E.enc a)=E.enc a
def Be.flat {α:Type}(E:Be α)(l:List α):List Value:=(l.map E.enc).flatten
def at' {α:Type}[Inhabited α](l:List α)(i:Nat):α:=(l[i]?).getD default
theorem Cd {α:Type}[Inhabited α](l:List α)(i:Nat)(h:i < l.length):at' l i=l[i]:=by simp [at',h]
section
variable {α:Type} {E:Be α}
theorem Be.DT:E.flat [] = []:=rfl
theorem Be.B6 (a:α)(l:List α):E.flat (a :: l)=E.enc a ++ E.flat l:=rfl
theorem Be.FF (l m:List α):E.flat (l ++ m)=E.flat l ++ E.flat m:=by simp [Be.flat]
theorem Be.Bc (l:List α):(E.flat l).length=l.length * E.size:=by
 induction l with
 |nil=>simp [Be.DT]
 |cons a l ih=>rw [Be.B6,List.length_append,E.len,ih,List.length_cons,Nat.succ_mul];omega
theorem Be.HE (l:List α):Ap (E.flat l)=true:=by
 have app:∀x y:List Value,Ap (x ++ y)=(Ap x && Ap y):=by
  intro x y
  induction x with
  |nil=>rfl
  |cons a x ih=>simp only [List.cons_append,Ap,ih,Bool.and_assoc]
 induction l with
 |nil=>rfl
 |cons a l ih=>rw [Be.B6,app,E.one,ih];rfl
theorem Be.bD [E.Plain](l:List α)(ρ:Nat→Nat):Bi ρ (E.flat l)=E.flat l:=by
 induction l with
 |nil=>rfl
 |cons a l ih=>rw [Be.B6,Ql,Be.Plain.pl,ih]
theorem Be.Jp (l:List α):∀i,(E.flat l).drop (i * E.size)=E.flat (l.drop i):=by
 induction l with
 |nil=>intro i;simp [Be.DT]
 |cons a l ih=>
  intro i
  cases i with
  |zero=>simp
  |succ i=>
   rw [Be.B6,show (i+1) * E.size=(E.enc a).length+i * E.size from by rw [E.len,Nat.succ_mul];omega,List.drop_append]
   rw [List.drop_eq_nil_of_le (by omega),List.nil_append,show (E.enc a).length+i * E.size - (E.enc a).length=i * E.size from by omega,ih]
   rfl
theorem Be.HY (l:List α):∀i,(E.flat l).take (i * E.size)=E.flat (l.take i):=by
 induction l with
 |nil=>intro i;simp [Be.DT]
 |cons a l ih=>
  intro i
  cases i with
  |zero=>simp [Be.DT]
  |succ i=>
   rw [Be.B6,show (i+1) * E.size=(E.enc a).length+i * E.size from by rw [E.len,Nat.succ_mul];omega,List.take_append]
   rw [List.take_of_length_le (by omega),show (E.enc a).length+i * E.size - (E.enc a).length=i * E.size from by omega,ih]
   rfl
theorem Be.JQ [Inhabited α](l:List α)(i:Nat)(h:i < l.length):((E.flat l).drop (i * E.size)).take E.size=E.enc (at' l i):=by
 rw [Be.Jp,List.drop_eq_getElem_cons h,Be.B6,List.take_append,List.take_of_length_le (by rw [E.len];omega),E.len,Nat.sub_self,List.take_zero,List.append_nil,Cd _ _ h]
end
/-- v is a slice of the data l -/
inductive BQ {α:Type} (E:Be α) (hp:Hp):Value→List α→Prop
 |nils:BQ E hp (.slice none 0 0) []
 |emp:BQ E hp (.slice (some ⟨0,0,some 0⟩) 0 0) []
 |rows (b o c:Nat) (rw:Bool) (vs:List Value) (l:List α) (hb:hp b=some (.cells rw E.size vs)) (hv:(vs.drop o).take (l.length * E.size)=E.flat l) (ho:o+l.length * E.size≤vs.length) (hc:l.length≤c) (hn:l.length≤9223372036854775807) :
   BQ E hp (.slice (some ⟨b,o,none⟩) l.length c) l
/-- where a cell of a slice lies -/
def BK (v:Value)(d:Nat):Value:=match v with
 | .slice (some ⟨b,o,none⟩) _ _=> .pointer (some ⟨b,o+d,none⟩)
 |_=>undef
def Be.rd {α:Type}(E:Be α)(hp:Hp)(v:Value):List α:=match v with
 | .slice (some ⟨b,o,none⟩) n _=>match hp b with
  |some (.cells _ _ vs)=>(List.range n).map fun i=>E.dec ((vs.drop (o+i * E.size)).take E.size)
  |_=> []
 |_=> []
section
variable {α:Type} [Inhabited α] {E:Be α} {hp:Hp} {v:Value} {l:List α} {tt:AJ} {t e:TypeId}
omit [Inhabited α] in
theorem BQ.le (h:BQ E hp v l):l.length≤9223372036854775807:=by cases h with
 |nils=>simp
 |emp=>simp
 |rows _ _ _ _ _ _ _ _ _ _ hn=>exact hn
omit [Inhabited α] in
theorem BQ.len (h:BQ E hp v l)(hk:kindOf tt t=some (.slice e)):Cy tt hp t v=(.int .i64 (l.length:Int),True):=by
 obtain ⟨i,hi,hd⟩:=AY hk
 cases h <;> (unfold Cy;simp [hk,Ex,hi,hd])
omit [Inhabited α] in
theorem BQ.PD (h:BQ E hp v l)(hk:kindOf tt t=some (.slice e)){hp':Hp}:Cy tt hp' t v=(.int .i64 (l.length:Int),True):=by
 obtain ⟨i,hi,hd⟩:=AY hk
 cases h <;> (unfold Cy;simp [hk,Ex,hi,hd])
theorem BQ.at (h:BQ E hp v l){i:Nat}(hi:i < l.length):∃b o c rw vs,v= .slice (some ⟨b,o,none⟩) l.length c∧hp b=some (.cells rw E.size vs)∧(vs.drop (o+i * E.size)).take E.size=E.enc (at' l i)∧o+(i+1) * E.size≤vs.length:=by
 cases h with
 |nils=>simp at hi
 |emp=>simp at hi
 |rows b o c rw vs l hb hv ho hc hn=>
  have h1:(i+1) * E.size≤l.length * E.size:=Nat.mul_le_mul_right _ hi
  refine ⟨b,o,c,rw,vs,rfl,hb, ?_,by omega⟩
  rw [←Be.JQ l i hi,←hv,List.drop_take,List.take_take,List.drop_drop]
  congr 1
  rw [Nat.succ_mul] at h1
  omega
theorem BQ.rd (h:BQ E hp v l):E.rd hp v=l:=by
 cases hh:h with
 |nils=>rfl
 |emp=>rfl
 |rows b o c rw vs l hb hv ho hc hn=>
  simp only [Be.rd,hb]
  apply List.ext_getElem
  ·simp
  ·intro i h1 h2
   obtain ⟨b',o',c',rw',vs',e1,e2,e3,e4⟩:=h.at h2
   cases e1
   rw [hb] at e2;cases e2
   simp only [List.getElem_map,List.getElem_range,e3,E.h,Cd _ _ h2]
theorem BQ.idx (h:BQ E hp v l){j:TI}(hk:kindOf tt t=some (.slice e))(hj:tt e=some j)(hs:j.size=E.size){k:IntKind}{n:Int}(h0:0≤n)(h1:n < l.length) :
  Al tt t v (.int k n)=(BK v (n.toNat * E.size),True):=by
 obtain ⟨b,o,c,rw,vs,rfl,hb,_⟩:=h.at (i:=n.toNat) (by omega)
 unfold Al
 simp [hk,hj,hs,BK,h0,h1]
theorem BQ.load (h:BQ E hp v l){j:TI}(hj:tt e=some j)(hs:j.size=E.size)(ha:F8 j.ud=true){i:Nat}(hi:i < l.length) :
  AZ tt hp e (BK v (i * E.size))=(.agg ⟨E.enc (at' l i)⟩,True):=by
 obtain ⟨b,o,c,rw,vs,rfl,hb,hrow,hlen⟩:=h.at hi
 unfold AZ
 rw [Nat.succ_mul] at hlen
 simp [BK,hj,hb,ha,hs,hrow]
 omega
theorem BQ.cell (h:BQ E hp v l){j:TI}(hj:tt e=some j)(ha:F8 j.ud=false){i f:Nat}(hi:i < l.length)(hf:f < E.size) :
  AZ tt hp e (BK v (i * E.size+f))=((E.enc (at' l i))[f]?.getD undef,True):=by
 obtain ⟨b,o,c,rw,vs,rfl,hb,hrow,hlen⟩:=h.at hi
 unfold AZ
 rw [Nat.succ_mul] at hlen
 have e1:vs[o+(i * E.size+f)]? = (E.enc (at' l i))[f]? :=by
  rw [←hrow,List.getElem?_take,List.getElem?_drop,if_pos hf,Nat.add_assoc]
 simp only [BK,hj,hb,ha,e1]
 simp only [Prod.mk.injEq,true_and,eq_iff_iff,iff_true]
 omega
/-- a sub-array of an element -/
theorem BQ.sub (h:BQ E hp v l){j:TI}(hj:tt e=some j)(ha:F8 j.ud=true){i f:Nat}(hi:i < l.length)(hf:f+j.size≤E.size) :
  AZ tt hp e (BK v (i * E.size+f))=(.agg ⟨((E.enc (at' l i)).drop f).take j.size⟩,True):=by
 obtain ⟨b,o,c,rw,vs,rfl,hb,hrow,hlen⟩:=h.at hi
 unfold AZ
 rw [Nat.succ_mul] at hlen
 have e1:(vs.drop (o+(i * E.size+f))).take j.size=((E.enc (at' l i)).drop f).take j.size:=by
  rw [←hrow,List.drop_take,List.take_take,List.drop_drop,Nat.min_eq_left (by omega),Nat.add_assoc]
 simp only [BK,hj,hb,ha,e1]
 simp only [Prod.mk.injEq,true_and,eq_iff_iff,iff_true]
 omega
theorem BQ.field (h:BQ E hp v l){i:Nat}(hi:i < l.length){s:TypeId}{f o d:Nat}(hf:∀b o,An tt s (.pointer (some ⟨b,o,none⟩)) f=some (.pointer (some ⟨b,o+d,none⟩))) :
  AX tt s (BK v o) f=(BK v (o+d),True):=by
 obtain ⟨b,o',c,rw,vs,rfl,hb,_⟩:=h.at hi
 unfold AX BK
 simp only [hf,Nat.add_assoc]
omit [Inhabited α] in
theorem BQ.mono {hp':Hp}(h:BQ E hp v l)(hs:∀b o n c,v= .slice (some ⟨b,o,none⟩) n c→hp' b=hp b):BQ E hp' v l:=by
 cases h with
 |nils=>exact .nils
 |emp=>exact .emp
 |rows b o c rw vs l hb hv ho hc hn=>exact .rows b o c rw vs l (by rw [hs _ _ _ _ rfl];exact hb) hv ho hc hn
omit [Inhabited α] in
theorem BQ.low (h:BQ E hp v l){n:Nat}(hcl:Cl hp n):Sc n v:=by
 cases h with
 |nils=>trivial
 |emp=>trivial
 |rows b o c rw vs l hb hv ho hc hn=>exact hcl.lt _ _ hb
omit [Inhabited α] in
theorem BQ.set (h:BQ E hp v l){n i:Nat}{o:Option Av}(hl:Sc n v)(hi:n≤i):BQ E (hp.set i o) v l:=by
 refine h.mono fun b o n' c e=> ?_
 subst e
 exact BH _ _ _ _ (by simp only [Sc] at hl;omega)
omit [Inhabited α] in
theorem BQ.Am (h:BQ E hp v l){n:Nat}(hl:Sc n v):∀(us:BP),(∀p∈us,n≤p.1)→BQ E (hp.Am us) v l:=by
 intro us
 induction us generalizing hp with
 |nil=>intro _;exact h
 |cons p us ih=>
  intro hu
  obtain ⟨i,o⟩:=p
  exact ih (h.set hl (hu _ (List.mem_cons_self ..))) fun q hq=>hu q (List.mem_cons_of_mem _ hq)
omit [Inhabited α] in
theorem BQ.A3 {n:Nat}{ρ:Nat→Nat}(_:BQ E hp v l)(hl:Sc n v)(hρ:∀j,j < n→ρ j=j):A3 ρ v=v:=Sc.A3 hρ hl
theorem Gf {tt:AJ}{hp:Hp}{v:Value}{n:Nat}(hl:Sc n v){i d:Nat}{o:Option Av}{t:TypeId}(hi:n≤i):AZ tt (hp.set i o) t (BK v d)=AZ tt hp t (BK v d):=by
 cases v with
 |slice a m c=>
  cases a with
  |none=>rfl
  |some a=>
   obtain ⟨b,q,s⟩:=a
   cases s with
   |some s=>rfl
   |none=>
   simp only [Sc] at hl
   have e:=BH hp i b o (by omega)
   simp only [BK,AZ]
   cases tt t <;> simp only [e]
 |_=>rfl
theorem rj {α:Type}{E:Be α}{l:List α}{tt:AJ}{hp hp0:Hp}{v:Value}{n:Nat}(h:BQ E hp0 v l)(hl:Sc n v){i:Nat}{o:Option Av}{t e:TypeId}{lo hi:Option Value}(hk:kindOf tt t=some (.slice e))(hi':n≤i):Bf tt (hp.set i o) t v lo hi=Bf tt hp t v lo hi:=by
 cases h with
 |nils=>unfold Bf;simp only [hk]
 |emp=>
  obtain ⟨i1,hi1,hd⟩:=AY hk
  unfold Bf
  simp only [hk,CV,hi1,hd]
 |rows b q c rw vs l hb hv ho hc hn=>
  simp only [Sc] at hl
  have e:=BH hp i b o (by omega)
  unfold Bf
  simp only [hk,e]
theorem Vq {tt:AJ}{hp:Hp}{t:TypeId}{b o:Nat}:AZ tt hp t (.pointer (some ⟨b,o,none⟩))=(match tt t with
  |some i=>match hp b with
   |some (.cells _ _ vs)=>match F8 i.ud with
    |true=>(.agg ⟨(vs.drop o).take i.size⟩,o+i.size≤vs.length)
    |false=>((vs[o]?).getD undef,o < vs.length)
   |_=>(undef,False)
  |none=>(undef,False)):=by
 unfold AZ
 cases tt t with
 |none=>rfl
 |some i=>rfl
theorem Tt {tt:AJ}{hp:Hp}{t:TypeId}{b o:Nat}{x:Value}:Ag tt hp t (.pointer (some ⟨b,o,none⟩)) x=(match tt t with
  |some i=>match hp b with
   |some (.cells true BD vs)=>([(b,some (.cells true BD (Ad vs o (Ak x))))],E3 x i.size∧o+i.size≤vs.length∧Ap (Ak x)=true)
   |_=>([],False)
  |none=>([],False)):=by
 unfold Ag
 cases tt t with
 |none=>rfl
 |some i=>rfl
theorem MQ {tt:AJ}{t:TypeId}{b o:Nat}{ix:Value}:Al tt t (.pointer (some ⟨b,o,none⟩)) ix=(match kindOf tt t with
  |some (.array len e)=>match tt e with
   |some j=>(.pointer (some ⟨b,o+(intOf ix).toNat * j.size,none⟩),HK ix∧0≤intOf ix∧intOf ix < (len:Int))
   |none=>(undef,False)
  |_=>(undef,False)):=by
 unfold Al
 cases kindOf tt t with
 |none=>rfl
 |some d=>cases d <;> rfl
/-- v is a slice of data -/
inductive KR {α:Type} (E:Be α) (hp:Hp) (v:Value):Prop
 |mk (l:List α) (h:BQ E hp v l)
theorem BQ.P {α:Type}{E:Be α}{hp:Hp}{v:Value}{l:List α}(h:BQ E hp v l):KR E hp v=True:=eq_true ⟨l,h⟩
theorem BQ.oc {α:Type}{E:Be α}{hp:Hp}{v:Value}{l:List α}(h:BQ E hp v l):Value.oneCell' v=true:=by cases h <;> rfl
theorem BQ.cl {α:Type}{E:Be α}{hp:Hp}{v:Value}{l:List α}(h:BQ E hp v l):Ak v= [v]:=by cases h <;> rfl
theorem BQ.back {α:Type}{E:Be α}{hp:Hp}{v:Value}{l:List α}{n i:Nat}{o:Option Av}(h:BQ E (hp.set i o) v l)(hl:Sc n v)(hi:n≤i):BQ E hp v l:=
 h.mono fun b q n' c e=>by subst e;exact (BH _ _ _ _ (by simp only [Sc] at hl;omega)).symm
theorem UY {α:Type}{E:Be α}{hp:Hp}{v:Value}{n:Nat}(hl:Sc n v){i:Nat}{o:Option Av}(hi:n≤i):KR E (hp.set i o) v=KR E hp v:=
 propext ⟨fun ⟨l,h⟩=>⟨l,h.back hl hi⟩,fun ⟨l,h⟩=>⟨l,h.set hl hi⟩⟩
theorem RL {α:Type}{E:Be α}{hp:Hp}{v:Value}{n:Nat}(hl:Sc n v){i:Nat}{o:Option Av}(hi:n≤i):E.rd (hp.set i o) v=E.rd hp v:=by
 cases v with
 |slice a m c=>
  cases a with
  |none=>rfl
  |some a=>
   obtain ⟨b,q,s⟩:=a
   cases s with
   |some s=>rfl
   |none=>
   simp only [Sc] at hl
   have e:=BH hp i b o (by omega)
   simp only [Be.rd,e]
 |_=>rfl
theorem Ko {tt:AJ}{t:TypeId}{b o n c:Nat}{ix:Value}:Al tt t (.slice (some ⟨b,o,none⟩) n c) ix=(match kindOf tt t with
  |some (.slice e)=>match tt e with
   |some j=>(.pointer (some ⟨b,o+(intOf ix).toNat * j.size,none⟩),HK ix∧0≤intOf ix∧intOf ix < (n:Int))
   |none=>(undef,False)
  |_=>(undef,False)):=by
 unfold Al
 cases kindOf tt t with
 |none=>rfl
 |some d=>cases d <;> rfl
/-! ### parts of a slice -/
def KN (sz:Nat)(v:Value)(a b:Nat):Value:=match v with
 | .slice (some ⟨k,o,none⟩) _ c=> .slice (some ⟨k,o+a * sz,none⟩) (b - a) (c - a)
 |v=>v
omit [Inhabited α] in
theorem BQ.nT (h:BQ E hp v l){j:TI}(hk:kindOf tt t=some (.slice e))(hj:tt e=some j){k:IntKind}{n:Int}(h0:0≤n)(h1:n≤l.length) :
  Bf tt hp t v none (some (.int k n))=(KN E.size v 0 n.toNat,True):=by
 cases h with
 |nils=>
  have:n=0:=by simp at h1;omega
  subst this
  simp [Bf,hk,hj,Cx,BT,KN]
 |emp=>
  have:n=0:=by simp at h1;omega
  subst this
  obtain ⟨i,hi,hd⟩:=AY hk
  have hb:DX none (some (.int k 0)) 0 0=some (0,0):=rfl
  simp [Bf,hk,KN,CV,hi,hd,hj,hb]
 |rows b o c rw vs l hb hv ho hc hn=>
  simp only [Bf,hk,hj,hb,Cx,BT,KN,OE,intOf_int,Nat.zero_mul,Nat.add_zero,Nat.sub_zero,true_and,Prod.mk.injEq,eq_iff_iff,iff_true]
  omega
omit [Inhabited α] in
theorem BQ.take (h:BQ E hp v l){n:Nat}(h1:n≤l.length):BQ E hp (KN E.size v 0 n) (l.take n):=by
 cases h with
 |nils=>simp [KN];exact .nils
 |emp=>simp [KN];exact .emp
 |rows b o c rw vs l hb hv ho hc hn=>
  have hl:(l.take n).length=n:=by rw [List.length_take];omega
  have h2:n * E.size≤l.length * E.size:=Nat.mul_le_mul_right _ h1
  have:=BQ.rows (E:=E) (hp:=hp) b o c rw vs (l.take n) hb (by rw [hl,←Be.HY,←hv,List.take_take,Nat.min_eq_left h2]) (by rw [hl];omega) (by omega) (by omega)
  rw [hl] at this
  simpa [KN] using this
end
/-- a slice's rest -/
def KQ (sz:Nat)(v:Value)(a:Nat):Value:=match v with
 | .slice (some ⟨k,o,none⟩) n c=>if a=0∨a < c then .slice (some ⟨k,o+a * sz,none⟩) (n - a) (c - a) else .slice (some ⟨0,0,some 0⟩) 0 0
 |v=>v
theorem BQ.o7 {α:Type}{E:Be α}{hp:Hp}{v:Value}{l:List α}{tt:AJ}{t e:TypeId}(h:BQ E hp v l){j:TI}(hk:kindOf tt t=some (.slice e))(hj:tt e=some j)(hs:j.size=E.size){k:IntKind}{n:Int}(h0:0≤n)(h1:n≤l.length) :
  Bf tt hp t v (some (.int k n)) none=(KQ E.size v n.toNat,True):=by
 cases h with
 |nils=>
  have:n=0:=by simp at h1;omega
  subst this
  simp [Bf,hk,hj,Cx,BT,KQ]
 |emp=>
  have:n=0:=by simp at h1;omega
  subst this
  obtain ⟨i,hi,hd⟩:=AY hk
  have hb:DX (some (.int k 0)) none 0 0=some (0,0):=rfl
  simp [Bf,hk,KQ,CV,hi,hd,hj,hb]
 |rows b o c rw vs l hb hv ho hc hn=>
  simp only [Bf,hk,hj,hb,Cx,BT,KQ,OE,intOf_int,hs,Int.toNat_natCast,true_and,Prod.mk.injEq,eq_iff_iff,iff_true,true_or,and_true]
  refine ⟨?_,by omega⟩
  by_cases hh:n.toNat=0∨n < (c:Int)
  ·rw [if_pos hh,if_pos (by omega)]
  ·rw [if_neg hh,if_neg (by omega)]
theorem BQ.drop {α:Type}{E:Be α}{hp:Hp}{v:Value}{l:List α}(h:BQ E hp v l){n:Nat}(h1:n≤l.length):BQ E hp (KQ E.size v n) (l.drop n):=by
 cases h with
 |nils=>simp [KQ];exact .nils
 |emp=>simp [KQ];exact .emp
 |rows b o c rw vs l hb hv ho hc hn=>
  simp only [KQ]
  have hl:(l.drop n).length=l.length - n:=by rw [List.length_drop]
  have h2:n * E.size≤l.length * E.size:=Nat.mul_le_mul_right _ h1
  split
  ·have e1:(l.length - n) * E.size=l.length * E.size - n * E.size:=by rw [Nat.sub_mul]
   have:=BQ.rows (E:=E) (hp:=hp) b (o+n * E.size) (c - n) rw vs (l.drop n) hb (by
    rw [hl,e1,←Be.Jp,←hv,List.drop_take,List.drop_drop]) (by rw [hl,e1];omega) (by omega) (by omega)
   rw [hl] at this
   exact this
  ·rename_i hh
   have:l.drop n= []:=List.drop_eq_nil_of_le (by omega)
   rw [this];exact .emp
/-! ### slices that are the function's own -/
def Ao {α:Type}(b:Nat)(l:List α):Value:=match l with
 | []=> .slice none 0 0
 |_ :: l=> .slice (some ⟨b,0,none⟩) (l.length+1) (l.length+1)
def Af {α:Type}(E:Be α)(l:List α):Option Av:=match l with
 | []=>none
 |a :: l=>some (.cells true E.size (E.flat (a :: l)))
section
variable {α:Type} {E:Be α} {hp:Hp} {b:Nat} {l:List α} {v:Value}
theorem Iy:Af E ([] :List α)=none:=rfl
theorem Xi {α:Type}{E:Be α}{l:List α}:pZ (Af E l)=True:=by cases l <;> exact eq_true (by first | trivial | rfl)
theorem JE:(Ao b ([] :List α))= .slice none 0 0:=rfl
theorem BQ.RM (h:hp b=Af E l)(hn:l.length≤9223372036854775807):BQ E hp (Ao b l) l:=by
 cases l with
 |nil=>exact .nils
 |cons a l=>
  have:=BQ.rows (E:=E) (hp:=hp) b 0 (l.length+1) true (E.flat (a :: l)) (a :: l) h (by rw [List.drop_zero,List.take_of_length_le];rw [Be.Bc];exact Nat.le_refl _) (by rw [Be.Bc];omega) (by simp) (by omega)
  simpa [Ao] using this
theorem BQ.own (h:hp b=Af E l)(hn:l.length≤16777216):BQ E hp (Ao b l) l:=BQ.RM h (by omega)
theorem Cs {ρ:Nat→Nat}:A3 ρ (Ao b l)=Ao (ρ b) l:=by cases l <;> rfl
theorem B0 [E.Plain]{ρ:Nat→Nat}:KC ρ (Af E l)=Af E l:=by
 cases l with
 |nil=>rfl
 |cons a l=>simp only [Af,KC,Hj,Be.bD]
/-- what an append does to memory -/
def DZ (b:Nat)(l:List α)(top:Nat)(o:Option Av):BP:=match l with
 | []=> [(top,o)]
 |_ :: _=> [(b,none),(top,o)]
theorem HH {top:Nat}{o:Option Av}(h:hp b=Af E l):hp.Am (DZ b l top o)=(hp.set b none).set top o:=by
 cases l with
 |nil=>
  have:hp.set b none=hp:=by
   funext i
   unfold Hp.set
   split
   ·rename_i e;rw [e,h];rfl
   ·rfl
  rw [this];rfl
 |cons a l=>rfl
theorem BQ.Fz (h:BQ E hp v l):Fz v=some l.length:=by cases h <;> rfl
theorem BQ.DJ (h:BQ E hp v l):DJ hp E.size l.length v=some (E.flat l):=by
 cases h with
 |nils=>simp [Dm.DJ,Be.DT]
 |emp=>simp [Dm.DJ,Be.DT]
 |rows b' o c rw vs l' hb' hv ho hc hn'=>
  simp only [Dm.DJ,hb',hv,Be.Bc,Nat.beq_refl]
/-- an append to a slice of one's own -/
theorem JG {tt:AJ}{top t0 t1 e:Nat}{i1 j:TI}{x:Value}{m:List α}(h0:kindOf tt t0=some (.slice e))(h1:tt t1=some i1)(hi:DK i1.ud=false)(hj:tt e=some j)(hs:j.size=E.size)(hby:Nat.ble j.bytes 65536=true)
  (h:hp b=Af E l) (hx:BQ E hp x m) (hn:CK (l.length+m.length) j.bytes=true) :
  Aj tt hp top [t0,t1] (Ao b l) x=some (Ao top (l ++ m),DZ b l top (Af E (l ++ m)),top+1):=by
 obtain ⟨i,hi0,hd⟩:=AY h0
 have hf:=hx.DJ
 have hlx:=hx.Fz
 cases l with
 |nil=>
  cases m with
  |nil=>
   simp only [List.length_nil] at hf hlx
   simp [Aj,hi0,h1,hlx,hi,hd,hj,hs,hf,hby,Be.DT,Ap,Ao,Af,DZ]
  |cons y m=>
   have h2:CK (y :: m).length j.bytes=true:=by simpa using hn
   have h3:=E.HE (y :: m)
   have h4:Nat.beq (E.flat (y :: m)).length ((y :: m).length * E.size)=true:=by rw [Be.Bc];simp
   have h5:Nat.beq (y :: m).length 0=false:=rfl
   simp only [List.length_cons] at hf hlx h2 h4 h5
   simp only [Aj,hi0,h1,hlx,hi,hd,hj,hs,hf,hby,h2,h3,h4,h5,Ao,Af,DZ,List.nil_append,Bool.and_self,Bool.true_and]
 |cons a l=>
  have hb:hp b=some (.cells true E.size (E.flat (a :: l))):=h
  have h3:=E.HE m
  have h4:Nat.beq (E.flat m).length (m.length * E.size)=true:=by rw [Be.Bc];simp
  have h5:Nat.beq E.size E.size=true:=by simp
  have h6:(Nat.ble (l.length+1+m.length) (l.length+1) && !Nat.beq (l.length+1) (l.length+1))=false:=by
   rw [Nat.beq_refl];simp
  have h7:(Nat.beq (0+(l.length+1) * E.size) (E.flat (a :: l)).length && CK (l.length+1+m.length) j.bytes)=true:=by
   rw [Bool.and_eq_true]
   exact ⟨by rw [Be.Bc];simp,hn⟩
  simp only [Aj,hi0,h1,hlx,hi,hd,hj,hs,hf,hby,hb,h3,h4,h5,h6,h7,Ao,Af,DZ,Bool.and_self,List.cons_append,List.drop_zero]
  simp only [List.length_append,Be.B6,Be.FF,List.append_assoc]
  have e1:l.length+1+m.length=l.length+m.length+1:=by omega
  rw [e1]
theorem J5 {tt:AJ}{top t0 t1 e:Nat}{i1 j:TI}{x:Value}{m:List α}(h0:kindOf tt t0=some (.slice e))(h1:tt t1=some i1)(hi:DK i1.ud=false)(hj:tt e=some j)(hs:j.size=E.size)(hby:Nat.ble j.bytes 65536=true)
  (h:hp b=Af E l) (hx:BQ E hp x m) (hn:l.length+m.length≤16777216) :
  Aj tt hp top [t0,t1] (Ao b l) x=some (Ao top (l ++ m),DZ b l top (Af E (l ++ m)),top+1):=
 JG h0 h1 hi hj hs hby h hx (R1 hn (Nat.le_of_ble_eq_true hby))
theorem Ij {tt:AJ}{top t0 t1 e:Nat}{i1 j:TI}{x:Value}{m:List α}(h0:kindOf tt t0=some (.slice e))(h1:tt t1=some i1)(hi:DK i1.ud=false)(hj:tt e=some j)(hs:j.size=E.size)(hby:Nat.ble j.bytes 65536=true)
  (hx:BQ E hp x m) (hn:CK m.length j.bytes=true) :
  Aj tt hp top [t0,t1] (.slice none 0 0) x=some (Ao top m, [(top,Af E m)],top+1):=by
 obtain ⟨i,hi0,hd⟩:=AY h0
 have hf:=hx.DJ
 have hlx:=hx.Fz
 cases m with
 |nil=>
  simp only [List.length_nil] at hf hlx
  simp [Aj,hi0,h1,hlx,hi,hd,hj,hs,hf,hby,Be.DT,Ap,Ao,Af]
 |cons y m=>
  have h2:CK (y :: m).length j.bytes=true:=hn
  have h3:=E.HE (y :: m)
  have h4:Nat.beq (E.flat (y :: m)).length ((y :: m).length * E.size)=true:=by rw [Be.Bc];simp
  have h5:Nat.beq (y :: m).length 0=false:=rfl
  simp only [List.length_cons] at hf hlx h2 h4 h5
  simp only [Aj,hi0,h1,hlx,hi,hd,hj,hs,hf,hby,h2,h3,h4,h5,Ao,Af,Bool.and_self,Bool.true_and]
theorem Jv {tt:AJ}{top t0 t1 e:Nat}{i1 j:TI}{x:Value}{m:List α}(h0:kindOf tt t0=some (.slice e))(h1:tt t1=some i1)(hi:DK i1.ud=false)(hj:tt e=some j)(hs:j.size=E.size)(hby:Nat.ble j.bytes 65536=true)
  (hx:BQ E hp x m) (hn:m.length≤16777216) :
  Aj tt hp top [t0,t1] (.slice none 0 0) x=some (Ao top m, [(top,Af E m)],top+1):=
 Ij h0 h1 hi hj hs hby hx (R1 hn (Nat.le_of_ble_eq_true hby))
theorem lH (h:hp b=Af E l)(hn:l.length≤16777216):KR E hp (Ao b l)=True:=(BQ.own h hn).P
theorem cR [Inhabited α](h:hp b=Af E l)(hn:l.length≤16777216):E.rd hp (Ao b l)=l:=(BQ.own h hn).rd
theorem gi:Ak (Ao b l)= [Ao b l]:=by cases l <;> rfl
theorem fK:Value.oneCell' (Ao b l)=true:=by cases l <;> rfl
theorem ET [Inhabited α]{tt:AJ}{top t0 t1 e:Nat}{i1 j:TI}{x:Value}(h0:kindOf tt t0=some (.slice e))(h1:tt t1=some i1)(hi:DK i1.ud=false)(hj:tt e=some j)(hs:j.size=E.size)(hby:Nat.ble j.bytes 65536=true)
  (h:hp b=Af E l) (hx:KR E hp x) (hn:l.length+(E.rd hp x).length≤16777216) :
  Aj tt hp top [t0,t1] (Ao b l) x=some (Ao top (l ++ E.rd hp x),DZ b l top (Af E (l ++ E.rd hp x)),top+1):=by
 obtain ⟨m,hm⟩:=hx
 rw [hm.rd] at hn ⊢
 exact J5 h0 h1 hi hj hs hby h hm hn
theorem ou (h:hp b=Af E l)(hn:l.length≤9223372036854775807):KR E hp (Ao b l)=True:=(BQ.RM h hn).P
theorem jl [Inhabited α](h:hp b=Af E l)(hn:l.length≤9223372036854775807):E.rd hp (Ao b l)=l:=(BQ.RM h hn).rd
theorem Du [Inhabited α]{tt:AJ}{top t0 t1 e:Nat}{i1 j:TI}{x:Value}(h0:kindOf tt t0=some (.slice e))(h1:tt t1=some i1)(hi:DK i1.ud=false)(hj:tt e=some j)(hs:j.size=E.size)(hby:Nat.ble j.bytes 65536=true)
  (hx:KR E hp x) (hn:CK (E.rd hp x).length j.bytes=true) :
  Aj tt hp top [t0,t1] (.slice none 0 0) x=some (Ao top (E.rd hp x), [(top,Af E (E.rd hp x))],top+1):=by
 obtain ⟨m,hm⟩:=hx
 rw [hm.rd] at hn ⊢
 exact Ij h0 h1 hi hj hs hby hm hn
/-- one datum more -/
theorem BQ.one {k:Nat}{a:α}(h:hp k=some (.cells true E.size (E.enc a))):BQ E hp (.slice (some ⟨k,0,none⟩) 1 1) [a]:=by
 have hl:=E.len a
 exact BQ.rows (E:=E) (hp:=hp) k 0 1 true (E.enc a) [a] h (by simp [Be.flat,←hl]) (by simp [hl]) (by simp) (by simp)
theorem EO [Inhabited α]{tt:AJ}{top t0 t1 e:Nat}{i1 j:TI}{x:Value}(h0:kindOf tt t0=some (.slice e))(h1:tt t1=some i1)(hi:DK i1.ud=false)(hj:tt e=some j)(hs:j.size=E.size)(hby:Nat.ble j.bytes 65536=true)
  (hx:KR E hp x) (hn:(E.rd hp x).length≤16777216) :
  Aj tt hp top [t0,t1] (.slice none 0 0) x=some (Ao top (E.rd hp x), [(top,Af E (E.rd hp x))],top+1):=by
 obtain ⟨m,hm⟩:=hx
 rw [hm.rd] at hn ⊢
 exact Jv h0 h1 hi hj hs hby hm hn
theorem RC {tt:AJ}{top t0 t1 e k:Nat}{i1 j:TI}{cs:List Value}(h0:kindOf tt t0=some (.slice e))(h1:tt t1=some i1)(hi:DK i1.ud=false)(hj:tt e=some j)(hs:j.size=E.size)(hby:Nat.ble j.bytes 65536=true)
  (h:hp b=Af E l) (hk:hp k=some (.cells true E.size cs)) (hc:E.enc (E.dec cs)=cs) (hn:l.length < 16777216) :
  Aj tt hp top [t0,t1] (Ao b l) (.slice (some ⟨k,0,none⟩) 1 1)=some (Ao top (l ++ [E.dec cs]),DZ b l top (Af E (l ++ [E.dec cs])),top+1):=
 J5 h0 h1 hi hj hs hby h (BQ.one (by rw [hc];exact hk)) (by simp only [List.length_singleton];omega)
def cellsOf:Option Av→List Value
 |some (.cells _ _ cs)=>cs
 |_=> []
theorem Ol {rw:Bool}{z:Nat}{cs:List Value}:cellsOf (some (.cells rw z cs))=cs:=rfl
theorem Ea {tt:AJ}{top t0 t1 e k:Nat}{i1 j:TI}(h0:kindOf tt t0=some (.slice e))(h1:tt t1=some i1)(hi:DK i1.ud=false)(hj:tt e=some j)(hs:j.size=E.size)(hby:Nat.ble j.bytes 65536=true)
  (h:hp b=Af E l) (hk:hp k=some (.cells true E.size (cellsOf (hp k)))) (hc:E.enc (E.dec (cellsOf (hp k)))=cellsOf (hp k)) (hn:l.length < 16777216) :
  Aj tt hp top [t0,t1] (Ao b l) (.slice (some ⟨k,0,none⟩) 1 1)=some (Ao top (l ++ [E.dec (cellsOf (hp k))]),DZ b l top (Af E (l ++ [E.dec (cellsOf (hp k))])),top+1):=
 RC h0 h1 hi hj hs hby h hk hc hn
theorem Dv {tt:AJ}{top t0 t1 e k:Nat}{i1 j:TI}(h0:kindOf tt t0=some (.slice e))(h1:tt t1=some i1)(hi:DK i1.ud=false)(hj:tt e=some j)(hs:j.size=E.size)(hby:Nat.ble j.bytes 65536=true)
  (hk:hp k=some (.cells true E.size (cellsOf (hp k)))) (hc:E.enc (E.dec (cellsOf (hp k)))=cellsOf (hp k)) :
  Aj tt hp top [t0,t1] (.slice none 0 0) (.slice (some ⟨k,0,none⟩) 1 1)=some (Ao top [E.dec (cellsOf (hp k))], [(top,Af E [E.dec (cellsOf (hp k))])],top+1):=
 Jv h0 h1 hi hj hs hby (BQ.one (by rw [hc];exact hk)) (by simp)
/-- an element of one's own -/
theorem tj [Inhabited α]{tt:AJ}{t e:TypeId}{j:TI}(hk:kindOf tt t=some (.slice e))(hj:tt e=some j){k:IntKind}{n:Int}(h0:0≤n)(h1:n < l.length) :
  Al tt t (Ao b l) (.int k n)=(.pointer (some ⟨b,n.toNat * j.size,none⟩),True):=by
 cases l with
 |nil=>simp at h1;omega
 |cons a l=>
  unfold Al Ao
  simp at h1
  simp [hk,hj,h0]
  omega
/-! ### a write into a slice of one's own -/
theorem Q0 [Inhabited α]{a':α}{xs:List Value}{f:Nat}:∀ {l:List α} {i:Nat},i < l.length→f+xs.length≤E.size→E.enc a' = Ad (E.enc (at' l i)) f xs→Ad (E.flat l) (i * E.size+f) xs=E.flat (l.set i a'):=by
 intro l
 induction l with
 |nil=>intro i h;simp at h
 |cons a l ih=>
  intro i hi hf he
  have hl:=E.len a
  cases i with
  |zero=>
   have h0:at' (a :: l) 0=a:=rfl
   rw [h0] at he
   simp only [List.set_cons_zero,Be.B6,he,Ad,Nat.zero_mul,Nat.zero_add]
   rw [List.take_append_of_le_length (by omega),List.drop_append_of_le_length (by omega)]
   simp only [List.append_assoc]
  |succ i=>
   have h1:at' (a :: l) (i+1)=at' l i:=by simp [at']
   rw [h1] at he
   have:=ih (by simpa using hi) hf he
   simp only [List.set_cons_succ,Be.B6,←this,Ad]
   have e:(i+1) * E.size+f=(E.enc a).length+(i * E.size+f):=by rw [hl,Nat.succ_mul];omega
   rw [e,List.take_length_add_append,Nat.add_assoc,List.drop_length_add_append]
   simp only [List.append_assoc]
theorem Yh {i:Nat}{a:α}(h:i < l.length):Af E (l.set i a)=some (.cells true E.size (E.flat (l.set i a))):=by
 cases l with
 |nil=>simp at h
 |cons b l=>cases i <;> rfl
theorem az {i:Nat}(h:i < l.length):Af E l=some (.cells true E.size (E.flat l)):=by
 cases l with
 |nil=>simp at h
 |cons b l=>rfl
theorem V8 {i d:Nat}(h:i < l.length):BK (Ao b l) d= .pointer (some ⟨b,d,none⟩):=by
 cases l with
 |nil=>simp at h
 |cons a l=>simp [Ao,BK]
theorem M4 [Inhabited α]{tt:AJ}{t:TypeId}{j:TI}{x:Value}{i f:Nat}(hj:tt t=some j)(h:hp b=Af E l)(hi:i < l.length)(hx:E3 x j.size)(hf:f+j.size≤E.size)(h1:Ap (Ak x)=true)
  (he:E.enc (E.dec (Ad (E.enc (at' l i)) f (Ak x)))=Ad (E.enc (at' l i)) f (Ak x)) :
  Ag tt hp t (BK (Ao b l) (i * E.size+f)) x=([(b,Af E (l.set i (E.dec (Ad (E.enc (at' l i)) f (Ak x)))))],True):=by
 have hlen:(Ak x).length=j.size:=hx
 have h2:(i+1) * E.size≤l.length * E.size:=Nat.mul_le_mul_right _ hi
 rw [Nat.succ_mul] at h2
 rw [V8 hi,Yh hi]
 unfold Ag
 rw [az hi] at h
 simp only [hj,h]
 rw [Q0 hi (by rw [hlen];exact hf) he,Be.Bc]
 have h3:i * E.size+f+j.size≤l.length * E.size:=by omega
 simp [hx,h1,h3]
theorem Si [Inhabited α]{tt:AJ}{t:TypeId}{j:TI}{cs:List Value}{i:Nat}(hj:tt t=some j)(hs:j.size=E.size)(h:hp b=Af E l)(hi:i < l.length)(hc:E.enc (E.dec cs)=cs)(h1:Ap cs=true) :
  Ag tt hp t (BK (Ao b l) (i * E.size)) (.agg ⟨cs⟩)=([(b,Af E (l.set i (E.dec cs)))],True):=by
 have hl:cs.length=E.size:=by rw [←hc];exact E.len _
 have e:Ad (E.enc (at' l i)) 0 cs=cs:=by
  simp only [Ad,List.take_zero,List.nil_append,Nat.zero_add]
  rw [List.drop_eq_nil_of_le (by rw [E.len,hl];exact Nat.le_refl _),List.append_nil]
 have:=M4 (E:=E) (hp:=hp) (b:=b) (l:=l) (x:= .agg ⟨cs⟩) (i:=i) (f:=0) hj h hi (by show cs.length=j.size;rw [hl,hs]) (by omega) h1 (by show E.enc (E.dec (Ad _ 0 cs))=Ad _ 0 cs;rw [e,hc])
 rw [Nat.add_zero] at this
 rw [this]
 show ([(b,Af E (l.set i (E.dec (Ad _ 0 cs))))],True)=_
 rw [e]
theorem Cf [Inhabited α]{tt:AJ}{t:TypeId}{j:TI}{x:Value}{i f:Nat}{a':α}(hj:tt t=some j)(h:hp b=Af E l)(hi:i < l.length)(hx:E3 x j.size)(hf:f+j.size≤E.size)(h1:Ap (Ak x)=true)
  (he:E.enc a' = Ad (E.enc (at' l i)) f (Ak x)) :
  Ag tt hp t (BK (Ao b l) (i * E.size+f)) x=([(b,Af E (l.set i a'))],True):=by
 have:=M4 (E:=E) (hp:=hp) (b:=b) (l:=l) (x:=x) (i:=i) (f:=f) hj h hi hx hf h1 (by rw [←he,E.h])
 rw [this,←he,E.h]
end
end Go.Dm
/- Maps of data. -/
namespace Go.Dm
/-- how keys of a type lie in memory -/
structure KT (tt:AJ) (kt:TypeId) (κ:Type) [DecidableEq κ] where
 ek:κ→Value
 eq:∀a b,EG tt 64 kt (ek a) (ek b)=some (decide (a=b))
 key:∀a,KI tt 64 kt (ek a)=true
 pl:∀a,plain 8 (ek a)=true
 bits:∀a,Instr.sameBits 10000 (ek a) (ek a)=true
 A3:∀ρ a,A3 ρ (ek a)=ek a
section
variable {κ β:Type} [DecidableEq κ]
variable {tt:AJ} {kt:TypeId} (Q:KT tt kt κ) (ev:β→Value)
/-- a map's entries,as they are asked -/
def ux (tt:AJ)(kt:TypeId)(z:Value)(k:Value)(es:List MapEntry)(ok:Bool):Value×Prop:=
 let v:=match QJ tt kt k es with
  |some (_,v)=>v
  |none=>z
 (match ok with
  |true=> .tuple ⟨[v, .bool (QJ tt kt k es).isSome]⟩
  |false=>v,KI tt 64 kt k=true∧(Gm tt kt k es 0).isSome=true)
end
/-- keys that are data of numbers -/
theorem lu {l:List Value}{n:Nat}(h:∀v∈l,Instr.sameBits n v v=true):Instr.sameBits (n+1) (.agg ⟨l⟩) (.agg ⟨l⟩)=true:=by
 have:∀l:List Value,(∀v∈l,Instr.sameBits n v v=true)→(l.zip l).all (fun (x,y)=>Instr.sameBits n x y)=true:=by
  intro l
  induction l with
  |nil=>intro _;rfl
  |cons a l ih=>
   intro h
   simp only [List.zip_cons_cons,List.all_cons,h a (List.mem_cons_self ..),Bool.true_and]
   exact ih fun v hv=>h v (List.mem_cons_of_mem _ hv)
 simp only [Instr.sameBits,beq_self_eq_true,Bool.true_and]
 exact this l h
end Go.Dm
/- Drawn regions whose reads are not ordered against all writes:each read is shown to come to the same at each time. -/
namespace Go.Dm
def IE:List (Nat×Nat)→Nat→Nat→Bool
 | [],_,_=>false
 | (a,b) :: l,i,k=>match Nat.beq a i,Nat.beq b k with
  |true,true=>true
  |_,_=>IE l i k
structure dA where
 i:Nat
 g:Bool
 fr:Bl
 op:Op
 v:Value
def IQ (tt:AJ)(G:FuncId→BB)(un:List (Nat×Nat))(k:Nat)(hp:Hp):List dA→Prop
 | []=>True
 |e :: rs=>(if IE un e.i k=true then (e.g=true→(pv tt G e.fr hp e.op).2∧(pv tt G e.fr hp e.op).1=e.v)∧IQ tt G un k hp rs else IQ tt G un k hp rs)
def F5 (tt:AJ)(G:FuncId→BB)(un:List (Nat×Nat))(i:Nat)(fr:Bl)(op:Op)(v:Value):List (Nat×Hp)→Prop
 | []=>True
 | (k,hp) :: vs=>(if IE un i k=true then ((pv tt G fr hp op).2∧(pv tt G fr hp op).1=v)∧F5 tt G un i fr op v vs else F5 tt G un i fr op v vs)
def NQ:List (Nat×Nat)→Nat→Bool
 | [],_=>false
 | (a,_) :: l,i=>match Nat.beq a i with
  |true=>true
  |false=>NQ l i
def LH (un:List (Nat×Nat))(e:dA)(rs:List dA):List dA:=match NQ un e.i with
 |true=>e :: rs
 |false=>rs
def Hn (tt:AJ)(G:FuncId→BB)(all:List Oper)(un:List (Nat×Nat)):Nat→List Oper→List dA→List (Nat×Hp)→(SS→Prop)→SS→Prop
 |_, [],_,_,K,s=>K s
 |i,o :: os,rs,vs,K,s=>(Aa all s.fr o.guard).2∧(match EJ G o.op with
  |true=>(if (Aa all s.fr o.guard).1=true then (B4 tt G s.fr s.hp s.top o.op).ob∧IQ tt G un i (s.hp.Am (B4 tt G s.fr s.hp s.top o.op).us) rs∧
     Hn tt G all un (i+1) os rs ((i,s.hp) :: vs) K ⟨BW s.fr o.dst (B4 tt G s.fr s.hp s.top o.op).v true,s.hp.Am (B4 tt G s.fr s.hp s.top o.op).us,(B4 tt G s.fr s.hp s.top o.op).top⟩
    else Hn tt G all un (i+1) os rs vs K ⟨BW s.fr o.dst undef false,s.hp,s.top⟩)
  |false=>((Aa all s.fr o.guard).1=true→(pv tt G s.fr s.hp o.op).2∧F5 tt G un i s.fr o.op (pv tt G s.fr s.hp o.op).1 vs)∧
    Hn tt G all un (i+1) os (LH un ⟨i,(Aa all s.fr o.guard).1,s.fr,o.op,(pv tt G s.fr s.hp o.op).1⟩ rs) vs K ⟨BW s.fr o.dst (pv tt G s.fr s.hp o.op).1 (Aa all s.fr o.guard).1,s.hp,s.top⟩)
theorem ae {un:List (Nat×Nat)}{i k:Nat}(h:IE un i k=true):NQ un i=true:=by
 induction un with
 |nil=>cases h
 |cons p l ih=>
  obtain ⟨a,b⟩:=p
  unfold IE at h
  unfold NQ
  cases ha:Nat.beq a i with
  |true=>rfl
  |false=>rw [ha] at h;exact ih h
theorem TN {tt:AJ}{G:FuncId→BB}{un:List (Nat×Nat)}{k:Nat}{hp:Hp}:∀ {rs:List dA},IQ tt G un k hp rs→∀e∈rs,IE un e.i k=true→e.g=true→(pv tt G e.fr hp e.op).2∧(pv tt G e.fr hp e.op).1=e.v:=by
 intro rs
 induction rs with
 |nil=>intro _ e he;cases he
 |cons a rs ih=>
  intro h e he hu hg
  unfold IQ at h
  cases he with
  |head=>
   rw [if_pos hu] at h
   exact h.1 hg
  |tail _ he=>
   split at h
   ·exact ih h.2 e he hu hg
   ·exact ih h e he hu hg
theorem Rp {tt:AJ}{G:FuncId→BB}{un:List (Nat×Nat)}{i:Nat}{fr:Bl}{op:Op}{v:Value}:∀ {vs:List (Nat×Hp)},F5 tt G un i fr op v vs→∀p∈vs,IE un i p.1=true→(pv tt G fr p.2 op).2∧(pv tt G fr p.2 op).1=v:=by
 intro vs
 induction vs with
 |nil=>intro _ e he;cases he
 |cons a vs ih=>
  intro h e he hu
  obtain ⟨k,hp⟩:=a
  unfold F5 at h
  cases he with
  |head=>
   rw [if_pos hu] at h
   exact h.1
  |tail _ he=>
   split at h
   ·exact ih h.2 e he hu
   ·exact ih h e he hu
/-- all that the condition says -/
structure vf (tt:AJ) (G:FuncId→BB) (all:List Oper) (un:List (Nat×Nat)) (i:Nat) (os:List Oper) (rs:List dA) (vs:List (Nat×Hp)) (s:SS):Prop where
 step:∀k o,os[k]? = some o→DF tt G all o (Gc tt G all os s k) (Gc tt G all os s (k+1))
 VY:∀e∈rs,∀k o,os[k]? = some o→EJ G o.op=true→(Aa all (Gc tt G all os s k).fr o.guard).1=true→IE un e.i (i+k)=true→e.g=true→
  (pv tt G e.fr (Gc tt G all os s (k+1)).hp e.op).2∧(pv tt G e.fr (Gc tt G all os s (k+1)).hp e.op).1=e.v
 OG:∀p∈vs,∀k o,os[k]? = some o→EJ G o.op=false→(Aa all (Gc tt G all os s k).fr o.guard).1=true→IE un (i+k) p.1=true→
  (pv tt G (Gc tt G all os s k).fr p.2 o.op).2∧(pv tt G (Gc tt G all os s k).fr p.2 o.op).1=(pv tt G (Gc tt G all os s k).fr (Gc tt G all os s k).hp o.op).1
 late:∀q k oq ok,q < k→os[q]? = some oq→os[k]? = some ok→EJ G oq.op=false→(Aa all (Gc tt G all os s q).fr oq.guard).1=true→EJ G ok.op=true→(Aa all (Gc tt G all os s k).fr ok.guard).1=true→IE un (i+q) (i+k)=true→
  (pv tt G (Gc tt G all os s q).fr (Gc tt G all os s (k+1)).hp oq.op).2∧(pv tt G (Gc tt G all os s q).fr (Gc tt G all os s (k+1)).hp oq.op).1=(pv tt G (Gc tt G all os s q).fr (Gc tt G all os s q).hp oq.op).1
 early:∀q k oq ok,q < k→os[q]? = some oq→os[k]? = some ok→EJ G oq.op=true→(Aa all (Gc tt G all os s q).fr oq.guard).1=true→EJ G ok.op=false→(Aa all (Gc tt G all os s k).fr ok.guard).1=true→IE un (i+k) (i+q)=true→
  (pv tt G (Gc tt G all os s k).fr (Gc tt G all os s q).hp ok.op).2∧(pv tt G (Gc tt G all os s k).fr (Gc tt G all os s q).hp ok.op).1=(pv tt G (Gc tt G all os s k).fr (Gc tt G all os s k).hp ok.op).1
theorem R6 {tt:AJ}{G:FuncId→BB}{all:List Oper}{un:List (Nat×Nat)}{K:SS→Prop}:∀(os:List Oper) (i:Nat) (rs:List dA) (vs:List (Nat×Hp)) (s:SS),Hn tt G all un i os rs vs K s→
  K (Gc tt G all os s os.length)∧vf tt G all un i os rs vs s:=by
 intro os
 induction os with
 |nil=>intro i rs vs s h;exact ⟨h,⟨fun k o hk=>by simp at hk,fun e he k o hk=>by simp at hk,fun p hp k o hk=>by simp at hk,fun q k oq ok hq h1=>by simp at h1,fun q k oq ok hq h1=>by simp at h1⟩⟩
 |cons o os ih=>
  intro i rs vs s h
  obtain ⟨h1,h2⟩:=h
  have z:∀n,Gc tt G all (o :: os) s (n+1)=Gc tt G all os (Jh tt G all o s) n:=fun n=>rfl
  have z0:Gc tt G all (o :: os) s 0=s:=rfl
  have sh:∀n:Nat,i+(n+1)=(i+1)+n:=fun n=>by omega
  cases hw:EJ G o.op with
  |true=>
   rw [hw] at h2
   dsimp only at h2
   cases hg:(Aa all s.fr o.guard).1 with
   |true=>
    rw [if_pos hg] at h2
    obtain ⟨h3,h4,h5⟩:=h2
    have hn:Jh tt G all o s=⟨BW s.fr o.dst (B4 tt G s.fr s.hp s.top o.op).v true,s.hp.Am (B4 tt G s.fr s.hp s.top o.op).us,(B4 tt G s.fr s.hp s.top o.op).top⟩:=by simp only [Jh,hw,hg]
    rw [←hn] at h5
    obtain ⟨hK,F⟩:=ih _ _ _ _ h5
    refine ⟨hK,⟨?_, ?_, ?_, ?_, ?_⟩⟩
    ·intro k p hk
     cases k with
     |zero=>
      simp at hk;subst hk
      rw [z,z0,DU]
      exact ⟨h1,fun _ _=>h3,fun e=>(by rw [hw] at e;cases e),rfl⟩
     |succ k=>exact F.step k p (by simpa using hk)
    ·intro e he k p hk hwp hgp hu heg
     cases k with
     |zero=>
      simp at hk;subst hk
      rw [z,DU,hn]
      exact TN h4 e he (by simpa using hu) heg
     |succ k=>exact F.VY e he k p (by simpa using hk) hwp hgp (by rw [←sh];exact hu) heg
    ·intro e he k p hk hwp hgp hu
     cases k with
     |zero=>
      simp at hk;subst hk
      rw [hw] at hwp;cases hwp
     |succ k=>exact F.OG e (List.mem_cons_of_mem _ he) k p (by simpa using hk) hwp hgp (by rw [←sh];exact hu)
    ·intro q k oq ok hqk hq hk hwq hgq hwk hgk hu
     cases k with
     |zero=>omega
     |succ k=>
      cases q with
      |zero=>
       simp at hq;subst hq
       rw [hw] at hwq;cases hwq
      |succ q=>exact F.late q k oq ok (by omega) (by simpa using hq) (by simpa using hk) hwq hgq hwk hgk (by rw [←sh,←sh];exact hu)
    ·intro q k oq ok hqk hq hk hwq hgq hwk hgk hu
     cases k with
     |zero=>omega
     |succ k=>
      cases q with
      |zero=>
       simp at hq;subst hq
       exact F.OG (i,s.hp) (List.mem_cons_self ..) k ok (by simpa using hk) hwk hgk (by rw [←sh];simpa using hu)
      |succ q=>exact F.early q k oq ok (by omega) (by simpa using hq) (by simpa using hk) hwq hgq hwk hgk (by rw [←sh,←sh];exact hu)
   |false=>
    rw [if_neg (by rw [hg];simp)] at h2
    have hn:Jh tt G all o s=⟨BW s.fr o.dst undef false,s.hp,s.top⟩:=by simp only [Jh,hw,hg]
    rw [←hn] at h2
    obtain ⟨hK,F⟩:=ih _ _ _ _ h2
    refine ⟨hK,⟨?_, ?_, ?_, ?_, ?_⟩⟩
    ·intro k p hk
     cases k with
     |zero=>
      simp at hk;subst hk
      rw [z,z0,DU]
      exact ⟨h1,fun _ e=>(by rw [hg] at e;cases e),fun e=>(by rw [hw] at e;cases e),rfl⟩
     |succ k=>exact F.step k p (by simpa using hk)
    ·intro e he k p hk hwp hgp hu heg
     cases k with
     |zero=>
      simp at hk;subst hk
      rw [z0,hg] at hgp;cases hgp
     |succ k=>exact F.VY e he k p (by simpa using hk) hwp hgp (by rw [←sh];exact hu) heg
    ·intro e he k p hk hwp hgp hu
     cases k with
     |zero=>
      simp at hk;subst hk
      rw [hw] at hwp;cases hwp
     |succ k=>exact F.OG e he k p (by simpa using hk) hwp hgp (by rw [←sh];exact hu)
    ·intro q k oq ok hqk hq hk hwq hgq hwk hgk hu
     cases k with
     |zero=>omega
     |succ k=>
      cases q with
      |zero=>
       simp at hq;subst hq
       rw [hw] at hwq;cases hwq
      |succ q=>exact F.late q k oq ok (by omega) (by simpa using hq) (by simpa using hk) hwq hgq hwk hgk (by rw [←sh,←sh];exact hu)
    ·intro q k oq ok hqk hq hk hwq hgq hwk hgk hu
     cases k with
     |zero=>omega
     |succ k=>
      cases q with
      |zero=>
       simp at hq;subst hq
       rw [z0,hg] at hgq;cases hgq
      |succ q=>exact F.early q k oq ok (by omega) (by simpa using hq) (by simpa using hk) hwq hgq hwk hgk (by rw [←sh,←sh];exact hu)
  |false=>
   rw [hw] at h2
   dsimp only at h2
   obtain ⟨h3,h4⟩:=h2
   have hn:Jh tt G all o s=⟨BW s.fr o.dst (pv tt G s.fr s.hp o.op).1 (Aa all s.fr o.guard).1,s.hp,s.top⟩:=by simp only [Jh,hw]
   rw [←hn] at h4
   obtain ⟨hK,F⟩:=ih _ _ _ _ h4
   have hold:∀e∈rs,e∈LH un ⟨i,(Aa all s.fr o.guard).1,s.fr,o.op,(pv tt G s.fr s.hp o.op).1⟩ rs:=by
    intro e he
    unfold LH
    split
    ·exact List.mem_cons_of_mem _ he
    ·exact he
   refine ⟨hK,⟨?_, ?_, ?_, ?_, ?_⟩⟩
   ·intro k p hk
    cases k with
    |zero=>
     simp at hk;subst hk
     rw [z,z0,DU]
     exact ⟨h1,fun e=>(by rw [hw] at e;cases e),fun _ e=>(h3 e).1,rfl⟩
    |succ k=>exact F.step k p (by simpa using hk)
   ·intro e he k p hk hwp hgp hu heg
    cases k with
    |zero=>
     simp at hk;subst hk
     rw [hw] at hwp;cases hwp
    |succ k=>exact F.VY e (hold e he) k p (by simpa using hk) hwp hgp (by rw [←sh];exact hu) heg
   ·intro e he k p hk hwp hgp hu
    cases k with
    |zero=>
     simp at hk;subst hk
     rw [z0]
     exact Rp (h3 hgp).2 e he (by simpa using hu)
    |succ k=>exact F.OG e he k p (by simpa using hk) hwp hgp (by rw [←sh];exact hu)
   ·intro q k oq ok hqk hq hk hwq hgq hwk hgk hu
    cases k with
    |zero=>omega
    |succ k=>
     cases q with
     |zero=>
      simp at hq;subst hq
      have hm:(⟨i,(Aa all s.fr o.guard).1,s.fr,o.op,(pv tt G s.fr s.hp o.op).1⟩:dA)∈LH un ⟨i,(Aa all s.fr o.guard).1,s.fr,o.op,(pv tt G s.fr s.hp o.op).1⟩ rs:=by
       have hh:NQ un i=true:=ae (k:=i+(k+1)) (by simpa using hu)
       simp only [LH,hh,List.mem_cons,true_or]
      exact F.VY _ hm k ok (by simpa using hk) hwk hgk (by rw [←sh];simpa using hu) hgq
     |succ q=>exact F.late q k oq ok (by omega) (by simpa using hq) (by simpa using hk) hwq hgq hwk hgk (by rw [←sh,←sh];exact hu)
   ·intro q k oq ok hqk hq hk hwq hgq hwk hgk hu
    cases k with
    |zero=>omega
    |succ k=>
     cases q with
     |zero=>
      simp at hq;subst hq
      rw [hw] at hwq;cases hwq
     |succ q=>exact F.early q k oq ok (by omega) (by simpa using hq) (by simpa using hk) hwq hgq hwk hgk (by rw [←sh,←sh];exact hu)
/-! ### the look at the region -/
def eN (G:FuncId→BB)(an:List Nat)(un:List (Nat×Nat))(all:List Oper):Bool:=(List.range all.length).all fun i=>match all[i]? with
 |none=>true
 |some o=>EJ G o.op || Bb o.op || (List.range all.length).all fun k=>match all[k]? with
  |none=>true
  |some p=> !EJ G p.op || IE un i k || (match Nat.ble (k+1) i with
   |true=>bit (an.getD i 0) k
   |false=>bit (an.getD k 0) i)
noncomputable def VJ (G:FuncId→BB)(un:List (Nat×Nat))(ops:List Oper):Bool:=match R2 ops [] with
 |none=>false
 |some an=>distinct (Au ops 0) && HZ ops && HI an (Au ops 0) ops ops 0 && ju G an ops && eN G an un ops
theorem Wl {G:FuncId→BB}{an:List Nat}{un:List (Nat×Nat)}{all:List Oper}(h:eN G an un all=true):∀i k oi ok,all[i]? = some oi→all[k]? = some ok→EJ G oi.op=false→Bb oi.op=false→EJ G ok.op=true→
  IE un i k=true∨((k < i→bit (an.getD i 0) k=true)∧(¬k < i→bit (an.getD k 0) i=true)):=by
 intro i k oi ok hi hk hwi hfi hwk
 have lt_of:∀(k:Nat) (o:Oper),all[k]? = some o→k < all.length:=fun k o h=>by
  rcases Nat.lt_or_ge k all.length with h2 | h2
  ·exact h2
  ·rw [List.getElem?_eq_none h2] at h;cases h
 unfold eN at h
 rw [List.all_eq_true] at h
 have:=h i (List.mem_range.2 (lt_of i oi hi))
 rw [hi] at this
 simp only [hwi,hfi,Bool.false_or,List.all_eq_true] at this
 have:=this k (List.mem_range.2 (lt_of k ok hk))
 rw [hk] at this
 simp only [hwk,Bool.not_true,Bool.false_or,Bool.or_eq_true] at this
 rcases this with h1 | h1
 ·exact .inl h1
 right
 constructor
 ·intro hlt
  have hb:Nat.ble (k+1) i=true:=Nat.ble_eq_true_of_le hlt
  rw [hb] at h1;exact h1
 ·intro hlt
  have hb:Nat.ble (k+1) i=false:=by
   cases hb:Nat.ble (k+1) i with
   |false=>rfl
   |true=>exact absurd (Nat.le_of_ble_eq_true hb) hlt
  rw [hb] at h1
  exact h1
section
variable {P:Program} {tt:AJ} {G:FuncId→BB} {ops:Array Oper} {an:List Nat} {s0:SS} {sz:Nat}
open Classical in
theorem A1.u3 (F:A1 P tt G ops an s0 sz)(un:List (Nat×Nat))(hun:eN G an un ops.toList=true)(hX:vf tt G ops.toList un 0 ops.toList [] [] s0):Jr P tt G ops an s0 sz:=by
 refine ⟨F, ?_⟩
 intro i o ho hwb hg p hp hcomp
 have hilt:=A1.lt (ops:=ops) i o ho
 have S:=F.step i o ho
 have hpv:=S.r hwb hg
 have ltk:∀k,AW tt G ops s0 k→k < ops.size:=fun k ⟨ok,h1,_⟩=>A1.lt (ops:=ops) k ok h1
 have free:Bb o.op=true→EU o.op=false:=fun h=>by
  cases h2:EU o.op with
  |false=>rfl
  |true=>rw [au hwb h2] at h;cases h
 -- the read at memory p
 have key:Bb o.op=false→(pv tt G (AU tt G ops s0 i).fr (AU tt G ops s0 p).hp o.op).2∧(pv tt G (AU tt G ops s0 i).fr (AU tt G ops s0 p).hp o.op).1=(pv tt G (AU tt G ops s0 i).fr (AU tt G ops s0 i).hp o.op).1:=by
  intro hf
  have un':∀k,AW tt G ops s0 k→((k < i∧¬k < p)∨(¬k < i∧k < p))→IE un i k=true:=by
   intro k hk hc
   obtain ⟨ok,h1,h2,h3⟩:=hk
   obtain ⟨c1,c2⟩:=hcomp k ok h1 ⟨ok,h1,h2,h3⟩
   rcases Wl hun i k o ok (by simpa using ho) (by simpa using h1) hwb hf h2 with h4 | ⟨h4,h5⟩
   ·exact h4
   ·rcases hc with ⟨a,b⟩ | ⟨a,b⟩
    ·exact absurd (c1 (h4 a)) b
    ·have:=h5 a;rw [c2 b] at this;cases this
  rcases Nat.le_total i p with hip | hip
  ·by_cases hex:∃k,AW tt G ops s0 k∧i≤k∧k < p
   ·-- the last writer ahead of p
    have:∃k,(AW tt G ops s0 k∧i≤k∧k < p)∧∀k',AW tt G ops s0 k'→i≤k'→k' < p→k'≤k:=by
     have hb:∀n,(∃k,AW tt G ops s0 k∧i≤k∧k < n)→∃k,(AW tt G ops s0 k∧i≤k∧k < n)∧∀k',AW tt G ops s0 k'→i≤k'→k' < n→k'≤k:=by
      intro n
      induction n with
      |zero=>rintro ⟨k,_,_,h⟩;omega
      |succ n ih=>
       intro h
       by_cases hn:AW tt G ops s0 n∧i≤n
       ·exact ⟨n,⟨hn.1,hn.2,by omega⟩,fun k' _ _ h=>by omega⟩
       ·obtain ⟨k,h1,h2,h3⟩:=h
        have hkn:k≠n:=fun e=>hn (e ▸ ⟨h1,h2⟩)
        obtain ⟨m,⟨m1,m2,m3⟩,m4⟩:=ih ⟨k,h1,h2,by omega⟩
        refine ⟨m,⟨m1,m2,by omega⟩,fun k' h1 h2 h3=> ?_⟩
        have:k'≠n:=fun e=>hn (e ▸ ⟨h1,h2⟩)
        exact m4 k' h1 h2 (by omega)
     exact hb p hex
    obtain ⟨k,⟨k1,k2,k3⟩,k4⟩:=this
    have hgp:=F.Np hp (show k+1≤ops.size from ltk k k1) (fun k' hk'=>by
     constructor
     ·intro h
      rcases Nat.lt_or_ge k' i with h5 | h5
      ·omega
      ·have:=k4 k' hk' h5 h;omega
     ·intro h;omega)
    rw [hgp.1]
    obtain ⟨ok,h1,h2,h3⟩:=k1
    have hne:i≠k:=fun e=>by subst e;rw [ho] at h1;cases h1;rw [hwb] at h2;cases h2
    exact hX.late i k o ok (by omega) (by simpa using ho) (by simpa using h1) hwb hg h2 h3 (by simpa using un' k ⟨ok,h1,h2,h3⟩ (.inr ⟨by omega,k3⟩))
   ·have hgp:=F.Np hp (Nat.le_of_lt hilt) (fun k' hk'=>by
     constructor
     ·intro h
      rcases Nat.lt_or_ge k' i with h5 | h5
      ·exact h5
      ·exact absurd ⟨k',hk',h5,h⟩ hex
     ·intro h;omega)
    rw [hgp.1];exact ⟨hpv,rfl⟩
  ·by_cases hex:∃k,AW tt G ops s0 k∧p≤k∧k < i
   ·have:∃k,(AW tt G ops s0 k∧p≤k∧k < i)∧∀k',AW tt G ops s0 k'→p≤k'→k' < i→k≤k':=by
     have hb:∀d n,n+d=i→(∃k,AW tt G ops s0 k∧n≤k∧k < i)→∃k,(AW tt G ops s0 k∧n≤k∧k < i)∧∀k',AW tt G ops s0 k'→n≤k'→k' < i→k≤k':=by
      intro d
      induction d with
      |zero=>rintro n hn ⟨k,_,h1,h2⟩;omega
      |succ d ih=>
       intro n hn h
       by_cases hc:AW tt G ops s0 n
       ·exact ⟨n,⟨hc,by omega,by omega⟩,fun k' _ h _=>h⟩
       ·obtain ⟨k,h1,h2,h3⟩:=h
        have hkn:k≠n:=fun e=>hc (e ▸ h1)
        obtain ⟨m,⟨m1,m2,m3⟩,m4⟩:=ih (n+1) (by omega) ⟨k,h1,by omega,h3⟩
        refine ⟨m,⟨m1,by omega,m3⟩,fun k' h1 h2 h3=> ?_⟩
        have:k'≠n:=fun e=>hc (e ▸ h1)
        exact m4 k' h1 (by omega) h3
     exact hb (i - p) p (by omega) hex
    obtain ⟨k,⟨k1,k2,k3⟩,k4⟩:=this
    have hgp:=F.Np hp (Nat.le_of_lt (ltk k k1)) (fun k' hk'=>by
     constructor
     ·intro h;omega
     ·intro h
      rcases Nat.lt_or_ge k' p with h5 | h5
      ·exact h5
      ·have:=k4 k' hk' h5 (by omega);omega)
    rw [hgp.1]
    obtain ⟨ok,h1,h2,h3⟩:=k1
    exact hX.early k i ok o k3 (by simpa using h1) (by simpa using ho) h2 h3 hwb hg (by simpa using un' k ⟨ok,h1,h2,h3⟩ (.inl ⟨k3,by omega⟩))
   ·have hgp:=F.Np hp (Nat.le_of_lt hilt) (fun k' hk'=>by
     constructor
     ·intro h;omega
     ·intro h
      rcases Nat.lt_or_ge k' p with h5 | h5
      ·exact h5
      ·exact absurd ⟨k',hk',h5,h⟩ hex)
    rw [hgp.1];exact ⟨hpv,rfl⟩
 constructor
 ·intro hiw
  cases hf:Bb o.op with
  |true=>rw [free hf] at hiw;cases hiw
  |false=>exact key hf
 ·intro hiw
  cases hf:Bb o.op with
  |true=>rw [Jj (hp':=(AU tt G ops s0 i).hp) hf];exact Ih (P:=P) hiw hpv (fun _ _ e=>e)
  |false=>
   obtain ⟨k1,k2⟩:=key hf
   rw [←k2]
   exact Ih (P:=P) hiw k1 (fun _ _ e=>e)
end
theorem CW.Qz {P:Program}{tt:AJ}{G:FuncId→BB}(E:B7 P tt G){sz base:Nat}{s:SS}{Q:Exit→SS→Prop}(id:Nat){ops:Array Oper}(BA:List Nat)(un:List (Nat×Nat))(hdst:Fb sz ops=true)(hdr:VJ G un ops.toList=true)
  (h:Hn tt G ops.toList un 0 ops.toList [] [] (XO BA Q) s):CW P sz base (.region id ops true) s Q:=by
 unfold VJ at hdr
 split at hdr
 ·cases hdr
 ·rename_i an han
  simp only [Bool.and_eq_true] at hdr
  obtain ⟨⟨⟨⟨hdis,hmo⟩,hsafe⟩,hww⟩,hrw⟩:=hdr
  obtain ⟨hQ,hX⟩:=R6 _ _ _ _ _ h
  have hfacts:=hX.step
  have hmem:∀(k:Nat) (o:Oper) (d:Nat),ops[k]? = some o→o.dst=some d→(d,k)∈Au ops.toList 0:=by
   intro k o d ho hd
   have:=FE ops.toList 0 k d o (by simpa using ho) hd
   simpa using this
  intro φ0 φ own ds w0 a w hb hle S
  have FB:A1 P tt G ops an s sz:=by
   refine ⟨E,Ce hdst,KZ han,hmem, ?_, ?_,fun k o ho=>hfacts k o (by simpa using ho),fun j k oj ok hj hk h1 h2 h3=>(Mu hww j k oj ok (by simpa using hj) (by simpa using hk) h1 h2 h3).imp (fun h=>h) (fun h=>⟨h.1,fun i oi hi=>h.2 i oi (by simpa using hi)⟩),fun i o hi=>S.hr.lt S.top hi⟩
   ·intro d k k' h1 h2
    exact Dx _ hdis d k k' h1 h2 fun p hp q hq hpq=>FG ops.toList 0 p q hp hq hpq
   ·intro k o ho
    have:=GI an _ _ _ 0 hsafe k o (by simpa using ho)
    rw [Nat.zero_add] at this
    exact ⟨this.1,fun j want p d hg hp hd=>this.2 j want p d hg (by simpa using hp) hd⟩
  have F:Jr P tt G ops an s sz:=FB.u3 un hrw hX
  have hn:ops.toList.length=ops.size:=by simp
  rw [hn] at hQ
  have all:∀md,DV md ops→wpAny P md ops (fun x a' w'=>x≠ .outgrown∧∃φ' s',φ0.le φ'∧GD φ' own sz ds w0 s' a' w'∧Q x s') ops.size (Array.replicate ops.size false) a {w with drawn:=w.drawn+1}:=by
   intro md hrk
   have hf:∀k,¬((Array.replicate ops.size false).getD k false=true):=by
    intro k hk
    simp [Array.getD_eq_getD_getElem?,Array.getElem?_replicate] at hk
    split at hk <;> simp at hk
   refine F.main (φ0:=φ) (own:=own) (ds:=ds) (w0:=w0) hrk ?_ ops.size _ φ 0 a _ (by simp) (GM _) (Ren.le_refl _) ?_ ?_
   ·intro φ' a' w' hle' S'
    exact ⟨nofun,φ',⟨Ek (AU tt G ops s ops.size).fr BA,(AU tt G ops s ops.size).hp,(AU tt G ops s ops.size).top⟩,Ren.le_trans hle hle',S'.sub (Sub.BA (AU tt G ops s ops.size) BA),hQ⟩
   ·intro k o _ hk;exact absurd hk (hf k)
   ·exact Gl.start hf S
  have anyR:DV .any ops:=⟨fun k=>k,fun k o hk e he hb=>by
   have h1:=F.XX.lt k o (by simpa using hk) e he hb
   have h2:k < ops.size:=by
    rcases Nat.lt_or_ge k ops.size with h | h
    ·exact h
    ·rw [Array.getElem?_eq_none h] at hk;cases hk
   exact ⟨by omega,h1⟩⟩
  refine Bu.Gy (FD hdst) (fun ⟨_,_,h,_⟩=>h rfl) fun t=> ?_
  unfold Region.schedule
  split
  ·exact wpAny_sound ops.size t _ a _ (all .any anyR)
  ·rename_i hnd
   have hd:Region.departs ops=true:=by
    cases hdp:Region.departs ops with
    |true=>rfl
    |false=>rw [hdp] at hnd;simp at hnd
   obtain ⟨r1,r2⟩:=EP hmo hd
   split
   ·exact wpAny_sound ops.size _ _ a _ (all .text r1)
   ·exact wpAny_sound ops.size _ _ a _ (all .gc r2)
section
variable {tt:AJ} {G:FuncId→BB} {all os:List Oper} {un:List (Nat×Nat)} {o:Oper} {i:Nat} {rs:List dA} {vs:List (Nat×Hp)} {K:SS→Prop} {s:SS}
theorem Vr:Hn tt G all un i [] rs vs K s=K s:=rfl
theorem TL:Hn tt G all un i (o :: os) rs vs K s=((Aa all s.fr o.guard).2∧(match EJ G o.op with
  |true=>(if (Aa all s.fr o.guard).1=true then (B4 tt G s.fr s.hp s.top o.op).ob∧IQ tt G un i (s.hp.Am (B4 tt G s.fr s.hp s.top o.op).us) rs∧
     Hn tt G all un (i+1) os rs ((i,s.hp) :: vs) K ⟨BW s.fr o.dst (B4 tt G s.fr s.hp s.top o.op).v true,s.hp.Am (B4 tt G s.fr s.hp s.top o.op).us,(B4 tt G s.fr s.hp s.top o.op).top⟩
    else Hn tt G all un (i+1) os rs vs K ⟨BW s.fr o.dst undef false,s.hp,s.top⟩)
  |false=>((Aa all s.fr o.guard).1=true→(pv tt G s.fr s.hp o.op).2∧F5 tt G un i s.fr o.op (pv tt G s.fr s.hp o.op).1 vs)∧
    Hn tt G all un (i+1) os (LH un ⟨i,(Aa all s.fr o.guard).1,s.fr,o.op,(pv tt G s.fr s.hp o.op).1⟩ rs) vs K ⟨BW s.fr o.dst (pv tt G s.fr s.hp o.op).1 (Aa all s.fr o.guard).1,s.hp,s.top⟩)):=rfl
end
end Go.Dm
/- A function without arguments that the machine runs. -/
namespace Go.Dm
theorem HR.stay {φ:Ren}{own:Nat→Prop}{hp:Hp}{w w':World}(H:HR φ own hp w)(hk:K (fun b=>w.heap.size≤b) w w'):HR φ own hp w':=by
 have same:∀b,b < w.heap.size→w'.heap[b]? = w.heap[b]? :=fun b hb=>hk.same b hb (by omega)
 refine ⟨?_,H.sep,H.C7,fun i L e=>Nat.lt_of_lt_of_le (H.val i L e) hk.size,fun b hb=>H.fresh b (Nat.le_trans hk.size hb)⟩
 intro i o e
 obtain ⟨L,h1,h2⟩:=H.obj i o e
 exact ⟨L,h1,by rw [same _ (H.val i L h1)];exact h2⟩
theorem K.KY {own:Nat→Prop}{w w':World}(hf:∀b,w.heap.size≤b→own b)(hk:K (fun b=>w.heap.size≤b) w w'):K own w w':=
 ⟨hk.size,fun b hb _=>hk.same b hb (by omega),hk.os,hk.tape,hk.output⟩
end Go.Dm
