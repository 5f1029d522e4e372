/- The abstract machine, a part of it: operations, regions, code and calls run over values with named blocks; each step is shown of the real run. -/
import Derived.Test.YthlhnangbinhoaaGreatDoorDmE
set_option linter.unusedSimpArgs false
set_option linter.unusedVariables false
namespace Go.Dm
mutual
def Az (ρ:Nat→Nat):Value→Value
 | .pointer (some ⟨b,o,s⟩)=> .pointer (some ⟨ρ b,o,s⟩)
 | .slice (some ⟨b,o,none⟩) n c=> .slice (some ⟨ρ b,o,none⟩) n c
 | .map (some b)=> .map (some (ρ b))
 | .agg ⟨l⟩=> .agg ⟨Co ρ l⟩
 | .tuple ⟨l⟩=> .tuple ⟨Co ρ l⟩
 | .iface t v=> .iface t (Az ρ v)
 | .func f ⟨a⟩ ⟨b⟩=> .func f ⟨Co ρ a⟩ ⟨Co ρ b⟩
 |v=>v
def Co (ρ:Nat→Nat):List Value→List Value
 | []=> []
 |v :: l=>Az ρ v :: Co ρ l
end
def Rv (ρ:Nat→Nat)(e:MapEntry):MapEntry:= {e with key:=Az ρ e.key,val:=Az ρ e.val}
def Iw (ρ:Nat→Nat):A7→A7
 | .cells rw Bp vs=> .cells rw Bp (Co ρ vs)
 | .map es CI=> .map (es.map (Rv ρ)) CI
 | .iter s p=> .iter s p
 | .miter m since seen c=> .miter (ρ m) since seen c
 | .raw b vs=> .raw b vs
theorem FK (ρ:Nat→Nat):∀l,Co ρ l=l.map (Az ρ)
 | []=>rfl
 |v :: l=>by rw [Co,FK ρ l];rfl
theorem X4 (ρ:Nat→Nat)(l m:List Value):Co ρ (l ++ m)=Co ρ l ++ Co ρ m:=by simp only [FK,List.map_append]
theorem WG (ρ:Nat→Nat)(l:List Value):(Co ρ l).length=l.length:=by simp only [FK,List.length_map]
def Ren.via (φ:Ren)(ρ:Nat→Nat):Ren:=fun j=>φ (ρ j)
mutual
theorem V.EP {φ:Ren}{ρ:Nat→Nat}:∀ {v x:Value},V φ (Az ρ v) x→V (φ.via ρ) v x:=by
 intro v x h
 match v with
 | .bool b=>cases h;exact .bool b
 | .int k n=>cases h;exact .int k n
 | .float k n=>cases h
 | .complex k a b=>cases h
 | .string s=>cases h;exact .str s
 | .pointer none=>cases h;exact .nilp
 | .pointer (some ⟨b,o,s⟩)=>
  simp only [Az] at h
  cases h with
  |ptr _ _ L hL=>exact .ptr _ _ L hL
 | .slice none n c=>cases h;exact .nils
 | .slice (some ⟨b,o,none⟩) n c=>
  simp only [Az] at h
  generalize hb:ρ b=b' at h
  cases h with
  |slice _ _ _ _ c' L hL hn hc hl=>exact .slice _ _ _ _ c' L (by rw [←hb] at hL;exact hL) hn hc hl
 | .slice (some ⟨b,o,some s⟩) n c=>
  have e:Az ρ (.slice (some ⟨b,o,some s⟩) n c)= .slice (some ⟨b,o,some s⟩) n c:=by unfold Az;rfl
  rw [e] at h
  cases h
  exact .emp _ _
 | .map none=>cases h;exact .nilm
 | .map (some b)=>
  simp only [Az] at h
  cases h with
  |map _ L hL=>exact .map _ L hL
 | .chan r=>cases h
 | .func f ⟨a⟩ ⟨b⟩=>
  simp only [Az] at h
  cases h with
  |func _ _ a' _ b' ha hb=>exact .func _ _ _ _ _ (Vs.EP ha) (Vs.EP hb)
 | .nilFunc=>cases h;exact .nilf
 | .iface t v=>
  simp only [Az] at h
  cases h with
  |iface _ _ v' hv=>exact .iface _ _ _ (V.EP hv)
 | .nilIface=>cases h;exact .nili
 | .agg ⟨l⟩=>
  simp only [Az] at h
  cases h with
  |agg _ l' hl=>exact .agg _ _ (Vs.EP hl)
 | .tuple ⟨l⟩=>
  simp only [Az] at h
  cases h with
  |tuple _ l' hl=>exact .tuple _ _ (Vs.EP hl)
theorem Vs.EP {φ:Ren}{ρ:Nat→Nat}:∀ {l m:List Value},Vs φ (Co ρ l) m→Vs (φ.via ρ) l m:=by
 intro l m h
 match l with
 | []=>cases h;exact .nil
 |v :: l=>
  simp only [Co] at h
  cases h with
  |cons _ x _ m hx hm=>exact .cons _ _ _ _ (V.EP hx) (Vs.EP hm)
end
theorem Es.EP {φ:Ren}{ρ:Nat→Nat}:∀ {l m:List MapEntry},Es φ (l.map (Rv ρ)) m→Es (φ.via ρ) l m:=by
 intro l
 induction l with
 |nil=>intro m h;cases h;exact .nil
 |cons e l ih=>
  intro m h
  simp only [List.map_cons] at h
  cases h with
  |cons _ x _ m hx hm=>exact .cons _ _ _ _ ⟨V.EP hx.key,V.EP hx.val,hx.born⟩ (ih hm)
theorem ET.EP {φ:Ren}{ρ:Nat→Nat}{L:Loc}{o:A7}{x:Option Obj}(h:ET φ L (Iw ρ o) x):ET (φ.via ρ) L o x:=by
 cases o with
 |cells rw Bp vs=>
  obtain ⟨he,c,t,fz,h1,h2,h3,h4,h5⟩:=h
  rw [WG] at h3 h4
  exact ⟨he,c,t,fz,h1,h2,h3,Vs.EP h4,h5⟩
 |map es CI=>obtain ⟨es',h1,h2⟩:=h;exact ⟨es',h1,Es.EP h2⟩
 |iter s pos=>exact h
 |miter m since seen c=>exact h
 |raw b vs=>exact h
theorem ae (ρ:Nat→Nat)(o:A7):(Iw ρ o).rw=o.rw:=by cases o <;> rfl
structure BR (ρ:Nat→Nat) (base:Nat) (s' s:SS):Prop where
 low:∀j,j < base→ρ j=j
 high:∀j,s'.top≤j→s.top≤ρ j
 inj:∀i j,i < s'.top→j < s'.top→ρ i=ρ j→i=j
 fr:∀t v,Lc s'.fr t=some v→Lc s.fr t=some (Az ρ v)
 hp:∀i o,s'.hp i=some o→s.hp (ρ i)=some (Iw ρ o)
theorem HR.EP {φ:Ren}{own:Nat→Prop}{w:World}{hp hp':Hp}{top top':Nat}{ρ:Nat→Nat}(H:HR φ own hp w)(htop:∀j,top≤j→φ j=none)
  (high:∀j,top'≤j→top≤ρ j) (inj:∀i j,i < top'→j < top'→ρ i=ρ j→i=j) (hh:∀i o,hp' i=some o→hp (ρ i)=some (Iw ρ o)):HR (φ.via ρ) own hp' w:=by
 have dom:∀i o,hp' i=some o→i < top':=by
  intro i o e
  rcases Nat.lt_or_ge i top' with h | h
  ·exact h
  ·obtain ⟨L,h1,_⟩:=H.obj _ _ (hh i o e)
   rw [htop _ (high i h)] at h1;cases h1
 refine ⟨?_, ?_, ?_, ?_,H.fresh⟩
 ·intro i o e
  obtain ⟨L,h1,h2⟩:=H.obj _ _ (hh i o e)
  exact ⟨L,h1,ET.EP h2⟩
 ·intro i j oi oj Li Lj hi hj hne hrw hLi hLj
  exact H.sep (ρ i) (ρ j) _ _ Li Lj (hh _ _ hi) (hh _ _ hj) (fun e=>hne (inj i j (dom _ _ hi) (dom _ _ hj) e)) (by rw [ae];exact hrw) hLi hLj
 ·intro i o L e hrw hL
  exact H.D8 _ _ L (hh _ _ e) (by rw [ae];exact hrw) hL
 ·intro i L hL
  exact H.val (ρ i) L hL
theorem HZ.jP {φ:Ren}{own:Nat→Prop}{sz:Nat}{ds:List Deferred}{w0:World}{s s':SS}{a:Act}{w:World}{ρ:Nat→Nat}{base:Nat}(S:HZ φ own sz ds w0 s a w)(h:BR ρ base s' s):HZ (φ.via ρ) own sz ds w0 s' a w:=
 ⟨⟨fun t v e=>V.EP (S.fr.val t _ (h.fr t v e)),S.fr.size⟩,S.hr.EP S.top h.high h.inj h.hp,fun j hj=>S.top _ (h.high j hj),S.k,S.ds⟩
theorem BR.le {φ0 φ:Ren}{ρ:Nat→Nat}{base:Nat}{s s':SS}(h:BR ρ base s' s)(hb:∀j,base≤j→φ0 j=none)(hle:φ0.le φ):φ0.le (φ.via ρ):=by
 intro i L e
 have hi:i < base:=by
  rcases Nat.lt_or_ge i base with h | h
  ·exact h
  ·rw [hb i h] at e;cases e
 unfold Ren.via
 rw [h.low i hi];exact hle _ _ e
theorem CW.aX {P:Program}{sz base:Nat}{c:Code}{s s':SS}{Q:Exit→SS→Prop}{ρ:Nat→Nat}(hs:BR ρ base s' s)(h:CW P sz base c s' Q):CW P sz base c s Q:=by
 intro φ0 φ own ds w0 a w hb hle S
 exact h φ0 _ own ds w0 a w hb (hs.le hb hle) (S.jP hs)
def Round {α:Type}(base:Nat)(S:α→SS)(I:α→Prop)(μ:α→Nat)(x:α)(s':SS):Prop:= ∃y,I y∧μ y < μ x∧∃ρ,BR ρ base (S y) s'
theorem Round.mk {α:Type}{base:Nat}{S:α→SS}{I:α→Prop}{μ:α→Nat}{x:α}{s':SS}(y:α)(hI:I y)(hμ:μ y < μ x)(hS:∃ρ,BR ρ base (S y) s'):Round base S I μ x s':=⟨y,hI,hμ,hS⟩
theorem CW.DC {P:Program}{sz base:Nat}{c:Code}{s:SS}{Q:Exit→SS→Prop}{α:Type}(S:α→SS)(I:α→Prop)(μ:α→Nat)(x0:α)(h0:I x0)(hs:∃ρ,BR ρ base (S x0) s)
  (h:∀x,I x→CW P sz base c (S x) (PO (Round base S I μ x) Q)):CW P sz base (.loop c) s Q:=by
 intro φ0 φ own ds w0 a w hb hle S0
 have key:∀(m:Nat) (x:α) (φ:Ren) (a:Act) (w:World),I x→μ x≤m→φ0.le φ→HZ φ own sz ds w0 (S x) a w→
   JL P c (fun x a' w'=>x≠ .outgrown∧∃φ' s',φ0.le φ'∧HZ φ' own sz ds w0 s' a' w'∧Q x s') (m+1) a w:=by
  intro m
  induction m with
  |zero=>
   intro x φ a w hI hm hle S1
   rw [NJ]
   refine Cv.mono (h x hI φ0 φ own ds w0 a w hb hle S1) ?_
   rintro e a' w' ⟨hx,φ',s',h1,h2,h3⟩
   cases e with
   |normal=>obtain ⟨y,_,hlt,_⟩:=h3;omega
   |_=>exact ⟨hx,φ',s',h1,h2,h3⟩
  |succ m ih=>
   intro x φ a w hI hm hle S1
   rw [NJ]
   refine Cv.mono (h x hI φ0 φ own ds w0 a w hb hle S1) ?_
   rintro e a' w' ⟨hx,φ',s',h1,h2,h3⟩
   cases e with
   |normal=>
    obtain ⟨y,hy,hlt,ρ,hsub⟩:=h3
    exact ih y _ a' w' hy (by omega) (hsub.le hb h1) (h2.jP hsub)
   |_=>exact ⟨hx,φ',s',h1,h2,h3⟩
 obtain ⟨ρ,hs⟩:=hs
 exact Cv.Xw (μ x0+1) (key (μ x0) x0 _ a w h0 (Nat.le_refl _) (hs.le hb hle) (S0.jP hs))
def gY (tt:AO)(rs:List ResultVar)(post:Value→Hp→Nat→Prop):Exit→SS→Prop
 | .normal,s=>Ds tt s.fr s.hp rs∧post (Gh (Iy tt s.fr s.hp rs)) s.hp s.top
 | .ret,s=>Ds tt s.fr s.hp rs∧post (Gh (Iy tt s.fr s.hp rs)) s.hp s.top
 |_,_=>False
theorem AR.A5 {P:Program}{tt:AO}(htt:Ck P tt){f:FuncId}{fn:Func}(F:Aq P f fn){c:Code}(hc:fn.body=some c)(n:Nat)(hn:fn.ntmps=n)(rs:List ResultVar)(hrs:fn.results.toList=rs)
  {args:List Value} {hp:Hp} {top:Nat} {post:Value→Hp→Nat→Prop} (hle:args.length≤n)
  (h:CW P n top c ⟨IG args 0,hp,top⟩ (gY tt rs post)):AR P f args hp top post:=by
 refine AR.qQ htt F hc n hn rs hrs hle (h.mono ?_)
 intro x s h
 cases x with
 |normal=>exact ⟨.inl rfl,h⟩
 |ret=>exact ⟨.inr rfl,h⟩
 |_=>exact h.elim
def rU (tt:AO)(rs:List ResultVar)(post bad:Value→Hp→Nat→Prop):Exit→SS→Prop
 | .normal,s=>Ds tt s.fr s.hp rs∧post (Gh (Iy tt s.fr s.hp rs)) s.hp s.top
 | .ret,s=>Ds tt s.fr s.hp rs∧post (Gh (Iy tt s.fr s.hp rs)) s.hp s.top
 | .panic c,s=> ∃v,c=pZ v∧bad v s.hp s.top
 |_,_=>False
theorem wF {tt:AO}{rs:List ResultVar}{post bad:Value→Hp→Nat→Prop}{s:SS}:rU tt rs post bad .normal s=(Ds tt s.fr s.hp rs∧post (Gh (Iy tt s.fr s.hp rs)) s.hp s.top):=rfl
theorem xc {tt:AO}{rs:List ResultVar}{post bad:Value→Hp→Nat→Prop}{s:SS}:rU tt rs post bad .ret s=(Ds tt s.fr s.hp rs∧post (Gh (Iy tt s.fr s.hp rs)) s.hp s.top):=rfl
theorem wG {tt:AO}{rs:List ResultVar}{post bad:Value→Hp→Nat→Prop}{s:SS}{v:Value}:rU tt rs post bad (.panic (pZ v)) s=bad v s.hp s.top:=
 propext ⟨fun ⟨v,e,h⟩=>by simp only [pZ,List.cons.injEq,PanicEntry.mk.injEq] at e;rw [e.1.1];exact h,fun h=>⟨v,rfl,h⟩⟩
theorem EI.A5 {P:Program}{tt:AO}(htt:Ck P tt){f:FuncId}{fn:Func}(F:Aq P f fn){c:Code}(hc:fn.body=some c)(n:Nat)(hn:fn.ntmps=n)(rs:List ResultVar)(hrs:fn.results.toList=rs)
  {args:List Value} {hp:Hp} {top:Nat} {post bad:Value→Hp→Nat→Prop} (hle:args.length≤n)
  (h:CW P n top c ⟨IG args 0,hp,top⟩ (rU tt rs post bad)):EI P f args hp top post bad:=by
 subst hn hrs
 intro φ own w args' hargs H htop
 refine calls_of_wp F.at_ hc ?_
 have S:=HZ.args (fn:=fn) hargs hle H htop
 refine wp_mono (h φ φ own [] w _ w htop (Ren.le_refl _) S).wp ?_
 rintro x a' w' ⟨_,φ',s',hle',S',hx⟩
 have fin:Ds tt s'.fr s'.hp fn.results.toList∧post (Gh (Iy tt s'.fr s'.hp fn.results.toList)) s'.hp s'.top→a'.defers= []∧∃v,(results fn a'.tmps).run P w' = .ok v w'∧((∃v1 hp' top' v' φ',Ending.returned v= .returned v'∧post v1 hp' top'∧E9 φ own w v1 hp' top' v' w' φ')∨
   ∃v1 hp' top' φ',Ending.returned v= .panicked (pZ v1)∧bad v1 hp' top'∧E9 φ own w undef hp' top' undef w' φ'):=by
  rintro ⟨hok,hpost⟩
  obtain ⟨v',e1,e2⟩:=J0 htt S' hok
  exact ⟨S'.ds,v',e1, .inl ⟨_,_,_,v',φ',rfl,hpost,⟨hle',e2,S'.hr,S'.k,S'.top⟩⟩⟩
 cases x with
 |normal=>exact fin hx
 |ret=>exact fin hx
 |panic c=>
  obtain ⟨v,rfl,hb⟩:=hx
  exact ⟨S'.ds, .inr ⟨v,_,_,φ',rfl,hb,⟨hle', .tuple _ _ .nil,S'.hr,S'.k,S'.top⟩⟩⟩
 |_=>exact hx.elim
section
variable {P:Program} {tt:AO} {G:FuncId→Bb} {sz base:Nat} {BH:List Nat} {Q:Exit→SS→Prop} {K:SS→Prop} {s:SS} {a b:Code} {id j:Nat} {ops:Array Oper} {all os:List Oper} {o:Oper} {x:Operand}
theorem n5:vc P tt G sz base BH .skip Q s=Q .normal s:=rfl
theorem ug:vc P tt G sz base BH (.region id ops false) Q s=WX tt G ops.toList ops.toList (WV BH Q) (jk Q) s:=rfl
theorem sA:vc P tt G sz base BH (.region id ops true) Q s=(if PW BH id=true then CW P sz base (.region id ops true) s Q else OS tt G ops.toList ops.toList (WV BH Q) s):=by
 show (match PW BH id with | true=>_ | false=>_)=_
 cases PW BH id <;> simp
theorem Qb {g:Bool}{A B:Prop}:((g=true→A)∧(g=false→B))=(if g=true then A else B):=by
 cases g <;> simp
structure Le (v:Bool) (K1 K2:SS→Prop) (s:SS):Prop where
 h1:v=true→K1 s
 h2:v=false→K2 s
theorem oV {K1 K2:SS→Prop}:Le true K1 K2 s=K1 s:=propext ⟨fun h=>h.h1 rfl,fun h=>⟨fun _=>h,fun e=>by cases e⟩⟩
theorem rP {K1 K2:SS→Prop}:Le false K1 K2 s=K2 s:=propext ⟨fun h=>h.h2 rfl,fun h=>⟨fun e=>(by cases e),fun _=>h⟩⟩
structure Vc (P:Program) (tt:AO) (G:FuncId→Bb) (sz base:Nat) (BH:List Nat) (c:Code) (Q:Exit→SS→Prop) (s:SS):Prop where
 h:vc P tt G sz base BH c Q s
theorem Vc.mk' (h:vc P tt G sz base BH a Q s):Vc P tt G sz base BH a Q s:=⟨h⟩
theorem rN:vc P tt G sz base BH (.seq a b) Q s=vc P tt G sz base BH a (PO (Vc P tt G sz base BH b Q) Q) s:=by
 have:vc P tt G sz base BH b Q=Vc P tt G sz base BH b Q:=funext fun s=>propext ⟨fun h=>⟨h⟩,fun h=>h.h⟩
 rw [←this];rfl
theorem qv:vc P tt G sz base BH (.cond x a b) Q s=(av s.fr x∧eM (CR s.fr x).1∧Le (B2 (CR s.fr x).1) (vc P tt G sz base BH a Q) (vc P tt G sz base BH b Q) s):=
 propext ⟨fun ⟨h1,h2,h3,h4⟩=>⟨h1,h2,⟨h3,h4⟩⟩,fun ⟨h1,h2,h3⟩=>⟨h1,h2,h3.h1,h3.h2⟩⟩
theorem lF:vc P tt G sz base BH (.block id b) Q s=vc P tt G sz base BH b (KY id Q) s:=rfl
theorem qc:vc P tt G sz base BH (.loop b) Q s=CW P sz base (.loop b) s Q:=rfl
theorem ql:vc P tt G sz base BH (.exit id) Q s=Q (.exit id) s:=rfl
theorem xf:vc P tt G sz base BH .ret Q s=Q .ret s:=rfl
theorem mx:vc P tt G sz base BH (.label id) Q s=Q .normal s:=rfl
theorem gT {KP:Value→SS→Prop}:WX tt G all [] K KP s=K s:=rfl
theorem cj {KP:Value→SS→Prop}:WX tt G all (o :: os) K KP s=((Ao all s.fr o.guard).2∧XX tt G (Ao all s.fr o.guard).1 o s (WX tt G all os K KP) KP):=rfl
theorem rh {c:List PanicEntry}:PO K Q (.panic c) s=Q (.panic c) s:=rfl
theorem fa {c:List PanicEntry}:KY id Q (.panic c) s=Q (.panic c) s:=rfl
theorem nq {v:Value}:jk Q v s=Q (.panic (pZ v)) s:=rfl
theorem jE:OS tt G all [] K s=K s:=rfl
theorem bz:OS tt G all (o :: os) K s=((Ao all s.fr o.guard).2∧(match Gc G o.op with
  |true=>(if (Ao all s.fr o.guard).1=true then (Cy tt G s.fr s.hp s.top o.op).ob∧
     OS tt G all os K ⟨Bs s.fr o.dst (Cy tt G s.fr s.hp s.top o.op).v true,s.hp.Av (Cy tt G s.fr s.hp s.top o.op).us,(Cy tt G s.fr s.hp s.top o.op).top⟩
    else OS tt G all os K ⟨Bs s.fr o.dst undef false,s.hp,s.top⟩)
  |false=>((Ao all s.fr o.guard).1=true→(pv tt G s.fr s.hp o.op).2)∧OS tt G all os K ⟨Bs s.fr o.dst (pv tt G s.fr s.hp o.op).1 (Ao all s.fr o.guard).1,s.hp,s.top⟩)):=by
 rw [←Qb];rfl
theorem qI:PO K Q .normal s=K s:=rfl
theorem om:PO K Q .ret s=Q .ret s:=rfl
theorem oG:PO K Q (.exit j) s=Q (.exit j) s:=rfl
theorem lQ:KY id Q .normal s=Q .normal s:=rfl
theorem gE:KY id Q .ret s=Q .ret s:=rfl
theorem lh:KY id Q (.exit j) s=(if j=id then Q .normal s else Q (.exit j) s):=rfl
theorem qf:WV BH Q s=Q .normal ⟨G6 s.fr BH,s.hp,s.top⟩:=rfl
theorem vN {rs:List ResultVar}{post:Value→Hp→Nat→Prop}:gY tt rs post .normal s=(Ds tt s.fr s.hp rs∧post (Gh (Iy tt s.fr s.hp rs)) s.hp s.top):=rfl
theorem yD {rs:List ResultVar}{post:Value→Hp→Nat→Prop}:gY tt rs post .ret s=(Ds tt s.fr s.hp rs∧post (Gh (Iy tt s.fr s.hp rs)) s.hp s.top):=rfl
theorem fR {g:Bool}:Sy tt G g o s K=(match o.op with
  | .call {callee:= .value f,args, ..}=>Rs G s.fr s.hp s.top g f args.toList o.dst K
  | .range t x=>if g=true then av s.fr x∧T7 tt t=true∧(Lf s.hp (CR s.fr x).1).isSome=true∧K ⟨Bs s.fr o.dst (.pointer (some ⟨s.top,0,none⟩)) true,s.hp.Av [(s.top,oI (Lf s.hp (CR s.fr x).1))],s.top+1⟩
    else K ⟨Bs s.fr o.dst undef false,s.hp,s.top⟩
  | .next it str=>if g=true then av s.fr it∧str=false∧s8 K s.fr s.hp s.top o.dst (CR s.fr it).1 else K ⟨Bs s.fr o.dst undef false,s.hp,s.top⟩
  | .entry it=>if g=true then av s.fr it∧(Oy s.hp (CR s.fr it).1).isSome=true∧K ⟨Bs s.fr o.dst (sQ (Oy s.hp (CR s.fr it).1)) true,s.hp,s.top⟩ else K ⟨Bs s.fr o.dst undef false,s.hp,s.top⟩
  |op=>match HB op with
   |true=>if g=true then (EL tt s.fr s.hp s.top op).ob∧K ⟨Bs s.fr o.dst (EL tt s.fr s.hp s.top op).v true,s.hp.Av (EL tt s.fr s.hp s.top op).us,(EL tt s.fr s.hp s.top op).top⟩
     else K ⟨Bs s.fr o.dst undef false,s.hp,s.top⟩
   |false=>(g=true→(Lo tt s.fr s.hp op).2)∧K ⟨Bs s.fr o.dst (Lo tt s.fr s.hp op).1 g,s.hp,s.top⟩):=by
 simp only [←Qb]
 rfl
theorem fF {g:Bool}{KP:Value→SS→Prop}:XX tt G g o s K KP=(match o.op with
  | .call {callee:= .value f,args, ..}=>aU G s.fr s.hp s.top g f args.toList o.dst K KP
  | .panic x=>if g=true then av s.fr x∧x8 (CR s.fr x).1=true∧KP (CR s.fr x).1 s else K ⟨Bs s.fr o.dst undef false,s.hp,s.top⟩
  |_=>Sy tt G g o s K):=by
 simp only [←Qb]
 rfl
theorem kT {fr:C6}{hp:Hp}{top:Nat}{g:Bool}{f:Operand}{args:List Operand}{dst:Option Nat}{KP:Value→SS→Prop}:aU G fr hp top g f args dst K KP=(match G (BZ fr f).1 with
  | .pan pre res=>if g=true then (BZ fr f).2.1=true∧Sv fr args∧pre ((BZ fr f).2.2.1 ++ Jr fr args ++ (BZ fr f).2.2.2) hp top∧
   yA (res ((BZ fr f).2.2.1 ++ Jr fr args ++ (BZ fr f).2.2.2) hp top) fr hp dst K KP
   else K ⟨Bs fr dst undef false,hp,top⟩
  |_=>Rs G fr hp top g f args dst K):=by
 simp only [←Qb]
 rfl
theorem iB {fr:C6}{hp:Hp}{top:Nat}{g:Bool}{f:Operand}{args:List Operand}{dst:Option Nat}:Rs G fr hp top g f args dst K=(match G (BZ fr f).1 with
  | .none=>False
  | .pure pre res=>(g=true→(BZ fr f).2.1=true∧Sv fr args∧pre ((BZ fr f).2.2.1 ++ Jr fr args ++ (BZ fr f).2.2.2) hp)∧
   K ⟨Bs fr dst (res ((BZ fr f).2.2.1 ++ Jr fr args ++ (BZ fr f).2.2.2) hp) g,hp,top⟩
  | .eff pre post=>if g=true then (BZ fr f).2.1=true∧Sv fr args∧pre ((BZ fr f).2.2.1 ++ Jr fr args ++ (BZ fr f).2.2.2) hp top∧
   (∀v hp' top',post ((BZ fr f).2.2.1 ++ Jr fr args ++ (BZ fr f).2.2.2) hp top v hp' top'→ACl K ⟨Bs fr dst v true,hp',top'⟩)
   else K ⟨Bs fr dst undef false,hp,top⟩
  | .det pre res=>if g=true then (BZ fr f).2.1=true∧Sv fr args∧pre ((BZ fr f).2.2.1 ++ Jr fr args ++ (BZ fr f).2.2.2) hp top∧
   K ⟨Bs fr dst (res ((BZ fr f).2.2.1 ++ Jr fr args ++ (BZ fr f).2.2.2) hp top).1 true,hp.Av (res ((BZ fr f).2.2.1 ++ Jr fr args ++ (BZ fr f).2.2.2) hp top).2.1,(res ((BZ fr f).2.2.1 ++ Jr fr args ++ (BZ fr f).2.2.2) hp top).2.2⟩
   else K ⟨Bs fr dst undef false,hp,top⟩
  | .pan _ _=>False):=by
 simp only [←Qb]
 rfl
end
def rn (base:Nat)(bs:List Nat)(z j:Nat):Nat:=if j < base then j else (bs[j - base]?).getD z
theorem AB {base:Nat}{bs:List Nat}{z j:Nat}(h:j < base):rn base bs z j=j:=if_pos h
theorem DE (base:Nat)(bs:List Nat)(z i:Nat):rn base bs z (base+i)=(bs[i]?).getD z:=by
 unfold rn
 rw [if_neg (by omega),Nat.add_sub_cancel_left]
theorem EF (base:Nat)(bs:List Nat)(z:Nat):rn base bs z base=(bs[0]?).getD z:=DE base bs z 0
theorem Vn {base:Nat}{bs:List Nat}{z j:Nat}(h:base+bs.length≤j):rn base bs z j=z:=by
 unfold rn
 rw [if_neg (by omega),List.getElem?_eq_none (by omega)];rfl
theorem Y5 {base:Nat}{bs:List Nat}{z:Nat}(hn:bs.Nodup)(hb:∀b∈bs,base≤b):∀i j,i < base+bs.length→j < base+bs.length→rn base bs z i=rn base bs z j→i=j:=by
 intro i j hi hj e
 unfold rn at e
 split at e
 ·split at e
  ·exact e
  ·rw [List.getElem?_eq_getElem (by omega),Option.getD_some] at e
   have:=hb _ (List.getElem_mem (show j - base < bs.length by omega))
   omega
 ·rw [List.getElem?_eq_getElem (show i - base < bs.length by omega),Option.getD_some] at e
  split at e
  ·have:=hb _ (List.getElem_mem (show i - base < bs.length by omega))
   omega
  ·rw [List.getElem?_eq_getElem (show j - base < bs.length by omega),Option.getD_some] at e
   have hp:=List.pairwise_iff_getElem.1 hn
   rcases Nat.lt_trichotomy (i - base) (j - base) with h | h | h
   ·exact absurd e (hp _ _ (by omega) (by omega) h)
   ·omega
   ·exact absurd e.symm (hp _ _ (by omega) (by omega) h)
mutual
def Sc (n:Nat):Value→Prop
 | .pointer (some ⟨b,_,_⟩)=>b < n
 | .slice (some ⟨b,_,none⟩) _ _=>b < n
 | .map (some b)=>b < n
 | .agg ⟨l⟩=>PB n l
 | .tuple ⟨l⟩=>PB n l
 | .iface _ v=>Sc n v
 | .func _ ⟨a⟩ ⟨b⟩=>PB n a∧PB n b
 |_=>True
def PB (n:Nat):List Value→Prop
 | []=>True
 |v :: l=>Sc n v∧PB n l
end
def yz (n:Nat):A7→Prop
 | .cells _ _ vs=>PB n vs
 | .map es _=> ∀e∈es,Sc n e.key∧Sc n e.val
 | .iter _ _=>True
 | .miter m _ _ _=>m < n
 | .raw _ _=>True
mutual
theorem Sc.Az {n:Nat}{ρ:Nat→Nat}(hρ:∀j,j < n→ρ j=j):∀ {v:Value},Sc n v→Az ρ v=v
 | .bool _,_=>rfl
 | .int _ _,_=>rfl
 | .float _ _,_=>rfl
 | .complex _ _ _,_=>rfl
 | .string _,_=>rfl
 | .pointer none,_=>rfl
 | .pointer (some ⟨b,o,s⟩),h=>by simp only [Dm.Az,hρ b h]
 | .slice none _ _,_=>rfl
 | .slice (some ⟨b,o,none⟩) _ _,h=>by simp only [Dm.Az,hρ b h]
 | .slice (some ⟨b,o,some s⟩) _ _,_=>by unfold Dm.Az;rfl
 | .map none,_=>rfl
 | .map (some b),h=>by simp only [Dm.Az,hρ b h]
 | .chan _,_=>rfl
 | .func _ ⟨a⟩ ⟨b⟩,h=>by simp only [Dm.Az,PB.Az hρ h.1,PB.Az hρ h.2]
 | .nilFunc,_=>rfl
 | .iface _ v,h=>by simp only [Dm.Az,Sc.Az hρ (v:=v) h]
 | .nilIface,_=>rfl
 | .agg ⟨l⟩,h=>by simp only [Dm.Az,PB.Az hρ (l:=l) h]
 | .tuple ⟨l⟩,h=>by simp only [Dm.Az,PB.Az hρ (l:=l) h]
theorem PB.Az {n:Nat}{ρ:Nat→Nat}(hρ:∀j,j < n→ρ j=j):∀ {l:List Value},PB n l→Co ρ l=l
 | [],_=>rfl
 |v :: l,h=>by simp only [Dm.Co,Sc.Az hρ h.1,PB.Az hρ h.2]
end
theorem yz.Az {n:Nat}{ρ:Nat→Nat}(hρ:∀j,j < n→ρ j=j){o:A7}(h:yz n o):Iw ρ o=o:=by
 cases o with
 |cells rw Bp vs=>simp only [Iw,PB.Az hρ h]
 |map es CI=>
  simp only [Iw]
  congr 1
  rw [List.map_congr_left (g:=id)]
  ·simp
  ·intro e he
   obtain ⟨h1,h2⟩:=h e he
   simp only [Rv,Sc.Az hρ h1,Sc.Az hρ h2,id]
 |iter s p=>rfl
 |miter m since seen c=>simp only [Iw];rw [hρ m h]
 |raw b vs=>rfl
mutual
theorem V.sc {φ:Ren}{n:Nat}(hn:∀j,n≤j→φ j=none):∀ {v x:Value},V φ v x→Sc n v
 |_,_, .bool _=>trivial
 |_,_, .int _ _=>trivial
 |_,_, .str _=>trivial
 |_,_, .nilp=>trivial
 |_,_, .ptr i o L h=>by
  rcases Nat.lt_or_ge i n with h' | h'
  ·exact h'
  ·rw [hn i h'] at h;cases h
 |_,_, .nils=>trivial
 |_,_, .slice i o m c c' L h _ _ _=>by
  rcases Nat.lt_or_ge i n with h' | h'
  ·exact h'
  ·rw [hn i h'] at h;cases h
 |_,_, .emp _ _=>trivial
 |_,_, .nilm=>trivial
 |_,_, .map i L h=>by
  rcases Nat.lt_or_ge i n with h' | h'
  ·exact h'
  ·rw [hn i h'] at h;cases h
 |_,_, .func _ _ _ _ _ ha hb=>⟨Vs.sc hn ha,Vs.sc hn hb⟩
 |_,_, .nilf=>trivial
 |_,_, .iface _ v _ h=>(V.sc hn h:Sc n v)
 |_,_, .nili=>trivial
 |_,_, .agg _ _ h=>Vs.sc hn h
 |_,_, .tuple _ _ h=>Vs.sc hn h
theorem Vs.sc {φ:Ren}{n:Nat}(hn:∀j,n≤j→φ j=none):∀ {l m:List Value},Vs φ l m→PB n l
 |_,_, .nil=>trivial
 |_,_, .cons _ _ _ _ hx hl=>⟨V.sc hn hx,Vs.sc hn hl⟩
end
theorem Es.sc {φ:Ren}{n:Nat}(hn:∀j,n≤j→φ j=none):∀ {l m:List MapEntry},Es φ l m→∀e∈l,Sc n e.key∧Sc n e.val
 |_,_, .nil,e,he=>by cases he
 |_,_, .cons a _ l _ hx hl,e,he=>by
  cases he with
  |head=>exact ⟨V.sc hn hx.key,V.sc hn hx.val⟩
  |tail _ h=>exact Es.sc hn hl e h
structure Cl (hp:Hp) (n:Nat):Prop where
 lt:∀i o,hp i=some o→i < n
 sc:∀i o,hp i=some o→yz n o
theorem HR.cl {φ:Ren}{own:Nat→Prop}{hp:Hp}{w:World}{n:Nat}(H:HR φ own hp w)(hn:∀j,n≤j→φ j=none):Cl hp n:=by
 refine ⟨fun i o e=>H.lt hn e,fun i o e=> ?_⟩
 obtain ⟨L,h1,h2⟩:=H.obj i o e
 cases o with
 |cells rw Bp vs=>obtain ⟨_,_,_,_,_,_,_,h3,_⟩:=h2;exact Vs.sc hn h3
 |map es CI=>obtain ⟨es',_,h3⟩:=h2;exact fun e he=>Es.sc hn h3 e he
 |iter s p=>trivial
 |miter m since seen c=>
  obtain ⟨_,M,h1,_⟩:=h2
  show m < n
  rcases Nat.lt_or_ge m n with h | h
  ·exact h
  ·rw [hn m h] at h1;cases h1
 |raw b vs=>trivial
theorem ec {hp h1:Hp}{base:Nat}{ρ:Nat→Nat}(hcl:Cl hp base)(hlow:∀j,j < base→ρ j=j)(us:BI)
  (hk:∀i,i < base→(∀p∈us,p.1≠i)→h1 i=hp i) (hu:∀p∈us,∀o,p.2=some o→h1 (ρ p.1)=some (Iw ρ o)) :
  ∀i o,(hp.Av us) i=some o→h1 (ρ i)=some (Iw ρ o):=by
 have key:∀(us:BI) (hp:Hp) i o,(hp.Av us) i=some o→(∃p∈us,p.1=i∧p.2=some o)∨((∀p∈us,p.1≠i)∧hp i=some o):=by
  intro us
  induction us with
  |nil=>intro hp i o h;exact .inr ⟨fun _ h=>(by cases h),h⟩
  |cons p us ih=>
   intro hp i o h
   obtain ⟨a,x⟩:=p
   rw [Bt] at h
   rcases ih _ i o h with ⟨p,h1,h2,h3⟩ | ⟨h1,h2⟩
   ·exact .inl ⟨p,List.mem_cons_of_mem _ h1,h2,h3⟩
   ·by_cases e:i=a
    ·subst e
     rw [AG] at h2
     exact .inl ⟨(i,x),List.mem_cons_self ..,rfl,h2⟩
    ·rw [AZ _ _ _ _ e] at h2
     refine .inr ⟨?_,h2⟩
     intro p hp'
     cases hp' with
     |head=>exact fun e'=>e e'.symm
     |tail _ h=>exact h1 p h
 intro i o h
 rcases key us hp i o h with ⟨p,h2,h3,h4⟩ | ⟨h2,h3⟩
 ·subst h3;exact hu p h2 o h4
 ·have hi:=hcl.lt i o h3
  rw [hlow i hi,hk i hi h2,h3,yz.Az hlow (hcl.sc i o h3)]
theorem set_set (hp:Hp)(i:Nat)(a b:Option A7):(hp.set i a).set i b=hp.set i b:=by
 funext j;unfold Hp.set;split <;> rfl
def BQ (n:Nat)(ks:List Nat)(h1 hp:Hp):Prop:= ∀i,i < n→i ∉ ks→h1 i=hp i
theorem BQ.refl (n:Nat)(ks:List Nat)(hp:Hp):BQ n ks hp hp=True:=eq_true fun _ _ _=>rfl
theorem BQ.set {n:Nat}{ks:List Nat}{h1 hp:Hp}{b:Nat}{o:Option A7}(hb:n≤b):BQ n ks (h1.set b o) hp=BQ n ks h1 hp:=by
 refine propext ⟨fun h i hi hk=> ?_,fun h i hi hk=> ?_⟩
 ·have:=h i hi hk;rwa [AZ _ _ _ _ (by omega)] at this
 ·rw [AZ _ _ _ _ (by omega)];exact h i hi hk
theorem BQ.MP {n:Nat}{ks:List Nat}{h1 hp:Hp}{b:Nat}{o:Option A7}(hb:b∈ks):BQ n ks (h1.set b o) hp=BQ n ks h1 hp:=by
 refine propext ⟨fun h i hi hk=> ?_,fun h i hi hk=> ?_⟩
 ·have:=h i hi hk;rwa [AZ _ _ _ _ (fun e=>hk (by rw [e];exact hb))] at this
 ·rw [AZ _ _ _ _ (fun e=>hk (by rw [e];exact hb))];exact h i hi hk
theorem BQ.nil {n:Nat}{h1 hp:Hp}(h:BQ n [] h1 hp):∀i,i < n→h1 i=hp i:=fun i hi=>h i hi (by simp)
def IU (ρ:Nat→Nat):Option A7→Option A7
 |none=>none
 |some o=>some (Iw ρ o)
def Gd (ρ:Nat→Nat)(h1:Hp)(us:BI):Prop:= ∀p∈us,p.2=none∨h1 (ρ p.1)=IU ρ p.2
theorem Gd.nil {ρ:Nat→Nat}{h1:Hp}:Gd ρ h1 [] = True:=eq_true fun p h=>by cases h
theorem Gd.cons {ρ:Nat→Nat}{h1:Hp}{b:Nat}{o:Option A7}{us:BI}:Gd ρ h1 ((b,o) :: us)=((o=none∨h1 (ρ b)=IU ρ o)∧Gd ρ h1 us):=by
 simp [Gd]
theorem Gd.get {ρ:Nat→Nat}{h1:Hp}{us:BI}(h:Gd ρ h1 us):∀p∈us,∀o,p.2=some o→h1 (ρ p.1)=some (Iw ρ o):=by
 intro p hp o e
 rcases h p hp with h | h
 ·rw [h] at e;cases e
 ·rw [h,e];rfl
theorem Y6 {ρ:Nat→Nat}{o:A7}:IU ρ (some o)=some (Iw ρ o):=rfl
theorem YE {ρ:Nat→Nat}{rw:Bool}{z:Nat}{vs:List Value}:Iw ρ (.cells rw z vs)= .cells rw z (Co ρ vs):=rfl
theorem kn {ρ:Nat→Nat}{es:List MapEntry}{CI:Nat}:Iw ρ (.map es CI)= .map (es.map (Rv ρ)) CI:=rfl
structure Tp (hp:Hp) (top:Nat) (bs:List Nat) (r:Value×BI×Nat) (v1:Value) (h1:Hp) (top1:Nat):Prop where
 nodup:bs.Nodup
 ge:∀b∈bs,top≤b
 tp:r.2.2=top+bs.length
 v:v1=Az (rn top bs top1) r.1
 BH:BQ top (r.2.1.map (·.1)) h1 hp
 I5:Gd (rn top bs top1) h1 r.2.1
theorem AR.Hq {P:Program}{f:FuncId}{args:List Value}{hp:Hp}{top:Nat}{r:Value×BI×Nat}
  (h:Cl hp top→PB top args→AR P f args hp top fun v1 h1 top1=>top≤top1∧∃bs,Tp hp top bs r v1 h1 top1) :
  AR P f args hp top fun v hp' top'=>v=r.1∧hp' = hp.Av r.2.1∧top' = r.2.2:=by
 intro φ own w args' ha H htop
 have hcl:=H.cl htop
 refine (h hcl (Vs.sc htop ha) φ own w args' ha H htop).mono ?_
 rintro e w' ⟨v1,h1,top1,v',φ1,rfl,⟨ht,bs,R⟩,W⟩
 have hlow:∀j,j < top→rn top bs top1 j=j:=fun j hj=>AB hj
 have hhigh:∀j,r.2.2≤j→top1≤rn top bs top1 j:=fun j hj=>by rw [Vn (by rw [←R.tp];exact hj)];exact Nat.le_refl _
 refine ⟨r.1,hp.Av r.2.1,r.2.2,v',φ1.via (rn top bs top1),rfl,⟨rfl,rfl,rfl⟩,⟨?_, ?_, ?_,W.k, ?_⟩⟩
 ·intro i L e
  have hi:i < top:=by
   rcases Nat.lt_or_ge i top with h | h
   ·exact h
   ·rw [htop i h] at e;cases e
  unfold Ren.via
  rw [hlow i hi];exact W.le _ _ e
 ·refine V.EP ?_
  rw [←R.v];exact W.v
 ·refine W.hr.EP W.top hhigh (by rw [R.tp];exact Y5 R.nodup R.ge) ?_
  exact ec hcl hlow r.2.1 (fun i hi hk=>R.BH i hi (fun hm=>by obtain ⟨p,h1,h2⟩:=List.mem_map.1 hm;exact hk p h1 h2)) R.I5.get
 ·intro j hj
  exact W.top _ (hhigh j hj)
theorem eI {ρ:Nat→Nat}:Az ρ undef=undef:=rfl
def sq (r:(Value×BI×Nat) ⊕ (Value×BI×Nat))(hp:Hp)(top:Nat)(v:Value)(h1:Hp)(top1:Nat):Prop:=match r with
 | .inl r=>top≤top1∧∃bs,Tp hp top bs r v h1 top1
 | .inr _=>False
def AB4 (r:(Value×BI×Nat) ⊕ (Value×BI×Nat))(hp:Hp)(top:Nat)(v:Value)(h1:Hp)(top1:Nat):Prop:=match r with
 | .inr r=>v=r.1∧top≤top1∧∃bs,Tp hp top bs (undef,r.2) undef h1 top1
 | .inl _=>False
theorem qK {r:Value×BI×Nat}{hp:Hp}{top:Nat}{v:Value}{h1:Hp}{top1:Nat}:sq (.inl r) hp top v h1 top1=(top≤top1∧∃bs,Tp hp top bs r v h1 top1):=rfl
theorem xq {r:Value×BI×Nat}{hp:Hp}{top:Nat}{v:Value}{h1:Hp}{top1:Nat}:AB4 (.inr r) hp top v h1 top1=(v=r.1∧top≤top1∧∃bs,Tp hp top bs (undef,r.2) undef h1 top1):=rfl
theorem E9.canon {φ φ1:Ren}{own:Nat→Prop}{w w':World}{hp h1:Hp}{top top1:Nat}{v1 v':Value}{bs:List Nat}{r:Value×BI×Nat}(hcl:Cl hp top)(htop:∀j,top≤j→φ j=none)(R:Tp hp top bs r v1 h1 top1)(W:E9 φ own w v1 h1 top1 v' w' φ1) :
  E9 φ own w r.1 (hp.Av r.2.1) r.2.2 v' w' (φ1.via (rn top bs top1)):=by
 have hlow:∀j,j < top→rn top bs top1 j=j:=fun j hj=>AB hj
 have hhigh:∀j,r.2.2≤j→top1≤rn top bs top1 j:=fun j hj=>by rw [Vn (by rw [←R.tp];exact hj)];exact Nat.le_refl _
 refine ⟨?_, ?_, ?_,W.k, ?_⟩
 ·intro i L e
  have hi:i < top:=by
   rcases Nat.lt_or_ge i top with h | h
   ·exact h
   ·rw [htop i h] at e;cases e
  unfold Ren.via
  rw [hlow i hi];exact W.le _ _ e
 ·refine V.EP ?_
  rw [←R.v];exact W.v
 ·refine W.hr.EP W.top hhigh (by rw [R.tp];exact Y5 R.nodup R.ge) ?_
  exact ec hcl hlow r.2.1 (fun i hi hk=>R.BH i hi (fun hm=>by obtain ⟨p,h1,h2⟩:=List.mem_map.1 hm;exact hk p h1 h2)) R.I5.get
 ·intro j hj
  exact W.top _ (hhigh j hj)
theorem A0.PC {P:Program}{f:FuncId}{fn:Func}(F:Aq P f fn){pre:List Value→Hp→Nat→Prop}{res:List Value→Hp→Nat→(Value×BI×Nat) ⊕ (Value×BI×Nat)}
  (h:∀args hp top,pre args hp top→Cl hp top→PB top args→EI P f args hp top (sq (res args hp top) hp top) (AB4 (res args hp top) hp top)):A0 P f (.pan pre res):=by
 refine ⟨⟨fn,F.toFTOk⟩,fun args hp top hp0=> ?_⟩
 intro φ own w args' ha H htop
 refine (h args hp top hp0 (H.cl htop) (Vs.sc htop ha) φ own w args' ha H htop).mono ?_
 rintro e w' (⟨v1,h1,top1,v',φ1,he,hx,W⟩ | ⟨v1,h1,top1,φ1,he,hx,W⟩)
 ·left
  generalize hr:res args hp top=r at hx
  cases r with
  |inr r=>exact hx.elim
  |inl r=>
   obtain ⟨_,bs,R⟩:=hx
   exact ⟨_,_,_,v',_,he,⟨r,rfl,rfl,rfl,rfl⟩,W.canon (H.cl htop) htop R⟩
 ·right
  generalize hr:res args hp top=r at hx
  cases r with
  |inl r=>exact hx.elim
  |inr r=>
   obtain ⟨hv,_,bs,R⟩:=hx
   exact ⟨_,_,_,_,he,⟨r,rfl,hv,rfl,rfl⟩,W.canon (H.cl htop) htop R⟩
theorem A0.Hq {P:Program}{f:FuncId}{fn:Func}(F:Aq P f fn){pre:List Value→Hp→Nat→Prop}{res:List Value→Hp→Nat→Value×BI×Nat}
  (h:∀args hp top,pre args hp top→Cl hp top→PB top args→AR P f args hp top fun v1 h1 top1=>top≤top1∧∃bs,Tp hp top bs (res args hp top) v1 h1 top1):A0 P f (.det pre res):=
 ⟨⟨fn,F.toFTOk⟩,fun args hp top hp0=>AR.Hq (h args hp top hp0)⟩
theorem BR.mk' {hp h1:Hp}{base:Nat}(bs:List Nat)(hcl:Cl hp base){fr' fr:C6}{us:BI}{n top:Nat}
  (nodup:bs.Nodup) (ge:∀b∈bs,base≤b) (hn:n=bs.length)
  (hfr:∀t v,Lc fr' t=some v→Lc fr t=some (Az (rn base bs top) v))
  (BH:BQ base (us.map (·.1)) h1 hp)
  (I5:Gd (rn base bs top) h1 us) :
  ∃ρ,BR ρ base ⟨fr',hp.Av us,base+n⟩ ⟨fr,h1,top⟩:=by
 subst hn
 have hlow:∀j,j < base→rn base bs top j=j:=fun j hj=>AB hj
 exact ⟨rn base bs top,hlow,fun j hj=>by rw [Vn hj];exact Nat.le_refl _,Y5 nodup ge,hfr,ec hcl hlow us (fun i hi hk=>BH i hi (fun hm=>by obtain ⟨p,h1,h2⟩:=List.mem_map.1 hm;exact hk p h1 h2)) I5.get⟩
theorem A0.Fm {P:Program}{f:FuncId}{fn:Func}(F:Aq P f fn){pre:List Value→Hp→Prop}{res:List Value→Hp→Value}(hr:∀args hp,pre args hp→plain 3 (res args hp)=true)
  (h:∀args hp,pre args hp→∀top,Cl hp top→PB top args→AR P f args hp top fun v hp' _=>v=res args hp∧BQ top [] hp' hp):A0 P f (.pure pre res):=
 .uN F hr fun args hp h0 top φ own w args' ha H htop=>(h args hp h0 top (H.cl htop) (Vs.sc htop ha) φ own w args' ha H htop).mono fun _ _ ⟨v,hp',top',v',φ',e,⟨h1,h2⟩,W⟩=>⟨v,hp',top',v',φ',e,⟨h1,h2.nil⟩,W⟩
theorem Gg {k:IntKind}{n:Int}(h:(if k.signed then -(2 ^ (k.bits - 1):Int) else 0)≤n)(h2:n < (if k.signed then 2 ^ (k.bits - 1) else 2 ^ k.bits:Int)):Ap k n=n:=by
 rw [Eo]
 unfold IntKind.wrap
 cases k <;> simp [IntKind.signed,IntKind.bits] at h h2 ⊢ <;> omega
theorem wrap64 {n:Int}(h: -9223372036854775808≤n)(h2:n < 9223372036854775808):Ap .i64 n=n:=Gg (by simpa [IntKind.signed,IntKind.bits] using h) (by simpa [IntKind.signed,IntKind.bits] using h2)
theorem Bf {k n:Nat}(h:k < n)(hn:n≤9223372036854775807):Ap .i64 ((k:Int)+1)=((k+1:Nat):Int):=by
 rw [wrap64 (by omega) (by omega)];omega
theorem Ae {b n:Nat}(hb:b < n){hp:Hp}{i:Nat}{o:Option A7}(hi:n≤i):(hp.set i o) b=hp b:=AZ _ _ _ _ (by omega)
theorem Bl {b n:Nat}(hb:b < n){hp:Hp}{i:Nat}{o:Option A7}(hi:n≤i):(hp.set b o) i=hp i:=AZ _ _ _ _ (by omega)
theorem Rt {k:IntKind}{n:Int}:Value.oneCell' (.int k n)=true:=rfl
theorem Ni {b:Bool}:Value.oneCell' (.bool b)=true:=rfl
theorem Rq {s:ByteArray}:Value.oneCell' (.string s)=true:=rfl
theorem uU {a:Option Addr}:Value.oneCell' (.pointer a)=true:=rfl
theorem fB {a:Option Addr}{n c:Nat}:Value.oneCell' (.slice a n c)=true:=rfl
theorem wI {a:Option Nat}:Value.oneCell' (.map a)=true:=rfl
theorem p7 {f:Fn}{a b:Array Value}:Value.oneCell' (.func f a b)=true:=rfl
theorem rJ:Value.oneCell' .nilFunc=true:=rfl
theorem gV {t:TypeId}{v:Value}:Value.oneCell' (.iface t v)=true:=rfl
theorem pP:Value.oneCell' .nilIface=true:=rfl
theorem wX {l:List Value}:A1 (.agg ⟨l⟩)=l:=rfl
theorem xZ {k:IntKind}{n:Int}:A1 (.int k n)= [.int k n]:=rfl
theorem qi {b:Bool}:A1 (.bool b)= [.bool b]:=rfl
theorem vV {s:ByteArray}:A1 (.string s)= [.string s]:=rfl
theorem xU {a:Option Addr}:A1 (.pointer a)= [.pointer a]:=rfl
theorem lX {a:Option Addr}{n c:Nat}:A1 (.slice a n c)= [.slice a n c]:=rfl
theorem vt {a:Option Nat}:A1 (.map a)= [.map a]:=rfl
theorem r7 {f:Fn}{a b:Array Value}:A1 (.func f a b)= [.func f a b]:=rfl
theorem pf:A1 .nilFunc= [.nilFunc]:=rfl
theorem fg {t:TypeId}{v:Value}:A1 (.iface t v)= [.iface t v]:=rfl
theorem qd:A1 .nilIface= [.nilIface]:=rfl
theorem u9 {a b:Nat}(h:a≤b):Nat.ble a b=true:=Nat.ble_eq_true_of_le h
theorem iM {n:Nat}{v:Value}:(List.replicate n [v]).flatten=DV n v:=by simp [DV]
theorem ADq {α:Type}{a:α}:List.replicate 1 a= [a]:=rfl
theorem ADs {α:Type}{a:α}:List.replicate 2 a= [a,a]:=rfl
theorem AD5 {α:Type}{a:α}:List.replicate 3 a= [a,a,a]:=rfl
theorem AD8 {α:Type}{a:α}:List.replicate 4 a= [a,a,a,a]:=rfl
theorem WY {cs xs:List Value}:A6 cs 0 xs=xs ++ cs.drop xs.length:=by simp [A6]
theorem PA {c:Value}{cs xs:List Value}{n:Nat}:A6 (c :: cs) (n+1) xs=c :: A6 cs n xs:=by
 simp [A6,Nat.add_right_comm]
theorem XB {c:Value}{cs xs:List Value}{n:Nat}:A6 (c :: cs) (1+n) xs=c :: A6 cs n xs:=by
 rw [Nat.add_comm];exact PA
theorem QK {cs:List Value}{v:Value}{n:Nat}(h:n < cs.length):A6 cs n [v] = cs.set n v:=by
 simp only [A6,List.length_singleton]
 rw [List.set_eq_take_append_cons_drop,if_pos h];simp
theorem mP {α:Type}{c:α}{l:List α}{n:Nat}:(c :: l)[1+n]? = l[n]? :=by rw [Nat.add_comm,List.getElem?_cons_succ]
theorem dH {α:Type}{c:α}{l:List α}{n:Nat}:(c :: l).drop (1+n)=l.drop n:=by rw [Nat.add_comm,List.drop_succ_cons]
theorem WW {n:Nat}{k:IntKind}:DV n (.int k 0)=(List.replicate n (0:Int)).map (Value.int k):=by simp [DV]
theorem iP {n:Nat}{v:Value}:(DV n v).length=n:=by simp [DV]
theorem bx {ρ:Nat→Nat}{k:IntKind}{l:List Int}:Co ρ (l.map (Value.int k))=l.map (Value.int k):=by
 rw [FK,List.map_map];rfl
theorem iJ {ρ:Nat→Nat}{l:List Value}{i:Nat}{v:Value}:Co ρ (l.set i v)=(Co ρ l).set i (Az ρ v):=by
 simp only [FK,List.map_set]
theorem Kq {k:IntKind}{l:List Int}{i:Nat}(h:i < l.length):((l.map (Value.int k))[i]?).getD undef= .int k ((l[i]?).getD 0):=by simp [h]
theorem jb {k:IntKind}{l:List Int}{i:Nat}{n:Int}:(l.map (Value.int k)).set i (.int k n)=(l.set i n).map (Value.int k):=by rw [List.map_set]
theorem Wd {k:IntKind}{l:List Int}{n:Nat}{v:Int}(h:n < l.length):A6 (l.map (Value.int k)) n [.int k v] = (l.set n v).map (Value.int k):=by
 rw [QK (by simpa using h),jb]
theorem LU (x y:Int):eY x y=decide (x=y):=by rw [VE];rfl
def Ge (ρ:Nat→Nat):C6→C6→Prop
 | [],_=>True
 | (t,v,g) :: l,fr=>Jk fr t=some (bif g then Az ρ v else v,g)∧Ge ρ l fr
theorem AU {ρ:Nat→Nat}:∀ {fr' fr:C6},Ge ρ fr' fr→∀t v,Lc fr' t=some v→Lc fr t=some (Az ρ v):=by
 intro fr'
 induction fr' with
 |nil=>intro fr _ t v h;cases h
 |cons p l ih=>
  obtain ⟨j,x,g⟩:=p
  intro fr h t v hv
  obtain ⟨h1,h2⟩:=h
  simp only [Lc,Jk] at hv ⊢
  cases hb:Nat.beq j t with
  |true=>
   rw [hb] at hv
   have:=Nat.eq_of_beq_eq_true hb
   subst this
   cases hv
   rw [h1]
   cases g with
   |true=>rfl
   |false=>rfl
  |false=>
   rw [hb] at hv
   exact ih h2 t v hv
end Go.Dm
namespace Go.Dm
structure B8 (α:Type) where
 enc:α→List Value
 dec:List Value→α
 size:Nat
 h:∀a,dec (enc a)=a
 len:∀a,(enc a).length=size
 one:∀a,A3 (enc a)=true
class B8.Plain {α:Type} (E:B8 α):Prop where
 pl:∀a ρ,Co ρ (E.enc a)=E.enc a
def B8.flat {α:Type}(E:B8 α)(l:List α):List Value:=(l.map E.enc).flatten
def at' {α:Type}[Inhabited α](l:List α)(i:Nat):α:=(l[i]?).getD default
theorem CO {α:Type}[Inhabited α](l:List α)(i:Nat)(h:i < l.length):at' l i=l[i]:=by simp [at',h]
section
variable {α:Type} {E:B8 α}
theorem B8.GS:E.flat [] = []:=rfl
theorem B8.DH (a:α)(l:List α):E.flat (a :: l)=E.enc a ++ E.flat l:=rfl
theorem B8.X7 (l m:List α):E.flat (l ++ m)=E.flat l ++ E.flat m:=by simp [B8.flat]
theorem B8.C3 (l:List α):(E.flat l).length=l.length * E.size:=by
 induction l with
 |nil=>simp [B8.GS]
 |cons a l ih=>rw [B8.DH,List.length_append,E.len,ih,List.length_cons,Nat.succ_mul];omega
theorem B8.Nu (l:List α):A3 (E.flat l)=true:=by
 have app:∀x y:List Value,A3 (x ++ y)=(A3 x && A3 y):=by
  intro x y
  induction x with
  |nil=>rfl
  |cons a x ih=>simp only [List.cons_append,A3,ih,Bool.and_assoc]
 induction l with
 |nil=>rfl
 |cons a l ih=>rw [B8.DH,app,E.one,ih];rfl
theorem B8.FO [E.Plain](l:List α)(ρ:Nat→Nat):Co ρ (E.flat l)=E.flat l:=by
 induction l with
 |nil=>rfl
 |cons a l ih=>rw [B8.DH,X4,B8.Plain.pl,ih]
theorem B8.SY (l:List α):∀i,(E.flat l).drop (i * E.size)=E.flat (l.drop i):=by
 induction l with
 |nil=>intro i;simp [B8.GS]
 |cons a l ih=>
  intro i
  cases i with
  |zero=>simp
  |succ i=>
   rw [B8.DH,show (i+1) * E.size=(E.enc a).length+i * E.size from by rw [E.len,Nat.succ_mul];omega,List.drop_append]
   rw [List.drop_eq_nil_of_le (by omega),List.nil_append,show (E.enc a).length+i * E.size - (E.enc a).length=i * E.size from by omega,ih]
   rfl
theorem B8.OR (l:List α):∀i,(E.flat l).take (i * E.size)=E.flat (l.take i):=by
 induction l with
 |nil=>intro i;simp [B8.GS]
 |cons a l ih=>
  intro i
  cases i with
  |zero=>simp [B8.GS]
  |succ i=>
   rw [B8.DH,show (i+1) * E.size=(E.enc a).length+i * E.size from by rw [E.len,Nat.succ_mul];omega,List.take_append]
   rw [List.take_of_length_le (by omega),show (E.enc a).length+i * E.size - (E.enc a).length=i * E.size from by omega,ih]
   rfl
theorem B8.Ns [Inhabited α](l:List α)(i:Nat)(h:i < l.length):((E.flat l).drop (i * E.size)).take E.size=E.enc (at' l i):=by
 rw [B8.SY,List.drop_eq_getElem_cons h,B8.DH,List.take_append,List.take_of_length_le (by rw [E.len];omega),E.len,Nat.sub_self,List.take_zero,List.append_nil,CO _ _ h]
end
inductive BP {α:Type} (E:B8 α) (hp:Hp):Value→List α→Prop
 |nils:BP E hp (.slice none 0 0) []
 |emp:BP E hp (.slice (some ⟨0,0,some 0⟩) 0 0) []
 |rows (b o c:Nat) (rw:Bool) (vs:List Value) (l:List α) (hb:hp b=some (.cells rw E.size vs)) (hv:(vs.drop o).take (l.length * E.size)=E.flat l) (ho:o+l.length * E.size≤vs.length) (hc:l.length≤c) (hn:l.length≤9223372036854775807) :
   BP E hp (.slice (some ⟨b,o,none⟩) l.length c) l
def Ag (v:Value)(d:Nat):Value:=match v with
 | .slice (some ⟨b,o,none⟩) _ _=> .pointer (some ⟨b,o+d,none⟩)
 |_=>undef
def B8.rd {α:Type}(E:B8 α)(hp:Hp)(v:Value):List α:=match v with
 | .slice (some ⟨b,o,none⟩) n _=>match hp b with
  |some (.cells _ _ vs)=>(List.range n).map fun i=>E.dec ((vs.drop (o+i * E.size)).take E.size)
  |_=> []
 |_=> []
section
variable {α:Type} [Inhabited α] {E:B8 α} {hp:Hp} {v:Value} {l:List α} {tt:AO} {t e:TypeId}
omit [Inhabited α] in
theorem BP.le (h:BP E hp v l):l.length≤9223372036854775807:=by cases h with
 |nils=>simp
 |emp=>simp
 |rows _ _ _ _ _ _ _ _ _ _ hn=>exact hn
omit [Inhabited α] in
omit [Inhabited α] in
theorem BP.K8 (h:BP E hp v l)(hk:kindOf tt t=some (.slice e)){hp':Hp}:CF tt hp' t v=(.int .i64 (l.length:Int),True):=by
 obtain ⟨i,hi,hd⟩:=Ah hk
 cases h <;> (unfold CF;simp [hk,D9,hi,hd])
theorem BP.at (h:BP E hp v l){i:Nat}(hi:i < l.length):∃b o c rw vs,v= .slice (some ⟨b,o,none⟩) l.length c∧hp b=some (.cells rw E.size vs)∧(vs.drop (o+i * E.size)).take E.size=E.enc (at' l i)∧o+(i+1) * E.size≤vs.length:=by
 cases h with
 |nils=>simp at hi
 |emp=>simp at hi
 |rows b o c rw vs l hb hv ho hc hn=>
  have h1:(i+1) * E.size≤l.length * E.size:=Nat.mul_le_mul_right _ hi
  refine ⟨b,o,c,rw,vs,rfl,hb, ?_,by omega⟩
  rw [←B8.Ns l i hi,←hv,List.drop_take,List.take_take,List.drop_drop]
  congr 1
  rw [Nat.succ_mul] at h1
  omega
theorem BP.rd (h:BP E hp v l):E.rd hp v=l:=by
 cases hh:h with
 |nils=>rfl
 |emp=>rfl
 |rows b o c rw vs l hb hv ho hc hn=>
  simp only [B8.rd,hb]
  apply List.ext_getElem
  ·simp
  ·intro i h1 h2
   obtain ⟨b',o',c',rw',vs',e1,e2,e3,e4⟩:=h.at h2
   cases e1
   rw [hb] at e2;cases e2
   simp only [List.getElem_map,List.getElem_range,e3,E.h,CO _ _ h2]
theorem BP.idx (h:BP E hp v l){j:TI}(hk:kindOf tt t=some (.slice e))(hj:tt e=some j)(hs:j.size=E.size){k:IntKind}{n:Int}(h0:0≤n)(h1:n < l.length) :
  Aa tt t v (.int k n)=(Ag v (n.toNat * E.size),True):=by
 obtain ⟨b,o,c,rw,vs,rfl,hb,_⟩:=h.at (i:=n.toNat) (by omega)
 unfold Aa
 simp [hk,hj,hs,Ag,h0,h1]
theorem BP.load (h:BP E hp v l){j:TI}(hj:tt e=some j)(hs:j.size=E.size)(ha:H6 j.ud=true){i:Nat}(hi:i < l.length) :
  A4 tt hp e (Ag v (i * E.size))=(.agg ⟨E.enc (at' l i)⟩,True):=by
 obtain ⟨b,o,c,rw,vs,rfl,hb,hrow,hlen⟩:=h.at hi
 unfold A4
 rw [Nat.succ_mul] at hlen
 simp [Ag,hj,hb,ha,hs,hrow]
 omega
theorem BP.cell (h:BP E hp v l){j:TI}(hj:tt e=some j)(ha:H6 j.ud=false){i f:Nat}(hi:i < l.length)(hf:f < E.size) :
  A4 tt hp e (Ag v (i * E.size+f))=((E.enc (at' l i))[f]?.getD undef,True):=by
 obtain ⟨b,o,c,rw,vs,rfl,hb,hrow,hlen⟩:=h.at hi
 unfold A4
 rw [Nat.succ_mul] at hlen
 have e1:vs[o+(i * E.size+f)]? = (E.enc (at' l i))[f]? :=by
  rw [←hrow,List.getElem?_take,List.getElem?_drop,if_pos hf,Nat.add_assoc]
 simp only [Ag,hj,hb,ha,e1]
 simp only [Prod.mk.injEq,true_and,eq_iff_iff,iff_true]
 omega
theorem BP.field (h:BP E hp v l){i:Nat}(hi:i < l.length){s:TypeId}{f o d:Nat}(hf:∀b o,AX tt s (.pointer (some ⟨b,o,none⟩)) f=some (.pointer (some ⟨b,o+d,none⟩))) :
  AF tt s (Ag v o) f=(Ag v (o+d),True):=by
 obtain ⟨b,o',c,rw,vs,rfl,hb,_⟩:=h.at hi
 unfold AF Ag
 simp only [hf,Nat.add_assoc]
omit [Inhabited α] in
theorem BP.mono {hp':Hp}(h:BP E hp v l)(hs:∀b o n c,v= .slice (some ⟨b,o,none⟩) n c→hp' b=hp b):BP E hp' v l:=by
 cases h with
 |nils=>exact .nils
 |emp=>exact .emp
 |rows b o c rw vs l hb hv ho hc hn=>exact .rows b o c rw vs l (by rw [hs _ _ _ _ rfl];exact hb) hv ho hc hn
omit [Inhabited α] in
theorem BP.low (h:BP E hp v l){n:Nat}(hcl:Cl hp n):Sc n v:=by
 cases h with
 |nils=>trivial
 |emp=>trivial
 |rows b o c rw vs l hb hv ho hc hn=>exact hcl.lt _ _ hb
omit [Inhabited α] in
theorem BP.set (h:BP E hp v l){n i:Nat}{o:Option A7}(hl:Sc n v)(hi:n≤i):BP E (hp.set i o) v l:=by
 refine h.mono fun b o n' c e=> ?_
 subst e
 exact AZ _ _ _ _ (by simp only [Sc] at hl;omega)
omit [Inhabited α] in
omit [Inhabited α] in
theorem Bh {tt:AO}{hp:Hp}{v:Value}{n:Nat}(hl:Sc n v){i d:Nat}{o:Option A7}{t:TypeId}(hi:n≤i):A4 tt (hp.set i o) t (Ag v d)=A4 tt hp t (Ag v d):=by
 cases v with
 |slice a m c=>
  cases a with
  |none=>rfl
  |some a=>
   obtain ⟨b,q,s⟩:=a
   cases s with
   |some s=>rfl
   |none=>
   simp only [Sc] at hl
   have e:=AZ hp i b o (by omega)
   simp only [Ag,A4]
   cases tt t <;> simp only [e]
 |_=>rfl
theorem zq {α:Type}{E:B8 α}{l:List α}{tt:AO}{hp hp0:Hp}{v:Value}{n:Nat}(h:BP E hp0 v l)(hl:Sc n v){i:Nat}{o:Option A7}{t e:TypeId}{lo hi:Option Value}(hk:kindOf tt t=some (.slice e))(hi':n≤i):Bv tt (hp.set i o) t v lo hi=Bv tt hp t v lo hi:=by
 cases h with
 |nils=>unfold Bv;simp only [hk]
 |emp=>
  obtain ⟨i1,hi1,hd⟩:=Ah hk
  unfold Bv
  simp only [hk,D6,hi1,hd]
 |rows b q c rw vs l hb hv ho hc hn=>
  simp only [Sc] at hl
  have e:=AZ hp i b o (by omega)
  unfold Bv
  simp only [hk,e]
theorem dc {tt:AO}{hp:Hp}{t:TypeId}{b o:Nat}:A4 tt hp t (.pointer (some ⟨b,o,none⟩))=(match tt t with
  |some i=>match hp b with
   |some (.cells _ _ vs)=>match H6 i.ud with
    |true=>(.agg ⟨(vs.drop o).take i.size⟩,o+i.size≤vs.length)
    |false=>((vs[o]?).getD undef,o < vs.length)
   |_=>(undef,False)
  |none=>(undef,False)):=by
 unfold A4
 cases tt t with
 |none=>rfl
 |some i=>rfl
theorem Y7 {tt:AO}{hp:Hp}{t:TypeId}{b o:Nat}{x:Value}:Bg tt hp t (.pointer (some ⟨b,o,none⟩)) x=(match tt t with
  |some i=>match hp b with
   |some (.cells true Bp vs)=>([(b,some (.cells true Bp (A6 vs o (A1 x))))],Hi x i.size∧o+i.size≤vs.length∧A3 (A1 x)=true)
   |_=>([],False)
  |none=>([],False)):=by
 unfold Bg
 cases tt t with
 |none=>rfl
 |some i=>rfl
theorem Q0 {tt:AO}{t:TypeId}{b o:Nat}{ix:Value}:Aa tt t (.pointer (some ⟨b,o,none⟩)) ix=(match kindOf tt t with
  |some (.array len e)=>match tt e with
   |some j=>(.pointer (some ⟨b,o+(intOf ix).toNat * j.size,none⟩),SD ix∧0≤intOf ix∧intOf ix < (len:Int))
   |none=>(undef,False)
  |_=>(undef,False)):=by
 unfold Aa
 cases kindOf tt t with
 |none=>rfl
 |some d=>cases d <;> rfl
inductive GQ {α:Type} (E:B8 α) (hp:Hp) (v:Value):Prop
 |mk (l:List α) (h:BP E hp v l)
theorem BP.P {α:Type}{E:B8 α}{hp:Hp}{v:Value}{l:List α}(h:BP E hp v l):GQ E hp v=True:=eq_true ⟨l,h⟩
theorem BP.oc {α:Type}{E:B8 α}{hp:Hp}{v:Value}{l:List α}(h:BP E hp v l):Value.oneCell' v=true:=by cases h <;> rfl
theorem BP.cl {α:Type}{E:B8 α}{hp:Hp}{v:Value}{l:List α}(h:BP E hp v l):A1 v= [v]:=by cases h <;> rfl
theorem BP.back {α:Type}{E:B8 α}{hp:Hp}{v:Value}{l:List α}{n i:Nat}{o:Option A7}(h:BP E (hp.set i o) v l)(hl:Sc n v)(hi:n≤i):BP E hp v l:=
 h.mono fun b q n' c e=>by subst e;exact (AZ _ _ _ _ (by simp only [Sc] at hl;omega)).symm
theorem ADD {α:Type}{E:B8 α}{hp:Hp}{v:Value}{n:Nat}(hl:Sc n v){i:Nat}{o:Option A7}(hi:n≤i):GQ E (hp.set i o) v=GQ E hp v:=
 propext ⟨fun ⟨l,h⟩=>⟨l,h.back hl hi⟩,fun ⟨l,h⟩=>⟨l,h.set hl hi⟩⟩
theorem AAc {α:Type}{E:B8 α}{hp:Hp}{v:Value}{n:Nat}(hl:Sc n v){i:Nat}{o:Option A7}(hi:n≤i):E.rd (hp.set i o) v=E.rd hp v:=by
 cases v with
 |slice a m c=>
  cases a with
  |none=>rfl
  |some a=>
   obtain ⟨b,q,s⟩:=a
   cases s with
   |some s=>rfl
   |none=>
   simp only [Sc] at hl
   have e:=AZ hp i b o (by omega)
   simp only [B8.rd,e]
 |_=>rfl
theorem Rn {tt:AO}{t:TypeId}{b o n c:Nat}{ix:Value}:Aa tt t (.slice (some ⟨b,o,none⟩) n c) ix=(match kindOf tt t with
  |some (.slice e)=>match tt e with
   |some j=>(.pointer (some ⟨b,o+(intOf ix).toNat * j.size,none⟩),SD ix∧0≤intOf ix∧intOf ix < (n:Int))
   |none=>(undef,False)
  |_=>(undef,False)):=by
 unfold Aa
 cases kindOf tt t with
 |none=>rfl
 |some d=>cases d <;> rfl
def Jo (sz:Nat)(v:Value)(a b:Nat):Value:=match v with
 | .slice (some ⟨k,o,none⟩) _ c=> .slice (some ⟨k,o+a * sz,none⟩) (b - a) (c - a)
 |v=>v
omit [Inhabited α] in
theorem BP.cV (h:BP E hp v l){j:TI}(hk:kindOf tt t=some (.slice e))(hj:tt e=some j){k:IntKind}{n:Int}(h0:0≤n)(h1:n≤l.length) :
  Bv tt hp t v none (some (.int k n))=(Jo E.size v 0 n.toNat,True):=by
 cases h with
 |nils=>
  have:n=0:=by simp at h1;omega
  subst this
  simp [Bv,hk,hj,ED,Bz,Jo]
 |emp=>
  have:n=0:=by simp at h1;omega
  subst this
  obtain ⟨i,hi,hd⟩:=Ah hk
  have hb:FY none (some (.int k 0)) 0 0=some (0,0):=rfl
  simp [Bv,hk,Jo,D6,hi,hd,hj,hb]
 |rows b o c rw vs l hb hv ho hc hn=>
  simp only [Bv,hk,hj,hb,ED,Bz,Jo,Vm,intOf_int,Nat.zero_mul,Nat.add_zero,Nat.sub_zero,true_and,Prod.mk.injEq,eq_iff_iff,iff_true]
  omega
omit [Inhabited α] in
theorem BP.take (h:BP E hp v l){n:Nat}(h1:n≤l.length):BP E hp (Jo E.size v 0 n) (l.take n):=by
 cases h with
 |nils=>simp [Jo];exact .nils
 |emp=>simp [Jo];exact .emp
 |rows b o c rw vs l hb hv ho hc hn=>
  have hl:(l.take n).length=n:=by rw [List.length_take];omega
  have h2:n * E.size≤l.length * E.size:=Nat.mul_le_mul_right _ h1
  have:=BP.rows (E:=E) (hp:=hp) b o c rw vs (l.take n) hb (by rw [hl,←B8.OR,←hv,List.take_take,Nat.min_eq_left h2]) (by rw [hl];omega) (by omega) (by omega)
  rw [hl] at this
  simpa [Jo] using this
end
def Fy (sz:Nat)(v:Value)(a:Nat):Value:=match v with
 | .slice (some ⟨k,o,none⟩) n c=>if a=0∨a < c then .slice (some ⟨k,o+a * sz,none⟩) (n - a) (c - a) else .slice (some ⟨0,0,some 0⟩) 0 0
 |v=>v
theorem BP.dE {α:Type}{E:B8 α}{hp:Hp}{v:Value}{l:List α}{tt:AO}{t e:TypeId}(h:BP E hp v l){j:TI}(hk:kindOf tt t=some (.slice e))(hj:tt e=some j)(hs:j.size=E.size){k:IntKind}{n:Int}(h0:0≤n)(h1:n≤l.length) :
  Bv tt hp t v (some (.int k n)) none=(Fy E.size v n.toNat,True):=by
 cases h with
 |nils=>
  have:n=0:=by simp at h1;omega
  subst this
  simp [Bv,hk,hj,ED,Bz,Fy]
 |emp=>
  have:n=0:=by simp at h1;omega
  subst this
  obtain ⟨i,hi,hd⟩:=Ah hk
  have hb:FY (some (.int k 0)) none 0 0=some (0,0):=rfl
  simp [Bv,hk,Fy,D6,hi,hd,hj,hb]
 |rows b o c rw vs l hb hv ho hc hn=>
  simp only [Bv,hk,hj,hb,ED,Bz,Fy,Vm,intOf_int,hs,Int.toNat_natCast,true_and,Prod.mk.injEq,eq_iff_iff,iff_true,true_or,and_true]
  refine ⟨?_,by omega⟩
  by_cases hh:n.toNat=0∨n < (c:Int)
  ·rw [if_pos hh,if_pos (by omega)]
  ·rw [if_neg hh,if_neg (by omega)]
theorem BP.drop {α:Type}{E:B8 α}{hp:Hp}{v:Value}{l:List α}(h:BP E hp v l){n:Nat}(h1:n≤l.length):BP E hp (Fy E.size v n) (l.drop n):=by
 cases h with
 |nils=>simp [Fy];exact .nils
 |emp=>simp [Fy];exact .emp
 |rows b o c rw vs l hb hv ho hc hn=>
  simp only [Fy]
  have hl:(l.drop n).length=l.length - n:=by rw [List.length_drop]
  have h2:n * E.size≤l.length * E.size:=Nat.mul_le_mul_right _ h1
  split
  ·have e1:(l.length - n) * E.size=l.length * E.size - n * E.size:=by rw [Nat.sub_mul]
   have:=BP.rows (E:=E) (hp:=hp) b (o+n * E.size) (c - n) rw vs (l.drop n) hb (by
    rw [hl,e1,←B8.SY,←hv,List.drop_take,List.drop_drop]) (by rw [hl,e1];omega) (by omega) (by omega)
   rw [hl] at this
   exact this
  ·rename_i hh
   have:l.drop n= []:=List.drop_eq_nil_of_le (by omega)
   rw [this];exact .emp
def AA {α:Type}(b:Nat)(l:List α):Value:=match l with
 | []=> .slice none 0 0
 |_ :: l=> .slice (some ⟨b,0,none⟩) (l.length+1) (l.length+1)
def AD {α:Type}(E:B8 α)(l:List α):Option A7:=match l with
 | []=>none
 |a :: l=>some (.cells true E.size (E.flat (a :: l)))
section
variable {α:Type} {E:B8 α} {hp:Hp} {b:Nat} {l:List α} {v:Value}
theorem GL:AD E ([] :List α)=none:=rfl
theorem jt {α:Type}{E:B8 α}{l:List α}:yg (AD E l)=True:=by cases l <;> exact eq_true (by first | trivial | rfl)
theorem Ex:(AA b ([] :List α))= .slice none 0 0:=rfl
theorem BP.JF (h:hp b=AD E l)(hn:l.length≤9223372036854775807):BP E hp (AA b l) l:=by
 cases l with
 |nil=>exact .nils
 |cons a l=>
  have:=BP.rows (E:=E) (hp:=hp) b 0 (l.length+1) true (E.flat (a :: l)) (a :: l) h (by rw [List.drop_zero,List.take_of_length_le];rw [B8.C3];exact Nat.le_refl _) (by rw [B8.C3];omega) (by simp) (by omega)
  simpa [AA] using this
theorem BP.own (h:hp b=AD E l)(hn:l.length≤16777216):BP E hp (AA b l) l:=BP.JF h (by omega)
theorem Ab {ρ:Nat→Nat}:Az ρ (AA b l)=AA (ρ b) l:=by cases l <;> rfl
theorem AP [E.Plain]{ρ:Nat→Nat}:IU ρ (AD E l)=AD E l:=by
 cases l with
 |nil=>rfl
 |cons a l=>simp only [AD,IU,Iw,B8.FO]
def CC (b:Nat)(l:List α)(top:Nat)(o:Option A7):BI:=match l with
 | []=> [(top,o)]
 |_ :: _=> [(b,none),(top,o)]
theorem FF {top:Nat}{o:Option A7}(h:hp b=AD E l):hp.Av (CC b l top o)=(hp.set b none).set top o:=by
 cases l with
 |nil=>
  have:hp.set b none=hp:=by
   funext i
   unfold Hp.set
   split
   ·rename_i e;rw [e,h];rfl
   ·rfl
  rw [this];rfl
 |cons a l=>rfl
theorem BP.HC (h:BP E hp v l):HC v=some l.length:=by cases h <;> rfl
theorem BP.Cq (h:BP E hp v l):Cq hp E.size l.length v=some (E.flat l):=by
 cases h with
 |nils=>simp [Dm.Cq,B8.GS]
 |emp=>simp [Dm.Cq,B8.GS]
 |rows b' o c rw vs l' hb' hv ho hc hn'=>
  simp only [Dm.Cq,hb',hv,B8.C3,Nat.beq_refl]
theorem Gv {tt:AO}{top t0 t1 e:Nat}{i1 j:TI}{x:Value}{m:List α}(h0:kindOf tt t0=some (.slice e))(h1:tt t1=some i1)(hi:EA i1.ud=false)(hj:tt e=some j)(hs:j.size=E.size)(hby:Nat.ble j.bytes 65536=true)
  (h:hp b=AD E l) (hx:BP E hp x m) (hn:C5 (l.length+m.length) j.bytes=true) :
  AM tt hp top [t0,t1] (AA b l) x=some (AA top (l ++ m),CC b l top (AD E (l ++ m)),top+1):=by
 obtain ⟨i,hi0,hd⟩:=Ah h0
 have hf:=hx.Cq
 have hlx:=hx.HC
 cases l with
 |nil=>
  cases m with
  |nil=>
   simp only [List.length_nil] at hf hlx
   simp [AM,hi0,h1,hlx,hi,hd,hj,hs,hf,hby,B8.GS,A3,AA,AD,CC]
  |cons y m=>
   have h2:C5 (y :: m).length j.bytes=true:=by simpa using hn
   have h3:=E.Nu (y :: m)
   have h4:Nat.beq (E.flat (y :: m)).length ((y :: m).length * E.size)=true:=by rw [B8.C3];simp
   have h5:Nat.beq (y :: m).length 0=false:=rfl
   simp only [List.length_cons] at hf hlx h2 h4 h5
   simp only [AM,hi0,h1,hlx,hi,hd,hj,hs,hf,hby,h2,h3,h4,h5,AA,AD,CC,List.nil_append,Bool.and_self,Bool.true_and]
 |cons a l=>
  have hb:hp b=some (.cells true E.size (E.flat (a :: l))):=h
  have h3:=E.Nu m
  have h4:Nat.beq (E.flat m).length (m.length * E.size)=true:=by rw [B8.C3];simp
  have h5:Nat.beq E.size E.size=true:=by simp
  have h6:(Nat.ble (l.length+1+m.length) (l.length+1) && !Nat.beq (l.length+1) (l.length+1))=false:=by
   rw [Nat.beq_refl];simp
  have h7:(Nat.beq (0+(l.length+1) * E.size) (E.flat (a :: l)).length && C5 (l.length+1+m.length) j.bytes)=true:=by
   rw [Bool.and_eq_true]
   exact ⟨by rw [B8.C3];simp,hn⟩
  simp only [AM,hi0,h1,hlx,hi,hd,hj,hs,hf,hby,hb,h3,h4,h5,h6,h7,AA,AD,CC,Bool.and_self,List.cons_append,List.drop_zero]
  simp only [List.length_append,B8.DH,B8.X7,List.append_assoc]
  have e1:l.length+1+m.length=l.length+m.length+1:=by omega
  rw [e1]
theorem PI {tt:AO}{top t0 t1 e:Nat}{i1 j:TI}{x:Value}{m:List α}(h0:kindOf tt t0=some (.slice e))(h1:tt t1=some i1)(hi:EA i1.ud=false)(hj:tt e=some j)(hs:j.size=E.size)(hby:Nat.ble j.bytes 65536=true)
  (h:hp b=AD E l) (hx:BP E hp x m) (hn:l.length+m.length≤16777216) :
  AM tt hp top [t0,t1] (AA b l) x=some (AA top (l ++ m),CC b l top (AD E (l ++ m)),top+1):=
 Gv h0 h1 hi hj hs hby h hx (CL hn (Nat.le_of_ble_eq_true hby))
theorem M9 {tt:AO}{top t0 t1 e:Nat}{i1 j:TI}{x:Value}{m:List α}(h0:kindOf tt t0=some (.slice e))(h1:tt t1=some i1)(hi:EA i1.ud=false)(hj:tt e=some j)(hs:j.size=E.size)(hby:Nat.ble j.bytes 65536=true)
  (hx:BP E hp x m) (hn:C5 m.length j.bytes=true) :
  AM tt hp top [t0,t1] (.slice none 0 0) x=some (AA top m, [(top,AD E m)],top+1):=by
 obtain ⟨i,hi0,hd⟩:=Ah h0
 have hf:=hx.Cq
 have hlx:=hx.HC
 cases m with
 |nil=>
  simp only [List.length_nil] at hf hlx
  simp [AM,hi0,h1,hlx,hi,hd,hj,hs,hf,hby,B8.GS,A3,AA,AD]
 |cons y m=>
  have h2:C5 (y :: m).length j.bytes=true:=hn
  have h3:=E.Nu (y :: m)
  have h4:Nat.beq (E.flat (y :: m)).length ((y :: m).length * E.size)=true:=by rw [B8.C3];simp
  have h5:Nat.beq (y :: m).length 0=false:=rfl
  simp only [List.length_cons] at hf hlx h2 h4 h5
  simp only [AM,hi0,h1,hlx,hi,hd,hj,hs,hf,hby,h2,h3,h4,h5,AA,AD,Bool.and_self,Bool.true_and]
theorem PV {tt:AO}{top t0 t1 e:Nat}{i1 j:TI}{x:Value}{m:List α}(h0:kindOf tt t0=some (.slice e))(h1:tt t1=some i1)(hi:EA i1.ud=false)(hj:tt e=some j)(hs:j.size=E.size)(hby:Nat.ble j.bytes 65536=true)
  (hx:BP E hp x m) (hn:m.length≤16777216) :
  AM tt hp top [t0,t1] (.slice none 0 0) x=some (AA top m, [(top,AD E m)],top+1):=
 M9 h0 h1 hi hj hs hby hx (CL hn (Nat.le_of_ble_eq_true hby))
theorem tK (h:hp b=AD E l)(hn:l.length≤16777216):GQ E hp (AA b l)=True:=(BP.own h hn).P
theorem MJ [Inhabited α](h:hp b=AD E l)(hn:l.length≤16777216):E.rd hp (AA b l)=l:=(BP.own h hn).rd
theorem aH:A1 (AA b l)= [AA b l]:=by cases l <;> rfl
theorem ay:Value.oneCell' (AA b l)=true:=by cases l <;> rfl
theorem C0 [Inhabited α]{tt:AO}{top t0 t1 e:Nat}{i1 j:TI}{x:Value}(h0:kindOf tt t0=some (.slice e))(h1:tt t1=some i1)(hi:EA i1.ud=false)(hj:tt e=some j)(hs:j.size=E.size)(hby:Nat.ble j.bytes 65536=true)
  (h:hp b=AD E l) (hx:GQ E hp x) (hn:l.length+(E.rd hp x).length≤16777216) :
  AM tt hp top [t0,t1] (AA b l) x=some (AA top (l ++ E.rd hp x),CC b l top (AD E (l ++ E.rd hp x)),top+1):=by
 obtain ⟨m,hm⟩:=hx
 rw [hm.rd] at hn ⊢
 exact PI h0 h1 hi hj hs hby h hm hn
theorem uf (h:hp b=AD E l)(hn:l.length≤9223372036854775807):GQ E hp (AA b l)=True:=(BP.JF h hn).P
theorem qZ [Inhabited α](h:hp b=AD E l)(hn:l.length≤9223372036854775807):E.rd hp (AA b l)=l:=(BP.JF h hn).rd
theorem Ce [Inhabited α]{tt:AO}{top t0 t1 e:Nat}{i1 j:TI}{x:Value}(h0:kindOf tt t0=some (.slice e))(h1:tt t1=some i1)(hi:EA i1.ud=false)(hj:tt e=some j)(hs:j.size=E.size)(hby:Nat.ble j.bytes 65536=true)
  (hx:GQ E hp x) (hn:C5 (E.rd hp x).length j.bytes=true) :
  AM tt hp top [t0,t1] (.slice none 0 0) x=some (AA top (E.rd hp x), [(top,AD E (E.rd hp x))],top+1):=by
 obtain ⟨m,hm⟩:=hx
 rw [hm.rd] at hn ⊢
 exact M9 h0 h1 hi hj hs hby hm hn
theorem BP.one {k:Nat}{a:α}(h:hp k=some (.cells true E.size (E.enc a))):BP E hp (.slice (some ⟨k,0,none⟩) 1 1) [a]:=by
 have hl:=E.len a
 exact BP.rows (E:=E) (hp:=hp) k 0 1 true (E.enc a) [a] h (by simp [B8.flat,←hl]) (by simp [hl]) (by simp) (by simp)
theorem Cx [Inhabited α]{tt:AO}{top t0 t1 e:Nat}{i1 j:TI}{x:Value}(h0:kindOf tt t0=some (.slice e))(h1:tt t1=some i1)(hi:EA i1.ud=false)(hj:tt e=some j)(hs:j.size=E.size)(hby:Nat.ble j.bytes 65536=true)
  (hx:GQ E hp x) (hn:(E.rd hp x).length≤16777216) :
  AM tt hp top [t0,t1] (.slice none 0 0) x=some (AA top (E.rd hp x), [(top,AD E (E.rd hp x))],top+1):=by
 obtain ⟨m,hm⟩:=hx
 rw [hm.rd] at hn ⊢
 exact PV h0 h1 hi hj hs hby hm hn
theorem Xo {tt:AO}{top t0 t1 e k:Nat}{i1 j:TI}{cs:List Value}(h0:kindOf tt t0=some (.slice e))(h1:tt t1=some i1)(hi:EA i1.ud=false)(hj:tt e=some j)(hs:j.size=E.size)(hby:Nat.ble j.bytes 65536=true)
  (h:hp b=AD E l) (hk:hp k=some (.cells true E.size cs)) (hc:E.enc (E.dec cs)=cs) (hn:l.length < 16777216) :
  AM tt hp top [t0,t1] (AA b l) (.slice (some ⟨k,0,none⟩) 1 1)=some (AA top (l ++ [E.dec cs]),CC b l top (AD E (l ++ [E.dec cs])),top+1):=
 PI h0 h1 hi hj hs hby h (BP.one (by rw [hc];exact hk)) (by simp only [List.length_singleton];omega)
def cellsOf:Option A7→List Value
 |some (.cells _ _ cs)=>cs
 |_=> []
theorem U7 {rw:Bool}{z:Nat}{cs:List Value}:cellsOf (some (.cells rw z cs))=cs:=rfl
theorem Ng {tt:AO}{top t0 t1 e k:Nat}{i1 j:TI}(h0:kindOf tt t0=some (.slice e))(h1:tt t1=some i1)(hi:EA i1.ud=false)(hj:tt e=some j)(hs:j.size=E.size)(hby:Nat.ble j.bytes 65536=true)
  (h:hp b=AD E l) (hk:hp k=some (.cells true E.size (cellsOf (hp k)))) (hc:E.enc (E.dec (cellsOf (hp k)))=cellsOf (hp k)) (hn:l.length < 16777216) :
  AM tt hp top [t0,t1] (AA b l) (.slice (some ⟨k,0,none⟩) 1 1)=some (AA top (l ++ [E.dec (cellsOf (hp k))]),CC b l top (AD E (l ++ [E.dec (cellsOf (hp k))])),top+1):=
 Xo h0 h1 hi hj hs hby h hk hc hn
theorem Ci {tt:AO}{top t0 t1 e k:Nat}{i1 j:TI}(h0:kindOf tt t0=some (.slice e))(h1:tt t1=some i1)(hi:EA i1.ud=false)(hj:tt e=some j)(hs:j.size=E.size)(hby:Nat.ble j.bytes 65536=true)
  (hk:hp k=some (.cells true E.size (cellsOf (hp k)))) (hc:E.enc (E.dec (cellsOf (hp k)))=cellsOf (hp k)) :
  AM tt hp top [t0,t1] (.slice none 0 0) (.slice (some ⟨k,0,none⟩) 1 1)=some (AA top [E.dec (cellsOf (hp k))], [(top,AD E [E.dec (cellsOf (hp k))])],top+1):=
 PV h0 h1 hi hj hs hby (BP.one (by rw [hc];exact hk)) (by simp)
theorem XA [Inhabited α]{a':α}{xs:List Value}{f:Nat}:∀ {l:List α} {i:Nat},i < l.length→f+xs.length≤E.size→E.enc a' = A6 (E.enc (at' l i)) f xs→A6 (E.flat l) (i * E.size+f) xs=E.flat (l.set i a'):=by
 intro l
 induction l with
 |nil=>intro i h;simp at h
 |cons a l ih=>
  intro i hi hf he
  have hl:=E.len a
  cases i with
  |zero=>
   have h0:at' (a :: l) 0=a:=rfl
   rw [h0] at he
   simp only [List.set_cons_zero,B8.DH,he,A6,Nat.zero_mul,Nat.zero_add]
   rw [List.take_append_of_le_length (by omega),List.drop_append_of_le_length (by omega)]
   simp only [List.append_assoc]
  |succ i=>
   have h1:at' (a :: l) (i+1)=at' l i:=by simp [at']
   rw [h1] at he
   have:=ih (by simpa using hi) hf he
   simp only [List.set_cons_succ,B8.DH,←this,A6]
   have e:(i+1) * E.size+f=(E.enc a).length+(i * E.size+f):=by rw [hl,Nat.succ_mul];omega
   rw [e,List.take_length_add_append,Nat.add_assoc,List.drop_length_add_append]
   simp only [List.append_assoc]
theorem ef {i:Nat}{a:α}(h:i < l.length):AD E (l.set i a)=some (.cells true E.size (E.flat (l.set i a))):=by
 cases l with
 |nil=>simp at h
 |cons b l=>cases i <;> rfl
theorem gR {i:Nat}(h:i < l.length):AD E l=some (.cells true E.size (E.flat l)):=by
 cases l with
 |nil=>simp at h
 |cons b l=>rfl
theorem ca {i d:Nat}(h:i < l.length):Ag (AA b l) d= .pointer (some ⟨b,d,none⟩):=by
 cases l with
 |nil=>simp at h
 |cons a l=>simp [AA,Ag]
theorem TL [Inhabited α]{tt:AO}{t:TypeId}{j:TI}{x:Value}{i f:Nat}(hj:tt t=some j)(h:hp b=AD E l)(hi:i < l.length)(hx:Hi x j.size)(hf:f+j.size≤E.size)(h1:A3 (A1 x)=true)
  (he:E.enc (E.dec (A6 (E.enc (at' l i)) f (A1 x)))=A6 (E.enc (at' l i)) f (A1 x)) :
  Bg tt hp t (Ag (AA b l) (i * E.size+f)) x=([(b,AD E (l.set i (E.dec (A6 (E.enc (at' l i)) f (A1 x)))))],True):=by
 have hlen:(A1 x).length=j.size:=hx
 have h2:(i+1) * E.size≤l.length * E.size:=Nat.mul_le_mul_right _ hi
 rw [Nat.succ_mul] at h2
 rw [ca hi,ef hi]
 unfold Bg
 rw [gR hi] at h
 simp only [hj,h]
 rw [XA hi (by rw [hlen];exact hf) he,B8.C3]
 have h3:i * E.size+f+j.size≤l.length * E.size:=by omega
 simp [hx,h1,h3]
theorem F3 [Inhabited α]{tt:AO}{t:TypeId}{j:TI}{cs:List Value}{i:Nat}(hj:tt t=some j)(hs:j.size=E.size)(h:hp b=AD E l)(hi:i < l.length)(hc:E.enc (E.dec cs)=cs)(h1:A3 cs=true) :
  Bg tt hp t (Ag (AA b l) (i * E.size)) (.agg ⟨cs⟩)=([(b,AD E (l.set i (E.dec cs)))],True):=by
 have hl:cs.length=E.size:=by rw [←hc];exact E.len _
 have e:A6 (E.enc (at' l i)) 0 cs=cs:=by
  simp only [A6,List.take_zero,List.nil_append,Nat.zero_add]
  rw [List.drop_eq_nil_of_le (by rw [E.len,hl];exact Nat.le_refl _),List.append_nil]
 have:=TL (E:=E) (hp:=hp) (b:=b) (l:=l) (x:= .agg ⟨cs⟩) (i:=i) (f:=0) hj h hi (by show cs.length=j.size;rw [hl,hs]) (by omega) h1 (by show E.enc (E.dec (A6 _ 0 cs))=A6 _ 0 cs;rw [e,hc])
 rw [Nat.add_zero] at this
 rw [this]
 show ([(b,AD E (l.set i (E.dec (A6 _ 0 cs))))],True)=_
 rw [e]
theorem BF [Inhabited α]{tt:AO}{t:TypeId}{j:TI}{x:Value}{i f:Nat}{a':α}(hj:tt t=some j)(h:hp b=AD E l)(hi:i < l.length)(hx:Hi x j.size)(hf:f+j.size≤E.size)(h1:A3 (A1 x)=true)
  (he:E.enc a' = A6 (E.enc (at' l i)) f (A1 x)) :
  Bg tt hp t (Ag (AA b l) (i * E.size+f)) x=([(b,AD E (l.set i a'))],True):=by
 have:=TL (E:=E) (hp:=hp) (b:=b) (l:=l) (x:=x) (i:=i) (f:=f) hj h hi hx hf h1 (by rw [←he,E.h])
 rw [this,←he,E.h]
end
end Go.Dm
namespace Go.Dm
structure KT (tt:AO) (kt:TypeId) (κ:Type) [DecidableEq κ] where
 ek:κ→Value
 eq:∀a b,Jt tt 64 kt (ek a) (ek b)=some (decide (a=b))
 key:∀a,Kp tt 64 kt (ek a)=true
 pl:∀a,plain 8 (ek a)=true
 bits:∀a,Instr.sameBits 10000 (ek a) (ek a)=true
 Az:∀ρ a,Az ρ (ek a)=ek a
section
variable {κ β:Type} [DecidableEq κ]
def MR (ek:κ→Value)(ev:β→Value)(x:κ×β×Nat):MapEntry:=⟨ek x.1,ev x.2.1,x.2.2⟩
def Jp (m:List (κ×β×Nat))(k:κ):Option β:=match m with
 | []=>none
 |x :: m=>if k=x.1 then some x.2.1 else Jp m k
def Pa (m:List (κ×β×Nat))(k:κ)(i:Nat):Option (Nat×β):=match m with
 | []=>none
 |x :: m=>if k=x.1 then some (i,x.2.1) else Pa m k (i+1)
def NR (m:List (κ×β×Nat))(k:κ)(v:β)(CI:Nat):List (κ×β×Nat):=match m with
 | []=> [(k,v,CI)]
 |x :: m=>if k=x.1 then (k,v,x.2.2) :: m else x :: NR m k v CI
def dt (m:List (κ×β×Nat))(k:κ):List (κ×β×Nat):=match m with
 | []=> []
 |x :: m=>if k=x.1 then m else x :: dt m k
def Um (m:List (κ×β×Nat))(k:κ)(CI:Nat):Nat:=match Jp m k with
 |some _=>CI
 |none=>CI+1
theorem Mr:∀(m:List (κ×β×Nat)) (k:κ) (i:Nat),(Pa m k i).map (·.2)=Jp m k
 | [],_,_=>rfl
 |x :: m,k,i=>by
  unfold Pa Jp
  split
  ·rfl
  ·exact Mr m k (i+1)
theorem bR:∀(m:List (κ×β×Nat)) (k:κ) (i j:Nat) (v:β),Pa m k i=some (j,v)→∃q b,j=i+q∧m[q]? = some (k,v,b)∧(∀v CI,NR m k v CI=m.set q (k,v,b))∧dt m k=m.eraseIdx q
 | [],_,_,_,_,h=>by cases h
 |x :: m,k,i,j,v,h=>by
  unfold Pa at h
  split at h
  ·rename_i hk
   cases h
   exact ⟨0,x.2.2,rfl,by rw [hk];rfl,fun v CI=>by simp [NR,hk],by simp [dt,hk]⟩
  ·rename_i hk
   obtain ⟨q,b,h1,h2,h3,h4⟩:=bR m k (i+1) j v h
   exact ⟨q+1,b,by omega,by simpa using h2,fun v CI=>by simp [NR,hk,h3],by simp [dt,hk,h4]⟩
theorem Sw:∀(m:List (κ×β×Nat)) (k:κ) (i:Nat),Pa m k i=none→Jp m k=none∧(∀v CI,NR m k v CI=m ++ [(k,v,CI)])∧dt m k=m
 | [],_,_,_=>⟨rfl,fun _ _=>rfl,rfl⟩
 |x :: m,k,i,h=>by
  unfold Pa at h
  split at h
  ·cases h
  ·rename_i hk
   obtain ⟨h1,h2,h3⟩:=Sw m k (i+1) h
   exact ⟨by simp [Jp,hk,h1],fun v CI=>by simp [NR,hk,h2],by simp [dt,hk,h3]⟩
variable {tt:AO} {kt:TypeId} (Q:KT tt kt κ) (ev:β→Value)
theorem Po:∀(m:List (κ×β×Nat)) (k:κ) (i:Nat),Hk tt kt (Q.ek k) (m.map (MR Q.ek ev)) i=some ((Pa m k i).map fun p=>(p.1,ev p.2))
 | [],_,_=>rfl
 |x :: m,k,i=>by
  have ih:=Po m k (i+1)
  rw [List.map_cons]
  unfold Hk Pa
  have e:=Q.eq k x.1
  show (match Jt tt 64 kt (Q.ek k) (Q.ek x.1) with | some true=>_ | some false=>_ | none=>_)=_
  rw [e]
  by_cases hk:k=x.1
  ·simp [hk,MR]
  ·simp only [decide_eq_false hk,if_neg hk]
   exact ih
def JC (tt:AO)(kt:TypeId)(z:Value)(k:Value)(es:List MapEntry)(ok:Bool):Value×Prop:=
 let v:=match Re tt kt k es with
  |some (_,v)=>v
  |none=>z
 (match ok with
  |true=> .tuple ⟨[v, .bool (Re tt kt k es).isSome]⟩
  |false=>v,Kp tt 64 kt k=true∧(Hk tt kt k es 0).isSome=true)
theorem PN {hp:Hp}{t et:TypeId}{ki j:TI}{b:Nat}{k:Value}{ok:Bool}(ht:kindOf tt t=some (.map kt et))(hk:tt kt=some ki)(hj:tt et=some j) :
  Gm tt hp t (.map (some b)) k ok=(match hp b with
   |some (.map es _)=>JC tt kt j.zero k es ok
   |_=>(undef,False)):=by
 unfold Gm
 simp only [ht]
 cases hp b with
 |none=>rfl
 |some o=>cases o with
  |map es CI=>simp only [hk,hj];rfl
  |_=>rfl
theorem Wa {z:Value}(m:List (κ×β×Nat))(k:κ):JC tt kt z (Q.ek k) (m.map (MR Q.ek ev)) true=(.tuple ⟨[((Jp m k).map ev).getD z, .bool (Jp m k).isSome]⟩,True):=by
 unfold JC
 simp only [Re,Po,Q.key,←Mr m k 0]
 cases Pa m k 0 <;> simp
theorem hY {z:Value}(m:List (κ×β×Nat))(k:κ):JC tt kt z (Q.ek k) (m.map (MR Q.ek ev)) false=(((Jp m k).map ev).getD z,True):=by
 unfold JC
 simp only [Re,Po,Q.key,←Mr m k 0]
 cases Pa m k 0 <;> simp
def GD (tt:AO)(kt:TypeId)(b:Nat)(k x:Value)(es:List MapEntry)(CI:Nat):Option BI:=match Kp tt 64 kt k with
 |true=>match Hk tt kt k es 0 with
  |some (some (j,_))=>match es[j]? with
   |some e0=>match plain 8 k && plain 8 e0.key && Instr.sameBits 10000 e0.key k with
    |true=>some [(b,some (.map (es.set j {e0 with key:=k,val:=x}) CI))]
    |false=>none
   |none=>none
  |some none=>some [(b,some (.map (es ++ [{key:=k,val:=x,born:=CI}]) (CI+1)))]
  |none=>none
 |false=>none
theorem Ks {hp:Hp}{t et:TypeId}{ki:TI}{b:Nat}{k x:Value}(ht:kindOf tt t=some (.map kt et))(hk:tt kt=some ki) :
  Eg tt hp t (.map (some b)) k x=(match hp b with
   |some (.map es CI)=>GD tt kt b k x es CI
   |_=>none):=by
 obtain ⟨i,hi,hd⟩:=Ah ht
 unfold Eg GD
 simp only [hi,hd]
 cases hp b with
 |none=>rfl
 |some o=>cases o with
  |map es CI=>simp only [hk];cases Kp tt 64 kt k <;> rfl
  |_=>rfl
theorem Oo (b:Nat)(m:List (κ×β×Nat))(CI:Nat)(k:κ)(v:β):GD tt kt b (Q.ek k) (ev v) (m.map (MR Q.ek ev)) CI=some [(b,some (.map ((NR m k v CI).map (MR Q.ek ev)) (Um m k CI)))]:=by
 unfold GD
 simp only [Q.key,Po]
 unfold Um
 rw [←Mr m k 0]
 cases hx:Pa m k 0 with
 |none=>
  obtain ⟨h1,h2,h3⟩:=Sw m k 0 hx
  simp only [Option.map_none,h2,List.map_append,List.map_cons,List.map_nil]
  rfl
 |some p=>
  obtain ⟨q,b0,h1,h2,h3,h4⟩:=bR m k 0 p.1 p.2 hx
  simp only [Option.map_some,h1,Nat.zero_add,List.getElem?_map,h2,MR,Q.pl,Q.bits,Bool.and_self,h3,List.map_set]
end
theorem Qh {κ β:Type}{ρ:Nat→Nat}{ek:κ→Value}{ev:β→Value}(hk:∀a,Az ρ (ek a)=ek a)(hv:∀a,Az ρ (ev a)=ev a)(m:List (κ×β×Nat)):(m.map (MR ek ev)).map (Rv ρ)=m.map (MR ek ev):=by
 rw [List.map_map]
 apply List.map_congr_left
 intro x _
 simp only [Function.comp,MR,Rv,hk,hv]
theorem PY {l:List Value}{n:Nat}(h:∀v∈l,Instr.sameBits n v v=true):Instr.sameBits (n+1) (.agg ⟨l⟩) (.agg ⟨l⟩)=true:=by
 have:∀l:List Value,(∀v∈l,Instr.sameBits n v v=true)→(l.zip l).all (fun (x,y)=>Instr.sameBits n x y)=true:=by
  intro l
  induction l with
  |nil=>intro _;rfl
  |cons a l ih=>
   intro h
   simp only [List.zip_cons_cons,List.all_cons,h a (List.mem_cons_self ..),Bool.true_and]
   exact ih fun v hv=>h v (List.mem_cons_of_mem _ hv)
 simp only [Instr.sameBits,beq_self_eq_true,Bool.true_and]
 exact this l h
end Go.Dm
namespace Go.Dm
def MF:List (Nat×Nat)→Nat→Nat→Bool
 | [],_,_=>false
 | (a,b) :: l,i,k=>match Nat.beq a i,Nat.beq b k with
  |true,true=>true
  |_,_=>MF l i k
structure nX where
 i:Nat
 g:Bool
 fr:C6
 op:Op
 v:Value
def MM (tt:AO)(G:FuncId→Bb)(un:List (Nat×Nat))(k:Nat)(hp:Hp):List nX→Prop
 | []=>True
 |e :: rs=>(if MF un e.i k=true then (e.g=true→(pv tt G e.fr hp e.op).2∧(pv tt G e.fr hp e.op).1=e.v)∧MM tt G un k hp rs else MM tt G un k hp rs)
def JE (tt:AO)(G:FuncId→Bb)(un:List (Nat×Nat))(i:Nat)(fr:C6)(op:Op)(v:Value):List (Nat×Hp)→Prop
 | []=>True
 | (k,hp) :: vs=>(if MF un i k=true then ((pv tt G fr hp op).2∧(pv tt G fr hp op).1=v)∧JE tt G un i fr op v vs else JE tt G un i fr op v vs)
def SN:List (Nat×Nat)→Nat→Bool
 | [],_=>false
 | (a,_) :: l,i=>match Nat.beq a i with
  |true=>true
  |false=>SN l i
def Q9 (un:List (Nat×Nat))(e:nX)(rs:List nX):List nX:=match SN un e.i with
 |true=>e :: rs
 |false=>rs
def Ln (tt:AO)(G:FuncId→Bb)(all:List Oper)(un:List (Nat×Nat)):Nat→List Oper→List nX→List (Nat×Hp)→(SS→Prop)→SS→Prop
 |_, [],_,_,K,s=>K s
 |i,o :: os,rs,vs,K,s=>(Ao all s.fr o.guard).2∧(match Gc G o.op with
  |true=>(if (Ao all s.fr o.guard).1=true then (Cy tt G s.fr s.hp s.top o.op).ob∧MM tt G un i (s.hp.Av (Cy tt G s.fr s.hp s.top o.op).us) rs∧
     Ln tt G all un (i+1) os rs ((i,s.hp) :: vs) K ⟨Bs s.fr o.dst (Cy tt G s.fr s.hp s.top o.op).v true,s.hp.Av (Cy tt G s.fr s.hp s.top o.op).us,(Cy tt G s.fr s.hp s.top o.op).top⟩
    else Ln tt G all un (i+1) os rs vs K ⟨Bs s.fr o.dst undef false,s.hp,s.top⟩)
  |false=>((Ao all s.fr o.guard).1=true→(pv tt G s.fr s.hp o.op).2∧JE tt G un i s.fr o.op (pv tt G s.fr s.hp o.op).1 vs)∧
    Ln tt G all un (i+1) os (Q9 un ⟨i,(Ao all s.fr o.guard).1,s.fr,o.op,(pv tt G s.fr s.hp o.op).1⟩ rs) vs K ⟨Bs s.fr o.dst (pv tt G s.fr s.hp o.op).1 (Ao all s.fr o.guard).1,s.hp,s.top⟩)
theorem nA {un:List (Nat×Nat)}{i k:Nat}(h:MF un i k=true):SN un i=true:=by
 induction un with
 |nil=>cases h
 |cons p l ih=>
  obtain ⟨a,b⟩:=p
  unfold MF at h
  unfold SN
  cases ha:Nat.beq a i with
  |true=>rfl
  |false=>rw [ha] at h;exact ih h
theorem YJ {tt:AO}{G:FuncId→Bb}{un:List (Nat×Nat)}{k:Nat}{hp:Hp}:∀ {rs:List nX},MM tt G un k hp rs→∀e∈rs,MF un e.i k=true→e.g=true→(pv tt G e.fr hp e.op).2∧(pv tt G e.fr hp e.op).1=e.v:=by
 intro rs
 induction rs with
 |nil=>intro _ e he;cases he
 |cons a rs ih=>
  intro h e he hu hg
  unfold MM at h
  cases he with
  |head=>
   rw [if_pos hu] at h
   exact h.1 hg
  |tail _ he=>
   split at h
   ·exact ih h.2 e he hu hg
   ·exact ih h e he hu hg
theorem WI {tt:AO}{G:FuncId→Bb}{un:List (Nat×Nat)}{i:Nat}{fr:C6}{op:Op}{v:Value}:∀ {vs:List (Nat×Hp)},JE tt G un i fr op v vs→∀p∈vs,MF un i p.1=true→(pv tt G fr p.2 op).2∧(pv tt G fr p.2 op).1=v:=by
 intro vs
 induction vs with
 |nil=>intro _ e he;cases he
 |cons a vs ih=>
  intro h e he hu
  obtain ⟨k,hp⟩:=a
  unfold JE at h
  cases he with
  |head=>
   rw [if_pos hu] at h
   exact h.1
  |tail _ he=>
   split at h
   ·exact ih h.2 e he hu
   ·exact ih h e he hu
structure DXF (tt:AO) (G:FuncId→Bb) (all:List Oper) (un:List (Nat×Nat)) (i:Nat) (os:List Oper) (rs:List nX) (vs:List (Nat×Hp)) (s:SS):Prop where
 step:∀k o,os[k]? = some o→DF tt G all o (IE tt G all os s k) (IE tt G all os s (k+1))
 bJ:∀e∈rs,∀k o,os[k]? = some o→Gc G o.op=true→(Ao all (IE tt G all os s k).fr o.guard).1=true→MF un e.i (i+k)=true→e.g=true→
  (pv tt G e.fr (IE tt G all os s (k+1)).hp e.op).2∧(pv tt G e.fr (IE tt G all os s (k+1)).hp e.op).1=e.v
 UN:∀p∈vs,∀k o,os[k]? = some o→Gc G o.op=false→(Ao all (IE tt G all os s k).fr o.guard).1=true→MF un (i+k) p.1=true→
  (pv tt G (IE tt G all os s k).fr p.2 o.op).2∧(pv tt G (IE tt G all os s k).fr p.2 o.op).1=(pv tt G (IE tt G all os s k).fr (IE tt G all os s k).hp o.op).1
 late:∀q k oq ok,q < k→os[q]? = some oq→os[k]? = some ok→Gc G oq.op=false→(Ao all (IE tt G all os s q).fr oq.guard).1=true→Gc G ok.op=true→(Ao all (IE tt G all os s k).fr ok.guard).1=true→MF un (i+q) (i+k)=true→
  (pv tt G (IE tt G all os s q).fr (IE tt G all os s (k+1)).hp oq.op).2∧(pv tt G (IE tt G all os s q).fr (IE tt G all os s (k+1)).hp oq.op).1=(pv tt G (IE tt G all os s q).fr (IE tt G all os s q).hp oq.op).1
 early:∀q k oq ok,q < k→os[q]? = some oq→os[k]? = some ok→Gc G oq.op=true→(Ao all (IE tt G all os s q).fr oq.guard).1=true→Gc G ok.op=false→(Ao all (IE tt G all os s k).fr ok.guard).1=true→MF un (i+k) (i+q)=true→
  (pv tt G (IE tt G all os s k).fr (IE tt G all os s q).hp ok.op).2∧(pv tt G (IE tt G all os s k).fr (IE tt G all os s q).hp ok.op).1=(pv tt G (IE tt G all os s k).fr (IE tt G all os s k).hp ok.op).1
theorem W4 {tt:AO}{G:FuncId→Bb}{all:List Oper}{un:List (Nat×Nat)}{K:SS→Prop}:∀(os:List Oper) (i:Nat) (rs:List nX) (vs:List (Nat×Hp)) (s:SS),Ln tt G all un i os rs vs K s→
  K (IE tt G all os s os.length)∧DXF tt G all un i os rs vs s:=by
 intro os
 induction os with
 |nil=>intro i rs vs s h;exact ⟨h,⟨fun k o hk=>by simp at hk,fun e he k o hk=>by simp at hk,fun p hp k o hk=>by simp at hk,fun q k oq ok hq h1=>by simp at h1,fun q k oq ok hq h1=>by simp at h1⟩⟩
 |cons o os ih=>
  intro i rs vs s h
  obtain ⟨h1,h2⟩:=h
  have z:∀n,IE tt G all (o :: os) s (n+1)=IE tt G all os (OG tt G all o s) n:=fun n=>rfl
  have z0:IE tt G all (o :: os) s 0=s:=rfl
  have sh:∀n:Nat,i+(n+1)=(i+1)+n:=fun n=>by omega
  cases hw:Gc G o.op with
  |true=>
   rw [hw] at h2
   dsimp only at h2
   cases hg:(Ao all s.fr o.guard).1 with
   |true=>
    rw [if_pos hg] at h2
    obtain ⟨h3,h4,h5⟩:=h2
    have hn:OG tt G all o s=⟨Bs s.fr o.dst (Cy tt G s.fr s.hp s.top o.op).v true,s.hp.Av (Cy tt G s.fr s.hp s.top o.op).us,(Cy tt G s.fr s.hp s.top o.op).top⟩:=by simp only [OG,hw,hg]
    rw [←hn] at h5
    obtain ⟨hK,F⟩:=ih _ _ _ _ h5
    refine ⟨hK,⟨?_, ?_, ?_, ?_, ?_⟩⟩
    ·intro k p hk
     cases k with
     |zero=>
      simp at hk;subst hk
      rw [z,z0,Fg]
      exact ⟨h1,fun _ _=>h3,fun e=>(by rw [hw] at e;cases e),rfl⟩
     |succ k=>exact F.step k p (by simpa using hk)
    ·intro e he k p hk hwp hgp hu heg
     cases k with
     |zero=>
      simp at hk;subst hk
      rw [z,Fg,hn]
      exact YJ h4 e he (by simpa using hu) heg
     |succ k=>exact F.bJ e he k p (by simpa using hk) hwp hgp (by rw [←sh];exact hu) heg
    ·intro e he k p hk hwp hgp hu
     cases k with
     |zero=>
      simp at hk;subst hk
      rw [hw] at hwp;cases hwp
     |succ k=>exact F.UN e (List.mem_cons_of_mem _ he) k p (by simpa using hk) hwp hgp (by rw [←sh];exact hu)
    ·intro q k oq ok hqk hq hk hwq hgq hwk hgk hu
     cases k with
     |zero=>omega
     |succ k=>
      cases q with
      |zero=>
       simp at hq;subst hq
       rw [hw] at hwq;cases hwq
      |succ q=>exact F.late q k oq ok (by omega) (by simpa using hq) (by simpa using hk) hwq hgq hwk hgk (by rw [←sh,←sh];exact hu)
    ·intro q k oq ok hqk hq hk hwq hgq hwk hgk hu
     cases k with
     |zero=>omega
     |succ k=>
      cases q with
      |zero=>
       simp at hq;subst hq
       exact F.UN (i,s.hp) (List.mem_cons_self ..) k ok (by simpa using hk) hwk hgk (by rw [←sh];simpa using hu)
      |succ q=>exact F.early q k oq ok (by omega) (by simpa using hq) (by simpa using hk) hwq hgq hwk hgk (by rw [←sh,←sh];exact hu)
   |false=>
    rw [if_neg (by rw [hg];simp)] at h2
    have hn:OG tt G all o s=⟨Bs s.fr o.dst undef false,s.hp,s.top⟩:=by simp only [OG,hw,hg]
    rw [←hn] at h2
    obtain ⟨hK,F⟩:=ih _ _ _ _ h2
    refine ⟨hK,⟨?_, ?_, ?_, ?_, ?_⟩⟩
    ·intro k p hk
     cases k with
     |zero=>
      simp at hk;subst hk
      rw [z,z0,Fg]
      exact ⟨h1,fun _ e=>(by rw [hg] at e;cases e),fun e=>(by rw [hw] at e;cases e),rfl⟩
     |succ k=>exact F.step k p (by simpa using hk)
    ·intro e he k p hk hwp hgp hu heg
     cases k with
     |zero=>
      simp at hk;subst hk
      rw [z0,hg] at hgp;cases hgp
     |succ k=>exact F.bJ e he k p (by simpa using hk) hwp hgp (by rw [←sh];exact hu) heg
    ·intro e he k p hk hwp hgp hu
     cases k with
     |zero=>
      simp at hk;subst hk
      rw [hw] at hwp;cases hwp
     |succ k=>exact F.UN e he k p (by simpa using hk) hwp hgp (by rw [←sh];exact hu)
    ·intro q k oq ok hqk hq hk hwq hgq hwk hgk hu
     cases k with
     |zero=>omega
     |succ k=>
      cases q with
      |zero=>
       simp at hq;subst hq
       rw [hw] at hwq;cases hwq
      |succ q=>exact F.late q k oq ok (by omega) (by simpa using hq) (by simpa using hk) hwq hgq hwk hgk (by rw [←sh,←sh];exact hu)
    ·intro q k oq ok hqk hq hk hwq hgq hwk hgk hu
     cases k with
     |zero=>omega
     |succ k=>
      cases q with
      |zero=>
       simp at hq;subst hq
       rw [z0,hg] at hgq;cases hgq
      |succ q=>exact F.early q k oq ok (by omega) (by simpa using hq) (by simpa using hk) hwq hgq hwk hgk (by rw [←sh,←sh];exact hu)
  |false=>
   rw [hw] at h2
   dsimp only at h2
   obtain ⟨h3,h4⟩:=h2
   have hn:OG tt G all o s=⟨Bs s.fr o.dst (pv tt G s.fr s.hp o.op).1 (Ao all s.fr o.guard).1,s.hp,s.top⟩:=by simp only [OG,hw]
   rw [←hn] at h4
   obtain ⟨hK,F⟩:=ih _ _ _ _ h4
   have hold:∀e∈rs,e∈Q9 un ⟨i,(Ao all s.fr o.guard).1,s.fr,o.op,(pv tt G s.fr s.hp o.op).1⟩ rs:=by
    intro e he
    unfold Q9
    split
    ·exact List.mem_cons_of_mem _ he
    ·exact he
   refine ⟨hK,⟨?_, ?_, ?_, ?_, ?_⟩⟩
   ·intro k p hk
    cases k with
    |zero=>
     simp at hk;subst hk
     rw [z,z0,Fg]
     exact ⟨h1,fun e=>(by rw [hw] at e;cases e),fun _ e=>(h3 e).1,rfl⟩
    |succ k=>exact F.step k p (by simpa using hk)
   ·intro e he k p hk hwp hgp hu heg
    cases k with
    |zero=>
     simp at hk;subst hk
     rw [hw] at hwp;cases hwp
    |succ k=>exact F.bJ e (hold e he) k p (by simpa using hk) hwp hgp (by rw [←sh];exact hu) heg
   ·intro e he k p hk hwp hgp hu
    cases k with
    |zero=>
     simp at hk;subst hk
     rw [z0]
     exact WI (h3 hgp).2 e he (by simpa using hu)
    |succ k=>exact F.UN e he k p (by simpa using hk) hwp hgp (by rw [←sh];exact hu)
   ·intro q k oq ok hqk hq hk hwq hgq hwk hgk hu
    cases k with
    |zero=>omega
    |succ k=>
     cases q with
     |zero=>
      simp at hq;subst hq
      have hm:(⟨i,(Ao all s.fr o.guard).1,s.fr,o.op,(pv tt G s.fr s.hp o.op).1⟩:nX)∈Q9 un ⟨i,(Ao all s.fr o.guard).1,s.fr,o.op,(pv tt G s.fr s.hp o.op).1⟩ rs:=by
       have hh:SN un i=true:=nA (k:=i+(k+1)) (by simpa using hu)
       simp only [Q9,hh,List.mem_cons,true_or]
      exact F.bJ _ hm k ok (by simpa using hk) hwk hgk (by rw [←sh];simpa using hu) hgq
     |succ q=>exact F.late q k oq ok (by omega) (by simpa using hq) (by simpa using hk) hwq hgq hwk hgk (by rw [←sh,←sh];exact hu)
   ·intro q k oq ok hqk hq hk hwq hgq hwk hgk hu
    cases k with
    |zero=>omega
    |succ k=>
     cases q with
     |zero=>
      simp at hq;subst hq
      rw [hw] at hwq;cases hwq
     |succ q=>exact F.early q k oq ok (by omega) (by simpa using hq) (by simpa using hk) hwq hgq hwk hgk (by rw [←sh,←sh];exact hu)
def oZ (G:FuncId→Bb)(an:List Nat)(un:List (Nat×Nat))(all:List Oper):Bool:=(List.range all.length).all fun i=>match all[i]? with
 |none=>true
 |some o=>Gc G o.op || CA o.op || (List.range all.length).all fun k=>match all[k]? with
  |none=>true
  |some p=> !Gc G p.op || MF un i k || (match Nat.ble (k+1) i with
   |true=>bit (an.getD i 0) k
   |false=>bit (an.getD k 0) i)
noncomputable def Zn (G:FuncId→Bb)(un:List (Nat×Nat))(ops:List Oper):Bool:=match Y8 ops [] with
 |none=>false
 |some an=>distinct (Be ops 0) && Nq ops && Nt an (Be ops 0) ops ops 0 && oA G an ops && oZ G an un ops
theorem cB {G:FuncId→Bb}{an:List Nat}{un:List (Nat×Nat)}{all:List Oper}(h:oZ G an un all=true):∀i k oi ok,all[i]? = some oi→all[k]? = some ok→Gc G oi.op=false→CA oi.op=false→Gc G ok.op=true→
  MF un i k=true∨((k < i→bit (an.getD i 0) k=true)∧(¬k < i→bit (an.getD k 0) i=true)):=by
 intro i k oi ok hi hk hwi hfi hwk
 have lt_of:∀(k:Nat) (o:Oper),all[k]? = some o→k < all.length:=fun k o h=>by
  rcases Nat.lt_or_ge k all.length with h2 | h2
  ·exact h2
  ·rw [List.getElem?_eq_none h2] at h;cases h
 unfold oZ at h
 rw [List.all_eq_true] at h
 have:=h i (List.mem_range.2 (lt_of i oi hi))
 rw [hi] at this
 simp only [hwi,hfi,Bool.false_or,List.all_eq_true] at this
 have:=this k (List.mem_range.2 (lt_of k ok hk))
 rw [hk] at this
 simp only [hwk,Bool.not_true,Bool.false_or,Bool.or_eq_true] at this
 rcases this with h1 | h1
 ·exact .inl h1
 right
 constructor
 ·intro hlt
  have hb:Nat.ble (k+1) i=true:=Nat.ble_eq_true_of_le hlt
  rw [hb] at h1;exact h1
 ·intro hlt
  have hb:Nat.ble (k+1) i=false:=by
   cases hb:Nat.ble (k+1) i with
   |false=>rfl
   |true=>exact absurd (Nat.le_of_ble_eq_true hb) hlt
  rw [hb] at h1
  exact h1
section
variable {P:Program} {tt:AO} {G:FuncId→Bb} {ops:Array Oper} {an:List Nat} {s0:SS} {sz:Nat}
open Classical in
theorem BN.ADr (F:BN P tt G ops an s0 sz)(un:List (Nat×Nat))(hun:oZ G an un ops.toList=true)(hX:DXF tt G ops.toList un 0 ops.toList [] [] s0):Ny P tt G ops an s0 sz:=by
 refine ⟨F, ?_⟩
 intro i o ho hwb hg p hp hcomp
 have hilt:=BN.lt (ops:=ops) i o ho
 have S:=F.step i o ho
 have hpv:=S.r hwb hg
 have ltk:∀k,AW tt G ops s0 k→k < ops.size:=fun k ⟨ok,h1,_⟩=>BN.lt (ops:=ops) k ok h1
 have free:CA o.op=true→HB o.op=false:=fun h=>by
  cases h2:HB o.op with
  |false=>rfl
  |true=>rw [gb hwb h2] at h;cases h
 -- the read at memory p
 have key:CA o.op=false→(pv tt G (Af tt G ops s0 i).fr (Af tt G ops s0 p).hp o.op).2∧(pv tt G (Af tt G ops s0 i).fr (Af tt G ops s0 p).hp o.op).1=(pv tt G (Af tt G ops s0 i).fr (Af tt G ops s0 i).hp o.op).1:=by
  intro hf
  have un':∀k,AW tt G ops s0 k→((k < i∧¬k < p)∨(¬k < i∧k < p))→MF un i k=true:=by
   intro k hk hc
   obtain ⟨ok,h1,h2,h3⟩:=hk
   obtain ⟨c1,c2⟩:=hcomp k ok h1 ⟨ok,h1,h2,h3⟩
   rcases cB hun i k o ok (by simpa using ho) (by simpa using h1) hwb hf h2 with h4 | ⟨h4,h5⟩
   ·exact h4
   ·rcases hc with ⟨a,b⟩ | ⟨a,b⟩
    ·exact absurd (c1 (h4 a)) b
    ·have:=h5 a;rw [c2 b] at this;cases this
  rcases Nat.le_total i p with hip | hip
  ·by_cases hex:∃k,AW tt G ops s0 k∧i≤k∧k < p
   ·-- the last writer ahead of p
    have:∃k,(AW tt G ops s0 k∧i≤k∧k < p)∧∀k',AW tt G ops s0 k'→i≤k'→k' < p→k'≤k:=by
     have hb:∀n,(∃k,AW tt G ops s0 k∧i≤k∧k < n)→∃k,(AW tt G ops s0 k∧i≤k∧k < n)∧∀k',AW tt G ops s0 k'→i≤k'→k' < n→k'≤k:=by
      intro n
      induction n with
      |zero=>rintro ⟨k,_,_,h⟩;omega
      |succ n ih=>
       intro h
       by_cases hn:AW tt G ops s0 n∧i≤n
       ·exact ⟨n,⟨hn.1,hn.2,by omega⟩,fun k' _ _ h=>by omega⟩
       ·obtain ⟨k,h1,h2,h3⟩:=h
        have hkn:k≠n:=fun e=>hn (e ▸ ⟨h1,h2⟩)
        obtain ⟨m,⟨m1,m2,m3⟩,m4⟩:=ih ⟨k,h1,h2,by omega⟩
        refine ⟨m,⟨m1,m2,by omega⟩,fun k' h1 h2 h3=> ?_⟩
        have:k'≠n:=fun e=>hn (e ▸ ⟨h1,h2⟩)
        exact m4 k' h1 h2 (by omega)
     exact hb p hex
    obtain ⟨k,⟨k1,k2,k3⟩,k4⟩:=this
    have hgp:=F.Uy hp (show k+1≤ops.size from ltk k k1) (fun k' hk'=>by
     constructor
     ·intro h
      rcases Nat.lt_or_ge k' i with h5 | h5
      ·omega
      ·have:=k4 k' hk' h5 h;omega
     ·intro h;omega)
    rw [hgp.1]
    obtain ⟨ok,h1,h2,h3⟩:=k1
    have hne:i≠k:=fun e=>by subst e;rw [ho] at h1;cases h1;rw [hwb] at h2;cases h2
    exact hX.late i k o ok (by omega) (by simpa using ho) (by simpa using h1) hwb hg h2 h3 (by simpa using un' k ⟨ok,h1,h2,h3⟩ (.inr ⟨by omega,k3⟩))
   ·have hgp:=F.Uy hp (Nat.le_of_lt hilt) (fun k' hk'=>by
     constructor
     ·intro h
      rcases Nat.lt_or_ge k' i with h5 | h5
      ·exact h5
      ·exact absurd ⟨k',hk',h5,h⟩ hex
     ·intro h;omega)
    rw [hgp.1];exact ⟨hpv,rfl⟩
  ·by_cases hex:∃k,AW tt G ops s0 k∧p≤k∧k < i
   ·have:∃k,(AW tt G ops s0 k∧p≤k∧k < i)∧∀k',AW tt G ops s0 k'→p≤k'→k' < i→k≤k':=by
     have hb:∀d n,n+d=i→(∃k,AW tt G ops s0 k∧n≤k∧k < i)→∃k,(AW tt G ops s0 k∧n≤k∧k < i)∧∀k',AW tt G ops s0 k'→n≤k'→k' < i→k≤k':=by
      intro d
      induction d with
      |zero=>rintro n hn ⟨k,_,h1,h2⟩;omega
      |succ d ih=>
       intro n hn h
       by_cases hc:AW tt G ops s0 n
       ·exact ⟨n,⟨hc,by omega,by omega⟩,fun k' _ h _=>h⟩
       ·obtain ⟨k,h1,h2,h3⟩:=h
        have hkn:k≠n:=fun e=>hc (e ▸ h1)
        obtain ⟨m,⟨m1,m2,m3⟩,m4⟩:=ih (n+1) (by omega) ⟨k,h1,by omega,h3⟩
        refine ⟨m,⟨m1,by omega,m3⟩,fun k' h1 h2 h3=> ?_⟩
        have:k'≠n:=fun e=>hc (e ▸ h1)
        exact m4 k' h1 (by omega) h3
     exact hb (i - p) p (by omega) hex
    obtain ⟨k,⟨k1,k2,k3⟩,k4⟩:=this
    have hgp:=F.Uy hp (Nat.le_of_lt (ltk k k1)) (fun k' hk'=>by
     constructor
     ·intro h;omega
     ·intro h
      rcases Nat.lt_or_ge k' p with h5 | h5
      ·exact h5
      ·have:=k4 k' hk' h5 (by omega);omega)
    rw [hgp.1]
    obtain ⟨ok,h1,h2,h3⟩:=k1
    exact hX.early k i ok o k3 (by simpa using h1) (by simpa using ho) h2 h3 hwb hg (by simpa using un' k ⟨ok,h1,h2,h3⟩ (.inl ⟨k3,by omega⟩))
   ·have hgp:=F.Uy hp (Nat.le_of_lt hilt) (fun k' hk'=>by
     constructor
     ·intro h;omega
     ·intro h
      rcases Nat.lt_or_ge k' p with h5 | h5
      ·exact h5
      ·exact absurd ⟨k',hk',h5,h⟩ hex)
    rw [hgp.1];exact ⟨hpv,rfl⟩
 constructor
 ·intro hiw
  cases hf:CA o.op with
  |true=>rw [free hf] at hiw;cases hiw
  |false=>exact key hf
 ·intro hiw
  cases hf:CA o.op with
  |true=>rw [OM (hp':=(Af tt G ops s0 i).hp) hf];exact Mz (P:=P) hiw hpv (fun _ _ e=>e)
  |false=>
   obtain ⟨k1,k2⟩:=key hf
   rw [←k2]
   exact Mz (P:=P) hiw k1 (fun _ _ e=>e)
end
theorem CW.Ei {P:Program}{tt:AO}{G:FuncId→Bb}(E:CQ P tt G){sz base:Nat}{s:SS}{Q:Exit→SS→Prop}(id:Nat){ops:Array Oper}(BH:List Nat)(un:List (Nat×Nat))(hdst:KA sz ops=true)(hdr:Zn G un ops.toList=true)
  (h:Ln tt G ops.toList un 0 ops.toList [] [] (WV BH Q) s):CW P sz base (.region id ops true) s Q:=by
 unfold Zn at hdr
 split at hdr
 ·cases hdr
 ·rename_i an han
  simp only [Bool.and_eq_true] at hdr
  obtain ⟨⟨⟨⟨hdis,hmo⟩,hsafe⟩,hww⟩,hrw⟩:=hdr
  obtain ⟨hQ,hX⟩:=W4 _ _ _ _ _ h
  have hfacts:=hX.step
  have hmem:∀(k:Nat) (o:Oper) (d:Nat),ops[k]? = some o→o.dst=some d→(d,k)∈Be ops.toList 0:=by
   intro k o d ho hd
   have:=KI ops.toList 0 k d o (by simpa using ho) hd
   simpa using this
  intro φ0 φ own ds w0 a w hb hle S
  have FB:BN P tt G ops an s sz:=by
   refine ⟨E,HG hdst,Ub han,hmem, ?_, ?_,fun k o ho=>hfacts k o (by simpa using ho),fun j k oj ok hj hk h1 h2 h3=>(Td hww j k oj ok (by simpa using hj) (by simpa using hk) h1 h2 h3).imp (fun h=>h) (fun h=>⟨h.1,fun i oi hi=>h.2 i oi (by simpa using hi)⟩),fun i o hi=>S.hr.lt S.top hi⟩
   ·intro d k k' h1 h2
    exact H9 _ hdis d k k' h1 h2 fun p hp q hq hpq=>KX ops.toList 0 p q hp hq hpq
   ·intro k o ho
    have:=Nc an _ _ _ 0 hsafe k o (by simpa using ho)
    rw [Nat.zero_add] at this
    exact ⟨this.1,fun j want p d hg hp hd=>this.2 j want p d hg (by simpa using hp) hd⟩
  have F:Ny P tt G ops an s sz:=FB.ADr un hrw hX
  have hn:ops.toList.length=ops.size:=by simp
  rw [hn] at hQ
  have all:∀md,Gb md ops→wpAny P md ops (fun x a' w'=>x≠ .outgrown∧∃φ' s',φ0.le φ'∧HZ φ' own sz ds w0 s' a' w'∧Q x s') ops.size (Array.replicate ops.size false) a {w with drawn:=w.drawn+1}:=by
   intro md hrk
   have hf:∀k,¬((Array.replicate ops.size false).getD k false=true):=by
    intro k hk
    simp [Array.getD_eq_getD_getElem?,Array.getElem?_replicate] at hk
    split at hk <;> simp at hk
   refine F.main (φ0:=φ) (own:=own) (ds:=ds) (w0:=w0) hrk ?_ ops.size _ φ 0 a _ (by simp) (MS _) (Ren.le_refl _) ?_ ?_
   ·intro φ' a' w' hle' S'
    exact ⟨nofun,φ',⟨G6 (Af tt G ops s ops.size).fr BH,(Af tt G ops s ops.size).hp,(Af tt G ops s ops.size).top⟩,Ren.le_trans hle hle',S'.sub (Sub.BH (Af tt G ops s ops.size) BH),hQ⟩
   ·intro k o _ hk;exact absurd hk (hf k)
   ·exact KJ.start hf S
  have anyR:Gb .any ops:=⟨fun k=>k,fun k o hk e he hb=>by
   have h1:=F.jm.lt k o (by simpa using hk) e he hb
   have h2:k < ops.size:=by
    rcases Nat.lt_or_ge k ops.size with h | h
    ·exact h
    ·rw [Array.getElem?_eq_none h] at hk;cases hk
   exact ⟨by omega,h1⟩⟩
  refine Cv.PM (Ke hdst) (fun ⟨_,_,h,_⟩=>h rfl) fun t=> ?_
  unfold Region.schedule
  split
  ·exact wpAny_sound ops.size t _ a _ (all .any anyR)
  ·rename_i hnd
   have hd:Region.departs ops=true:=by
    cases hdp:Region.departs ops with
    |true=>rfl
    |false=>rw [hdp] at hnd;simp at hnd
   obtain ⟨r1,r2⟩:=I6 hmo hd
   split
   ·exact wpAny_sound ops.size _ _ a _ (all .text r1)
   ·exact wpAny_sound ops.size _ _ a _ (all .gc r2)
section
variable {tt:AO} {G:FuncId→Bb} {all os:List Oper} {un:List (Nat×Nat)} {o:Oper} {i:Nat} {rs:List nX} {vs:List (Nat×Hp)} {K:SS→Prop} {s:SS}
theorem db:Ln tt G all un i [] rs vs K s=K s:=rfl
theorem YB:Ln tt G all un i (o :: os) rs vs K s=((Ao all s.fr o.guard).2∧(match Gc G o.op with
  |true=>(if (Ao all s.fr o.guard).1=true then (Cy tt G s.fr s.hp s.top o.op).ob∧MM tt G un i (s.hp.Av (Cy tt G s.fr s.hp s.top o.op).us) rs∧
     Ln tt G all un (i+1) os rs ((i,s.hp) :: vs) K ⟨Bs s.fr o.dst (Cy tt G s.fr s.hp s.top o.op).v true,s.hp.Av (Cy tt G s.fr s.hp s.top o.op).us,(Cy tt G s.fr s.hp s.top o.op).top⟩
    else Ln tt G all un (i+1) os rs vs K ⟨Bs s.fr o.dst undef false,s.hp,s.top⟩)
  |false=>((Ao all s.fr o.guard).1=true→(pv tt G s.fr s.hp o.op).2∧JE tt G un i s.fr o.op (pv tt G s.fr s.hp o.op).1 vs)∧
    Ln tt G all un (i+1) os (Q9 un ⟨i,(Ao all s.fr o.guard).1,s.fr,o.op,(pv tt G s.fr s.hp o.op).1⟩ rs) vs K ⟨Bs s.fr o.dst (pv tt G s.fr s.hp o.op).1 (Ao all s.fr o.guard).1,s.hp,s.top⟩)):=rfl
end
end Go.Dm
namespace Go.Dm
theorem HR.stay {φ:Ren}{own:Nat→Prop}{hp:Hp}{w w':World}(H:HR φ own hp w)(hk:K (fun b=>w.heap.size≤b) w w'):HR φ own hp w':=by
 have same:∀b,b < w.heap.size→w'.heap[b]? = w.heap[b]? :=fun b hb=>hk.same b hb (by omega)
 refine ⟨?_,H.sep,H.D8,fun i L e=>Nat.lt_of_lt_of_le (H.val i L e) hk.size,fun b hb=>H.fresh b (Nat.le_trans hk.size hb)⟩
 intro i o e
 obtain ⟨L,h1,h2⟩:=H.obj i o e
 exact ⟨L,h1,by rw [same _ (H.val i L h1)];exact h2⟩
theorem K.VU {own:Nat→Prop}{w w':World}(hf:∀b,w.heap.size≤b→own b)(hk:K (fun b=>w.heap.size≤b) w w'):K own w w':=
 ⟨hk.size,fun b hb _=>hk.same b hb (by omega),hk.os,hk.tape,hk.output⟩
end Go.Dm
