/- The abstract machine, a part of it: operations, regions, code and calls run over values with named blocks; each step is shown of the real run. -/
import Derived.Test.YthpibnpeaidabaaGreatDoorDmF
import Derived.Deep.Slices
import Derived.Carry
import Derived.ChangeSame
import Derived.SizedLaws
set_option linter.unusedSimpArgs false
set_option linter.unusedVariables false
namespace Go.Dm
open Go.WideShapes Go.ChangeShapes
inductive GK where
 |bool
 |int (k:IntKind)
 |str
def GK.ok:GK→Value→Prop
 | .bool,v=> ∃b,v= .bool b
 | .int k,v=> ∃n,v= .int k n∧k.min≤n∧n≤k.max
 | .str,v=> ∃s,v= .string s∧s.size≤maxLen
def CB:List GK→List Value→Prop
 | [],cs=>cs= []
 |x :: ls,cs=> ∃v vs,cs=v :: vs∧x.ok v∧CB ls vs
theorem CB.append:∀ {a b:List GK} {x y:List Value},CB a x→CB b y→CB (a ++ b) (x ++ y)
 | [],_,_,_,h,h'=>by cases h;exact h'
 |_ :: _,_,_,_,⟨v,vs,e,h1,h2⟩,h'=>by subst e;exact ⟨v,vs ++ _,rfl,h1,CB.append h2 h'⟩
theorem GK.v {φ:Ren}{x:GK}{v:Value}(h:x.ok v):V φ v v:=by
 cases x with
 |bool=>obtain ⟨b,rfl⟩:=h;exact .bool b
 |int k=>obtain ⟨n,rfl,_⟩:=h;exact .int k n
 |str=>obtain ⟨s,rfl,_⟩:=h;exact .str s
theorem CB.vs {φ:Ren}:∀ {a:List GK} {x:List Value},CB a x→Vs φ x x
 | [],_,h=>by cases h;exact .nil
 |_ :: _,_,⟨v,vs,e,h1,h2⟩=>by subst e;exact .cons _ _ _ _ (GK.v h1) h2.vs
theorem CB.rep {ls:List GK}{cs:List Value}{s:Nat}(hs:ls.length=s):∀n,(∀i,i < n→CB ls ((cs.drop (i * s)).take s))→CB (List.replicate n ls).flatten (cs.take (n * s))
 |0,_=>by simp [CB]
 |n+1,h=>by
  have ih:=CB.rep hs n (fun i hi=>h i (by omega))
  have hn:=h n (by omega)
  rw [Nat.succ_mul,List.take_add,List.replicate_succ',List.flatten_append]
  exact ih.append (by simpa using hn)
def Gu (P:Program)(r:TypeId→Option (List GK)):List Field→Nat→Option (List GK)
 | [],_=>some []
 |f :: fs,off=>match r f.type with
  |some ls=>if f.offset=off∧ls.length=P.cellsOf f.type then (Gu P r fs (off+ls.length)).map (ls ++ ·) else none
  |none=>none
def R1 (P:Program):Nat→TypeId→Option (List GK)
 |0,_=>none
 |d+1,t=>match P.underlying t with
  |some .bool=>some [.bool]
  |some (.int k)=>some [.int k]
  |some .string=>some [.str]
  |some (.struct fs)=>(Gu P (R1 P d) fs.toList 0).bind fun ls=>if ls.length=P.cellsOf t then some ls else none
  |some (.array n e)=>(R1 P d e).bind fun ls=>if ls.length=P.cellsOf e∧n * P.cellsOf e=P.cellsOf t then some (List.replicate n ls).flatten else none
  |_=>none
theorem IP {P:Program}{r:TypeId→Option (List GK)}{cs:List Value}:∀ {fs:List Field} {off:Nat} {ls:List GK},Gu P r fs off=some ls→
  (∀f∈fs,∀l,r f.type=some l→CB l ((cs.drop f.offset).take (P.cellsOf f.type)))→CB ls ((cs.drop off).take ls.length)
 | [],_,_,h,_=>by cases h;simp [CB]
 |f :: fs,off,ls,h,hc=>by
  unfold Gu at h
  split at h
  ·rename_i l hl
   split at h
   ·rename_i hh
    obtain ⟨h1,h2⟩:=hh
    obtain ⟨m,hm,rfl⟩:=Option.map_eq_some_iff.1 h
    have a:=hc f (List.mem_cons_self ..) l hl
    have b:=IP (cs:=cs) hm (fun g hg=>hc g (List.mem_cons_of_mem _ hg))
    rw [List.length_append,List.take_add,List.drop_drop]
    rw [h1,←h2] at a
    exact a.append b
   ·cases h
  ·cases h
theorem LS {H:Type}{enc:TypeId×Value→H}{P:Program}{w:World}{base:Nat}{spare:Nat→Bool}{held:Bool}:∀(d:Nat) (t:TypeId) (ls:List GK),R1 P d t=some ls→∀(fuel:Nat) (cs:List Value) (x:DataW H×List MemPlace),
  DataW.trod enc P w base spare held fuel t cs=some x→CB ls cs:=by
 intro d
 induction d with
 |zero=>intro t ls h;cases h
 |succ d ih=>
  intro t ls h fuel cs x hx
  cases fuel with
  |zero=>cases hx
  |succ n=>
   rw [DataW.trod_step] at hx
   unfold DataW.trodStep at hx
   unfold R1 at h
   split at h
   ·rename_i ht
    cases h
    simp only [ht] at hx
    split at hx <;> first | (rename_i e;simp at e;done) | skip
    all_goals first | (cases hx;done) | skip
    all_goals first | exact ⟨_,_,rfl,⟨_,rfl⟩,rfl⟩ | (simp_all;done)
   ·rename_i k ht
    cases h
    simp only [ht] at hx
    split at hx
    all_goals first | (simp_all;done) | skip
    rename_i k1 k' m heq
    split at hx
    ·rename_i hh
     obtain ⟨rfl,hw⟩:=hh
     simp only [Option.some.injEq,TypeDesc.int.injEq] at heq
     subst heq
     have:=hw
     simp only [Lit.wf,Bool.and_eq_true,decide_eq_true_eq] at this
     exact ⟨_,_,rfl,⟨_,rfl,this.1,this.2⟩,rfl⟩
    ·cases hx
   ·rename_i ht
    cases h
    simp only [ht] at hx
    split at hx
    all_goals first | (simp_all;done) | skip
    split at hx
    ·rename_i hh
     exact ⟨_,_,rfl,⟨_,rfl,hh⟩,rfl⟩
    ·cases hx
   ·rename_i fs ht
    simp only [ht] at hx
    obtain ⟨ls',hf,h2⟩:=Option.bind_eq_some_iff.1 h
    split at h2
    ·rename_i hlen
     cases h2
     split at hx
     ·rename_i hcs
      obtain ⟨xs,hm,_⟩:=Option.map_eq_some_iff.1 hx
      have:=IP (cs:=cs) hf (fun f hfm l hl=>by
       obtain ⟨i,hi,e⟩:=List.mem_iff_getElem.1 hfm
       have g:=mapM_some_get hm i f (by rw [List.getElem?_eq_getElem hi,e])
       have hlx:=mapM_some_length hm
       rw [List.getElem?_eq_getElem (by omega)] at g
       exact ih _ _ hl _ _ _ g)
      rwa [List.drop_zero,hlen,←hcs,List.take_length] at this
     ·cases hx
    ·cases h2
   ·rename_i m e ht
    simp only [ht] at hx
    obtain ⟨ls',hf,h2⟩:=Option.bind_eq_some_iff.1 h
    split at h2
    ·rename_i hlen
     cases h2
     split at hx
     ·rename_i hcs
      obtain ⟨xs,hm,_⟩:=Option.map_eq_some_iff.1 hx
      have hlx:=mapM_some_length hm
      have:=CB.rep (cs:=cs) hlen.1 m (fun i hi=>by
       have g:=mapM_some_get hm i i (by simp [hi])
       rw [List.getElem?_eq_getElem (by rw [hlx];simpa using hi)] at g
       exact ih _ _ hf _ _ _ g)
      rwa [hlen.2,←hcs,List.take_length] at this
     ·cases hx
    ·cases h2
   ·cases h
theorem XX {P:Program}{fits:TypeId→Bool}:∀(d:Nat) (e:TypeId) (count off n:Nat),rowAt P fits d e count off n=true→off≤count * P.cellsOf e
 |0,_,_,_,_,h=>by cases h
 |d+1,e,count,off,n,h=>by
  unfold rowAt at h
  have hm:=Nat.div_add_mod off (P.cellsOf e)
  by_cases hs:P.cellsOf e=0
  ·simp [hs] at h
  ·have hlt:=Nat.mod_lt off (Nat.pos_of_ne_zero hs)
   simp only [hs,if_false,Bool.or_eq_true,Bool.and_eq_true,beq_iff_eq,decide_eq_true_eq] at h
   rcases h with ⟨⟨h1,h2⟩,_⟩ | ⟨h1,_⟩
   ·rw [h1,Nat.add_zero] at hm
    rw [←hm,Nat.mul_comm]
    exact Nat.mul_le_mul_right _ (by omega)
   ·have h3:(off / P.cellsOf e+1) * P.cellsOf e≤count * P.cellsOf e:=Nat.mul_le_mul_right _ h1
    rw [Nat.succ_mul,Nat.mul_comm] at h3
    omega
theorem Ms {P:Program}:∀(d:Nat) (e:TypeId) (count off:Nat) (u:TypeId) (n:Nat),liesAt P d e count off u n=true→off≤count * P.cellsOf e
 |0,_,_,_,_,_,h=>by cases h
 |d+1,e,count,off,u,n,h=>by
  unfold liesAt at h
  rw [Bool.or_eq_true] at h
  rcases h with h | h
  ·exact XX _ _ _ _ _ h
  ·split at h
   ·exact Ms _ _ _ _ _ _ h
   ·cases h
theorem Xm {P:Program}{w:World}{r:Reach}{base:Nat}{a:Addr}{e:TypeId}{n:Nat}(h:w.has P r base a e n):a.spot=none∧∃c t fz,w.heap[a.block]? = some (.cells c t fz)∧a.off≤c.size:=by
 obtain ⟨_,h1,row,cells,h2,h3⟩:=h
 refine ⟨h1, ?_⟩
 unfold World.shape? at h2
 split at h2
 ·rename_i c t fz hc
  simp only [Option.some.injEq,Prod.mk.injEq] at h2
  obtain ⟨rfl,rfl⟩:=h2
  refine ⟨c,t,fz,hc, ?_⟩
  have h4:=Ms _ _ _ _ _ _ h3
  have:=Nat.div_mul_le_self c.size (P.cellsOf t)
  first | omega | (rename_i hh;omega)
 ·cases h2
theorem MW {w:World}{b off s:Nat}{c:Array Value}{t:TypeId}{fz:Nat×Nat}(hc:w.heap[b]? = some (.cells c t fz)):∀(n:Nat) (rows:Nat→List Value),
  (∀i,i < n→w.cells? 0 (Addr.add ⟨b,off,none⟩ (i * s)) s=some (rows i))→(c.toList.drop off).take (n * s)=((List.range n).map rows).flatten
 |0,_,_=>by simp
 |n+1,rows,h=>by
  have ih:=MW hc n rows (fun i hi=>h i (by omega))
  obtain ⟨_,h1,h2⟩:=World.cells?_some (h n (by omega))
  rw [Nat.succ_mul,List.take_add,ih,List.range_succ,List.map_append,List.flatten_append]
  congr 1
  simp only [List.map_cons,List.map_nil,List.flatten_cons,List.flatten_nil,List.append_nil]
  apply List.ext_getElem?
  intro j
  by_cases hj:j < s
  ·have:=h2 j hj
   rw [add_plain,add_plain] at this
   simp only [World.cell?,hc,Option.isSome_none,Bool.false_eq_true,if_false] at this
   rw [←this,List.getElem?_take_of_lt hj,List.drop_drop,List.getElem?_drop,Array.getElem?_toList]
  ·rw [List.getElem?_eq_none (by rw [List.length_take];omega),List.getElem?_eq_none (by omega)]
structure Bp (own:Nat→Prop) (W:World) (φ:Ren) (hp:Hp) (top:Nat):Prop where
 hr:HR φ own hp W
 top:∀j,top≤j→φ j=none
 ro:∀i o,hp i=some o→o.rw=false
theorem Bp.nil (W:World):Bp (fun b=>W.heap.size≤b) W (fun _=>none) (fun _=>none) 0:=
 ⟨⟨fun i o h=>(by cases h),fun i j oi oj Li Lj h=>(by cases h),fun i o L h=>(by cases h),fun i L h=>(by cases h),fun b hb=>hb⟩,fun _ _=>rfl,fun _ _ h=>(by cases h)⟩
theorem Bp.add {own:Nat→Prop}{W:World}{φ:Ren}{hp:Hp}{top:Nat}(O:Bp own W φ hp top){L:Loc}{BU:Nat}{vs:List Value}
  (hb:L.Bl < W.heap.size) (hok:Da φ L (.cells false BU vs) W.heap[L.Bl]?):Bp own W (φ.ext top L) (hp.H3 top (.cells false BU vs)) (top+1):=by
 have hle:=Ren.Dc (L:=L) (O.top top (Nat.le_refl _))
 have hphi:∀j M,φ.ext top L j=some M→j≠top→φ j=some M:=fun j M e hj=>by simpa [Ren.ext,hj] using e
 have hupd:∀j o,hp.H3 top (.cells false BU vs) j=some o→j≠top→hp j=some o:=fun j o e hj=>by simpa [Hp.H3,hj] using e
 refine ⟨⟨?_, ?_, ?_, ?_,O.hr.fresh⟩, ?_, ?_⟩
 ·intro j oj e
  by_cases hj:j=top
  ·subst hj
   rw [Hp.Dj] at e;cases e
   exact ⟨L,Ren.A8 ..,hok.mono hle⟩
  ·obtain ⟨M,hM,hk⟩:=O.hr.obj j oj (hupd j oj e hj)
   exact ⟨M,hle _ _ hM,hk.mono hle⟩
 ·intro i j oi oj Li Lj ei ej hij hrw
  exfalso
  by_cases hj:i=top
  ·subst hj;rw [Hp.Dj] at ei;cases ei;cases hrw
  ·rw [O.ro i oi (hupd i oi ei hj)] at hrw;cases hrw
 ·intro i o M ei hrw
  exfalso
  by_cases hj:i=top
  ·subst hj;rw [Hp.Dj] at ei;cases ei;cases hrw
  ·rw [O.ro i o (hupd i o ei hj)] at hrw;cases hrw
 ·intro i M e
  by_cases hj:i=top
  ·subst hj;rw [Ren.A8] at e;cases e;exact hb
  ·exact O.hr.val i M (hphi i M e hj)
 ·intro j hj
  have:j≠top:=by omega
  simp only [Ren.ext,this,if_false]
  exact O.top j (by omega)
 ·intro i o e
  by_cases hj:i=top
  ·subst hj;rw [Hp.Dj] at e;cases e;rfl
  ·exact O.ro i o (hupd i o e hj)
theorem dy {P:Program}{W:World}{base:Nat}{t e:TypeId}{v:Value}(ht:P.underlying t=some (.slice e))(hok:Value.okWide P W .any base t v):∃a n c,v= .slice a n c:=by
 simp only [Value.okWide,ht,Cell.okWide,Cell.ok] at hok
 cases v <;> first | exact ⟨_,_,_,rfl⟩ | exact hok.elim
theorem Bp.slice {own:Nat→Prop}{W:World}{φ:Ren}{hp:Hp}{top:Nat}(O:Bp own W φ hp top)
  {α:Type} [Inhabited α] {E:Ax α} {good:α→Prop} {H:Type} {enc:TypeId×Value→H} {P:Program} {base dd:Nat} {t e:TypeId} {ls:List GK} {v:Value} {x:DataW H} {ps:List MemPlace}
  (ht:P.underlying t=some (.slice e)) (hl:R1 P dd e=some ls) (hsz:E.size=P.cellsOf e) (lv:∀cs,CB ls cs→∃a,cs=E.enc a∧good a)
  (hE:E.size < BQ) (h:DataW.Trod enc P W 0 (fun _=>true) true t v x ps) (hok:Value.okWide P W .any base t v) :
  ∃φ' hp' u l,φ.le φ'∧Bp own W φ' hp' (top+1)∧V φ' u v∧Br E hp' u l∧(∀a∈l,good a)∧∀i o,hp i=some o→hp' i=some o:=by
 obtain ⟨fuel,hf⟩:=h
 obtain ⟨a,len,cap,rfl⟩:=dy ht hok
 rcases Go.Deep.open_slice ht hf with ⟨h1,_⟩ | ⟨a,len,cap,m,n,D,Pl,h1,_,hlc,hcm,hm,_,hx⟩
 ·simp only [Value.cells,List.cons.injEq,Value.slice.injEq,and_true] at h1
  obtain ⟨rfl,rfl,rfl⟩:=h1
  exact ⟨φ,hp,_, [],Ren.le_refl _,⟨O.hr,fun j hj=>O.top j (by omega),O.ro⟩, .nils, .nils,by simp,fun _ _ h=>h⟩
 ·simp only [Value.cells,List.cons.injEq,Value.slice.injEq,and_true] at h1
  obtain ⟨rfl,rfl,rfl⟩:=h1
  simp only [if_true] at hm
  subst hm
  have hk:W.has P .any base a e m:=by
   simp only [Value.okWide,ht,Cell.okWide,Cell.ok] at hok
   exact hok.2.2
  obtain ⟨hs,c,t',fz,hc,hoff⟩:=Xm hk
  obtain ⟨b,off,spot⟩:=a
  simp only at hs hc hoff
  subst hs
  obtain ⟨f,hfa⟩:=Go.Deep.choose_lt (α:=α) (p:=fun i a=>W.cells? 0 (Addr.add ⟨b,off,none⟩ (i * P.cellsOf e)) (P.cellsOf e)=some (E.enc a)∧good a) (n:=m) (fun i hi=>by
   obtain ⟨cs',g1,g2⟩:=hx i hi
   obtain ⟨a,rfl,ga⟩:=lv _ (LS _ _ _ hl _ _ _ g2)
   exact ⟨a,g1,ga⟩)
  have hrows:=MW hc m (fun i=>E.enc (f i)) (fun i hi=>(hfa i hi).1)
  have hflat:(c.toList.drop off).take (m * E.size)=E.flat ((List.range m).map f):=by
   rw [hsz,hrows];simp [Ax.flat,Function.comp_def]
  have hlenf:(E.flat ((List.range m).map f)).length=m * E.size:=by rw [Ax.Dk];simp
  have hfit:off+m * E.size≤c.size:=by
   have:=congrArg List.length hflat
   rw [hlenf,List.length_take,List.length_drop,Array.length_toList] at this
   omega
  have hvs:Vs φ (E.flat ((List.range m).map f)) (E.flat ((List.range m).map f)):=by
   refine Vs.Gv fun y hy=> ?_
   simp only [Ax.flat,List.mem_flatten,List.mem_map] at hy
   obtain ⟨l,⟨a,⟨i,hi,rfl⟩,rfl⟩,hy⟩:=hy
   obtain ⟨cs',g1,g2⟩:=hx i (by simpa using hi)
   have e1:=(hfa i (by simpa using hi)).1
   rw [g1] at e1
   cases e1
   have:=(LS _ _ _ hl _ _ _ g2).vs (φ:=φ)
   obtain ⟨j,hj⟩:=List.getElem?_of_mem hy
   obtain ⟨x',e2,e3⟩:=this.get hj
   rw [hj] at e2;cases e2
   exact e3
  have hbs:b < W.heap.size:=by
   by_cases hb:b < W.heap.size
   ·exact hb
   ·rw [Array.getElem?_eq_none (by omega)] at hc;cases hc
  have O':=O.add (L:=⟨b,off,E.size,c.size⟩) (BU:=E.size) (vs:=E.flat ((List.range m).map f)) hbs ⟨rfl,c,t',fz,hc,rfl,by rw [hlenf];exact hfit,by rw [hlenf];rw [hflat];exact hvs,⟨(by intro h;cases h),(fun _ h=>absurd h (Nat.not_le.2 hE)),(by intro h;cases h)⟩⟩
  refine ⟨_,_, .slice (some ⟨top,0,none⟩) len m,((List.range m).map f).take len,Ren.Dc (O.top top (Nat.le_refl _)),O', ?_, ?_, ?_, ?_⟩
  ·exact V.slice top 0 len m m _ (Ren.A8 ..) hlc (Nat.le_refl _) (by simpa using hfit)
  ·have hlen:(((List.range m).map f).take len).length=len:=by simp;omega
   have:=Br.rows (E:=E) (hp:=hp.H3 top (.cells false E.size (E.flat ((List.range m).map f)))) top 0 m false _ (((List.range m).map f).take len) (Hp.Dj ..)
    (by rw [hlen,List.drop_zero,Ax.Nh]) (by rw [hlen,hlenf];have:=Nat.mul_le_mul_right E.size hlc;omega) (by omega) (by rw [hlen];have:m≤9223372036854775807:=Nat.le_trans hcm (by decide:maxLen≤9223372036854775807);omega)
   rwa [hlen] at this
  ·intro a ha
   obtain ⟨i,hi,rfl⟩:=List.mem_map.1 (List.mem_of_mem_take ha)
   exact (hfa i (by simpa using hi)).2
  ·intro i o hi
   have:i≠top:=fun e=>by
    obtain ⟨M,hM,_⟩:=O.hr.obj i o hi
    rw [e,O.top top (Nat.le_refl _)] at hM;cases hM
   simpa [Hp.H3,this] using hi
end Go.Dm
namespace Go.Dm
inductive JS where
 |nil
 |emp
 |mk (b o n c:Nat)
 deriving DecidableEq
instance:Inhabited JS:=⟨.nil⟩
def JS.v:JS→Value
 | .nil=> .slice none 0 0
 | .emp=> .slice (some ⟨0,0,some 0⟩) 0 0
 | .mk b o n c=> .slice (some ⟨b,o,none⟩) n c
def Yd:Value→JS
 | .slice (some ⟨b,o,none⟩) n c=> .mk b o n c
 | .slice (some ⟨_,_,some _⟩) _ _=> .emp
 |_=> .nil
theorem hO (r:JS):Yd r.v=r:=by cases r <;> rfl
theorem JS.oc (r:JS):Value.oneCell' r.v=true:=by cases r <;> rfl
theorem JS.cl (r:JS):Ay r.v= [r.v]:=by cases r <;> rfl
def JS.ra (ρ:Nat→Nat):JS→JS
 | .nil=> .nil
 | .emp=> .emp
 | .mk b o n c=> .mk (ρ b) o n c
theorem ZT {α:Type}{b:Nat}{l:List α}:(Yd (A4 b l)).v=A4 b l:=by cases l <;> rfl
theorem Br.ref {α:Type}{E:Ax α}{hp:Hp}{v:Value}{l:List α}(h:Br E hp v l):(Yd v).v=v:=by cases h <;> rfl
class Ax.Ra {α:Type} (E:Ax α) where
 ra:(Nat→Nat)→α→α
 ok:∀ρ a,Am ρ (E.enc a)=E.enc (ra ρ a)
theorem G7.at {n:Nat}:∀ {l:List Value} {i:Nat} {v:Value},G7 n l→l[i]? = some v→Sc n v
 |_ :: _,0,_,h,e=>by simp at e;subst e;exact h.1
 |_ :: l,i+1,_,h,e=>G7.at h.2 (by simpa using e)
theorem S6 {ρ:Nat→Nat}{l:List Bool}:Am ρ (l.map Value.bool)=l.map Value.bool:=by
 rw [GG,List.map_map];rfl
theorem XW {l:List Bool}{i:Nat}(h:i < l.length):((l.map Value.bool)[i]?).getD undef= .bool ((l[i]?).getD false):=by simp [h]
theorem QG {l:List Bool}{n:Nat}{b:Bool}(h:n < l.length):A7 (l.map Value.bool) n [.bool b] = (l.set n b).map Value.bool:=by
 rw [Lo (by simpa using h),List.map_set]
theorem SB {n:Nat}{v:Value}(h:Value.oneCell' v=true):BA (E3 n v)=true:=by
 induction n with
 |zero=>rfl
 |succ n ih=>
  have:E3 (n+1) v=v :: E3 n v:=by simp [E3,List.replicate_succ]
  rw [this];simp [BA,h,ih]
theorem nV {n:Nat}{k:IntKind}{m:Int}:BA (E3 n (.int k m))=true:=SB rfl
theorem lk {n:Nat}{b:Bool}:BA (E3 n (.bool b))=true:=SB rfl
theorem Br.pre {α:Type}{E:Ax α}{hp:Hp}{b n c:Nat}{m:List α}(h:hp b=Au E m)(hc:m.length=c)(h0:0 < c)(hn:n≤c)(hl:c≤9223372036854775807):Br E hp (.slice (some ⟨b,0,none⟩) n c) (m.take n):=by
 subst hc
 cases m with
 |nil=>simp at h0
 |cons a m=>
  have hlt:((a :: m).take n).length=n:=by rw [List.length_take];omega
  have h2:n * E.size≤(a :: m).length * E.size:=Nat.mul_le_mul_right _ hn
  have:=Br.rows (E:=E) (hp:=hp) b 0 (a :: m).length true (E.flat (a :: m)) ((a :: m).take n) h (by rw [hlt,List.drop_zero,Ax.Nh]) (by rw [hlt,Ax.Dk];omega) (by omega) (by omega)
  rw [hlt] at this
  exact this
theorem IW {α:Type}{E:Ax α}{hp:Hp}{b:Nat}{l:List α}{tt:Aa}{top t0 t1 e k:Nat}{i1 j:TI}(h0:kindOf tt t0=some (.slice e))(h1:tt t1=some i1)(hi:EF i1.ud=false)(hj:tt e=some j)(hs:j.size=E.size)(hby:Nat.ble j.bytes 65536=true)
  (h:hp b=Au E l) (hk:hp k=some (.cells true E.size (cellsOf (hp k)))) (hc:E.enc (E.dec (cellsOf (hp k)))=cellsOf (hp k)) (hn:DR (l.length+1) j.bytes=true) :
  A6 tt hp top [t0,t1] (A4 b l) (.slice (some ⟨k,0,none⟩) 1 1)=some (A4 top (l ++ [E.dec (cellsOf (hp k))]),FK b l top (Au E (l ++ [E.dec (cellsOf (hp k))])),top+1):=
 Jo h0 h1 hi hj hs hby h (Br.one (by rw [hc];exact hk)) (by simpa using hn)
end Go.Dm
namespace Go.Dm
open Go.WideShapes Go.ChangeShapes
inductive Sh where
 |leaf (l:GK)
 |sl (ls:List Sh) (eb:Nat)
mutual
inductive dK (hp:Hp):Sh→Value→Prop
 |leaf (l:GK) (v:Value) (h:l.ok v):dK hp (.leaf l) v
 |nils (ls:List Sh) (eb:Nat):dK hp (.sl ls eb) (.slice none 0 0)
 |emp (ls:List Sh) (eb:Nat):dK hp (.sl ls eb) (.slice (some ⟨0,0,some 0⟩) 0 0)
 |rows (ls:List Sh) (eb:Nat) (b n c:Nat) (vs:List Value) (hb:hp b=some (.cells false ls.length vs)) (hn:n≤c) (hc:c * ls.length≤vs.length) (hm:c≤9223372036854775807) (hz:c * eb≤reachBytes)
   (each:∀i,i < n→I4 hp ls ((vs.drop (i * ls.length)).take ls.length)):dK hp (.sl ls eb) (.slice (some ⟨b,0,none⟩) n c)
inductive I4 (hp:Hp):List Sh→List Value→Prop
 |nil:I4 hp [] []
 |cons (s:Sh) (ls:List Sh) (v:Value) (vs:List Value) (h:dK hp s v) (hl:I4 hp ls vs):I4 hp (s :: ls) (v :: vs)
end
def Ext (hp hp':Hp):Prop:= ∀i o,hp i=some o→hp' i=some o
theorem Ext.refl (hp:Hp):Ext hp hp:=fun _ _ h=>h
theorem Ext.trans {a b c:Hp}(h:Ext a b)(g:Ext b c):Ext a c:=fun i o e=>g i o (h i o e)
mutual
theorem dK.mono {hp hp':Hp}(he:Ext hp hp'):∀ {s:Sh} {v:Value},dK hp s v→dK hp' s v
 |_,_, .leaf l v h=> .leaf l v h
 |_,_, .nils ls eb=> .nils ls eb
 |_,_, .emp ls eb=> .emp ls eb
 |_,_, .rows ls eb b n c vs hb hn hc hm hz each=> .rows ls eb b n c vs (he _ _ hb) hn hc hm hz fun i hi=>I4.mono he (each i hi)
theorem I4.mono {hp hp':Hp}(he:Ext hp hp'):∀ {s:List Sh} {v:List Value},I4 hp s v→I4 hp' s v
 |_,_, .nil=> .nil
 |_,_, .cons s ls v vs h hl=> .cons s ls v vs (dK.mono he h) (I4.mono he hl)
end
theorem I4.append {hp:Hp}:∀ {a b:List Sh} {x y:List Value},I4 hp a x→I4 hp b y→I4 hp (a ++ b) (x ++ y)
 |_,_,_,_, .nil,h=>h
 |_,_,_,_, .cons s ls v vs h hl,h'=> .cons s _ v _ h (I4.append hl h')
structure sd (own:Nat→Prop) (W:World) (φ:Ren) (hp:Hp) (ls:List Sh) (cs:List Value) (φ':Ren) (hp':Hp) (top':Nat) (cs':List Value):Prop where
 le:φ.le φ'
 op:Bp own W φ' hp' top'
 ext:Ext hp hp'
 vs:Vs φ' cs' cs
 ok:I4 hp' ls cs'
def Ds (own:Nat→Prop)(W:World)(ls:List Sh)(cs:List Value):Prop:= ∀φ hp top,Bp own W φ hp top→∃φ' hp' top' cs',sd own W φ hp ls cs φ' hp' top' cs'
theorem Ds.nil {own:Nat→Prop}{W:World}:Ds own W [] []:=fun φ hp top O=>⟨φ,hp,top, [],Ren.le_refl _,O,Ext.refl _, .nil, .nil⟩
theorem Ds.append {own:Nat→Prop}{W:World}{a b:List Sh}{x y:List Value}(h:Ds own W a x)(g:Ds own W b y):Ds own W (a ++ b) (x ++ y):=by
 intro φ hp top O
 obtain ⟨φ1,hp1,top1,x',A⟩:=h φ hp top O
 obtain ⟨φ2,hp2,top2,y',B⟩:=g φ1 hp1 top1 A.op
 exact ⟨φ2,hp2,top2,x' ++ y',Ren.le_trans A.le B.le,B.op,A.ext.trans B.ext,(A.vs.mono B.le).append B.vs,(A.ok.mono B.ext).append B.ok⟩
theorem Ds.leaf {own:Nat→Prop}{W:World}{l:GK}{v:Value}(h:l.ok v):Ds own W [.leaf l] [v]:=
 fun φ hp top O=>⟨φ,hp,top, [v],Ren.le_refl _,O,Ext.refl _, .cons _ _ _ _ (GK.v h) .nil, .cons _ _ _ _ (.leaf _ _ h) .nil⟩
theorem Ds.rep {own:Nat→Prop}{W:World}{ls:List Sh}{cs:List Value}{s:Nat}(hs:ls.length=s):∀n,(∀i,i < n→Ds own W ls ((cs.drop (i * s)).take s))→Ds own W (List.replicate n ls).flatten (cs.take (n * s))
 |0,_=>by simp only [List.replicate_zero,List.flatten_nil,Nat.zero_mul,List.take_zero];exact .nil
 |n+1,h=>by
  have ih:=Ds.rep hs n (fun i hi=>h i (by omega))
  have hn:=h n (by omega)
  rw [Nat.succ_mul,List.take_add,List.replicate_succ',List.flatten_append]
  exact ih.append (by simpa using hn)
theorem sd.one {own:Nat→Prop}{W:World}{φ φ':Ren}{hp hp':Hp}{top':Nat}{s:Sh}{v:Value}{cs':List Value}(O:sd own W φ hp [s] [v] φ' hp' top' cs'):∃u,cs' = [u]∧V φ' u v∧dK hp' s u:=by
 obtain ⟨_,_,_,V1,K⟩:=O
 cases V1 with
 |cons u _ _ _ V1 hl=>
 cases hl
 cases K with
 |cons _ _ _ _ hk _=>exact ⟨u,rfl,V1,hk⟩
end Go.Dm
