import Derived.Test.YthpibnpeaidabaaGreatDoorDmF
import Derived.Deep.Slices
import Derived.Carry
import Derived.ChangeSame
import Derived.SizedLaws
set_option linter.unusedSimpArgs false
set_option linter.unusedVariables false
namespace Go.Dm
open Go.WideShapes Go.ChangeShapes
inductive GA where
 |bool
 |int (k:IntKind)
 |str
def GA.ok:GA→Value→Prop
 | .bool,v=> ∃b,v= .bool b
 | .int k,v=> ∃n,v= .int k n∧k.min≤n∧n≤k.max
 | .str,v=> ∃s,v= .string s∧s.size≤maxLen
def B1:List GA→List Value→Prop
 | [],cs=>cs= []
 |x :: ls,cs=> ∃v vs,cs=v :: vs∧x.ok v∧B1 ls vs
theorem B1.append:∀ {a b:List GA} {x y:List Value},B1 a x→B1 b y→B1 (a ++ b) (x ++ y)
 | [],_,_,_,h,h'=>by cases h;exact h'
 |_ :: _,_,_,_,⟨v,vs,e,h1,h2⟩,h'=>by subst e;exact ⟨v,vs ++ _,rfl,h1,B1.append h2 h'⟩
theorem B1.len:∀ {a:List GA} {x:List Value},B1 a x→x.length=a.length
 | [],_,h=>by cases h;rfl
 |_ :: _,_,⟨v,vs,e,h1,h2⟩=>by subst e;simp [B1.len h2]
theorem GA.v {φ:Ren}{x:GA}{v:Value}(h:x.ok v):V φ v v:=by
 cases x with
 |bool=>obtain ⟨b,rfl⟩:=h;exact .bool b
 |int k=>obtain ⟨n,rfl,_⟩:=h;exact .int k n
 |str=>obtain ⟨s,rfl,_⟩:=h;exact .str s
theorem B1.vs {φ:Ren}:∀ {a:List GA} {x:List Value},B1 a x→Vs φ x x
 | [],_,h=>by cases h;exact .nil
 |_ :: _,_,⟨v,vs,e,h1,h2⟩=>by subst e;exact .cons _ _ _ _ (GA.v h1) h2.vs
theorem B1.rep {ls:List GA}{cs:List Value}{s:Nat}(hs:ls.length=s):∀n,(∀i,i < n→B1 ls ((cs.drop (i * s)).take s))→B1 (List.replicate n ls).flatten (cs.take (n * s))
 |0,_=>by simp [B1]
 |n+1,h=>by
  have ih:=B1.rep hs n (fun i hi=>h i (by omega))
  have hn:=h n (by omega)
  rw [Nat.succ_mul,List.take_add,List.replicate_succ',List.flatten_append]
  exact ih.append (by simpa using hn)
def HV (P:Program)(r:TypeId→Option (List GA)):List Field→Nat→Option (List GA)
 | [],_=>some []
 |f :: fs,off=>match r f.type with
  |some ls=>if f.offset=off∧ls.length=P.cellsOf f.type then (HV P r fs (off+ls.length)).map (ls ++ ·) else none
  |none=>none
def Tf (P:Program):Nat→TypeId→Option (List GA)
 |0,_=>none
 |d+1,t=>match P.underlying t with
  |some .bool=>some [.bool]
  |some (.int k)=>some [.int k]
  |some .string=>some [.str]
  |some (.struct fs)=>(HV P (Tf P d) fs.toList 0).bind fun ls=>if ls.length=P.cellsOf t then some ls else none
  |some (.array n e)=>(Tf P d e).bind fun ls=>if ls.length=P.cellsOf e∧n * P.cellsOf e=P.cellsOf t then some (List.replicate n ls).flatten else none
  |_=>none
theorem JE {P:Program}{r:TypeId→Option (List GA)}{cs:List Value}:∀ {fs:List Field} {off:Nat} {ls:List GA},HV P r fs off=some ls→
  (∀f∈fs,∀l,r f.type=some l→B1 l ((cs.drop f.offset).take (P.cellsOf f.type)))→B1 ls ((cs.drop off).take ls.length)
 | [],_,_,h,_=>by cases h;simp [B1]
 |f :: fs,off,ls,h,hc=>by
  unfold HV at h
  split at h
  ·rename_i l hl
   split at h
   ·rename_i hh
    obtain ⟨h1,h2⟩:=hh
    obtain ⟨m,hm,rfl⟩:=Option.map_eq_some_iff.1 h
    have a:=hc f (List.mem_cons_self ..) l hl
    have b:=JE (cs:=cs) hm (fun g hg=>hc g (List.mem_cons_of_mem _ hg))
    rw [List.length_append,List.take_add,List.drop_drop]
    rw [h1,←h2] at a
    exact a.append b
   ·cases h
  ·cases h
theorem NH {H:Type}{enc:TypeId×Value→H}{P:Program}{w:World}{base:Nat}{spare:Nat→Bool}{held:Bool}:∀(d:Nat) (t:TypeId) (ls:List GA),Tf P d t=some ls→∀(fuel:Nat) (cs:List Value) (x:DataW H×List MemPlace),
  DataW.trod enc P w base spare held fuel t cs=some x→B1 ls cs:=by
 intro d
 induction d with
 |zero=>intro t ls h;cases h
 |succ d ih=>
  intro t ls h fuel cs x hx
  cases fuel with
  |zero=>cases hx
  |succ n=>
   rw [DataW.trod_step] at hx
   unfold DataW.trodStep at hx
   unfold Tf at h
   split at h
   ·rename_i ht
    cases h
    simp only [ht] at hx
    split at hx <;> first | (rename_i e;simp at e;done) | skip
    all_goals first | (cases hx;done) | skip
    all_goals first | exact ⟨_,_,rfl,⟨_,rfl⟩,rfl⟩ | (simp_all;done)
   ·rename_i k ht
    cases h
    simp only [ht] at hx
    split at hx
    all_goals first | (simp_all;done) | skip
    rename_i k1 k' m heq
    split at hx
    ·rename_i hh
     obtain ⟨rfl,hw⟩:=hh
     simp only [Option.some.injEq,TypeDesc.int.injEq] at heq
     subst heq
     have:=hw
     simp only [Lit.wf,Bool.and_eq_true,decide_eq_true_eq] at this
     exact ⟨_,_,rfl,⟨_,rfl,this.1,this.2⟩,rfl⟩
    ·cases hx
   ·rename_i ht
    cases h
    simp only [ht] at hx
    split at hx
    all_goals first | (simp_all;done) | skip
    split at hx
    ·rename_i hh
     exact ⟨_,_,rfl,⟨_,rfl,hh⟩,rfl⟩
    ·cases hx
   ·rename_i fs ht
    simp only [ht] at hx
    obtain ⟨ls',hf,h2⟩:=Option.bind_eq_some_iff.1 h
    split at h2
    ·rename_i hlen
     cases h2
     split at hx
     ·rename_i hcs
      obtain ⟨xs,hm,_⟩:=Option.map_eq_some_iff.1 hx
      have:=JE (cs:=cs) hf (fun f hfm l hl=>by
       obtain ⟨i,hi,e⟩:=List.mem_iff_getElem.1 hfm
       have g:=mapM_some_get hm i f (by rw [List.getElem?_eq_getElem hi,e])
       have hlx:=mapM_some_length hm
       rw [List.getElem?_eq_getElem (by omega)] at g
       exact ih _ _ hl _ _ _ g)
      rwa [List.drop_zero,hlen,←hcs,List.take_length] at this
     ·cases hx
    ·cases h2
   ·rename_i m e ht
    simp only [ht] at hx
    obtain ⟨ls',hf,h2⟩:=Option.bind_eq_some_iff.1 h
    split at h2
    ·rename_i hlen
     cases h2
     split at hx
     ·rename_i hcs
      obtain ⟨xs,hm,_⟩:=Option.map_eq_some_iff.1 hx
      have hlx:=mapM_some_length hm
      have:=B1.rep (cs:=cs) hlen.1 m (fun i hi=>by
       have g:=mapM_some_get hm i i (by simp [hi])
       rw [List.getElem?_eq_getElem (by rw [hlx];simpa using hi)] at g
       exact ih _ _ hf _ _ _ g)
      rwa [hlen.2,←hcs,List.take_length] at this
     ·cases hx
    ·cases h2
   ·cases h
theorem Y4 {P:Program}{fits:TypeId→Bool}:∀(d:Nat) (e:TypeId) (count off n:Nat),rowAt P fits d e count off n=true→off≤count * P.cellsOf e
 |0,_,_,_,_,h=>by cases h
 |d+1,e,count,off,n,h=>by
  unfold rowAt at h
  have hm:=Nat.div_add_mod off (P.cellsOf e)
  by_cases hs:P.cellsOf e=0
  ·simp [hs] at h
  ·have hlt:=Nat.mod_lt off (Nat.pos_of_ne_zero hs)
   simp only [hs,if_false,Bool.or_eq_true,Bool.and_eq_true,beq_iff_eq,decide_eq_true_eq] at h
   rcases h with ⟨⟨h1,h2⟩,_⟩ | ⟨h1,_⟩
   ·rw [h1,Nat.add_zero] at hm
    rw [←hm,Nat.mul_comm]
    exact Nat.mul_le_mul_right _ (by omega)
   ·have h3:(off / P.cellsOf e+1) * P.cellsOf e≤count * P.cellsOf e:=Nat.mul_le_mul_right _ h1
    rw [Nat.succ_mul,Nat.mul_comm] at h3
    omega
theorem MT {P:Program}:∀(d:Nat) (e:TypeId) (count off:Nat) (u:TypeId) (n:Nat),liesAt P d e count off u n=true→off≤count * P.cellsOf e
 |0,_,_,_,_,_,h=>by cases h
 |d+1,e,count,off,u,n,h=>by
  unfold liesAt at h
  rw [Bool.or_eq_true] at h
  rcases h with h | h
  ·exact Y4 _ _ _ _ _ h
  ·split at h
   ·exact MT _ _ _ _ _ _ h
   ·cases h
theorem ZK {P:Program}{w:World}{r:Reach}{base:Nat}{a:Addr}{e:TypeId}{n:Nat}(h:w.has P r base a e n):a.spot=none∧∃c t fz,w.heap[a.block]? = some (.cells c t fz)∧a.off≤c.size:=by
 obtain ⟨_,h1,row,cells,h2,h3⟩:=h
 refine ⟨h1, ?_⟩
 unfold World.shape? at h2
 split at h2
 ·rename_i c t fz hc
  simp only [Option.some.injEq,Prod.mk.injEq] at h2
  obtain ⟨rfl,rfl⟩:=h2
  refine ⟨c,t,fz,hc, ?_⟩
  have h4:=MT _ _ _ _ _ _ h3
  have:=Nat.div_mul_le_self c.size (P.cellsOf t)
  first | omega | (rename_i hh;omega)
 ·cases h2
theorem Ji {w:World}{b off s:Nat}{c:Array Value}{t:TypeId}{fz:Nat×Nat}(hc:w.heap[b]? = some (.cells c t fz)):∀(n:Nat) (rows:Nat→List Value),
  (∀i,i < n→w.cells? 0 (Addr.add ⟨b,off,none⟩ (i * s)) s=some (rows i))→(c.toList.drop off).take (n * s)=((List.range n).map rows).flatten
 |0,_,_=>by simp
 |n+1,rows,h=>by
  have ih:=Ji hc n rows (fun i hi=>h i (by omega))
  obtain ⟨_,h1,h2⟩:=World.cells?_some (h n (by omega))
  rw [Nat.succ_mul,List.take_add,ih,List.range_succ,List.map_append,List.flatten_append]
  congr 1
  simp only [List.map_cons,List.map_nil,List.flatten_cons,List.flatten_nil,List.append_nil]
  apply List.ext_getElem?
  intro j
  by_cases hj:j < s
  ·have:=h2 j hj
   rw [add_plain,add_plain] at this
   simp only [World.cell?,hc,Option.isSome_none,Bool.false_eq_true,if_false] at this
   rw [←this,List.getElem?_take_of_lt hj,List.drop_drop,List.getElem?_drop,Array.getElem?_toList]
  ·rw [List.getElem?_eq_none (by rw [List.length_take];omega),List.getElem?_eq_none (by omega)]
structure B5 (own:Nat→Prop) (W:World) (φ:Ren) (hp:Hp) (top:Nat):Prop where
 hr:HR φ own hp W
 top:∀j,top≤j→φ j=none
 ro:∀i o,hp i=some o→o.rw=false
theorem B5.nil (W:World):B5 (fun b=>W.heap.size≤b) W (fun _=>none) (fun _=>none) 0:=
 ⟨⟨fun i o h=>(by cases h),fun i j oi oj Li Lj h=>(by cases h),fun i o L h=>(by cases h),fun i L h=>(by cases h),fun b hb=>hb⟩,fun _ _=>rfl,fun _ _ h=>(by cases h)⟩
theorem B5.add {own:Nat→Prop}{W:World}{φ:Ren}{hp:Hp}{top:Nat}(O:B5 own W φ hp top){L:Loc}{BO:Nat}{vs:List Value}
  (hb:L.BR < W.heap.size) (hok:DH φ L (.cells false BO vs) W.heap[L.BR]?):B5 own W (φ.ext top L) (hp.Ij top (.cells false BO vs)) (top+1):=by
 have hle:=Ren.DA (L:=L) (O.top top (Nat.le_refl _))
 have hphi:∀j M,φ.ext top L j=some M→j≠top→φ j=some M:=fun j M e hj=>by simpa [Ren.ext,hj] using e
 have hupd:∀j o,hp.Ij top (.cells false BO vs) j=some o→j≠top→hp j=some o:=fun j o e hj=>by simpa [Hp.Ij,hj] using e
 refine ⟨⟨?_, ?_, ?_, ?_,O.hr.fresh⟩, ?_, ?_⟩
 ·intro j oj e
  by_cases hj:j=top
  ·subst hj
   rw [Hp.Gc] at e;cases e
   exact ⟨L,Ren.A4 ..,hok.mono hle⟩
  ·obtain ⟨M,hM,hk⟩:=O.hr.obj j oj (hupd j oj e hj)
   exact ⟨M,hle _ _ hM,hk.mono hle⟩
 ·intro i j oi oj Li Lj ei ej hij hrw
  exfalso
  by_cases hj:i=top
  ·subst hj;rw [Hp.Gc] at ei;cases ei;cases hrw
  ·rw [O.ro i oi (hupd i oi ei hj)] at hrw;cases hrw
 ·intro i o M ei hrw
  exfalso
  by_cases hj:i=top
  ·subst hj;rw [Hp.Gc] at ei;cases ei;cases hrw
  ·rw [O.ro i o (hupd i o ei hj)] at hrw;cases hrw
 ·intro i M e
  by_cases hj:i=top
  ·subst hj;rw [Ren.A4] at e;cases e;exact hb
  ·exact O.hr.val i M (hphi i M e hj)
 ·intro j hj
  have:j≠top:=by omega
  simp only [Ren.ext,this,if_false]
  exact O.top j (by omega)
 ·intro i o e
  by_cases hj:i=top
  ·subst hj;rw [Hp.Gc] at e;cases e;rfl
  ·exact O.ro i o (hupd i o e hj)
theorem W5 {P:Program}{W:World}{base:Nat}{t e:TypeId}{v:Value}(ht:P.underlying t=some (.slice e))(hok:Value.okWide P W .any base t v):∃a n c,v= .slice a n c:=by
 simp only [Value.okWide,ht,Cell.okWide,Cell.ok] at hok
 cases v <;> first | exact ⟨_,_,_,rfl⟩ | exact hok.elim
theorem B5.slice {own:Nat→Prop}{W:World}{φ:Ren}{hp:Hp}{top:Nat}(O:B5 own W φ hp top)
  {α:Type} [Inhabited α] {E:Bk α} {good:α→Prop} {H:Type} {enc:TypeId×Value→H} {P:Program} {base dd:Nat} {t e:TypeId} {ls:List GA} {v:Value} {x:DataW H} {ps:List MemPlace}
  (ht:P.underlying t=some (.slice e)) (hl:Tf P dd e=some ls) (hsz:E.size=P.cellsOf e) (lv:∀cs,B1 ls cs→∃a,cs=E.enc a∧good a)
  (hE:E.size < BB) (h:DataW.Trod enc P W 0 (fun _=>true) true t v x ps) (hok:Value.okWide P W .any base t v) :
  ∃φ' hp' u l,φ.le φ'∧B5 own W φ' hp' (top+1)∧V φ' u v∧BM E hp' u l∧(∀a∈l,good a)∧∀i o,hp i=some o→hp' i=some o:=by
 obtain ⟨fuel,hf⟩:=h
 obtain ⟨a,len,cap,rfl⟩:=W5 ht hok
 rcases Go.Deep.open_slice ht hf with ⟨h1,_⟩ | ⟨a,len,cap,m,n,D,Pl,h1,_,hlc,hcm,hm,_,hx⟩
 ·simp only [Value.cells,List.cons.injEq,Value.slice.injEq,and_true] at h1
  obtain ⟨rfl,rfl,rfl⟩:=h1
  exact ⟨φ,hp,_, [],Ren.le_refl _,⟨O.hr,fun j hj=>O.top j (by omega),O.ro⟩, .nils, .nils,by simp,fun _ _ h=>h⟩
 ·simp only [Value.cells,List.cons.injEq,Value.slice.injEq,and_true] at h1
  obtain ⟨rfl,rfl,rfl⟩:=h1
  simp only [if_true] at hm
  subst hm
  have hk:W.has P .any base a e m:=by
   simp only [Value.okWide,ht,Cell.okWide,Cell.ok] at hok
   exact hok.2.2
  obtain ⟨hs,c,t',fz,hc,hoff⟩:=ZK hk
  obtain ⟨b,off,spot⟩:=a
  simp only at hs hc hoff
  subst hs
  obtain ⟨f,hfa⟩:=Go.Deep.choose_lt (α:=α) (p:=fun i a=>W.cells? 0 (Addr.add ⟨b,off,none⟩ (i * P.cellsOf e)) (P.cellsOf e)=some (E.enc a)∧good a) (n:=m) (fun i hi=>by
   obtain ⟨cs',g1,g2⟩:=hx i hi
   obtain ⟨a,rfl,ga⟩:=lv _ (NH _ _ _ hl _ _ _ g2)
   exact ⟨a,g1,ga⟩)
  have hrows:=Ji hc m (fun i=>E.enc (f i)) (fun i hi=>(hfa i hi).1)
  have hflat:(c.toList.drop off).take (m * E.size)=E.flat ((List.range m).map f):=by
   rw [hsz,hrows];simp [Bk.flat,Function.comp_def]
  have hlenf:(E.flat ((List.range m).map f)).length=m * E.size:=by rw [Bk.Bb];simp
  have hfit:off+m * E.size≤c.size:=by
   have:=congrArg List.length hflat
   rw [hlenf,List.length_take,List.length_drop,Array.length_toList] at this
   omega
  have hvs:Vs φ (E.flat ((List.range m).map f)) (E.flat ((List.range m).map f)):=by
   refine Vs.HD fun y hy=> ?_
   simp only [Bk.flat,List.mem_flatten,List.mem_map] at hy
   obtain ⟨l,⟨a,⟨i,hi,rfl⟩,rfl⟩,hy⟩:=hy
   obtain ⟨cs',g1,g2⟩:=hx i (by simpa using hi)
   have e1:=(hfa i (by simpa using hi)).1
   rw [g1] at e1
   cases e1
   have:=(NH _ _ _ hl _ _ _ g2).vs (φ:=φ)
   obtain ⟨j,hj⟩:=List.getElem?_of_mem hy
   obtain ⟨x',e2,e3⟩:=this.get hj
   rw [hj] at e2;cases e2
   exact e3
  have hbs:b < W.heap.size:=by
   by_cases hb:b < W.heap.size
   ·exact hb
   ·rw [Array.getElem?_eq_none (by omega)] at hc;cases hc
  have O':=O.add (L:=⟨b,off,E.size,c.size⟩) (BO:=E.size) (vs:=E.flat ((List.range m).map f)) hbs ⟨rfl,c,t',fz,hc,rfl,by rw [hlenf];exact hfit,by rw [hlenf];rw [hflat];exact hvs,⟨(by intro h;cases h),(fun _ h=>absurd h (Nat.not_le.2 hE)),(by intro h;cases h)⟩⟩
  refine ⟨_,_, .slice (some ⟨top,0,none⟩) len m,((List.range m).map f).take len,Ren.DA (O.top top (Nat.le_refl _)),O', ?_, ?_, ?_, ?_⟩
  ·exact V.slice top 0 len m m _ (Ren.A4 ..) hlc (Nat.le_refl _) (by simpa using hfit)
  ·have hlen:(((List.range m).map f).take len).length=len:=by simp;omega
   have:=BM.rows (E:=E) (hp:=hp.Ij top (.cells false E.size (E.flat ((List.range m).map f)))) top 0 m false _ (((List.range m).map f).take len) (Hp.Gc ..)
    (by rw [hlen,List.drop_zero,Bk.Gu]) (by rw [hlen,hlenf];have:=Nat.mul_le_mul_right E.size hlc;omega) (by omega) (by rw [hlen];have:m≤9223372036854775807:=Nat.le_trans hcm (by decide:maxLen≤9223372036854775807);omega)
   rwa [hlen] at this
  ·intro a ha
   obtain ⟨i,hi,rfl⟩:=List.mem_map.1 (List.mem_of_mem_take ha)
   exact (hfa i (by simpa using hi)).2
  ·intro i o hi
   have:i≠top:=fun e=>by
    obtain ⟨M,hM,_⟩:=O.hr.obj i o hi
    rw [e,O.top top (Nat.le_refl _)] at hM;cases hM
   simpa [Hp.Ij,this] using hi
end Go.Dm
namespace Go.Dm
inductive Kg where
 |nil
 |emp
 |mk (b o n c:Nat)
 deriving DecidableEq
instance:Inhabited Kg:=⟨.nil⟩
def Kg.v:Kg→Value
 | .nil=> .slice none 0 0
 | .emp=> .slice (some ⟨0,0,some 0⟩) 0 0
 | .mk b o n c=> .slice (some ⟨b,o,none⟩) n c
def cH:Value→Kg
 | .slice (some ⟨b,o,none⟩) n c=> .mk b o n c
 | .slice (some ⟨_,_,some _⟩) _ _=> .emp
 |_=> .nil
theorem lF (r:Kg):cH r.v=r:=by cases r <;> rfl
theorem Kg.oc (r:Kg):Value.oneCell' r.v=true:=by cases r <;> rfl
theorem Kg.cl (r:Kg):Au r.v= [r.v]:=by cases r <;> rfl
def Kg.ra (ρ:Nat→Nat):Kg→Kg
 | .nil=> .nil
 | .emp=> .emp
 | .mk b o n c=> .mk (ρ b) o n c
theorem cI {α:Type}{b:Nat}{l:List α}:(cH (AR b l)).v=AR b l:=by cases l <;> rfl
theorem BM.ref {α:Type}{E:Bk α}{hp:Hp}{v:Value}{l:List α}(h:BM E hp v l):(cH v).v=v:=by cases h <;> rfl
class Bk.Ra {α:Type} (E:Bk α) where
 ra:(Nat→Nat)→α→α
 ok:∀ρ a,Bt ρ (E.enc a)=E.enc (ra ρ a)
theorem BM.BN {α:Type}{E:Bk α}{hp h':Hp}{v:Value}{l:List α}{n:Nat}(h:BM E hp v l)(hs:Sc n v)(hk:AJ n [] h' hp):BM E h' v l:=
 h.mono fun b o m c e=>by subst e;exact hk.nil b hs
theorem BM.sc {α:Type}{E:Bk α}{hp:Hp}{v:Value}{l:List α}{n:Nat}(h:BM E hp v l)(hcl:Cl hp n):∀a∈l,F5 n (E.enc a):=by
 cases h with
 |nils=>intro a ha;cases ha
 |emp=>intro a ha;cases ha
 |rows b o c rw vs l hb hv ho hc hn=>
  have hsc:F5 n vs:=hcl.sc _ _ hb
  have key:∀l:List Value,F5 n l ↔ ∀x∈l,Sc n x:=by
   intro l
   induction l with
   |nil=>simp [F5]
   |cons a l ih=>simp [F5,ih]
  rw [key] at hsc
  intro a ha
  rw [key]
  intro x hx
  refine hsc x ?_
  have:x∈E.flat l:=by
   simp only [Bk.flat,List.mem_flatten,List.mem_map]
   exact ⟨E.enc a,⟨a,ha,rfl⟩,hx⟩
  rw [←hv] at this
  exact List.mem_of_mem_drop (List.mem_of_mem_take this)
theorem F5.at {n:Nat}:∀ {l:List Value} {i:Nat} {v:Value},F5 n l→l[i]? = some v→Sc n v
 |_ :: _,0,_,h,e=>by simp at e;subst e;exact h.1
 |_ :: l,i+1,_,h,e=>F5.at h.2 (by simpa using e)
theorem Vi {ρ:Nat→Nat}{l:List Bool}:Bt ρ (l.map Value.bool)=l.map Value.bool:=by
 rw [FU,List.map_map];rfl
theorem Zq {l:List Bool}{i:Nat}(h:i < l.length):((l.map Value.bool)[i]?).getD undef= .bool ((l[i]?).getD false):=by simp [h]
theorem Qg {l:List Bool}{n:Nat}{b:Bool}(h:n < l.length):Ag (l.map Value.bool) n [.bool b] = (l.set n b).map Value.bool:=by
 rw [NB (by simpa using h),List.map_set]
theorem Sm {n:Nat}{v:Value}(h:Value.oneCell' v=true):Aq (Jr n v)=true:=by
 induction n with
 |zero=>rfl
 |succ n ih=>
  have:Jr (n+1) v=v :: Jr n v:=by simp [Jr,List.replicate_succ]
  rw [this];simp [Aq,h,ih]
theorem qo {n:Nat}{k:IntKind}{m:Int}:Aq (Jr n (.int k m))=true:=Sm rfl
theorem rA {n:Nat}{b:Bool}:Aq (Jr n (.bool b))=true:=Sm rfl
theorem BM.pre {α:Type}{E:Bk α}{hp:Hp}{b n c:Nat}{m:List α}(h:hp b=AV E m)(hc:m.length=c)(h0:0 < c)(hn:n≤c)(hl:c≤9223372036854775807):BM E hp (.slice (some ⟨b,0,none⟩) n c) (m.take n):=by
 subst hc
 cases m with
 |nil=>simp at h0
 |cons a m=>
  have hlt:((a :: m).take n).length=n:=by rw [List.length_take];omega
  have h2:n * E.size≤(a :: m).length * E.size:=Nat.mul_le_mul_right _ hn
  have:=BM.rows (E:=E) (hp:=hp) b 0 (a :: m).length true (E.flat (a :: m)) ((a :: m).take n) h (by rw [hlt,List.drop_zero,Bk.Gu]) (by rw [hlt,Bk.Bb];omega) (by omega) (by omega)
  rw [hlt] at this
  exact this
theorem Dh {α:Type}{E:Bk α}{hp:Hp}{b:Nat}{l:List α}{tt:AO}{top t0 t1 e k:Nat}{i1 j:TI}(h0:kindOf tt t0=some (.slice e))(h1:tt t1=some i1)(hi:DB i1.ud=false)(hj:tt e=some j)(hs:j.size=E.size)(hby:Nat.ble j.bytes 65536=true)
  (h:hp b=AV E l) (hk:hp k=some (.cells true E.size (cellsOf (hp k)))) (hc:E.enc (E.dec (cellsOf (hp k)))=cellsOf (hp k)) (hn:B6 (l.length+1) j.bytes=true) :
  Ab tt hp top [t0,t1] (AR b l) (.slice (some ⟨k,0,none⟩) 1 1)=some (AR top (l ++ [E.dec (cellsOf (hp k))]),CP b l top (AV E (l ++ [E.dec (cellsOf (hp k))])),top+1):=
 J3 h0 h1 hi hj hs hby h (BM.one (by rw [hc];exact hk)) (by simpa using hn)
end Go.Dm
namespace Go.Dm
open Go.WideShapes Go.ChangeShapes
theorem Dq {H:Type}{P:Program}{e:TypeId}:∀ {ds:List (DataW H)} {d:DataW H},d∈ds→∀n∈d.weights P e,n∈DataW.weightsAll P e ds
 |d0 :: ds,d,hd,n,hn=>by
  simp only [DataW.weightsAll,List.mem_append]
  rcases List.mem_cons.1 hd with rfl | hd
  ·exact .inl hn
  ·exact .inr (Dq hd n hn)
inductive Sh where
 |leaf (l:GA)
 |sl (ls:List Sh) (eb:Nat)
mutual
inductive Ym (hp:Hp):Sh→Value→Prop
 |leaf (l:GA) (v:Value) (h:l.ok v):Ym hp (.leaf l) v
 |nils (ls:List Sh) (eb:Nat):Ym hp (.sl ls eb) (.slice none 0 0)
 |emp (ls:List Sh) (eb:Nat):Ym hp (.sl ls eb) (.slice (some ⟨0,0,some 0⟩) 0 0)
 |rows (ls:List Sh) (eb:Nat) (b n c:Nat) (vs:List Value) (hb:hp b=some (.cells false ls.length vs)) (hn:n≤c) (hc:c * ls.length≤vs.length) (hm:c≤9223372036854775807) (hz:c * eb≤reachBytes)
   (each:∀i,i < n→GL hp ls ((vs.drop (i * ls.length)).take ls.length)):Ym hp (.sl ls eb) (.slice (some ⟨b,0,none⟩) n c)
inductive GL (hp:Hp):List Sh→List Value→Prop
 |nil:GL hp [] []
 |cons (s:Sh) (ls:List Sh) (v:Value) (vs:List Value) (h:Ym hp s v) (hl:GL hp ls vs):GL hp (s :: ls) (v :: vs)
end
def Ext (hp hp':Hp):Prop:= ∀i o,hp i=some o→hp' i=some o
theorem Ext.refl (hp:Hp):Ext hp hp:=fun _ _ h=>h
theorem Ext.trans {a b c:Hp}(h:Ext a b)(g:Ext b c):Ext a c:=fun i o e=>g i o (h i o e)
mutual
theorem Ym.mono {hp hp':Hp}(he:Ext hp hp'):∀ {s:Sh} {v:Value},Ym hp s v→Ym hp' s v
 |_,_, .leaf l v h=> .leaf l v h
 |_,_, .nils ls eb=> .nils ls eb
 |_,_, .emp ls eb=> .emp ls eb
 |_,_, .rows ls eb b n c vs hb hn hc hm hz each=> .rows ls eb b n c vs (he _ _ hb) hn hc hm hz fun i hi=>GL.mono he (each i hi)
theorem GL.mono {hp hp':Hp}(he:Ext hp hp'):∀ {s:List Sh} {v:List Value},GL hp s v→GL hp' s v
 |_,_, .nil=> .nil
 |_,_, .cons s ls v vs h hl=> .cons s ls v vs (Ym.mono he h) (GL.mono he hl)
end
theorem GL.append {hp:Hp}:∀ {a b:List Sh} {x y:List Value},GL hp a x→GL hp b y→GL hp (a ++ b) (x ++ y)
 |_,_,_,_, .nil,h=>h
 |_,_,_,_, .cons s ls v vs h hl,h'=> .cons s _ v _ h (GL.append hl h')
theorem GL.len {hp:Hp}:∀ {a:List Sh} {x:List Value},GL hp a x→x.length=a.length
 |_,_, .nil=>rfl
 |_,_, .cons _ _ _ _ _ hl=>by simp [GL.len hl]
def Fu (P:Program)(r:TypeId→Option (List Sh)):List Field→Nat→Option (List Sh)
 | [],_=>some []
 |f :: fs,off=>match r f.type with
  |some ls=>if f.offset=off∧ls.length=P.cellsOf f.type then (Fu P r fs (off+ls.length)).map (ls ++ ·) else none
  |none=>none
def Ja (P:Program):Nat→TypeId→Option (List Sh)
 |0,_=>none
 |d+1,t=>match P.underlying t with
  |some .bool=>some [.leaf .bool]
  |some (.int k)=>some [.leaf (.int k)]
  |some .string=>some [.leaf .str]
  |some (.struct fs)=>(Fu P (Ja P d) fs.toList 0).bind fun ls=>if ls.length=P.cellsOf t then some ls else none
  |some (.array n e)=>(Ja P d e).bind fun ls=>if ls.length=P.cellsOf e∧n * P.cellsOf e=P.cellsOf t then some (List.replicate n ls).flatten else none
  |some (.slice e)=>(Ja P d e).bind fun ls=>if ls.length=P.cellsOf e∧0 < ls.length∧ls.length < 4096 then some [.sl ls (P.bytesOf e)] else none
  |_=>none
structure zy (own:Nat→Prop) (W:World) (φ:Ren) (hp:Hp) (ls:List Sh) (cs:List Value) (φ':Ren) (hp':Hp) (top':Nat) (cs':List Value):Prop where
 le:φ.le φ'
 op:B5 own W φ' hp' top'
 ext:Ext hp hp'
 vs:Vs φ' cs' cs
 ok:GL hp' ls cs'
def Ce (own:Nat→Prop)(W:World)(ls:List Sh)(cs:List Value):Prop:= ∀φ hp top,B5 own W φ hp top→∃φ' hp' top' cs',zy own W φ hp ls cs φ' hp' top' cs'
theorem Ce.nil {own:Nat→Prop}{W:World}:Ce own W [] []:=fun φ hp top O=>⟨φ,hp,top, [],Ren.le_refl _,O,Ext.refl _, .nil, .nil⟩
theorem Ce.append {own:Nat→Prop}{W:World}{a b:List Sh}{x y:List Value}(h:Ce own W a x)(g:Ce own W b y):Ce own W (a ++ b) (x ++ y):=by
 intro φ hp top O
 obtain ⟨φ1,hp1,top1,x',A⟩:=h φ hp top O
 obtain ⟨φ2,hp2,top2,y',B⟩:=g φ1 hp1 top1 A.op
 exact ⟨φ2,hp2,top2,x' ++ y',Ren.le_trans A.le B.le,B.op,A.ext.trans B.ext,(A.vs.mono B.le).append B.vs,(A.ok.mono B.ext).append B.ok⟩
theorem Ce.leaf {own:Nat→Prop}{W:World}{l:GA}{v:Value}(h:l.ok v):Ce own W [.leaf l] [v]:=
 fun φ hp top O=>⟨φ,hp,top, [v],Ren.le_refl _,O,Ext.refl _, .cons _ _ _ _ (GA.v h) .nil, .cons _ _ _ _ (.leaf _ _ h) .nil⟩
theorem Ce.rep {own:Nat→Prop}{W:World}{ls:List Sh}{cs:List Value}{s:Nat}(hs:ls.length=s):∀n,(∀i,i < n→Ce own W ls ((cs.drop (i * s)).take s))→Ce own W (List.replicate n ls).flatten (cs.take (n * s))
 |0,_=>by simp only [List.replicate_zero,List.flatten_nil,Nat.zero_mul,List.take_zero];exact .nil
 |n+1,h=>by
  have ih:=Ce.rep hs n (fun i hi=>h i (by omega))
  have hn:=h n (by omega)
  rw [Nat.succ_mul,List.take_add,List.replicate_succ',List.flatten_append]
  exact ih.append (by simpa using hn)
theorem GR {own:Nat→Prop}{W:World}{P:Program}{r:TypeId→Option (List Sh)}{cs:List Value}:∀ {fs:List Field} {off:Nat} {ls:List Sh},Fu P r fs off=some ls→
  (∀f∈fs,∀l,r f.type=some l→Ce own W l ((cs.drop f.offset).take (P.cellsOf f.type)))→Ce own W ls ((cs.drop off).take ls.length)
 | [],_,_,h,_=>by cases h;simp only [List.length_nil,List.take_zero];exact .nil
 |f :: fs,off,ls,h,hc=>by
  unfold Fu at h
  split at h
  ·rename_i l hl
   split at h
   ·rename_i hh
    obtain ⟨h1,h2⟩:=hh
    obtain ⟨m,hm,rfl⟩:=Option.map_eq_some_iff.1 h
    have a:=hc f (List.mem_cons_self ..) l hl
    have b:=GR (cs:=cs) hm (fun g hg=>hc g (List.mem_cons_of_mem _ hg))
    rw [List.length_append,List.take_add,List.drop_drop]
    rw [h1,←h2] at a
    exact a.append b
   ·cases h
  ·cases h
theorem PN {own:Nat→Prop}{W:World}{ls:List Sh}(rows:Nat→List Value):∀m,(∀i,i < m→Ce own W ls (rows i))→∀φ hp top,B5 own W φ hp top→
  ∃φ' hp' top',φ.le φ'∧B5 own W φ' hp' top'∧Ext hp hp'∧∃rs:Nat→List Value,∀i,i < m→Vs φ' (rs i) (rows i)∧GL hp' ls (rs i)
 |0,_,φ,hp,top,O=>⟨φ,hp,top,Ren.le_refl _,O,Ext.refl _,fun _=> [],fun i hi=>by omega⟩
 |m+1,h,φ,hp,top,O=>by
  obtain ⟨φ1,hp1,top1,l1,O1,E1,rs,h1⟩:=PN rows m (fun i hi=>h i (by omega)) φ hp top O
  obtain ⟨φ2,hp2,top2,r,B⟩:=h m (by omega) φ1 hp1 top1 O1
  refine ⟨φ2,hp2,top2,Ren.le_trans l1 B.le,B.op,E1.trans B.ext,fun i=>if i=m then r else rs i,fun i hi=> ?_⟩
  by_cases e:i=m
  ·subst e;simp only [if_true];exact ⟨B.vs,B.ok⟩
  ·simp only [e,if_false]
   obtain ⟨a,b⟩:=h1 i (by omega)
   exact ⟨a.mono B.le,b.mono B.ext⟩
theorem Bb {rs:Nat→List Value}{s:Nat}:∀m,(∀i,i < m→(rs i).length=s)→(((List.range m).map rs).flatten).length=m * s
 |0,_=>by simp
 |m+1,h=>by
  rw [List.range_succ,List.map_append,List.flatten_append,List.length_append,Bb m (fun i hi=>h i (by omega)),Nat.succ_mul]
  simp [h m (by omega)]
theorem J0 {rs:Nat→List Value}{s:Nat}:∀m,(∀i,i < m→(rs i).length=s)→∀i,i < m→((((List.range m).map rs).flatten).drop (i * s)).take s=rs i
 |0,_,i,hi=>by omega
 |m+1,h,i,hi=>by
  have hl:=Bb (rs:=rs) (s:=s) m (fun i hi=>h i (by omega))
  rw [List.range_succ,List.map_append,List.flatten_append]
  simp only [List.map_cons,List.map_nil,List.flatten_cons,List.flatten_nil,List.append_nil]
  by_cases e:i=m
  ·subst e
   rw [List.drop_append,hl,Nat.sub_self,List.drop_eq_nil_of_le (by omega),List.nil_append,List.drop_zero,List.take_of_length_le (by rw [h i (by omega)];exact Nat.le_refl _)]
  ·have h1:(i+1) * s≤m * s:=Nat.mul_le_mul_right _ (by omega)
   rw [Nat.succ_mul] at h1
   rw [List.drop_append,List.take_append,hl]
   have:(i * s - m * s)=0:=by omega
   rw [this,List.drop_zero,List.length_drop,hl]
   have:s - (m * s - i * s)=0:=by omega
   rw [this,List.take_zero,List.append_nil]
   exact J0 m (fun i hi=>h i (by omega)) i (by omega)
theorem Xb {φ:Ren}{rs rows:Nat→List Value}:∀m,(∀i,i < m→Vs φ (rs i) (rows i))→Vs φ ((List.range m).map rs).flatten ((List.range m).map rows).flatten
 |0,_=> .nil
 |m+1,h=>by
  rw [List.range_succ,List.map_append,List.map_append,List.flatten_append,List.flatten_append]
  refine (Xb m fun i hi=>h i (by omega)).append ?_
  simpa using h m (by omega)
theorem ZR {own:Nat→Prop}{H:Type}{enc:TypeId×Value→H}{P:Program}{W:World}:∀(d:Nat) (t:TypeId) (ls:List Sh),Ja P d t=some ls→∀(fuel:Nat) (cs:List Value) (x:DataW H×List MemPlace),
  DataW.trod enc P W 0 (fun _=>true) true fuel t cs=some x→(∀n∈x.1.weights P t,n≤reachBytes)→Ce own W ls cs:=by
 intro d
 induction d with
 |zero=>intro t ls h;cases h
 |succ d ih=>
  intro t ls h fuel cs x hx hz
  cases fuel with
  |zero=>cases hx
  |succ n=>
   have hx0:=hx
   rw [DataW.trod_step] at hx
   unfold DataW.trodStep at hx
   unfold Ja at h
   split at h
   ·rename_i ht
    cases h
    simp only [ht] at hx
    split at hx <;> first | (rename_i e;simp at e;done) | skip
    all_goals first | (cases hx;done) | skip
    all_goals first | exact .leaf ⟨_,rfl⟩ | (simp_all;done)
   ·rename_i k ht
    cases h
    simp only [ht] at hx
    split at hx
    all_goals first | (simp_all;done) | skip
    rename_i k1 k' m heq
    split at hx
    ·rename_i hh
     obtain ⟨rfl,hw⟩:=hh
     simp only [Option.some.injEq,TypeDesc.int.injEq] at heq
     subst heq
     have:=hw
     simp only [Lit.wf,Bool.and_eq_true,decide_eq_true_eq] at this
     exact .leaf ⟨_,rfl,this.1,this.2⟩
    ·cases hx
   ·rename_i ht
    cases h
    simp only [ht] at hx
    split at hx
    all_goals first | (simp_all;done) | skip
    split at hx
    ·rename_i hh
     exact .leaf ⟨_,rfl,hh⟩
    ·cases hx
   ·rename_i fs ht
    simp only [ht] at hx
    obtain ⟨ls',hf,h2⟩:=Option.bind_eq_some_iff.1 h
    split at h2
    ·rename_i hlen
     cases h2
     split at hx
     ·rename_i hcs
      obtain ⟨xs,hm,hxe⟩:=Option.map_eq_some_iff.1 hx
      have:=GR (own:=own) (W:=W) (cs:=cs) hf (fun f hfm l hl=>by
       obtain ⟨i,hi,e⟩:=List.mem_iff_getElem.1 hfm
       have g:=mapM_some_get hm i f (by rw [List.getElem?_eq_getElem hi,e])
       have hlx:=mapM_some_length hm
       rw [List.getElem?_eq_getElem (by omega)] at g
       refine ih _ _ hl _ _ _ g fun n hn=>hz n ?_
       rw [←hxe]
       simp only [DataW.weights,ht]
       exact DataW.weights_mem_each (j:=i) (t:=f.type) (d:=xs[i].1) (by rw [List.getElem?_map,List.getElem?_eq_getElem hi,e];rfl) (by rw [List.getElem?_map,List.getElem?_eq_getElem (by omega)];rfl) n hn)
      rwa [List.drop_zero,hlen,←hcs,List.take_length] at this
     ·cases hx
    ·cases h2
   ·rename_i m e ht
    simp only [ht] at hx
    obtain ⟨ls',hf,h2⟩:=Option.bind_eq_some_iff.1 h
    split at h2
    ·rename_i hlen
     cases h2
     split at hx
     ·rename_i hcs
      obtain ⟨xs,hm,hxe⟩:=Option.map_eq_some_iff.1 hx
      have hlx:=mapM_some_length hm
      have:=Ce.rep (own:=own) (W:=W) (cs:=cs) hlen.1 m (fun i hi=>by
       have g:=mapM_some_get hm i i (by simp [hi])
       have hix:i < xs.length:=by rw [hlx];simpa using hi
       rw [List.getElem?_eq_getElem hix] at g
       refine ih _ _ hf _ _ _ g fun n hn=>hz n ?_
       rw [←hxe]
       simp only [DataW.weights,ht]
       exact Dq (d:=xs[i].1) (List.mem_map.2 ⟨xs[i],List.getElem_mem hix,rfl⟩) n hn)
      rwa [hlen.2,←hcs,List.take_length] at this
     ·cases hx
    ·cases h2
   ·rename_i e ht
    obtain ⟨ls',hf,h2⟩:=Option.bind_eq_some_iff.1 h
    split at h2
    ·rename_i hlen
     obtain ⟨hlen,hpos,hbnd⟩:=hlen
     cases h2
     clear hx
     intro φ hp top O
     rcases Go.Deep.open_slice ht hx0 with ⟨rfl,_⟩ | ⟨a,len,cap,m,n',D,Pl,rfl,_,hlc,hcm,hm,hxe,hr⟩
     ·exact ⟨φ,hp,top,_,Ren.le_refl _,O,Ext.refl _, .cons _ _ _ _ .nils .nil, .cons _ _ _ _ (.nils _ _) .nil⟩
     ·simp only [if_true] at hm
      subst hm
      by_cases h0:m=0
      ·subst h0
       have hl0:len=0:=by omega
       subst hl0
       exact ⟨φ,hp,top,_,Ren.le_refl _,O,Ext.refl _, .cons _ _ _ _ (.emp _ _) .nil, .cons _ _ _ _ (.emp _ _) .nil⟩
      ·rw [hxe] at hz
       simp only [DataW.weights,ht] at hz
       have hzc:m * P.bytesOf e≤reachBytes:=by
        have h1:=hz _ (List.mem_cons_self ..)
        simp only [List.length_map,List.length_range] at h1
        have h2:len+(m - len)=m:=by omega
        rwa [h2] at h1
       have hze:∀i,i < m→∀n∈(D i).weights P e,n≤reachBytes:=by
        intro i hi n hn
        refine hz n (List.mem_cons_of_mem _ (List.mem_append.2 ?_))
        by_cases hil:i < len
        ·exact .inl (Dq (List.mem_map.2 ⟨i,List.mem_range.2 hil,rfl⟩) n hn)
        ·refine .inr (Dq (d:=D i) (List.mem_map.2 ⟨i - len,List.mem_range.2 (by omega), ?_⟩) n hn)
         show D (len+(i - len))=D i
         congr 1;omega
       obtain ⟨rows,hrw⟩:=Go.Deep.choose_lt (α:=List Value) (p:=fun i cs=>W.cells? 0 (a.add (i * P.cellsOf e)) (P.cellsOf e)=some cs∧∃x:DataW H×List MemPlace,DataW.trod enc P W 0 (fun _=>true) true n' e cs=some x∧∀n∈x.1.weights P e,n≤reachBytes) (n:=m) (fun i hi=>by
        obtain ⟨cs',g1,g2⟩:=hr i hi
        exact ⟨cs',g1,_,g2,hze i hi⟩)
       -- the block
       obtain ⟨_,hl0,hc0⟩:=World.cells?_some (hrw 0 (by omega)).1
       have hcell:=hc0 0 (by rw [←hlen];exact hpos)
       rw [Nat.zero_mul] at hcell
       have hne:(rows 0)[0]? ≠none:=by
        rw [List.getElem?_eq_getElem (by rw [hl0,←hlen];exact hpos)];simp
       obtain ⟨b,off,spot⟩:=a
       have hblk:spot=none∧∃c t' fz,W.heap[b]? = some (.cells c t' fz):=by
        rw [←hcell] at hne
        unfold World.cell? at hne
        cases spot with
        |some s=>exact absurd (by simp only [Addr.add];split <;> simp_all) hne
        |none=>
         refine ⟨rfl, ?_⟩
         simp only [Addr.add] at hne
         cases hh:W.heap[b]? with
         |none=>simp [hh] at hne
         |some o=>
          cases o with
          |cells c t' fz=>exact ⟨c,t',fz,rfl⟩
          |_=>simp [hh] at hne
       obtain ⟨rfl,c,t',fz,hc⟩:=hblk
       have hbs:b < W.heap.size:=by
        by_cases hb:b < W.heap.size
        ·exact hb
        ·rw [Array.getElem?_eq_none (by omega)] at hc;cases hc
       obtain ⟨φ1,hp1,top1,le1,O1,E1,rs,hrs⟩:=PN (ls:=ls') rows m (fun i hi=>ih _ _ hf _ _ _ (hrw i hi).2.choose_spec.1 (hrw i hi).2.choose_spec.2) φ hp top O
       have hrl:∀i,i < m→(rs i).length=ls'.length:=fun i hi=>(hrs i hi).2.len
       have hflat:=Ji hc m rows (fun i hi=>(hrw i hi).1)
       have hfl:=Bb m hrl
       have hvs:=Xb m (fun i hi=>(hrs i hi).1)
       rw [←hflat] at hvs
       have hcl:=hvs.length
       rw [hfl,List.length_take,List.length_drop,Array.length_toList,←hlen] at hcl
       have hfit:off+m * ls'.length≤c.size:=by
        have:0 < m * ls'.length:=Nat.mul_pos (by omega) hpos
        omega
       have O2:=O1.add (L:=⟨b,off,ls'.length,c.size⟩) (BO:=ls'.length) (vs:=((List.range m).map rs).flatten) hbs ⟨rfl,c,t',fz,hc,rfl,by rw [hfl];exact hfit,by rw [hfl,hlen];exact hvs,⟨(by intro h;cases h),(fun _ h=>by unfold BB at h;omega),(by intro h;cases h)⟩⟩
       have E2:Ext hp1 (hp1.Ij top1 (.cells false ls'.length ((List.range m).map rs).flatten)):=by
        intro i o hi
        have:i≠top1:=fun e=>by
         obtain ⟨M,hM,_⟩:=O1.hr.obj i o hi
         rw [e,O1.top top1 (Nat.le_refl _)] at hM;cases hM
        simpa [Hp.Ij,this] using hi
       refine ⟨_,_,_, [.slice (some ⟨top1,0,none⟩) len m],Ren.le_trans le1 (Ren.DA (O1.top top1 (Nat.le_refl _))),O2,E1.trans E2, .cons _ _ _ _ ?_ .nil, .cons _ _ _ _ ?_ .nil⟩
       ·exact V.slice top1 0 len m m _ (Ren.A4 ..) hlc (Nat.le_refl _) (by simpa using hfit)
       ·refine .rows ls' _ top1 len m _ (Hp.Gc ..) hlc (by rw [hfl];exact Nat.le_refl _) (Nat.le_trans hcm (by decide:maxLen≤9223372036854775807)) hzc fun i hi=> ?_
        rw [J0 m hrl i (by omega)]
        exact (hrs i (by omega)).2.mono E2
    ·cases h2
   ·cases h
theorem Ym.slT {hp:Hp}{ls:List Sh}{eb:Nat}{v:Value}(h:Ym hp (.sl ls eb) v){α:Type}[Inhabited α]{E:Bk α}{good:α→Prop}(hs:E.size=ls.length)(lv:∀cs,GL hp ls cs→∃a,cs=E.enc a∧good a) :
  ∃l,BM E hp v l∧(∀a∈l,good a)∧l.length * eb≤reachBytes:=by
 cases h with
 |nils=>exact ⟨[], .nils,by simp,by simp⟩
 |emp=>exact ⟨[], .emp,by simp,by simp⟩
 |rows _ _ b n c vs hb hn hc hm hz each=>
  obtain ⟨f,hf⟩:=Go.Deep.choose_lt (α:=α) (p:=fun i a=>(vs.drop (i * ls.length)).take ls.length=E.enc a∧good a) (n:=n) (fun i hi=>lv _ (each i hi))
  have key:∀m,m≤n→vs.take (m * ls.length)=E.flat ((List.range m).map f):=by
   intro m
   induction m with
   |zero=>intro _;simp [Bk.Dj]
   |succ m ih=>
    intro h
    rw [Nat.succ_mul,List.take_add,ih (by omega),(hf m (by omega)).1,List.range_succ,List.map_append,Bk.Ev]
    simp [Bk.flat]
  have hl:((List.range n).map f).length=n:=by simp
  have h2:n * ls.length≤c * ls.length:=Nat.mul_le_mul_right _ hn
  refine ⟨(List.range n).map f, ?_, ?_,by rw [hl];exact Nat.le_trans (Nat.mul_le_mul_right _ hn) hz⟩
  ·have:=BM.rows (E:=E) (hp:=hp) b 0 c false vs ((List.range n).map f) (by rw [hs];exact hb) (by rw [hl,hs,List.drop_zero];exact key n (Nat.le_refl _)) (by rw [hl,hs];omega) (by rw [hl];exact hn) (by rw [hl];omega)
   rwa [hl] at this
  ·intro a ha
   obtain ⟨i,hi,rfl⟩:=List.mem_map.1 ha
   exact (hf i (by simpa using hi)).2
theorem rY {P:Program}{W:World}{base:Nat}{t:TypeId}{k:IntKind}{v:Value}(ht:P.underlying t=some (.int k))(hok:Value.okWide P W .any base t v):∃n,v= .int k n∧k.min≤n∧n≤k.max:=by
 simp only [Value.okWide,ht,Cell.okWide,Cell.ok] at hok
 cases v with
 |int k' n=>obtain ⟨rfl,h⟩:=hok;exact ⟨n,rfl,h⟩
 |_=>exact hok.elim
theorem zy.one {own:Nat→Prop}{W:World}{φ φ':Ren}{hp hp':Hp}{top':Nat}{s:Sh}{v:Value}{cs':List Value}(O:zy own W φ hp [s] [v] φ' hp' top' cs'):∃u,cs' = [u]∧V φ' u v∧Ym hp' s u:=by
 obtain ⟨_,_,_,V1,K⟩:=O
 cases V1 with
 |cons u _ _ _ V1 hl=>
 cases hl
 cases K with
 |cons _ _ _ _ hk _=>exact ⟨u,rfl,V1,hk⟩
end Go.Dm
