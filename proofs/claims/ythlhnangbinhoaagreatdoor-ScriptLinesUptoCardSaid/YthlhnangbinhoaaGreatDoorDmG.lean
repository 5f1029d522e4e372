/- The abstract machine, a part of it: operations, regions, code and calls run over values with named blocks; each step is shown of the real run. -/
import Derived.Test.YthlhnangbinhoaaGreatDoorDmF
import Derived.Deep.Slices
import Derived.Carry
import Derived.ChangeSame
import Derived.SizedLaws
set_option linter.unusedSimpArgs false
set_option linter.unusedVariables false
namespace Go.Dm
open Go.WideShapes Go.ChangeShapes
inductive IW where
 |bool
 |int (k:IntKind)
 |str
def IW.ok:IW→Value→Prop
 | .bool,v=> ∃b,v= .bool b
 | .int k,v=> ∃n,v= .int k n∧k.min≤n∧n≤k.max
 | .str,v=> ∃s,v= .string s∧s.size≤maxLen
def Cz:List IW→List Value→Prop
 | [],cs=>cs= []
 |x :: ls,cs=> ∃v vs,cs=v :: vs∧x.ok v∧Cz ls vs
theorem Cz.append:∀ {a b:List IW} {x y:List Value},Cz a x→Cz b y→Cz (a ++ b) (x ++ y)
 | [],_,_,_,h,h'=>by cases h;exact h'
 |_ :: _,_,_,_,⟨v,vs,e,h1,h2⟩,h'=>by subst e;exact ⟨v,vs ++ _,rfl,h1,Cz.append h2 h'⟩
theorem IW.v {φ:Ren}{x:IW}{v:Value}(h:x.ok v):V φ v v:=by
 cases x with
 |bool=>obtain ⟨b,rfl⟩:=h;exact .bool b
 |int k=>obtain ⟨n,rfl,_⟩:=h;exact .int k n
 |str=>obtain ⟨s,rfl,_⟩:=h;exact .str s
theorem Cz.vs {φ:Ren}:∀ {a:List IW} {x:List Value},Cz a x→Vs φ x x
 | [],_,h=>by cases h;exact .nil
 |_ :: _,_,⟨v,vs,e,h1,h2⟩=>by subst e;exact .cons _ _ _ _ (IW.v h1) h2.vs
theorem Cz.rep {ls:List IW}{cs:List Value}{s:Nat}(hs:ls.length=s):∀n,(∀i,i < n→Cz ls ((cs.drop (i * s)).take s))→Cz (List.replicate n ls).flatten (cs.take (n * s))
 |0,_=>by simp [Cz]
 |n+1,h=>by
  have ih:=Cz.rep hs n (fun i hi=>h i (by omega))
  have hn:=h n (by omega)
  rw [Nat.succ_mul,List.take_add,List.replicate_succ',List.flatten_append]
  exact ih.append (by simpa using hn)
def JP (P:Program)(r:TypeId→Option (List IW)):List Field→Nat→Option (List IW)
 | [],_=>some []
 |f :: fs,off=>match r f.type with
  |some ls=>if f.offset=off∧ls.length=P.cellsOf f.type then (JP P r fs (off+ls.length)).map (ls ++ ·) else none
  |none=>none
def Xv (P:Program):Nat→TypeId→Option (List IW)
 |0,_=>none
 |d+1,t=>match P.underlying t with
  |some .bool=>some [.bool]
  |some (.int k)=>some [.int k]
  |some .string=>some [.str]
  |some (.struct fs)=>(JP P (Xv P d) fs.toList 0).bind fun ls=>if ls.length=P.cellsOf t then some ls else none
  |some (.array n e)=>(Xv P d e).bind fun ls=>if ls.length=P.cellsOf e∧n * P.cellsOf e=P.cellsOf t then some (List.replicate n ls).flatten else none
  |_=>none
theorem Lh {P:Program}{r:TypeId→Option (List IW)}{cs:List Value}:∀ {fs:List Field} {off:Nat} {ls:List IW},JP P r fs off=some ls→
  (∀f∈fs,∀l,r f.type=some l→Cz l ((cs.drop f.offset).take (P.cellsOf f.type)))→Cz ls ((cs.drop off).take ls.length)
 | [],_,_,h,_=>by cases h;simp [Cz]
 |f :: fs,off,ls,h,hc=>by
  unfold JP at h
  split at h
  ·rename_i l hl
   split at h
   ·rename_i hh
    obtain ⟨h1,h2⟩:=hh
    obtain ⟨m,hm,rfl⟩:=Option.map_eq_some_iff.1 h
    have a:=hc f (List.mem_cons_self ..) l hl
    have b:=Lh (cs:=cs) hm (fun g hg=>hc g (List.mem_cons_of_mem _ hg))
    rw [List.length_append,List.take_add,List.drop_drop]
    rw [h1,←h2] at a
    exact a.append b
   ·cases h
  ·cases h
theorem Qs {H:Type}{enc:TypeId×Value→H}{P:Program}{w:World}{base:Nat}{spare:Nat→Bool}{held:Bool}:∀(d:Nat) (t:TypeId) (ls:List IW),Xv P d t=some ls→∀(fuel:Nat) (cs:List Value) (x:DataW H×List MemPlace),
  DataW.trod enc P w base spare held fuel t cs=some x→Cz ls cs:=by
 intro d
 induction d with
 |zero=>intro t ls h;cases h
 |succ d ih=>
  intro t ls h fuel cs x hx
  cases fuel with
  |zero=>cases hx
  |succ n=>
   rw [DataW.trod_step] at hx
   unfold DataW.trodStep at hx
   unfold Xv at h
   split at h
   ·rename_i ht
    cases h
    simp only [ht] at hx
    split at hx <;> first | (rename_i e;simp at e;done) | skip
    all_goals first | (cases hx;done) | skip
    all_goals first | exact ⟨_,_,rfl,⟨_,rfl⟩,rfl⟩ | (simp_all;done)
   ·rename_i k ht
    cases h
    simp only [ht] at hx
    split at hx
    all_goals first | (simp_all;done) | skip
    rename_i k1 k' m heq
    split at hx
    ·rename_i hh
     obtain ⟨rfl,hw⟩:=hh
     simp only [Option.some.injEq,TypeDesc.int.injEq] at heq
     subst heq
     have:=hw
     simp only [Lit.wf,Bool.and_eq_true,decide_eq_true_eq] at this
     exact ⟨_,_,rfl,⟨_,rfl,this.1,this.2⟩,rfl⟩
    ·cases hx
   ·rename_i ht
    cases h
    simp only [ht] at hx
    split at hx
    all_goals first | (simp_all;done) | skip
    split at hx
    ·rename_i hh
     exact ⟨_,_,rfl,⟨_,rfl,hh⟩,rfl⟩
    ·cases hx
   ·rename_i fs ht
    simp only [ht] at hx
    obtain ⟨ls',hf,h2⟩:=Option.bind_eq_some_iff.1 h
    split at h2
    ·rename_i hlen
     cases h2
     split at hx
     ·rename_i hcs
      obtain ⟨xs,hm,_⟩:=Option.map_eq_some_iff.1 hx
      have:=Lh (cs:=cs) hf (fun f hfm l hl=>by
       obtain ⟨i,hi,e⟩:=List.mem_iff_getElem.1 hfm
       have g:=mapM_some_get hm i f (by rw [List.getElem?_eq_getElem hi,e])
       have hlx:=mapM_some_length hm
       rw [List.getElem?_eq_getElem (by omega)] at g
       exact ih _ _ hl _ _ _ g)
      rwa [List.drop_zero,hlen,←hcs,List.take_length] at this
     ·cases hx
    ·cases h2
   ·rename_i m e ht
    simp only [ht] at hx
    obtain ⟨ls',hf,h2⟩:=Option.bind_eq_some_iff.1 h
    split at h2
    ·rename_i hlen
     cases h2
     split at hx
     ·rename_i hcs
      obtain ⟨xs,hm,_⟩:=Option.map_eq_some_iff.1 hx
      have hlx:=mapM_some_length hm
      have:=Cz.rep (cs:=cs) hlen.1 m (fun i hi=>by
       have g:=mapM_some_get hm i i (by simp [hi])
       rw [List.getElem?_eq_getElem (by rw [hlx];simpa using hi)] at g
       exact ih _ _ hf _ _ _ g)
      rwa [hlen.2,←hcs,List.take_length] at this
     ·cases hx
    ·cases h2
   ·cases h
theorem dL {P:Program}{fits:TypeId→Bool}:∀(d:Nat) (e:TypeId) (count off n:Nat),rowAt P fits d e count off n=true→off≤count * P.cellsOf e
 |0,_,_,_,_,h=>by cases h
 |d+1,e,count,off,n,h=>by
  unfold rowAt at h
  have hm:=Nat.div_add_mod off (P.cellsOf e)
  by_cases hs:P.cellsOf e=0
  ·simp [hs] at h
  ·have hlt:=Nat.mod_lt off (Nat.pos_of_ne_zero hs)
   simp only [hs,if_false,Bool.or_eq_true,Bool.and_eq_true,beq_iff_eq,decide_eq_true_eq] at h
   rcases h with ⟨⟨h1,h2⟩,_⟩ | ⟨h1,_⟩
   ·rw [h1,Nat.add_zero] at hm
    rw [←hm,Nat.mul_comm]
    exact Nat.mul_le_mul_right _ (by omega)
   ·have h3:(off / P.cellsOf e+1) * P.cellsOf e≤count * P.cellsOf e:=Nat.mul_le_mul_right _ h1
    rw [Nat.succ_mul,Nat.mul_comm] at h3
    omega
theorem RH {P:Program}:∀(d:Nat) (e:TypeId) (count off:Nat) (u:TypeId) (n:Nat),liesAt P d e count off u n=true→off≤count * P.cellsOf e
 |0,_,_,_,_,_,h=>by cases h
 |d+1,e,count,off,u,n,h=>by
  unfold liesAt at h
  rw [Bool.or_eq_true] at h
  rcases h with h | h
  ·exact dL _ _ _ _ _ h
  ·split at h
   ·exact RH _ _ _ _ _ _ h
   ·cases h
theorem dS {P:Program}{w:World}{r:Reach}{base:Nat}{a:Addr}{e:TypeId}{n:Nat}(h:w.has P r base a e n):a.spot=none∧∃c t fz,w.heap[a.block]? = some (.cells c t fz)∧a.off≤c.size:=by
 obtain ⟨_,h1,row,cells,h2,h3⟩:=h
 refine ⟨h1, ?_⟩
 unfold World.shape? at h2
 split at h2
 ·rename_i c t fz hc
  simp only [Option.some.injEq,Prod.mk.injEq] at h2
  obtain ⟨rfl,rfl⟩:=h2
  refine ⟨c,t,fz,hc, ?_⟩
  have h4:=RH _ _ _ _ _ _ h3
  have:=Nat.div_mul_le_self c.size (P.cellsOf t)
  first | omega | (rename_i hh;omega)
 ·cases h2
theorem MG {w:World}{b off s:Nat}{c:Array Value}{t:TypeId}{fz:Nat×Nat}(hc:w.heap[b]? = some (.cells c t fz)):∀(n:Nat) (rows:Nat→List Value),
  (∀i,i < n→w.cells? 0 (Addr.add ⟨b,off,none⟩ (i * s)) s=some (rows i))→(c.toList.drop off).take (n * s)=((List.range n).map rows).flatten
 |0,_,_=>by simp
 |n+1,rows,h=>by
  have ih:=MG hc n rows (fun i hi=>h i (by omega))
  obtain ⟨_,h1,h2⟩:=World.cells?_some (h n (by omega))
  rw [Nat.succ_mul,List.take_add,ih,List.range_succ,List.map_append,List.flatten_append]
  congr 1
  simp only [List.map_cons,List.map_nil,List.flatten_cons,List.flatten_nil,List.append_nil]
  apply List.ext_getElem?
  intro j
  by_cases hj:j < s
  ·have:=h2 j hj
   rw [add_plain,add_plain] at this
   simp only [World.cell?,hc,Option.isSome_none,Bool.false_eq_true,if_false] at this
   rw [←this,List.getElem?_take_of_lt hj,List.drop_drop,List.getElem?_drop,Array.getElem?_toList]
  ·rw [List.getElem?_eq_none (by rw [List.length_take];omega),List.getElem?_eq_none (by omega)]
structure B9 (own:Nat→Prop) (W:World) (φ:Ren) (hp:Hp) (top:Nat):Prop where
 hr:HR φ own hp W
 top:∀j,top≤j→φ j=none
 ro:∀i o,hp i=some o→o.rw=false
theorem B9.nil (W:World):B9 (fun b=>W.heap.size≤b) W (fun _=>none) (fun _=>none) 0:=
 ⟨⟨fun i o h=>(by cases h),fun i j oi oj Li Lj h=>(by cases h),fun i o L h=>(by cases h),fun i L h=>(by cases h),fun b hb=>hb⟩,fun _ _=>rfl,fun _ _ h=>(by cases h)⟩
theorem B9.add {own:Nat→Prop}{W:World}{φ:Ren}{hp:Hp}{top:Nat}(O:B9 own W φ hp top){L:Loc}{Bp:Nat}{vs:List Value}
  (hb:L.Bi < W.heap.size) (hok:ET φ L (.cells false Bp vs) W.heap[L.Bi]?):B9 own W (φ.ext top L) (hp.I5 top (.cells false Bp vs)) (top+1):=by
 have hle:=Ren.EM (L:=L) (O.top top (Nat.le_refl _))
 have hphi:∀j M,φ.ext top L j=some M→j≠top→φ j=some M:=fun j M e hj=>by simpa [Ren.ext,hj] using e
 have hupd:∀j o,hp.I5 top (.cells false Bp vs) j=some o→j≠top→hp j=some o:=fun j o e hj=>by simpa [Hp.I5,hj] using e
 refine ⟨⟨?_, ?_, ?_, ?_,O.hr.fresh⟩, ?_, ?_⟩
 ·intro j oj e
  by_cases hj:j=top
  ·subst hj
   rw [Hp.EZ] at e;cases e
   exact ⟨L,Ren.BE ..,hok.mono hle⟩
  ·obtain ⟨M,hM,hk⟩:=O.hr.obj j oj (hupd j oj e hj)
   exact ⟨M,hle _ _ hM,hk.mono hle⟩
 ·intro i j oi oj Li Lj ei ej hij hrw
  exfalso
  by_cases hj:i=top
  ·subst hj;rw [Hp.EZ] at ei;cases ei;cases hrw
  ·rw [O.ro i oi (hupd i oi ei hj)] at hrw;cases hrw
 ·intro i o M ei hrw
  exfalso
  by_cases hj:i=top
  ·subst hj;rw [Hp.EZ] at ei;cases ei;cases hrw
  ·rw [O.ro i o (hupd i o ei hj)] at hrw;cases hrw
 ·intro i M e
  by_cases hj:i=top
  ·subst hj;rw [Ren.BE] at e;cases e;exact hb
  ·exact O.hr.val i M (hphi i M e hj)
 ·intro j hj
  have:j≠top:=by omega
  simp only [Ren.ext,this,if_false]
  exact O.top j (by omega)
 ·intro i o e
  by_cases hj:i=top
  ·subst hj;rw [Hp.EZ] at e;cases e;rfl
  ·exact O.ro i o (hupd i o e hj)
theorem pU {P:Program}{W:World}{base:Nat}{t e:TypeId}{v:Value}(ht:P.underlying t=some (.slice e))(hok:Value.okWide P W .any base t v):∃a n c,v= .slice a n c:=by
 simp only [Value.okWide,ht,Cell.okWide,Cell.ok] at hok
 cases v <;> first | exact ⟨_,_,_,rfl⟩ | exact hok.elim
theorem B9.slice {own:Nat→Prop}{W:World}{φ:Ren}{hp:Hp}{top:Nat}(O:B9 own W φ hp top)
  {α:Type} [Inhabited α] {E:B8 α} {good:α→Prop} {H:Type} {enc:TypeId×Value→H} {P:Program} {base dd:Nat} {t e:TypeId} {ls:List IW} {v:Value} {x:DataW H} {ps:List MemPlace}
  (ht:P.underlying t=some (.slice e)) (hl:Xv P dd e=some ls) (hsz:E.size=P.cellsOf e) (lv:∀cs,Cz ls cs→∃a,cs=E.enc a∧good a)
  (hE:E.size < Bc) (h:DataW.Trod enc P W 0 (fun _=>true) true t v x ps) (hok:Value.okWide P W .any base t v) :
  ∃φ' hp' u l,φ.le φ'∧B9 own W φ' hp' (top+1)∧V φ' u v∧BP E hp' u l∧(∀a∈l,good a)∧∀i o,hp i=some o→hp' i=some o:=by
 obtain ⟨fuel,hf⟩:=h
 obtain ⟨a,len,cap,rfl⟩:=pU ht hok
 rcases Go.Deep.open_slice ht hf with ⟨h1,_⟩ | ⟨a,len,cap,m,n,D,Pl,h1,_,hlc,hcm,hm,_,hx⟩
 ·simp only [Value.cells,List.cons.injEq,Value.slice.injEq,and_true] at h1
  obtain ⟨rfl,rfl,rfl⟩:=h1
  exact ⟨φ,hp,_, [],Ren.le_refl _,⟨O.hr,fun j hj=>O.top j (by omega),O.ro⟩, .nils, .nils,by simp,fun _ _ h=>h⟩
 ·simp only [Value.cells,List.cons.injEq,Value.slice.injEq,and_true] at h1
  obtain ⟨rfl,rfl,rfl⟩:=h1
  simp only [if_true] at hm
  subst hm
  have hk:W.has P .any base a e m:=by
   simp only [Value.okWide,ht,Cell.okWide,Cell.ok] at hok
   exact hok.2.2
  obtain ⟨hs,c,t',fz,hc,hoff⟩:=dS hk
  obtain ⟨b,off,spot⟩:=a
  simp only at hs hc hoff
  subst hs
  obtain ⟨f,hfa⟩:=Go.Deep.choose_lt (α:=α) (p:=fun i a=>W.cells? 0 (Addr.add ⟨b,off,none⟩ (i * P.cellsOf e)) (P.cellsOf e)=some (E.enc a)∧good a) (n:=m) (fun i hi=>by
   obtain ⟨cs',g1,g2⟩:=hx i hi
   obtain ⟨a,rfl,ga⟩:=lv _ (Qs _ _ _ hl _ _ _ g2)
   exact ⟨a,g1,ga⟩)
  have hrows:=MG hc m (fun i=>E.enc (f i)) (fun i hi=>(hfa i hi).1)
  have hflat:(c.toList.drop off).take (m * E.size)=E.flat ((List.range m).map f):=by
   rw [hsz,hrows];simp [B8.flat,Function.comp_def]
  have hlenf:(E.flat ((List.range m).map f)).length=m * E.size:=by rw [B8.C3];simp
  have hfit:off+m * E.size≤c.size:=by
   have:=congrArg List.length hflat
   rw [hlenf,List.length_take,List.length_drop,Array.length_toList] at this
   omega
  have hvs:Vs φ (E.flat ((List.range m).map f)) (E.flat ((List.range m).map f)):=by
   refine Vs.Mn fun y hy=> ?_
   simp only [B8.flat,List.mem_flatten,List.mem_map] at hy
   obtain ⟨l,⟨a,⟨i,hi,rfl⟩,rfl⟩,hy⟩:=hy
   obtain ⟨cs',g1,g2⟩:=hx i (by simpa using hi)
   have e1:=(hfa i (by simpa using hi)).1
   rw [g1] at e1
   cases e1
   have:=(Qs _ _ _ hl _ _ _ g2).vs (φ:=φ)
   obtain ⟨j,hj⟩:=List.getElem?_of_mem hy
   obtain ⟨x',e2,e3⟩:=this.get hj
   rw [hj] at e2;cases e2
   exact e3
  have hbs:b < W.heap.size:=by
   by_cases hb:b < W.heap.size
   ·exact hb
   ·rw [Array.getElem?_eq_none (by omega)] at hc;cases hc
  have O':=O.add (L:=⟨b,off,E.size,c.size⟩) (Bp:=E.size) (vs:=E.flat ((List.range m).map f)) hbs ⟨rfl,c,t',fz,hc,rfl,by rw [hlenf];exact hfit,by rw [hlenf];rw [hflat];exact hvs,⟨(by intro h;cases h),(fun _ h=>absurd h (Nat.not_le.2 hE)),(by intro h;cases h)⟩⟩
  refine ⟨_,_, .slice (some ⟨top,0,none⟩) len m,((List.range m).map f).take len,Ren.EM (O.top top (Nat.le_refl _)),O', ?_, ?_, ?_, ?_⟩
  ·exact V.slice top 0 len m m _ (Ren.BE ..) hlc (Nat.le_refl _) (by simpa using hfit)
  ·have hlen:(((List.range m).map f).take len).length=len:=by simp;omega
   have:=BP.rows (E:=E) (hp:=hp.I5 top (.cells false E.size (E.flat ((List.range m).map f)))) top 0 m false _ (((List.range m).map f).take len) (Hp.EZ ..)
    (by rw [hlen,List.drop_zero,B8.OR]) (by rw [hlen,hlenf];have:=Nat.mul_le_mul_right E.size hlc;omega) (by omega) (by rw [hlen];have:m≤9223372036854775807:=Nat.le_trans hcm (by decide:maxLen≤9223372036854775807);omega)
   rwa [hlen] at this
  ·intro a ha
   obtain ⟨i,hi,rfl⟩:=List.mem_map.1 (List.mem_of_mem_take ha)
   exact (hfa i (by simpa using hi)).2
  ·intro i o hi
   have:i≠top:=fun e=>by
    obtain ⟨M,hM,_⟩:=O.hr.obj i o hi
    rw [e,O.top top (Nat.le_refl _)] at hM;cases hM
   simpa [Hp.I5,this] using hi
end Go.Dm
namespace Go.Dm
inductive Fb where
 |nil
 |emp
 |mk (b o n c:Nat)
 deriving DecidableEq
instance:Inhabited Fb:=⟨.nil⟩
def Fb.v:Fb→Value
 | .nil=> .slice none 0 0
 | .emp=> .slice (some ⟨0,0,some 0⟩) 0 0
 | .mk b o n c=> .slice (some ⟨b,o,none⟩) n c
def EU:Value→Fb
 | .slice (some ⟨b,o,none⟩) n c=> .mk b o n c
 | .slice (some ⟨_,_,some _⟩) _ _=> .emp
 |_=> .nil
theorem NT (r:Fb):EU r.v=r:=by cases r <;> rfl
theorem Fb.oc (r:Fb):Value.oneCell' r.v=true:=by cases r <;> rfl
theorem Fb.cl (r:Fb):A1 r.v= [r.v]:=by cases r <;> rfl
def Fb.ra (ρ:Nat→Nat):Fb→Fb
 | .nil=> .nil
 | .emp=> .emp
 | .mk b o n c=> .mk (ρ b) o n c
theorem Pn (ρ:Nat→Nat)(r:Fb):Az ρ r.v=(r.ra ρ).v:=by cases r <;> rfl
theorem gP {α:Type}{b:Nat}{l:List α}:(EU (AA b l)).v=AA b l:=by cases l <;> rfl
theorem BP.ref {α:Type}{E:B8 α}{hp:Hp}{v:Value}{l:List α}(h:BP E hp v l):(EU v).v=v:=by cases h <;> rfl
class B8.Ra {α:Type} (E:B8 α) where
 ra:(Nat→Nat)→α→α
 ok:∀ρ a,Co ρ (E.enc a)=E.enc (ra ρ a)
theorem BP.BH {α:Type}{E:B8 α}{hp h':Hp}{v:Value}{l:List α}{n:Nat}(h:BP E hp v l)(hs:Sc n v)(hk:BQ n [] h' hp):BP E h' v l:=
 h.mono fun b o m c e=>by subst e;exact hk.nil b hs
theorem PB.at {n:Nat}:∀ {l:List Value} {i:Nat} {v:Value},PB n l→l[i]? = some v→Sc n v
 |_ :: _,0,_,h,e=>by simp at e;subst e;exact h.1
 |_ :: l,i+1,_,h,e=>PB.at h.2 (by simpa using e)
theorem ZI {n:Nat}{b:Bool}:DV n (.bool b)=(List.replicate n b).map Value.bool:=by simp [DV]
theorem Cs {ρ:Nat→Nat}{l:List Bool}:Co ρ (l.map Value.bool)=l.map Value.bool:=by
 rw [FK,List.map_map];rfl
theorem dY {l:List Bool}:A3 (l.map Value.bool)=true:=by
 induction l with
 |nil=>rfl
 |cons a l ih=>simp only [List.map_cons,A3,ih];rfl
theorem DU {l:List Bool}{i:Nat}(h:i < l.length):((l.map Value.bool)[i]?).getD undef= .bool ((l[i]?).getD false):=by simp [h]
theorem NV {l:List Bool}{n:Nat}{b:Bool}(h:n < l.length):A6 (l.map Value.bool) n [.bool b] = (l.set n b).map Value.bool:=by
 rw [QK (by simpa using h),List.map_set]
theorem V5 {n:Nat}{v:Value}(h:Value.oneCell' v=true):A3 (DV n v)=true:=by
 induction n with
 |zero=>rfl
 |succ n ih=>
  have:DV (n+1) v=v :: DV n v:=by simp [DV,List.replicate_succ]
  rw [this];simp [A3,h,ih]
theorem mZ {n:Nat}{k:IntKind}{m:Int}:A3 (DV n (.int k m))=true:=V5 rfl
theorem gk {n:Nat}{b:Bool}:A3 (DV n (.bool b))=true:=V5 rfl
theorem NB {α:Type}{f:α→Value}{l:List α}{n:Nat}(h:l.length=n):(l.map f).take n=l.map f:=List.take_of_length_le (by rw [List.length_map];omega)
theorem Uf {α:Type}{f:α→Value}{l:List α}{n:Nat}(h:l.length=n):(l.map f).drop n= []:=List.drop_eq_nil_of_le (by rw [List.length_map];omega)
theorem BP.pre {α:Type}{E:B8 α}{hp:Hp}{b n c:Nat}{m:List α}(h:hp b=AD E m)(hc:m.length=c)(h0:0 < c)(hn:n≤c)(hl:c≤9223372036854775807):BP E hp (.slice (some ⟨b,0,none⟩) n c) (m.take n):=by
 subst hc
 cases m with
 |nil=>simp at h0
 |cons a m=>
  have hlt:((a :: m).take n).length=n:=by rw [List.length_take];omega
  have h2:n * E.size≤(a :: m).length * E.size:=Nat.mul_le_mul_right _ hn
  have:=BP.rows (E:=E) (hp:=hp) b 0 (a :: m).length true (E.flat (a :: m)) ((a :: m).take n) h (by rw [hlt,List.drop_zero,B8.OR]) (by rw [hlt,B8.C3];omega) (by omega) (by omega)
  rw [hlt] at this
  exact this
theorem D2 {α:Type}{E:B8 α}{hp:Hp}{b:Nat}{l:List α}{tt:AO}{top t0 t1 e k:Nat}{i1 j:TI}(h0:kindOf tt t0=some (.slice e))(h1:tt t1=some i1)(hi:EA i1.ud=false)(hj:tt e=some j)(hs:j.size=E.size)(hby:Nat.ble j.bytes 65536=true)
  (h:hp b=AD E l) (hk:hp k=some (.cells true E.size (cellsOf (hp k)))) (hc:E.enc (E.dec (cellsOf (hp k)))=cellsOf (hp k)) (hn:C5 (l.length+1) j.bytes=true) :
  AM tt hp top [t0,t1] (AA b l) (.slice (some ⟨k,0,none⟩) 1 1)=some (AA top (l ++ [E.dec (cellsOf (hp k))]),CC b l top (AD E (l ++ [E.dec (cellsOf (hp k))])),top+1):=
 Gv h0 h1 hi hj hs hby h (BP.one (by rw [hc];exact hk)) (by simpa using hn)
end Go.Dm
namespace Go.Dm
open Go.WideShapes Go.ChangeShapes
theorem Ez {H:Type}{P:Program}{e:TypeId}:∀ {ds:List (DataW H)} {d:DataW H},d∈ds→∀n∈d.weights P e,n∈DataW.weightsAll P e ds
 |d0 :: ds,d,hd,n,hn=>by
  simp only [DataW.weightsAll,List.mem_append]
  rcases List.mem_cons.1 hd with rfl | hd
  ·exact .inl hn
  ·exact .inr (Ez hd n hn)
inductive Sh where
 |leaf (l:IW)
 |sl (ls:List Sh) (eb:Nat)
mutual
inductive nb (hp:Hp):Sh→Value→Prop
 |leaf (l:IW) (v:Value) (h:l.ok v):nb hp (.leaf l) v
 |nils (ls:List Sh) (eb:Nat):nb hp (.sl ls eb) (.slice none 0 0)
 |emp (ls:List Sh) (eb:Nat):nb hp (.sl ls eb) (.slice (some ⟨0,0,some 0⟩) 0 0)
 |rows (ls:List Sh) (eb:Nat) (b n c:Nat) (vs:List Value) (hb:hp b=some (.cells false ls.length vs)) (hn:n≤c) (hc:c * ls.length≤vs.length) (hm:c≤9223372036854775807) (hz:c * eb≤reachBytes)
   (each:∀i,i < n→Ij hp ls ((vs.drop (i * ls.length)).take ls.length)):nb hp (.sl ls eb) (.slice (some ⟨b,0,none⟩) n c)
inductive Ij (hp:Hp):List Sh→List Value→Prop
 |nil:Ij hp [] []
 |cons (s:Sh) (ls:List Sh) (v:Value) (vs:List Value) (h:nb hp s v) (hl:Ij hp ls vs):Ij hp (s :: ls) (v :: vs)
end
def Ext (hp hp':Hp):Prop:= ∀i o,hp i=some o→hp' i=some o
theorem Ext.refl (hp:Hp):Ext hp hp:=fun _ _ h=>h
theorem Ext.trans {a b c:Hp}(h:Ext a b)(g:Ext b c):Ext a c:=fun i o e=>g i o (h i o e)
mutual
theorem nb.mono {hp hp':Hp}(he:Ext hp hp'):∀ {s:Sh} {v:Value},nb hp s v→nb hp' s v
 |_,_, .leaf l v h=> .leaf l v h
 |_,_, .nils ls eb=> .nils ls eb
 |_,_, .emp ls eb=> .emp ls eb
 |_,_, .rows ls eb b n c vs hb hn hc hm hz each=> .rows ls eb b n c vs (he _ _ hb) hn hc hm hz fun i hi=>Ij.mono he (each i hi)
theorem Ij.mono {hp hp':Hp}(he:Ext hp hp'):∀ {s:List Sh} {v:List Value},Ij hp s v→Ij hp' s v
 |_,_, .nil=> .nil
 |_,_, .cons s ls v vs h hl=> .cons s ls v vs (nb.mono he h) (Ij.mono he hl)
end
theorem Ij.append {hp:Hp}:∀ {a b:List Sh} {x y:List Value},Ij hp a x→Ij hp b y→Ij hp (a ++ b) (x ++ y)
 |_,_,_,_, .nil,h=>h
 |_,_,_,_, .cons s ls v vs h hl,h'=> .cons s _ v _ h (Ij.append hl h')
theorem Ij.len {hp:Hp}:∀ {a:List Sh} {x:List Value},Ij hp a x→x.length=a.length
 |_,_, .nil=>rfl
 |_,_, .cons _ _ _ _ _ hl=>by simp [Ij.len hl]
def Hc (P:Program)(r:TypeId→Option (List Sh)):List Field→Nat→Option (List Sh)
 | [],_=>some []
 |f :: fs,off=>match r f.type with
  |some ls=>if f.offset=off∧ls.length=P.cellsOf f.type then (Hc P r fs (off+ls.length)).map (ls ++ ·) else none
  |none=>none
def ON (P:Program):Nat→TypeId→Option (List Sh)
 |0,_=>none
 |d+1,t=>match P.underlying t with
  |some .bool=>some [.leaf .bool]
  |some (.int k)=>some [.leaf (.int k)]
  |some .string=>some [.leaf .str]
  |some (.struct fs)=>(Hc P (ON P d) fs.toList 0).bind fun ls=>if ls.length=P.cellsOf t then some ls else none
  |some (.array n e)=>(ON P d e).bind fun ls=>if ls.length=P.cellsOf e∧n * P.cellsOf e=P.cellsOf t then some (List.replicate n ls).flatten else none
  |some (.slice e)=>(ON P d e).bind fun ls=>if ls.length=P.cellsOf e∧0 < ls.length∧ls.length < 4096 then some [.sl ls (P.bytesOf e)] else none
  |_=>none
structure Op1 (own:Nat→Prop) (W:World) (φ:Ren) (hp:Hp) (ls:List Sh) (cs:List Value) (φ':Ren) (hp':Hp) (top':Nat) (cs':List Value):Prop where
 le:φ.le φ'
 op:B9 own W φ' hp' top'
 ext:Ext hp hp'
 vs:Vs φ' cs' cs
 ok:Ij hp' ls cs'
def DK (own:Nat→Prop)(W:World)(ls:List Sh)(cs:List Value):Prop:= ∀φ hp top,B9 own W φ hp top→∃φ' hp' top' cs',Op1 own W φ hp ls cs φ' hp' top' cs'
theorem DK.nil {own:Nat→Prop}{W:World}:DK own W [] []:=fun φ hp top O=>⟨φ,hp,top, [],Ren.le_refl _,O,Ext.refl _, .nil, .nil⟩
theorem DK.append {own:Nat→Prop}{W:World}{a b:List Sh}{x y:List Value}(h:DK own W a x)(g:DK own W b y):DK own W (a ++ b) (x ++ y):=by
 intro φ hp top O
 obtain ⟨φ1,hp1,top1,x',A⟩:=h φ hp top O
 obtain ⟨φ2,hp2,top2,y',B⟩:=g φ1 hp1 top1 A.op
 exact ⟨φ2,hp2,top2,x' ++ y',Ren.le_trans A.le B.le,B.op,A.ext.trans B.ext,(A.vs.mono B.le).append B.vs,(A.ok.mono B.ext).append B.ok⟩
theorem DK.leaf {own:Nat→Prop}{W:World}{l:IW}{v:Value}(h:l.ok v):DK own W [.leaf l] [v]:=
 fun φ hp top O=>⟨φ,hp,top, [v],Ren.le_refl _,O,Ext.refl _, .cons _ _ _ _ (IW.v h) .nil, .cons _ _ _ _ (.leaf _ _ h) .nil⟩
theorem DK.rep {own:Nat→Prop}{W:World}{ls:List Sh}{cs:List Value}{s:Nat}(hs:ls.length=s):∀n,(∀i,i < n→DK own W ls ((cs.drop (i * s)).take s))→DK own W (List.replicate n ls).flatten (cs.take (n * s))
 |0,_=>by simp only [List.replicate_zero,List.flatten_nil,Nat.zero_mul,List.take_zero];exact .nil
 |n+1,h=>by
  have ih:=DK.rep hs n (fun i hi=>h i (by omega))
  have hn:=h n (by omega)
  rw [Nat.succ_mul,List.take_add,List.replicate_succ',List.flatten_append]
  exact ih.append (by simpa using hn)
theorem II {own:Nat→Prop}{W:World}{P:Program}{r:TypeId→Option (List Sh)}{cs:List Value}:∀ {fs:List Field} {off:Nat} {ls:List Sh},Hc P r fs off=some ls→
  (∀f∈fs,∀l,r f.type=some l→DK own W l ((cs.drop f.offset).take (P.cellsOf f.type)))→DK own W ls ((cs.drop off).take ls.length)
 | [],_,_,h,_=>by cases h;simp only [List.length_nil,List.take_zero];exact .nil
 |f :: fs,off,ls,h,hc=>by
  unfold Hc at h
  split at h
  ·rename_i l hl
   split at h
   ·rename_i hh
    obtain ⟨h1,h2⟩:=hh
    obtain ⟨m,hm,rfl⟩:=Option.map_eq_some_iff.1 h
    have a:=hc f (List.mem_cons_self ..) l hl
    have b:=II (cs:=cs) hm (fun g hg=>hc g (List.mem_cons_of_mem _ hg))
    rw [List.length_append,List.take_add,List.drop_drop]
    rw [h1,←h2] at a
    exact a.append b
   ·cases h
  ·cases h
theorem TA {own:Nat→Prop}{W:World}{ls:List Sh}(rows:Nat→List Value):∀m,(∀i,i < m→DK own W ls (rows i))→∀φ hp top,B9 own W φ hp top→
  ∃φ' hp' top',φ.le φ'∧B9 own W φ' hp' top'∧Ext hp hp'∧∃rs:Nat→List Value,∀i,i < m→Vs φ' (rs i) (rows i)∧Ij hp' ls (rs i)
 |0,_,φ,hp,top,O=>⟨φ,hp,top,Ren.le_refl _,O,Ext.refl _,fun _=> [],fun i hi=>by omega⟩
 |m+1,h,φ,hp,top,O=>by
  obtain ⟨φ1,hp1,top1,l1,O1,E1,rs,h1⟩:=TA rows m (fun i hi=>h i (by omega)) φ hp top O
  obtain ⟨φ2,hp2,top2,r,B⟩:=h m (by omega) φ1 hp1 top1 O1
  refine ⟨φ2,hp2,top2,Ren.le_trans l1 B.le,B.op,E1.trans B.ext,fun i=>if i=m then r else rs i,fun i hi=> ?_⟩
  by_cases e:i=m
  ·subst e;simp only [if_true];exact ⟨B.vs,B.ok⟩
  ·simp only [e,if_false]
   obtain ⟨a,b⟩:=h1 i (by omega)
   exact ⟨a.mono B.le,b.mono B.ext⟩
theorem C3 {rs:Nat→List Value}{s:Nat}:∀m,(∀i,i < m→(rs i).length=s)→(((List.range m).map rs).flatten).length=m * s
 |0,_=>by simp
 |m+1,h=>by
  rw [List.range_succ,List.map_append,List.flatten_append,List.length_append,C3 m (fun i hi=>h i (by omega)),Nat.succ_mul]
  simp [h m (by omega)]
theorem Ns {rs:Nat→List Value}{s:Nat}:∀m,(∀i,i < m→(rs i).length=s)→∀i,i < m→((((List.range m).map rs).flatten).drop (i * s)).take s=rs i
 |0,_,i,hi=>by omega
 |m+1,h,i,hi=>by
  have hl:=C3 (rs:=rs) (s:=s) m (fun i hi=>h i (by omega))
  rw [List.range_succ,List.map_append,List.flatten_append]
  simp only [List.map_cons,List.map_nil,List.flatten_cons,List.flatten_nil,List.append_nil]
  by_cases e:i=m
  ·subst e
   rw [List.drop_append,hl,Nat.sub_self,List.drop_eq_nil_of_le (by omega),List.nil_append,List.drop_zero,List.take_of_length_le (by rw [h i (by omega)];exact Nat.le_refl _)]
  ·have h1:(i+1) * s≤m * s:=Nat.mul_le_mul_right _ (by omega)
   rw [Nat.succ_mul] at h1
   rw [List.drop_append,List.take_append,hl]
   have:(i * s - m * s)=0:=by omega
   rw [this,List.drop_zero,List.length_drop,hl]
   have:s - (m * s - i * s)=0:=by omega
   rw [this,List.take_zero,List.append_nil]
   exact Ns m (fun i hi=>h i (by omega)) i (by omega)
theorem Z1 {φ:Ren}{rs rows:Nat→List Value}:∀m,(∀i,i < m→Vs φ (rs i) (rows i))→Vs φ ((List.range m).map rs).flatten ((List.range m).map rows).flatten
 |0,_=> .nil
 |m+1,h=>by
  rw [List.range_succ,List.map_append,List.map_append,List.flatten_append,List.flatten_append]
  refine (Z1 m fun i hi=>h i (by omega)).append ?_
  simpa using h m (by omega)
theorem dD {own:Nat→Prop}{H:Type}{enc:TypeId×Value→H}{P:Program}{W:World}:∀(d:Nat) (t:TypeId) (ls:List Sh),ON P d t=some ls→∀(fuel:Nat) (cs:List Value) (x:DataW H×List MemPlace),
  DataW.trod enc P W 0 (fun _=>true) true fuel t cs=some x→(∀n∈x.1.weights P t,n≤reachBytes)→DK own W ls cs:=by
 intro d
 induction d with
 |zero=>intro t ls h;cases h
 |succ d ih=>
  intro t ls h fuel cs x hx hz
  cases fuel with
  |zero=>cases hx
  |succ n=>
   have hx0:=hx
   rw [DataW.trod_step] at hx
   unfold DataW.trodStep at hx
   unfold ON at h
   split at h
   ·rename_i ht
    cases h
    simp only [ht] at hx
    split at hx <;> first | (rename_i e;simp at e;done) | skip
    all_goals first | (cases hx;done) | skip
    all_goals first | exact .leaf ⟨_,rfl⟩ | (simp_all;done)
   ·rename_i k ht
    cases h
    simp only [ht] at hx
    split at hx
    all_goals first | (simp_all;done) | skip
    rename_i k1 k' m heq
    split at hx
    ·rename_i hh
     obtain ⟨rfl,hw⟩:=hh
     simp only [Option.some.injEq,TypeDesc.int.injEq] at heq
     subst heq
     have:=hw
     simp only [Lit.wf,Bool.and_eq_true,decide_eq_true_eq] at this
     exact .leaf ⟨_,rfl,this.1,this.2⟩
    ·cases hx
   ·rename_i ht
    cases h
    simp only [ht] at hx
    split at hx
    all_goals first | (simp_all;done) | skip
    split at hx
    ·rename_i hh
     exact .leaf ⟨_,rfl,hh⟩
    ·cases hx
   ·rename_i fs ht
    simp only [ht] at hx
    obtain ⟨ls',hf,h2⟩:=Option.bind_eq_some_iff.1 h
    split at h2
    ·rename_i hlen
     cases h2
     split at hx
     ·rename_i hcs
      obtain ⟨xs,hm,hxe⟩:=Option.map_eq_some_iff.1 hx
      have:=II (own:=own) (W:=W) (cs:=cs) hf (fun f hfm l hl=>by
       obtain ⟨i,hi,e⟩:=List.mem_iff_getElem.1 hfm
       have g:=mapM_some_get hm i f (by rw [List.getElem?_eq_getElem hi,e])
       have hlx:=mapM_some_length hm
       rw [List.getElem?_eq_getElem (by omega)] at g
       refine ih _ _ hl _ _ _ g fun n hn=>hz n ?_
       rw [←hxe]
       simp only [DataW.weights,ht]
       exact DataW.weights_mem_each (j:=i) (t:=f.type) (d:=xs[i].1) (by rw [List.getElem?_map,List.getElem?_eq_getElem hi,e];rfl) (by rw [List.getElem?_map,List.getElem?_eq_getElem (by omega)];rfl) n hn)
      rwa [List.drop_zero,hlen,←hcs,List.take_length] at this
     ·cases hx
    ·cases h2
   ·rename_i m e ht
    simp only [ht] at hx
    obtain ⟨ls',hf,h2⟩:=Option.bind_eq_some_iff.1 h
    split at h2
    ·rename_i hlen
     cases h2
     split at hx
     ·rename_i hcs
      obtain ⟨xs,hm,hxe⟩:=Option.map_eq_some_iff.1 hx
      have hlx:=mapM_some_length hm
      have:=DK.rep (own:=own) (W:=W) (cs:=cs) hlen.1 m (fun i hi=>by
       have g:=mapM_some_get hm i i (by simp [hi])
       have hix:i < xs.length:=by rw [hlx];simpa using hi
       rw [List.getElem?_eq_getElem hix] at g
       refine ih _ _ hf _ _ _ g fun n hn=>hz n ?_
       rw [←hxe]
       simp only [DataW.weights,ht]
       exact Ez (d:=xs[i].1) (List.mem_map.2 ⟨xs[i],List.getElem_mem hix,rfl⟩) n hn)
      rwa [hlen.2,←hcs,List.take_length] at this
     ·cases hx
    ·cases h2
   ·rename_i e ht
    obtain ⟨ls',hf,h2⟩:=Option.bind_eq_some_iff.1 h
    split at h2
    ·rename_i hlen
     obtain ⟨hlen,hpos,hbnd⟩:=hlen
     cases h2
     clear hx
     intro φ hp top O
     rcases Go.Deep.open_slice ht hx0 with ⟨rfl,_⟩ | ⟨a,len,cap,m,n',D,Pl,rfl,_,hlc,hcm,hm,hxe,hr⟩
     ·exact ⟨φ,hp,top,_,Ren.le_refl _,O,Ext.refl _, .cons _ _ _ _ .nils .nil, .cons _ _ _ _ (.nils _ _) .nil⟩
     ·simp only [if_true] at hm
      subst hm
      by_cases h0:m=0
      ·subst h0
       have hl0:len=0:=by omega
       subst hl0
       exact ⟨φ,hp,top,_,Ren.le_refl _,O,Ext.refl _, .cons _ _ _ _ (.emp _ _) .nil, .cons _ _ _ _ (.emp _ _) .nil⟩
      ·rw [hxe] at hz
       simp only [DataW.weights,ht] at hz
       have hzc:m * P.bytesOf e≤reachBytes:=by
        have h1:=hz _ (List.mem_cons_self ..)
        simp only [List.length_map,List.length_range] at h1
        have h2:len+(m - len)=m:=by omega
        rwa [h2] at h1
       have hze:∀i,i < m→∀n∈(D i).weights P e,n≤reachBytes:=by
        intro i hi n hn
        refine hz n (List.mem_cons_of_mem _ (List.mem_append.2 ?_))
        by_cases hil:i < len
        ·exact .inl (Ez (List.mem_map.2 ⟨i,List.mem_range.2 hil,rfl⟩) n hn)
        ·refine .inr (Ez (d:=D i) (List.mem_map.2 ⟨i - len,List.mem_range.2 (by omega), ?_⟩) n hn)
         show D (len+(i - len))=D i
         congr 1;omega
       obtain ⟨rows,hrw⟩:=Go.Deep.choose_lt (α:=List Value) (p:=fun i cs=>W.cells? 0 (a.add (i * P.cellsOf e)) (P.cellsOf e)=some cs∧∃x:DataW H×List MemPlace,DataW.trod enc P W 0 (fun _=>true) true n' e cs=some x∧∀n∈x.1.weights P e,n≤reachBytes) (n:=m) (fun i hi=>by
        obtain ⟨cs',g1,g2⟩:=hr i hi
        exact ⟨cs',g1,_,g2,hze i hi⟩)
       -- the block
       obtain ⟨_,hl0,hc0⟩:=World.cells?_some (hrw 0 (by omega)).1
       have hcell:=hc0 0 (by rw [←hlen];exact hpos)
       rw [Nat.zero_mul] at hcell
       have hne:(rows 0)[0]? ≠none:=by
        rw [List.getElem?_eq_getElem (by rw [hl0,←hlen];exact hpos)];simp
       obtain ⟨b,off,spot⟩:=a
       have hblk:spot=none∧∃c t' fz,W.heap[b]? = some (.cells c t' fz):=by
        rw [←hcell] at hne
        unfold World.cell? at hne
        cases spot with
        |some s=>exact absurd (by simp only [Addr.add];split <;> simp_all) hne
        |none=>
         refine ⟨rfl, ?_⟩
         simp only [Addr.add] at hne
         cases hh:W.heap[b]? with
         |none=>simp [hh] at hne
         |some o=>
          cases o with
          |cells c t' fz=>exact ⟨c,t',fz,rfl⟩
          |_=>simp [hh] at hne
       obtain ⟨rfl,c,t',fz,hc⟩:=hblk
       have hbs:b < W.heap.size:=by
        by_cases hb:b < W.heap.size
        ·exact hb
        ·rw [Array.getElem?_eq_none (by omega)] at hc;cases hc
       obtain ⟨φ1,hp1,top1,le1,O1,E1,rs,hrs⟩:=TA (ls:=ls') rows m (fun i hi=>ih _ _ hf _ _ _ (hrw i hi).2.choose_spec.1 (hrw i hi).2.choose_spec.2) φ hp top O
       have hrl:∀i,i < m→(rs i).length=ls'.length:=fun i hi=>(hrs i hi).2.len
       have hflat:=MG hc m rows (fun i hi=>(hrw i hi).1)
       have hfl:=C3 m hrl
       have hvs:=Z1 m (fun i hi=>(hrs i hi).1)
       rw [←hflat] at hvs
       have hcl:=hvs.length
       rw [hfl,List.length_take,List.length_drop,Array.length_toList,←hlen] at hcl
       have hfit:off+m * ls'.length≤c.size:=by
        have:0 < m * ls'.length:=Nat.mul_pos (by omega) hpos
        omega
       have O2:=O1.add (L:=⟨b,off,ls'.length,c.size⟩) (Bp:=ls'.length) (vs:=((List.range m).map rs).flatten) hbs ⟨rfl,c,t',fz,hc,rfl,by rw [hfl];exact hfit,by rw [hfl,hlen];exact hvs,⟨(by intro h;cases h),(fun _ h=>by unfold Bc at h;omega),(by intro h;cases h)⟩⟩
       have E2:Ext hp1 (hp1.I5 top1 (.cells false ls'.length ((List.range m).map rs).flatten)):=by
        intro i o hi
        have:i≠top1:=fun e=>by
         obtain ⟨M,hM,_⟩:=O1.hr.obj i o hi
         rw [e,O1.top top1 (Nat.le_refl _)] at hM;cases hM
        simpa [Hp.I5,this] using hi
       refine ⟨_,_,_, [.slice (some ⟨top1,0,none⟩) len m],Ren.le_trans le1 (Ren.EM (O1.top top1 (Nat.le_refl _))),O2,E1.trans E2, .cons _ _ _ _ ?_ .nil, .cons _ _ _ _ ?_ .nil⟩
       ·exact V.slice top1 0 len m m _ (Ren.BE ..) hlc (Nat.le_refl _) (by simpa using hfit)
       ·refine .rows ls' _ top1 len m _ (Hp.EZ ..) hlc (by rw [hfl];exact Nat.le_refl _) (Nat.le_trans hcm (by decide:maxLen≤9223372036854775807)) hzc fun i hi=> ?_
        rw [Ns m hrl i (by omega)]
        exact (hrs i (by omega)).2.mono E2
    ·cases h2
   ·cases h
theorem u5 {P:Program}{W:World}{base:Nat}{t:TypeId}{v:Value}(ht:P.underlying t=some .string)(hok:Value.okWide P W .any base t v):∃l,v= .string ⟨⟨l⟩⟩:=by
 simp only [Value.okWide,ht,Cell.okWide,Cell.ok] at hok
 cases v with
 |string s=>obtain ⟨⟨l⟩⟩:=s;exact ⟨l,rfl⟩
 |_=>exact hok.elim
theorem Op1.one {own:Nat→Prop}{W:World}{φ φ':Ren}{hp hp':Hp}{top':Nat}{s:Sh}{v:Value}{cs':List Value}(O:Op1 own W φ hp [s] [v] φ' hp' top' cs'):∃u,cs' = [u]∧V φ' u v∧nb hp' s u:=by
 obtain ⟨_,_,_,V1,K⟩:=O
 cases V1 with
 |cons u _ _ _ V1 hl=>
 cases hl
 cases K with
 |cons _ _ _ _ hk _=>exact ⟨u,rfl,V1,hk⟩
end Go.Dm
