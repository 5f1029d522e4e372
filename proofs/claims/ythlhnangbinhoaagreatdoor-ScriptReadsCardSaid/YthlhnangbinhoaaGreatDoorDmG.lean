/- The abstract machine, a part of it: operations, regions, code and calls run over values with named blocks; each step is shown of the real run. -/
import Derived.Test.YthlhnangbinhoaaGreatDoorDmF
import Derived.Deep.Slices
import Derived.Carry
import Derived.ChangeSame
import Derived.SizedLaws
set_option linter.unusedVariables false
namespace Go.Dm
open Go.WideShapes Go.ChangeShapes
inductive H4 where
 |bool
 |int(k:IntKind)
 |str
def H4.ok:H4→Value→Prop
 | .bool,v=> ∃b,v= .bool b
 | .int k,v=> ∃n,v= .int k n∧k.min≤n∧n≤k.max
 | .str,v=> ∃s,v= .string s∧s.size≤maxLen
def Cw:List H4→List Value→Prop
 | [],cs=>cs= []
 |x :: ls,cs=> ∃v vs,cs=v :: vs∧x.ok v∧Cw ls vs
theorem Cw.append:∀ {a b:List H4} {x y:List Value},Cw a x→Cw b y→Cw (a ++ b) (x ++ y)
 | [],_,_,_,h,h'=>by cases h;exact h'
 |_ :: _,_,_,_,⟨v,vs,e,h1,h2⟩,h'=>by subst e;exact ⟨v,vs ++ _,rfl,h1,Cw.append h2 h'⟩
theorem H4.v{φ:Ren}{x:H4}{v:Value}(h:x.ok v):V φ v v:=by
 cases x with
 |bool=>obtain⟨b,rfl⟩:=h;exact .bool b
 |int k=>obtain⟨n,rfl,_⟩:=h;exact .int k n
 |str=>obtain⟨s,rfl,_⟩:=h;exact .str s
theorem Cw.vs {φ:Ren}:∀ {a:List H4} {x:List Value},Cw a x→Vs φ x x
 | [],_,h=>by cases h;exact .nil
 |_ :: _,_,⟨v,vs,e,h1,h2⟩=>by subst e;exact .cons _ _ _ _ (H4.v h1) h2.vs
theorem Cw.rep {ls:List H4}{cs:List Value}{s:Nat}(hs:ls.length=s):∀n,(∀i,i < n→Cw ls ((cs.drop (i * s)).take s))→Cw (List.replicate n ls).flatten (cs.take (n * s))
 |0,_=>by simp [Cw]
 |n+1,h=>by
  have ih:=Cw.rep hs n (fun i hi=>h i (by omega))
  have hn:=h n (by omega)
  rw [Nat.succ_mul,List.take_add,List.replicate_succ',List.flatten_append]
  exact ih.append (by simpa using hn)
def I2 (P:Program)(r:TypeId→Option (List H4)):List Field→Nat→Option (List H4)
 | [],_=>some []
 |f :: fs,off=>match r f.type with
  |some ls=>if f.offset=off∧ls.length=P.cellsOf f.type then (I2 P r fs (off+ls.length)).map (ls ++ ·) else none
  |none=>none
def Wz (P:Program):Nat→TypeId→Option (List H4)
 |0,_=>none
 |d+1,t=>match P.underlying t with
  |some .bool=>some [.bool]
  |some (.int k)=>some [.int k]
  |some .string=>some [.str]
  |some (.struct fs)=>(I2 P (Wz P d) fs.toList 0).bind fun ls=>if ls.length=P.cellsOf t then some ls else none
  |some (.array n e)=>(Wz P d e).bind fun ls=>if ls.length=P.cellsOf e∧n * P.cellsOf e=P.cellsOf t then some (List.replicate n ls).flatten else none
  |_=>none
theorem LY {P:Program}{r:TypeId→Option (List H4)}{cs:List Value}:∀ {fs:List Field} {off:Nat} {ls:List H4},I2 P r fs off=some ls→
  (∀f∈fs,∀l,r f.type=some l→Cw l ((cs.drop f.offset).take (P.cellsOf f.type)))→Cw ls ((cs.drop off).take ls.length)
 | [],_,_,h,_=>by cases h;simp [Cw]
 |f :: fs,off,ls,h,hc=>by
  unfold I2 at h
  split at h
  ·rename_i l hl
   split at h
   ·rename_i hh
    obtain ⟨h1,h2⟩:=hh
    obtain ⟨m,hm,rfl⟩:=Option.map_eq_some_iff.1 h
    have a:=hc f (List.mem_cons_self ..) l hl
    have b:=LY (cs:=cs) hm (fun g hg=>hc g (List.mem_cons_of_mem _ hg))
    rw [List.length_append,List.take_add,List.drop_drop]
    rw [h1,←h2] at a
    exact a.append b
   ·cases h
  ·cases h
theorem Rw {H:Type}{enc:TypeId×Value→H}{P:Program}{w:World}{base:Nat}{spare:Nat→Bool}{held:Bool}:∀(d:Nat) (t:TypeId) (ls:List H4),Wz P d t=some ls→∀(fuel:Nat) (cs:List Value) (x:DataW H×List MemPlace),
  DataW.trod enc P w base spare held fuel t cs=some x→Cw ls cs:=by
 intro d
 induction d with
 |zero=>intro t ls h;cases h
 |succ d ih=>
  intro t ls h fuel cs x hx
  cases fuel with
  |zero=>cases hx
  |succ n=>
   rw [DataW.trod_step] at hx
   unfold DataW.trodStep at hx
   unfold Wz at h
   split at h
   ·rename_i ht
    cases h
    simp only [ht] at hx
    split at hx <;> first | (rename_i e;simp at e;done) | skip
    all_goals first | (cases hx;done) | skip
    all_goals first | exact ⟨_,_,rfl,⟨_,rfl⟩,rfl⟩ | (simp_all;done)
   ·rename_i k ht
    cases h
    simp only [ht] at hx
    split at hx
    all_goals first | (simp_all;done) | skip
    rename_i k1 k' m heq
    split at hx
    ·rename_i hh
     obtain ⟨rfl,hw⟩:=hh
     simp only [Option.some.injEq,TypeDesc.int.injEq] at heq
     subst heq
     have:=hw
     simp only [Lit.wf,Bool.and_eq_true,decide_eq_true_eq] at this
     exact ⟨_,_,rfl,⟨_,rfl,this.1,this.2⟩,rfl⟩
    ·cases hx
   ·rename_i ht
    cases h
    simp only [ht] at hx
    split at hx
    all_goals first | (simp_all;done) | skip
    split at hx
    ·rename_i hh
     exact ⟨_,_,rfl,⟨_,rfl,hh⟩,rfl⟩
    ·cases hx
   ·rename_i fs ht
    simp only [ht] at hx
    obtain ⟨ls',hf,h2⟩:=Option.bind_eq_some_iff.1 h
    split at h2
    ·rename_i hlen
     cases h2
     split at hx
     ·rename_i hcs
      obtain ⟨xs,hm,_⟩:=Option.map_eq_some_iff.1 hx
      have:=LY (cs:=cs) hf (fun f hfm l hl=>by
       obtain ⟨i,hi,e⟩:=List.mem_iff_getElem.1 hfm
       have g:=mapM_some_get hm i f (by rw [List.getElem?_eq_getElem hi,e])
       have hlx:=mapM_some_length hm
       rw [List.getElem?_eq_getElem (by omega)] at g
       exact ih _ _ hl _ _ _ g)
      rwa [List.drop_zero,hlen,←hcs,List.take_length] at this
     ·cases hx
    ·cases h2
   ·rename_i m e ht
    simp only [ht] at hx
    obtain ⟨ls',hf,h2⟩:=Option.bind_eq_some_iff.1 h
    split at h2
    ·rename_i hlen
     cases h2
     split at hx
     ·rename_i hcs
      obtain ⟨xs,hm,_⟩:=Option.map_eq_some_iff.1 hx
      have hlx:=mapM_some_length hm
      have:=Cw.rep (cs:=cs) hlen.1 m (fun i hi=>by
       have g:=mapM_some_get hm i i (by simp [hi])
       rw [List.getElem?_eq_getElem (by rw [hlx];simpa using hi)] at g
       exact ih _ _ hf _ _ _ g)
      rwa [hlen.2,←hcs,List.take_length] at this
     ·cases hx
    ·cases h2
   ·cases h
theorem eX {P:Program}{fits:TypeId→Bool}:∀(d:Nat) (e:TypeId) (count off n:Nat),rowAt P fits d e count off n=true→off≤count * P.cellsOf e
 |0,_,_,_,_,h=>by cases h
 |d+1,e,count,off,n,h=>by
  unfold rowAt at h
  have hm:=Nat.div_add_mod off (P.cellsOf e)
  by_cases hs:P.cellsOf e=0
  ·simp [hs] at h
  ·have hlt:=Nat.mod_lt off (Nat.pos_of_ne_zero hs)
   simp only [hs,if_false,Bool.or_eq_true,Bool.and_eq_true,beq_iff_eq,decide_eq_true_eq] at h
   rcases h with ⟨⟨h1,h2⟩,_⟩ | ⟨h1,_⟩
   ·rw [h1,Nat.add_zero] at hm
    rw [←hm,Nat.mul_comm]
    exact Nat.mul_le_mul_right _ (by omega)
   ·have h3:(off / P.cellsOf e+1) * P.cellsOf e≤count * P.cellsOf e:=Nat.mul_le_mul_right _ h1
    rw [Nat.succ_mul,Nat.mul_comm] at h3
    omega
theorem Q7{P:Program}:∀(d:Nat)(e:TypeId)(count off:Nat)(u:TypeId)(n:Nat),liesAt P d e count off u n=true→off≤count * P.cellsOf e
 |0,_,_,_,_,_,h=>by cases h
 |d+1,e,count,off,u,n,h=>by
  unfold liesAt at h
  rw[Bool.or_eq_true]at h
  rcases h with h | h
  ·exact eX _ _ _ _ _ h
  ·split at h
   ·exact Q7 _ _ _ _ _ _ h
   ·cases h
theorem dn {P:Program}{w:World}{r:Reach}{base:Nat}{a:Addr}{e:TypeId}{n:Nat}(h:w.has P r base a e n):a.spot=none∧∃c t fz,w.heap[a.block]? = some (.cells c t fz)∧a.off≤c.size:=by
 obtain ⟨_,h1,row,cells,h2,h3⟩:=h
 refine ⟨h1, ?_⟩
 unfold World.shape? at h2
 split at h2
 ·rename_i c t fz hc
  simp only [Option.some.injEq,Prod.mk.injEq] at h2
  obtain ⟨rfl,rfl⟩:=h2
  refine ⟨c,t,fz,hc, ?_⟩
  have h4:=Q7 _ _ _ _ _ _ h3
  have:=Nat.div_mul_le_self c.size (P.cellsOf t)
  first | omega | (rename_i hh;omega)
 ·cases h2
theorem RY {w:World}{b off s:Nat}{c:Array Value}{t:TypeId}{fz:Nat×Nat}(hc:w.heap[b]? = some (.cells c t fz)):∀(n:Nat) (rows:Nat→List Value),
  (∀i,i < n→w.cells? 0 (Addr.add ⟨b,off,none⟩ (i * s)) s=some (rows i))→(c.toList.drop off).take (n * s)=((List.range n).map rows).flatten
 |0,_,_=>by simp
 |n+1,rows,h=>by
  have ih:=RY hc n rows (fun i hi=>h i (by omega))
  obtain ⟨_,h1,h2⟩:=World.cells?_some (h n (by omega))
  rw [Nat.succ_mul,List.take_add,ih,List.range_succ,List.map_append,List.flatten_append]
  congr 1
  simp only [List.map_cons,List.map_nil,List.flatten_cons,List.flatten_nil,List.append_nil]
  apply List.ext_getElem?
  intro j
  by_cases hj:j < s
  ·have:=h2 j hj
   rw [add_plain,add_plain] at this
   simp only [World.cell?,hc,Option.isSome_none,Bool.false_eq_true,if_false] at this
   rw [←this,List.getElem?_take_of_lt hj,List.drop_drop,List.getElem?_drop,Array.getElem?_toList]
  ·rw [List.getElem?_eq_none (by rw [List.length_take];omega),List.getElem?_eq_none (by omega)]
structure CE(own:Nat→Prop)(W:World)(φ:Ren)(hp:Hp)(top:Nat):Prop where
 hr:HR φ own hp W
 top:∀j,top≤j→φ j=none
 ro:∀i o,hp i=some o→o.rw=false
theorem CE.nil (W:World):CE (fun b=>W.heap.size≤b) W (fun _=>none) (fun _=>none) 0:=
 ⟨⟨fun i o h=>(by cases h),fun i j oi oj Li Lj h=>(by cases h),fun i o L h=>(by cases h),fun i L h=>(by cases h),fun b hb=>hb⟩,fun _ _=>rfl,fun _ _ h=>(by cases h)⟩
theorem CE.add {own:Nat→Prop}{W:World}{φ:Ren}{hp:Hp}{top:Nat}(O:CE own W φ hp top){L:Loc}{CA:Nat}{vs:List Value}
  (hb:L.BT < W.heap.size) (hok:EA φ L (.cells false CA vs) W.heap[L.BT]?):CE own W (φ.ext top L) (hp.Jb top (.cells false CA vs)) (top+1):=by
 have hle:=Ren.EZ (L:=L) (O.top top (Nat.le_refl _))
 have hphi:∀j M,φ.ext top L j=some M→j≠top→φ j=some M:=fun j M e hj=>by simpa [Ren.ext,hj] using e
 have hupd:∀j o,hp.Jb top (.cells false CA vs) j=some o→j≠top→hp j=some o:=fun j o e hj=>by simpa [Hp.Jb,hj] using e
 refine ⟨⟨?_, ?_, ?_, ?_,O.hr.fresh⟩, ?_, ?_⟩
 ·intro j oj e
  by_cases hj:j=top
  ·subst hj
   rw [Hp.El] at e;cases e
   exact ⟨L,Ren.A9 ..,hok.mono hle⟩
  ·obtain ⟨M,hM,hk⟩:=O.hr.obj j oj (hupd j oj e hj)
   exact ⟨M,hle _ _ hM,hk.mono hle⟩
 ·intro i j oi oj Li Lj ei ej hij hrw
  exfalso
  by_cases hj:i=top
  ·subst hj;rw [Hp.El] at ei;cases ei;cases hrw
  ·rw [O.ro i oi (hupd i oi ei hj)] at hrw;cases hrw
 ·intro i o M ei hrw
  exfalso
  by_cases hj:i=top
  ·subst hj;rw [Hp.El] at ei;cases ei;cases hrw
  ·rw [O.ro i o (hupd i o ei hj)] at hrw;cases hrw
 ·intro i M e
  by_cases hj:i=top
  ·subst hj;rw [Ren.A9] at e;cases e;exact hb
  ·exact O.hr.val i M (hphi i M e hj)
 ·intro j hj
  have:j≠top:=by omega
  simp only [Ren.ext,this,if_false]
  exact O.top j (by omega)
 ·intro i o e
  by_cases hj:i=top
  ·subst hj;rw [Hp.El] at e;cases e;rfl
  ·exact O.ro i o (hupd i o e hj)
theorem pY {P:Program}{W:World}{base:Nat}{t e:TypeId}{v:Value}(ht:P.underlying t=some (.slice e))(hok:Value.okWide P W .any base t v):∃a n c,v= .slice a n c:=by
 simp only [Value.okWide,ht,Cell.okWide,Cell.ok] at hok
 cases v <;> first | exact ⟨_,_,_,rfl⟩ | exact hok.elim
theorem CE.slice {own:Nat→Prop}{W:World}{φ:Ren}{hp:Hp}{top:Nat}(O:CE own W φ hp top)
  {α:Type} [Inhabited α] {E:B6 α} {good:α→Prop} {H:Type} {enc:TypeId×Value→H} {P:Program} {base dd:Nat} {t e:TypeId} {ls:List H4} {v:Value} {x:DataW H} {ps:List MemPlace}
  (ht:P.underlying t=some (.slice e)) (hl:Wz P dd e=some ls) (hsz:E.size=P.cellsOf e) (lv:∀cs,Cw ls cs→∃a,cs=E.enc a∧good a)
  (hE:E.size < BQ) (h:DataW.Trod enc P W 0 (fun _=>true) true t v x ps) (hok:Value.okWide P W .any base t v) :
  ∃φ' hp' u l,φ.le φ'∧CE own W φ' hp' (top+1)∧V φ' u v∧BF E hp' u l∧(∀a∈l,good a)∧∀i o,hp i=some o→hp' i=some o:=by
 obtain ⟨fuel,hf⟩:=h
 obtain ⟨a,len,cap,rfl⟩:=pY ht hok
 rcases Go.Deep.open_slice ht hf with ⟨h1,_⟩ | ⟨a,len,cap,m,n,D,Pl,h1,_,hlc,hcm,hm,_,hx⟩
 ·simp only [Value.cells,List.cons.injEq,Value.slice.injEq,and_true] at h1
  obtain ⟨rfl,rfl,rfl⟩:=h1
  exact ⟨φ,hp,_, [],Ren.le_refl _,⟨O.hr,fun j hj=>O.top j (by omega),O.ro⟩, .nils, .nils,by simp,fun _ _ h=>h⟩
 ·simp only [Value.cells,List.cons.injEq,Value.slice.injEq,and_true] at h1
  obtain ⟨rfl,rfl,rfl⟩:=h1
  simp only [if_true] at hm
  subst hm
  have hk:W.has P .any base a e m:=by
   simp only [Value.okWide,ht,Cell.okWide,Cell.ok] at hok
   exact hok.2.2
  obtain ⟨hs,c,t',fz,hc,hoff⟩:=dn hk
  obtain ⟨b,off,spot⟩:=a
  simp only at hs hc hoff
  subst hs
  obtain ⟨f,hfa⟩:=Go.Deep.choose_lt (α:=α) (p:=fun i a=>W.cells? 0 (Addr.add ⟨b,off,none⟩ (i * P.cellsOf e)) (P.cellsOf e)=some (E.enc a)∧good a) (n:=m) (fun i hi=>by
   obtain ⟨cs',g1,g2⟩:=hx i hi
   obtain ⟨a,rfl,ga⟩:=lv _ (Rw _ _ _ hl _ _ _ g2)
   exact ⟨a,g1,ga⟩)
  have hrows:=RY hc m (fun i=>E.enc (f i)) (fun i hi=>(hfa i hi).1)
  have hflat:(c.toList.drop off).take (m * E.size)=E.flat ((List.range m).map f):=by
   rw [hsz,hrows];simp [B6.flat,Function.comp_def]
  have hlenf:(E.flat ((List.range m).map f)).length=m * E.size:=by rw [B6.EH];simp
  have hfit:off+m * E.size≤c.size:=by
   have:=congrArg List.length hflat
   rw [hlenf,List.length_take,List.length_drop,Array.length_toList] at this
   omega
  have hvs:Vs φ (E.flat ((List.range m).map f)) (E.flat ((List.range m).map f)):=by
   refine Vs.NP fun y hy=> ?_
   simp only [B6.flat,List.mem_flatten,List.mem_map] at hy
   obtain ⟨l,⟨a,⟨i,hi,rfl⟩,rfl⟩,hy⟩:=hy
   obtain ⟨cs',g1,g2⟩:=hx i (by simpa using hi)
   have e1:=(hfa i (by simpa using hi)).1
   rw [g1] at e1
   cases e1
   have:=(Rw _ _ _ hl _ _ _ g2).vs (φ:=φ)
   obtain ⟨j,hj⟩:=List.getElem?_of_mem hy
   obtain ⟨x',e2,e3⟩:=this.get hj
   rw [hj] at e2;cases e2
   exact e3
  have hbs:b < W.heap.size:=by
   by_cases hb:b < W.heap.size
   ·exact hb
   ·rw [Array.getElem?_eq_none (by omega)] at hc;cases hc
  have O':=O.add (L:=⟨b,off,E.size,c.size⟩) (CA:=E.size) (vs:=E.flat ((List.range m).map f)) hbs ⟨rfl,c,t',fz,hc,rfl,by rw [hlenf];exact hfit,by rw [hlenf];rw [hflat];exact hvs,⟨(by intro h;cases h),(fun _ h=>absurd h (Nat.not_le.2 hE)),(by intro h;cases h)⟩⟩
  refine ⟨_,_, .slice (some ⟨top,0,none⟩) len m,((List.range m).map f).take len,Ren.EZ (O.top top (Nat.le_refl _)),O', ?_, ?_, ?_, ?_⟩
  ·exact V.slice top 0 len m m _ (Ren.A9 ..) hlc (Nat.le_refl _) (by simpa using hfit)
  ·have hlen:(((List.range m).map f).take len).length=len:=by simp;omega
   have:=BF.rows (E:=E) (hp:=hp.Jb top (.cells false E.size (E.flat ((List.range m).map f)))) top 0 m false _ (((List.range m).map f).take len) (Hp.El ..)
    (by rw [hlen,List.drop_zero,B6.N7]) (by rw [hlen,hlenf];have:=Nat.mul_le_mul_right E.size hlc;omega) (by omega) (by rw [hlen];have:m≤9223372036854775807:=Nat.le_trans hcm (by decide:maxLen≤9223372036854775807);omega)
   rwa [hlen] at this
  ·intro a ha
   obtain ⟨i,hi,rfl⟩:=List.mem_map.1 (List.mem_of_mem_take ha)
   exact (hfa i (by simpa using hi)).2
  ·intro i o hi
   have:i≠top:=fun e=>by
    obtain ⟨M,hM,_⟩:=O.hr.obj i o hi
    rw [e,O.top top (Nat.le_refl _)] at hM;cases hM
   simpa [Hp.Jb,this] using hi
end Go.Dm
namespace Go.Dm
inductive FA where
 |nil
 |emp
 |mk(b o n c:Nat)
 deriving DecidableEq
instance:Inhabited FA:=⟨.nil⟩
def FA.v:FA→Value
 | .nil=> .slice none 0 0
 | .emp=> .slice (some ⟨0,0,some 0⟩) 0 0
 | .mk b o n c=> .slice (some ⟨b,o,none⟩) n c
def EY:Value→FA
 | .slice (some ⟨b,o,none⟩) n c=> .mk b o n c
 | .slice (some ⟨_,_,some _⟩) _ _=> .emp
 |_=> .nil
theorem NN (r:FA):EY r.v=r:=by cases r <;> rfl
theorem FA.oc (r:FA):Value.oneCell' r.v=true:=by cases r <;> rfl
theorem FA.cl (r:FA):Ar r.v= [r.v]:=by cases r <;> rfl
def FA.ra (ρ:Nat→Nat):FA→FA
 | .nil=> .nil
 | .emp=> .emp
 | .mk b o n c=> .mk (ρ b) o n c
theorem P0 (ρ:Nat→Nat)(r:FA):Ao ρ r.v=(r.ra ρ).v:=by cases r <;> rfl
theorem kK {α:Type}{b:Nat}{l:List α}:(EY (AA b l)).v=AA b l:=by cases l <;> rfl
class B6.Ra {α:Type} (E:B6 α) where
 ra:(Nat→Nat)→α→α
 ok:∀ρ a,Cg ρ (E.enc a)=E.enc (ra ρ a)
theorem BF.Ax {α:Type}{E:B6 α}{hp h':Hp}{v:Value}{l:List α}{n:Nat}(h:BF E hp v l)(hs:Sc n v)(hk:BK n [] h' hp):BF E h' v l:=
 h.mono fun b o m c e=>by subst e;exact hk.nil b hs
theorem Y8 {n:Nat}{b:Bool}:C3 n (.bool b)=(List.replicate n b).map Value.bool:=by simp [C3]
theorem Cp {ρ:Nat→Nat}{l:List Bool}:Cg ρ (l.map Value.bool)=l.map Value.bool:=by
 rw [EM,List.map_map];rfl
theorem eG {l:List Bool}:Au (l.map Value.bool)=true:=by
 induction l with
 |nil=>rfl
 |cons a l ih=>simp only [List.map_cons,Au,ih];rfl
theorem DT {l:List Bool}{i:Nat}(h:i < l.length):((l.map Value.bool)[i]?).getD undef= .bool ((l[i]?).getD false):=by simp [h]
theorem NX {l:List Bool}{n:Nat}{b:Bool}(h:n < l.length):A1 (l.map Value.bool) n [.bool b] = (l.set n b).map Value.bool:=by
 rw [Rq (by simpa using h),List.map_set]
theorem W8 {n:Nat}{v:Value}(h:Value.oneCell' v=true):Au (C3 n v)=true:=by
 induction n with
 |zero=>rfl
 |succ n ih=>
  have:C3 (n+1) v=v :: C3 n v:=by simp [C3,List.replicate_succ]
  rw [this];simp [Au,h,ih]
theorem jw {n:Nat}{k:IntKind}{m:Int}:Au (C3 n (.int k m))=true:=W8 rfl
theorem jv {n:Nat}{b:Bool}:Au (C3 n (.bool b))=true:=W8 rfl
theorem Nb {α:Type}{f:α→Value}{l:List α}{n:Nat}(h:l.length=n):(l.map f).take n=l.map f:=List.take_of_length_le (by rw [List.length_map];omega)
theorem UR {α:Type}{f:α→Value}{l:List α}{n:Nat}(h:l.length=n):(l.map f).drop n= []:=List.drop_eq_nil_of_le (by rw [List.length_map];omega)
theorem BF.pre {α:Type}{E:B6 α}{hp:Hp}{b n c:Nat}{m:List α}(h:hp b=AD E m)(hc:m.length=c)(h0:0 < c)(hn:n≤c)(hl:c≤9223372036854775807):BF E hp (.slice (some ⟨b,0,none⟩) n c) (m.take n):=by
 subst hc
 cases m with
 |nil=>simp at h0
 |cons a m=>
  have hlt:((a :: m).take n).length=n:=by rw [List.length_take];omega
  have h2:n * E.size≤(a :: m).length * E.size:=Nat.mul_le_mul_right _ hn
  have:=BF.rows (E:=E) (hp:=hp) b 0 (a :: m).length true (E.flat (a :: m)) ((a :: m).take n) h (by rw [hlt,List.drop_zero,B6.N7]) (by rw [hlt,B6.EH];omega) (by omega) (by omega)
  rw [hlt] at this
  exact this
theorem Dt {α:Type}{E:B6 α}{hp:Hp}{b:Nat}{l:List α}{tt:AM}{top t0 t1 e k:Nat}{i1 j:TI}(h0:kindOf tt t0=some (.slice e))(h1:tt t1=some i1)(hi:Dz i1.ud=false)(hj:tt e=some j)(hs:j.size=E.size)(hby:Nat.ble j.bytes 65536=true)
  (h:hp b=AD E l) (hk:hp k=some (.cells true E.size (cellsOf (hp k)))) (hc:E.enc (E.dec (cellsOf (hp k)))=cellsOf (hp k)) (hn:Cu (l.length+1) j.bytes=true) :
  AK tt hp top [t0,t1] (AA b l) (.slice (some ⟨k,0,none⟩) 1 1)=some (AA top (l ++ [E.dec (cellsOf (hp k))]),Bu b l top (AD E (l ++ [E.dec (cellsOf (hp k))])),top+1):=
 GV h0 h1 hi hj hs hby h (BF.one (by rw [hc];exact hk)) (by simpa using hn)
end Go.Dm
namespace Go.Dm
open Go.WideShapes Go.ChangeShapes
inductive Sh where
 |leaf(l:H4)
 |sl(ls:List Sh)(eb:Nat)
mutual
inductive mh (hp:Hp):Sh→Value→Prop
 |leaf (l:H4) (v:Value) (h:l.ok v):mh hp (.leaf l) v
 |nils (ls:List Sh) (eb:Nat):mh hp (.sl ls eb) (.slice none 0 0)
 |emp (ls:List Sh) (eb:Nat):mh hp (.sl ls eb) (.slice (some ⟨0,0,some 0⟩) 0 0)
 |rows (ls:List Sh) (eb:Nat) (b n c:Nat) (vs:List Value) (hb:hp b=some (.cells false ls.length vs)) (hn:n≤c) (hc:c * ls.length≤vs.length) (hm:c≤9223372036854775807) (hz:c * eb≤reachBytes)
   (each:∀i,i < n→Lx hp ls ((vs.drop (i * ls.length)).take ls.length)):mh hp (.sl ls eb) (.slice (some ⟨b,0,none⟩) n c)
inductive Lx (hp:Hp):List Sh→List Value→Prop
 |nil:Lx hp [] []
 |cons (s:Sh) (ls:List Sh) (v:Value) (vs:List Value) (h:mh hp s v) (hl:Lx hp ls vs):Lx hp (s :: ls) (v :: vs)
end
def Ext(hp hp':Hp):Prop:= ∀i o,hp i=some o→hp' i=some o
theorem Ext.refl(hp:Hp):Ext hp hp:=fun _ _ h=>h
theorem Ext.trans {a b c:Hp}(h:Ext a b)(g:Ext b c):Ext a c:=fun i o e=>g i o (h i o e)
mutual
theorem mh.mono {hp hp':Hp}(he:Ext hp hp'):∀ {s:Sh} {v:Value},mh hp s v→mh hp' s v
 |_,_, .leaf l v h=> .leaf l v h
 |_,_, .nils ls eb=> .nils ls eb
 |_,_, .emp ls eb=> .emp ls eb
 |_,_, .rows ls eb b n c vs hb hn hc hm hz each=> .rows ls eb b n c vs (he _ _ hb) hn hc hm hz fun i hi=>Lx.mono he (each i hi)
theorem Lx.mono {hp hp':Hp}(he:Ext hp hp'):∀ {s:List Sh} {v:List Value},Lx hp s v→Lx hp' s v
 |_,_, .nil=> .nil
 |_,_, .cons s ls v vs h hl=> .cons s ls v vs (mh.mono he h) (Lx.mono he hl)
end
theorem Lx.append {hp:Hp}:∀ {a b:List Sh} {x y:List Value},Lx hp a x→Lx hp b y→Lx hp (a ++ b) (x ++ y)
 |_,_,_,_, .nil,h=>h
 |_,_,_,_, .cons s ls v vs h hl,h'=> .cons s _ v _ h (Lx.append hl h')
structure Op1(own:Nat→Prop)(W:World)(φ:Ren)(hp:Hp)(ls:List Sh)(cs:List Value)(φ':Ren)(hp':Hp)(top':Nat)(cs':List Value):Prop where
 le:φ.le φ'
 op:CE own W φ' hp' top'
 ext:Ext hp hp'
 vs:Vs φ' cs' cs
 ok:Lx hp' ls cs'
def Ep(own:Nat→Prop)(W:World)(ls:List Sh)(cs:List Value):Prop:= ∀φ hp top,CE own W φ hp top→∃φ' hp' top' cs',Op1 own W φ hp ls cs φ' hp' top' cs'
theorem Ep.nil {own:Nat→Prop}{W:World}:Ep own W [] []:=fun φ hp top O=>⟨φ,hp,top, [],Ren.le_refl _,O,Ext.refl _, .nil, .nil⟩
theorem Ep.append {own:Nat→Prop}{W:World}{a b:List Sh}{x y:List Value}(h:Ep own W a x)(g:Ep own W b y):Ep own W (a ++ b) (x ++ y):=by
 intro φ hp top O
 obtain ⟨φ1,hp1,top1,x',A⟩:=h φ hp top O
 obtain ⟨φ2,hp2,top2,y',B⟩:=g φ1 hp1 top1 A.op
 exact ⟨φ2,hp2,top2,x' ++ y',Ren.le_trans A.le B.le,B.op,A.ext.trans B.ext,(A.vs.mono B.le).append B.vs,(A.ok.mono B.ext).append B.ok⟩
theorem Ep.leaf {own:Nat→Prop}{W:World}{l:H4}{v:Value}(h:l.ok v):Ep own W [.leaf l] [v]:=
 fun φ hp top O=>⟨φ,hp,top, [v],Ren.le_refl _,O,Ext.refl _, .cons _ _ _ _ (H4.v h) .nil, .cons _ _ _ _ (.leaf _ _ h) .nil⟩
theorem Ep.rep {own:Nat→Prop}{W:World}{ls:List Sh}{cs:List Value}{s:Nat}(hs:ls.length=s):∀n,(∀i,i < n→Ep own W ls ((cs.drop (i * s)).take s))→Ep own W (List.replicate n ls).flatten (cs.take (n * s))
 |0,_=>by simp only [List.replicate_zero,List.flatten_nil,Nat.zero_mul,List.take_zero];exact .nil
 |n+1,h=>by
  have ih:=Ep.rep hs n (fun i hi=>h i (by omega))
  have hn:=h n (by omega)
  rw [Nat.succ_mul,List.take_add,List.replicate_succ',List.flatten_append]
  exact ih.append (by simpa using hn)
theorem vq {P:Program}{W:World}{base:Nat}{t:TypeId}{v:Value}(ht:P.underlying t=some .string)(hok:Value.okWide P W .any base t v):∃l,v= .string ⟨⟨l⟩⟩:=by
 simp only [Value.okWide,ht,Cell.okWide,Cell.ok] at hok
 cases v with
 |string s=>obtain ⟨⟨l⟩⟩:=s;exact ⟨l,rfl⟩
 |_=>exact hok.elim
theorem Op1.one {own:Nat→Prop}{W:World}{φ φ':Ren}{hp hp':Hp}{top':Nat}{s:Sh}{v:Value}{cs':List Value}(O:Op1 own W φ hp [s] [v] φ' hp' top' cs'):∃u,cs' = [u]∧V φ' u v∧mh hp' s u:=by
 obtain ⟨_,_,_,V1,K⟩:=O
 cases V1 with
 |cons u _ _ _ V1 hl=>
 cases hl
 cases K with
 |cons _ _ _ _ hk _=>exact ⟨u,rfl,V1,hk⟩
end Go.Dm
