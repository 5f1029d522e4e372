/- What the rows of this seat share: the tables, as the condition lays them. -/
import Derived.Test.YthlhnangbinhoaaGreatDoorRows
import Derived.Test.YthlhnangbinhoaaGreatDoorSA
import Derived.WalkKit
import Derived.ProofKit
import Derived.LaidMore
import Derived.OpenShut
import Derived.SizedLaws
import Derived.Stop.Joined
import Derived.LaidSub
set_option linter.unusedVariables false
namespace Go.Proofs.YthlhnangbinhoaaGreatDoor.Dm
open Go.ChangeShapes Go.WideShapes Go.ChangeAt
open Go.Dm
theorem gTz:Tryz.prog.globalNamed "math/bits.deBruijn64tab" = some 6:=by kernel_rfl
theorem AAX:Tryz.prog.globalNamed "internal/strconv.uint64pow10" = some 2:=by kernel_rfl
theorem Ng {P:Program}{w:World}{n:String}{g:Nat}{cs:Array Value}(hg:P.globalNamed n=some g)(h:w.var? P n=some cs):∃ct cf,w.heap[g]? = some (.cells cs ct cf):=by
 unfold World.var? at h
 rw [hg] at h
 simp only [Option.bind_some] at h
 split at h
 ·rename_i c ct cf hc
  cases h
  exact ⟨ct,cf,hc⟩
 ·cases h
theorem du {n:Nat}{k:IntKind}{xs:List (DataW Unit×List MemPlace)}{l:List Nat}{cs:List Value}(hn:xs.length=n)(hc:cs.length=n)(hx:xs.map (·.1)=l.map fun i:Nat=>DataW.lit (.int k (i:Int)))
  (h:∀i,i < n→∃v:Int,(cs.drop i).take 1= [.int k v]∧xs[i]? = some (.lit (.int k v), [])):cs=JZ k l:=by
 have hl:l.length=n:=by have:=congrArg List.length hx;simpa [hn] using this.symm
 refine List.ext_getElem? fun i=> ?_
 rcases Nat.lt_or_ge i n with hi | hi
 ·obtain ⟨v,h1,h2⟩:=h i hi
  have hci:i < cs.length:=by omega
  rw [List.drop_eq_getElem_cons hci] at h1
  have h1:cs[i] = .int k v:=(List.cons.inj h1).1
  have h3:(xs.map (·.1))[i]? = some (.lit (.int k v)):=by rw [List.getElem?_map,h2];rfl
  rw [hx,List.getElem?_map] at h3
  have hil:i < l.length:=by omega
  rw [List.getElem?_eq_getElem hil] at h3
  simp only [Option.map_some,Option.some.injEq,DataW.lit.injEq,Lit.int.injEq,true_and] at h3
  rw [List.getElem?_eq_getElem hci,h1]
  unfold JZ
  rw [List.getElem?_map,List.getElem?_eq_getElem hil,←h3];rfl
 ·rw [List.getElem?_eq_none (by omega),List.getElem?_eq_none (by unfold JZ;simp;omega)]
theorem lN {P:Program}{W:World}{t e:TypeId}{n fuel:Nat}{k:IntKind}{cs:List Value}{l:List Nat}{D:DataW Unit}{ps:List MemPlace}(ht:P.underlying t=some (.array n e))(he:P.underlying e=some (.int k))(hce:P.cellsOf e=1)(hct:P.cellsOf t=n)
  (hD:D= .agg (l.map fun i:Nat=>DataW.lit (.int k (i:Int))))
  (hd:DataW.trod (fun _=>()) P W 0 (fun _=>true) false fuel t cs=some (D,ps)):cs=JZ k l:=by
 obtain ⟨xs,m,_,hx,hlen,hn,hel⟩:=DataW.trod_array ht hd
 simp only [Prod.mk.injEq] at hx
 rw [hD] at hx
 simp only [DataW.agg.injEq] at hx
 refine du hn (by rw [hlen,hct]) hx.1.symm fun i hi=> ?_
 have h1:=hel i hi
 rw [hce,Nat.mul_one] at h1
 have hxi:i < xs.length:=by omega
 rw [List.getElem?_eq_getElem hxi] at h1 ⊢
 obtain ⟨v,h2,h3,_⟩:=DataW.trod_int he h1
 exact ⟨v,h2,by rw [h3]⟩
def bN:List (String×DataW Unit):= [("math/bits.deBruijn32tab",Rows.laid_math_bits_deBruijn32tab),("math/bits.deBruijn64tab",Rows.laid_math_bits_deBruijn64tab),("internal/strconv.uint64pow10",Rows.laid_internal_strconv_uint64pow10)]
set_option maxRecDepth 100000 in
theorem dx {W:World}(h:laidMetH Tryz.prog bN W):(∃ct cf,W.heap[6]? = some (.cells (JZ .u8 Lib.deBruijn64tab).toArray ct cf))∧(∃ct cf,W.heap[2]? = some (.cells (JZ .u64 VG).toArray ct cf)):=by
 rw [MakeChecks.laidMetH_plain _ _ _ (by kernel_rfl)] at h
 obtain ⟨ps,⟨g0,t0,cs0,f0,p0,q0,hg0,ht0,hv0,hd0,⟨g1,t1,cs1,f1,p1,q1,hg1,ht1,hv1,hd1,⟨g2,t2,cs2,f2,p2,q2,hg2,ht2,hv2,hd2,_,_⟩,_⟩,_⟩,_,_⟩:=h
 have tt1:(Tryz.prog.globals[6]?).map (·.type)=some 254:=by kernel_rfl
 have tt2:(Tryz.prog.globals[2]?).map (·.type)=some 217:=by kernel_rfl
 obtain rfl:=Option.some.inj (gTz.symm.trans hg1)
 obtain rfl:=Option.some.inj (AAX.symm.trans hg2)
 obtain rfl:=Option.some.inj (tt1.symm.trans ht1)
 obtain rfl:=Option.some.inj (tt2.symm.trans ht2)
 obtain ⟨ct1,cf1,h1⟩:=Ng gTz hv1
 obtain ⟨ct2,cf2,h2⟩:=Ng AAX hv2
 have e1:=lN (n:=64) (e:=5) (k:= .u8) (l:=Lib.deBruijn64tab) (by kernel_rfl) (by kernel_rfl) (by kernel_rfl) (by kernel_rfl) (by rfl) hd1
 have e2:=lN (n:=20) (e:=106) (k:= .u64) (l:=VG) (by kernel_rfl) (by kernel_rfl) (by kernel_rfl) (by kernel_rfl) (by rfl) hd2
 refine ⟨⟨ct1,cf1, ?_⟩,⟨ct2,cf2, ?_⟩⟩
 ·rw [h1,←e1]
 ·rw [h2,←e2]
theorem W9 {W:World}(h:laidMetH Tryz.prog bN W):∃φ hp,CE (fun b=>W.heap.size≤b) W φ hp 2∧hp 0=some tzO∧hp 1=some VH:=by
 obtain ⟨⟨c0,z0,h0⟩,⟨c1,z1,h1⟩⟩:=dx h
 have s0:=(Array.getElem?_eq_some_iff.1 h0).1
 have s1:=(Array.getElem?_eq_some_iff.1 h1).1
 have v0:∀(φ:Ren) (k:IntKind) (l:List Nat),Vs φ (JZ k l) (((JZ k l).toArray.toList.drop 0).take (JZ k l).length):=by
  intro φ k l
  rw [List.drop_zero,List.take_length]
  refine Vs.NP fun v hv=> ?_
  unfold JZ at hv
  obtain ⟨n,_,rfl⟩:=List.mem_map.1 hv
  exact .int _ _
 have O1:=(CE.nil W).add (L:=⟨6,0,BQ+4096 * 64+6,64⟩) (CA:=BQ+4096 * 64+6) (vs:=JZ .u8 Lib.deBruijn64tab) s0 ⟨rfl,_,c0,z0,h0,rfl,by decide,v0 _ _ _,⟨fun e=>(by cases e),(fun _ _=>⟨by decide,rfl,by decide⟩),fun e=>(by cases e)⟩⟩
 have O2:=O1.add (L:=⟨2,0,BQ+4096 * 20+2,20⟩) (CA:=BQ+4096 * 20+2) (vs:=JZ .u64 VG) s1 ⟨rfl,_,c1,z1,h1,rfl,by decide,v0 _ _ _,⟨fun e=>(by cases e),(fun _ _=>⟨by decide,rfl,by decide⟩),fun e=>(by cases e)⟩⟩
 exact ⟨_,_,O2,rfl,rfl⟩
theorem Y4 {H:Type}{enc:TypeId×Value→H}{P:Program}{f:Func}{s:ChangeSpec}{apart fresh handsOn:Bool}{W W':World}{args:Array Value}{v:Value}{ds gs:List (DataW H)}{before pa pv:List MemPlace}
  (hW:DataW.Whole enc P f.params.toList s.vars apart W args.toList ds gs before)
  (hres:∀(b:Nat) (sp:Nat→Bool) (hd:Bool),DataW.TrodAll enc P W' b sp hd f.resultTypes.toList (v.resultList f.resultTypes.size) (s.fn H (ds ++ gs)).results [])
  (hargs:∀sp:Nat→Bool,(∀p∈before,sp p.block=true)→DataW.TrodAll enc P W' 0 sp true f.params.toList args.toList (s.fn H (ds ++ gs)).args pa)
  (hvars:∀sp:Nat→Bool,(∀p∈before,sp p.block=true)→DataW.TrodVars enc P W' sp s.vars (s.fn H (ds ++ gs)).vars pv)
  (hps:before=pa ++ pv) (hk:W.keptBut W' (· ∈before)):s.post enc P f apart fresh handsOn false W args v W':=by
 have hold:∀p∈before,(fun b=>decide (b < W.heap.size)) p.block=true:=fun p hp=>by simpa using hW.lt p hp
 refine ⟨ds,gs,before, [],pa,pv,hW,hres _ _ _,hargs _ hold,hvars _ hold,World.keptBut_mono (fun p hp=>⟨hp, ?_⟩) hk,fun h=>by cases h⟩
 rw [hps,List.mem_append] at hp
 exact Or.inr hp
def Zf (W:World)(e:Ending)(w':World):Prop:=e= .returned (.bool true)∧Go.RowKit.Below W.heap.size W w'
theorem oV {P:Program}{f:FuncId}{args:List Value}{hp:Hp}{top:Nat}{p:Value→Hp→Nat→Prop}(hw:AJ P f args hp top fun v hp' top'=>v= .bool true∧p v hp' top'){φ:Ren}{W:World}{args':List Value}(hV:Vs φ args args')(O:CE (fun b=>W.heap.size≤b) W φ hp top) :
  Calls P f ⟨args'⟩ W (Zf W):=by
 refine Calls.mono (hw φ _ W args' hV O.hr O.top) fun e w' hh=> ?_
 obtain ⟨r,hp',top',v',φ',rfl,⟨rfl,_⟩,Wk⟩:=hh
 have:=Wk.v.ID
 subst this
 exact ⟨rfl,⟨Wk.k.os,Wk.k.tape,Wk.k.output,Wk.k.size,fun b hb=>Wk.k.same b hb (by omega)⟩⟩
end Go.Proofs.YthlhnangbinhoaaGreatDoor.Dm
set_option linter.unusedVariables false
namespace Go.Proofs.YthlhnangbinhoaaGreatDoor.Dm
open Go.ChangeShapes Go.WideShapes Go.ChangeAt
open Go.Dm
theorem AAZ:Tryz.prog.globalNamed "strconv.ErrSyntax" = some 3:=by kernel_rfl
theorem AAY:Tryz.prog.globalNamed "strconv.ErrRange" = some 4:=by kernel_rfl
def TH:List (String×DataW Unit):= [("math/bits.deBruijn32tab",Rows.laid_math_bits_deBruijn32tab),("math/bits.deBruijn64tab",Rows.laid_math_bits_deBruijn64tab),("internal/strconv.uint64pow10",Rows.laid_internal_strconv_uint64pow10),("unicode/utf8.acceptRanges",Rows.laid_unicode_utf8_acceptRanges),("strconv.ErrRange",Rows.laid_strconv_ErrRange),("strconv.ErrSyntax",Rows.laid_strconv_ErrSyntax),("unicode/utf8.first",Rows.laid_unicode_utf8_first)]
noncomputable def Zb (os:Os):World:= {World.doorLaid Tryz.prog 2000 os with heap:=match (World.doorLaid Tryz.prog 2000 os).heap[7]? with
 |some (Obj.cells _ t f)=>(World.doorLaid Tryz.prog 2000 os).heap.setIfInBounds 7 (.cells (Go.Pinned.utf8FirstZ.map fun n:Nat=>Value.int .u8 (n:Int)).toArray t f)
 |_=>(World.doorLaid Tryz.prog 2000 os).heap}
theorem MQ (os:Os)(args:Array Value):((Zb os).forCall (fun _ _=>0) ⟨#[],args, []⟩).Shaped Tryz.prog:=World.shaped_of_RefB (by kernel_rfl) (by kernel_rfl)
set_option maxRecDepth 100000 in
theorem jQ {W:World}(h:laidMetH Tryz.prog TH W):laidMetH Tryz.prog bN W:=by
 have:=laidMetH.filter (fun x=>x.1 == "math/bits.deBruijn32tab" || x.1 == "math/bits.deBruijn64tab" || x.1 == "internal/strconv.uint64pow10") h
 have e:TH.filter (fun x=>x.1 == "math/bits.deBruijn32tab" || x.1 == "math/bits.deBruijn64tab" || x.1 == "internal/strconv.uint64pow10")=bN:=by rfl
 rwa [e] at this
def AEI:String:= "*errors.errorString"
theorem Nc {P:Program}{W:World}{fuel t:Nat}{l:Lit}{q:List MemPlace}(h:DataW.trod (fun _=>()) P W 0 (fun _=>true) false fuel t [] = some (.lit l,q)):False:=by
 cases fuel with
 |zero=>simp [DataW.trod] at h
 |succ n=>
  cases hu:P.underlying t with
  |none=>simp [DataW.trod,hu] at h
  |some d=>
   cases d <;> simp [DataW.trod,hu] at h
theorem Xt {P:Program}{W:World}{fuel t:Nat}{l:Lit}{cs:List Value}{q:List MemPlace}(h:DataW.trod (fun _=>()) P W 0 (fun _=>true) false fuel t cs=some (.agg [.lit l],q)):cs≠ []:=by
 rintro rfl
 have one:∀ {xs:List (DataW Unit×List MemPlace)},(DataW.agg [.lit l],q)=(DataW.agg (xs.map (·.1)),xs.flatMap (·.2))→∃q',xs[0]? = some (.lit l,q')∧xs.length=1:=by
  intro xs h
  simp only [Prod.mk.injEq,DataW.agg.injEq] at h
  cases xs with
  |nil=>simp at h
  |cons x r=>
   simp at h
   refine ⟨x.2, ?_,by simp [h.1.2]⟩
   simp [h.1.1]
 cases hu:P.underlying t with
 |none=>cases fuel <;> simp [DataW.trod,hu] at h
 |some d=>
  cases d
  case struct fs=>
   obtain ⟨xs,n,_,hx,_,hl,hy⟩:=DataW.trod_struct hu h
   obtain ⟨q',h0,h1⟩:=one hx
   have hs:0 < fs.size:=by omega
   have:=hy 0 fs[0] (by simp [hs])
   rw [h0] at this
   simp only [List.drop_nil,List.take_nil] at this
   exact Nc this
  case array k e=>
   obtain ⟨xs,n,_,hx,_,hl,hy⟩:=DataW.trod_array hu h
   obtain ⟨q',h0,h1⟩:=one hx
   have:=hy 0 (by omega)
   rw [h0] at this
   simp only [List.drop_nil,List.take_nil] at this
   exact Nc this
  all_goals (cases fuel <;> simp [DataW.trod,hu] at h)
theorem kF {P:Program}{W:World}{fuel t:Nat}{cs:List Value}{d:DataW Unit}{q:List MemPlace}(h:DataW.trod (fun _=>()) P W 0 (fun _=>true) false fuel t cs=some (.ptr d,q)):∃e,P.underlying t=some (.pointer e):=by
 cases hu:P.underlying t with
 |none=>cases fuel <;> simp [DataW.trod,hu] at h
 |some k=>
  cases k
  case pointer e=>exact ⟨e,rfl⟩
  case struct fs=>
   obtain ⟨xs,n,_,hx,_⟩:=DataW.trod_struct hu h
   simp at hx
  case array k e=>
   obtain ⟨xs,n,_,hx,_⟩:=DataW.trod_array hu h
   simp at hx
  case slice e=>
   rcases DataW.trod_slice hu h with ⟨_,hx⟩ | ⟨a,len,cap,elems,rest,n,_,_,hx,_⟩
   ·simp at hx
   ·simp at hx
  all_goals exfalso
  all_goals (cases fuel with
   |zero=>simp [DataW.trod] at h
   |succ n=> ?_)
  all_goals rcases cs with _ | ⟨c,_ | ⟨c2,r⟩⟩
  all_goals try (simp [DataW.trod,hu] at h;done)
  all_goals (cases c <;> try (simp [DataW.trod,hu] at h;done))
  case some.unsafePointer.succ.cons.nil.pointer o=>cases o <;> simp [DataW.trod,hu] at h
  case some.chan.succ.cons.nil.chan o=>cases o <;> simp [DataW.trod,hu] at h
  case some.map.succ.cons.nil.map o=>
   cases o with
   |none=>simp [DataW.trod,hu] at h
   |some b=>
    simp only [DataW.trod,hu] at h
    split at h
    ·split at h
     ·simp only [Option.bind_eq_some_iff] at h
      obtain ⟨en,_,h⟩:=h
      split at h <;> simp at h
     ·cases h
    ·cases h
  case some.interface.succ.cons.nil.iface u v=>
   simp only [DataW.trod,hu] at h
   split at h
   ·simp at h
   ·simp at h
   ·cases h
set_option maxRecDepth 100000 in
theorem bt {W:World}{nm:String}{g:Nat}{t fuel:Nat}{cs:Array Value}{bs:Lit}{ps:List MemPlace}(hg:Tryz.prog.globalNamed nm=some g)(hv:W.var? Tryz.prog nm=some cs){ms:Array (String×TypeId)}(ht:Tryz.prog.underlying t=some (.interface ms))
  (hd:DataW.trod (fun _=>()) Tryz.prog W 0 (fun _=>true) false fuel t cs.toList=some (.iface AEI (.ptr (.agg [.lit bs])),ps)) :
  ∃ct cf u b o v,W.heap[g]? = some (.cells #[.iface u v] ct cf)∧(v= .pointer (some ⟨b,o,none⟩)∨v= .agg #[.pointer (some ⟨b,o,none⟩)])∧b < W.heap.size:=by
 obtain ⟨ct,cf,hh⟩:=Ng hg hv
 obtain ⟨f1,u,v,hcs,hn,h1⟩:=iface_of_trod ht hd
 obtain ⟨e,hp⟩:=kF h1
 obtain ⟨f2,a,cs',q,hvv,hcells,h2,rfl⟩:=ptr_of_trod hp h1
 have hne:=Xt h2
 have hcell:∃c,W.cell? a=some c:=by
  unfold World.cells? at hcells
  split at hcells
  ·have e0:a.add 0=a:=by simp [Addr.add]
   cases hk:Tryz.prog.cellsOf e with
   |zero=>rw [hk] at hcells;simp at hcells;exact absurd hcells hne
   |succ k=>
    rw [hk,List.range_succ_eq_map,List.mapM_cons,e0] at hcells
    cases hq:W.cell? a with
    |none=>simp [hq] at hcells
    |some c=>exact ⟨c,rfl⟩
  ·cases hcells
 obtain ⟨c,hcell⟩:=hcell
 obtain ⟨b,o,s⟩:=a
 have hs:s=none∧b < W.heap.size:=by
  unfold World.cell? at hcell
  split at hcell
  ·rename_i hb
   refine ⟨?_,(Array.getElem?_eq_some_iff.1 hb).1⟩
   cases s with
   |none=>rfl
   |some k=>simp at hcell
  ·cases hcell
 obtain ⟨rfl,hb⟩:=hs
 have hcs2:cs= #[.iface u v]:=by
  apply Array.toList_inj.1
  exact hcs
 rw [hcs2] at hh
 refine ⟨ct,cf,u,b,o,v,hh, ?_,hb⟩
 cases v <;> simp [Value.cells] at hvv
 case pointer p=>left;rw [hvv]
 case agg l=>right;congr 1;exact Array.toList_inj.1 (by simpa using hvv)
set_option maxRecDepth 100000 in
theorem pF {W:World}(h:W.ShapedOpen Tryz.prog):∃m ct,W.heap[1]? = some (.cells #[.int .i64 m] ct (0,0)):=by
 obtain ⟨cs,hh,hs,hr⟩:=h.1 1 #[.int .i64 0] 3 (of_decide_eq_true (by kernel_rfl)) (by kernel_rfl)
 obtain ⟨ts,hts,_,hall⟩:=hr (by kernel_rfl)
 have hct:Tryz.prog.cellTypes Tryz.prog.depth 3=some [3]:=by kernel_rfl
 have hu:Tryz.prog.underlying 3=some (.int .i64):=by kernel_rfl
 rw [hct] at hts
 cases hts
 have h1:0 < cs.size:=by rw [hs];decide
 obtain ⟨u,hu',hok⟩:=hall 0 cs[0] (by simp [h1])
 have:u=3:=by simpa using hu'.symm
 subst this
 unfold Cell.ok at hok
 rw [hu] at hok
 have hsz:cs.size=1:=hs
 have:∃m,cs= #[.int .i64 m]:=by
  cases hv:cs[0] <;> rw [hv] at hok <;> simp at hok
  rename_i k n
  refine ⟨n, ?_⟩
  apply Array.ext
  ·simp [hsz]
  ·intro i h2 h3
   have:i=0:=by omega
   subst this
   rw [hv]
   simp [hok.1]
 obtain ⟨m,rfl⟩:=this
 exact ⟨m,3,hh⟩
theorem CE.name {own:Nat→Prop}{W:World}{φ:Ren}{hp:Hp}{top:Nat}(O:CE own W φ hp top){L:Go.Dm.Loc}(hb:L.BT < W.heap.size):CE own W (φ.ext top L) hp (top+1):=by
 have hle:=Ren.EZ (L:=L) (O.top top (Nat.le_refl _))
 have low:∀j o M,hp j=some o→φ.ext top L j=some M→φ j=some M:=by
  intro j o M hj hM
  have:j < top:=O.hr.lt O.top hj
  have hne:¬j=top:=by omega
  simpa [Ren.ext,hne] using hM
 refine ⟨⟨?_, ?_, ?_, ?_,O.hr.fresh⟩, ?_,O.ro⟩
 ·intro j o hj
  obtain ⟨M,m1,m2⟩:=O.hr.obj j o hj
  exact ⟨M,hle _ _ m1,m2.mono hle⟩
 ·intro i j oi oj Li Lj hi hj hne hrw hLi hLj
  exact O.hr.sep i j oi oj Li Lj hi hj hne hrw (low _ _ _ hi hLi) (low _ _ _ hj hLj)
 ·intro i o M hi hrw hM
  exact O.hr.D0 i o M hi hrw (low _ _ _ hi hM)
 ·intro j M hM
  by_cases e:j=top
  ·subst e;rw [Ren.A9] at hM;cases hM;exact hb
  ·have:φ j=some M:=by simpa [Ren.ext,e] using hM
   exact O.hr.val j M this
 ·intro j hj
  have:¬j=top:=by omega
  simp only [Ren.ext,this,if_false]
  exact O.top j (by omega)
theorem CE.var {own:Nat→Prop}{W:World}{φ:Ren}{hp:Hp}{top:Nat}(O:CE own W φ hp top){g:Nat}{v v':Value}{ct:TypeId}{cf:Nat×Nat}(hg:g < 4096)(hh:W.heap[g]? = some (.cells #[v'] ct cf))(hv:V φ v v') :
  CE own W (φ.ext top ⟨g,0,BQ+4096+g,1⟩) (hp.Jb top (Pc g v)) (top+1):=
 O.add (L:=⟨g,0,BQ+4096+g,1⟩) (CA:=BQ+4096+g) (vs:= [v]) (Array.getElem?_eq_some_iff.1 hh).1
  ⟨rfl,_,ct,cf,hh,rfl,by simp, .cons _ _ _ _ hv .nil,⟨fun e=>(by cases e),(fun _ _=>⟨by show g+4096 * 1+BQ=BQ+4096+g;omega,rfl,hg⟩),fun e=>(by cases e)⟩⟩
set_option maxRecDepth 100000 in
theorem VC {W:World}(h:laidMetH Tryz.prog TH W)(hsh:W.ShapedOpen Tryz.prog):∃φ hp,CE (fun b=>W.heap.size≤b) W φ hp 7∧hp 0=some tzO∧C8 hp:=by
 obtain ⟨φ,hp,O2,ht0,ht1⟩:=W9 (jQ h)
 obtain ⟨m,ct,hml⟩:=pF hsh
 have hs:=laidMetH.filter (fun x=>x.1 == "strconv.ErrSyntax" || x.1 == "strconv.ErrRange") h
 have e:TH.filter (fun x=>x.1 == "strconv.ErrSyntax" || x.1 == "strconv.ErrRange")= [("strconv.ErrRange",Rows.laid_strconv_ErrRange),("strconv.ErrSyntax",Rows.laid_strconv_ErrSyntax)]:=by rfl
 rw [e,MakeChecks.laidMetH_plain _ _ _ (by kernel_rfl)] at hs
 obtain ⟨ps,⟨g0,t0,cs0,f0,p0,q0,hg0,htt0,hv0,hd0,⟨g1,t1,cs1,f1,p1,q1,hg1,htt1,hv1,hd1,_,_⟩,_⟩,_⟩:=hs
 have tt1:(Tryz.prog.globals[4]?).map (·.type)=some 38:=by kernel_rfl
 have tt2:(Tryz.prog.globals[3]?).map (·.type)=some 38:=by kernel_rfl
 obtain rfl:=Option.some.inj (AAY.symm.trans hg0)
 obtain rfl:=Option.some.inj (AAZ.symm.trans hg1)
 obtain rfl:=Option.some.inj (tt1.symm.trans htt0)
 obtain rfl:=Option.some.inj (tt2.symm.trans htt1)
 obtain ⟨ct0,cf0,u0,b0,o0,v0,k0,w0,l0⟩:=bt AAY hv0 Tryz.underlying38 hd0
 obtain ⟨ct1,cf1,u1,b1,o1,v1,k1,w1,l1⟩:=bt AAZ hv1 Tryz.underlying38 hd1
 have vOf:∀ {φ:Ren} {i b o:Nat} {v:Value},φ i=some ⟨b,0,0,0⟩→(v= .pointer (some ⟨b,o,none⟩)∨v= .agg #[.pointer (some ⟨b,o,none⟩)])→∃a,V φ a v:=by
  intro φ i b o v hi hv
  have hp:V φ (.pointer (some ⟨i,o,none⟩)) (.pointer (some ⟨b,o,none⟩)):=by
   have:=V.ptr (φ:=φ) i o ⟨b,0,0,0⟩ hi
   simpa using this
  rcases hv with rfl | rfl
  ·exact ⟨_,hp⟩
  ·exact ⟨.agg ⟨[.pointer (some ⟨i,o,none⟩)]⟩, .agg _ _ (.cons _ _ _ _ hp .nil)⟩
 have O3:=CE.var O2 (by decide) hml (.int .i64 m)
 have O4:=CE.name O3 (L:=⟨b1,0,0,0⟩) l1
 obtain ⟨a1,V1⟩:=vOf (Ren.A9 _ 3 ⟨b1,0,0,0⟩) w1
 have O5:=CE.var O4 (by decide) k1 (.iface u1 _ _ V1)
 have O6:=CE.name O5 (L:=⟨b0,0,0,0⟩) l0
 obtain ⟨a0,V0⟩:=vOf (Ren.A9 _ 5 ⟨b0,0,0,0⟩) w0
 have O7:=CE.var O6 (by decide) k0 (.iface u0 _ _ V0)
 refine ⟨_,_,O7, ?_, ?_,⟨m, ?_⟩,⟨u1,a1, ?_⟩,⟨u0,a0, ?_⟩⟩
 ·simp [Hp.Jb,ht0]
 ·simp [Hp.Jb,ht1]
 ·simp [Hp.Jb]
 ·simp [Hp.Jb]
 ·simp [Hp.Jb]
theorem SF {H:Type}{enc:TypeId×Value→H}{a:Assume}{C:Checked}{os:Os}{f:FuncId}{fn:Func}{s:ChangeSpec}{conds:List PathCond}{apart fresh handsOn again:Bool}{X:World→Array Value→Prop}
  (hX:∀(w w':World) (args:Array Value),w.heap=w'.heap→X w args→X w' args)
  (own:ownKnob C.prog.godebug=none) (started:os.Started) (noInit:C.prog.inits.idxOf? f=none) (hfn:C.prog.funcs[f]? = some fn)
  (witness:∃(w:World) (tape:Tape) (i:Input),w.os=os∧(w.forCall tape i).Shaped C.prog∧i.vars= []∧Input.okWide C.prog (w.forCall tape i) .any w.heap.size f i∧
   ((s.pre enc C.prog fn conds apart (w.forCall tape i).memory i.args∧X (w.forCall tape i).memory i.args)∧sizedMet enc C.prog fn (OpenSpec.ofChange s) apart (w.forCall tape i).memory i.args)∧a.holds C.prog (lone (Frame.enter C.prog f i.args .normal) [] (w.forCall tape i)))
  (contract:∀(W:World) (base:Nat) (args:Array Value) (ds gs:List (DataW H)) (before:List MemPlace),
   (∀(j:Nat) t v,fn.params[j]? = some t→args[j]? = some v→Value.okWide C.prog W .any base t v)→
   DataW.Whole enc C.prog fn.params.toList s.vars apart W args.toList ds gs before→
   conds.all (PathCond.test C.prog ⟨fn.params.toList,ds,s.plain.varTypes C.prog,gs⟩)=true→
   (DataW.weightsEach C.prog (fn.params.toList ++ s.plain.varTypes C.prog) (ds ++ gs)).all (· ≤reachBytes)=true→X W args→W.ShapedOpen C.prog→
   a.holds C.prog (lone (Frame.enter C.prog f args .normal) [] W)→
   Calls C.prog f args W fun e W'=> ∃v,e= .returned v∧s.post enc C.prog fn apart fresh handsOn again W args v W') :
  ReturnsInHanded a C os f .any (fun w args=>(s.pre enc C.prog fn conds apart w args∧X w args)∧sizedMet enc C.prog fn (OpenSpec.ofChange s) apart w args) (s.post enc C.prog fn apart fresh handsOn again):=by
 refine returnsInHanded_of_calls own started noInit witness ?_
 intro w tape i _ hsh _ hok hpre hholds
 obtain ⟨_,_,_,fn',hfn',_,_,_,_,hval⟩:=hok
 have e:fn' = fn:=Option.some.inj (hfn'.symm.trans hfn)
 subst e
 obtain ⟨⟨⟨ds,gs,before,hw,hc⟩,hx⟩,hz⟩:=hpre
 have hw':=DataW.Whole.of_heap (w':=w.forCall tape i) (by rfl) hw
 refine (contract (w.forCall tape i) w.heap.size i.args ds gs before hval hw' hc (hz.weights hw) (hX _ _ _ (by rfl) hx) hsh hholds).mono fun e W' ⟨v,he,hp⟩=> ?_
 subst he
 exact ChangeSpec.post_blind hp
end Go.Proofs.YthlhnangbinhoaaGreatDoor.Dm
