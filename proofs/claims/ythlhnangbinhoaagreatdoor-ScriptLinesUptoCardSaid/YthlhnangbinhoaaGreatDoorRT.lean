/- What the rows of this seat share: the tables, as the condition lays them. -/
import Derived.Test.YthlhnangbinhoaaGreatDoorRows
import Derived.Test.YthlhnangbinhoaaGreatDoorSA
import Derived.WalkKit
import Derived.ProofKit
import Derived.LaidMore
import Derived.OpenShut
import Derived.SizedLaws
import Derived.Stop.Joined
set_option linter.unusedVariables false
namespace Go.Proofs.YthlhnangbinhoaaGreatDoor.Dm
open Go.ChangeShapes Go.WideShapes Go.ChangeAt
open Go.Dm
theorem gTz:Tryz.prog.globalNamed "math/bits.deBruijn64tab" = some 6:=by kernel_rfl
theorem ACD:Tryz.prog.globalNamed "internal/strconv.uint64pow10" = some 2:=by kernel_rfl
theorem NA {P:Program}{w:World}{n:String}{g:Nat}{cs:Array Value}(hg:P.globalNamed n=some g)(h:w.var? P n=some cs):∃ct cf,w.heap[g]? = some (.cells cs ct cf):=by
 unfold World.var? at h
 rw [hg] at h
 simp only [Option.bind_some] at h
 split at h
 ·rename_i c ct cf hc
  cases h
  exact ⟨ct,cf,hc⟩
 ·cases h
theorem bu {n:Nat}{k:IntKind}{xs:List (DataW Unit×List MemPlace)}{l:List Nat}{cs:List Value}(hn:xs.length=n)(hc:cs.length=n)(hx:xs.map (·.1)=l.map fun i:Nat=>DataW.lit (.int k (i:Int)))
  (h:∀i,i < n→∃v:Int,(cs.drop i).take 1= [.int k v]∧xs[i]? = some (.lit (.int k v), [])):cs=Jq k l:=by
 have hl:l.length=n:=by have:=congrArg List.length hx;simpa [hn] using this.symm
 refine List.ext_getElem? fun i=> ?_
 rcases Nat.lt_or_ge i n with hi | hi
 ·obtain ⟨v,h1,h2⟩:=h i hi
  have hci:i < cs.length:=by omega
  rw [List.drop_eq_getElem_cons hci] at h1
  have h1:cs[i] = .int k v:=(List.cons.inj h1).1
  have h3:(xs.map (·.1))[i]? = some (.lit (.int k v)):=by rw [List.getElem?_map,h2];rfl
  rw [hx,List.getElem?_map] at h3
  have hil:i < l.length:=by omega
  rw [List.getElem?_eq_getElem hil] at h3
  simp only [Option.map_some,Option.some.injEq,DataW.lit.injEq,Lit.int.injEq,true_and] at h3
  rw [List.getElem?_eq_getElem hci,h1]
  unfold Jq
  rw [List.getElem?_map,List.getElem?_eq_getElem hil,←h3];rfl
 ·rw [List.getElem?_eq_none (by omega),List.getElem?_eq_none (by unfold Jq;simp;omega)]
theorem fY {P:Program}{W:World}{t e:TypeId}{n fuel:Nat}{k:IntKind}{cs:List Value}{l:List Nat}{D:DataW Unit}{ps:List MemPlace}(ht:P.underlying t=some (.array n e))(he:P.underlying e=some (.int k))(hce:P.cellsOf e=1)(hct:P.cellsOf t=n)
  (hD:D= .agg (l.map fun i:Nat=>DataW.lit (.int k (i:Int))))
  (hd:DataW.trod (fun _=>()) P W 0 (fun _=>true) false fuel t cs=some (D,ps)):cs=Jq k l:=by
 obtain ⟨xs,m,_,hx,hlen,hn,hel⟩:=DataW.trod_array ht hd
 simp only [Prod.mk.injEq] at hx
 rw [hD] at hx
 simp only [DataW.agg.injEq] at hx
 refine bu hn (by rw [hlen,hct]) hx.1.symm fun i hi=> ?_
 have h1:=hel i hi
 rw [hce,Nat.mul_one] at h1
 have hxi:i < xs.length:=by omega
 rw [List.getElem?_eq_getElem hxi] at h1 ⊢
 obtain ⟨v,h2,h3,_⟩:=DataW.trod_int he h1
 exact ⟨v,h2,by rw [h3]⟩
def Z4:List (String×DataW Unit):= [("math/bits.deBruijn32tab",Rows.laid_math_bits_deBruijn32tab),("math/bits.deBruijn64tab",Rows.laid_math_bits_deBruijn64tab),("internal/strconv.uint64pow10",Rows.laid_internal_strconv_uint64pow10)]
set_option maxRecDepth 100000 in
theorem cF {W:World}(h:laidMetH Tryz.prog Z4 W):(∃ct cf,W.heap[6]? = some (.cells (Jq .u8 Lib.deBruijn64tab).toArray ct cf))∧(∃ct cf,W.heap[2]? = some (.cells (Jq .u64 Va).toArray ct cf)):=by
 rw [MakeChecks.laidMetH_plain _ _ _ (by kernel_rfl)] at h
 obtain ⟨ps,⟨g0,t0,cs0,f0,p0,q0,hg0,ht0,hv0,hd0,⟨g1,t1,cs1,f1,p1,q1,hg1,ht1,hv1,hd1,⟨g2,t2,cs2,f2,p2,q2,hg2,ht2,hv2,hd2,_,_⟩,_⟩,_⟩,_,_⟩:=h
 have tt1:(Tryz.prog.globals[6]?).map (·.type)=some 254:=by kernel_rfl
 have tt2:(Tryz.prog.globals[2]?).map (·.type)=some 217:=by kernel_rfl
 obtain rfl:=Option.some.inj (gTz.symm.trans hg1)
 obtain rfl:=Option.some.inj (ACD.symm.trans hg2)
 obtain rfl:=Option.some.inj (tt1.symm.trans ht1)
 obtain rfl:=Option.some.inj (tt2.symm.trans ht2)
 obtain ⟨ct1,cf1,h1⟩:=NA gTz hv1
 obtain ⟨ct2,cf2,h2⟩:=NA ACD hv2
 have e1:=fY (n:=64) (e:=5) (k:= .u8) (l:=Lib.deBruijn64tab) (by kernel_rfl) (by kernel_rfl) (by kernel_rfl) (by kernel_rfl) (by rfl) hd1
 have e2:=fY (n:=20) (e:=106) (k:= .u64) (l:=Va) (by kernel_rfl) (by kernel_rfl) (by kernel_rfl) (by kernel_rfl) (by rfl) hd2
 refine ⟨⟨ct1,cf1, ?_⟩,⟨ct2,cf2, ?_⟩⟩
 ·rw [h1,←e1]
 ·rw [h2,←e2]
theorem Xz {W:World}(h:laidMetH Tryz.prog Z4 W):∃φ hp,B9 (fun b=>W.heap.size≤b) W φ hp 2∧hp 0=some tzO∧hp 1=some Tw:=by
 obtain ⟨⟨c0,z0,h0⟩,⟨c1,z1,h1⟩⟩:=cF h
 have s0:=(Array.getElem?_eq_some_iff.1 h0).1
 have s1:=(Array.getElem?_eq_some_iff.1 h1).1
 have v0:∀(φ:Ren) (k:IntKind) (l:List Nat),Vs φ (Jq k l) (((Jq k l).toArray.toList.drop 0).take (Jq k l).length):=by
  intro φ k l
  rw [List.drop_zero,List.take_length]
  refine Vs.Mn fun v hv=> ?_
  unfold Jq at hv
  obtain ⟨n,_,rfl⟩:=List.mem_map.1 hv
  exact .int _ _
 have O1:=(B9.nil W).add (L:=⟨6,0,Bc+4096 * 64+6,64⟩) (Bp:=Bc+4096 * 64+6) (vs:=Jq .u8 Lib.deBruijn64tab) s0 ⟨rfl,_,c0,z0,h0,rfl,by decide,v0 _ _ _,⟨fun e=>(by cases e),(fun _ _=>⟨by decide,rfl,by decide⟩),fun e=>(by cases e)⟩⟩
 have O2:=O1.add (L:=⟨2,0,Bc+4096 * 20+2,20⟩) (Bp:=Bc+4096 * 20+2) (vs:=Jq .u64 Va) s1 ⟨rfl,_,c1,z1,h1,rfl,by decide,v0 _ _ _,⟨fun e=>(by cases e),(fun _ _=>⟨by decide,rfl,by decide⟩),fun e=>(by cases e)⟩⟩
 exact ⟨_,_,O2,rfl,rfl⟩
theorem ZD {H:Type}{enc:TypeId×Value→H}{P:Program}{f:Func}{s:ChangeSpec}{apart fresh handsOn:Bool}{W W':World}{args:Array Value}{v:Value}{ds gs:List (DataW H)}{before pa pv:List MemPlace}
  (hW:DataW.Whole enc P f.params.toList s.vars apart W args.toList ds gs before)
  (hres:∀(b:Nat) (sp:Nat→Bool) (hd:Bool),DataW.TrodAll enc P W' b sp hd f.resultTypes.toList (v.resultList f.resultTypes.size) (s.fn H (ds ++ gs)).results [])
  (hargs:∀sp:Nat→Bool,(∀p∈before,sp p.block=true)→DataW.TrodAll enc P W' 0 sp true f.params.toList args.toList (s.fn H (ds ++ gs)).args pa)
  (hvars:∀sp:Nat→Bool,(∀p∈before,sp p.block=true)→DataW.TrodVars enc P W' sp s.vars (s.fn H (ds ++ gs)).vars pv)
  (hps:before=pa ++ pv) (hk:W.keptBut W' (· ∈before)):s.post enc P f apart fresh handsOn false W args v W':=by
 have hold:∀p∈before,(fun b=>decide (b < W.heap.size)) p.block=true:=fun p hp=>by simpa using hW.lt p hp
 refine ⟨ds,gs,before, [],pa,pv,hW,hres _ _ _,hargs _ hold,hvars _ hold,World.keptBut_mono (fun p hp=>⟨hp, ?_⟩) hk,fun h=>by cases h⟩
 rw [hps,List.mem_append] at hp
 exact Or.inr hp
def aW (W:World)(e:Ending)(w':World):Prop:=e= .returned (.bool true)∧Go.RowKit.Below W.heap.size W w'
theorem sj {P:Program}{f:FuncId}{args:List Value}{hp:Hp}{top:Nat}{p:Value→Hp→Nat→Prop}(hw:AR P f args hp top fun v hp' top'=>v= .bool true∧p v hp' top'){φ:Ren}{W:World}{args':List Value}(hV:Vs φ args args')(O:B9 (fun b=>W.heap.size≤b) W φ hp top) :
  Calls P f ⟨args'⟩ W (aW W):=by
 refine Calls.mono (hw φ _ W args' hV O.hr O.top) fun e w' hh=> ?_
 obtain ⟨r,hp',top',v',φ',rfl,⟨rfl,_⟩,Wk⟩:=hh
 have:=Wk.v.GM
 subst this
 exact ⟨rfl,⟨Wk.k.os,Wk.k.tape,Wk.k.output,Wk.k.size,fun b hb=>Wk.k.same b hb (by omega)⟩⟩
end Go.Proofs.YthlhnangbinhoaaGreatDoor.Dm
