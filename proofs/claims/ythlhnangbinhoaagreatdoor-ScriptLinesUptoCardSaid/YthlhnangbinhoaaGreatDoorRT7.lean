/- What the rows over seven laid variables share: the tables, the library's variables, as the condition and the shape give them. -/
import Derived.Test.YthlhnangbinhoaaGreatDoorRT
import Derived.Test.YthlhnangbinhoaaGreatDoorSA
import Derived.LaidSub
set_option linter.unusedVariables false
namespace Go.Proofs.YthlhnangbinhoaaGreatDoor.Dm
open Go.ChangeShapes Go.WideShapes Go.ChangeAt
open Go.Dm
theorem ABZ:Tryz.prog.globalNamed "strconv.ErrSyntax" = some 3:=by kernel_rfl
theorem zV:Tryz.prog.globalNamed "strconv.ErrRange" = some 4:=by kernel_rfl
def SM:List (String×DataW Unit):= [("math/bits.deBruijn32tab",Rows.laid_math_bits_deBruijn32tab),("math/bits.deBruijn64tab",Rows.laid_math_bits_deBruijn64tab),("internal/strconv.uint64pow10",Rows.laid_internal_strconv_uint64pow10),("unicode/utf8.acceptRanges",Rows.laid_unicode_utf8_acceptRanges),("strconv.ErrRange",Rows.laid_strconv_ErrRange),("strconv.ErrSyntax",Rows.laid_strconv_ErrSyntax),("unicode/utf8.first",Rows.laid_unicode_utf8_first)]
noncomputable def YX (os:Os):World:= {World.doorLaid Tryz.prog 2000 os with heap:=match (World.doorLaid Tryz.prog 2000 os).heap[7]? with
 |some (Obj.cells _ t f)=>(World.doorLaid Tryz.prog 2000 os).heap.setIfInBounds 7 (.cells (Go.Pinned.utf8FirstZ.map fun n:Nat=>Value.int .u8 (n:Int)).toArray t f)
 |_=>(World.doorLaid Tryz.prog 2000 os).heap}
theorem MZ (os:Os)(args:Array Value):((YX os).forCall (fun _ _=>0) ⟨#[],args, []⟩).Shaped Tryz.prog:=World.shaped_of_RefB (by kernel_rfl) (by kernel_rfl)
set_option maxRecDepth 100000 in
theorem ko {W:World}(h:laidMetH Tryz.prog SM W):laidMetH Tryz.prog Z4 W:=by
 have:=laidMetH.filter (fun x=>x.1 == "math/bits.deBruijn32tab" || x.1 == "math/bits.deBruijn64tab" || x.1 == "internal/strconv.uint64pow10") h
 have e:SM.filter (fun x=>x.1 == "math/bits.deBruijn32tab" || x.1 == "math/bits.deBruijn64tab" || x.1 == "internal/strconv.uint64pow10")=Z4:=by rfl
 rwa [e] at this
def ADp:String:= "*errors.errorString"
theorem Mf {P:Program}{W:World}{fuel t:Nat}{l:Lit}{q:List MemPlace}(h:DataW.trod (fun _=>()) P W 0 (fun _=>true) false fuel t [] = some (.lit l,q)):False:=by
 cases fuel with
 |zero=>simp [DataW.trod] at h
 |succ n=>
  cases hu:P.underlying t with
  |none=>simp [DataW.trod,hu] at h
  |some d=>
   cases d <;> simp [DataW.trod,hu] at h
theorem V9 {P:Program}{W:World}{fuel t:Nat}{l:Lit}{cs:List Value}{q:List MemPlace}(h:DataW.trod (fun _=>()) P W 0 (fun _=>true) false fuel t cs=some (.agg [.lit l],q)):cs≠ []:=by
 rintro rfl
 have one:∀ {xs:List (DataW Unit×List MemPlace)},(DataW.agg [.lit l],q)=(DataW.agg (xs.map (·.1)),xs.flatMap (·.2))→∃q',xs[0]? = some (.lit l,q')∧xs.length=1:=by
  intro xs h
  simp only [Prod.mk.injEq,DataW.agg.injEq] at h
  cases xs with
  |nil=>simp at h
  |cons x r=>
   simp at h
   refine ⟨x.2, ?_,by simp [h.1.2]⟩
   simp [h.1.1]
 cases hu:P.underlying t with
 |none=>cases fuel <;> simp [DataW.trod,hu] at h
 |some d=>
  cases d
  case struct fs=>
   obtain ⟨xs,n,_,hx,_,hl,hy⟩:=DataW.trod_struct hu h
   obtain ⟨q',h0,h1⟩:=one hx
   have hs:0 < fs.size:=by omega
   have:=hy 0 fs[0] (by simp [hs])
   rw [h0] at this
   simp only [List.drop_nil,List.take_nil] at this
   exact Mf this
  case array k e=>
   obtain ⟨xs,n,_,hx,_,hl,hy⟩:=DataW.trod_array hu h
   obtain ⟨q',h0,h1⟩:=one hx
   have:=hy 0 (by omega)
   rw [h0] at this
   simp only [List.drop_nil,List.take_nil] at this
   exact Mf this
  all_goals (cases fuel <;> simp [DataW.trod,hu] at h)
theorem gd {P:Program}{W:World}{fuel t:Nat}{cs:List Value}{d:DataW Unit}{q:List MemPlace}(h:DataW.trod (fun _=>()) P W 0 (fun _=>true) false fuel t cs=some (.ptr d,q)):∃e,P.underlying t=some (.pointer e):=by
 cases hu:P.underlying t with
 |none=>cases fuel <;> simp [DataW.trod,hu] at h
 |some k=>
  cases k
  case pointer e=>exact ⟨e,rfl⟩
  case struct fs=>
   obtain ⟨xs,n,_,hx,_⟩:=DataW.trod_struct hu h
   simp at hx
  case array k e=>
   obtain ⟨xs,n,_,hx,_⟩:=DataW.trod_array hu h
   simp at hx
  case slice e=>
   rcases DataW.trod_slice hu h with ⟨_,hx⟩ | ⟨a,len,cap,elems,rest,n,_,_,hx,_⟩
   ·simp at hx
   ·simp at hx
  all_goals exfalso
  all_goals (cases fuel with
   |zero=>simp [DataW.trod] at h
   |succ n=> ?_)
  all_goals rcases cs with _ | ⟨c,_ | ⟨c2,r⟩⟩
  all_goals try (simp [DataW.trod,hu] at h;done)
  all_goals (cases c <;> try (simp [DataW.trod,hu] at h;done))
  case some.unsafePointer.succ.cons.nil.pointer o=>cases o <;> simp [DataW.trod,hu] at h
  case some.chan.succ.cons.nil.chan o=>cases o <;> simp [DataW.trod,hu] at h
  case some.map.succ.cons.nil.map o=>
   cases o with
   |none=>simp [DataW.trod,hu] at h
   |some b=>
    simp only [DataW.trod,hu] at h
    split at h
    ·split at h
     ·simp only [Option.bind_eq_some_iff] at h
      obtain ⟨en,_,h⟩:=h
      split at h <;> simp at h
     ·cases h
    ·cases h
  case some.interface.succ.cons.nil.iface u v=>
   simp only [DataW.trod,hu] at h
   split at h
   ·simp at h
   ·simp at h
   ·cases h
set_option maxRecDepth 100000 in
theorem Zj {W:World}{nm:String}{g:Nat}{t fuel:Nat}{cs:Array Value}{bs:Lit}{ps:List MemPlace}(hg:Tryz.prog.globalNamed nm=some g)(hv:W.var? Tryz.prog nm=some cs){ms:Array (String×TypeId)}(ht:Tryz.prog.underlying t=some (.interface ms))
  (hd:DataW.trod (fun _=>()) Tryz.prog W 0 (fun _=>true) false fuel t cs.toList=some (.iface ADp (.ptr (.agg [.lit bs])),ps)) :
  ∃ct cf u b o v,W.heap[g]? = some (.cells #[.iface u v] ct cf)∧(v= .pointer (some ⟨b,o,none⟩)∨v= .agg #[.pointer (some ⟨b,o,none⟩)])∧b < W.heap.size:=by
 obtain ⟨ct,cf,hh⟩:=NA hg hv
 obtain ⟨f1,u,v,hcs,hn,h1⟩:=iface_of_trod ht hd
 obtain ⟨e,hp⟩:=gd h1
 obtain ⟨f2,a,cs',q,hvv,hcells,h2,rfl⟩:=ptr_of_trod hp h1
 have hne:=V9 h2
 have hcell:∃c,W.cell? a=some c:=by
  unfold World.cells? at hcells
  split at hcells
  ·have e0:a.add 0=a:=by simp [Addr.add]
   cases hk:Tryz.prog.cellsOf e with
   |zero=>rw [hk] at hcells;simp at hcells;exact absurd hcells hne
   |succ k=>
    rw [hk,List.range_succ_eq_map,List.mapM_cons,e0] at hcells
    cases hq:W.cell? a with
    |none=>simp [hq] at hcells
    |some c=>exact ⟨c,rfl⟩
  ·cases hcells
 obtain ⟨c,hcell⟩:=hcell
 obtain ⟨b,o,s⟩:=a
 have hs:s=none∧b < W.heap.size:=by
  unfold World.cell? at hcell
  split at hcell
  ·rename_i hb
   refine ⟨?_,(Array.getElem?_eq_some_iff.1 hb).1⟩
   cases s with
   |none=>rfl
   |some k=>simp at hcell
  ·cases hcell
 obtain ⟨rfl,hb⟩:=hs
 have hcs2:cs= #[.iface u v]:=by
  apply Array.toList_inj.1
  exact hcs
 rw [hcs2] at hh
 refine ⟨ct,cf,u,b,o,v,hh, ?_,hb⟩
 cases v <;> simp [Value.cells] at hvv
 case pointer p=>left;rw [hvv]
 case agg l=>right;congr 1;exact Array.toList_inj.1 (by simpa using hvv)
set_option maxRecDepth 100000 in
theorem rX {W:World}(h:W.ShapedOpen Tryz.prog):∃m ct,W.heap[1]? = some (.cells #[.int .i64 m] ct (0,0)):=by
 obtain ⟨cs,hh,hs,hr⟩:=h.1 1 #[.int .i64 0] 3 (of_decide_eq_true (by kernel_rfl)) (by kernel_rfl)
 obtain ⟨ts,hts,_,hall⟩:=hr (by kernel_rfl)
 have hct:Tryz.prog.cellTypes Tryz.prog.depth 3=some [3]:=by kernel_rfl
 have hu:Tryz.prog.underlying 3=some (.int .i64):=by kernel_rfl
 rw [hct] at hts
 cases hts
 have h1:0 < cs.size:=by rw [hs];decide
 obtain ⟨u,hu',hok⟩:=hall 0 cs[0] (by simp [h1])
 have:u=3:=by simpa using hu'.symm
 subst this
 unfold Cell.ok at hok
 rw [hu] at hok
 have hsz:cs.size=1:=hs
 have:∃m,cs= #[.int .i64 m]:=by
  cases hv:cs[0] <;> rw [hv] at hok <;> simp at hok
  rename_i k n
  refine ⟨n, ?_⟩
  apply Array.ext
  ·simp [hsz]
  ·intro i h2 h3
   have:i=0:=by omega
   subst this
   rw [hv]
   simp [hok.1]
 obtain ⟨m,rfl⟩:=this
 exact ⟨m,3,hh⟩
theorem B9.name {own:Nat→Prop}{W:World}{φ:Ren}{hp:Hp}{top:Nat}(O:B9 own W φ hp top){L:Go.Dm.Loc}(hb:L.Bi < W.heap.size):B9 own W (φ.ext top L) hp (top+1):=by
 have hle:=Ren.EM (L:=L) (O.top top (Nat.le_refl _))
 have low:∀j o M,hp j=some o→φ.ext top L j=some M→φ j=some M:=by
  intro j o M hj hM
  have:j < top:=O.hr.lt O.top hj
  have hne:¬j=top:=by omega
  simpa [Ren.ext,hne] using hM
 refine ⟨⟨?_, ?_, ?_, ?_,O.hr.fresh⟩, ?_,O.ro⟩
 ·intro j o hj
  obtain ⟨M,m1,m2⟩:=O.hr.obj j o hj
  exact ⟨M,hle _ _ m1,m2.mono hle⟩
 ·intro i j oi oj Li Lj hi hj hne hrw hLi hLj
  exact O.hr.sep i j oi oj Li Lj hi hj hne hrw (low _ _ _ hi hLi) (low _ _ _ hj hLj)
 ·intro i o M hi hrw hM
  exact O.hr.D8 i o M hi hrw (low _ _ _ hi hM)
 ·intro j M hM
  by_cases e:j=top
  ·subst e;rw [Ren.BE] at hM;cases hM;exact hb
  ·have:φ j=some M:=by simpa [Ren.ext,e] using hM
   exact O.hr.val j M this
 ·intro j hj
  have:¬j=top:=by omega
  simp only [Ren.ext,this,if_false]
  exact O.top j (by omega)
theorem B9.var {own:Nat→Prop}{W:World}{φ:Ren}{hp:Hp}{top:Nat}(O:B9 own W φ hp top){g:Nat}{v v':Value}{ct:TypeId}{cf:Nat×Nat}(hg:g < 4096)(hh:W.heap[g]? = some (.cells #[v'] ct cf))(hv:V φ v v') :
  B9 own W (φ.ext top ⟨g,0,Bc+4096+g,1⟩) (hp.I5 top (Ph g v)) (top+1):=
 O.add (L:=⟨g,0,Bc+4096+g,1⟩) (Bp:=Bc+4096+g) (vs:= [v]) (Array.getElem?_eq_some_iff.1 hh).1
  ⟨rfl,_,ct,cf,hh,rfl,by simp, .cons _ _ _ _ hv .nil,⟨fun e=>(by cases e),(fun _ _=>⟨by show g+4096 * 1+Bc=Bc+4096+g;omega,rfl,hg⟩),fun e=>(by cases e)⟩⟩
set_option maxRecDepth 100000 in
theorem VI {W:World}(h:laidMetH Tryz.prog SM W)(hsh:W.ShapedOpen Tryz.prog):∃φ hp,B9 (fun b=>W.heap.size≤b) W φ hp 7∧hp 0=some tzO∧C7 hp:=by
 obtain ⟨φ,hp,O2,ht0,ht1⟩:=Xz (ko h)
 obtain ⟨m,ct,hml⟩:=rX hsh
 have hs:=laidMetH.filter (fun x=>x.1 == "strconv.ErrSyntax" || x.1 == "strconv.ErrRange") h
 have e:SM.filter (fun x=>x.1 == "strconv.ErrSyntax" || x.1 == "strconv.ErrRange")= [("strconv.ErrRange",Rows.laid_strconv_ErrRange),("strconv.ErrSyntax",Rows.laid_strconv_ErrSyntax)]:=by rfl
 rw [e,MakeChecks.laidMetH_plain _ _ _ (by kernel_rfl)] at hs
 obtain ⟨ps,⟨g0,t0,cs0,f0,p0,q0,hg0,htt0,hv0,hd0,⟨g1,t1,cs1,f1,p1,q1,hg1,htt1,hv1,hd1,_,_⟩,_⟩,_⟩:=hs
 have tt1:(Tryz.prog.globals[4]?).map (·.type)=some 38:=by kernel_rfl
 have tt2:(Tryz.prog.globals[3]?).map (·.type)=some 38:=by kernel_rfl
 obtain rfl:=Option.some.inj (zV.symm.trans hg0)
 obtain rfl:=Option.some.inj (ABZ.symm.trans hg1)
 obtain rfl:=Option.some.inj (tt1.symm.trans htt0)
 obtain rfl:=Option.some.inj (tt2.symm.trans htt1)
 obtain ⟨ct0,cf0,u0,b0,o0,v0,k0,w0,l0⟩:=Zj zV hv0 Tryz.underlying38 hd0
 obtain ⟨ct1,cf1,u1,b1,o1,v1,k1,w1,l1⟩:=Zj ABZ hv1 Tryz.underlying38 hd1
 have vOf:∀ {φ:Ren} {i b o:Nat} {v:Value},φ i=some ⟨b,0,0,0⟩→(v= .pointer (some ⟨b,o,none⟩)∨v= .agg #[.pointer (some ⟨b,o,none⟩)])→∃a,V φ a v:=by
  intro φ i b o v hi hv
  have hp:V φ (.pointer (some ⟨i,o,none⟩)) (.pointer (some ⟨b,o,none⟩)):=by
   have:=V.ptr (φ:=φ) i o ⟨b,0,0,0⟩ hi
   simpa using this
  rcases hv with rfl | rfl
  ·exact ⟨_,hp⟩
  ·exact ⟨.agg ⟨[.pointer (some ⟨i,o,none⟩)]⟩, .agg _ _ (.cons _ _ _ _ hp .nil)⟩
 have O3:=B9.var O2 (by decide) hml (.int .i64 m)
 have O4:=B9.name O3 (L:=⟨b1,0,0,0⟩) l1
 obtain ⟨a1,V1⟩:=vOf (Ren.BE _ 3 ⟨b1,0,0,0⟩) w1
 have O5:=B9.var O4 (by decide) k1 (.iface u1 _ _ V1)
 have O6:=B9.name O5 (L:=⟨b0,0,0,0⟩) l0
 obtain ⟨a0,V0⟩:=vOf (Ren.BE _ 5 ⟨b0,0,0,0⟩) w0
 have O7:=B9.var O6 (by decide) k0 (.iface u0 _ _ V0)
 refine ⟨_,_,O7, ?_, ?_,⟨m, ?_⟩,⟨u1,a1, ?_⟩,⟨u0,a0, ?_⟩⟩
 ·simp [Hp.I5,ht0]
 ·simp [Hp.I5,ht1]
 ·simp [Hp.I5]
 ·simp [Hp.I5]
 ·simp [Hp.I5]
theorem mS {hp h:Hp}(e:∀i o,hp i=some o→h i=some o)(hv:C7 hp):C7 h:=by
 obtain ⟨h1,⟨m,h2⟩,⟨t,a,h3⟩,⟨u,b,h4⟩⟩:=hv
 exact ⟨e _ _ h1,⟨m,e _ _ h2⟩,⟨t,a,e _ _ h3⟩,⟨u,b,e _ _ h4⟩⟩
end Go.Proofs.YthlhnangbinhoaaGreatDoor.Dm
