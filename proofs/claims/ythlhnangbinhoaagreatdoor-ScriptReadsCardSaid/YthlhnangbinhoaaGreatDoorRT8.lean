/- What the rows over eight laid variables share: errors.errorType besides. -/
import Derived.Test.YthlhnangbinhoaaGreatDoorRT7
import Derived.Test.YthlhnangbinhoaaGreatDoorTAS
set_option linter.unusedVariables false
namespace Go.Proofs.YthlhnangbinhoaaGreatDoor.Dm
open Go.ChangeShapes Go.WideShapes Go.ChangeAt
open Go.Dm
theorem AEP:Tryz.prog.globalNamed "errors.errorType" = some 0:=by kernel_rfl
theorem gRt:(Tryz.prog.cutTypes.find? (·.1 == "internal/reflectlite.rtype")).map (·.2)=some 150:=by kernel_rfl
theorem szT:Tryz.prog.types.size=291:=by kernel_rfl
theorem pZ:((List.range 291).filter fun t=>Tryz.prog.rowNamed t [101,114,114,111,114])= [38]:=by kernel_rfl
def Ll:List (String×DataW Unit):= [("math/bits.deBruijn32tab",Rows.laid_math_bits_deBruijn32tab),("math/bits.deBruijn64tab",Rows.laid_math_bits_deBruijn64tab),("internal/strconv.uint64pow10",Rows.laid_internal_strconv_uint64pow10),("unicode/utf8.acceptRanges",Rows.laid_unicode_utf8_acceptRanges),("errors.errorType",Rows.laid_errors_errorType),("strconv.ErrRange",Rows.laid_strconv_ErrRange),("strconv.ErrSyntax",Rows.laid_strconv_ErrSyntax),("unicode/utf8.first",Rows.laid_unicode_utf8_first)]
theorem dM (os:Os)(args:Array Value):laidMetH Tryz.prog Ll ((Zb os).forCall (fun _ _=>0) ⟨#[],args, []⟩).memory:=
 laidMetH_of_parts3 (fuel:=8) (laidMet_of_run' 8 (by kernel_rfl) (by kernel_rfl)) (by kernel_rfl) (by kernel_rfl)
set_option maxRecDepth 100000 in
theorem jR {W:World}(h:laidMetH Tryz.prog Ll W):laidMetH Tryz.prog TH W:=by
 have:=laidMetH.filter (fun x=> !(x.1 == "errors.errorType")) h
 have e:Ll.filter (fun x=> !(x.1 == "errors.errorType"))=TH:=by rfl
 rwa [e] at this
set_option maxRecDepth 100000 in
theorem Wo {W:World}(h:laidMetH Tryz.prog Ll W):∃ct cf,W.heap[0]? = some (.cells #[.iface 150 (.agg #[.pointer (some ⟨9,38,none⟩)])] ct cf):=by
 have h1:=(laidMetH_iff.1 h).2
 obtain ⟨name,u,ty,e1,e2,e3,e4,e5⟩:=h1 ("errors.errorType",Rows.laid_errors_errorType) (List.mem_filter.2 ⟨by simp [Ll],by rfl⟩)
 have en:name= [101,114,114,111,114]:=(Option.some.inj e1).symm
 subst en
 obtain rfl:=Option.some.inj (gRt.symm.trans e2)
 have hm:ty∈(List.range 291).filter fun t=>Tryz.prog.rowNamed t [101,114,114,111,114]:=List.mem_filter.2 ⟨List.mem_range.2 (by rw [←szT];exact e3),e4⟩
 rw [pZ] at hm
 obtain rfl:=List.mem_singleton.1 hm
 have hh:typeHandle Tryz.prog 38= .pointer (some ⟨9,38,none⟩):=by kernel_rfl
 rw [hh] at e5
 exact Ng AEP e5
theorem CE.raw {own:Nat→Prop}{W:World}{φ:Ren}{hp:Hp}{top:Nat}(O:CE own W φ hp top){g:Nat}{vs:List Value}{ct:TypeId}{cf:Nat×Nat}(hh:W.heap[g]? = some (.cells ⟨vs⟩ ct cf)) :
  CE own W (φ.ext top ⟨g,0,0,0⟩) (hp.Jb top (.raw g vs)) (top+1):=by
 have hle:=Ren.EZ (L:=⟨g,0,0,0⟩) (O.top top (Nat.le_refl _))
 have hphi:∀j M,φ.ext top ⟨g,0,0,0⟩ j=some M→j≠top→φ j=some M:=fun j M e hj=>by simpa [Ren.ext,hj] using e
 have hupd:∀j o,hp.Jb top (.raw g vs) j=some o→j≠top→hp j=some o:=fun j o e hj=>by simpa [Hp.Jb,hj] using e
 refine ⟨⟨?_, ?_, ?_, ?_,O.hr.fresh⟩, ?_, ?_⟩
 ·intro j oj e
  by_cases hj:j=top
  ·subst hj
   rw [Hp.El] at e;cases e
   exact ⟨_,Ren.A9 ..,rfl,rfl,ct,cf,hh⟩
  ·obtain ⟨M,hM,hk⟩:=O.hr.obj j oj (hupd j oj e hj)
   exact ⟨M,hle _ _ hM,hk.mono hle⟩
 ·intro i j oi oj Li Lj ei ej hij hrw
  exfalso
  by_cases hj:i=top
  ·subst hj;rw [Hp.El] at ei;cases ei;cases hrw
  ·rw [O.ro i oi (hupd i oi ei hj)] at hrw;cases hrw
 ·intro i o M ei hrw
  exfalso
  by_cases hj:i=top
  ·subst hj;rw [Hp.El] at ei;cases ei;cases hrw
  ·rw [O.ro i o (hupd i o ei hj)] at hrw;cases hrw
 ·intro i M e
  by_cases hj:i=top
  ·subst hj;rw [Ren.A9] at e;cases e;exact (Array.getElem?_eq_some_iff.1 hh).1
  ·exact O.hr.val i M (hphi i M e hj)
 ·intro j hj
  have:j≠top:=by omega
  simp only [Ren.ext,this,if_false]
  exact O.top j (by omega)
 ·intro i o e
  by_cases hj:i=top
  ·subst hj;rw [Hp.El] at e;cases e;rfl
  ·exact O.ro i o (hupd i o e hj)
set_option maxRecDepth 100000 in
theorem VD {W:World}(h:laidMetH Tryz.prog Ll W)(hsh:W.ShapedOpen Tryz.prog):∃φ hp,CE (fun b=>W.heap.size≤b) W φ hp 8∧hp 0=some tzO∧C8 hp∧hp 7=oX:=by
 obtain ⟨φ,hp,O,t0,t1⟩:=VC (jR h) hsh
 obtain ⟨ct,cf,hh⟩:=Wo h
 have O8:=CE.raw O hh
 refine ⟨_,_,O8, ?_, ?_, ?_⟩
 ·show (if (0:Nat)=7 then _ else hp 0)=_
  rw [if_neg (by decide)];exact t0
 ·exact fa t1 fun i hi=>by
   show (if i=7 then _ else hp i)=_
   rw [if_neg (by omega)]
 ·exact Hp.El ..
end Go.Proofs.YthlhnangbinhoaaGreatDoor.Dm
