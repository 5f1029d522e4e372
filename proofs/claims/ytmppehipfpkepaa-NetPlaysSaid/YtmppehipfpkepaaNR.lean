/- What the rows of this seat share. -/
import Derived.Test.YtmppehipfpkepaaRows
import Derived.Test.YtmppehipfpkepaaNU
import Derived.WalkKit
import Derived.ProofKit
import Derived.OpenShut
import Derived.SizedLaws
set_option linter.unusedVariables false
namespace Go.Proofs.Ytmppehipfpkepaa.Dm
open Go.ChangeShapes Go.WideShapes Go.ChangeAt
open Go.Dm
theorem cN {H:Type}{enc:TypeId×Value→H}{P:Program}{f:Func}{s:ChangeSpec}{apart fresh handsOn:Bool}{W W':World}{args:Array Value}{v:Value}{ds gs:List (DataW H)}{before pa pv:List MemPlace}
  (hW:DataW.Whole enc P f.params.toList s.vars apart W args.toList ds gs before)
  (hres:∀(b:Nat) (sp:Nat→Bool) (hd:Bool),DataW.TrodAll enc P W' b sp hd f.resultTypes.toList (v.resultList f.resultTypes.size) (s.fn H (ds ++ gs)).results [])
  (hargs:∀sp:Nat→Bool,(∀p∈before,sp p.block=true)→DataW.TrodAll enc P W' 0 sp true f.params.toList args.toList (s.fn H (ds ++ gs)).args pa)
  (hvars:∀sp:Nat→Bool,(∀p∈before,sp p.block=true)→DataW.TrodVars enc P W' sp s.vars (s.fn H (ds ++ gs)).vars pv)
  (hps:before=pa ++ pv) (hk:W.keptBut W' (· ∈before)):s.post enc P f apart fresh handsOn false W args v W':=by
 have hold:∀p∈before,(fun b=>decide (b < W.heap.size)) p.block=true:=fun p hp=>by simpa using hW.lt p hp
 refine ⟨ds,gs,before, [],pa,pv,hW,hres _ _ _,hargs _ hold,hvars _ hold,World.keptBut_mono (fun p hp=>⟨hp, ?_⟩) hk,fun h=>by cases h⟩
 rw [hps,List.mem_append] at hp
 exact Or.inr hp
/-- what a law that holds hands back,and leaves -/
def eV (W:World)(e:Ending)(w':World):Prop:=e= .returned (.bool true)∧Go.RowKit.Below W.heap.size W w'
theorem qf {P:Program}{f:FuncId}{args:List Value}{hp:Hp}{top:Nat}{p:Value→Hp→Nat→Prop}(hw:AL P f args hp top fun v hp' top'=>v= .bool true∧p v hp' top'){φ:Ren}{W:World}{args':List Value}(hV:Vs φ args args')(O:Gm (fun b=>W.heap.size≤b) W φ hp top) :
  Calls P f ⟨args'⟩ W (eV W):=by
 refine Calls.mono (hw φ _ W args' hV O.hr O.top) fun e w' hh=> ?_
 obtain ⟨r,hp',top',v',φ',rfl,⟨rfl,_⟩,Wk⟩:=hh
 have:=Wk.v.GX
 subst this
 exact ⟨rfl,⟨Wk.k.os,Wk.k.tape,Wk.k.output,Wk.k.size,fun b hb=>Wk.k.same b hb (by omega)⟩⟩
end Go.Proofs.Ytmppehipfpkepaa.Dm
