/- The abstract machine, a part of it: operations, regions, code and calls run over values with named blocks; each step is shown of the real run. -/
import Derived.Test.YthlhnangbinhoaaGreatDoorDmH
import Derived.Lib.AppendZerosOnto
import Derived.Lib.Overlaps
import Derived.Laws.Externs
import Derived.WalkKit
import Derived.ArgAppend
import Derived.Shelf.RegionOpenPlain
set_option linter.unusedVariables false
namespace Go.Dm
structure At(B:Nat)(o:Obj)(w w':World):Prop where
 here:w'.heap[B]? = some o
 size:w'.heap.size=w.heap.size
 oth:∀k,k≠B→w'.heap[k]? = w.heap[k]?
 os:w'.os=w.os
 tape:w'.tape=w.tape
 output:w'.output=w.output
end Go.Dm
namespace Go.Dm
theorem HR.heap {φ:Ren}{own:Nat→Prop}{hp:Hp}{w w':World}(h:HR φ own hp w)(e:w'.heap=w.heap):HR φ own hp w':=
 ⟨fun i o hi=>by rw [e];exact h.obj i o hi,h.sep,h.D0,fun i L hi=>by rw [e];exact h.val i L hi,fun b hb=>h.fresh b (by rwa [e] at hb)⟩
def uT{α:Type}(l:List α)(i j:Nat):List α:=l.take i ++ l.drop j
end Go.Dm
namespace Go.Dm
inductive gJ {α:Type} (E:B6 α) (hp:Hp):Value→List α→Prop
 |nil:gJ E hp (.slice none 0 0) []
 |BT (b:Nat) (l:List α) (h:hp b=some (.cells true E.size (E.flat l))) (hn:l.length≤9223372036854775807):gJ E hp (.slice (some ⟨b,0,none⟩) l.length l.length) l
section
variable{α:Type}{E:B6 α}{hp:Hp}{v:Value}{l:List α}
theorem gJ.mono {hp':Hp}(h:gJ E hp v l)(hk:∀b n c,v= .slice (some ⟨b,0,none⟩) n c→hp' b=hp b):gJ E hp' v l:=by
 cases h with
 |nil=>exact .nil
 |BT b l h hn=>exact .BT b l (by rw [hk b _ _ rfl];exact h) hn
end
def v7 (b n:Nat):Value:= .slice (some ⟨b,0,none⟩) n n
def ABd {α:Type}(E:B6 α)(l:List α):Option A8:=some (.cells true E.size (E.flat l))
def uU {α:Type}(v:Value)(l:List α)(i j:Nat):Value:=if i=j then v else match v with
 | .slice (some ⟨b,_,_⟩) _ _=>v7 b (uT l i j).length
 |v=>v
end Go.Dm
