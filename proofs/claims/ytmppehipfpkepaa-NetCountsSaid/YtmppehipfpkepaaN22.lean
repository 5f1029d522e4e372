/- The net: what Cut and Stop leave is a net. -/
import Derived.Test.YtmppehipfpkepaaN21
set_option linter.unusedSimpArgs false
set_option linter.unusedVariables false
namespace Go.Proofs.Ytmppehipfpkepaa.Dm
open Go.Dm
set_option maxHeartbeats 8000000
def cutS (s : NetS) (a b : Int) : NetS := if cutE s a b = 0 then lostS (cutC s a b) else s
def stopS (s : NetS) (a : Int) : NetS := if stopE s a = 0 then lostS (stopC s a) else s
def cutW (lv : Value) (s : NetS) (a b : Int) : Value := if cutE s a b = 0 then dfV lv (lostS (cutC s a b)).l else lv
def stopW (lv : Value) (s : NetS) (a : Int) : Value := if stopE s a = 0 then dfV lv (lostS (stopC s a)).l else lv
theorem NetAt.cut {hp : Hp} {n top : Nat} {lv : Value} {s : NetS} (h : NetAt hp n lv s) (h8 : n + 7 < top) (lvs : Sc top lv) (a b : Int) : NetAt (hp.sets (cutRes n lv s a b top).2.1) n (cutW lv s a b) (cutS s a b) := by
  unfold cutRes cutS cutW
  split
  · exact (h.setC (cutC s a b).C (cutC s a b).cc).lost h8 lvs
  · exact h
theorem NetAt.stop {hp : Hp} {n top : Nat} {lv : Value} {s : NetS} (h : NetAt hp n lv s) (h8 : n + 7 < top) (lvs : Sc top lv) (a : Int) : NetAt (hp.sets (stopRes n lv s a top).2.1) n (stopW lv s a) (stopS s a) := by
  unfold stopRes stopS stopW
  split
  · exact (h.setS (stopC s a).S (stopC s a).sc).lost h8 lvs
  · exact h
end Go.Proofs.Ytmppehipfpkepaa.Dm
