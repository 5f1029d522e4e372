/- place. -/
import Derived.Test.YthpibnpeaidabaaGreatDoorTAS
import Derived.Test.YthpibnpeaidabaaGreatDoorTPA
set_option linter.unusedSimpArgs false
set_option linter.unusedVariables false
namespace Go.Proofs.YthpibnpeaidabaaGreatDoor.Dm
open Go.Dm
set_option maxHeartbeats 16000000
set_option maxRecDepth 20000
def TL (hp:Hp)(e:Nat):Int:=match hp e with | some (.cells _ _ [_, .int _ n])=>n | _=>0
theorem JR {hp:Hp}{e:Nat}{c n:Int}(h:hp e=FZ c n):TL hp e=n:=by unfold TL;rw [h];rfl
def Nt (hp:Hp)(v:Value):Prop:=v= .nilIface∨∃e c n,v= .iface 84 (.pointer (some ⟨e,0,none⟩))∧hp e=FZ c n
def Ej:BO:= .pure (fun args hp=>match args with | [v]=>Nt hp v∧hp 7=gq | _=>False)
 (fun args hp=>match args with | [.iface _ (.pointer (some ⟨e,_,_⟩))]=> .int .i64 (TL hp e) | _=> .int .i64 (-1))
def tB:FuncId→BO:=Bd qk 44 Rj
theorem kq:B9 Tryz.prog tt.get tB:=MT.add pK
theorem kh:tB 44=Rj:=rfl
theorem nq {a:Option Addr}:Hr tt.get 89 (.pointer a)=some (.iface 89 (.pointer a)):=by simp [Hr,NL,W0]
theorem nC {z:Nat}{x:Value}:(∃v,some (A5.cells true z [x])=some (A5.cells true z [v]))=True:=eq_true ⟨_,rfl⟩
theorem Zj:BG Tryz.prog 14 Ej:=by
 refine .HS LP ?_ ?_
 ·intro args hp h
  match args,h with
  | [v],⟨hv,_⟩=>rcases hv with rfl | ⟨e,c,n,rfl,_⟩ <;> rfl
 intro args hp hpre top hcl hsc
 match args,hpre with
 | [v],⟨hv,h7⟩=>
 have h70:=hcl.lt _ _ h7
 rcases hv with rfl | ⟨e,c,n,rfl,he⟩
 ·refine Ab.BF BN LP rfl 20 rfl [.tmp 2] rfl (show 1≤20 by decide) ?_
  refine CW.vc kq [0,2,3,15] (by kernel_rfl) ?_
  (repeat ((try refine Vc.mk' ?_);simp only [go_sem,reduceIte,reduceCtorEq,Nat.reduceAdd,Nat.reduceMul,Nat.reduceSub,Nat.reduceLT,Nat.reduceLeDiff,Nat.reduceEqDiff,Int.reduceEq,Int.reduceLT,Int.reduceLE,Int.reduceNe,kh,Rj,Z5]))
 ·have he0:=hcl.lt _ _ he
  simp only [JR he]
  unfold FZ at he
  refine Ab.BF BN LP rfl 20 rfl [.tmp 2] rfl (show 1≤20 by decide) ?_
  refine CW.vc kq [0,2,3,15] (by kernel_rfl) ?_
  (repeat ((try refine Vc.mk' ?_);simp only [go_sem,reduceIte,reduceCtorEq,Nat.reduceAdd,Nat.reduceMul,Nat.reduceSub,Nat.reduceLT,Nat.reduceLeDiff,Nat.reduceEqDiff,Int.reduceEq,Int.reduceLT,Int.reduceLE,Int.reduceNe,kh,Rj,Vr,he,h7,BI he0,BI h70,nq,nC]))
end Go.Proofs.YthpibnpeaidabaaGreatDoor.Dm
