/- Which is ahead, and where it goes: things of api.Arrive. -/
import Derived.Test.YtmppehipfpkepaaC1
set_option linter.unusedSimpArgs false
set_option linter.unusedVariables false
namespace Go.Proofs.Ytmppehipfpkepaa.Dm
open Go.Dm
set_option maxHeartbeats 8000000
set_option maxRecDepth 20000
def cmp_r (a b : T_t124) : Int := cmpK a.at_ a.ticket b.at_ b.ticket
def conPut1_r : Con := .pure (fun args _ => match args with | [.agg ⟨p⟩, .agg ⟨q⟩] => e_t124.enc (e_t124.dec p) = p ∧ e_t124.enc (e_t124.dec q) = q | _ => False) (fun args _ => match args with
  | [.agg ⟨p⟩, .agg ⟨q⟩] => .int .i64 (cmp_r (e_t124.dec p) (e_t124.dec q)) | _ => undef)
theorem put1_r_ok : ConOk Try.prog 58 conPut1_r := by
  refine .mkRd fn58_ok ?_ ?_
  · intro args hp h
    match args, h with
    | [.agg ⟨p⟩, .agg ⟨q⟩], _ => rfl
  intro args hp hpre top hcl hsc
  match args, hpre with
  | [.agg ⟨p⟩, .agg ⟨q⟩], ⟨hx, hy⟩ =>
  generalize e_t124.dec p = x at hx
  generalize e_t124.dec q = y at hy
  subst hx
  subst hy
  simp only [e_t124.h]
  refine CalledOk.of_fun tt_ok fn58_ok rfl 17 rfl [.tmp 4] rfl (show 2 ≤ 17 by decide) ?_
  refine CW.vc env2 [0, 1, 2, 3, 4] (by kernel_rfl) ?_
  have e1 : ∀ {h' : Hp} {b : Nat}, h' b = some (.cells true 1 [.int .i64 (cmpI x.at_ y.at_), .int .i64 (cmpI x.ticket y.ticket)]) → SlP e_int h' (.slice (some ⟨b, 0, none⟩) 2 2) = True := two_P
  have e2 : ∀ {h' : Hp} {b : Nat}, h' b = some (.cells true 1 [.int .i64 (cmpI x.at_ y.at_), .int .i64 (cmpI x.ticket y.ticket)]) → e_int.rd h' (.slice (some ⟨b, 0, none⟩) 2 2) = [cmpI x.at_ y.at_, cmpI x.ticket y.ticket] := two_rd
  have e3 : orF [cmpI x.at_ y.at_, cmpI x.ticket y.ticket] = cmp_r x y := rfl
  (repeat ((try refine Vc.mk' ?_); simp only [go_sem, reduceIte, reduceCtorEq, Nat.reduceAdd, Nat.reduceMul, Nat.reduceSub, Nat.reduceLT, Nat.reduceLeDiff, Nat.reduceEqDiff, Int.reduceEq, Int.reduceLT, Int.reduceLE, Int.reduceNe, G2_cu, G2_ci, conCmp, G2_or, conOr, en_t124, e1, e2, e3]))
def G3_r : FuncId → Con := addG G2 58 conPut1_r
theorem env3_r : EnvV Try.prog tt.get G3_r := env2.add put1_r_ok
/-! ### where it goes -/
end Go.Proofs.Ytmppehipfpkepaa.Dm
