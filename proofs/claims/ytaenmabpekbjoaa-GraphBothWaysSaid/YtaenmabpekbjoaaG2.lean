/- The document's answer for the graph: what may be; costs. -/
import Derived.Test.YtaenmabpekbjoaaG1
set_option linter.unusedSimpArgs false
set_option linter.unusedVariables false
namespace Go.Proofs.Ytaenmabpekbjoaa.Dm
open Go.Dm
set_option maxHeartbeats 4000000

def G2 := addG G1 31 conMay
theorem env2 : EnvV Try.prog tt.get G2 := env1.add may_ok
theorem G2_may : G2 31 = conMay := rfl
theorem G2_rrouter : G2 40 = con1 routerB := rfl
def stRM (hp : Hp) (top : Nat) (r : T_Record) (k : Nat) : SS :=
  ⟨[(1, .pointer (some ⟨top, 0, none⟩), true), (3, .int .i64 (k : Int), true)], hp.sets [(top, some (.cells true 0 (e_Record.enc r)))], top + 1⟩

theorem rmay_ok : ConOk Try.prog 43 conMay := by
  refine .mkRd fn43_ok ?_ ?_
  · intro args hp h
    match args, h with
    | [.agg ⟨l⟩], _ => rfl
  intro args hp hpre top hcl hsc
  match args, hpre with
  | [.agg ⟨cs⟩], ⟨hc, hP⟩ =>
  obtain ⟨r, rfl⟩ : ∃ r, cs = e_Record.enc r := ⟨_, hc.symm⟩
  rw [e_Record.h] at hP
  obtain ⟨aj, hA⟩ := hP
  have hAs := hA.low hcl
  have hrd : recD hp r = ⟨r.Origin, r.Epoch, r.Seq, r.Claim, r.Ingress, aj⟩ := by unfold recD; rw [hA.rd]
  simp only [e_Record.h, hrd]
  refine CalledOk.of_fun tt_ok fn43_ok rfl 84 rfl [.tmp 2] rfl (show 1 ≤ 84 by decide) ?_
  cases hh : headOk ⟨r.Origin, r.Epoch, r.Seq, r.Claim, r.Ingress, aj⟩ with
  | false =>
    refine CW.vc env2 [0, 1, 2, 3, 4, 34, 39, 83] (by kernel_rfl) ?_
    (simp only [go_sem, reduceIte, reduceCtorEq, Nat.reduceAdd, Nat.reduceMul, Nat.reduceSub, Nat.reduceLT, Nat.reduceLeDiff, Nat.reduceEqDiff, Int.reduceEq, Int.reduceLT, Int.reduceLE, Int.reduceNe, len_sAdj hA, idx_sAdj hA, ld_sAdj hA, sh_sAdj hA, sw_sAdj hA, sf_sAdj_0 hA, sc_sAdj_0 hA, sf_sAdj_1 hA, sc_sAdj_1 hA, hA.P, hA.oc, hA.cl, hA.rd, hA.ref, strip_P hAs, strip_rd hAs, strip_ld hAs, strip_sl hA hAs k_sAdj, G2_rrouter, con1, refOf_v]; repeat (refine Vc.mk' ?_; simp only [go_sem, reduceIte, reduceCtorEq, Nat.reduceAdd, Nat.reduceMul, Nat.reduceSub, Nat.reduceLT, Nat.reduceLeDiff, Nat.reduceEqDiff, Int.reduceEq, Int.reduceLT, Int.reduceLE, Int.reduceNe, len_sAdj hA, idx_sAdj hA, ld_sAdj hA, sh_sAdj hA, sw_sAdj hA, sf_sAdj_0 hA, sc_sAdj_0 hA, sf_sAdj_1 hA, sc_sAdj_1 hA, hA.P, hA.oc, hA.cl, hA.rd, hA.ref, strip_P hAs, strip_rd hAs, strip_ld hAs, strip_sl hA hAs k_sAdj, G2_rrouter, con1, refOf_v]))
    refine condP.mk (fun c => ?_) (fun c => ?_)
    · (simp only [go_sem, reduceIte, reduceCtorEq, Nat.reduceAdd, Nat.reduceMul, Nat.reduceSub, Nat.reduceLT, Nat.reduceLeDiff, Nat.reduceEqDiff, Int.reduceEq, Int.reduceLT, Int.reduceLE, Int.reduceNe, len_sAdj hA, idx_sAdj hA, ld_sAdj hA, sh_sAdj hA, sw_sAdj hA, sf_sAdj_0 hA, sc_sAdj_0 hA, sf_sAdj_1 hA, sc_sAdj_1 hA, hA.P, hA.oc, hA.cl, hA.rd, hA.ref, strip_P hAs, strip_rd hAs, strip_ld hAs, strip_sl hA hAs k_sAdj, G2_rrouter, con1, refOf_v]; repeat (refine Vc.mk' ?_; simp only [go_sem, reduceIte, reduceCtorEq, Nat.reduceAdd, Nat.reduceMul, Nat.reduceSub, Nat.reduceLT, Nat.reduceLeDiff, Nat.reduceEqDiff, Int.reduceEq, Int.reduceLT, Int.reduceLE, Int.reduceNe, len_sAdj hA, idx_sAdj hA, ld_sAdj hA, sh_sAdj hA, sw_sAdj hA, sf_sAdj_0 hA, sc_sAdj_0 hA, sf_sAdj_1 hA, sc_sAdj_1 hA, hA.P, hA.oc, hA.cl, hA.rd, hA.ref, strip_P hAs, strip_rd hAs, strip_ld hAs, strip_sl hA hAs k_sAdj, G2_rrouter, con1, refOf_v]))
      simp [mayR, hh]
    · exfalso
      grind [headOk]
  | true =>
    refine CW.vc env2 [0, 1, 2, 3, 4, 34, 39, 83] (by kernel_rfl) ?_
    (simp only [go_sem, reduceIte, reduceCtorEq, Nat.reduceAdd, Nat.reduceMul, Nat.reduceSub, Nat.reduceLT, Nat.reduceLeDiff, Nat.reduceEqDiff, Int.reduceEq, Int.reduceLT, Int.reduceLE, Int.reduceNe, len_sAdj hA, idx_sAdj hA, ld_sAdj hA, sh_sAdj hA, sw_sAdj hA, sf_sAdj_0 hA, sc_sAdj_0 hA, sf_sAdj_1 hA, sc_sAdj_1 hA, hA.P, hA.oc, hA.cl, hA.rd, hA.ref, strip_P hAs, strip_rd hAs, strip_ld hAs, strip_sl hA hAs k_sAdj, G2_rrouter, con1, refOf_v]; repeat (refine Vc.mk' ?_; simp only [go_sem, reduceIte, reduceCtorEq, Nat.reduceAdd, Nat.reduceMul, Nat.reduceSub, Nat.reduceLT, Nat.reduceLeDiff, Nat.reduceEqDiff, Int.reduceEq, Int.reduceLT, Int.reduceLE, Int.reduceNe, len_sAdj hA, idx_sAdj hA, ld_sAdj hA, sh_sAdj hA, sw_sAdj hA, sf_sAdj_0 hA, sc_sAdj_0 hA, sf_sAdj_1 hA, sc_sAdj_1 hA, hA.P, hA.oc, hA.cl, hA.rd, hA.ref, strip_P hAs, strip_rd hAs, strip_ld hAs, strip_sl hA hAs k_sAdj, G2_rrouter, con1, refOf_v]))
    refine condP.mk (fun c => ?_) (fun c => ?_)
    · exfalso
      grind [headOk]
    · (simp only [go_sem, reduceIte, reduceCtorEq, Nat.reduceAdd, Nat.reduceMul, Nat.reduceSub, Nat.reduceLT, Nat.reduceLeDiff, Nat.reduceEqDiff, Int.reduceEq, Int.reduceLT, Int.reduceLE, Int.reduceNe, len_sAdj hA, idx_sAdj hA, ld_sAdj hA, sh_sAdj hA, sw_sAdj hA, sf_sAdj_0 hA, sc_sAdj_0 hA, sf_sAdj_1 hA, sc_sAdj_1 hA, hA.P, hA.oc, hA.cl, hA.rd, hA.ref, strip_P hAs, strip_rd hAs, strip_ld hAs, strip_sl hA hAs k_sAdj, G2_rrouter, con1, refOf_v]; repeat (refine Vc.mk' ?_; simp only [go_sem, reduceIte, reduceCtorEq, Nat.reduceAdd, Nat.reduceMul, Nat.reduceSub, Nat.reduceLT, Nat.reduceLeDiff, Nat.reduceEqDiff, Int.reduceEq, Int.reduceLT, Int.reduceLE, Int.reduceNe, len_sAdj hA, idx_sAdj hA, ld_sAdj hA, sh_sAdj hA, sw_sAdj hA, sf_sAdj_0 hA, sc_sAdj_0 hA, sf_sAdj_1 hA, sc_sAdj_1 hA, hA.P, hA.oc, hA.cl, hA.rd, hA.ref, strip_P hAs, strip_rd hAs, strip_ld hAs, strip_sl hA hAs k_sAdj, G2_rrouter, con1, refOf_v]))
      have hmay : mayR ⟨r.Origin, r.Epoch, r.Seq, r.Claim, r.Ingress, aj⟩ = adjsOk r.Origin 0 aj := by simp [mayR, hh]
      rw [hmay]
      refine CW.loopR (stRM hp top r) (fun k => k ≤ aj.length ∧ adjsOk r.Origin 0 aj = adjsOk r.Origin (lastOf aj k) (aj.drop k)) (fun k => aj.length - k) 0 ⟨Nat.zero_le _, rfl⟩ ?_ ?_
      · exact SubR.mk' [top] hcl (by simp) (by simp) rfl (frSub_ok (by simp [frSub, lkG, ren, renL, renL_set, renL_ints, UpdOk.nil, UpdOk.cons, renOO_some, renO_cells, renO_map, renOO_mkOb, rn_base, rn_add, ren_mkSl, Enc.flat_ren, set_same, set_ne, sets_cons, sets_nil, Keep.set, Keep.setK, Keep.refl, ren_ref, SRef.ra_id (fun j hj => rn_low hj) hAs, en_Record])) (by simp [frSub, lkG, ren, renL, renL_set, renL_ints, UpdOk.nil, UpdOk.cons, renOO_some, renO_cells, renO_map, renOO_mkOb, rn_base, rn_add, ren_mkSl, Enc.flat_ren, set_same, set_ne, sets_cons, sets_nil, Keep.set, Keep.setK, Keep.refl, ren_ref, SRef.ra_id (fun j hj => rn_low hj) hAs, en_Record]) (by simp [frSub, lkG, ren, renL, renL_set, renL_ints, UpdOk.nil, UpdOk.cons, renOO_some, renO_cells, renO_map, renOO_mkOb, rn_base, rn_add, ren_mkSl, Enc.flat_ren, set_same, set_ne, sets_cons, sets_nil, Keep.set, Keep.setK, Keep.refl, ren_ref, SRef.ra_id (fun j hj => rn_low hj) hAs, en_Record])
      · rintro k ⟨hk, hm⟩
        by_cases hlt : k < aj.length
        · rw [drop_at hlt, adjsOk] at hm
          have hle := hA.le
          by_cases h0 : 0 < k
          · have hst : lastOf aj k = (at' aj (k - 1)).To := by unfold lastOf; rw [if_neg (by omega)]
            have hw : wrapA .i64 ((k : Int) - 1) = ((k - 1 : Nat) : Int) := by rw [wrap64 (by omega) (by omega)]; omega
            have hlk : k - 1 < aj.length := by omega
            have hp1 : (0 : Int) < (k : Int) := by omega
            rw [hst] at hm
            refine CW.vc env2 [0, 1, 2, 3, 4, 34, 39, 83] (by kernel_rfl) ?_
            (simp only [go_sem, reduceIte, reduceCtorEq, Nat.reduceAdd, Nat.reduceMul, Nat.reduceSub, Nat.reduceLT, Nat.reduceLeDiff, Nat.reduceEqDiff, Int.reduceEq, Int.reduceLT, Int.reduceLE, Int.reduceNe, len_sAdj hA, idx_sAdj hA, ld_sAdj hA, sh_sAdj hA, sw_sAdj hA, sf_sAdj_0 hA, sc_sAdj_0 hA, sf_sAdj_1 hA, sc_sAdj_1 hA, hA.P, hA.oc, hA.cl, hA.rd, hA.ref, strip_P hAs, strip_rd hAs, strip_ld hAs, strip_sl hA hAs k_sAdj, G2_rrouter, con1, refOf_v, stRM, hlt, hlk, hw, hp1]; repeat (refine Vc.mk' ?_; simp only [go_sem, reduceIte, reduceCtorEq, Nat.reduceAdd, Nat.reduceMul, Nat.reduceSub, Nat.reduceLT, Nat.reduceLeDiff, Nat.reduceEqDiff, Int.reduceEq, Int.reduceLT, Int.reduceLE, Int.reduceNe, len_sAdj hA, idx_sAdj hA, ld_sAdj hA, sh_sAdj hA, sw_sAdj hA, sf_sAdj_0 hA, sc_sAdj_0 hA, sf_sAdj_1 hA, sc_sAdj_1 hA, hA.P, hA.oc, hA.cl, hA.rd, hA.ref, strip_P hAs, strip_rd hAs, strip_ld hAs, strip_sl hA hAs k_sAdj, G2_rrouter, con1, refOf_v, stRM, hlt, hlk, hw, hp1]))
            refine condP.mk (fun c => ?_) (fun c => ?_)
            · (simp only [go_sem, reduceIte, reduceCtorEq, Nat.reduceAdd, Nat.reduceMul, Nat.reduceSub, Nat.reduceLT, Nat.reduceLeDiff, Nat.reduceEqDiff, Int.reduceEq, Int.reduceLT, Int.reduceLE, Int.reduceNe, len_sAdj hA, idx_sAdj hA, ld_sAdj hA, sh_sAdj hA, sw_sAdj hA, sf_sAdj_0 hA, sc_sAdj_0 hA, sf_sAdj_1 hA, sc_sAdj_1 hA, hA.P, hA.oc, hA.cl, hA.rd, hA.ref, strip_P hAs, strip_rd hAs, strip_ld hAs, strip_sl hA hAs k_sAdj, G2_rrouter, con1, refOf_v]; repeat (refine Vc.mk' ?_; simp only [go_sem, reduceIte, reduceCtorEq, Nat.reduceAdd, Nat.reduceMul, Nat.reduceSub, Nat.reduceLT, Nat.reduceLeDiff, Nat.reduceEqDiff, Int.reduceEq, Int.reduceLT, Int.reduceLE, Int.reduceNe, len_sAdj hA, idx_sAdj hA, ld_sAdj hA, sh_sAdj hA, sw_sAdj hA, sf_sAdj_0 hA, sc_sAdj_0 hA, sf_sAdj_1 hA, sc_sAdj_1 hA, hA.P, hA.oc, hA.cl, hA.rd, hA.ref, strip_P hAs, strip_rd hAs, strip_ld hAs, strip_sl hA hAs k_sAdj, G2_rrouter, con1, refOf_v]))
              have hz : adjsOk r.Origin 0 aj = false := by rw [hm]; grind [costB]
              simp [hz]
            · (simp only [go_sem, reduceIte, reduceCtorEq, Nat.reduceAdd, Nat.reduceMul, Nat.reduceSub, Nat.reduceLT, Nat.reduceLeDiff, Nat.reduceEqDiff, Int.reduceEq, Int.reduceLT, Int.reduceLE, Int.reduceNe, len_sAdj hA, idx_sAdj hA, ld_sAdj hA, sh_sAdj hA, sw_sAdj hA, sf_sAdj_0 hA, sc_sAdj_0 hA, sf_sAdj_1 hA, sc_sAdj_1 hA, hA.P, hA.oc, hA.cl, hA.rd, hA.ref, strip_P hAs, strip_rd hAs, strip_ld hAs, strip_sl hA hAs k_sAdj, G2_rrouter, con1, refOf_v]; repeat (refine Vc.mk' ?_; simp only [go_sem, reduceIte, reduceCtorEq, Nat.reduceAdd, Nat.reduceMul, Nat.reduceSub, Nat.reduceLT, Nat.reduceLeDiff, Nat.reduceEqDiff, Int.reduceEq, Int.reduceLT, Int.reduceLE, Int.reduceNe, len_sAdj hA, idx_sAdj hA, ld_sAdj hA, sh_sAdj hA, sw_sAdj hA, sf_sAdj_0 hA, sc_sAdj_0 hA, sf_sAdj_1 hA, sc_sAdj_1 hA, hA.P, hA.oc, hA.cl, hA.rd, hA.ref, strip_P hAs, strip_rd hAs, strip_ld hAs, strip_sl hA hAs k_sAdj, G2_rrouter, con1, refOf_v]))
              refine .mk (k + 1) ⟨hlt, ?_⟩ (by omega) (SubR.mk' [top] hcl (by simp) (by simp) rfl (frSub_ok (by simp [frSub, lkG, ren, renL, renL_set, renL_ints, UpdOk.nil, UpdOk.cons, renOO_some, renO_cells, renO_map, renOO_mkOb, rn_base, rn_add, ren_mkSl, Enc.flat_ren, set_same, set_ne, sets_cons, sets_nil, Keep.set, Keep.setK, Keep.refl, ren_ref, SRef.ra_id (fun j hj => rn_low hj) hAs, en_Record, wrap_succ hlt hA.le])) (by simp [frSub, lkG, ren, renL, renL_set, renL_ints, UpdOk.nil, UpdOk.cons, renOO_some, renO_cells, renO_map, renOO_mkOb, rn_base, rn_add, ren_mkSl, Enc.flat_ren, set_same, set_ne, sets_cons, sets_nil, Keep.set, Keep.setK, Keep.refl, ren_ref, SRef.ra_id (fun j hj => rn_low hj) hAs, en_Record, wrap_succ hlt hA.le]) (by simp [frSub, lkG, ren, renL, renL_set, renL_ints, UpdOk.nil, UpdOk.cons, renOO_some, renO_cells, renO_map, renOO_mkOb, rn_base, rn_add, ren_mkSl, Enc.flat_ren, set_same, set_ne, sets_cons, sets_nil, Keep.set, Keep.setK, Keep.refl, ren_ref, SRef.ra_id (fun j hj => rn_low hj) hAs, en_Record, wrap_succ hlt hA.le]))
              rw [hm, lastOf_succ]; grind [costB, routerB]
          · have hst : lastOf aj k = 0 := by unfold lastOf; rw [if_pos (by omega)]
            have hp1 : ¬ (0 : Int) < (k : Int) := by omega
            rw [hst] at hm
            refine CW.vc env2 [0, 1, 2, 3, 4, 34, 39, 83] (by kernel_rfl) ?_
            (simp only [go_sem, reduceIte, reduceCtorEq, Nat.reduceAdd, Nat.reduceMul, Nat.reduceSub, Nat.reduceLT, Nat.reduceLeDiff, Nat.reduceEqDiff, Int.reduceEq, Int.reduceLT, Int.reduceLE, Int.reduceNe, len_sAdj hA, idx_sAdj hA, ld_sAdj hA, sh_sAdj hA, sw_sAdj hA, sf_sAdj_0 hA, sc_sAdj_0 hA, sf_sAdj_1 hA, sc_sAdj_1 hA, hA.P, hA.oc, hA.cl, hA.rd, hA.ref, strip_P hAs, strip_rd hAs, strip_ld hAs, strip_sl hA hAs k_sAdj, G2_rrouter, con1, refOf_v, stRM, hlt, hp1]; repeat (refine Vc.mk' ?_; simp only [go_sem, reduceIte, reduceCtorEq, Nat.reduceAdd, Nat.reduceMul, Nat.reduceSub, Nat.reduceLT, Nat.reduceLeDiff, Nat.reduceEqDiff, Int.reduceEq, Int.reduceLT, Int.reduceLE, Int.reduceNe, len_sAdj hA, idx_sAdj hA, ld_sAdj hA, sh_sAdj hA, sw_sAdj hA, sf_sAdj_0 hA, sc_sAdj_0 hA, sf_sAdj_1 hA, sc_sAdj_1 hA, hA.P, hA.oc, hA.cl, hA.rd, hA.ref, strip_P hAs, strip_rd hAs, strip_ld hAs, strip_sl hA hAs k_sAdj, G2_rrouter, con1, refOf_v, stRM, hlt, hp1]))
            refine condP.mk (fun c => ?_) (fun c => ?_)
            · (simp only [go_sem, reduceIte, reduceCtorEq, Nat.reduceAdd, Nat.reduceMul, Nat.reduceSub, Nat.reduceLT, Nat.reduceLeDiff, Nat.reduceEqDiff, Int.reduceEq, Int.reduceLT, Int.reduceLE, Int.reduceNe, len_sAdj hA, idx_sAdj hA, ld_sAdj hA, sh_sAdj hA, sw_sAdj hA, sf_sAdj_0 hA, sc_sAdj_0 hA, sf_sAdj_1 hA, sc_sAdj_1 hA, hA.P, hA.oc, hA.cl, hA.rd, hA.ref, strip_P hAs, strip_rd hAs, strip_ld hAs, strip_sl hA hAs k_sAdj, G2_rrouter, con1, refOf_v]; repeat (refine Vc.mk' ?_; simp only [go_sem, reduceIte, reduceCtorEq, Nat.reduceAdd, Nat.reduceMul, Nat.reduceSub, Nat.reduceLT, Nat.reduceLeDiff, Nat.reduceEqDiff, Int.reduceEq, Int.reduceLT, Int.reduceLE, Int.reduceNe, len_sAdj hA, idx_sAdj hA, ld_sAdj hA, sh_sAdj hA, sw_sAdj hA, sf_sAdj_0 hA, sc_sAdj_0 hA, sf_sAdj_1 hA, sc_sAdj_1 hA, hA.P, hA.oc, hA.cl, hA.rd, hA.ref, strip_P hAs, strip_rd hAs, strip_ld hAs, strip_sl hA hAs k_sAdj, G2_rrouter, con1, refOf_v]))
              have hz : adjsOk r.Origin 0 aj = false := by rw [hm]; grind [costB]
              simp [hz]
            · (simp only [go_sem, reduceIte, reduceCtorEq, Nat.reduceAdd, Nat.reduceMul, Nat.reduceSub, Nat.reduceLT, Nat.reduceLeDiff, Nat.reduceEqDiff, Int.reduceEq, Int.reduceLT, Int.reduceLE, Int.reduceNe, len_sAdj hA, idx_sAdj hA, ld_sAdj hA, sh_sAdj hA, sw_sAdj hA, sf_sAdj_0 hA, sc_sAdj_0 hA, sf_sAdj_1 hA, sc_sAdj_1 hA, hA.P, hA.oc, hA.cl, hA.rd, hA.ref, strip_P hAs, strip_rd hAs, strip_ld hAs, strip_sl hA hAs k_sAdj, G2_rrouter, con1, refOf_v]; repeat (refine Vc.mk' ?_; simp only [go_sem, reduceIte, reduceCtorEq, Nat.reduceAdd, Nat.reduceMul, Nat.reduceSub, Nat.reduceLT, Nat.reduceLeDiff, Nat.reduceEqDiff, Int.reduceEq, Int.reduceLT, Int.reduceLE, Int.reduceNe, len_sAdj hA, idx_sAdj hA, ld_sAdj hA, sh_sAdj hA, sw_sAdj hA, sf_sAdj_0 hA, sc_sAdj_0 hA, sf_sAdj_1 hA, sc_sAdj_1 hA, hA.P, hA.oc, hA.cl, hA.rd, hA.ref, strip_P hAs, strip_rd hAs, strip_ld hAs, strip_sl hA hAs k_sAdj, G2_rrouter, con1, refOf_v]))
              refine .mk (k + 1) ⟨hlt, ?_⟩ (by omega) (SubR.mk' [top] hcl (by simp) (by simp) rfl (frSub_ok (by simp [frSub, lkG, ren, renL, renL_set, renL_ints, UpdOk.nil, UpdOk.cons, renOO_some, renO_cells, renO_map, renOO_mkOb, rn_base, rn_add, ren_mkSl, Enc.flat_ren, set_same, set_ne, sets_cons, sets_nil, Keep.set, Keep.setK, Keep.refl, ren_ref, SRef.ra_id (fun j hj => rn_low hj) hAs, en_Record, wrap_succ hlt hA.le])) (by simp [frSub, lkG, ren, renL, renL_set, renL_ints, UpdOk.nil, UpdOk.cons, renOO_some, renO_cells, renO_map, renOO_mkOb, rn_base, rn_add, ren_mkSl, Enc.flat_ren, set_same, set_ne, sets_cons, sets_nil, Keep.set, Keep.setK, Keep.refl, ren_ref, SRef.ra_id (fun j hj => rn_low hj) hAs, en_Record, wrap_succ hlt hA.le]) (by simp [frSub, lkG, ren, renL, renL_set, renL_ints, UpdOk.nil, UpdOk.cons, renOO_some, renO_cells, renO_map, renOO_mkOb, rn_base, rn_add, ren_mkSl, Enc.flat_ren, set_same, set_ne, sets_cons, sets_nil, Keep.set, Keep.setK, Keep.refl, ren_ref, SRef.ra_id (fun j hj => rn_low hj) hAs, en_Record, wrap_succ hlt hA.le]))
              rw [hm, lastOf_succ]; grind [costB, routerB]
        · have hk2 : k = aj.length := by omega
          subst hk2
          refine CW.vc env2 [0, 1, 2, 3, 4, 34, 39, 83] (by kernel_rfl) ?_
          (simp only [go_sem, reduceIte, reduceCtorEq, Nat.reduceAdd, Nat.reduceMul, Nat.reduceSub, Nat.reduceLT, Nat.reduceLeDiff, Nat.reduceEqDiff, Int.reduceEq, Int.reduceLT, Int.reduceLE, Int.reduceNe, len_sAdj hA, idx_sAdj hA, ld_sAdj hA, sh_sAdj hA, sw_sAdj hA, sf_sAdj_0 hA, sc_sAdj_0 hA, sf_sAdj_1 hA, sc_sAdj_1 hA, hA.P, hA.oc, hA.cl, hA.rd, hA.ref, strip_P hAs, strip_rd hAs, strip_ld hAs, strip_sl hA hAs k_sAdj, G2_rrouter, con1, refOf_v, stRM, Nat.lt_irrefl, decide_false]; repeat (refine Vc.mk' ?_; simp only [go_sem, reduceIte, reduceCtorEq, Nat.reduceAdd, Nat.reduceMul, Nat.reduceSub, Nat.reduceLT, Nat.reduceLeDiff, Nat.reduceEqDiff, Int.reduceEq, Int.reduceLT, Int.reduceLE, Int.reduceNe, len_sAdj hA, idx_sAdj hA, ld_sAdj hA, sh_sAdj hA, sw_sAdj hA, sf_sAdj_0 hA, sc_sAdj_0 hA, sf_sAdj_1 hA, sc_sAdj_1 hA, hA.P, hA.oc, hA.cl, hA.rd, hA.ref, strip_P hAs, strip_rd hAs, strip_ld hAs, strip_sl hA hAs k_sAdj, G2_rrouter, con1, refOf_v, stRM, Nat.lt_irrefl, decide_false]))
          rw [List.drop_length] at hm
          simp [hm, adjsOk]
def G3 := addG G2 43 conMay
theorem env3 : EnvV Try.prog tt.get G3 := env2.add rmay_ok
theorem G3_rmay : G3 43 = conMay := rfl

/-! ### lists of records -/
structure RecsAt (hp : Hp) (n : Nat) (v : Value) (l : List T_Record) : Prop where
  h : SlT e_Record hp v l
  s : Sc n v
  r : ∀ r ∈ l, SlP e_Adj hp r.Adjs.v ∧ Sc n r.Adjs.v
def RecsOk (hp : Hp) (v : Value) : Prop := ∃ l, SlT e_Record hp v l ∧ ∀ r ∈ l, SlP e_Adj hp r.Adjs.v
def recs (hp : Hp) (v : Value) : List RecD := (e_Record.rd hp v).map (recD hp)
theorem RecsAt.of {hp : Hp} {n : Nat} {v : Value} {l : List T_Record} (h : SlT e_Record hp v l) (hr : ∀ r ∈ l, SlP e_Adj hp r.Adjs.v) (hcl : Cl hp n) : RecsAt hp n v l :=
  ⟨h, h.low hcl, fun r m => ⟨hr r m, by obtain ⟨a, ha⟩ := hr r m; exact ha.low hcl⟩⟩
theorem RecsAt.keep {hp h' : Hp} {n : Nat} {v : Value} {l : List T_Record} (H : RecsAt hp n v l) (hk : Keep n [] h' hp) : RecsAt h' n v l :=
  ⟨SlT.keep H.h H.s hk, H.s, fun r m => by
    obtain ⟨⟨a, ha⟩, hs⟩ := H.r r m
    exact ⟨⟨a, SlT.keep ha hs hk⟩, hs⟩⟩
theorem RecsAt.ok {hp h' : Hp} {n : Nat} {v : Value} {l : List T_Record} (H : RecsAt hp n v l) (hk : Keep n [] h' hp) : RecsOk h' v = True :=
  eq_true ⟨l, (H.keep hk).h, fun r m => ((H.keep hk).r r m).1⟩
theorem recD_keep {hp h' : Hp} {n : Nat} {r : T_Record} (hP : SlP e_Adj hp r.Adjs.v) (hs : Sc n r.Adjs.v) (hk : Keep n [] h' hp) : recD h' r = recD hp r := by
  obtain ⟨a, ha⟩ := hP
  unfold recD
  rw [ha.rd, (SlT.keep ha hs hk).rd]
theorem RecsAt.rd {hp h' : Hp} {n : Nat} {v : Value} {l : List T_Record} (H : RecsAt hp n v l) (hk : Keep n [] h' hp) : recs h' v = l.map (recD hp) := by
  unfold recs
  rw [(H.keep hk).h.rd]
  refine List.map_congr_left fun r m => recD_keep (H.r r m).1 (H.r r m).2 hk
end Go.Proofs.Ytaenmabpekbjoaa.Dm
