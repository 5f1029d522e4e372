/- slices.Insert and slices.Delete at things of api.Arrive. -/
import Derived.Test.YtmppehipfpkepaaBr
import Derived.Test.YtmppehipfpkepaaJr
import Derived.Test.YtmppehipfpkepaaDr
set_option linter.unusedSimpArgs false
set_option linter.unusedVariables false
namespace Go.Proofs.Ytmppehipfpkepaa.Dm
open Go.Dm
set_option maxHeartbeats 8000000
set_option maxRecDepth 20000
theorem ins_r_ok : ConOk Try.prog 62 (conIns e_t124 48) := by
  refine ⟨⟨_, fn62_ok.toFTOk⟩, fun args hp top hpre => ?_⟩
  match args, hpre with
  | [v, _, .slice (some ⟨xb, 0, none⟩) 1 1], ⟨l, i, a, h, rfl, hi, hx, hap, hroom⟩ =>
  simp only [intOf_int, Int.toNat_natCast, h.slT.rd, hx, cellsOf_some, e_t124.h]
  by_cases hlt : i < l.length
  · cases h with
    | nil => simp at hlt
    | blk b l hb hn => exact insert_ok ins_shift_r ins_grow_r hb hx hap hlt hroom
  · have hi2 : i = l.length := by omega
    subst hi2
    refine CalledOk.closed fun hcl hsc => ?_
    have hS := h.slT
    have hs := hS.low hcl
    have hne : ¬ (((1 : Nat) : Int) = 0) := by decide
    have hapA : appendA tt.get hp top [114, 114] v (.slice (some ⟨xb, 0, none⟩) 1 1) = some (ownS top (l.length + 1), dropU v ++ [(top, ownO e_t124 (insAt l l.length a))], top + 1) :=
      appendA_ownV k_st124 t_st124 rfl t_t124 rfl rfl h hx hroom
    have hxT : SlT e_t124 hp (.slice (some ⟨xb, 0, none⟩) 1 1) [a] := SlT.one hx
    refine CalledOk.of_fun tt_ok fn62_ok rfl 95 rfl [.tmp 6] rfl (show 3 ≤ 95 by decide) ?_
    refine CW.vc env3_r [0, 1, 2, 6, 7, 8, 9, 16, 22, 31, 68] (by kernel_rfl) ?_
    (repeat ((try refine Vc.mk' ?_); simp only [go_sem, reduceIte, reduceCtorEq, Nat.reduceAdd, Nat.reduceMul, Nat.reduceSub, Nat.reduceLT, Nat.reduceLeDiff, Nat.reduceEqDiff, Int.reduceEq, Int.reduceLT, Int.reduceLE, Int.reduceNe, len_st124 hS, idx_st124 hS, ld_st124 hS, sh_st124 hS, sw_st124 hS, sf_st124_0 hS, sc_st124_0 hS, sf_st124_1 hS, sc_st124_1 hS, sf_st124_2 hS, hS.P, hS.oc, hS.cl, hS.rd, hS.ref, strip_P hs, strip_rd hs, strip_ld hs, strip_sl hS hs k_st124, len_st124 hxT, idx_st124 hxT, ld_st124 hxT, sh_st124 hxT, sw_st124 hxT, sf_st124_0 hxT, sc_st124_0 hxT, sf_st124_1 hxT, sc_st124_1 hxT, sf_st124_2 hxT, hxT.P, hxT.oc, hxT.cl, hxT.rd, hxT.ref, hne, hapA]))
    exact ⟨rfl, rfl, rfl⟩
theorem nop_r : DelNop Try.prog 63 := by
  intro base n c i w hin hnc
  have hb2 : (i : Int) ≤ (n : Int) := by omega
  have hb3 : (n : Int) ≤ (c : Int) := by omega
  go_enter Try.func63, Try.ntmps63
  go_wp2
  all_goals (go_ret; exact ⟨rfl, rfl⟩)
theorem del_r_ok : ConOk Try.prog 63 (conDel e_t124) := del_con fn63_ok del_r nop_r
end Go.Proofs.Ytmppehipfpkepaa.Dm
