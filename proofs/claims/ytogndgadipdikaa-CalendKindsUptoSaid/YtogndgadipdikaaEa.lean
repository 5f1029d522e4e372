/- slices.Insert and slices.Delete at things of [2]string. -/
import Derived.Test.YtogndgadipdikaaBa
import Derived.Test.YtogndgadipdikaaJa
import Derived.Test.YtogndgadipdikaaDa
set_option linter.unusedSimpArgs false
set_option linter.unusedVariables false
namespace Go.Proofs.Ytogndgadipdikaa.Dm
open Go.Dm
set_option maxHeartbeats 8000000
set_option maxRecDepth 20000


theorem ins_a_ok : ConOk Try.prog 44 (conIns e_t83 48) := by
  refine ⟨⟨_, fn44_ok.toFTOk⟩, fun args hp top hpre => ?_⟩
  match args, hpre with
  | [v, _, .slice (some ⟨xb, 0, none⟩) 1 1], ⟨l, i, a, h, rfl, hi, hx, hap, hroom⟩ =>
  simp only [intOf_int, Int.toNat_natCast, h.slT.rd, hx, cellsOf_some, e_t83.h]
  by_cases hlt : i < l.length
  · cases h with
    | nil => simp at hlt
    | blk b l hb hn => exact insert_ok ins_shift_a ins_grow_a hb hx hap hlt hroom
  · have hi2 : i = l.length := by omega
    subst hi2
    refine CalledOk.closed fun hcl hsc => ?_
    have hS := h.slT
    have hs := hS.low hcl
    have hne : ¬ (((1 : Nat) : Int) = 0) := by decide
    have hapA : appendA tt.get hp top [70, 70] v (.slice (some ⟨xb, 0, none⟩) 1 1) = some (ownS top (l.length + 1), dropU v ++ [(top, ownO e_t83 (insAt l l.length a))], top + 1) :=
      appendA_ownV k_st83 t_st83 rfl t_t83 rfl rfl h hx hroom
    have hxT : SlT e_t83 hp (.slice (some ⟨xb, 0, none⟩) 1 1) [a] := SlT.one hx
    refine CalledOk.of_fun tt_ok fn44_ok rfl 95 rfl [.tmp 6] rfl (show 3 ≤ 95 by decide) ?_
    refine CW.vc env3_a [0, 1, 2, 6, 7, 8, 9, 16, 22, 31, 68] (by kernel_rfl) ?_
    (simp only [go_sem, reduceIte, reduceCtorEq, Nat.reduceAdd, Nat.reduceMul, Nat.reduceSub, Nat.reduceLT, Nat.reduceLeDiff, Nat.reduceEqDiff, Int.reduceEq, Int.reduceLT, Int.reduceLE, Int.reduceNe, len_st83 hS, idx_st83 hS, ld_st83 hS, sh_st83 hS, sw_st83 hS, sf_st83_0 hS, sc_st83_0 hS, sf_st83_1 hS, sc_st83_1 hS, sf_st83_2 hS, hS.P, hS.oc, hS.cl, hS.rd, hS.ref, strip_P hs, strip_rd hs, strip_ld hs, strip_sl hS hs k_st83, len_st83 hxT, idx_st83 hxT, ld_st83 hxT, sh_st83 hxT, sw_st83 hxT, sf_st83_0 hxT, sc_st83_0 hxT, sf_st83_1 hxT, sc_st83_1 hxT, sf_st83_2 hxT, hxT.P, hxT.oc, hxT.cl, hxT.rd, hxT.ref, hne, hapA]; repeat (refine Vc.mk' ?_; simp only [go_sem, reduceIte, reduceCtorEq, Nat.reduceAdd, Nat.reduceMul, Nat.reduceSub, Nat.reduceLT, Nat.reduceLeDiff, Nat.reduceEqDiff, Int.reduceEq, Int.reduceLT, Int.reduceLE, Int.reduceNe, len_st83 hS, idx_st83 hS, ld_st83 hS, sh_st83 hS, sw_st83 hS, sf_st83_0 hS, sc_st83_0 hS, sf_st83_1 hS, sc_st83_1 hS, sf_st83_2 hS, hS.P, hS.oc, hS.cl, hS.rd, hS.ref, strip_P hs, strip_rd hs, strip_ld hs, strip_sl hS hs k_st83, len_st83 hxT, idx_st83 hxT, ld_st83 hxT, sh_st83 hxT, sw_st83 hxT, sf_st83_0 hxT, sc_st83_0 hxT, sf_st83_1 hxT, sc_st83_1 hxT, sf_st83_2 hxT, hxT.P, hxT.oc, hxT.cl, hxT.rd, hxT.ref, hne, hapA]))
    exact ⟨rfl, rfl, rfl⟩
theorem nop_a : DelNop Try.prog 46 := by
  intro base n c i w hin hnc
  have hb2 : (i : Int) ≤ (n : Int) := by omega
  have hb3 : (n : Int) ≤ (c : Int) := by omega
  go_enter Try.func46, Try.ntmps46
  go_wp2
  all_goals (go_ret; exact ⟨rfl, rfl⟩)

theorem del_a_ok : ConOk Try.prog 46 (conDel e_t83) := del_con fn46_ok del_a nop_a
def G4_a : FuncId → Con := addG (addG (addG G3_a 42 conBs_a) 44 (conIns e_t83 48)) 46 (conDel e_t83)
theorem env4_a : EnvV Try.prog tt.get G4_a := ((env3_a.add bs_a_ok).add ins_a_ok).add del_a_ok
theorem G4_a_bs : G4_a 42 = conBs_a := rfl
theorem G4_a_ins : G4_a 44 = conIns e_t83 48 := rfl
theorem G4_a_del : G4_a 46 = conDel e_t83 := rfl
end Go.Proofs.Ytogndgadipdikaa.Dm
