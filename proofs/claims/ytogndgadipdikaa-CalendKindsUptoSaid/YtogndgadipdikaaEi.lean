/- slices.Insert and slices.Delete at things of int. -/
import Derived.Test.YtogndgadipdikaaBi
import Derived.Test.YtogndgadipdikaaJi
import Derived.Test.YtogndgadipdikaaDi
set_option linter.unusedSimpArgs false
set_option linter.unusedVariables false
namespace Go.Proofs.Ytogndgadipdikaa.Dm
open Go.Dm
set_option maxHeartbeats 8000000
set_option maxRecDepth 20000


theorem ins_i_ok : ConOk Try.prog 40 (conIns e_t74 24) := by
  refine ⟨⟨_, fn40_ok.toFTOk⟩, fun args hp top hpre => ?_⟩
  match args, hpre with
  | [v, _, .slice (some ⟨xb, 0, none⟩) 1 1], ⟨l, i, a, h, rfl, hi, hx, hap, hroom⟩ =>
  simp only [intOf_int, Int.toNat_natCast, h.slT.rd, hx, cellsOf_some, e_t74.h]
  by_cases hlt : i < l.length
  · cases h with
    | nil => simp at hlt
    | blk b l hb hn => exact insert_ok ins_shift_i ins_grow_i hb hx hap hlt hroom
  · have hi2 : i = l.length := by omega
    subst hi2
    refine CalledOk.closed fun hcl hsc => ?_
    have hS := h.slT
    have hs := hS.low hcl
    have hne : ¬ (((1 : Nat) : Int) = 0) := by decide
    have hapA : appendA tt.get hp top [67, 67] v (.slice (some ⟨xb, 0, none⟩) 1 1) = some (ownS top (l.length + 1), dropU v ++ [(top, ownO e_t74 (insAt l l.length a))], top + 1) :=
      appendA_ownV k_st74 t_st74 rfl t_t74 rfl rfl h hx hroom
    have hxT : SlT e_t74 hp (.slice (some ⟨xb, 0, none⟩) 1 1) [a] := SlT.one hx
    refine CalledOk.of_fun tt_ok fn40_ok rfl 95 rfl [.tmp 6] rfl (show 3 ≤ 95 by decide) ?_
    refine CW.vc env3_i [0, 1, 2, 6, 7, 8, 9, 16, 22, 31, 68] (by kernel_rfl) ?_
    (simp only [go_sem, reduceIte, reduceCtorEq, Nat.reduceAdd, Nat.reduceMul, Nat.reduceSub, Nat.reduceLT, Nat.reduceLeDiff, Nat.reduceEqDiff, Int.reduceEq, Int.reduceLT, Int.reduceLE, Int.reduceNe, len_st74 hS, idx_st74 hS, ld_st74 hS, sh_st74 hS, sw_st74 hS, sf_st74_0 hS, sc_st74_0 hS, sf_st74_1 hS, sc_st74_1 hS, sf_st74_2 hS, sc_st74_2 hS, hS.P, hS.oc, hS.cl, hS.rd, hS.ref, strip_P hs, strip_rd hs, strip_ld hs, strip_sl hS hs k_st74, len_st74 hxT, idx_st74 hxT, ld_st74 hxT, sh_st74 hxT, sw_st74 hxT, sf_st74_0 hxT, sc_st74_0 hxT, sf_st74_1 hxT, sc_st74_1 hxT, sf_st74_2 hxT, sc_st74_2 hxT, hxT.P, hxT.oc, hxT.cl, hxT.rd, hxT.ref, hne, hapA]; repeat (refine Vc.mk' ?_; simp only [go_sem, reduceIte, reduceCtorEq, Nat.reduceAdd, Nat.reduceMul, Nat.reduceSub, Nat.reduceLT, Nat.reduceLeDiff, Nat.reduceEqDiff, Int.reduceEq, Int.reduceLT, Int.reduceLE, Int.reduceNe, len_st74 hS, idx_st74 hS, ld_st74 hS, sh_st74 hS, sw_st74 hS, sf_st74_0 hS, sc_st74_0 hS, sf_st74_1 hS, sc_st74_1 hS, sf_st74_2 hS, sc_st74_2 hS, hS.P, hS.oc, hS.cl, hS.rd, hS.ref, strip_P hs, strip_rd hs, strip_ld hs, strip_sl hS hs k_st74, len_st74 hxT, idx_st74 hxT, ld_st74 hxT, sh_st74 hxT, sw_st74 hxT, sf_st74_0 hxT, sc_st74_0 hxT, sf_st74_1 hxT, sc_st74_1 hxT, sf_st74_2 hxT, sc_st74_2 hxT, hxT.P, hxT.oc, hxT.cl, hxT.rd, hxT.ref, hne, hapA]))
    exact ⟨rfl, rfl, rfl⟩
theorem nop_i : DelNop Try.prog 45 := by
  intro base n c i w hin hnc
  have hb2 : (i : Int) ≤ (n : Int) := by omega
  have hb3 : (n : Int) ≤ (c : Int) := by omega
  go_enter Try.func45, Try.ntmps45
  go_wp2
  all_goals (go_ret; exact ⟨rfl, rfl⟩)

theorem del_i_ok : ConOk Try.prog 45 (conDel e_t74) := del_con fn45_ok del_i nop_i
def G4_i : FuncId → Con := addG (addG (addG G3_i 35 conBs_i) 40 (conIns e_t74 24)) 45 (conDel e_t74)
theorem env4_i : EnvV Try.prog tt.get G4_i := ((env3_i.add bs_i_ok).add ins_i_ok).add del_i_ok
theorem G4_i_bs : G4_i 35 = conBs_i := rfl
theorem G4_i_ins : G4_i 40 = conIns e_t74 24 := rfl
theorem G4_i_del : G4_i 45 = conDel e_t74 := rfl
end Go.Proofs.Ytogndgadipdikaa.Dm
