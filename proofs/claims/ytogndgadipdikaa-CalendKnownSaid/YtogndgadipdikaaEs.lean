/- slices.Insert and slices.Delete at things of string. -/
import Derived.Test.YtogndgadipdikaaBs
import Derived.Test.YtogndgadipdikaaJs
import Derived.Test.YtogndgadipdikaaDs
set_option linter.unusedSimpArgs false
set_option linter.unusedVariables false
namespace Go.Proofs.Ytogndgadipdikaa.Dm
open Go.Dm
set_option maxHeartbeats 8000000
set_option maxRecDepth 20000


theorem ins_s_ok : ConOk Try.prog 58 (conIns e_t96 32) := by
  refine ⟨⟨_, fn58_ok.toFTOk⟩, fun args hp top hpre => ?_⟩
  match args, hpre with
  | [v, _, .slice (some ⟨xb, 0, none⟩) 1 1], ⟨l, i, a, h, rfl, hi, hx, hap, hroom⟩ =>
  simp only [intOf_int, Int.toNat_natCast, h.slT.rd, hx, cellsOf_some, e_t96.h]
  by_cases hlt : i < l.length
  · cases h with
    | nil => simp at hlt
    | blk b l hb hn => exact insert_ok ins_shift_s ins_grow_s hb hx hap hlt hroom
  · have hi2 : i = l.length := by omega
    subst hi2
    refine CalledOk.closed fun hcl hsc => ?_
    have hS := h.slT
    have hs := hS.low hcl
    have hne : ¬ (((1 : Nat) : Int) = 0) := by decide
    have hapA : appendA tt.get hp top [64, 64] v (.slice (some ⟨xb, 0, none⟩) 1 1) = some (ownS top (l.length + 1), dropU v ++ [(top, ownO e_t96 (insAt l l.length a))], top + 1) :=
      appendA_ownV k_st96 t_st96 rfl t_t96 rfl rfl h hx hroom
    have hxT : SlT e_t96 hp (.slice (some ⟨xb, 0, none⟩) 1 1) [a] := SlT.one hx
    refine CalledOk.of_fun tt_ok fn58_ok rfl 95 rfl [.tmp 6] rfl (show 3 ≤ 95 by decide) ?_
    refine CW.vc env3_s [0, 1, 2, 6, 7, 8, 9, 16, 22, 31, 68] (by kernel_rfl) ?_
    (simp only [go_sem, reduceIte, reduceCtorEq, Nat.reduceAdd, Nat.reduceMul, Nat.reduceSub, Nat.reduceLT, Nat.reduceLeDiff, Nat.reduceEqDiff, Int.reduceEq, Int.reduceLT, Int.reduceLE, Int.reduceNe, len_st96 hS, idx_st96 hS, ld_st96 hS, sh_st96 hS, sw_st96 hS, sf_st96_0 hS, sc_st96_0 hS, sf_st96_1 hS, sc_st96_1 hS, sf_st96_2 hS, sc_st96_2 hS, hS.P, hS.oc, hS.cl, hS.rd, hS.ref, strip_P hs, strip_rd hs, strip_ld hs, strip_sl hS hs k_st96, len_st96 hxT, idx_st96 hxT, ld_st96 hxT, sh_st96 hxT, sw_st96 hxT, sf_st96_0 hxT, sc_st96_0 hxT, sf_st96_1 hxT, sc_st96_1 hxT, sf_st96_2 hxT, sc_st96_2 hxT, hxT.P, hxT.oc, hxT.cl, hxT.rd, hxT.ref, hne, hapA]; repeat (refine Vc.mk' ?_; simp only [go_sem, reduceIte, reduceCtorEq, Nat.reduceAdd, Nat.reduceMul, Nat.reduceSub, Nat.reduceLT, Nat.reduceLeDiff, Nat.reduceEqDiff, Int.reduceEq, Int.reduceLT, Int.reduceLE, Int.reduceNe, len_st96 hS, idx_st96 hS, ld_st96 hS, sh_st96 hS, sw_st96 hS, sf_st96_0 hS, sc_st96_0 hS, sf_st96_1 hS, sc_st96_1 hS, sf_st96_2 hS, sc_st96_2 hS, hS.P, hS.oc, hS.cl, hS.rd, hS.ref, strip_P hs, strip_rd hs, strip_ld hs, strip_sl hS hs k_st96, len_st96 hxT, idx_st96 hxT, ld_st96 hxT, sh_st96 hxT, sw_st96 hxT, sf_st96_0 hxT, sc_st96_0 hxT, sf_st96_1 hxT, sc_st96_1 hxT, sf_st96_2 hxT, sc_st96_2 hxT, hxT.P, hxT.oc, hxT.cl, hxT.rd, hxT.ref, hne, hapA]))
    exact ⟨rfl, rfl, rfl⟩
theorem nop_s : DelNop Try.prog 55 := by
  intro base n c i w hin hnc
  have hb2 : (i : Int) ≤ (n : Int) := by omega
  have hb3 : (n : Int) ≤ (c : Int) := by omega
  go_enter Try.func55, Try.ntmps55
  go_wp2
  all_goals (go_ret; exact ⟨rfl, rfl⟩)

theorem del_s_ok : ConOk Try.prog 55 (conDel e_t96) := del_con fn55_ok del_s nop_s
def G4_s : FuncId → Con := addG (addG (addG G3_s 56 conBs_s) 58 (conIns e_t96 32)) 55 (conDel e_t96)
theorem env4_s : EnvV Try.prog tt.get G4_s := ((env3_s.add bs_s_ok).add ins_s_ok).add del_s_ok
theorem G4_s_bs : G4_s 56 = conBs_s := rfl
theorem G4_s_ins : G4_s 58 = conIns e_t96 32 := rfl
theorem G4_s_del : G4_s 55 = conDel e_t96 := rfl
end Go.Proofs.Ytogndgadipdikaa.Dm
