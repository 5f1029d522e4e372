/- A calendar of api.Arrive: New, Len, Next, Take. -/
import Derived.Test.YtmppehipfpkepaaPr
set_option linter.unusedSimpArgs false
set_option linter.unusedVariables false
namespace Go.Proofs.Ytmppehipfpkepaa.Dm
open Go.Dm
set_option maxHeartbeats 8000000
set_option maxRecDepth 20000
def conNew_r : Con := .det (fun args _ _ => args = []) (fun _ _ top => (.pointer (some ⟨top, 0, none⟩), [(top, some (.cells true 0 [.bool true, .int .i64 0, .slice none 0 0]))], top + 1))
theorem new_r_ok : ConOk Try.prog 41 conNew_r := by
  refine .mkDet fn41_ok ?_
  intro args hp top hpre hcl hsc
  subst hpre
  refine CalledOk.of_fun tt_ok fn41_ok rfl 3 rfl [.tmp 0] rfl (show 0 ≤ 3 by decide) ?_
  refine CW.vc env5_r [0] (by kernel_rfl) ?_
  (repeat ((try refine Vc.mk' ?_); simp only [go_sem, reduceIte, reduceCtorEq, Nat.reduceAdd, Nat.reduceMul, Nat.reduceSub, Nat.reduceLT, Nat.reduceLeDiff, Nat.reduceEqDiff, Int.reduceEq, Int.reduceLT, Int.reduceLE, Int.reduceNe]))
  (refine ⟨[top], by simp, by simp, by simp, ?_, ?_, ?_⟩ <;> simp [frSub, lkG, ren, renL, renL_set, renL_ints, UpdOk.nil, UpdOk.cons, renOO_some, renO_cells, renO_map, renOO_mkOb, rn_base, rn_add, ren_mkSl, Enc.flat_ren, set_same, set_ne, sets_cons, sets_nil, Keep.set, Keep.setK, Keep.refl, rm_m_int_bool, rm_m_message_Rule, rm_m_pair_bool, rm_m_pair_int])
def LenPre_r (hp : Hp) (cb : Nat) : Prop := ∃ last lv l, CalAt_r hp cb last lv l
def conLen_r : Con := .pure (fun args hp => match args with | [.pointer (some ⟨cb, 0, none⟩)] => LenPre_r hp cb | _ => False) (fun args hp => match args with
  | [.pointer (some ⟨cb, _, _⟩)] => .int .i64 ((e_t124.rd hp (calL hp cb)).length : Int) | _ => undef)
theorem len_r_ok : ConOk Try.prog 32 conLen_r := by
  refine .mkRd fn32_ok ?_ ?_
  · intro args hp h
    match args, h with
    | [.pointer (some ⟨cb, 0, none⟩)], _ => rfl
  intro args hp hpre top hcl hsc
  match args, hpre with
  | [.pointer (some ⟨cb, 0, none⟩)], ⟨last, lv, l, C⟩ =>
  have hh := C.h
  have hS := C.o.slT
  have lvs := C.low hcl
  have hic : ∀ {h' : Hp}, h' cb = some (.cells true 0 [.bool true, .int .i64 last, lv]) → IsCal h' cb = True := fun h => eq_true ⟨_, _, _, h⟩
  simp only [calL, hh, cellsOf_some, List.getElem?_cons_succ, List.getElem?_cons_zero, Option.getD_some, hS.rd]
  refine CalledOk.of_fun tt_ok fn32_ok rfl 10 rfl [.tmp 2] rfl (show 1 ≤ 10 by decide) ?_
  refine CW.vc env5_r [0, 2, 4] (by kernel_rfl) ?_
  (repeat ((try refine Vc.mk' ?_); simp only [go_sem, reduceIte, reduceCtorEq, Nat.reduceAdd, Nat.reduceMul, Nat.reduceSub, Nat.reduceLT, Nat.reduceLeDiff, Nat.reduceEqDiff, Int.reduceEq, Int.reduceLT, Int.reduceLE, Int.reduceNe, G5_r_none, conNone_r, List.headD_cons, hh, hic, len_st124 hS, idx_st124 hS, ld_st124 hS, sh_st124 hS, sw_st124 hS, sf_st124_0 hS, sc_st124_0 hS, sf_st124_1 hS, sc_st124_1 hS, sf_st124_2 hS, hS.P, hS.oc, hS.cl, hS.rd, hS.ref, strip_P lvs, strip_rd lvs, strip_ld lvs, strip_sl hS lvs k_st124]))
def val_r (a : T_t124) : T_Arrive := ⟨a.v_From, a.v_To, a.v_Bytes⟩
def kF_r (l : List T_t124) (now : Int) : Nat := (l.takeWhile fun a => decide (a.at_ ≤ now)).length
def outs_r (l : List T_t124) (k : Nat) : List (T_Arrive) := (l.take k).map val_r
theorem kF_r_le (l : List T_t124) (now : Int) : kF_r l now ≤ l.length := (List.takeWhile_sublist _).length_le
def takeRes_r (cb : Nat) (last : Int) (lv : Value) (l : List T_t124) (k : Nat) (top : Nat) : Value × Upds × Nat :=
  (mkSl top (outs_r l k), (cb, some (.cells true 0 [.bool true, .int .i64 last, cutV lv l 0 k])) :: (top, mkOb e_Arrive (outs_r l k)) :: cutU e_t124 lv l 0 k, top + 1)
def TakePre_r (hp : Hp) (cb : Nat) (a : Value) : Prop := (∃ last lv l, CalAt_r hp cb last lv l) ∧ IsI .u64 a
def conTake_r : Con := .det (fun args hp _ => match args with | [.pointer (some ⟨cb, 0, none⟩), a] => TakePre_r hp cb a | _ => False) (fun args hp top => match args with
  | [.pointer (some ⟨cb, _, _⟩), a] => takeRes_r cb (calLast hp cb) (calL hp cb) (e_t124.rd hp (calL hp cb)) (kF_r (e_t124.rd hp (calL hp cb)) (intOf a)) top | _ => (undef, [], top))
def G6_r : FuncId → Con := addG (addG (addG G5_r 34 conPut_r) 41 conNew_r) 32 conLen_r
theorem env6_r : EnvV Try.prog tt.get G6_r := ((env5_r.add put_r_ok).add new_r_ok).add len_r_ok
theorem G6_r_none : G6_r 54 = conNone_r := rfl
theorem G6_r_del : G6_r 63 = conDel e_t124 := rfl
def stTk_r (hp : Hp) (top cb : Nat) (now : Int) (lv : Value) (l : List T_t124) (i : Nat) : SS :=
  ⟨[(0, .pointer (some ⟨cb, 0, none⟩), true), (1, .int .u64 now, true), (5, mkSl top (outs_r l i), true), (13, lv, true), (14, .int .i64 (l.length : Int), true), (15, .int .i64 (i : Int), true)], hp.sets [(top, mkOb e_Arrive (outs_r l i))], top + 1⟩
theorem outs_r_succ {l : List T_t124} {i : Nat} (h : i < l.length) : outs_r l (i + 1) = outs_r l i ++ [val_r (at' l i)] := by
  unfold outs_r; rw [take_at h, List.map_append]; rfl
theorem outs_r_len {l : List T_t124} {i : Nat} (h : i ≤ l.length) : (outs_r l i).length = i := by unfold outs_r; simp; omega
theorem cut_cases_r {hp : Hp} {lv : Value} {l : List T_t124} (h : OwnV e_t124 hp lv l) {i : Nat} (hi : i ≤ l.length) : (cutV lv l 0 i = lv ∧ cutU e_t124 lv l 0 i = []) ∨
    ∃ b, lv = .slice (some ⟨b, 0, none⟩) l.length l.length ∧ cutV lv l 0 i = .slice (some ⟨b, 0, none⟩) (cutOut l 0 i).length (cutOut l 0 i).length ∧ cutU e_t124 lv l 0 i = [(b, some (.cells true 5 (e_t124.flat (cutOut l 0 i))))] := by
  by_cases e : 0 = i
  · left; simp [cutV, cutU, e]
  · cases h with
    | nil => simp at hi; omega
    | blk b l h hn => right; exact ⟨b, rfl, by simp [cutV, e, ownS], by simp [cutU, e, ownO]; rfl⟩
theorem take_r_ok : ConOk Try.prog 35 conTake_r := by
  refine .mkDet fn35_ok ?_
  intro args hp top hpre hcl hsc
  match args, hpre with
  | [.pointer (some ⟨cb, 0, none⟩), av], ⟨⟨last, lv, l, C⟩, ha⟩ =>
  rw [ha]
  generalize intOf av = now
  have hh := C.h
  have hcbt : cb < top := hcl.lt _ _ hh
  have hS := C.o.slT
  have lvs := C.low hcl
  have hn := C.n
  have hl63 : l.length ≤ 9223372036854775807 := by omega
  have hcc : ¬ top = cb := by omega
  have hic : ∀ {h' : Hp}, h' cb = some (.cells true 0 [.bool true, .int .i64 last, lv]) → IsCal h' cb = True := fun h => eq_true ⟨_, _, _, h⟩
  simp only [calL, calLast, hh, cellsOf_some, List.getElem?_cons_succ, List.getElem?_cons_zero, Option.getD_some, intOf_int, hS.rd]
  have hcp : ∀ {h' : Hp} {i : Nat}, i ≤ l.length → Keep top [] h' hp → CutPre e_t124 h' lv (.int .i64 0) (.int .i64 (i : Int)) = True := fun {h'} {i} hi hk =>
    eq_true ⟨l, 0, i, C.o.mono fun b n c e => by subst e; exact hk b lvs (by simp), rfl, rfl, Nat.zero_le _, hi⟩
  have hrd : ∀ {h' : Hp}, Keep top [] h' hp → e_t124.rd h' lv = l := fun {h'} hk => (C.o.mono fun b n c e => by subst e; exact hk b lvs (by simp)).slT.rd
  refine CalledOk.of_fun tt_ok fn35_ok rfl 40 rfl [.tmp 4] rfl (show 2 ≤ 40 by decide) ?_
  refine CW.vc env6_r [0, 1, 4, 5, 7, 9, 13, 14, 15, 16, 22] (by kernel_rfl) ?_
  (repeat ((try refine Vc.mk' ?_); simp only [go_sem, reduceIte, reduceCtorEq, Nat.reduceAdd, Nat.reduceMul, Nat.reduceSub, Nat.reduceLT, Nat.reduceLeDiff, Nat.reduceEqDiff, Int.reduceEq, Int.reduceLT, Int.reduceLE, Int.reduceNe, G6_r_none, conNone_r, List.headD_cons, hh, hic, G6_r_del, conDel, len_st124 hS, idx_st124 hS, ld_st124 hS, sh_st124 hS, sw_st124 hS, sf_st124_0 hS, sc_st124_0 hS, sf_st124_1 hS, sc_st124_1 hS, sf_st124_2 hS, hS.P, hS.oc, hS.cl, hS.rd, hS.ref, strip_P lvs, strip_rd lvs, strip_ld lvs, strip_sl hS lvs k_st124]))
  refine CW.loopR (stTk_r hp top cb now lv l) (fun i => i ≤ l.length ∧ ∀ k, k < i → decide ((at' l k).at_ ≤ now) = true) (fun i => l.length - i) 0 ⟨Nat.zero_le _, fun k hk => absurd hk (Nat.not_lt_zero _)⟩ ?_ ?_
  · have h0 : outs_r l 0 = [] := rfl
    exact (by refine SubR.mk' [top] hcl (by simp) (by simp) rfl (frSub_ok ?_) ?_ ?_ <;> simp [frSub, lkG, ren, renL, renL_set, renL_ints, UpdOk.nil, UpdOk.cons, renOO_some, renO_cells, renO_map, renOO_mkOb, rn_base, rn_add, ren_mkSl, Enc.flat_ren, set_same, set_ne, sets_cons, sets_nil, Keep.set, Keep.setK, Keep.refl, rm_m_int_bool, rm_m_message_Rule, rm_m_pair_bool, rm_m_pair_int, Sc.ren (fun j hj => rn_low hj) lvs, rn_low hcbt, h0, mkSl_nil, mkOb_nil])
  · rintro i ⟨hi, hlo⟩
    have hol := outs_r_len hi
    have h16 : (outs_r l i).length < 16777216 := by omega
    have hos : SlT e_Arrive (hp.set top (mkOb e_Arrive (outs_r l i))) (mkSl top (outs_r l i)) (outs_r l i) := .own (set_same ..) (by omega)
    have hfin : (i < l.length → decide ((at' l i).at_ ≤ now) = false) → kF_r l now = i := fun h => tw_len hi hlo h
    by_cases hlt : i < l.length
    · by_cases c1 : now < (at' l i).at_
      · have hk := hfin fun _ => decide_eq_false (by omega)
        rw [hk]
        rcases cut_cases_r C.o hi with ⟨e1, e2⟩ | ⟨b, e0, e1, e2⟩
        · refine CW.vc env6_r [0, 1, 4, 5, 7, 9, 13, 14, 15, 16, 22] (by kernel_rfl) ?_
          (repeat ((try refine Vc.mk' ?_); simp only [go_sem, reduceIte, reduceCtorEq, Nat.reduceAdd, Nat.reduceMul, Nat.reduceSub, Nat.reduceLT, Nat.reduceLeDiff, Nat.reduceEqDiff, Int.reduceEq, Int.reduceLT, Int.reduceLE, Int.reduceNe, G6_r_none, conNone_r, List.headD_cons, hh, hic, G6_r_del, conDel, len_st124 hS, idx_st124 hS, ld_st124 hS, sh_st124 hS, sw_st124 hS, sf_st124_0 hS, sc_st124_0 hS, sf_st124_1 hS, sc_st124_1 hS, sf_st124_2 hS, hS.P, hS.oc, hS.cl, hS.rd, hS.ref, strip_P lvs, strip_rd lvs, strip_ld lvs, strip_sl hS lvs k_st124, stTk_r, hlt, c1, hol, en_t124, hcp, hrd, set_lt hcbt, hi, e1, e2]))
          simp only [takeRes_r, e1, e2]
          (refine ⟨[top], by simp, by simp, by simp, ?_, ?_, ?_⟩ <;> simp [frSub, lkG, ren, renL, renL_set, renL_ints, UpdOk.nil, UpdOk.cons, renOO_some, renO_cells, renO_map, renOO_mkOb, rn_base, rn_add, ren_mkSl, Enc.flat_ren, set_same, set_ne, sets_cons, sets_nil, Keep.set, Keep.setK, Keep.refl, rm_m_int_bool, rm_m_message_Rule, rm_m_pair_bool, rm_m_pair_int, Sc.ren (fun j hj => rn_low hj) lvs, rn_low hcbt, hcc])
        · have lvb := lvs
          rw [e0] at lvb
          have hbt : b < top := lvb
          have hap : cb ≠ b := by have := C.ap; rw [e0] at this; exact this
          have hbc : ¬ b = cb := fun e => hap e.symm
          have hcb : ¬ cb = b := hap
          have hbt2 : ¬ top = b := by omega
          refine CW.vc env6_r [0, 1, 4, 5, 7, 9, 13, 14, 15, 16, 22] (by kernel_rfl) ?_
          (repeat ((try refine Vc.mk' ?_); simp only [go_sem, reduceIte, reduceCtorEq, Nat.reduceAdd, Nat.reduceMul, Nat.reduceSub, Nat.reduceLT, Nat.reduceLeDiff, Nat.reduceEqDiff, Int.reduceEq, Int.reduceLT, Int.reduceLE, Int.reduceNe, G6_r_none, conNone_r, List.headD_cons, hh, hic, G6_r_del, conDel, len_st124 hS, idx_st124 hS, ld_st124 hS, sh_st124 hS, sw_st124 hS, sf_st124_0 hS, sc_st124_0 hS, sf_st124_1 hS, sc_st124_1 hS, sf_st124_2 hS, hS.P, hS.oc, hS.cl, hS.rd, hS.ref, strip_P lvs, strip_rd lvs, strip_ld lvs, strip_sl hS lvs k_st124, stTk_r, hlt, c1, hol, en_t124, hcp, hrd, set_lt hcbt, set_lt hbt, hi, e1, e2, hbc, hcb]))
          simp only [takeRes_r, e1, e2]
          (refine ⟨[top], by simp, by simp, by simp, ?_, ?_, ?_⟩ <;> simp [frSub, lkG, ren, renL, renL_set, renL_ints, UpdOk.nil, UpdOk.cons, renOO_some, renO_cells, renO_map, renOO_mkOb, rn_base, rn_add, ren_mkSl, Enc.flat_ren, set_same, set_ne, sets_cons, sets_nil, Keep.set, Keep.setK, Keep.refl, rm_m_int_bool, rm_m_message_Rule, rm_m_pair_bool, rm_m_pair_int, Sc.ren (fun j hj => rn_low hj) lvs, rn_low hcbt, rn_low hbt, Enc.flat_ren, hcc, hbc, hcb, hbt2])
      · have hst := outs_r_succ hlt
        refine CW.vc env6_r [0, 1, 4, 5, 7, 9, 13, 14, 15, 16, 22] (by kernel_rfl) ?_
        (repeat ((try refine Vc.mk' ?_); simp only [go_sem, reduceIte, reduceCtorEq, Nat.reduceAdd, Nat.reduceMul, Nat.reduceSub, Nat.reduceLT, Nat.reduceLeDiff, Nat.reduceEqDiff, Int.reduceEq, Int.reduceLT, Int.reduceLE, Int.reduceNe, G6_r_none, conNone_r, List.headD_cons, hh, hic, G6_r_del, conDel, len_st124 hS, idx_st124 hS, ld_st124 hS, sh_st124 hS, sw_st124 hS, sf_st124_0 hS, sc_st124_0 hS, sf_st124_1 hS, sc_st124_1 hS, sf_st124_2 hS, hS.P, hS.oc, hS.cl, hS.rd, hS.ref, strip_P lvs, strip_rd lvs, strip_ld lvs, strip_sl hS lvs k_st124, stTk_r, hlt, c1, h16, en_t124]))
        refine .mk (i + 1) ⟨hlt, fun k hk => ?_⟩ (by omega) ((by refine SubR.mk' [top + 3] hcl (by simp) (by simp) rfl (frSub_ok ?_) ?_ ?_ <;> simp [frSub, lkG, ren, renL, renL_set, renL_ints, UpdOk.nil, UpdOk.cons, renOO_some, renO_cells, renO_map, renOO_mkOb, rn_base, rn_add, ren_mkSl, Enc.flat_ren, set_same, set_ne, sets_cons, sets_nil, Keep.set, Keep.setK, Keep.refl, rm_m_int_bool, rm_m_message_Rule, rm_m_pair_bool, rm_m_pair_int, Sc.ren (fun j hj => rn_low hj) lvs, rn_low hcbt, hst, val_r, wrap_succ hlt hl63]))
        by_cases e : k < i
        · exact of_decide_eq_true (hlo k e)
        · have e2 : k = i := by omega
          subst e2
          omega
    · have hi2 : i = l.length := by omega
      subst hi2
      have hk := hfin fun h => absurd h (Nat.lt_irrefl _)
      rw [hk]
      rcases cut_cases_r C.o hi with ⟨e1, e2⟩ | ⟨b, e0, e1, e2⟩
      · refine CW.vc env6_r [0, 1, 4, 5, 7, 9, 13, 14, 15, 16, 22] (by kernel_rfl) ?_
        (repeat ((try refine Vc.mk' ?_); simp only [go_sem, reduceIte, reduceCtorEq, Nat.reduceAdd, Nat.reduceMul, Nat.reduceSub, Nat.reduceLT, Nat.reduceLeDiff, Nat.reduceEqDiff, Int.reduceEq, Int.reduceLT, Int.reduceLE, Int.reduceNe, G6_r_none, conNone_r, List.headD_cons, hh, hic, G6_r_del, conDel, len_st124 hS, idx_st124 hS, ld_st124 hS, sh_st124 hS, sw_st124 hS, sf_st124_0 hS, sc_st124_0 hS, sf_st124_1 hS, sc_st124_1 hS, sf_st124_2 hS, hS.P, hS.oc, hS.cl, hS.rd, hS.ref, strip_P lvs, strip_rd lvs, strip_ld lvs, strip_sl hS lvs k_st124, stTk_r, Nat.lt_irrefl, decide_false, hol, en_t124, hcp, hrd, set_lt hcbt, hi, e1, e2]))
        simp only [takeRes_r, e1, e2]
        (refine ⟨[top], by simp, by simp, by simp, ?_, ?_, ?_⟩ <;> simp [frSub, lkG, ren, renL, renL_set, renL_ints, UpdOk.nil, UpdOk.cons, renOO_some, renO_cells, renO_map, renOO_mkOb, rn_base, rn_add, ren_mkSl, Enc.flat_ren, set_same, set_ne, sets_cons, sets_nil, Keep.set, Keep.setK, Keep.refl, rm_m_int_bool, rm_m_message_Rule, rm_m_pair_bool, rm_m_pair_int, Sc.ren (fun j hj => rn_low hj) lvs, rn_low hcbt, hcc])
      · have lvb := lvs
        rw [e0] at lvb
        have hbt : b < top := lvb
        have hap : cb ≠ b := by have := C.ap; rw [e0] at this; exact this
        have hbc : ¬ b = cb := fun e => hap e.symm
        have hcb : ¬ cb = b := hap
        have hbt2 : ¬ top = b := by omega
        refine CW.vc env6_r [0, 1, 4, 5, 7, 9, 13, 14, 15, 16, 22] (by kernel_rfl) ?_
        (repeat ((try refine Vc.mk' ?_); simp only [go_sem, reduceIte, reduceCtorEq, Nat.reduceAdd, Nat.reduceMul, Nat.reduceSub, Nat.reduceLT, Nat.reduceLeDiff, Nat.reduceEqDiff, Int.reduceEq, Int.reduceLT, Int.reduceLE, Int.reduceNe, G6_r_none, conNone_r, List.headD_cons, hh, hic, G6_r_del, conDel, len_st124 hS, idx_st124 hS, ld_st124 hS, sh_st124 hS, sw_st124 hS, sf_st124_0 hS, sc_st124_0 hS, sf_st124_1 hS, sc_st124_1 hS, sf_st124_2 hS, hS.P, hS.oc, hS.cl, hS.rd, hS.ref, strip_P lvs, strip_rd lvs, strip_ld lvs, strip_sl hS lvs k_st124, stTk_r, Nat.lt_irrefl, decide_false, hol, en_t124, hcp, hrd, set_lt hcbt, set_lt hbt, hi, e1, e2, hbc, hcb]))
        simp only [takeRes_r, e1, e2]
        (refine ⟨[top], by simp, by simp, by simp, ?_, ?_, ?_⟩ <;> simp [frSub, lkG, ren, renL, renL_set, renL_ints, UpdOk.nil, UpdOk.cons, renOO_some, renO_cells, renO_map, renOO_mkOb, rn_base, rn_add, ren_mkSl, Enc.flat_ren, set_same, set_ne, sets_cons, sets_nil, Keep.set, Keep.setK, Keep.refl, rm_m_int_bool, rm_m_message_Rule, rm_m_pair_bool, rm_m_pair_int, Sc.ren (fun j hj => rn_low hj) lvs, rn_low hcbt, rn_low hbt, Enc.flat_ren, hcc, hbc, hcb, hbt2])
end Go.Proofs.Ytmppehipfpkepaa.Dm
