/- A calendar of texts: Sift, Drop, Copy. -/
import Derived.Test.YtogndgadipdikaaUs
set_option linter.unusedSimpArgs false
set_option linter.unusedVariables false
namespace Go.Proofs.Ytogndgadipdikaa.Dm
open Go.Dm
set_option maxHeartbeats 8000000
set_option maxRecDepth 20000

def G12s : FuncId → Con := addG G11s 61 conDf_s
theorem env12s : EnvV Try.prog tt.get G12s := env11s.add df_s_ok
theorem G12s_df : G12s 61 = conDf_s := rfl
theorem G12s_ix : G12s 59 = conIx_s := rfl
theorem G12s_none : G12s 54 = conNone_s := rfl
theorem G12s_del : G12s 55 = conDel e_t96 := rfl
/-! ### Sift -/
theorem slen_rawS {h' : Hp} {b n c : Nat} : slen tt.get h' 64 (.slice (some ⟨b, 0, none⟩) n c) = (.int .i64 (n : Int), True) := by
  unfold slen; simp only [k_st96, lenA, t_st96, ti64]; rfl
inductive SF (hp : Hp) : Value → Prop
  | nil : SF hp Value.nilFunc
  | kn : SF hp knV
  | lw (ab gb : Nat) (g : List UInt8) (hg : hp gb = some (.cells true 0 [.string ⟨⟨g⟩⟩])) (ha : hp ab = some (.cells true 0 [.slice none 0 0])) : SF hp (lwV ab gb)
def siftK (p : T_t96 → Bool) (cb : Nat) (last : Int) (lv : Value) (l : List T_t96) (us : Upds) (top : Nat) : Value × Upds × Nat :=
  (.int .i64 ((l.length : Int) - ((keptP p l).length : Int)), (cb, some (.cells true 0 [.bool true, .int .i64 last, dfV lv (keptP p l)])) :: (dfU e_t96 lv (keptP p l) ++ us), top)
def siftC (hp : Hp) (f : Value) (cb : Nat) (last : Int) (lv : Value) (l : List T_t96) (top : Nat) : Value × Upds × Nat := match f with
  | .func (.func _) _ ⟨[.pointer (some ⟨ab, _, _⟩), .pointer (some ⟨gb, _, _⟩)]⟩ => siftK (fun a => decide (a.v = goneOf hp gb)) cb last lv l [(ab, some (.cells true 0 [mkSl top (outs_s l l.length)])), (top, mkOb e_string (outs_s l l.length))] (top + 1)
  | .func (.func _) _ ⟨[]⟩ => siftK (fun a => isP a.v) cb last lv l [] top
  | _ => (.int .i64 0, [], top)
def CalIs_s (hp : Hp) (cb : Nat) : Prop := ∃ last lv l, CalAt_s hp cb last lv l
def conSift_s : Con := .det (fun args hp _ => match args with | [.pointer (some ⟨cb, 0, none⟩), f] => CalIs_s hp cb ∧ SF hp f | _ => False) (fun args hp top => match args with
  | [.pointer (some ⟨cb, _, _⟩), f] => siftC hp f cb (calLast hp cb) (calL hp cb) (e_t96.rd hp (calL hp cb)) top | _ => (undef, [], top))
theorem siftC_lw {hp : Hp} {ab gb cb top : Nat} {last : Int} {lv : Value} {l : List T_t96} {g : List UInt8} (hg : hp gb = some (.cells true 0 [.string ⟨⟨g⟩⟩])) : siftC hp (lwV ab gb) cb last lv l top = siftK (fun a => decide (a.v = g)) cb last lv l [(ab, some (.cells true 0 [mkSl top (outs_s l l.length)])), (top, mkOb e_string (outs_s l l.length))] (top + 1) := by
  show siftK (fun a => decide (a.v = goneOf hp gb)) cb last lv l _ (top + 1) = _
  have e : goneOf hp gb = g := by unfold goneOf; rw [hg]; rfl
  rw [e]
theorem kn_cells : cellsL knV = [knV] := rfl
theorem lw_cells {ab gb : Nat} : cellsL (lwV ab gb) = [lwV ab gb] := rfl
theorem kn_ne : binA tt.get .eql 63 (.tmp 9) (.const Value.nilFunc) knV Value.nilFunc = some (.bool false) := by kernel_rfl
theorem lw_ne {ab gb : Nat} : binA tt.get .eql 63 (.tmp 9) (.const Value.nilFunc) (lwV ab gb) Value.nilFunc = some (.bool false) := by rfl
theorem nil_eq : binA tt.get .eql 63 (.tmp 9) (.const Value.nilFunc) Value.nilFunc Value.nilFunc = some (.bool true) := by kernel_rfl

theorem sift_s_ok : ConOk Try.prog 31 conSift_s := by
  refine .mkDet fn31_ok ?_
  intro args hp top hpre hcl hsc
  match args, hpre with
  | [.pointer (some ⟨cb, 0, none⟩), f], ⟨⟨last, lv, l, C⟩, hF⟩ =>
  have hh := C.h
  have hcbt : cb < top := hcl.lt _ _ hh
  have hS := C.o.slT
  have lvs := C.low hcl
  have hn := C.n
  have hcc : ¬ cb = top := by omega
  have hic : ∀ {h' : Hp}, h' cb = some (.cells true 0 [.bool true, .int .i64 last, lv]) → IsCal h' cb = True := fun h => eq_true ⟨_, _, _, h⟩
  simp only [calL, calLast, hh, cellsOf_some, List.getElem?_cons_succ, List.getElem?_cons_zero, Option.getD_some, intOf_int, hS.rd]
  have hOw : ∀ {h' : Hp}, Keep top [] h' hp → (∃ l, OwnV e_t96 h' lv l ∧ l.length ≤ 1000000) = True := fun {h'} hk => eq_true ⟨l, C.o.mono fun b n c e => by subst e; exact hk b lvs (by simp), hn⟩
  have hrd : ∀ {h' : Hp}, Keep top [] h' hp → e_t96.rd h' lv = l := fun {h'} hk => (C.o.mono fun b n c e => by subst e; exact hk b lvs (by simp)).slT.rd
  have hap := C.ap
  have ho := C.o
  cases hF with
  | nil =>
    refine CalledOk.of_fun tt_ok fn31_ok rfl 33 rfl [.tmp 4] rfl (show 2 ≤ 33 by decide) ?_
    refine CW.vc env12s [0, 1, 3, 4, 5, 11] (by kernel_rfl) ?_
    (simp only [go_sem, reduceIte, reduceCtorEq, Nat.reduceAdd, Nat.reduceMul, Nat.reduceSub, Nat.reduceLT, Nat.reduceLeDiff, Nat.reduceEqDiff, Int.reduceEq, Int.reduceLT, Int.reduceLE, Int.reduceNe, G12s_none, conNone_s, G12s_df, conDf_s, List.headD_cons, hh, hic, hcc, set_lt hcbt, hOw, hrd, evList, evO, len_st96 hS, idx_st96 hS, ld_st96 hS, sh_st96 hS, sw_st96 hS, sf_st96_0 hS, sc_st96_0 hS, sf_st96_1 hS, sc_st96_1 hS, sf_st96_2 hS, sc_st96_2 hS, hS.P, hS.oc, hS.cl, hS.rd, hS.ref, strip_P lvs, strip_rd lvs, strip_ld lvs, strip_sl hS lvs k_st96, nil_eq]; repeat (refine Vc.mk' ?_; simp only [go_sem, reduceIte, reduceCtorEq, Nat.reduceAdd, Nat.reduceMul, Nat.reduceSub, Nat.reduceLT, Nat.reduceLeDiff, Nat.reduceEqDiff, Int.reduceEq, Int.reduceLT, Int.reduceLE, Int.reduceNe, G12s_none, conNone_s, G12s_df, conDf_s, List.headD_cons, hh, hic, hcc, set_lt hcbt, hOw, hrd, evList, evO, len_st96 hS, idx_st96 hS, ld_st96 hS, sh_st96 hS, sw_st96 hS, sf_st96_0 hS, sc_st96_0 hS, sf_st96_1 hS, sc_st96_1 hS, sf_st96_2 hS, sc_st96_2 hS, hS.P, hS.oc, hS.cl, hS.rd, hS.ref, strip_P lvs, strip_rd lvs, strip_ld lvs, strip_sl hS lvs k_st96, nil_eq]))
    simp only [siftC, Value.nilFunc]
    exact ⟨[], by simp, by simp, by simp, by simp [frSub, lkG, ren, renL, renL_set, renL_ints, UpdOk.nil, UpdOk.cons, renOO_some, renO_cells, renO_map, renOO_mkOb, rn_base, rn_add, ren_mkSl, Enc.flat_ren, set_same, set_ne, sets_cons, sets_nil, Keep.set, Keep.setK, Keep.refl], by simp [frSub, lkG, ren, renL, renL_set, renL_ints, UpdOk.nil, UpdOk.cons, renOO_some, renO_cells, renO_map, renOO_mkOb, rn_base, rn_add, ren_mkSl, Enc.flat_ren, set_same, set_ne, sets_cons, sets_nil, Keep.set, Keep.setK, Keep.refl], by simp [frSub, lkG, ren, renL, renL_set, renL_ints, UpdOk.nil, UpdOk.cons, renOO_some, renO_cells, renO_map, renOO_mkOb, rn_base, rn_add, ren_mkSl, Enc.flat_ren, set_same, set_ne, sets_cons, sets_nil, Keep.set, Keep.setK, Keep.refl]⟩
  | kn =>
    have hkn := keptP_le (p := fun a : T_t96 => isP a.v) (l := l)
    have hwk : wrapA .i64 ((l.length : Int) - ((keptP (fun a : T_t96 => isP a.v) l).length : Int)) = (l.length : Int) - ((keptP (fun a : T_t96 => isP a.v) l).length : Int) := wrap64 (by omega) (by omega)
    have hFS : ∀ {h' : Hp}, h' top = some (.cells true 0 [knV]) → FnS h' (Value.func (.func 62) ⟨[]⟩ ⟨[.pointer (some ⟨top, 0, none⟩)]⟩) = True := fun h => eq_true (.kn top h)
    have hDf : ∀ {h' : Hp} {t : Nat}, h' top = some (.cells true 0 [knV]) → dfC h' (Value.func (.func 62) ⟨[]⟩ ⟨[.pointer (some ⟨top, 0, none⟩)]⟩) lv l t = (dfV lv (keptP (fun a : T_t96 => isP a.v) l), dfU e_t96 lv (keptP (fun a : T_t96 => isP a.v) l), t) := fun h => dfC_kn h
    refine CalledOk.of_fun tt_ok fn31_ok rfl 33 rfl [.tmp 4] rfl (show 2 ≤ 33 by decide) ?_
    cases ho with
    | nil =>
      refine CW.vc env12s [0, 1, 3, 4, 5, 11] (by kernel_rfl) ?_
      (simp only [go_sem, reduceIte, reduceCtorEq, Nat.reduceAdd, Nat.reduceMul, Nat.reduceSub, Nat.reduceLT, Nat.reduceLeDiff, Nat.reduceEqDiff, Int.reduceEq, Int.reduceLT, Int.reduceLE, Int.reduceNe, G12s_none, conNone_s, G12s_df, conDf_s, List.headD_cons, hh, hic, hcc, set_lt hcbt, hOw, hrd, evList, evO, len_st96 hS, idx_st96 hS, ld_st96 hS, sh_st96 hS, sw_st96 hS, sf_st96_0 hS, sc_st96_0 hS, sf_st96_1 hS, sc_st96_1 hS, sf_st96_2 hS, sc_st96_2 hS, hS.P, hS.oc, hS.cl, hS.rd, hS.ref, strip_P lvs, strip_rd lvs, strip_ld lvs, strip_sl hS lvs k_st96, hFS, hDf, kn_cells, kn_ne, hwk, dfV, dfU]; repeat (refine Vc.mk' ?_; simp only [go_sem, reduceIte, reduceCtorEq, Nat.reduceAdd, Nat.reduceMul, Nat.reduceSub, Nat.reduceLT, Nat.reduceLeDiff, Nat.reduceEqDiff, Int.reduceEq, Int.reduceLT, Int.reduceLE, Int.reduceNe, G12s_none, conNone_s, G12s_df, conDf_s, List.headD_cons, hh, hic, hcc, set_lt hcbt, hOw, hrd, evList, evO, len_st96 hS, idx_st96 hS, ld_st96 hS, sh_st96 hS, sw_st96 hS, sf_st96_0 hS, sc_st96_0 hS, sf_st96_1 hS, sc_st96_1 hS, sf_st96_2 hS, sc_st96_2 hS, hS.P, hS.oc, hS.cl, hS.rd, hS.ref, strip_P lvs, strip_rd lvs, strip_ld lvs, strip_sl hS lvs k_st96, hFS, hDf, kn_cells, kn_ne, hwk, dfV, dfU]))
      have hk0 : keptP (fun a : T_t96 => isP a.v) ([] : List T_t96) = [] := rfl
      have hw00 : wrapA .i64 0 = 0 := wrap64 (by omega) (by omega)
      simp only [siftC, knV, siftK, dfV, dfU, hk0, List.length_nil, List.append_nil]
      exact ⟨[], by simp, by simp, by simp, by simp [frSub, lkG, ren, renL, renL_set, renL_ints, UpdOk.nil, UpdOk.cons, renOO_some, renO_cells, renO_map, renOO_mkOb, rn_base, rn_add, ren_mkSl, Enc.flat_ren, set_same, set_ne, sets_cons, sets_nil, Keep.set, Keep.setK, Keep.refl, rn_low hcbt, hh, hcc, hw00], by simp [frSub, lkG, ren, renL, renL_set, renL_ints, UpdOk.nil, UpdOk.cons, renOO_some, renO_cells, renO_map, renOO_mkOb, rn_base, rn_add, ren_mkSl, Enc.flat_ren, set_same, set_ne, sets_cons, sets_nil, Keep.set, Keep.setK, Keep.refl, rn_low hcbt, hh, hcc, hw00], by simp [frSub, lkG, ren, renL, renL_set, renL_ints, UpdOk.nil, UpdOk.cons, renOO_some, renO_cells, renO_map, renOO_mkOb, rn_base, rn_add, ren_mkSl, Enc.flat_ren, set_same, set_ne, sets_cons, sets_nil, Keep.set, Keep.setK, Keep.refl, rn_low hcbt, hh, hcc, hw00]⟩
    | blk b l hb hn2 =>
      have hbt : b < top := lvs
      have hcb : ¬ cb = b := hap
      have hbc : ¬ b = cb := fun e => hcb e.symm
      refine CW.vc env12s [0, 1, 3, 4, 5, 11] (by kernel_rfl) ?_
      (simp only [go_sem, reduceIte, reduceCtorEq, Nat.reduceAdd, Nat.reduceMul, Nat.reduceSub, Nat.reduceLT, Nat.reduceLeDiff, Nat.reduceEqDiff, Int.reduceEq, Int.reduceLT, Int.reduceLE, Int.reduceNe, G12s_none, conNone_s, G12s_df, conDf_s, List.headD_cons, hh, hic, hcc, set_lt hcbt, hOw, hrd, evList, evO, len_st96 hS, idx_st96 hS, ld_st96 hS, sh_st96 hS, sw_st96 hS, sf_st96_0 hS, sc_st96_0 hS, sf_st96_1 hS, sc_st96_1 hS, sf_st96_2 hS, sc_st96_2 hS, hS.P, hS.oc, hS.cl, hS.rd, hS.ref, strip_P lvs, strip_rd lvs, strip_ld lvs, strip_sl hS lvs k_st96, hFS, hDf, kn_cells, kn_ne, hwk, dfV, dfU, hcb, hbc, set_lt hbt, ownS, slen_rawS]; repeat (refine Vc.mk' ?_; simp only [go_sem, reduceIte, reduceCtorEq, Nat.reduceAdd, Nat.reduceMul, Nat.reduceSub, Nat.reduceLT, Nat.reduceLeDiff, Nat.reduceEqDiff, Int.reduceEq, Int.reduceLT, Int.reduceLE, Int.reduceNe, G12s_none, conNone_s, G12s_df, conDf_s, List.headD_cons, hh, hic, hcc, set_lt hcbt, hOw, hrd, evList, evO, len_st96 hS, idx_st96 hS, ld_st96 hS, sh_st96 hS, sw_st96 hS, sf_st96_0 hS, sc_st96_0 hS, sf_st96_1 hS, sc_st96_1 hS, sf_st96_2 hS, sc_st96_2 hS, hS.P, hS.oc, hS.cl, hS.rd, hS.ref, strip_P lvs, strip_rd lvs, strip_ld lvs, strip_sl hS lvs k_st96, hFS, hDf, kn_cells, kn_ne, hwk, dfV, dfU, hcb, hbc, set_lt hbt, ownS, slen_rawS]))
      simp only [siftC, knV, siftK, dfV, dfU, ownS, ownO, List.append_nil]
      exact ⟨[], by simp, by simp, by simp, by simp [frSub, lkG, ren, renL, renL_set, renL_ints, UpdOk.nil, UpdOk.cons, renOO_some, renO_cells, renO_map, renOO_mkOb, rn_base, rn_add, ren_mkSl, Enc.flat_ren, set_same, set_ne, sets_cons, sets_nil, Keep.set, Keep.setK, Keep.refl, rn_low hcbt, rn_low hbt, hbc, hcb, Enc.flat_ren], by simp [frSub, lkG, ren, renL, renL_set, renL_ints, UpdOk.nil, UpdOk.cons, renOO_some, renO_cells, renO_map, renOO_mkOb, rn_base, rn_add, ren_mkSl, Enc.flat_ren, set_same, set_ne, sets_cons, sets_nil, Keep.set, Keep.setK, Keep.refl, rn_low hcbt, rn_low hbt, hbc, hcb, Enc.flat_ren], by simp [frSub, lkG, ren, renL, renL_set, renL_ints, UpdOk.nil, UpdOk.cons, renOO_some, renO_cells, renO_map, renOO_mkOb, rn_base, rn_add, ren_mkSl, Enc.flat_ren, set_same, set_ne, sets_cons, sets_nil, Keep.set, Keep.setK, Keep.refl, rn_low hcbt, rn_low hbt, hbc, hcb, Enc.flat_ren]⟩
  | lw ab gb g hg ha =>
    rw [siftC_lw hg]
    have hat : ab < top := hcl.lt _ _ ha
    have hgt : gb < top := hcl.lt _ _ hg
    have hac : ¬ ab = cb := fun e => by rw [e, hh] at ha; simp at ha
    have hca : ¬ cb = ab := fun e => hac e.symm
    have hta : ¬ top = ab := by omega
    have hta1 : ¬ top + 1 = ab := by omega
    have hat2 : ¬ ab = top := by omega
    have htc1 : ¬ top + 1 = cb := by omega
    have hgt2 : ¬ gb = top := by omega
    have hkn := keptP_le (p := fun a : T_t96 => decide (a.v = g)) (l := l)
    have hwk : wrapA .i64 ((l.length : Int) - ((keptP (fun a : T_t96 => decide (a.v = g)) l).length : Int)) = (l.length : Int) - ((keptP (fun a : T_t96 => decide (a.v = g)) l).length : Int) := wrap64 (by omega) (by omega)
    have hFS : ∀ {h' : Hp}, h' top = some (.cells true 0 [lwV ab gb]) → h' gb = some (.cells true 0 [.string ⟨⟨g⟩⟩]) → h' ab = some (.cells true 0 [.slice none 0 0]) → FnS h' (Value.func (.func 62) ⟨[]⟩ ⟨[.pointer (some ⟨top, 0, none⟩)]⟩) = True := fun h1 h2 h3 => eq_true (.lw top ab gb g h1 h2 h3)
    have hDf : ∀ {h' : Hp} {t : Nat}, h' top = some (.cells true 0 [lwV ab gb]) → h' gb = some (.cells true 0 [.string ⟨⟨g⟩⟩]) → dfC h' (Value.func (.func 62) ⟨[]⟩ ⟨[.pointer (some ⟨top, 0, none⟩)]⟩) lv l t = (dfV lv (keptP (fun a : T_t96 => decide (a.v = g)) l), dfU e_t96 lv (keptP (fun a : T_t96 => decide (a.v = g)) l) ++ [(ab, some (.cells true 0 [mkSl t (outs_s l l.length)])), (t, mkOb e_string (outs_s l l.length))], t + 1) := fun h1 h2 => dfC_lw h1 h2
    refine CalledOk.of_fun tt_ok fn31_ok rfl 33 rfl [.tmp 4] rfl (show 2 ≤ 33 by decide) ?_
    cases ho with
    | nil =>
      refine CW.vc env12s [0, 1, 3, 4, 5, 11] (by kernel_rfl) ?_
      (simp only [go_sem, reduceIte, reduceCtorEq, Nat.reduceAdd, Nat.reduceMul, Nat.reduceSub, Nat.reduceLT, Nat.reduceLeDiff, Nat.reduceEqDiff, Int.reduceEq, Int.reduceLT, Int.reduceLE, Int.reduceNe, G12s_none, conNone_s, G12s_df, conDf_s, List.headD_cons, hh, hic, hcc, set_lt hcbt, hOw, hrd, evList, evO, len_st96 hS, idx_st96 hS, ld_st96 hS, sh_st96 hS, sw_st96 hS, sf_st96_0 hS, sc_st96_0 hS, sf_st96_1 hS, sc_st96_1 hS, sf_st96_2 hS, sc_st96_2 hS, hS.P, hS.oc, hS.cl, hS.rd, hS.ref, strip_P lvs, strip_rd lvs, strip_ld lvs, strip_sl hS lvs k_st96, hFS, hDf, lw_cells, lw_ne, hwk, dfV, dfU, ha, hg, hca, hac, hta, hat2, hgt2, set_lt hat, set_lt hgt, List.nil_append]; repeat (refine Vc.mk' ?_; simp only [go_sem, reduceIte, reduceCtorEq, Nat.reduceAdd, Nat.reduceMul, Nat.reduceSub, Nat.reduceLT, Nat.reduceLeDiff, Nat.reduceEqDiff, Int.reduceEq, Int.reduceLT, Int.reduceLE, Int.reduceNe, G12s_none, conNone_s, G12s_df, conDf_s, List.headD_cons, hh, hic, hcc, set_lt hcbt, hOw, hrd, evList, evO, len_st96 hS, idx_st96 hS, ld_st96 hS, sh_st96 hS, sw_st96 hS, sf_st96_0 hS, sc_st96_0 hS, sf_st96_1 hS, sc_st96_1 hS, sf_st96_2 hS, sc_st96_2 hS, hS.P, hS.oc, hS.cl, hS.rd, hS.ref, strip_P lvs, strip_rd lvs, strip_ld lvs, strip_sl hS lvs k_st96, hFS, hDf, lw_cells, lw_ne, hwk, dfV, dfU, ha, hg, hca, hac, hta, hat2, hgt2, set_lt hat, set_lt hgt, List.nil_append]))
      have hk0 : keptP (fun a : T_t96 => decide (a.v = g)) ([] : List T_t96) = [] := rfl
      have hw00 : wrapA .i64 0 = 0 := wrap64 (by omega) (by omega)
      simp only [siftK, dfV, dfU, hk0, List.length_nil, List.nil_append]
      exact ⟨[top + 1], by simp, by simp, by simp, by simp [frSub, lkG, ren, renL, renL_set, renL_ints, UpdOk.nil, UpdOk.cons, renOO_some, renO_cells, renO_map, renOO_mkOb, rn_base, rn_add, ren_mkSl, Enc.flat_ren, set_same, set_ne, sets_cons, sets_nil, Keep.set, Keep.setK, Keep.refl, rn_low hcbt, rn_low hat, hh, hcc, hw00, hca, hac, hta, hta1, htc1, hat2, set_lt hat, set_lt hcbt], by simp [frSub, lkG, ren, renL, renL_set, renL_ints, UpdOk.nil, UpdOk.cons, renOO_some, renO_cells, renO_map, renOO_mkOb, rn_base, rn_add, ren_mkSl, Enc.flat_ren, set_same, set_ne, sets_cons, sets_nil, Keep.set, Keep.setK, Keep.refl, rn_low hcbt, rn_low hat, hh, hcc, hw00, hca, hac, hta, hta1, htc1, hat2, set_lt hat, set_lt hcbt], by simp [frSub, lkG, ren, renL, renL_set, renL_ints, UpdOk.nil, UpdOk.cons, renOO_some, renO_cells, renO_map, renOO_mkOb, rn_base, rn_add, ren_mkSl, Enc.flat_ren, set_same, set_ne, sets_cons, sets_nil, Keep.set, Keep.setK, Keep.refl, rn_low hcbt, rn_low hat, hh, hcc, hw00, hca, hac, hta, hta1, htc1, hat2, set_lt hat, set_lt hcbt]⟩
    | blk b l hb hn2 =>
      have hbt : b < top := lvs
      have hcb : ¬ cb = b := hap
      have hbc : ¬ b = cb := fun e => hcb e.symm
      have hab : ¬ ab = b := fun e => by
        subst e
        rw [ha] at hb
        simp only [Option.some.injEq, AObj.cells.injEq] at hb
        exact absurd hb.2.1 (by decide)
      have hba : ¬ b = ab := fun e => hab e.symm
      have htb1 : ¬ top + 1 = b := by omega
      refine CW.vc env12s [0, 1, 3, 4, 5, 11] (by kernel_rfl) ?_
      (simp only [go_sem, reduceIte, reduceCtorEq, Nat.reduceAdd, Nat.reduceMul, Nat.reduceSub, Nat.reduceLT, Nat.reduceLeDiff, Nat.reduceEqDiff, Int.reduceEq, Int.reduceLT, Int.reduceLE, Int.reduceNe, G12s_none, conNone_s, G12s_df, conDf_s, List.headD_cons, hh, hic, hcc, set_lt hcbt, hOw, hrd, evList, evO, len_st96 hS, idx_st96 hS, ld_st96 hS, sh_st96 hS, sw_st96 hS, sf_st96_0 hS, sc_st96_0 hS, sf_st96_1 hS, sc_st96_1 hS, sf_st96_2 hS, sc_st96_2 hS, hS.P, hS.oc, hS.cl, hS.rd, hS.ref, strip_P lvs, strip_rd lvs, strip_ld lvs, strip_sl hS lvs k_st96, hFS, hDf, lw_cells, lw_ne, hwk, dfV, dfU, ha, hg, hca, hac, hta, hat2, hgt2, hab, hba, htb1, htc1, hcb, hbc, set_lt hat, set_lt hgt, set_lt hbt, ownS, slen_rawS, List.nil_append, List.cons_append]; repeat (refine Vc.mk' ?_; simp only [go_sem, reduceIte, reduceCtorEq, Nat.reduceAdd, Nat.reduceMul, Nat.reduceSub, Nat.reduceLT, Nat.reduceLeDiff, Nat.reduceEqDiff, Int.reduceEq, Int.reduceLT, Int.reduceLE, Int.reduceNe, G12s_none, conNone_s, G12s_df, conDf_s, List.headD_cons, hh, hic, hcc, set_lt hcbt, hOw, hrd, evList, evO, len_st96 hS, idx_st96 hS, ld_st96 hS, sh_st96 hS, sw_st96 hS, sf_st96_0 hS, sc_st96_0 hS, sf_st96_1 hS, sc_st96_1 hS, sf_st96_2 hS, sc_st96_2 hS, hS.P, hS.oc, hS.cl, hS.rd, hS.ref, strip_P lvs, strip_rd lvs, strip_ld lvs, strip_sl hS lvs k_st96, hFS, hDf, lw_cells, lw_ne, hwk, dfV, dfU, ha, hg, hca, hac, hta, hat2, hgt2, hab, hba, htb1, htc1, hcb, hbc, set_lt hat, set_lt hgt, set_lt hbt, ownS, slen_rawS, List.nil_append, List.cons_append]))
      simp only [siftK, dfV, dfU, ownS, ownO, List.nil_append, List.cons_append]
      exact ⟨[top + 1], by simp, by simp, by simp, by simp [frSub, lkG, ren, renL, renL_set, renL_ints, UpdOk.nil, UpdOk.cons, renOO_some, renO_cells, renO_map, renOO_mkOb, rn_base, rn_add, ren_mkSl, Enc.flat_ren, set_same, set_ne, sets_cons, sets_nil, Keep.set, Keep.setK, Keep.refl, rn_low hcbt, rn_low hat, rn_low hbt, hbc, hcb, hca, hac, hta, hta1, hat2, hab, hba, htb1, htc1, Enc.flat_ren, set_lt hat, set_lt hcbt, set_lt hbt], by simp [frSub, lkG, ren, renL, renL_set, renL_ints, UpdOk.nil, UpdOk.cons, renOO_some, renO_cells, renO_map, renOO_mkOb, rn_base, rn_add, ren_mkSl, Enc.flat_ren, set_same, set_ne, sets_cons, sets_nil, Keep.set, Keep.setK, Keep.refl, rn_low hcbt, rn_low hat, rn_low hbt, hbc, hcb, hca, hac, hta, hta1, hat2, hab, hba, htb1, htc1, Enc.flat_ren, set_lt hat, set_lt hcbt, set_lt hbt], by simp [frSub, lkG, ren, renL, renL_set, renL_ints, UpdOk.nil, UpdOk.cons, renOO_some, renO_cells, renO_map, renOO_mkOb, rn_base, rn_add, ren_mkSl, Enc.flat_ren, set_same, set_ne, sets_cons, sets_nil, Keep.set, Keep.setK, Keep.refl, rn_low hcbt, rn_low hat, rn_low hbt, hbc, hcb, hca, hac, hta, hta1, hat2, hab, hba, htb1, htc1, Enc.flat_ren, set_lt hat, set_lt hcbt, set_lt hbt]⟩
/-! ### Drop -/
def ixT_s (l : List T_t96) (k : Int) : Nat := ixF (fun a => decide (a.ticket = k)) l
def dropRes_s (cb : Nat) (last : Int) (lv : Value) (l : List T_t96) (k : Int) (top : Nat) : Value × Upds × Nat :=
  if ixT_s l k < l.length then (.bool true, (cb, some (.cells true 0 [.bool true, .int .i64 last, cutV lv l (ixT_s l k) (ixT_s l k + 1)])) :: cutU e_t96 lv l (ixT_s l k) (ixT_s l k + 1), top)
  else (.bool false, [], top)
def conDrop_s : Con := .det (fun args hp _ => match args with | [.pointer (some ⟨cb, 0, none⟩), k] => CalIs_s hp cb ∧ IsI .i64 k | _ => False) (fun args hp top => match args with
  | [.pointer (some ⟨cb, _, _⟩), k] => dropRes_s cb (calLast hp cb) (calL hp cb) (e_t96.rd hp (calL hp cb)) (intOf k) top | _ => (undef, [], top))

theorem drop_s_ok : ConOk Try.prog 29 conDrop_s := by
  refine .mkDet fn29_ok ?_
  intro args hp top hpre hcl hsc
  match args, hpre with
  | [.pointer (some ⟨cb, 0, none⟩), kv], ⟨⟨last, lv, l, C⟩, hkv⟩ =>
  rw [hkv]
  generalize intOf kv = k
  have hh := C.h
  have hcbt : cb < top := hcl.lt _ _ hh
  have hS := C.o.slT
  have lvs := C.low hcl
  have hn := C.n
  have hcc : ¬ cb = top := by omega
  have hic : ∀ {h' : Hp}, h' cb = some (.cells true 0 [.bool true, .int .i64 last, lv]) → IsCal h' cb = True := fun h => eq_true ⟨_, _, _, h⟩
  simp only [calL, calLast, hh, cellsOf_some, List.getElem?_cons_succ, List.getElem?_cons_zero, Option.getD_some, intOf_int, hS.rd]
  have hSP : ∀ {h' : Hp}, Keep top [] h' hp → SlP e_t96 h' lv = True := fun {h'} hk => (C.o.mono fun b n c e => by subst e; exact hk b lvs (by simp)).slT.P
  have hrd : ∀ {h' : Hp}, Keep top [] h' hp → e_t96.rd h' lv = l := fun {h'} hk => (C.o.mono fun b n c e => by subst e; exact hk b lvs (by simp)).slT.rd
  have hFn : ∀ {h' : Hp}, h' top = some (.cells true 0 [.int .i64 k]) → FnIs h' (Value.func (.func 60) ⟨[]⟩ ⟨[.pointer (some ⟨top, 0, none⟩)]⟩) = True := fun h => eq_true (.dr top k h)
  obtain ⟨i, hi⟩ : ∃ i, ixF (fun a : T_t96 => decide (a.ticket = k)) l = i := ⟨_, rfl⟩
  have hil := ixF_le (fun a : T_t96 => decide (a.ticket = k)) l
  rw [hi] at hil
  have hIx : ∀ {h' : Hp} {t : Nat}, h' top = some (.cells true 0 [.int .i64 k]) → ixC h' (Value.func (.func 60) ⟨[]⟩ ⟨[.pointer (some ⟨top, 0, none⟩)]⟩) l t = (.int .i64 (if i < l.length then (i : Int) else -1), [], t) := fun {h' t} h => by
    have := ixC_dr (l := l) (top := t) h
    rw [hi] at this
    exact this
  have hap := C.ap
  have ho := C.o
  refine CalledOk.of_fun tt_ok fn29_ok rfl 27 rfl [.tmp 4] rfl (show 2 ≤ 27 by decide) ?_
  by_cases hlt : i < l.length
  · have hneg : ¬ ((i : Int) < 0) := by omega
    have hw : wrapA .i64 ((i : Int) + 1) = ((i + 1 : Nat) : Int) := wrap_succ hlt (by omega)
    have hcp : ∀ {h' : Hp}, Keep top [] h' hp → CutPre e_t96 h' lv (.int .i64 (i : Int)) (.int .i64 ((i + 1 : Nat) : Int)) = True := fun {h'} hk =>
      eq_true ⟨l, i, i + 1, C.o.mono fun b n c e => by subst e; exact hk b lvs (by simp), rfl, rfl, by omega, hlt⟩
    cases ho with
    | nil => simp at hlt
    | blk b l hb hn2 =>
      have hbt : b < top := lvs
      have hcb : ¬ cb = b := hap
      have hbc : ¬ b = cb := fun e => hcb e.symm
      have hne : ¬ i = i + 1 := by omega
      refine CW.vc env12s [0, 1, 3, 4, 5, 7, 15] (by kernel_rfl) ?_
      (simp only [go_sem, reduceIte, reduceCtorEq, Nat.reduceAdd, Nat.reduceMul, Nat.reduceSub, Nat.reduceLT, Nat.reduceLeDiff, Nat.reduceEqDiff, Int.reduceEq, Int.reduceLT, Int.reduceLE, Int.reduceNe, G12s_none, conNone_s, G12s_ix, conIx_s, G12s_del, conDel, List.headD_cons, hh, hic, hcc, set_lt hcbt, hSP, hrd, hFn, hIx, hn, evList, evO, len_st96 hS, idx_st96 hS, ld_st96 hS, sh_st96 hS, sw_st96 hS, sf_st96_0 hS, sc_st96_0 hS, sf_st96_1 hS, sc_st96_1 hS, sf_st96_2 hS, sc_st96_2 hS, hS.P, hS.oc, hS.cl, hS.rd, hS.ref, strip_P lvs, strip_rd lvs, strip_ld lvs, strip_sl hS lvs k_st96, hcb, hbc, set_lt hbt, hlt, hneg, hw, hcp, cutV, cutU, hne, ownS]; repeat (refine Vc.mk' ?_; simp only [go_sem, reduceIte, reduceCtorEq, Nat.reduceAdd, Nat.reduceMul, Nat.reduceSub, Nat.reduceLT, Nat.reduceLeDiff, Nat.reduceEqDiff, Int.reduceEq, Int.reduceLT, Int.reduceLE, Int.reduceNe, G12s_none, conNone_s, G12s_ix, conIx_s, G12s_del, conDel, List.headD_cons, hh, hic, hcc, set_lt hcbt, hSP, hrd, hFn, hIx, hn, evList, evO, len_st96 hS, idx_st96 hS, ld_st96 hS, sh_st96 hS, sw_st96 hS, sf_st96_0 hS, sc_st96_0 hS, sf_st96_1 hS, sc_st96_1 hS, sf_st96_2 hS, sc_st96_2 hS, hS.P, hS.oc, hS.cl, hS.rd, hS.ref, strip_P lvs, strip_rd lvs, strip_ld lvs, strip_sl hS lvs k_st96, hcb, hbc, set_lt hbt, hlt, hneg, hw, hcp, cutV, cutU, hne, ownS]))
      simp only [dropRes_s, ixT_s, hi, hlt, if_true, cutV, cutU, hne, if_false, ownS, ownO]
      exact ⟨[], by simp, by simp, by simp, by simp [frSub, lkG, ren, renL, renL_set, renL_ints, UpdOk.nil, UpdOk.cons, renOO_some, renO_cells, renO_map, renOO_mkOb, rn_base, rn_add, ren_mkSl, Enc.flat_ren, set_same, set_ne, sets_cons, sets_nil, Keep.set, Keep.setK, Keep.refl, rn_low hcbt, rn_low hbt, hbc, hcb, Enc.flat_ren], by simp [frSub, lkG, ren, renL, renL_set, renL_ints, UpdOk.nil, UpdOk.cons, renOO_some, renO_cells, renO_map, renOO_mkOb, rn_base, rn_add, ren_mkSl, Enc.flat_ren, set_same, set_ne, sets_cons, sets_nil, Keep.set, Keep.setK, Keep.refl, rn_low hcbt, rn_low hbt, hbc, hcb, Enc.flat_ren], by simp [frSub, lkG, ren, renL, renL_set, renL_ints, UpdOk.nil, UpdOk.cons, renOO_some, renO_cells, renO_map, renOO_mkOb, rn_base, rn_add, ren_mkSl, Enc.flat_ren, set_same, set_ne, sets_cons, sets_nil, Keep.set, Keep.setK, Keep.refl, rn_low hcbt, rn_low hbt, hbc, hcb, Enc.flat_ren]⟩
  · have hneg : (-1 : Int) < 0 := by decide
    refine CW.vc env12s [0, 1, 3, 4, 5, 7, 15] (by kernel_rfl) ?_
    (simp only [go_sem, reduceIte, reduceCtorEq, Nat.reduceAdd, Nat.reduceMul, Nat.reduceSub, Nat.reduceLT, Nat.reduceLeDiff, Nat.reduceEqDiff, Int.reduceEq, Int.reduceLT, Int.reduceLE, Int.reduceNe, G12s_none, conNone_s, G12s_ix, conIx_s, G12s_del, conDel, List.headD_cons, hh, hic, hcc, set_lt hcbt, hSP, hrd, hFn, hIx, hn, evList, evO, len_st96 hS, idx_st96 hS, ld_st96 hS, sh_st96 hS, sw_st96 hS, sf_st96_0 hS, sc_st96_0 hS, sf_st96_1 hS, sc_st96_1 hS, sf_st96_2 hS, sc_st96_2 hS, hS.P, hS.oc, hS.cl, hS.rd, hS.ref, strip_P lvs, strip_rd lvs, strip_ld lvs, strip_sl hS lvs k_st96, hlt, hneg]; repeat (refine Vc.mk' ?_; simp only [go_sem, reduceIte, reduceCtorEq, Nat.reduceAdd, Nat.reduceMul, Nat.reduceSub, Nat.reduceLT, Nat.reduceLeDiff, Nat.reduceEqDiff, Int.reduceEq, Int.reduceLT, Int.reduceLE, Int.reduceNe, G12s_none, conNone_s, G12s_ix, conIx_s, G12s_del, conDel, List.headD_cons, hh, hic, hcc, set_lt hcbt, hSP, hrd, hFn, hIx, hn, evList, evO, len_st96 hS, idx_st96 hS, ld_st96 hS, sh_st96 hS, sw_st96 hS, sf_st96_0 hS, sc_st96_0 hS, sf_st96_1 hS, sc_st96_1 hS, sf_st96_2 hS, sc_st96_2 hS, hS.P, hS.oc, hS.cl, hS.rd, hS.ref, strip_P lvs, strip_rd lvs, strip_ld lvs, strip_sl hS lvs k_st96, hlt, hneg]))
    simp only [dropRes_s, ixT_s, hi, hlt, if_false]
    exact ⟨[], by simp, by simp, by simp, by simp [frSub, lkG, ren, renL, renL_set, renL_ints, UpdOk.nil, UpdOk.cons, renOO_some, renO_cells, renO_map, renOO_mkOb, rn_base, rn_add, ren_mkSl, Enc.flat_ren, set_same, set_ne, sets_cons, sets_nil, Keep.set, Keep.setK, Keep.refl], by simp [frSub, lkG, ren, renL, renL_set, renL_ints, UpdOk.nil, UpdOk.cons, renOO_some, renO_cells, renO_map, renOO_mkOb, rn_base, rn_add, ren_mkSl, Enc.flat_ren, set_same, set_ne, sets_cons, sets_nil, Keep.set, Keep.setK, Keep.refl], by simp [frSub, lkG, ren, renL, renL_set, renL_ints, UpdOk.nil, UpdOk.cons, renOO_some, renO_cells, renO_map, renOO_mkOb, rn_base, rn_add, ren_mkSl, Enc.flat_ren, set_same, set_ne, sets_cons, sets_nil, Keep.set, Keep.setK, Keep.refl]⟩
end Go.Proofs.Ytogndgadipdikaa.Dm
