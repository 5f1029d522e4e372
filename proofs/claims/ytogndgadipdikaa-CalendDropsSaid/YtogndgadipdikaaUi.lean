/- A calendar of numbers: DeleteFunc, Sift, Drop. -/
import Derived.Test.YtogndgadipdikaaVi
set_option linter.unusedSimpArgs false
set_option linter.unusedVariables false
namespace Go.Proofs.Ytogndgadipdikaa.Dm
open Go.Dm
set_option maxHeartbeats 8000000
set_option maxRecDepth 20000

def dfV {α : Type} (v : Value) (l : List α) : Value := match v with
  | .slice (some ⟨b, _, _⟩) _ _ => ownS b l.length
  | v => v
def dfU {α : Type} (E : Enc α) (v : Value) (l : List α) : Upds := match v with
  | .slice (some ⟨b, _, _⟩) _ _ => [(b, ownO E l)]
  | _ => []
def kept (l : List T_t74) : List T_t74 := l.filter fun a => !isOdd a.v
def conDf_i : Con := .det (fun args hp _ => match args with | [v, f] => (∃ l, OwnV e_t74 hp v l) ∧ (∃ b, f = siV b ∧ hp b = some (.cells true 0 [odV])) | _ => False)
  (fun args hp top => match args with | [v, _] => (dfV v (kept (e_t74.rd hp v)), dfU e_t74 v (kept (e_t74.rd hp v)), top) | _ => (undef, [], top))
def G11 : FuncId → Con := addG G10 47 conIx_i
theorem env11 : EnvV Try.prog tt.get G11 := env10.add ix_i_ok
theorem G11_ix : G11 47 = conIx_i := rfl
theorem G11_s1 : G11 50 = conS1_i := rfl
theorem hi_raw {tt : TTab} {t e : TypeId} {j : TI} {h' : Hp} {b n c i z : Nat} {vs : List Value} (hk : kindOf tt t = some (.slice e)) (hj : tt e = some j) (hb : h' b = some (.cells true z vs)) (hi : i ≤ c) :
    sslice tt h' t (.slice (some ⟨b, 0, none⟩) n c) none (some (.int .i64 (i : Int))) = (.slice (some ⟨b, 0, none⟩) i c, True) := by
  simp only [sslice, hk, hj, hb, isBound, sbound, IsN_int, intOf_int, true_and, Prod.mk.injEq, eq_iff_iff, iff_true, Int.toNat_natCast]
  omega
/-- the rows so far, and where the next one goes -/
structure DfI (l m : List T_t74) (i j : Nat) : Prop where
  len : m.length = l.length
  lt : i < j
  le : j ≤ l.length
  tk : m.take i = kept (l.take j)
  dr : m.drop j = l.drop j
theorem kept_append (a b : List T_t74) : kept (a ++ b) = kept a ++ kept b := List.filter_append ..
theorem DfI.skip {l m : List T_t74} {i j : Nat} (h : DfI l m i j) (hj : j < l.length) (hg : isOdd (at' l j).v = true) : DfI l m i (j + 1) :=
  ⟨h.len, by have := h.lt; omega, hj, by rw [take_at hj, kept_append, h.tk]; simp [kept, hg], by rw [← List.drop_drop, h.dr, List.drop_drop]⟩
theorem DfI.at {l m : List T_t74} {i j : Nat} (h : DfI l m i j) (hj : j < l.length) : at' m j = at' l j := by
  have := h.dr
  rw [drop_at hj, drop_at (by rw [h.len]; exact hj)] at this
  exact (List.cons.inj this).1
theorem DfI.keep {l m : List T_t74} {i j : Nat} (h : DfI l m i j) (hj : j < l.length) (hg : isOdd (at' l j).v = false) : DfI l (m.set i (at' l j)) (i + 1) (j + 1) := by
  have hlt := h.lt
  have hle := h.le
  have hln := h.len
  refine ⟨by rw [List.length_set, h.len], by omega, hj, ?_, ?_⟩
  · rw [take_at hj, kept_append, ← h.tk, List.take_succ_eq_append_getElem (by rw [List.length_set]; omega), List.getElem_set_self, List.take_set_of_le (Nat.le_refl _)]
    simp [kept, hg]
  · rw [List.drop_set_of_lt (by omega), ← List.drop_drop, h.dr, List.drop_drop]
theorem ixF_spec {α : Type} [Inhabited α] {p : α → Bool} : ∀ {l : List α}, ixF p l < l.length → (l.take (ixF p l)).filter (fun a => !p a) = l.take (ixF p l) ∧ p (at' l (ixF p l)) = true
  | [], h => by simp [ixF] at h
  | a :: l, h => by
    cases c : p a with
    | true =>
      have e : ixF p (a :: l) = 0 := by unfold ixF; rw [List.takeWhile_cons, if_neg (by simp [c])]; rfl
      rw [e]
      exact ⟨rfl, c⟩
    | false =>
      have e : ixF p (a :: l) = ixF p l + 1 := by unfold ixF; rw [List.takeWhile_cons, if_pos (by simp [c]), List.length_cons]
      rw [e] at h ⊢
      obtain ⟨h1, h2⟩ := ixF_spec (p := p) (l := l) (by simp only [List.length_cons] at h; omega)
      refine ⟨?_, ?_⟩
      · rw [List.take_succ_cons, List.filter_cons, if_pos (by simp [c]), h1]
      · exact h2
theorem DfI.start {l : List T_t74} (h : ixF (fun a : T_t74 => isOdd a.v) l < l.length) : DfI l l (ixF (fun a : T_t74 => isOdd a.v) l) (ixF (fun a : T_t74 => isOdd a.v) l + 1) := by
  obtain ⟨h1, h2⟩ := ixF_spec h
  refine ⟨rfl, by omega, h, ?_, rfl⟩
  rw [take_at h, kept_append]
  unfold kept
  rw [h1]
  simp [h2]
theorem zer_one (n : Nat) : oneCells (zerosA ti74 n) = true := by
  unfold zerosA
  induction n with
  | zero => rfl
  | succ n ih => rw [List.replicate_succ, List.flatten_cons]; exact ih
theorem zer_ren (n : Nat) (ρ : Nat → Nat) : renL ρ (zerosA ti74 n) = zerosA ti74 n := by
  unfold zerosA
  induction n with
  | zero => rfl
  | succ n ih => rw [List.replicate_succ, List.flatten_cons, renL_append, ih]; rfl
def stDf (hp : Hp) (top b bf : Nat) (x : Nat × List T_t74 × Nat) : SS :=
  ⟨[(0, mkSl b x.2.1, true), (1, siV bf, true), (5, .int .i64 (x.2.2 : Int), true), (6, .int .i64 (x.1 : Int), true)], hp.sets [(b, mkOb e_t74 x.2.1)], top + 0⟩
def rawDf (b top : Nat) (x : List Value × Nat × Nat) : Value × Upds × Nat := (.slice (some ⟨b, 0, none⟩) x.2.1 x.2.2, [(b, some (.cells true 3 x.1))], top)

theorem df_raw (hp : Hp) (top b bf : Nat) (l : List T_t74) (hb : hp b = mkOb e_t74 l) (hf : hp bf = some (.cells true 0 [odV])) (hn : l.length ≤ 9223372036854775807) (hx : ixF (fun a => isOdd a.v) l < l.length) (hcl : Cl hp top) (hsc : ScL top [mkSl b l, siV bf]) :
    CalledOk Try.prog 49 [mkSl b l, siV bf] hp top fun v1 h1 top1 => ∃ x : List Value × Nat × Nat, (x.2.1 = (kept l).length ∧ x.1.take (x.2.1 * 3) = e_t74.flat (kept l)) ∧ top ≤ top1 ∧ ∃ bs, RetR hp top bs (rawDf b top x) v1 h1 top1 := by
  have hbt : b < top := by
    cases l with
    | nil => simp [ixF] at hx
    | cons a l => exact hcl.lt _ _ hb
  have hbft : bf < top := hcl.lt _ _ hf
  have hne : ¬ bf = b := fun e => by
    subst e
    rw [hf] at hb
    cases l with
    | nil => cases hb
    | cons a l => simp only [mkOb, Option.some.injEq, AObj.cells.injEq] at hb; exact absurd hb.2.1 (by decide)
  have hSP : ∀ {h' : Hp}, h' b = mkOb e_t74 l → SlP e_t74 h' (mkSl b l) = True := fun h => (SlT.ownB h hn).P
  have hSr : ∀ {h' : Hp}, h' b = mkOb e_t74 l → e_t74.rd h' (mkSl b l) = l := fun h => (SlT.ownB h hn).rd
  have hFn : ∀ {h' : Hp}, h' bf = some (.cells true 0 [odV]) → FnOk_i h' (siV bf) = True := fun h => eq_true (Or.inr ⟨bf, rfl, h⟩)
  generalize hi0 : ixF (fun a : T_t74 => isOdd a.v) l = i0 at hx
  have hm1 : ¬ (i0 : Int) = -1 := by omega
  have hw0 : wrapA .i64 ((i0 : Int) + 1) = ((i0 + 1 : Nat) : Int) := by rw [wrap64 (by omega) (by omega)]; omega
  refine CalledOk.of_fun tt_ok fn49_ok rfl 42 rfl [.tmp 4] rfl (show 2 ≤ 42 by decide) ?_
  refine CW.vc env11 [0, 1, 4, 5, 6, 7, 12, 19, 29] (by kernel_rfl) ?_
  (simp only [go_sem, reduceIte, reduceCtorEq, Nat.reduceAdd, Nat.reduceMul, Nat.reduceSub, Nat.reduceLT, Nat.reduceLeDiff, Nat.reduceEqDiff, Int.reduceEq, Int.reduceLT, Int.reduceLE, Int.reduceNe, G11_ix, conIx_i, hSP, hSr, hb, hf, hFn, fnF_si, hi0, ixRes, hx, hm1, hw0]; repeat (refine Vc.mk' ?_; simp only [go_sem, reduceIte, reduceCtorEq, Nat.reduceAdd, Nat.reduceMul, Nat.reduceSub, Nat.reduceLT, Nat.reduceLeDiff, Nat.reduceEqDiff, Int.reduceEq, Int.reduceLT, Int.reduceLE, Int.reduceNe, G11_ix, conIx_i, hSP, hSr, hb, hf, hFn, fnF_si, hi0, ixRes, hx, hm1, hw0]))
  refine CW.loopR (stDf hp top b bf) (fun x => DfI l x.2.1 x.2.2 x.1) (fun x => l.length - x.1) (i0 + 1, l, i0) ?_ ?_ ?_
  · rw [← hi0] at hx ⊢; exact DfI.start hx
  · exact SubR.mk' [] hcl (by simp) (by simp) rfl (frSub_ok (by simp [frSub, lkG, ren, renL, renL_set, renL_ints, UpdOk.nil, UpdOk.cons, renOO_some, renO_cells, renO_map, renOO_mkOb, rn_base, rn_add, ren_mkSl, Enc.flat_ren, set_same, set_ne, sets_cons, sets_nil, Keep.set, Keep.setK, Keep.refl, siV, rn_low hbt, rn_low hbft, hb])) (by simp [frSub, lkG, ren, renL, renL_set, renL_ints, UpdOk.nil, UpdOk.cons, renOO_some, renO_cells, renO_map, renOO_mkOb, rn_base, rn_add, ren_mkSl, Enc.flat_ren, set_same, set_ne, sets_cons, sets_nil, Keep.set, Keep.setK, Keep.refl, siV, rn_low hbt, rn_low hbft, hb]) (by simp [frSub, lkG, ren, renL, renL_set, renL_ints, UpdOk.nil, UpdOk.cons, renOO_some, renO_cells, renO_map, renOO_mkOb, rn_base, rn_add, ren_mkSl, Enc.flat_ren, set_same, set_ne, sets_cons, sets_nil, Keep.set, Keep.setK, Keep.refl, siV, rn_low hbt, rn_low hbft, hb])
  · rintro ⟨j, m, i⟩ hI
    replace hI : DfI l m i j := hI
    have hml := hI.len
    have hij := hI.lt
    have hjl := hI.le
    have hMS : SlT e_t74 (hp.set b (mkOb e_t74 m)) (mkSl b m) m := .ownB (set_same ..) (by omega)
    by_cases hlt : j < l.length
    · have hjm : j < m.length := by omega
      have him : i < m.length := by omega
      have hil : i < l.length := by omega
      have hat := hI.at hlt
      cases c1 : isOdd (at' l j).v with
      | true =>
        refine CW.vc env11 [0, 1, 4, 5, 6, 7, 12, 19, 29] (by kernel_rfl) ?_
        (simp only [go_sem, reduceIte, reduceCtorEq, Nat.reduceAdd, Nat.reduceMul, Nat.reduceSub, Nat.reduceLT, Nat.reduceLeDiff, Nat.reduceEqDiff, Int.reduceEq, Int.reduceLT, Int.reduceLE, Int.reduceNe, G11_s1, conS1_i, stDf, siV, len_st74 hMS, idx_st74 hMS, ld_st74 hMS, hml, hlt, hjm, him, hat, en_t74, c1, hf, hne, hbt, hbft, set_lt hbft]; repeat (refine Vc.mk' ?_; simp only [go_sem, reduceIte, reduceCtorEq, Nat.reduceAdd, Nat.reduceMul, Nat.reduceSub, Nat.reduceLT, Nat.reduceLeDiff, Nat.reduceEqDiff, Int.reduceEq, Int.reduceLT, Int.reduceLE, Int.reduceNe, G11_s1, conS1_i, stDf, siV, len_st74 hMS, idx_st74 hMS, ld_st74 hMS, hml, hlt, hjm, him, hat, en_t74, c1, hf, hne, hbt, hbft, set_lt hbft]))
        exact .mk (j + 1, m, i) (hI.skip hlt c1) (show l.length - (j + 1) < l.length - j by omega) (SubR.mk' [] hcl (by simp) (by simp) rfl (frSub_ok (by simp [frSub, lkG, ren, renL, renL_set, renL_ints, UpdOk.nil, UpdOk.cons, renOO_some, renO_cells, renO_map, renOO_mkOb, rn_base, rn_add, ren_mkSl, Enc.flat_ren, set_same, set_ne, sets_cons, sets_nil, Keep.set, Keep.setK, Keep.refl, siV, rn_low hbt, rn_low hbft, set_lt hbt, wrap_succ hlt hn])) (by simp [frSub, lkG, ren, renL, renL_set, renL_ints, UpdOk.nil, UpdOk.cons, renOO_some, renO_cells, renO_map, renOO_mkOb, rn_base, rn_add, ren_mkSl, Enc.flat_ren, set_same, set_ne, sets_cons, sets_nil, Keep.set, Keep.setK, Keep.refl, siV, rn_low hbt, rn_low hbft, set_lt hbt, wrap_succ hlt hn]) (by simp [frSub, lkG, ren, renL, renL_set, renL_ints, UpdOk.nil, UpdOk.cons, renOO_some, renO_cells, renO_map, renOO_mkOb, rn_base, rn_add, ren_mkSl, Enc.flat_ren, set_same, set_ne, sets_cons, sets_nil, Keep.set, Keep.setK, Keep.refl, siV, rn_low hbt, rn_low hbft, set_lt hbt, wrap_succ hlt hn]))
      | false =>
        have hset : mkSl b (m.set i (at' l j)) = mkSl b m := mkSl_len (by rw [List.length_set])
        have hst : ∀ {h' : Hp}, h' b = mkOb e_t74 m → sstore tt.get h' 74 (ptrS (mkSl b m) (i * 3)) (.agg ⟨[.int .u64 (at' l j).at_, .int .i64 (at' l j).ticket, .int .i64 (at' l j).v]⟩) = ([(b, mkOb e_t74 (m.set i (at' l j)))], True) := fun h => os_st74 h him
        refine CW.vc env11 [0, 1, 4, 5, 6, 7, 12, 19, 29] (by kernel_rfl) ?_
        (simp only [go_sem, reduceIte, reduceCtorEq, Nat.reduceAdd, Nat.reduceMul, Nat.reduceSub, Nat.reduceLT, Nat.reduceLeDiff, Nat.reduceEqDiff, Int.reduceEq, Int.reduceLT, Int.reduceLE, Int.reduceNe, G11_s1, conS1_i, stDf, siV, len_st74 hMS, idx_st74 hMS, ld_st74 hMS, hml, hlt, hjm, him, hil, hat, hst, en_t74, c1, hf, hne, hbt, hbft, set_lt hbft, set_lt hbt, mk_t74]; repeat (refine Vc.mk' ?_; simp only [go_sem, reduceIte, reduceCtorEq, Nat.reduceAdd, Nat.reduceMul, Nat.reduceSub, Nat.reduceLT, Nat.reduceLeDiff, Nat.reduceEqDiff, Int.reduceEq, Int.reduceLT, Int.reduceLE, Int.reduceNe, G11_s1, conS1_i, stDf, siV, len_st74 hMS, idx_st74 hMS, ld_st74 hMS, hml, hlt, hjm, him, hil, hat, hst, en_t74, c1, hf, hne, hbt, hbft, set_lt hbft, set_lt hbt, mk_t74]))
        exact .mk (j + 1, m.set i (at' l j), i + 1) (hI.keep hlt c1) (show l.length - (j + 1) < l.length - j by omega) (SubR.mk' [] hcl (by simp) (by simp) rfl (frSub_ok (by simp [frSub, lkG, ren, renL, renL_set, renL_ints, UpdOk.nil, UpdOk.cons, renOO_some, renO_cells, renO_map, renOO_mkOb, rn_base, rn_add, ren_mkSl, Enc.flat_ren, set_same, set_ne, sets_cons, sets_nil, Keep.set, Keep.setK, Keep.refl, siV, rn_low hbt, rn_low hbft, set_lt hbt, hset, wrap_succ hlt hn, wrap_succ him (by omega : m.length ≤ 9223372036854775807)])) (by simp [frSub, lkG, ren, renL, renL_set, renL_ints, UpdOk.nil, UpdOk.cons, renOO_some, renO_cells, renO_map, renOO_mkOb, rn_base, rn_add, ren_mkSl, Enc.flat_ren, set_same, set_ne, sets_cons, sets_nil, Keep.set, Keep.setK, Keep.refl, siV, rn_low hbt, rn_low hbft, set_lt hbt, hset, wrap_succ hlt hn, wrap_succ him (by omega : m.length ≤ 9223372036854775807)]) (by simp [frSub, lkG, ren, renL, renL_set, renL_ints, UpdOk.nil, UpdOk.cons, renOO_some, renO_cells, renO_map, renOO_mkOb, rn_base, rn_add, ren_mkSl, Enc.flat_ren, set_same, set_ne, sets_cons, sets_nil, Keep.set, Keep.setK, Keep.refl, siV, rn_low hbt, rn_low hbft, set_lt hbt, hset, wrap_succ hlt hn, wrap_succ him (by omega : m.length ≤ 9223372036854775807)]))
    · have hj2 : j = l.length := by omega
      have hil : i < l.length := by omega
      have him : i < m.length := by omega
      have hmv : mkSl b m = .slice (some ⟨b, 0, none⟩) m.length m.length := by
        cases m with
        | nil => simp at him
        | cons a m => rfl
      have hmo : mkOb e_t74 m = some (.cells true 3 (e_t74.flat m)) := by
        cases m with
        | nil => simp at him
        | cons a m => rfl
      obtain ⟨vs, hvs⟩ : ∃ vs, vs = splice (e_t74.flat m) (i * 3) (zerosA ti74 (m.length - i)) := ⟨_, rfl⟩
      have hzl : (zerosA ti74 (m.length - i)).length = (m.length - i) * 3 := zerosA_length (tt_ok _ _ t_t74) _
      have hcl2 : ∀ {h' : Hp}, h' b = mkOb e_t74 m → clearA tt.get h' [67] (subL 3 (mkSl b m) i) = some [(b, some (.cells true 3 vs))] := fun {h'} h => by
        rw [hmv, hvs]
        simp only [subL, him, or_true, if_true, Nat.zero_add]
        exact clearA_some t_st74 rfl t_t74 rfl (by rw [h, hmo]) (by rw [Enc.flat_len]; show i * 3 + (m.length - i) * 3 ≤ m.length * 3; omega) (by omega) (zer_one _)
      have hren : ∀ {ρ : Nat → Nat}, renL ρ vs = vs := fun {ρ} => by
        have e1 : (e_t74.flat m).take (i * 3) = e_t74.flat (m.take i) := Enc.flat_take (E := e_t74) m i
        have e2 : (e_t74.flat m).drop (i * 3 + (zerosA ti74 (m.length - i)).length) = [] := List.drop_eq_nil_of_le (by rw [hzl, Enc.flat_len]; show m.length * 3 ≤ _; omega)
        rw [hvs]
        unfold splice
        rw [e1, e2, List.append_nil, renL_append, Enc.flat_ren, zer_ren]
      have hhi : ∀ {h' : Hp}, h' b = some (.cells true 3 (cellsOf (h' b))) → sslice tt.get h' 67 (mkSl b m) none (some (.int .i64 (i : Int))) = (.slice (some ⟨b, 0, none⟩) i m.length, True) := fun {h'} h => by
        rw [hmv]; exact hi_raw k_st74 t_t74 h (by omega)
      have htk := hI.tk
      rw [hj2, List.take_length] at htk
      have hkl : (kept l).length = i := by rw [← htk, List.length_take]; omega
      have hspl : vs.take (i * 3) = e_t74.flat (kept l) := by
        have h3 : i * 3 ≤ (e_t74.flat m).length := by rw [Enc.flat_len]; show i * 3 ≤ m.length * 3; omega
        rw [hvs]
        unfold splice
        rw [List.append_assoc, List.take_append_of_le_length (by rw [List.length_take]; omega), List.take_take, Nat.min_self, ← htk]
        exact Enc.flat_take (E := e_t74) m i
      refine CW.vc env11 [0, 1, 4, 5, 6, 7, 12, 19, 29] (by kernel_rfl) ?_
      (simp only [go_sem, reduceIte, reduceCtorEq, Nat.reduceAdd, Nat.reduceMul, Nat.reduceSub, Nat.reduceLT, Nat.reduceLeDiff, Nat.reduceEqDiff, Int.reduceEq, Int.reduceLT, Int.reduceLE, Int.reduceNe, stDf, len_st74 hMS, sw_st74 hMS, hml, hj2, Nat.lt_irrefl, decide_false, hcl2, hhi, him, Nat.le_of_lt him, Nat.le_of_lt hil, cellsOf_some]; repeat (refine Vc.mk' ?_; simp only [go_sem, reduceIte, reduceCtorEq, Nat.reduceAdd, Nat.reduceMul, Nat.reduceSub, Nat.reduceLT, Nat.reduceLeDiff, Nat.reduceEqDiff, Int.reduceEq, Int.reduceLT, Int.reduceLE, Int.reduceNe, stDf, len_st74 hMS, sw_st74 hMS, hml, hj2, Nat.lt_irrefl, decide_false, hcl2, hhi, him, Nat.le_of_lt him, Nat.le_of_lt hil, cellsOf_some]))
      refine ⟨(vs, i, l.length), ⟨hkl.symm, hspl⟩, ?_⟩
      simp only [rawDf]
      exact ⟨[], by simp, by simp, by simp, by simp [frSub, lkG, ren, renL, renL_set, renL_ints, UpdOk.nil, UpdOk.cons, renOO_some, renO_cells, renO_map, renOO_mkOb, rn_base, rn_add, ren_mkSl, Enc.flat_ren, set_same, set_ne, sets_cons, sets_nil, Keep.set, Keep.setK, Keep.refl, rawDf, rn_low hbt, hren], by simp [frSub, lkG, ren, renL, renL_set, renL_ints, UpdOk.nil, UpdOk.cons, renOO_some, renO_cells, renO_map, renOO_mkOb, rn_base, rn_add, ren_mkSl, Enc.flat_ren, set_same, set_ne, sets_cons, sets_nil, Keep.set, Keep.setK, Keep.refl, rawDf, rn_low hbt, hren], by simp [frSub, lkG, ren, renL, renL_set, renL_ints, UpdOk.nil, UpdOk.cons, renOO_some, renO_cells, renO_map, renOO_mkOb, rn_base, rn_add, ren_mkSl, Enc.flat_ren, set_same, set_ne, sets_cons, sets_nil, Keep.set, Keep.setK, Keep.refl, rawDf, rn_low hbt, hren]⟩
theorem df_i_ok : ConOk Try.prog 49 conDf_i := by
  refine ⟨⟨_, fn49_ok.toFTOk⟩, fun args hp top hpre => ?_⟩
  match args, hpre with
  | [v, f], ⟨⟨l, hO⟩, bf, hfe, hf⟩ =>
  subst hfe
  simp only [hO.slT.rd]
  have hn := hO.slT.le
  by_cases hx : ixF (fun a : T_t74 => isOdd a.v) l < l.length
  · cases hO with
    | nil => simp [ixF] at hx
    | blk b l hb hn' =>
      cases l with
      | nil => simp [ixF] at hx
      | cons a l =>
        show CalledOk Try.prog 49 [mkSl b (a :: l), siV bf] hp top _
        intro φ own w args' ha H htop
        refine Calls.mono (shrink (b := b) (i := (kept (a :: l)).length) (z := 3) (rows := e_t74.flat (kept (a :: l))) ?_ φ own w args' ha H htop) ?_
        · intro φ own w args' ha H htop
          refine Calls.mono (mkDetE (fun hcl hsc => df_raw hp top b bf (a :: l) hb hf hn hx hcl hsc) φ own w args' ha H htop) ?_
          rintro e w' ⟨v1, h1, t1, v', φ', rfl, ⟨x, ⟨hx1, hx2⟩, rfl, rfl, rfl⟩, W⟩
          exact ⟨_, _, _, v', φ', rfl, ⟨x.2.2, x.1, by rw [← hx1]; rfl, rfl, rfl, by rw [← hx1, hx2]⟩, W⟩
        · rintro e w' ⟨v1, h1, t1, v', φ', rfl, ⟨rfl, rfl, rfl⟩, W⟩
          exact ⟨_, _, _, v', φ', rfl, ⟨rfl, rfl, rfl⟩, W⟩
  · have hxe : ixF (fun a : T_t74 => isOdd a.v) l = l.length := by have := ixF_le (fun a : T_t74 => isOdd a.v) l; omega
    have hk : kept l = l := filter_none hxe
    refine CalledOk.mkDet (r := (dfV v (kept l), dfU e_t74 v (kept l), top)) ?_
    intro hcl hsc
    have lvs := hO.slT.low hcl
    have hbft : bf < top := hcl.lt _ _ hf
    have hSP : ∀ {h' : Hp}, Keep top [] h' hp → SlP e_t74 h' v = True := fun {h'} hk => (hO.mono fun b n c e => by subst e; exact hk b lvs (by simp)).slT.P
    have hSr : ∀ {h' : Hp}, Keep top [] h' hp → e_t74.rd h' v = l := fun {h'} hk => (hO.mono fun b n c e => by subst e; exact hk b lvs (by simp)).slT.rd
    have hFn : ∀ {h' : Hp}, h' bf = some (.cells true 0 [odV]) → FnOk_i h' (siV bf) = True := fun h => eq_true (Or.inr ⟨bf, rfl, h⟩)
    refine CalledOk.of_fun tt_ok fn49_ok rfl 42 rfl [.tmp 4] rfl (show 2 ≤ 42 by decide) ?_
    refine CW.vc env11 [0, 1, 4, 5, 6, 7, 12, 19, 29] (by kernel_rfl) ?_
    (simp only [go_sem, reduceIte, reduceCtorEq, Nat.reduceAdd, Nat.reduceMul, Nat.reduceSub, Nat.reduceLT, Nat.reduceLeDiff, Nat.reduceEqDiff, Int.reduceEq, Int.reduceLT, Int.reduceLE, Int.reduceNe, G11_ix, conIx_i, hSP, hSr, hf, hFn, fnF_si, hxe, ixRes, Nat.lt_irrefl]; repeat (refine Vc.mk' ?_; simp only [go_sem, reduceIte, reduceCtorEq, Nat.reduceAdd, Nat.reduceMul, Nat.reduceSub, Nat.reduceLT, Nat.reduceLeDiff, Nat.reduceEqDiff, Int.reduceEq, Int.reduceLT, Int.reduceLE, Int.reduceNe, G11_ix, conIx_i, hSP, hSr, hf, hFn, fnF_si, hxe, ixRes, Nat.lt_irrefl]))
    rw [hk]
    cases hO with
    | nil =>
      simp only [dfV, dfU]
      exact ⟨[], by simp, by simp, by simp, by simp [frSub, lkG, ren, renL, renL_set, renL_ints, UpdOk.nil, UpdOk.cons, renOO_some, renO_cells, renO_map, renOO_mkOb, rn_base, rn_add, ren_mkSl, Enc.flat_ren, set_same, set_ne, sets_cons, sets_nil, Keep.set, Keep.setK, Keep.refl], by simp [frSub, lkG, ren, renL, renL_set, renL_ints, UpdOk.nil, UpdOk.cons, renOO_some, renO_cells, renO_map, renOO_mkOb, rn_base, rn_add, ren_mkSl, Enc.flat_ren, set_same, set_ne, sets_cons, sets_nil, Keep.set, Keep.setK, Keep.refl], by simp [frSub, lkG, ren, renL, renL_set, renL_ints, UpdOk.nil, UpdOk.cons, renOO_some, renO_cells, renO_map, renOO_mkOb, rn_base, rn_add, ren_mkSl, Enc.flat_ren, set_same, set_ne, sets_cons, sets_nil, Keep.set, Keep.setK, Keep.refl]⟩
    | blk b l hb hn' =>
      have hbt : b < top := lvs
      simp only [dfV, dfU, ownS, ownO]
      exact ⟨[], by simp, by simp, by simp, by simp [frSub, lkG, ren, renL, renL_set, renL_ints, UpdOk.nil, UpdOk.cons, renOO_some, renO_cells, renO_map, renOO_mkOb, rn_base, rn_add, ren_mkSl, Enc.flat_ren, set_same, set_ne, sets_cons, sets_nil, Keep.set, Keep.setK, Keep.refl, rn_low hbt, hb, Enc.flat_ren], by simp [frSub, lkG, ren, renL, renL_set, renL_ints, UpdOk.nil, UpdOk.cons, renOO_some, renO_cells, renO_map, renOO_mkOb, rn_base, rn_add, ren_mkSl, Enc.flat_ren, set_same, set_ne, sets_cons, sets_nil, Keep.set, Keep.setK, Keep.refl, rn_low hbt, hb, Enc.flat_ren], by simp [frSub, lkG, ren, renL, renL_set, renL_ints, UpdOk.nil, UpdOk.cons, renOO_some, renO_cells, renO_map, renOO_mkOb, rn_base, rn_add, ren_mkSl, Enc.flat_ren, set_same, set_ne, sets_cons, sets_nil, Keep.set, Keep.setK, Keep.refl, rn_low hbt, hb, Enc.flat_ren]⟩
def G12 : FuncId → Con := addG G11 49 conDf_i
theorem env12 : EnvV Try.prog tt.get G12 := env11.add df_i_ok
theorem G12_df : G12 49 = conDf_i := rfl
theorem G12_ix : G12 47 = conIx_i := rfl
theorem G12_none : G12 34 = conNone_i := rfl
theorem G12_del : G12 45 = conDel e_t74 := rfl
/-! ### Sift -/
theorem slen_raw {h' : Hp} {b n c : Nat} : slen tt.get h' 67 (.slice (some ⟨b, 0, none⟩) n c) = (.int .i64 (n : Int), True) := by
  unfold slen; simp only [k_st74, lenA, t_st74, ti67]; rfl
def siftRes_i (cb : Nat) (last : Int) (lv : Value) (l : List T_t74) (top : Nat) : Value × Upds × Nat :=
  (.int .i64 ((l.length : Int) - ((kept l).length : Int)), (cb, some (.cells true 0 [.bool true, .int .i64 last, dfV lv (kept l)])) :: dfU e_t74 lv (kept l), top)
def CalIs_i (hp : Hp) (cb : Nat) : Prop := ∃ last lv l, CalAt_i hp cb last lv l
def conSift_i : Con := .det (fun args hp _ => match args with | [.pointer (some ⟨cb, 0, none⟩), f] => CalIs_i hp cb ∧ f = odV | _ => False) (fun args hp top => match args with
  | [.pointer (some ⟨cb, _, _⟩), _] => siftRes_i cb (calLast hp cb) (calL hp cb) (e_t74.rd hp (calL hp cb)) top | _ => (undef, [], top))
theorem kept_le (l : List T_t74) : (kept l).length ≤ l.length := List.length_filter_le ..
theorem od_cells : cellsL odV = [odV] := rfl
theorem od_ne : binA tt.get .eql 42 (.tmp 9) (.const Value.nilFunc) odV Value.nilFunc = some (.bool false) := by kernel_rfl

theorem sift_i_ok : ConOk Try.prog 19 conSift_i := by
  refine .mkDet fn19_ok ?_
  intro args hp top hpre hcl hsc
  match args, hpre with
  | [.pointer (some ⟨cb, 0, none⟩), f], ⟨⟨last, lv, l, C⟩, hf⟩ =>
  subst hf
  have hh := C.h
  have hcbt : cb < top := hcl.lt _ _ hh
  have hS := C.o.slT
  have lvs := C.low hcl
  have hn := C.n
  have hkn := kept_le l
  have hcc : ¬ cb = top := by omega
  have hic : ∀ {h' : Hp}, h' cb = some (.cells true 0 [.bool true, .int .i64 last, lv]) → IsCal h' cb = True := fun h => eq_true ⟨_, _, _, h⟩
  simp only [calL, calLast, hh, cellsOf_some, List.getElem?_cons_succ, List.getElem?_cons_zero, Option.getD_some, intOf_int, hS.rd]
  have hOw : ∀ {h' : Hp}, Keep top [] h' hp → (∃ l, OwnV e_t74 h' lv l) = True := fun {h'} hk => eq_true ⟨l, C.o.mono fun b n c e => by subst e; exact hk b lvs (by simp)⟩
  have hrd : ∀ {h' : Hp}, Keep top [] h' hp → e_t74.rd h' lv = l := fun {h'} hk => (C.o.mono fun b n c e => by subst e; exact hk b lvs (by simp)).slT.rd
  have hsi : ∀ {h' : Hp}, h' top = some (.cells true 0 [odV]) → (∃ b, (Value.func (.func 50) ⟨[]⟩ ⟨[.pointer (some ⟨top, 0, none⟩)]⟩) = siV b ∧ h' b = some (.cells true 0 [odV])) = True := fun h => eq_true ⟨top, rfl, h⟩
  have hwk : wrapA .i64 ((l.length : Int) - ((kept l).length : Int)) = (l.length : Int) - ((kept l).length : Int) := wrap64 (by omega) (by omega)
  have hap := C.ap
  have ho := C.o
  refine CalledOk.of_fun tt_ok fn19_ok rfl 33 rfl [.tmp 4] rfl (show 2 ≤ 33 by decide) ?_
  cases ho with
  | nil =>
    refine CW.vc env12 [0, 1, 3, 4, 5, 11] (by kernel_rfl) ?_
    (simp only [go_sem, reduceIte, reduceCtorEq, Nat.reduceAdd, Nat.reduceMul, Nat.reduceSub, Nat.reduceLT, Nat.reduceLeDiff, Nat.reduceEqDiff, Int.reduceEq, Int.reduceLT, Int.reduceLE, Int.reduceNe, G12_none, conNone_i, G12_df, conDf_i, List.headD_cons, hh, hic, hcc, set_lt hcbt, hOw, hrd, hsi, od_cells, od_ne, evList, evO, hwk, dfV, dfU, len_st74 hS, idx_st74 hS, ld_st74 hS, sh_st74 hS, sw_st74 hS, sf_st74_0 hS, sc_st74_0 hS, sf_st74_1 hS, sc_st74_1 hS, sf_st74_2 hS, sc_st74_2 hS, hS.P, hS.oc, hS.cl, hS.rd, hS.ref, strip_P lvs, strip_rd lvs, strip_ld lvs, strip_sl hS lvs k_st74]; repeat (refine Vc.mk' ?_; simp only [go_sem, reduceIte, reduceCtorEq, Nat.reduceAdd, Nat.reduceMul, Nat.reduceSub, Nat.reduceLT, Nat.reduceLeDiff, Nat.reduceEqDiff, Int.reduceEq, Int.reduceLT, Int.reduceLE, Int.reduceNe, G12_none, conNone_i, G12_df, conDf_i, List.headD_cons, hh, hic, hcc, set_lt hcbt, hOw, hrd, hsi, od_cells, od_ne, evList, evO, hwk, dfV, dfU, len_st74 hS, idx_st74 hS, ld_st74 hS, sh_st74 hS, sw_st74 hS, sf_st74_0 hS, sc_st74_0 hS, sf_st74_1 hS, sc_st74_1 hS, sf_st74_2 hS, sc_st74_2 hS, hS.P, hS.oc, hS.cl, hS.rd, hS.ref, strip_P lvs, strip_rd lvs, strip_ld lvs, strip_sl hS lvs k_st74]))
    have hk0 : kept ([] : List T_t74) = [] := rfl
    have hw00 : wrapA .i64 0 = 0 := wrap64 (by omega) (by omega)
    simp only [siftRes_i, dfV, dfU, hk0, List.length_nil]
    exact ⟨[], by simp, by simp, by simp, by simp [frSub, lkG, ren, renL, renL_set, renL_ints, UpdOk.nil, UpdOk.cons, renOO_some, renO_cells, renO_map, renOO_mkOb, rn_base, rn_add, ren_mkSl, Enc.flat_ren, set_same, set_ne, sets_cons, sets_nil, Keep.set, Keep.setK, Keep.refl, rn_low hcbt, hh, hcc, hw00], by simp [frSub, lkG, ren, renL, renL_set, renL_ints, UpdOk.nil, UpdOk.cons, renOO_some, renO_cells, renO_map, renOO_mkOb, rn_base, rn_add, ren_mkSl, Enc.flat_ren, set_same, set_ne, sets_cons, sets_nil, Keep.set, Keep.setK, Keep.refl, rn_low hcbt, hh, hcc, hw00], by simp [frSub, lkG, ren, renL, renL_set, renL_ints, UpdOk.nil, UpdOk.cons, renOO_some, renO_cells, renO_map, renOO_mkOb, rn_base, rn_add, ren_mkSl, Enc.flat_ren, set_same, set_ne, sets_cons, sets_nil, Keep.set, Keep.setK, Keep.refl, rn_low hcbt, hh, hcc, hw00]⟩
  | blk b l hb hn2 =>
    have hbt : b < top := lvs
    have hcb : ¬ cb = b := hap
    have hbc : ¬ b = cb := fun e => hcb e.symm
    refine CW.vc env12 [0, 1, 3, 4, 5, 11] (by kernel_rfl) ?_
    (simp only [go_sem, reduceIte, reduceCtorEq, Nat.reduceAdd, Nat.reduceMul, Nat.reduceSub, Nat.reduceLT, Nat.reduceLeDiff, Nat.reduceEqDiff, Int.reduceEq, Int.reduceLT, Int.reduceLE, Int.reduceNe, G12_none, conNone_i, G12_df, conDf_i, List.headD_cons, hh, hic, hcc, set_lt hcbt, hOw, hrd, hsi, od_cells, od_ne, evList, evO, hwk, dfV, dfU, len_st74 hS, idx_st74 hS, ld_st74 hS, sh_st74 hS, sw_st74 hS, sf_st74_0 hS, sc_st74_0 hS, sf_st74_1 hS, sc_st74_1 hS, sf_st74_2 hS, sc_st74_2 hS, hS.P, hS.oc, hS.cl, hS.rd, hS.ref, strip_P lvs, strip_rd lvs, strip_ld lvs, strip_sl hS lvs k_st74, hcb, hbc, set_lt hbt, ownS, slen_raw]; repeat (refine Vc.mk' ?_; simp only [go_sem, reduceIte, reduceCtorEq, Nat.reduceAdd, Nat.reduceMul, Nat.reduceSub, Nat.reduceLT, Nat.reduceLeDiff, Nat.reduceEqDiff, Int.reduceEq, Int.reduceLT, Int.reduceLE, Int.reduceNe, G12_none, conNone_i, G12_df, conDf_i, List.headD_cons, hh, hic, hcc, set_lt hcbt, hOw, hrd, hsi, od_cells, od_ne, evList, evO, hwk, dfV, dfU, len_st74 hS, idx_st74 hS, ld_st74 hS, sh_st74 hS, sw_st74 hS, sf_st74_0 hS, sc_st74_0 hS, sf_st74_1 hS, sc_st74_1 hS, sf_st74_2 hS, sc_st74_2 hS, hS.P, hS.oc, hS.cl, hS.rd, hS.ref, strip_P lvs, strip_rd lvs, strip_ld lvs, strip_sl hS lvs k_st74, hcb, hbc, set_lt hbt, ownS, slen_raw]))
    simp only [siftRes_i, dfV, dfU, ownS, ownO]
    exact ⟨[], by simp, by simp, by simp, by simp [frSub, lkG, ren, renL, renL_set, renL_ints, UpdOk.nil, UpdOk.cons, renOO_some, renO_cells, renO_map, renOO_mkOb, rn_base, rn_add, ren_mkSl, Enc.flat_ren, set_same, set_ne, sets_cons, sets_nil, Keep.set, Keep.setK, Keep.refl, rn_low hcbt, rn_low hbt, hbc, hcb, Enc.flat_ren], by simp [frSub, lkG, ren, renL, renL_set, renL_ints, UpdOk.nil, UpdOk.cons, renOO_some, renO_cells, renO_map, renOO_mkOb, rn_base, rn_add, ren_mkSl, Enc.flat_ren, set_same, set_ne, sets_cons, sets_nil, Keep.set, Keep.setK, Keep.refl, rn_low hcbt, rn_low hbt, hbc, hcb, Enc.flat_ren], by simp [frSub, lkG, ren, renL, renL_set, renL_ints, UpdOk.nil, UpdOk.cons, renOO_some, renO_cells, renO_map, renOO_mkOb, rn_base, rn_add, ren_mkSl, Enc.flat_ren, set_same, set_ne, sets_cons, sets_nil, Keep.set, Keep.setK, Keep.refl, rn_low hcbt, rn_low hbt, hbc, hcb, Enc.flat_ren]⟩
/-! ### Drop -/
def ixT_i (l : List T_t74) (k : Int) : Nat := ixF (fun a => decide (a.ticket = k)) l
def dropRes_i (cb : Nat) (last : Int) (lv : Value) (l : List T_t74) (k : Int) (top : Nat) : Value × Upds × Nat :=
  if ixT_i l k < l.length then (.bool true, (cb, some (.cells true 0 [.bool true, .int .i64 last, cutV lv l (ixT_i l k) (ixT_i l k + 1)])) :: cutU e_t74 lv l (ixT_i l k) (ixT_i l k + 1), top)
  else (.bool false, [], top)
def conDrop_i : Con := .det (fun args hp _ => match args with | [.pointer (some ⟨cb, 0, none⟩), k] => CalIs_i hp cb ∧ IsI .i64 k | _ => False) (fun args hp top => match args with
  | [.pointer (some ⟨cb, _, _⟩), k] => dropRes_i cb (calLast hp cb) (calL hp cb) (e_t74.rd hp (calL hp cb)) (intOf k) top | _ => (undef, [], top))

theorem drop_i_ok : ConOk Try.prog 18 conDrop_i := by
  refine .mkDet fn18_ok ?_
  intro args hp top hpre hcl hsc
  match args, hpre with
  | [.pointer (some ⟨cb, 0, none⟩), kv], ⟨⟨last, lv, l, C⟩, hkv⟩ =>
  rw [hkv]
  generalize intOf kv = k
  have hh := C.h
  have hcbt : cb < top := hcl.lt _ _ hh
  have hS := C.o.slT
  have lvs := C.low hcl
  have hn := C.n
  have hcc : ¬ cb = top := by omega
  have hic : ∀ {h' : Hp}, h' cb = some (.cells true 0 [.bool true, .int .i64 last, lv]) → IsCal h' cb = True := fun h => eq_true ⟨_, _, _, h⟩
  simp only [calL, calLast, hh, cellsOf_some, List.getElem?_cons_succ, List.getElem?_cons_zero, Option.getD_some, intOf_int, hS.rd]
  have hSP : ∀ {h' : Hp}, Keep top [] h' hp → SlP e_t74 h' lv = True := fun {h'} hk => (C.o.mono fun b n c e => by subst e; exact hk b lvs (by simp)).slT.P
  have hrd : ∀ {h' : Hp}, Keep top [] h' hp → e_t74.rd h' lv = l := fun {h'} hk => (C.o.mono fun b n c e => by subst e; exact hk b lvs (by simp)).slT.rd
  have hFn : ∀ {h' : Hp}, h' top = some (.cells true 0 [.int .i64 k]) → FnOk_i h' (Value.func (.func 48) ⟨[]⟩ ⟨[.pointer (some ⟨top, 0, none⟩)]⟩) = True := fun h => eq_true (Or.inl ⟨top, k, rfl, h⟩)
  have hFF : ∀ {h' : Hp}, h' top = some (.cells true 0 [.int .i64 k]) → fnF_i h' (Value.func (.func 48) ⟨[]⟩ ⟨[.pointer (some ⟨top, 0, none⟩)]⟩) = fun a => decide (a.ticket = k) := fun h => fnF_dr h
  obtain ⟨i, hi⟩ : ∃ i, ixF (fun a : T_t74 => decide (a.ticket = k)) l = i := ⟨_, rfl⟩
  have hil := ixF_le (fun a : T_t74 => decide (a.ticket = k)) l
  rw [hi] at hil
  have hap := C.ap
  have ho := C.o
  refine CalledOk.of_fun tt_ok fn18_ok rfl 27 rfl [.tmp 4] rfl (show 2 ≤ 27 by decide) ?_
  by_cases hlt : i < l.length
  · have hneg : ¬ ((i : Int) < 0) := by omega
    have hw : wrapA .i64 ((i : Int) + 1) = ((i + 1 : Nat) : Int) := wrap_succ hlt (by omega)
    have hcp : ∀ {h' : Hp}, Keep top [] h' hp → CutPre e_t74 h' lv (.int .i64 (i : Int)) (.int .i64 ((i + 1 : Nat) : Int)) = True := fun {h'} hk =>
      eq_true ⟨l, i, i + 1, C.o.mono fun b n c e => by subst e; exact hk b lvs (by simp), rfl, rfl, by omega, hlt⟩
    cases ho with
    | nil => simp at hlt
    | blk b l hb hn2 =>
      have hbt : b < top := lvs
      have hcb : ¬ cb = b := hap
      have hbc : ¬ b = cb := fun e => hcb e.symm
      have hne : ¬ i = i + 1 := by omega
      refine CW.vc env12 [0, 1, 3, 4, 5, 7, 15] (by kernel_rfl) ?_
      (simp only [go_sem, reduceIte, reduceCtorEq, Nat.reduceAdd, Nat.reduceMul, Nat.reduceSub, Nat.reduceLT, Nat.reduceLeDiff, Nat.reduceEqDiff, Int.reduceEq, Int.reduceLT, Int.reduceLE, Int.reduceNe, G12_none, conNone_i, G12_ix, conIx_i, G12_del, conDel, List.headD_cons, hh, hic, hcc, set_lt hcbt, hSP, hrd, hFn, hFF, hi, ixRes, evList, evO, len_st74 hS, idx_st74 hS, ld_st74 hS, sh_st74 hS, sw_st74 hS, sf_st74_0 hS, sc_st74_0 hS, sf_st74_1 hS, sc_st74_1 hS, sf_st74_2 hS, sc_st74_2 hS, hS.P, hS.oc, hS.cl, hS.rd, hS.ref, strip_P lvs, strip_rd lvs, strip_ld lvs, strip_sl hS lvs k_st74, hcb, hbc, set_lt hbt, hlt, hneg, hw, hcp, cutV, cutU, hne, ownS]; repeat (refine Vc.mk' ?_; simp only [go_sem, reduceIte, reduceCtorEq, Nat.reduceAdd, Nat.reduceMul, Nat.reduceSub, Nat.reduceLT, Nat.reduceLeDiff, Nat.reduceEqDiff, Int.reduceEq, Int.reduceLT, Int.reduceLE, Int.reduceNe, G12_none, conNone_i, G12_ix, conIx_i, G12_del, conDel, List.headD_cons, hh, hic, hcc, set_lt hcbt, hSP, hrd, hFn, hFF, hi, ixRes, evList, evO, len_st74 hS, idx_st74 hS, ld_st74 hS, sh_st74 hS, sw_st74 hS, sf_st74_0 hS, sc_st74_0 hS, sf_st74_1 hS, sc_st74_1 hS, sf_st74_2 hS, sc_st74_2 hS, hS.P, hS.oc, hS.cl, hS.rd, hS.ref, strip_P lvs, strip_rd lvs, strip_ld lvs, strip_sl hS lvs k_st74, hcb, hbc, set_lt hbt, hlt, hneg, hw, hcp, cutV, cutU, hne, ownS]))
      simp only [dropRes_i, ixT_i, hi, hlt, if_true, cutV, cutU, hne, if_false, ownS, ownO]
      exact ⟨[], by simp, by simp, by simp, by simp [frSub, lkG, ren, renL, renL_set, renL_ints, UpdOk.nil, UpdOk.cons, renOO_some, renO_cells, renO_map, renOO_mkOb, rn_base, rn_add, ren_mkSl, Enc.flat_ren, set_same, set_ne, sets_cons, sets_nil, Keep.set, Keep.setK, Keep.refl, rn_low hcbt, rn_low hbt, hbc, hcb, Enc.flat_ren], by simp [frSub, lkG, ren, renL, renL_set, renL_ints, UpdOk.nil, UpdOk.cons, renOO_some, renO_cells, renO_map, renOO_mkOb, rn_base, rn_add, ren_mkSl, Enc.flat_ren, set_same, set_ne, sets_cons, sets_nil, Keep.set, Keep.setK, Keep.refl, rn_low hcbt, rn_low hbt, hbc, hcb, Enc.flat_ren], by simp [frSub, lkG, ren, renL, renL_set, renL_ints, UpdOk.nil, UpdOk.cons, renOO_some, renO_cells, renO_map, renOO_mkOb, rn_base, rn_add, ren_mkSl, Enc.flat_ren, set_same, set_ne, sets_cons, sets_nil, Keep.set, Keep.setK, Keep.refl, rn_low hcbt, rn_low hbt, hbc, hcb, Enc.flat_ren]⟩
  · have hneg : (-1 : Int) < 0 := by decide
    refine CW.vc env12 [0, 1, 3, 4, 5, 7, 15] (by kernel_rfl) ?_
    (simp only [go_sem, reduceIte, reduceCtorEq, Nat.reduceAdd, Nat.reduceMul, Nat.reduceSub, Nat.reduceLT, Nat.reduceLeDiff, Nat.reduceEqDiff, Int.reduceEq, Int.reduceLT, Int.reduceLE, Int.reduceNe, G12_none, conNone_i, G12_ix, conIx_i, G12_del, conDel, List.headD_cons, hh, hic, hcc, set_lt hcbt, hSP, hrd, hFn, hFF, hi, ixRes, evList, evO, len_st74 hS, idx_st74 hS, ld_st74 hS, sh_st74 hS, sw_st74 hS, sf_st74_0 hS, sc_st74_0 hS, sf_st74_1 hS, sc_st74_1 hS, sf_st74_2 hS, sc_st74_2 hS, hS.P, hS.oc, hS.cl, hS.rd, hS.ref, strip_P lvs, strip_rd lvs, strip_ld lvs, strip_sl hS lvs k_st74, hlt, hneg]; repeat (refine Vc.mk' ?_; simp only [go_sem, reduceIte, reduceCtorEq, Nat.reduceAdd, Nat.reduceMul, Nat.reduceSub, Nat.reduceLT, Nat.reduceLeDiff, Nat.reduceEqDiff, Int.reduceEq, Int.reduceLT, Int.reduceLE, Int.reduceNe, G12_none, conNone_i, G12_ix, conIx_i, G12_del, conDel, List.headD_cons, hh, hic, hcc, set_lt hcbt, hSP, hrd, hFn, hFF, hi, ixRes, evList, evO, len_st74 hS, idx_st74 hS, ld_st74 hS, sh_st74 hS, sw_st74 hS, sf_st74_0 hS, sc_st74_0 hS, sf_st74_1 hS, sc_st74_1 hS, sf_st74_2 hS, sc_st74_2 hS, hS.P, hS.oc, hS.cl, hS.rd, hS.ref, strip_P lvs, strip_rd lvs, strip_ld lvs, strip_sl hS lvs k_st74, hlt, hneg]))
    simp only [dropRes_i, ixT_i, hi, hlt, if_false]
    exact ⟨[], by simp, by simp, by simp, by simp [frSub, lkG, ren, renL, renL_set, renL_ints, UpdOk.nil, UpdOk.cons, renOO_some, renO_cells, renO_map, renOO_mkOb, rn_base, rn_add, ren_mkSl, Enc.flat_ren, set_same, set_ne, sets_cons, sets_nil, Keep.set, Keep.setK, Keep.refl], by simp [frSub, lkG, ren, renL, renL_set, renL_ints, UpdOk.nil, UpdOk.cons, renOO_some, renO_cells, renO_map, renOO_mkOb, rn_base, rn_add, ren_mkSl, Enc.flat_ren, set_same, set_ne, sets_cons, sets_nil, Keep.set, Keep.setK, Keep.refl], by simp [frSub, lkG, ren, renL, renL_set, renL_ints, UpdOk.nil, UpdOk.cons, renOO_some, renO_cells, renO_map, renOO_mkOb, rn_base, rn_add, ren_mkSl, Enc.flat_ren, set_same, set_ne, sets_cons, sets_nil, Keep.set, Keep.setK, Keep.refl]⟩
def G13 : FuncId → Con := addG (addG G12 19 conSift_i) 18 conDrop_i
theorem env13 : EnvV Try.prog tt.get G13 := (env12.add sift_i_ok).add drop_i_ok
theorem G13_sift : G13 19 = conSift_i := rfl
theorem G13_drop : G13 18 = conDrop_i := rfl
theorem G13_works : G13 17 = conWorks := rfl
theorem G13_take : G13 14 = conTake_i := rfl
theorem G13_put : G13 10 = conPut_i := rfl
theorem G13_new : G13 8 = conNew_i := rfl
theorem G13_len : G13 12 = conLen_i := rfl
end Go.Proofs.Ytogndgadipdikaa.Dm
