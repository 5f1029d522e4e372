/- The net: DeleteFunc for lost. -/
import Derived.Test.YtmppehipfpkepaaN14
set_option linter.unusedSimpArgs false
set_option linter.unusedVariables false
namespace Go.Proofs.Ytmppehipfpkepaa.Dm
open Go.Dm
set_option maxHeartbeats 16000000
set_option maxRecDepth 20000
noncomputable def G21_r : FuncId → Con := addG G20_r 89 conIx
theorem env21_r : EnvV Try.prog tt.get G21_r := env20_r.add ixf_ok
theorem G21_ix : G21_r 89 = conIx := rfl
theorem G21_s1 : G21_r 85 = conS1 := rfl
def goneL (s : NetS) (l : List T_t124) (j : Nat) : List T_Arrive := ((l.take j).filter (isDown s)).map val_r
theorem goneL_t {s : NetS} {l : List T_t124} {j : Nat} (h : j < l.length) (c : isDown s (at' l j) = true) : goneL s l (j + 1) = goneL s l j ++ [val_r (at' l j)] := by
  unfold goneL; rw [take_at h, List.filter_append]; simp [c]
theorem goneL_f {s : NetS} {l : List T_t124} {j : Nat} (h : j < l.length) (c : isDown s (at' l j) = false) : goneL s l (j + 1) = goneL s l j := by
  unfold goneL; rw [take_at h, List.filter_append]; simp [c]
theorem goneL_len {s : NetS} {l : List T_t124} {j : Nat} : (goneL s l j).length ≤ l.length := by
  unfold goneL
  rw [List.length_map]
  exact Nat.le_trans (List.length_filter_le ..) (by rw [List.length_take]; exact Nat.min_le_right ..)
theorem goneL_0 {s : NetS} {l : List T_t124} : ∀ {i : Nat}, i ≤ l.length → (∀ j, j < i → isDown s (at' l j) = false) → goneL s l i = []
  | 0, _, _ => rfl
  | i + 1, h, hh => by rw [goneL_f (by omega) (hh i (by omega)), goneL_0 (by omega) fun j hj => hh j (by omega)]
theorem LostAt.keep {hp h' : Hp} {bf nb ob n top b : Nat} {s : NetS} (hK : LostAt hp bf nb ob n s) (ho : hp ob = some (.cells true 0 [.slice none 0 0])) {l : List T_t124} (hb : hp b = some (.cells true 5 (e_t124.flat l))) (hcl : Cl hp top) (hk : Keep top [b, ob] h' hp) : LostAt h' bf nb ob n s := by
  have dis : ∀ {k : Nat} {vs : List Value}, hp k = some (.cells true 0 vs) → vs ≠ [.slice none 0 0] → k ∉ [b, ob] := fun h hv hm => by
    simp only [List.mem_cons, List.not_mem_nil, or_false] at hm
    rcases hm with rfl | rfl
    · rw [h] at hb; exact absurd (cellZ hb) (by decide)
    · rw [h] at ho; simp only [Option.some.injEq, AObj.cells.injEq, true_and] at ho; exact hv ho
  have dim : ∀ {k : Nat} {es : List MapEntry} {c : Nat}, hp k = some (.map es c) → k ∉ [b, ob] := fun h hm => by
    simp only [List.mem_cons, List.not_mem_nil, or_false] at hm
    rcases hm with rfl | rfl
    · rw [h] at hb; cases hb
    · rw [h] at ho; cases ho
  obtain ⟨rv, pv, lav, nwv, wv, hh⟩ := hK.up.h
  exact ⟨(hk _ (hcl.lt _ _ hK.b) (dis hK.b (by simp [lostV]))).trans hK.b, (hk _ (hcl.lt _ _ hK.nb) (dis hK.nb (by simp))).trans hK.nb,
    ⟨⟨rv, pv, lav, nwv, wv, (hk _ (hcl.lt _ _ hh) (dis hh (by simp))).trans hh⟩, (hk _ (hcl.lt _ _ hK.up.L) (dim hK.up.L)).trans hK.up.L, (hk _ (hcl.lt _ _ hK.up.C) (dim hK.up.C)).trans hK.up.C, (hk _ (hcl.lt _ _ hK.up.S) (dim hK.up.S)).trans hK.up.S⟩⟩
def stDf (hp : Hp) (top b bf ob : Nat) (s : NetS) (l : List T_t124) (x : Nat × List T_t124 × Nat) : SS :=
  ⟨[(0, mkSl b x.2.1, true), (1, siV bf, true), (5, .int .i64 (x.2.2 : Int), true), (6, .int .i64 (x.1 : Int), true)], hp.sets [(b, mkOb e_t124 x.2.1), (ob, some (.cells true 0 [mkSl top (goneL s l x.1)])), (top, mkOb e_Arrive (goneL s l x.1))], top + 1⟩
def rawDf (b ob top : Nat) (s : NetS) (l : List T_t124) (x : List Value × Nat × Nat) : Value × Upds × Nat := (.slice (some ⟨b, 0, none⟩) x.2.1 x.2.2, [(b, some (.cells true 5 x.1)), (ob, some (.cells true 0 [mkSl top (goneL s l l.length)])), (top, mkOb e_Arrive (goneL s l l.length))], top + 1)
theorem df_raw (hp : Hp) (top b bf nb ob n : Nat) (s : NetS) (l : List T_t124) (hb : hp b = mkOb e_t124 l) (hK : LostAt hp bf nb ob n s) (ha : hp ob = some (.cells true 0 [.slice none 0 0])) (hn : l.length ≤ 1000000)
    (hx : l.findIdx (isDown s) < l.length) (hcl : Cl hp top) (hsc : ScL top [mkSl b l, siV bf]) :
    CalledOk Try.prog 84 [mkSl b l, siV bf] hp top fun v1 h1 top1 => ∃ x : List Value × Nat × Nat, (x.2.1 = (keptP (isDown s) l).length ∧ x.1.take (x.2.1 * 5) = e_t124.flat (keptP (isDown s) l)) ∧ top ≤ top1 ∧ ∃ bs, RetR hp top bs (rawDf b ob top s l x) v1 h1 top1 := by
  have hbo : hp b = some (.cells true 5 (e_t124.flat l)) := by
    cases l with
    | nil => simp at hx
    | cons a l => exact hb
  have hbt : b < top := hcl.lt _ _ hbo
  have hbft : bf < top := hcl.lt _ _ hK.b
  have hat : ob < top := hcl.lt _ _ ha
  have hab : ¬ ob = b := fun e => by rw [e, hbo] at ha; exact absurd (cellZ ha) (by decide)
  have hba : ¬ b = ob := fun e => hab e.symm
  have hta : ¬ top = ob := by omega
  have htb : ¬ top = b := by omega
  have hat2 : ¬ ob = top := by omega
  have hta1 : ¬ top + 1 = ob := by omega
  have htb1 : ¬ top + 1 = b := by omega
  have hta2 : ¬ top + 2 = ob := by omega
  have htb2 : ¬ top + 2 = b := by omega
  have hbt2 : ¬ b = top := by omega
  have hSP : SlP e_t124 hp (mkSl b l) = True := (SlT.ownB hb (by omega)).P
  have hSr : e_t124.rd hp (mkSl b l) = l := (SlT.ownB hb (by omega)).rd
  have hFn : IxPre hp (siV bf) = True := eq_true ⟨bf, nb, ob, n, s, rfl, hK, 0, [], ha, fun h => absurd rfl h, by decide⟩
  generalize hi0 : l.findIdx (isDown s) = i0 at hx
  have hfirst : ∀ j, j < i0 → isDown s (at' l j) = false := fun j hj => by
    rw [at'_get _ _ (by omega)]
    exact List.not_of_lt_findIdx (by rw [hi0]; exact hj)
  have hdn : isDown s (at' l i0) = true := by
    rw [at'_get _ _ hx]
    have := List.findIdx_getElem (p := isDown s) (xs := l) (w := by rw [hi0]; exact hx)
    simpa only [hi0] using this
  have hg1 : goneL s l (i0 + 1) = [val_r (at' l i0)] := by rw [goneL_t hx hdn, goneL_0 (by omega) hfirst]; rfl
  have hIx : ∀ {t : Nat}, ixRes hp bf l t = (.int .i64 (i0 : Int), [(ob, some (.cells true 0 [mkSl t (goneL s l (i0 + 1))])), (t, mkOb e_Arrive (goneL s l (i0 + 1)))], t + 1) := fun {t} => by
    unfold ixRes
    rw [hK.down, hK.out, dif_pos (by rw [hi0]; exact hx)]
    have hxi : l[l.findIdx (isDown s)]'(by rw [hi0]; exact hx) = at' l i0 := by rw [at'_get _ _ hx]; simp only [hi0]
    rw [hxi, hi0, askRes_eq (q := 0) (m := []) ha (fun h => absurd rfl h) (by decide), hg1]; rfl
  have hm1 : ¬ (i0 : Int) = -1 := by omega
  have hw0 : wrapA .i64 ((i0 : Int) + 1) = ((i0 + 1 : Nat) : Int) := by rw [wrap64 (by omega) (by omega)]; omega
  refine CalledOk.of_fun tt_ok fn84_ok rfl 42 rfl [.tmp 4] rfl (show 2 ≤ 42 by decide) ?_
  refine CW.vc env21_r [0, 1, 4, 5, 6, 7, 12, 19, 29] (by kernel_rfl) ?_
  have siE : siV bf = .func (.func 85) ⟨[]⟩ ⟨[.pointer (some ⟨bf, 0, none⟩)]⟩ := rfl
  rw [siE] at hFn
  (repeat ((try refine Vc.mk' ?_); simp only [go_sem, reduceIte, reduceCtorEq, Nat.reduceAdd, Nat.reduceMul, Nat.reduceSub, Nat.reduceLT, Nat.reduceLeDiff, Nat.reduceEqDiff, Int.reduceEq, Int.reduceLT, Int.reduceLE, Int.reduceNe, G21_ix, conIx, siE, hSP, hSr, hb, ha, hn, hFn, hIx, hx, hm1, hw0]))
  refine CW.loopR (stDf hp top b bf ob s l) (fun x => DfP (isDown s) l x.2.1 x.2.2 x.1 ∧ i0 < x.1) (fun x => l.length - x.1) (i0 + 1, l, i0) ?_ ?_ ?_
  · exact ⟨by rw [← hi0] at hx ⊢; exact DfP.start hx, Nat.lt_succ_self i0⟩
  · exact (by refine SubR.mk' [top] hcl (by simp) (by simp) rfl (frSub_ok ?_) ?_ ?_ <;> simp [frSub, lkG, ren, renL, renL_set, renL_ints, UpdOk.nil, UpdOk.cons, renOO_some, renO_cells, renO_map, renOO_mkOb, rn_base, rn_add, ren_mkSl, Enc.flat_ren, set_same, set_ne, sets_cons, sets_nil, Keep.set, Keep.setK, Keep.refl, rm_m_int_bool, rm_m_message_Rule, rm_m_pair_bool, rm_m_pair_int, siV, rn_low hbt, rn_low hbft, rn_low hat, hb, hab, hba, hta, htb, hat2, set_lt hbt, set_lt hat])
  · rintro ⟨j, m, i⟩ ⟨hI, hj0⟩
    replace hI : DfP (isDown s) l m i j := hI
    replace hj0 : i0 < j := hj0
    have hml := hI.len
    have hij := hI.lt
    have hjl := hI.le
    have hMS : SlT e_t124 (hp.set b (mkOb e_t124 m)) (mkSl b m) m := .ownB (set_same ..) (by omega)
    have hgl := goneL_len (s := s) (l := l) (j := j)
    have h16 : (goneL s l j).length < 16777216 := by omega
    have hLK : ∀ {h' : Hp}, Keep top [b, ob] h' hp → LostAt h' bf nb ob n s := fun hk => hK.keep ha hbo hcl hk
    have hpr : ∀ {h' : Hp}, Keep top [b, ob] h' hp → h' ob = some (.cells true 0 [mkSl top (goneL s l j)]) → h' top = mkOb e_Arrive (goneL s l j) → S1Pre h' bf = True := fun hk e3 e4 => eq_true ⟨nb, ob, n, s, hLK hk, top, goneL s l j, e3, fun _ => e4, h16⟩
    have hrs : ∀ {h' : Hp} {x : T_Arrive} {t : Nat}, Keep top [b, ob] h' hp → h' ob = some (.cells true 0 [mkSl top (goneL s l j)]) → h' top = mkOb e_Arrive (goneL s l j) → s1R h' bf x t = if upF s x.From x.To then (.bool false, [], t) else (.bool true, (ob, some (.cells true 0 [mkSl t (goneL s l j ++ [x])])) :: appU top (goneL s l j) t (mkOb e_Arrive (goneL s l j ++ [x])), t + 1) := fun {h' x t} hk e3 e4 => by
      rw [(hLK hk).s1, askRes_eq e3 (fun _ => e4) h16]
    have hne : goneL s l j ≠ [] := fun e => by
      have h1 : val_r (at' l i0) ∈ goneL s l j := by
        unfold goneL
        refine List.mem_map.2 ⟨_, List.mem_filter.2 ⟨?_, hdn⟩, rfl⟩
        rw [at'_get _ _ hx]
        exact List.mem_take_iff_getElem.2 ⟨i0, by omega, rfl⟩
      rw [e] at h1; cases h1
    have hap : ∀ {x : T_Arrive} {t : Nat}, appU top (goneL s l j) t (mkOb e_Arrive (goneL s l j ++ [x])) = [(top, none), (t, mkOb e_Arrive (goneL s l j ++ [x]))] := fun {x t} => appU_ne hne
    by_cases hlt : j < l.length
    · have hjm : j < m.length := by omega
      have him : i < m.length := by omega
      have hil : i < l.length := by omega
      have hat' := hI.at hlt
      have hld : ∀ {h' : Hp}, h' b = mkOb e_t124 m → sload tt.get h' 124 (ptrS (mkSl b m) (j * 5)) = (.agg ⟨e_t124.enc (at' l j)⟩, True) := fun h => by have := ld_st124 (SlT.ownB h (by omega)) hjm; rw [hat'] at this; exact this
      cases c : isDown s (at' l j) with
      | true =>
        have c' : upF s (val_r (at' l j)).From (val_r (at' l j)).To = false := by simpa [isDown, val_r] using c
        have hgs := goneL_t hlt c
        refine CW.vc env21_r [0, 1, 4, 5, 6, 7, 12, 19, 29] (by kernel_rfl) ?_
        (repeat ((try refine Vc.mk' ?_); simp only [go_sem, reduceIte, reduceCtorEq, Nat.reduceAdd, Nat.reduceMul, Nat.reduceSub, Nat.reduceLT, Nat.reduceLeDiff, Nat.reduceEqDiff, Int.reduceEq, Int.reduceLT, Int.reduceLE, Int.reduceNe, G21_s1, conS1, stDf, siV, len_st124 hMS, idx_st124 hMS, ld_st124 hMS, hml, hpr, hrs, hap, Keep.setK, List.mem_cons, hab, hba, hta, htb, hta1, htb1, hta2, htb2, hat2, hbt2, set_lt hbft, set_lt hat, set_lt hbt, en_t124, hlt, hjm, him, hld, c']))
        exact .mk (j + 1, m, i) ⟨hI.skip hlt c, by show i0 < j + 1; omega⟩ (show l.length - (j + 1) < l.length - j by omega) ((by refine SubR.mk' [top + 2] hcl (by simp) (by simp) rfl (frSub_ok ?_) ?_ ?_ <;> simp [frSub, lkG, ren, renL, renL_set, renL_ints, UpdOk.nil, UpdOk.cons, renOO_some, renO_cells, renO_map, renOO_mkOb, rn_base, rn_add, ren_mkSl, Enc.flat_ren, set_same, set_ne, sets_cons, sets_nil, Keep.set, Keep.setK, Keep.refl, rm_m_int_bool, rm_m_message_Rule, rm_m_pair_bool, rm_m_pair_int, siV, hgs, rn_low hbt, rn_low hbft, rn_low hat, hab, hba, hta, htb, hta1, htb1, hta2, htb2, hat2, hbt2, set_lt hbt, set_lt hat, wrap_succ hlt (by omega : l.length ≤ 9223372036854775807)]))
      | false =>
        have c' : upF s (val_r (at' l j)).From (val_r (at' l j)).To = true := by simpa [isDown, val_r] using c
        have hgs := goneL_f hlt c
        have hset : mkSl b (m.set i (at' l j)) = mkSl b m := mkSl_len (by rw [List.length_set])
        have hst : ∀ {h' : Hp}, h' b = mkOb e_t124 m → sstore tt.get h' 124 (ptrS (mkSl b m) (i * 5)) (.agg ⟨[.int .u64 (at' l j).at_, .int .i64 (at' l j).ticket, .int .i64 (at' l j).v_From, .int .i64 (at' l j).v_To, .string ⟨⟨(at' l j).v_Bytes⟩⟩]⟩) = ([(b, mkOb e_t124 (m.set i (at' l j)))], True) := fun h => os_st124 h him
        refine CW.vc env21_r [0, 1, 4, 5, 6, 7, 12, 19, 29] (by kernel_rfl) ?_
        (repeat ((try refine Vc.mk' ?_); simp only [go_sem, reduceIte, reduceCtorEq, Nat.reduceAdd, Nat.reduceMul, Nat.reduceSub, Nat.reduceLT, Nat.reduceLeDiff, Nat.reduceEqDiff, Int.reduceEq, Int.reduceLT, Int.reduceLE, Int.reduceNe, G21_s1, conS1, stDf, siV, len_st124 hMS, idx_st124 hMS, ld_st124 hMS, hml, hpr, hrs, hap, Keep.setK, List.mem_cons, hab, hba, hta, htb, hta1, htb1, hta2, htb2, hat2, hbt2, set_lt hbft, set_lt hat, set_lt hbt, en_t124, hlt, hjm, him, hil, hld, c', hst, mk_t124]))
        exact .mk (j + 1, m.set i (at' l j), i + 1) ⟨hI.keep hlt c, by show i0 < j + 1; omega⟩ (show l.length - (j + 1) < l.length - j by omega) ((by refine SubR.mk' [top] hcl (by simp) (by simp) rfl (frSub_ok ?_) ?_ ?_ <;> simp [frSub, lkG, ren, renL, renL_set, renL_ints, UpdOk.nil, UpdOk.cons, renOO_some, renO_cells, renO_map, renOO_mkOb, rn_base, rn_add, ren_mkSl, Enc.flat_ren, set_same, set_ne, sets_cons, sets_nil, Keep.set, Keep.setK, Keep.refl, rm_m_int_bool, rm_m_message_Rule, rm_m_pair_bool, rm_m_pair_int, siV, hgs, rn_low hbt, rn_low hbft, rn_low hat, hab, hba, hta, htb, hta1, htb1, hta2, htb2, hat2, hbt2, set_lt hbt, set_lt hat, hset, wrap_succ hlt (by omega : l.length ≤ 9223372036854775807), wrap_succ him (by omega : m.length ≤ 9223372036854775807)]))
    · have hj2 : j = l.length := by omega
      have hil : i < l.length := by omega
      have him : i < m.length := by omega
      have hmv : mkSl b m = .slice (some ⟨b, 0, none⟩) m.length m.length := by
        cases m with
        | nil => simp at him
        | cons a m => rfl
      have hmo : mkOb e_t124 m = some (.cells true 5 (e_t124.flat m)) := by
        cases m with
        | nil => simp at him
        | cons a m => rfl
      obtain ⟨vs, hvs⟩ : ∃ vs, vs = splice (e_t124.flat m) (i * 5) (zerosA ti124 (m.length - i)) := ⟨_, rfl⟩
      have hzl : (zerosA ti124 (m.length - i)).length = (m.length - i) * 5 := zerosA_length (tt_ok _ _ t_t124) _
      have hcl2 : ∀ {h' : Hp}, h' b = mkOb e_t124 m → clearA tt.get h' [114] (subL 5 (mkSl b m) i) = some [(b, some (.cells true 5 vs))] := fun {h'} h => by
        rw [hmv, hvs]
        simp only [subL, him, or_true, if_true, Nat.zero_add]
        exact clearA_some t_st124 rfl t_t124 rfl (by rw [h, hmo]) (by rw [Enc.flat_len]; show i * 5 + (m.length - i) * 5 ≤ m.length * 5; omega) (by omega) (zer_one _)
      have hren : ∀ {ρ : Nat → Nat}, renL ρ vs = vs := fun {ρ} => by
        have e1 : (e_t124.flat m).take (i * 5) = e_t124.flat (m.take i) := Enc.flat_take (E := e_t124) m i
        have e2 : (e_t124.flat m).drop (i * 5 + (zerosA ti124 (m.length - i)).length) = [] := List.drop_eq_nil_of_le (by rw [hzl, Enc.flat_len]; show m.length * 5 ≤ _; omega)
        rw [hvs]
        unfold splice
        rw [e1, e2, List.append_nil, renL_append, Enc.flat_ren, zer_ren]
      have hhi : ∀ {h' : Hp}, h' b = some (.cells true 5 (cellsOf (h' b))) → sslice tt.get h' 114 (mkSl b m) none (some (.int .i64 (i : Int))) = (.slice (some ⟨b, 0, none⟩) i m.length, True) := fun {h'} h => by
        rw [hmv]; exact hi_raw k_st124 t_t124 h (by omega)
      have hsw : ∀ {h' : Hp}, h' b = mkOb e_t124 m → sslice tt.get h' 114 (mkSl b m) (some (.int .i64 (i : Int))) none = (subL 5 (mkSl b m) i, True) := fun h => sw_st124 (SlT.ownB h (by omega)) (by omega) (by omega)
      have htk := hI.tk
      rw [hj2, List.take_length] at htk
      have hkl : (keptP (isDown s) l).length = i := by rw [← htk, List.length_take]; omega
      have hspl : vs.take (i * 5) = e_t124.flat (keptP (isDown s) l) := by
        have h3 : i * 5 ≤ (e_t124.flat m).length := by rw [Enc.flat_len]; show i * 5 ≤ m.length * 5; omega
        rw [hvs]
        unfold splice
        rw [List.append_assoc, List.take_append_of_le_length (by rw [List.length_take]; omega), List.take_take, Nat.min_self, ← htk]
        exact Enc.flat_take (E := e_t124) m i
      refine CW.vc env21_r [0, 1, 4, 5, 6, 7, 12, 19, 29] (by kernel_rfl) ?_
      (repeat ((try refine Vc.mk' ?_); simp only [go_sem, reduceIte, reduceCtorEq, Nat.reduceAdd, Nat.reduceMul, Nat.reduceSub, Nat.reduceLT, Nat.reduceLeDiff, Nat.reduceEqDiff, Int.reduceEq, Int.reduceLT, Int.reduceLE, Int.reduceNe, stDf, len_st124 hMS, hsw, hml, hj2, Nat.lt_irrefl, decide_false, hcl2, hhi, him, Nat.le_of_lt him, Nat.le_of_lt hil, cellsOf_some, hab, hba, hta, htb, hta1, htb1, hta2, htb2, hat2, hbt2, set_lt hbt, set_lt hat]))
      refine ⟨(vs, i, l.length), ⟨hkl.symm, hspl⟩, ?_⟩
      simp only [rawDf]
      (refine ⟨[top], by simp, by simp, by simp, ?_, ?_, ?_⟩ <;> simp [frSub, lkG, ren, renL, renL_set, renL_ints, UpdOk.nil, UpdOk.cons, renOO_some, renO_cells, renO_map, renOO_mkOb, rn_base, rn_add, ren_mkSl, Enc.flat_ren, set_same, set_ne, sets_cons, sets_nil, Keep.set, Keep.setK, Keep.refl, rm_m_int_bool, rm_m_message_Rule, rm_m_pair_bool, rm_m_pair_int, rawDf, rn_low hbt, rn_low hat, hren, hab, hba, hta, htb, hta1, htb1, hta2, htb2, hat2, hbt2, set_lt hbt, set_lt hat])
end Go.Proofs.Ytmppehipfpkepaa.Dm
/- The net: DeleteFunc for lost, as a contract. -/
set_option linter.unusedSimpArgs false
set_option linter.unusedVariables false
namespace Go.Proofs.Ytmppehipfpkepaa.Dm
open Go.Dm
set_option maxHeartbeats 16000000
set_option maxRecDepth 20000
theorem mkDetE {P : Program} {f : FuncId} {args : List Value} {hp : Hp} {top : Nat} {ι : Type} {Φ : ι → Prop} {r : ι → Value × Upds × Nat}
    (h : Cl hp top → ScL top args → CalledOk P f args hp top fun v1 h1 top1 => ∃ m, Φ m ∧ top ≤ top1 ∧ ∃ bs, RetR hp top bs (r m) v1 h1 top1) :
    CalledOk P f args hp top fun v hp' top' => ∃ m, Φ m ∧ v = (r m).1 ∧ hp' = hp.sets (r m).2.1 ∧ top' = (r m).2.2 := by
  intro φ own w args' ha H htop
  have hcl := H.cl htop
  refine (h hcl (Vs.sc htop ha) φ own w args' ha H htop).mono ?_
  rintro e w' ⟨v1, h1, top1, v', φ1, rfl, ⟨m, hm, ht, bs, R⟩, W⟩
  have hlow : ∀ j, j < top → rn top bs top1 j = j := fun j hj => rn_low hj
  have hhigh : ∀ j, (r m).2.2 ≤ j → top1 ≤ rn top bs top1 j := fun j hj => by rw [rn_high (by rw [← R.tp]; exact hj)]; exact Nat.le_refl _
  refine ⟨(r m).1, hp.sets (r m).2.1, (r m).2.2, v', φ1.via (rn top bs top1), rfl, ⟨m, hm, rfl, rfl, rfl⟩, ⟨?_, ?_, ?_, W.k, ?_⟩⟩
  · intro i L e
    have hi : i < top := by
      rcases Nat.lt_or_ge i top with h | h
      · exact h
      · rw [htop i h] at e; cases e
    unfold Ren.via
    rw [hlow i hi]; exact W.le _ _ e
  · refine V.unren ?_
    rw [← R.v]; exact W.v
  · refine W.hr.unren W.top hhigh (by rw [R.tp]; exact rn_inj R.nodup R.ge) ?_
    exact subHp hcl hlow (r m).2.1 (fun i hi hk => R.keep i hi (fun hm => by obtain ⟨p, h1, h2⟩ := List.mem_map.1 hm; exact hk p h1 h2)) R.upd.get
  · intro j hj
    exact W.top _ (hhigh j hj)
def goneA (p : T_t124 → Bool) (l : List T_t124) : List T_Arrive := (l.filter p).map val_r
def dfU2 (ob top : Nat) (g : List T_Arrive) : Upds := if g = [] then [] else [(ob, some (.cells true 0 [mkSl top g])), (top, mkOb e_Arrive g)]
def dfRes (p : T_t124 → Bool) (ob : Nat) (v : Value) (l : List T_t124) (top : Nat) : Value × Upds × Nat := (dfV v (keptP p l), dfU e_t124 v (keptP p l) ++ dfU2 ob top (goneA p l), if goneA p l = [] then top else top + 1)
def DfPre (hp : Hp) (f : Value) : Prop := ∃ b nb ob n s, f = siV b ∧ LostAt hp b nb ob n s ∧ hp ob = some (.cells true 0 [.slice none 0 0])
def conDf : Con := .det (fun args hp _ => match args with | [v, f] => (∃ l, OwnV e_t124 hp v l ∧ l.length ≤ 1000000) ∧ DfPre hp f | _ => False)
  (fun args hp top => match args with | [v, .func _ _ ⟨[.pointer (some ⟨b, _, _⟩)]⟩] => dfRes (downH hp b) (outOfC hp b) v (e_t124.rd hp v) top | _ => (undef, [], top))
theorem goneA_L {s : NetS} {l : List T_t124} : goneL s l l.length = goneA (isDown s) l := by unfold goneL goneA; rw [List.take_length]
theorem df_ok : ConOk Try.prog 84 conDf := by
  refine ⟨⟨_, fn84_ok.toFTOk⟩, fun args hp top hpre => ?_⟩
  match args, hpre with
  | [v, _], ⟨⟨l, hO, hn⟩, ⟨bf, nb, ob, n, s, rfl, hK, ha⟩⟩ =>
  simp only [hO.slT.rd, siV]
  rw [hK.down, hK.out]
  by_cases hx : l.findIdx (isDown s) < l.length
  · have hdn : isDown s l[l.findIdx (isDown s)] = true := List.findIdx_getElem
    have hg : goneA (isDown s) l ≠ [] := fun e => by
      have : val_r l[l.findIdx (isDown s)] ∈ goneA (isDown s) l := List.mem_map.2 ⟨_, List.mem_filter.2 ⟨List.getElem_mem hx, hdn⟩, rfl⟩
      rw [e] at this; cases this
    cases hO with
    | nil => simp at hx
    | blk b l hb hn' =>
      cases l with
      | nil => simp at hx
      | cons a l =>
        show CalledOk Try.prog 84 [mkSl b (a :: l), siV bf] hp top _
        intro φ own w args' ha' H htop
        have hcl := H.cl htop
        have hob : ob ≠ b := fun e => by rw [e] at ha; rw [ha] at hb; exact absurd (cellZ hb) (by decide)
        have hbt : b < top := hcl.lt _ _ hb
        have hus : ∀ p ∈ [(ob, some (AObj.cells true 0 [mkSl top (goneA (isDown s) (a :: l))])), (top, mkOb e_Arrive (goneA (isDown s) (a :: l)))], p.1 ≠ b := by
          intro p hp
          simp only [List.mem_cons, List.not_mem_nil, or_false] at hp
          rcases hp with rfl | rfl
          · exact hob
          · exact fun e => by simp only at e; omega
        refine Calls.mono (shrink2 (b := b) (i := (keptP (isDown s) (a :: l)).length) (z := 5) (rows := e_t124.flat (keptP (isDown s) (a :: l))) (top2 := top + 1) hus ?_ φ own w args' ha' H htop) ?_
        · intro φ own w args' ha' H htop
          refine Calls.mono (mkDetE (fun hcl hsc => df_raw hp top b bf nb ob n s (a :: l) hb hK ha hn hx hcl hsc) φ own w args' ha' H htop) ?_
          rintro e w' ⟨v1, h1, t1, v', φ', rfl, ⟨x, ⟨hx1, hx2⟩, rfl, rfl, rfl⟩, W⟩
          exact ⟨_, _, _, v', φ', rfl, ⟨x.2.2, x.1, by rw [← hx1]; rfl, by rw [rawDf, goneA_L], rfl, by rw [← hx1, hx2]⟩, W⟩
        · rintro e w' ⟨v1, h1, t1, v', φ', rfl, ⟨rfl, rfl, rfl⟩, W⟩
          refine ⟨_, _, _, v', φ', rfl, ⟨rfl, ?_, ?_⟩, W⟩
          · unfold dfRes dfU2; rw [if_neg hg]; rfl
          · unfold dfRes; rw [if_neg hg]
  · have hno : ∀ a ∈ l, isDown s a = false := fun a ha' => by
      cases c : isDown s a with
      | false => rfl
      | true => exact absurd (List.findIdx_lt_length_of_exists ⟨a, ha', c⟩) hx
    have hk : keptP (isDown s) l = l := by
      unfold keptP
      rw [List.filter_eq_self]
      intro a ha'; rw [hno a ha']; rfl
    have hg : goneA (isDown s) l = [] := by
      unfold goneA
      rw [List.filter_eq_nil_iff.2 fun a ha' => by rw [hno a ha']; simp]; rfl
    refine CalledOk.mkDet (r := dfRes (isDown s) ob v l top) ?_
    intro hcl hsc
    have lvs := hO.slT.low hcl
    have hSP : SlP e_t124 hp v = True := hO.slT.P
    have hSr : e_t124.rd hp v = l := hO.slT.rd
    have hFn : IxPre hp (.func (.func 85) ⟨[]⟩ ⟨[.pointer (some ⟨bf, 0, none⟩)]⟩) = True := eq_true ⟨bf, nb, ob, n, s, rfl, hK, 0, [], ha, fun h => absurd rfl h, by decide⟩
    have hIx : ∀ {t : Nat}, ixRes hp bf l t = (.int .i64 (-1), [], t) := fun {t} => by
      unfold ixRes
      rw [hK.down, dif_neg hx]
    unfold dfRes dfU2
    rw [hk, if_pos hg, if_pos hg]
    refine CalledOk.of_fun tt_ok fn84_ok rfl 42 rfl [.tmp 4] rfl (show 2 ≤ 42 by decide) ?_
    refine CW.vc env21_r [0, 1, 4, 5, 6, 7, 12, 19, 29] (by kernel_rfl) ?_
    (repeat ((try refine Vc.mk' ?_); simp only [go_sem, reduceIte, reduceCtorEq, Nat.reduceAdd, Nat.reduceMul, Nat.reduceSub, Nat.reduceLT, Nat.reduceLeDiff, Nat.reduceEqDiff, Int.reduceEq, Int.reduceLT, Int.reduceLE, Int.reduceNe, G21_ix, conIx, hSP, hSr, hn, hFn, hIx]))
    cases hO with
    | nil =>
      simp only [dfV, dfU, List.append_nil]
      (refine ⟨[], by simp, by simp, by simp, ?_, ?_, ?_⟩ <;> simp [frSub, lkG, ren, renL, renL_set, renL_ints, UpdOk.nil, UpdOk.cons, renOO_some, renO_cells, renO_map, renOO_mkOb, rn_base, rn_add, ren_mkSl, Enc.flat_ren, set_same, set_ne, sets_cons, sets_nil, Keep.set, Keep.setK, Keep.refl, rm_m_int_bool, rm_m_message_Rule, rm_m_pair_bool, rm_m_pair_int])
    | blk b l hb hn' =>
      have hbt : b < top := lvs
      simp only [dfV, dfU, ownS, ownO, List.append_nil]
      (refine ⟨[], by simp, by simp, by simp, ?_, ?_, ?_⟩ <;> simp [frSub, lkG, ren, renL, renL_set, renL_ints, UpdOk.nil, UpdOk.cons, renOO_some, renO_cells, renO_map, renOO_mkOb, rn_base, rn_add, ren_mkSl, Enc.flat_ren, set_same, set_ne, sets_cons, sets_nil, Keep.set, Keep.setK, Keep.refl, rm_m_int_bool, rm_m_message_Rule, rm_m_pair_bool, rm_m_pair_int, rn_low hbt, hb, Enc.flat_ren])
noncomputable def G22_r : FuncId → Con := addG G21_r 84 conDf
theorem env22_r : EnvV Try.prog tt.get G22_r := env21_r.add df_ok
theorem G22_df : G22_r 84 = conDf := rfl
theorem G22_none : G22_r 54 = conNone_r := rfl
end Go.Proofs.Ytmppehipfpkepaa.Dm
