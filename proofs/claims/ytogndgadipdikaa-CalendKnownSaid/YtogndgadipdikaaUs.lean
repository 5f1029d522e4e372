/- A calendar of texts: DeleteFunc, Sift, Drop, Copy. -/
import Derived.Test.YtogndgadipdikaaVs
import Derived.Test.YtogndgadipdikaaC3
set_option linter.unusedSimpArgs false
set_option linter.unusedVariables false
namespace Go.Proofs.Ytogndgadipdikaa.Dm
open Go.Dm
set_option maxHeartbeats 8000000
set_option maxRecDepth 20000

theorem sets_off {b : Nat} : ∀ {us : Upds} {h : Hp}, (∀ p ∈ us, p.1 ≠ b) → (h.sets us) b = h b
  | [], _, _ => rfl
  | (k, o) :: us, h, hu => by
    rw [sets_cons, sets_off (fun p hp => hu p (List.mem_cons_of_mem _ hp)), set_ne]
    exact fun e => hu (k, o) (List.mem_cons_self ..) e.symm
theorem sets_same {b j : Nat} {o o' : Option AObj} (hj : j ≠ b) : ∀ {us : Upds} {h h' : Hp}, (∀ k, k ≠ b → h k = h' k) → (h.sets us) j = (h'.sets us) j
  | [], _, _, hh => hh j hj
  | (k, x) :: us, h, h', hh => by
    rw [sets_cons, sets_cons]
    refine sets_same (o := o) (o' := o') hj fun i hi => ?_
    unfold Hp.set
    split
    · rfl
    · exact hh i hi
/-- what stands behind is forgotten -/
theorem shrink2 {P : Program} {f : FuncId} {args : List Value} {hp : Hp} {top b i z top2 : Nat} {rows : List Value} {us : Upds} (hus : ∀ p ∈ us, p.1 ≠ b)
    (h : CalledOk P f args hp top fun v h1 t1 => ∃ c vs2, v = .slice (some ⟨b, 0, none⟩) i c ∧ h1 = hp.sets ((b, some (.cells true z vs2)) :: us) ∧ t1 = top2 ∧ rows = vs2.take (i * z)) :
    CalledOk P f args hp top fun v h1 t1 => v = ownS b i ∧ h1 = hp.sets ((b, some (.cells true z rows)) :: us) ∧ t1 = top2 := by
  intro φ own w args' ha H htop
  refine (h φ own w args' ha H htop).mono ?_
  rintro e w' ⟨v1, h1, top1, v', φ1, rfl, ⟨c, vs2, rfl, rfl, rfl, rfl⟩, W⟩
  refine ⟨_, _, _, v', φ1, rfl, ⟨rfl, rfl, rfl⟩, ⟨W.le, ?_, ?_, W.k, W.top⟩⟩
  · have hv := W.v
    cases hv with
    | slice _ _ _ _ c' L hL hn hc hl => exact .slice b 0 i i c' L hL (Nat.le_refl _) (Nat.le_trans hn hc) hl
  · have hr := W.hr
    have key : ∀ j o, (hp.sets ((b, some (.cells true z (vs2.take (i * z)))) :: us)) j = some o → ∃ o2, (hp.sets ((b, some (.cells true z vs2)) :: us)) j = some o2 ∧ o2.rw = o.rw ∧ ∀ L x, OkObj φ1 L o2 x → OkObj φ1 L o x := by
      intro j o ho
      by_cases e : j = b
      · subst e
        rw [sets_cons, sets_off hus, set_same, Option.some.injEq] at ho
        subst ho
        refine ⟨.cells true z vs2, by rw [sets_cons, sets_off hus, set_same], rfl, ?_⟩
        rintro L x ⟨he, cc, ty, fz, hg, hsz, hlim, hvs, hfz⟩
        have hle : (vs2.take (i * z)).length ≤ vs2.length := by rw [List.length_take]; exact Nat.min_le_right ..
        refine ⟨he, cc, ty, fz, hg, hsz, by omega, ?_, hfz⟩
        have := hvs.take (i * z)
        rw [List.take_take] at this
        rw [List.length_take]
        exact this
      · have e2 : (hp.sets ((b, some (.cells true z (vs2.take (i * z)))) :: us)) j = (hp.sets ((b, some (.cells true z vs2)) :: us)) j := by
          rw [sets_cons, sets_cons]
          exact sets_same (o := none) (o' := none) e fun k hk => by rw [set_ne _ _ _ _ hk, set_ne _ _ _ _ hk]
        rw [e2] at ho
        exact ⟨o, ho, rfl, fun _ _ h => h⟩
    refine ⟨?_, ?_, ?_, hr.val, hr.fresh⟩
    · intro j o ho
      obtain ⟨o2, h2, _, h4⟩ := key j o ho
      obtain ⟨L, hL, hO⟩ := hr.obj j o2 h2
      exact ⟨L, hL, h4 _ _ hO⟩
    · intro j k oj ok Lj Lk hj hk hne hrw hLj hLk
      obtain ⟨o2, h2, h3, _⟩ := key j oj hj
      obtain ⟨o3, h5, _, _⟩ := key k ok hk
      exact hr.sep j k o2 o3 Lj Lk h2 h5 hne (by rw [h3]; exact hrw) hLj hLk
    · intro j o L ho hrw hL
      obtain ⟨o2, h2, h3, _⟩ := key j o ho
      exact hr.mine j o2 L h2 (by rw [h3]; exact hrw) hL
/-! ### the rows so far, and where the next one goes -/
def keptP {α : Type} (p : α → Bool) (l : List α) : List α := l.filter fun a => !p a
structure DfP {α : Type} (p : α → Bool) (l m : List α) (i j : Nat) : Prop where
  len : m.length = l.length
  lt : i < j
  le : j ≤ l.length
  tk : m.take i = keptP p (l.take j)
  dr : m.drop j = l.drop j
section
variable {α : Type} [Inhabited α] {p : α → Bool} {l m : List α} {i j : Nat}
omit [Inhabited α] in
theorem keptP_append (a b : List α) : keptP p (a ++ b) = keptP p a ++ keptP p b := List.filter_append ..
omit [Inhabited α] in
theorem keptP_le : (keptP p l).length ≤ l.length := List.length_filter_le ..
theorem DfP.skip (h : DfP p l m i j) (hj : j < l.length) (hg : p (at' l j) = true) : DfP p l m i (j + 1) :=
  ⟨h.len, by have := h.lt; omega, hj, by rw [take_at hj, keptP_append, h.tk]; simp [keptP, hg], by rw [← List.drop_drop, h.dr, List.drop_drop]⟩
theorem DfP.at (h : DfP p l m i j) (hj : j < l.length) : at' m j = at' l j := by
  have := h.dr
  rw [drop_at hj, drop_at (by rw [h.len]; exact hj)] at this
  exact (List.cons.inj this).1
theorem DfP.keep (h : DfP p l m i j) (hj : j < l.length) (hg : p (at' l j) = false) : DfP p l (m.set i (at' l j)) (i + 1) (j + 1) := by
  have hlt := h.lt
  have hle := h.le
  have hln := h.len
  refine ⟨by rw [List.length_set, h.len], by omega, hj, ?_, ?_⟩
  · rw [take_at hj, keptP_append, ← h.tk, List.take_succ_eq_append_getElem (by rw [List.length_set]; omega), List.getElem_set_self, List.take_set_of_le (Nat.le_refl _)]
    simp [keptP, hg]
  · rw [List.drop_set_of_lt (by omega), ← List.drop_drop, h.dr, List.drop_drop]
theorem DfP.start (h : ixF p l < l.length) : DfP p l l (ixF p l) (ixF p l + 1) := by
  obtain ⟨h1, h2⟩ := ixF_spec h
  refine ⟨rfl, by omega, h, ?_, rfl⟩
  rw [take_at h, keptP_append]
  unfold keptP
  rw [h1]
  simp [h2]
end
theorem zer_oneS (n : Nat) : oneCells (zerosA ti96 n) = true := by
  unfold zerosA
  induction n with
  | zero => rfl
  | succ n ih => rw [List.replicate_succ, List.flatten_cons]; exact ih
theorem zer_renS (n : Nat) (ρ : Nat → Nat) : renL ρ (zerosA ti96 n) = zerosA ti96 n := by
  unfold zerosA
  induction n with
  | zero => rfl
  | succ n ih => rw [List.replicate_succ, List.flatten_cons, renL_append, ih]; rfl
/-! ### DeleteFunc -/
def G11s : FuncId → Con := addG G10s 59 conIx_s
theorem env11s : EnvV Try.prog tt.get G11s := env10s.add ix_s_ok
theorem G11s_ix : G11s 59 = conIx_s := rfl
theorem G11s_s1 : G11s 62 = conS1_s := rfl
/-- sift's own: the texts asked of are written down; the example's: nothing is -/
inductive FnS (hp : Hp) : Value → Prop
  | kn (b : Nat) (h : hp b = some (.cells true 0 [knV])) : FnS hp (siVs b)
  | lw (b ab gb : Nat) (g : List UInt8) (h : hp b = some (.cells true 0 [lwV ab gb])) (hg : hp gb = some (.cells true 0 [.string ⟨⟨g⟩⟩])) (ha : hp ab = some (.cells true 0 [.slice none 0 0])) : FnS hp (siVs b)
def stDfK (hp : Hp) (top b bf : Nat) (x : Nat × List T_t96 × Nat) : SS :=
  ⟨[(0, mkSl b x.2.1, true), (1, siVs bf, true), (5, .int .i64 (x.2.2 : Int), true), (6, .int .i64 (x.1 : Int), true)], hp.sets [(b, mkOb e_t96 x.2.1)], top + 0⟩
def stDfL (hp : Hp) (top b bf ab : Nat) (l : List T_t96) (x : Nat × List T_t96 × Nat) : SS :=
  ⟨[(0, mkSl b x.2.1, true), (1, siVs bf, true), (5, .int .i64 (x.2.2 : Int), true), (6, .int .i64 (x.1 : Int), true)], hp.sets [(b, mkOb e_t96 x.2.1), (ab, some (.cells true 0 [mkSl top (outs_s l x.1)])), (top, mkOb e_string (outs_s l x.1))], top + 1⟩
def rawDfL (b ab top : Nat) (l : List T_t96) (x : List Value × Nat × Nat) : Value × Upds × Nat := (.slice (some ⟨b, 0, none⟩) x.2.1 x.2.2, [(b, some (.cells true 3 x.1)), (ab, some (.cells true 0 [mkSl top (outs_s l l.length)])), (top, mkOb e_string (outs_s l l.length))], top + 1)

theorem df_rawL (hp : Hp) (top b bf ab gb : Nat) (g : List UInt8) (l : List T_t96) (hb : hp b = mkOb e_t96 l) (hf : hp bf = some (.cells true 0 [lwV ab gb])) (hg : hp gb = some (.cells true 0 [.string ⟨⟨g⟩⟩])) (ha : hp ab = some (.cells true 0 [.slice none 0 0])) (hn : l.length ≤ 1000000)
    (hx : ixF (fun a => decide (a.v = g)) l < l.length) (hcl : Cl hp top) (hsc : ScL top [mkSl b l, siVs bf]) :
    CalledOk Try.prog 61 [mkSl b l, siVs bf] hp top fun v1 h1 top1 => ∃ x : List Value × Nat × Nat, (x.2.1 = (keptP (fun a : T_t96 => decide (a.v = g)) l).length ∧ x.1.take (x.2.1 * 3) = e_t96.flat (keptP (fun a : T_t96 => decide (a.v = g)) l)) ∧ top ≤ top1 ∧ ∃ bs, RetR hp top bs (rawDfL b ab top l x) v1 h1 top1 := by
  have hbt : b < top := by
    cases l with
    | nil => simp [ixF] at hx
    | cons a l => exact hcl.lt _ _ hb
  have hbo : hp b = some (.cells true 3 (e_t96.flat l)) := by
    cases l with
    | nil => simp [ixF] at hx
    | cons a l => exact hb
  have hbft : bf < top := hcl.lt _ _ hf
  have hat : ab < top := hcl.lt _ _ ha
  have hgt : gb < top := hcl.lt _ _ hg
  have dis : ∀ {k : Nat} {x : Value}, hp k = some (.cells true 0 [x]) → ¬ k = b := fun h e => by
    subst e
    rw [h] at hbo
    simp only [Option.some.injEq, AObj.cells.injEq] at hbo
    exact absurd hbo.2.1 (by decide)
  have hfb : ¬ bf = b := dis hf
  have hab : ¬ ab = b := dis ha
  have hgb : ¬ gb = b := dis hg
  have hfa : ¬ bf = ab := fun e => by rw [e, ha] at hf; simp [lwV] at hf
  have hga : ¬ gb = ab := fun e => by rw [e, ha] at hg; simp at hg
  have hba : ¬ b = ab := fun e => hab e.symm
  have hta : ¬ top = ab := by omega
  have htb : ¬ top = b := by omega
  have hat2 : ¬ ab = top := by omega
  have hta1 : ¬ top + 1 = ab := by omega
  have htb1 : ¬ top + 1 = b := by omega
  have hta2 : ¬ top + 2 = ab := by omega
  have htb2 : ¬ top + 2 = b := by omega
  have hSP : ∀ {h' : Hp}, h' b = mkOb e_t96 l → SlP e_t96 h' (mkSl b l) = True := fun h => (SlT.ownB h (by omega)).P
  have hSr : ∀ {h' : Hp}, h' b = mkOb e_t96 l → e_t96.rd h' (mkSl b l) = l := fun h => (SlT.ownB h (by omega)).rd
  have hFn : ∀ {h' : Hp}, h' bf = some (.cells true 0 [lwV ab gb]) → h' gb = some (.cells true 0 [.string ⟨⟨g⟩⟩]) → h' ab = some (.cells true 0 [.slice none 0 0]) → FnIs h' (siVs bf) = True := fun h1 h2 h3 => eq_true (.lw bf ab gb g h1 h2 h3)
  generalize hi0 : ixF (fun a : T_t96 => decide (a.v = g)) l = i0 at hx
  have hIx : ∀ {h' : Hp} {t : Nat}, h' bf = some (.cells true 0 [lwV ab gb]) → h' gb = some (.cells true 0 [.string ⟨⟨g⟩⟩]) → ixC h' (siVs bf) l t = (.int .i64 (i0 : Int), [(ab, some (.cells true 0 [mkSl t (outs_s l (i0 + 1))])), (t, mkOb e_string (outs_s l (i0 + 1)))], t + 1) := fun h1 h2 => by
    rw [ixC_lw h1 h2, hi0]
    unfold ixResS
    rw [if_pos hx]
  have hm1 : ¬ (i0 : Int) = -1 := by omega
  have hw0 : wrapA .i64 ((i0 : Int) + 1) = ((i0 + 1 : Nat) : Int) := by rw [wrap64 (by omega) (by omega)]; omega
  refine CalledOk.of_fun tt_ok fn61_ok rfl 42 rfl [.tmp 4] rfl (show 2 ≤ 42 by decide) ?_
  refine CW.vc env11s [0, 1, 4, 5, 6, 7, 12, 19, 29] (by kernel_rfl) ?_
  (simp only [go_sem, reduceIte, reduceCtorEq, Nat.reduceAdd, Nat.reduceMul, Nat.reduceSub, Nat.reduceLT, Nat.reduceLeDiff, Nat.reduceEqDiff, Int.reduceEq, Int.reduceLT, Int.reduceLE, Int.reduceNe, G11s_ix, conIx_s, hSP, hSr, hb, hf, ha, hg, hn, hFn, hIx, hx, hm1, hw0]; repeat (refine Vc.mk' ?_; simp only [go_sem, reduceIte, reduceCtorEq, Nat.reduceAdd, Nat.reduceMul, Nat.reduceSub, Nat.reduceLT, Nat.reduceLeDiff, Nat.reduceEqDiff, Int.reduceEq, Int.reduceLT, Int.reduceLE, Int.reduceNe, G11s_ix, conIx_s, hSP, hSr, hb, hf, ha, hg, hn, hFn, hIx, hx, hm1, hw0]))
  refine CW.loopR (stDfL hp top b bf ab l) (fun x => DfP (fun a : T_t96 => decide (a.v = g)) l x.2.1 x.2.2 x.1) (fun x => l.length - x.1) (i0 + 1, l, i0) ?_ ?_ ?_
  · rw [← hi0] at hx ⊢; exact DfP.start hx
  · exact SubR.mk' [top] hcl (by simp) (by simp) rfl (frSub_ok (by simp [frSub, lkG, ren, renL, renL_set, renL_ints, UpdOk.nil, UpdOk.cons, renOO_some, renO_cells, renO_map, renOO_mkOb, rn_base, rn_add, ren_mkSl, Enc.flat_ren, set_same, set_ne, sets_cons, sets_nil, Keep.set, Keep.setK, Keep.refl, siVs, rn_low hbt, rn_low hbft, rn_low hat, hb, hab, hba, hta, htb, hat2, set_lt hbt, set_lt hat])) (by simp [frSub, lkG, ren, renL, renL_set, renL_ints, UpdOk.nil, UpdOk.cons, renOO_some, renO_cells, renO_map, renOO_mkOb, rn_base, rn_add, ren_mkSl, Enc.flat_ren, set_same, set_ne, sets_cons, sets_nil, Keep.set, Keep.setK, Keep.refl, siVs, rn_low hbt, rn_low hbft, rn_low hat, hb, hab, hba, hta, htb, hat2, set_lt hbt, set_lt hat]) (by simp [frSub, lkG, ren, renL, renL_set, renL_ints, UpdOk.nil, UpdOk.cons, renOO_some, renO_cells, renO_map, renOO_mkOb, rn_base, rn_add, ren_mkSl, Enc.flat_ren, set_same, set_ne, sets_cons, sets_nil, Keep.set, Keep.setK, Keep.refl, siVs, rn_low hbt, rn_low hbft, rn_low hat, hb, hab, hba, hta, htb, hat2, set_lt hbt, set_lt hat])
  · rintro ⟨j, m, i⟩ hI
    replace hI : DfP (fun a : T_t96 => decide (a.v = g)) l m i j := hI
    have hml := hI.len
    have hij := hI.lt
    have hjl := hI.le
    have hMS : SlT e_t96 (hp.set b (mkOb e_t96 m)) (mkSl b m) m := .ownB (set_same ..) (by omega)
    have hol := outs_s_len hjl
    have h16 : (outs_s l j).length < 16777216 := by omega
    have hbt2 : ¬ b = top := by omega
    have hft2 : ¬ bf = top := by omega
    have hgt2 : ¬ gb = top := by omega
    have hpr : ∀ {h' : Hp}, h' bf = some (.cells true 0 [lwV ab gb]) → h' gb = some (.cells true 0 [.string ⟨⟨g⟩⟩]) → h' ab = some (.cells true 0 [mkSl top (outs_s l j)]) → h' top = mkOb e_string (outs_s l j) → S1Pre h' bf = True := fun e1 e2 e3 e4 => S1Pre_lw e1 e2 e3 e4 h16
    have hrs : j < l.length → ∀ {h' : Hp} {t : Nat}, h' bf = some (.cells true 0 [lwV ab gb]) → h' gb = some (.cells true 0 [.string ⟨⟨g⟩⟩]) → h' ab = some (.cells true 0 [mkSl top (outs_s l j)]) → h' top = mkOb e_string (outs_s l j) → s1R h' bf (at' l j).v t = (.bool (decide ((at' l j).v = g)), (ab, some (.cells true 0 [mkSl t (outs_s l (j + 1))])) :: appU top (outs_s l j) t (mkOb e_string (outs_s l (j + 1))), t + 1) := fun hlt {h' t} e1 e2 e3 e4 => by rw [s1R_lw e1 e2 e3 e4 h16, outs_s_succ hlt]; rfl
    by_cases hlt : j < l.length
    · have hjm : j < m.length := by omega
      have him : i < m.length := by omega
      have hil : i < l.length := by omega
      have hat' := hI.at hlt
      have hrs := fun {h' : Hp} {t : Nat} => @hrs hlt h' t
      have hld : ∀ {h' : Hp}, h' b = mkOb e_t96 m → sload tt.get h' 96 (ptrS (mkSl b m) (j * 3)) = (.agg ⟨[.int .u64 (at' l j).at_, .int .i64 (at' l j).ticket, .string ⟨⟨(at' l j).v⟩⟩]⟩, True) := fun h => by have := ld_st96 (SlT.ownB h (by omega)) hjm; rw [hat'] at this; exact this
      by_cases c1 : (at' l j).v = g
      · have c2 : decide ((at' l j).v = g) = true := decide_eq_true c1
        refine CW.vc env11s [0, 1, 4, 5, 6, 7, 12, 19, 29] (by kernel_rfl) ?_
        (simp only [go_sem, reduceIte, reduceCtorEq, Nat.reduceAdd, Nat.reduceMul, Nat.reduceSub, Nat.reduceLT, Nat.reduceLeDiff, Nat.reduceEqDiff, Int.reduceEq, Int.reduceLT, Int.reduceLE, Int.reduceNe, G11s_s1, conS1_s, stDfL, siVs, len_st96 hMS, idx_st96 hMS, ld_st96 hMS, hml, hpr, hf, hg, hfb, hab, hgb, hfa, hga, hba, hta, htb, hta1, htb1, hta2, htb2, hat2, hbt2, hft2, hgt2, set_lt hbft, set_lt hgt, set_lt hat, set_lt hbt, en_t96, hrs, hlt, hjm, him, hld, c2]; repeat (refine Vc.mk' ?_; simp only [go_sem, reduceIte, reduceCtorEq, Nat.reduceAdd, Nat.reduceMul, Nat.reduceSub, Nat.reduceLT, Nat.reduceLeDiff, Nat.reduceEqDiff, Int.reduceEq, Int.reduceLT, Int.reduceLE, Int.reduceNe, G11s_s1, conS1_s, stDfL, siVs, len_st96 hMS, idx_st96 hMS, ld_st96 hMS, hml, hpr, hf, hg, hfb, hab, hgb, hfa, hga, hba, hta, htb, hta1, htb1, hta2, htb2, hat2, hbt2, hft2, hgt2, set_lt hbft, set_lt hgt, set_lt hat, set_lt hbt, en_t96, hrs, hlt, hjm, him, hld, c2]))
        exact .mk (j + 1, m, i) (hI.skip hlt c2) (show l.length - (j + 1) < l.length - j by omega) (SubR.mk' [top + 2] hcl (by simp) (by simp) rfl (frSub_ok (by simp [frSub, lkG, ren, renL, renL_set, renL_ints, UpdOk.nil, UpdOk.cons, renOO_some, renO_cells, renO_map, renOO_mkOb, rn_base, rn_add, ren_mkSl, Enc.flat_ren, set_same, set_ne, sets_cons, sets_nil, Keep.set, Keep.setK, Keep.refl, siVs, rn_low hbt, rn_low hbft, rn_low hat, hab, hba, hta, htb, hta1, htb1, hta2, htb2, hat2, hbt2, set_lt hbt, set_lt hat, wrap_succ hlt (by omega : l.length ≤ 9223372036854775807)])) (by simp [frSub, lkG, ren, renL, renL_set, renL_ints, UpdOk.nil, UpdOk.cons, renOO_some, renO_cells, renO_map, renOO_mkOb, rn_base, rn_add, ren_mkSl, Enc.flat_ren, set_same, set_ne, sets_cons, sets_nil, Keep.set, Keep.setK, Keep.refl, siVs, rn_low hbt, rn_low hbft, rn_low hat, hab, hba, hta, htb, hta1, htb1, hta2, htb2, hat2, hbt2, set_lt hbt, set_lt hat, wrap_succ hlt (by omega : l.length ≤ 9223372036854775807)]) (by simp [frSub, lkG, ren, renL, renL_set, renL_ints, UpdOk.nil, UpdOk.cons, renOO_some, renO_cells, renO_map, renOO_mkOb, rn_base, rn_add, ren_mkSl, Enc.flat_ren, set_same, set_ne, sets_cons, sets_nil, Keep.set, Keep.setK, Keep.refl, siVs, rn_low hbt, rn_low hbft, rn_low hat, hab, hba, hta, htb, hta1, htb1, hta2, htb2, hat2, hbt2, set_lt hbt, set_lt hat, wrap_succ hlt (by omega : l.length ≤ 9223372036854775807)]))
      · have c2 : decide ((at' l j).v = g) = false := decide_eq_false c1
        have hset : mkSl b (m.set i (at' l j)) = mkSl b m := mkSl_len (by rw [List.length_set])
        have hst : ∀ {h' : Hp}, h' b = mkOb e_t96 m → sstore tt.get h' 96 (ptrS (mkSl b m) (i * 3)) (.agg ⟨[.int .u64 (at' l j).at_, .int .i64 (at' l j).ticket, .string ⟨⟨(at' l j).v⟩⟩]⟩) = ([(b, mkOb e_t96 (m.set i (at' l j)))], True) := fun h => os_st96 h him
        refine CW.vc env11s [0, 1, 4, 5, 6, 7, 12, 19, 29] (by kernel_rfl) ?_
        (simp only [go_sem, reduceIte, reduceCtorEq, Nat.reduceAdd, Nat.reduceMul, Nat.reduceSub, Nat.reduceLT, Nat.reduceLeDiff, Nat.reduceEqDiff, Int.reduceEq, Int.reduceLT, Int.reduceLE, Int.reduceNe, G11s_s1, conS1_s, stDfL, siVs, len_st96 hMS, idx_st96 hMS, ld_st96 hMS, hml, hpr, hf, hg, hfb, hab, hgb, hfa, hga, hba, hta, htb, hta1, htb1, hta2, htb2, hat2, hbt2, hft2, hgt2, set_lt hbft, set_lt hgt, set_lt hat, set_lt hbt, en_t96, hrs, hlt, hjm, him, hil, hld, c2, hst, mk_t96]; repeat (refine Vc.mk' ?_; simp only [go_sem, reduceIte, reduceCtorEq, Nat.reduceAdd, Nat.reduceMul, Nat.reduceSub, Nat.reduceLT, Nat.reduceLeDiff, Nat.reduceEqDiff, Int.reduceEq, Int.reduceLT, Int.reduceLE, Int.reduceNe, G11s_s1, conS1_s, stDfL, siVs, len_st96 hMS, idx_st96 hMS, ld_st96 hMS, hml, hpr, hf, hg, hfb, hab, hgb, hfa, hga, hba, hta, htb, hta1, htb1, hta2, htb2, hat2, hbt2, hft2, hgt2, set_lt hbft, set_lt hgt, set_lt hat, set_lt hbt, en_t96, hrs, hlt, hjm, him, hil, hld, c2, hst, mk_t96]))
        exact .mk (j + 1, m.set i (at' l j), i + 1) (hI.keep hlt c2) (show l.length - (j + 1) < l.length - j by omega) (SubR.mk' [top + 2] hcl (by simp) (by simp) rfl (frSub_ok (by simp [frSub, lkG, ren, renL, renL_set, renL_ints, UpdOk.nil, UpdOk.cons, renOO_some, renO_cells, renO_map, renOO_mkOb, rn_base, rn_add, ren_mkSl, Enc.flat_ren, set_same, set_ne, sets_cons, sets_nil, Keep.set, Keep.setK, Keep.refl, siVs, rn_low hbt, rn_low hbft, rn_low hat, hab, hba, hta, htb, hta1, htb1, hta2, htb2, hat2, hbt2, set_lt hbt, set_lt hat, hset, wrap_succ hlt (by omega : l.length ≤ 9223372036854775807), wrap_succ him (by omega : m.length ≤ 9223372036854775807)])) (by simp [frSub, lkG, ren, renL, renL_set, renL_ints, UpdOk.nil, UpdOk.cons, renOO_some, renO_cells, renO_map, renOO_mkOb, rn_base, rn_add, ren_mkSl, Enc.flat_ren, set_same, set_ne, sets_cons, sets_nil, Keep.set, Keep.setK, Keep.refl, siVs, rn_low hbt, rn_low hbft, rn_low hat, hab, hba, hta, htb, hta1, htb1, hta2, htb2, hat2, hbt2, set_lt hbt, set_lt hat, hset, wrap_succ hlt (by omega : l.length ≤ 9223372036854775807), wrap_succ him (by omega : m.length ≤ 9223372036854775807)]) (by simp [frSub, lkG, ren, renL, renL_set, renL_ints, UpdOk.nil, UpdOk.cons, renOO_some, renO_cells, renO_map, renOO_mkOb, rn_base, rn_add, ren_mkSl, Enc.flat_ren, set_same, set_ne, sets_cons, sets_nil, Keep.set, Keep.setK, Keep.refl, siVs, rn_low hbt, rn_low hbft, rn_low hat, hab, hba, hta, htb, hta1, htb1, hta2, htb2, hat2, hbt2, set_lt hbt, set_lt hat, hset, wrap_succ hlt (by omega : l.length ≤ 9223372036854775807), wrap_succ him (by omega : m.length ≤ 9223372036854775807)]))
    · have hj2 : j = l.length := by omega
      have hil : i < l.length := by omega
      have him : i < m.length := by omega
      have hmv : mkSl b m = .slice (some ⟨b, 0, none⟩) m.length m.length := by
        cases m with
        | nil => simp at him
        | cons a m => rfl
      have hmo : mkOb e_t96 m = some (.cells true 3 (e_t96.flat m)) := by
        cases m with
        | nil => simp at him
        | cons a m => rfl
      obtain ⟨vs, hvs⟩ : ∃ vs, vs = splice (e_t96.flat m) (i * 3) (zerosA ti96 (m.length - i)) := ⟨_, rfl⟩
      have hzl : (zerosA ti96 (m.length - i)).length = (m.length - i) * 3 := zerosA_length (tt_ok _ _ t_t96) _
      have hcl2 : ∀ {h' : Hp}, h' b = mkOb e_t96 m → clearA tt.get h' [64] (subL 3 (mkSl b m) i) = some [(b, some (.cells true 3 vs))] := fun {h'} h => by
        rw [hmv, hvs]
        simp only [subL, him, or_true, if_true, Nat.zero_add]
        exact clearA_some t_st96 rfl t_t96 rfl (by rw [h, hmo]) (by rw [Enc.flat_len]; show i * 3 + (m.length - i) * 3 ≤ m.length * 3; omega) (by omega) (zer_oneS _)
      have hren : ∀ {ρ : Nat → Nat}, renL ρ vs = vs := fun {ρ} => by
        have e1 : (e_t96.flat m).take (i * 3) = e_t96.flat (m.take i) := Enc.flat_take (E := e_t96) m i
        have e2 : (e_t96.flat m).drop (i * 3 + (zerosA ti96 (m.length - i)).length) = [] := List.drop_eq_nil_of_le (by rw [hzl, Enc.flat_len]; show m.length * 3 ≤ _; omega)
        rw [hvs]
        unfold splice
        rw [e1, e2, List.append_nil, renL_append, Enc.flat_ren, zer_renS]
      have hhi : ∀ {h' : Hp}, h' b = some (.cells true 3 (cellsOf (h' b))) → sslice tt.get h' 64 (mkSl b m) none (some (.int .i64 (i : Int))) = (.slice (some ⟨b, 0, none⟩) i m.length, True) := fun {h'} h => by
        rw [hmv]; exact hi_raw k_st96 t_t96 h (by omega)
      have hsw : ∀ {h' : Hp}, h' b = mkOb e_t96 m → sslice tt.get h' 64 (mkSl b m) (some (.int .i64 (i : Int))) none = (subL 3 (mkSl b m) i, True) := fun h => sw_st96 (SlT.ownB h (by omega)) (by omega) (by omega)
      have htk := hI.tk
      rw [hj2, List.take_length] at htk
      have hkl : (keptP (fun a : T_t96 => decide (a.v = g)) l).length = i := by rw [← htk, List.length_take]; omega
      have hspl : vs.take (i * 3) = e_t96.flat (keptP (fun a : T_t96 => decide (a.v = g)) l) := by
        have h3 : i * 3 ≤ (e_t96.flat m).length := by rw [Enc.flat_len]; show i * 3 ≤ m.length * 3; omega
        rw [hvs]
        unfold splice
        rw [List.append_assoc, List.take_append_of_le_length (by rw [List.length_take]; omega), List.take_take, Nat.min_self, ← htk]
        exact Enc.flat_take (E := e_t96) m i
      refine CW.vc env11s [0, 1, 4, 5, 6, 7, 12, 19, 29] (by kernel_rfl) ?_
      (simp only [go_sem, reduceIte, reduceCtorEq, Nat.reduceAdd, Nat.reduceMul, Nat.reduceSub, Nat.reduceLT, Nat.reduceLeDiff, Nat.reduceEqDiff, Int.reduceEq, Int.reduceLT, Int.reduceLE, Int.reduceNe, stDfL, len_st96 hMS, hsw, hml, hj2, Nat.lt_irrefl, decide_false, hcl2, hhi, him, Nat.le_of_lt him, Nat.le_of_lt hil, cellsOf_some, hab, hba, hta, htb, hta1, htb1, hta2, htb2, hat2, hbt2, set_lt hbt, set_lt hat]; repeat (refine Vc.mk' ?_; simp only [go_sem, reduceIte, reduceCtorEq, Nat.reduceAdd, Nat.reduceMul, Nat.reduceSub, Nat.reduceLT, Nat.reduceLeDiff, Nat.reduceEqDiff, Int.reduceEq, Int.reduceLT, Int.reduceLE, Int.reduceNe, stDfL, len_st96 hMS, hsw, hml, hj2, Nat.lt_irrefl, decide_false, hcl2, hhi, him, Nat.le_of_lt him, Nat.le_of_lt hil, cellsOf_some, hab, hba, hta, htb, hta1, htb1, hta2, htb2, hat2, hbt2, set_lt hbt, set_lt hat]))
      refine ⟨(vs, i, l.length), ⟨hkl.symm, hspl⟩, ?_⟩
      simp only [rawDfL]
      exact ⟨[top], by simp, by simp, by simp, by simp [frSub, lkG, ren, renL, renL_set, renL_ints, UpdOk.nil, UpdOk.cons, renOO_some, renO_cells, renO_map, renOO_mkOb, rn_base, rn_add, ren_mkSl, Enc.flat_ren, set_same, set_ne, sets_cons, sets_nil, Keep.set, Keep.setK, Keep.refl, rawDfL, rn_low hbt, rn_low hat, hren, hab, hba, hta, htb, hta1, htb1, hta2, htb2, hat2, hbt2, set_lt hbt, set_lt hat], by simp [frSub, lkG, ren, renL, renL_set, renL_ints, UpdOk.nil, UpdOk.cons, renOO_some, renO_cells, renO_map, renOO_mkOb, rn_base, rn_add, ren_mkSl, Enc.flat_ren, set_same, set_ne, sets_cons, sets_nil, Keep.set, Keep.setK, Keep.refl, rawDfL, rn_low hbt, rn_low hat, hren, hab, hba, hta, htb, hta1, htb1, hta2, htb2, hat2, hbt2, set_lt hbt, set_lt hat], by simp [frSub, lkG, ren, renL, renL_set, renL_ints, UpdOk.nil, UpdOk.cons, renOO_some, renO_cells, renO_map, renOO_mkOb, rn_base, rn_add, ren_mkSl, Enc.flat_ren, set_same, set_ne, sets_cons, sets_nil, Keep.set, Keep.setK, Keep.refl, rawDfL, rn_low hbt, rn_low hat, hren, hab, hba, hta, htb, hta1, htb1, hta2, htb2, hat2, hbt2, set_lt hbt, set_lt hat]⟩

theorem df_rawK (hp : Hp) (top b bf : Nat) (l : List T_t96) (hb : hp b = mkOb e_t96 l) (hf : hp bf = some (.cells true 0 [knV])) (hn : l.length ≤ 1000000) (hx : ixF (fun a : T_t96 => isP a.v) l < l.length) (hcl : Cl hp top) (hsc : ScL top [mkSl b l, siVs bf]) :
    CalledOk Try.prog 61 [mkSl b l, siVs bf] hp top fun v1 h1 top1 => ∃ x : List Value × Nat × Nat, (x.2.1 = (keptP (fun a : T_t96 => isP a.v) l).length ∧ x.1.take (x.2.1 * 3) = e_t96.flat (keptP (fun a : T_t96 => isP a.v) l)) ∧ top ≤ top1 ∧ ∃ bs, RetR hp top bs (rawDf b top x) v1 h1 top1 := by
  have hbt : b < top := by
    cases l with
    | nil => simp [ixF] at hx
    | cons a l => exact hcl.lt _ _ hb
  have hbft : bf < top := hcl.lt _ _ hf
  have hne : ¬ bf = b := fun e => by
    subst e
    rw [hf] at hb
    cases l with
    | nil => cases hb
    | cons a l => simp only [mkOb, Option.some.injEq, AObj.cells.injEq] at hb; exact absurd hb.2.1 (by decide)
  have hSP : ∀ {h' : Hp}, h' b = mkOb e_t96 l → SlP e_t96 h' (mkSl b l) = True := fun h => (SlT.ownB h (by omega)).P
  have hSr : ∀ {h' : Hp}, h' b = mkOb e_t96 l → e_t96.rd h' (mkSl b l) = l := fun h => (SlT.ownB h (by omega)).rd
  have hFn : ∀ {h' : Hp}, h' bf = some (.cells true 0 [knV]) → FnIs h' (siVs bf) = True := fun h => eq_true (.kn bf h)
  generalize hi0 : ixF (fun a : T_t96 => isP a.v) l = i0 at hx
  have hIx : ∀ {h' : Hp} {t : Nat}, h' bf = some (.cells true 0 [knV]) → ixC h' (siVs bf) l t = (.int .i64 (i0 : Int), [], t) := fun h1 => by
    rw [ixC_kn h1, hi0]
    unfold ixResS
    rw [if_pos hx]
  have hm1 : ¬ (i0 : Int) = -1 := by omega
  have hw0 : wrapA .i64 ((i0 : Int) + 1) = ((i0 + 1 : Nat) : Int) := by rw [wrap64 (by omega) (by omega)]; omega
  refine CalledOk.of_fun tt_ok fn61_ok rfl 42 rfl [.tmp 4] rfl (show 2 ≤ 42 by decide) ?_
  refine CW.vc env11s [0, 1, 4, 5, 6, 7, 12, 19, 29] (by kernel_rfl) ?_
  (simp only [go_sem, reduceIte, reduceCtorEq, Nat.reduceAdd, Nat.reduceMul, Nat.reduceSub, Nat.reduceLT, Nat.reduceLeDiff, Nat.reduceEqDiff, Int.reduceEq, Int.reduceLT, Int.reduceLE, Int.reduceNe, G11s_ix, conIx_s, hSP, hSr, hb, hf, hn, hFn, hIx, hx, hm1, hw0]; repeat (refine Vc.mk' ?_; simp only [go_sem, reduceIte, reduceCtorEq, Nat.reduceAdd, Nat.reduceMul, Nat.reduceSub, Nat.reduceLT, Nat.reduceLeDiff, Nat.reduceEqDiff, Int.reduceEq, Int.reduceLT, Int.reduceLE, Int.reduceNe, G11s_ix, conIx_s, hSP, hSr, hb, hf, hn, hFn, hIx, hx, hm1, hw0]))
  refine CW.loopR (stDfK hp top b bf) (fun x => DfP (fun a : T_t96 => isP a.v) l x.2.1 x.2.2 x.1) (fun x => l.length - x.1) (i0 + 1, l, i0) ?_ ?_ ?_
  · rw [← hi0] at hx ⊢; exact DfP.start hx
  · exact SubR.mk' [] hcl (by simp) (by simp) rfl (frSub_ok (by simp [frSub, lkG, ren, renL, renL_set, renL_ints, UpdOk.nil, UpdOk.cons, renOO_some, renO_cells, renO_map, renOO_mkOb, rn_base, rn_add, ren_mkSl, Enc.flat_ren, set_same, set_ne, sets_cons, sets_nil, Keep.set, Keep.setK, Keep.refl, siVs, rn_low hbt, rn_low hbft, hb])) (by simp [frSub, lkG, ren, renL, renL_set, renL_ints, UpdOk.nil, UpdOk.cons, renOO_some, renO_cells, renO_map, renOO_mkOb, rn_base, rn_add, ren_mkSl, Enc.flat_ren, set_same, set_ne, sets_cons, sets_nil, Keep.set, Keep.setK, Keep.refl, siVs, rn_low hbt, rn_low hbft, hb]) (by simp [frSub, lkG, ren, renL, renL_set, renL_ints, UpdOk.nil, UpdOk.cons, renOO_some, renO_cells, renO_map, renOO_mkOb, rn_base, rn_add, ren_mkSl, Enc.flat_ren, set_same, set_ne, sets_cons, sets_nil, Keep.set, Keep.setK, Keep.refl, siVs, rn_low hbt, rn_low hbft, hb])
  · rintro ⟨j, m, i⟩ hI
    replace hI : DfP (fun a : T_t96 => isP a.v) l m i j := hI
    have hml := hI.len
    have hij := hI.lt
    have hjl := hI.le
    have hMS : SlT e_t96 (hp.set b (mkOb e_t96 m)) (mkSl b m) m := .ownB (set_same ..) (by omega)
    have hpr : ∀ {h' : Hp}, h' bf = some (.cells true 0 [knV]) → S1Pre h' bf = True := S1Pre_kn
    have hrs : ∀ {h' : Hp} {s : List UInt8} {t : Nat}, h' bf = some (.cells true 0 [knV]) → s1R h' bf s t = (.bool (isP s), [], t) := s1R_kn
    by_cases hlt : j < l.length
    · have hjm : j < m.length := by omega
      have him : i < m.length := by omega
      have hil : i < l.length := by omega
      have hat := hI.at hlt
      cases c1 : isP (at' l j).v with
      | true =>
        refine CW.vc env11s [0, 1, 4, 5, 6, 7, 12, 19, 29] (by kernel_rfl) ?_
        (simp only [go_sem, reduceIte, reduceCtorEq, Nat.reduceAdd, Nat.reduceMul, Nat.reduceSub, Nat.reduceLT, Nat.reduceLeDiff, Nat.reduceEqDiff, Int.reduceEq, Int.reduceLT, Int.reduceLE, Int.reduceNe, G11s_s1, conS1_s, hpr, hrs, stDfK, siVs, len_st96 hMS, idx_st96 hMS, ld_st96 hMS, hml, hlt, hjm, him, hat, en_t96, c1, hf, hne, hbt, hbft, set_lt hbft]; repeat (refine Vc.mk' ?_; simp only [go_sem, reduceIte, reduceCtorEq, Nat.reduceAdd, Nat.reduceMul, Nat.reduceSub, Nat.reduceLT, Nat.reduceLeDiff, Nat.reduceEqDiff, Int.reduceEq, Int.reduceLT, Int.reduceLE, Int.reduceNe, G11s_s1, conS1_s, hpr, hrs, stDfK, siVs, len_st96 hMS, idx_st96 hMS, ld_st96 hMS, hml, hlt, hjm, him, hat, en_t96, c1, hf, hne, hbt, hbft, set_lt hbft]))
        exact .mk (j + 1, m, i) (hI.skip hlt c1) (show l.length - (j + 1) < l.length - j by omega) (SubR.mk' [] hcl (by simp) (by simp) rfl (frSub_ok (by simp [frSub, lkG, ren, renL, renL_set, renL_ints, UpdOk.nil, UpdOk.cons, renOO_some, renO_cells, renO_map, renOO_mkOb, rn_base, rn_add, ren_mkSl, Enc.flat_ren, set_same, set_ne, sets_cons, sets_nil, Keep.set, Keep.setK, Keep.refl, siVs, rn_low hbt, rn_low hbft, set_lt hbt, wrap_succ hlt (by omega : l.length ≤ 9223372036854775807)])) (by simp [frSub, lkG, ren, renL, renL_set, renL_ints, UpdOk.nil, UpdOk.cons, renOO_some, renO_cells, renO_map, renOO_mkOb, rn_base, rn_add, ren_mkSl, Enc.flat_ren, set_same, set_ne, sets_cons, sets_nil, Keep.set, Keep.setK, Keep.refl, siVs, rn_low hbt, rn_low hbft, set_lt hbt, wrap_succ hlt (by omega : l.length ≤ 9223372036854775807)]) (by simp [frSub, lkG, ren, renL, renL_set, renL_ints, UpdOk.nil, UpdOk.cons, renOO_some, renO_cells, renO_map, renOO_mkOb, rn_base, rn_add, ren_mkSl, Enc.flat_ren, set_same, set_ne, sets_cons, sets_nil, Keep.set, Keep.setK, Keep.refl, siVs, rn_low hbt, rn_low hbft, set_lt hbt, wrap_succ hlt (by omega : l.length ≤ 9223372036854775807)]))
      | false =>
        have hset : mkSl b (m.set i (at' l j)) = mkSl b m := mkSl_len (by rw [List.length_set])
        have hst : ∀ {h' : Hp}, h' b = mkOb e_t96 m → sstore tt.get h' 96 (ptrS (mkSl b m) (i * 3)) (.agg ⟨[.int .u64 (at' l j).at_, .int .i64 (at' l j).ticket, .string ⟨⟨(at' l j).v⟩⟩]⟩) = ([(b, mkOb e_t96 (m.set i (at' l j)))], True) := fun h => os_st96 h him
        refine CW.vc env11s [0, 1, 4, 5, 6, 7, 12, 19, 29] (by kernel_rfl) ?_
        (simp only [go_sem, reduceIte, reduceCtorEq, Nat.reduceAdd, Nat.reduceMul, Nat.reduceSub, Nat.reduceLT, Nat.reduceLeDiff, Nat.reduceEqDiff, Int.reduceEq, Int.reduceLT, Int.reduceLE, Int.reduceNe, G11s_s1, conS1_s, hpr, hrs, stDfK, siVs, len_st96 hMS, idx_st96 hMS, ld_st96 hMS, hml, hlt, hjm, him, hil, hat, hst, en_t96, c1, hf, hne, hbt, hbft, set_lt hbft, set_lt hbt, mk_t96]; repeat (refine Vc.mk' ?_; simp only [go_sem, reduceIte, reduceCtorEq, Nat.reduceAdd, Nat.reduceMul, Nat.reduceSub, Nat.reduceLT, Nat.reduceLeDiff, Nat.reduceEqDiff, Int.reduceEq, Int.reduceLT, Int.reduceLE, Int.reduceNe, G11s_s1, conS1_s, hpr, hrs, stDfK, siVs, len_st96 hMS, idx_st96 hMS, ld_st96 hMS, hml, hlt, hjm, him, hil, hat, hst, en_t96, c1, hf, hne, hbt, hbft, set_lt hbft, set_lt hbt, mk_t96]))
        exact .mk (j + 1, m.set i (at' l j), i + 1) (hI.keep hlt c1) (show l.length - (j + 1) < l.length - j by omega) (SubR.mk' [] hcl (by simp) (by simp) rfl (frSub_ok (by simp [frSub, lkG, ren, renL, renL_set, renL_ints, UpdOk.nil, UpdOk.cons, renOO_some, renO_cells, renO_map, renOO_mkOb, rn_base, rn_add, ren_mkSl, Enc.flat_ren, set_same, set_ne, sets_cons, sets_nil, Keep.set, Keep.setK, Keep.refl, siVs, rn_low hbt, rn_low hbft, set_lt hbt, hset, wrap_succ hlt (by omega : l.length ≤ 9223372036854775807), wrap_succ him (by omega : m.length ≤ 9223372036854775807)])) (by simp [frSub, lkG, ren, renL, renL_set, renL_ints, UpdOk.nil, UpdOk.cons, renOO_some, renO_cells, renO_map, renOO_mkOb, rn_base, rn_add, ren_mkSl, Enc.flat_ren, set_same, set_ne, sets_cons, sets_nil, Keep.set, Keep.setK, Keep.refl, siVs, rn_low hbt, rn_low hbft, set_lt hbt, hset, wrap_succ hlt (by omega : l.length ≤ 9223372036854775807), wrap_succ him (by omega : m.length ≤ 9223372036854775807)]) (by simp [frSub, lkG, ren, renL, renL_set, renL_ints, UpdOk.nil, UpdOk.cons, renOO_some, renO_cells, renO_map, renOO_mkOb, rn_base, rn_add, ren_mkSl, Enc.flat_ren, set_same, set_ne, sets_cons, sets_nil, Keep.set, Keep.setK, Keep.refl, siVs, rn_low hbt, rn_low hbft, set_lt hbt, hset, wrap_succ hlt (by omega : l.length ≤ 9223372036854775807), wrap_succ him (by omega : m.length ≤ 9223372036854775807)]))
    · have hj2 : j = l.length := by omega
      have hil : i < l.length := by omega
      have him : i < m.length := by omega
      have hmv : mkSl b m = .slice (some ⟨b, 0, none⟩) m.length m.length := by
        cases m with
        | nil => simp at him
        | cons a m => rfl
      have hmo : mkOb e_t96 m = some (.cells true 3 (e_t96.flat m)) := by
        cases m with
        | nil => simp at him
        | cons a m => rfl
      obtain ⟨vs, hvs⟩ : ∃ vs, vs = splice (e_t96.flat m) (i * 3) (zerosA ti96 (m.length - i)) := ⟨_, rfl⟩
      have hzl : (zerosA ti96 (m.length - i)).length = (m.length - i) * 3 := zerosA_length (tt_ok _ _ t_t96) _
      have hcl2 : ∀ {h' : Hp}, h' b = mkOb e_t96 m → clearA tt.get h' [64] (subL 3 (mkSl b m) i) = some [(b, some (.cells true 3 vs))] := fun {h'} h => by
        rw [hmv, hvs]
        simp only [subL, him, or_true, if_true, Nat.zero_add]
        exact clearA_some t_st96 rfl t_t96 rfl (by rw [h, hmo]) (by rw [Enc.flat_len]; show i * 3 + (m.length - i) * 3 ≤ m.length * 3; omega) (by omega) (zer_oneS _)
      have hren : ∀ {ρ : Nat → Nat}, renL ρ vs = vs := fun {ρ} => by
        have e1 : (e_t96.flat m).take (i * 3) = e_t96.flat (m.take i) := Enc.flat_take (E := e_t96) m i
        have e2 : (e_t96.flat m).drop (i * 3 + (zerosA ti96 (m.length - i)).length) = [] := List.drop_eq_nil_of_le (by rw [hzl, Enc.flat_len]; show m.length * 3 ≤ _; omega)
        rw [hvs]
        unfold splice
        rw [e1, e2, List.append_nil, renL_append, Enc.flat_ren, zer_renS]
      have hhi : ∀ {h' : Hp}, h' b = some (.cells true 3 (cellsOf (h' b))) → sslice tt.get h' 64 (mkSl b m) none (some (.int .i64 (i : Int))) = (.slice (some ⟨b, 0, none⟩) i m.length, True) := fun {h'} h => by
        rw [hmv]; exact hi_raw k_st96 t_t96 h (by omega)
      have htk := hI.tk
      rw [hj2, List.take_length] at htk
      have hkl : (keptP (fun a : T_t96 => isP a.v) l).length = i := by rw [← htk, List.length_take]; omega
      have hspl : vs.take (i * 3) = e_t96.flat (keptP (fun a : T_t96 => isP a.v) l) := by
        have h3 : i * 3 ≤ (e_t96.flat m).length := by rw [Enc.flat_len]; show i * 3 ≤ m.length * 3; omega
        rw [hvs]
        unfold splice
        rw [List.append_assoc, List.take_append_of_le_length (by rw [List.length_take]; omega), List.take_take, Nat.min_self, ← htk]
        exact Enc.flat_take (E := e_t96) m i
      refine CW.vc env11s [0, 1, 4, 5, 6, 7, 12, 19, 29] (by kernel_rfl) ?_
      (simp only [go_sem, reduceIte, reduceCtorEq, Nat.reduceAdd, Nat.reduceMul, Nat.reduceSub, Nat.reduceLT, Nat.reduceLeDiff, Nat.reduceEqDiff, Int.reduceEq, Int.reduceLT, Int.reduceLE, Int.reduceNe, stDfK, len_st96 hMS, sw_st96 hMS, hml, hj2, Nat.lt_irrefl, decide_false, hcl2, hhi, him, Nat.le_of_lt him, Nat.le_of_lt hil, cellsOf_some]; repeat (refine Vc.mk' ?_; simp only [go_sem, reduceIte, reduceCtorEq, Nat.reduceAdd, Nat.reduceMul, Nat.reduceSub, Nat.reduceLT, Nat.reduceLeDiff, Nat.reduceEqDiff, Int.reduceEq, Int.reduceLT, Int.reduceLE, Int.reduceNe, stDfK, len_st96 hMS, sw_st96 hMS, hml, hj2, Nat.lt_irrefl, decide_false, hcl2, hhi, him, Nat.le_of_lt him, Nat.le_of_lt hil, cellsOf_some]))
      refine ⟨(vs, i, l.length), ⟨hkl.symm, hspl⟩, ?_⟩
      simp only [rawDf]
      exact ⟨[], by simp, by simp, by simp, by simp [frSub, lkG, ren, renL, renL_set, renL_ints, UpdOk.nil, UpdOk.cons, renOO_some, renO_cells, renO_map, renOO_mkOb, rn_base, rn_add, ren_mkSl, Enc.flat_ren, set_same, set_ne, sets_cons, sets_nil, Keep.set, Keep.setK, Keep.refl, rawDf, rn_low hbt, hren], by simp [frSub, lkG, ren, renL, renL_set, renL_ints, UpdOk.nil, UpdOk.cons, renOO_some, renO_cells, renO_map, renOO_mkOb, rn_base, rn_add, ren_mkSl, Enc.flat_ren, set_same, set_ne, sets_cons, sets_nil, Keep.set, Keep.setK, Keep.refl, rawDf, rn_low hbt, hren], by simp [frSub, lkG, ren, renL, renL_set, renL_ints, UpdOk.nil, UpdOk.cons, renOO_some, renO_cells, renO_map, renOO_mkOb, rn_base, rn_add, ren_mkSl, Enc.flat_ren, set_same, set_ne, sets_cons, sets_nil, Keep.set, Keep.setK, Keep.refl, rawDf, rn_low hbt, hren]⟩
def dfCk (hp : Hp) (kv v : Value) (l : List T_t96) (top : Nat) : Value × Upds × Nat := match kv with
  | .func _ _ ⟨[.pointer (some ⟨ab, _, _⟩), .pointer (some ⟨gb, _, _⟩)]⟩ => (dfV v (keptP (fun a : T_t96 => decide (a.v = goneOf hp gb)) l),
      dfU e_t96 v (keptP (fun a : T_t96 => decide (a.v = goneOf hp gb)) l) ++ [(ab, some (.cells true 0 [mkSl top (outs_s l l.length)])), (top, mkOb e_string (outs_s l l.length))], top + 1)
  | _ => (dfV v (keptP (fun a : T_t96 => isP a.v) l), dfU e_t96 v (keptP (fun a : T_t96 => isP a.v) l), top)
def dfC (hp : Hp) (f v : Value) (l : List T_t96) (top : Nat) : Value × Upds × Nat := match f with
  | .func _ _ ⟨[.pointer (some ⟨b, _, _⟩)]⟩ => dfCk hp ((cellsOf (hp b)).headD undef) v l top
  | _ => (undef, [], top)
section
variable {hp : Hp} {b ab gb top : Nat} {l : List T_t96} {g : List UInt8} {v : Value}
theorem dfC_kn (h : hp b = some (.cells true 0 [knV])) : dfC hp (siVs b) v l top = (dfV v (keptP (fun a : T_t96 => isP a.v) l), dfU e_t96 v (keptP (fun a : T_t96 => isP a.v) l), top) := by
  show dfCk hp ((cellsOf (hp b)).headD undef) v l top = _
  rw [h]; rfl
theorem dfC_lw (h : hp b = some (.cells true 0 [lwV ab gb])) (hg : hp gb = some (.cells true 0 [.string ⟨⟨g⟩⟩])) : dfC hp (siVs b) v l top = (dfV v (keptP (fun a : T_t96 => decide (a.v = g)) l),
    dfU e_t96 v (keptP (fun a : T_t96 => decide (a.v = g)) l) ++ [(ab, some (.cells true 0 [mkSl top (outs_s l l.length)])), (top, mkOb e_string (outs_s l l.length))], top + 1) := by
  show dfCk hp ((cellsOf (hp b)).headD undef) v l top = _
  have e : goneOf hp gb = g := by unfold goneOf; rw [hg]; rfl
  rw [h, ← e]; rfl
end
def conDf_s : Con := .det (fun args hp _ => match args with | [v, f] => (∃ l, OwnV e_t96 hp v l ∧ l.length ≤ 1000000) ∧ FnS hp f | _ => False)
  (fun args hp top => match args with | [v, f] => dfC hp f v (e_t96.rd hp v) top | _ => (undef, [], top))
theorem df_s_ok : ConOk Try.prog 61 conDf_s := by
  refine ⟨⟨_, fn61_ok.toFTOk⟩, fun args hp top hpre => ?_⟩
  match args, hpre with
  | [v, f], ⟨⟨l, hO, hn⟩, hF⟩ =>
  simp only [hO.slT.rd]
  cases hF with
  | kn bf hf =>
    rw [dfC_kn hf]
    by_cases hx : ixF (fun a : T_t96 => isP a.v) l < l.length
    · cases hO with
      | nil => simp [ixF] at hx
      | blk b l hb hn' =>
        cases l with
        | nil => simp [ixF] at hx
        | cons a l =>
          show CalledOk Try.prog 61 [mkSl b (a :: l), siVs bf] hp top _
          intro φ own w args' ha H htop
          refine Calls.mono (shrink (b := b) (i := (keptP (fun a : T_t96 => isP a.v) (a :: l)).length) (z := 3) (rows := e_t96.flat (keptP (fun a : T_t96 => isP a.v) (a :: l))) ?_ φ own w args' ha H htop) ?_
          · intro φ own w args' ha H htop
            refine Calls.mono (mkDetE (fun hcl hsc => df_rawK hp top b bf (a :: l) hb hf hn hx hcl hsc) φ own w args' ha H htop) ?_
            rintro e w' ⟨v1, h1, t1, v', φ', rfl, ⟨x, ⟨hx1, hx2⟩, rfl, rfl, rfl⟩, W⟩
            exact ⟨_, _, _, v', φ', rfl, ⟨x.2.2, x.1, by rw [← hx1]; rfl, rfl, rfl, by rw [← hx1, hx2]⟩, W⟩
          · rintro e w' ⟨v1, h1, t1, v', φ', rfl, ⟨rfl, rfl, rfl⟩, W⟩
            exact ⟨_, _, _, v', φ', rfl, ⟨rfl, rfl, rfl⟩, W⟩
    · have hxe : ixF (fun a : T_t96 => isP a.v) l = l.length := by have := ixF_le (fun a : T_t96 => isP a.v) l; omega
      have hk : keptP (fun a : T_t96 => isP a.v) l = l := filter_none hxe
      refine CalledOk.mkDet (r := (dfV v (keptP (fun a : T_t96 => isP a.v) l), dfU e_t96 v (keptP (fun a : T_t96 => isP a.v) l), top)) ?_
      intro hcl hsc
      have lvs := hO.slT.low hcl
      have hbft : bf < top := hcl.lt _ _ hf
      have hSP : ∀ {h' : Hp}, Keep top [] h' hp → SlP e_t96 h' v = True := fun {h'} hk => (hO.mono fun b n c e => by subst e; exact hk b lvs (by simp)).slT.P
      have hSr : ∀ {h' : Hp}, Keep top [] h' hp → e_t96.rd h' v = l := fun {h'} hk => (hO.mono fun b n c e => by subst e; exact hk b lvs (by simp)).slT.rd
      have hFn : ∀ {h' : Hp}, h' bf = some (.cells true 0 [knV]) → FnIs h' (siVs bf) = True := fun h => eq_true (.kn bf h)
      have hIx : ∀ {h' : Hp} {t : Nat}, h' bf = some (.cells true 0 [knV]) → ixC h' (siVs bf) l t = (.int .i64 (-1), [], t) := fun h1 => by
        rw [ixC_kn h1, hxe]
        unfold ixResS
        rw [if_neg (Nat.lt_irrefl _)]
      refine CalledOk.of_fun tt_ok fn61_ok rfl 42 rfl [.tmp 4] rfl (show 2 ≤ 42 by decide) ?_
      refine CW.vc env11s [0, 1, 4, 5, 6, 7, 12, 19, 29] (by kernel_rfl) ?_
      (simp only [go_sem, reduceIte, reduceCtorEq, Nat.reduceAdd, Nat.reduceMul, Nat.reduceSub, Nat.reduceLT, Nat.reduceLeDiff, Nat.reduceEqDiff, Int.reduceEq, Int.reduceLT, Int.reduceLE, Int.reduceNe, G11s_ix, conIx_s, hSP, hSr, hf, hn, hFn, hIx]; repeat (refine Vc.mk' ?_; simp only [go_sem, reduceIte, reduceCtorEq, Nat.reduceAdd, Nat.reduceMul, Nat.reduceSub, Nat.reduceLT, Nat.reduceLeDiff, Nat.reduceEqDiff, Int.reduceEq, Int.reduceLT, Int.reduceLE, Int.reduceNe, G11s_ix, conIx_s, hSP, hSr, hf, hn, hFn, hIx]))
      rw [hk]
      cases hO with
      | nil =>
        simp only [dfV, dfU]
        exact ⟨[], by simp, by simp, by simp, by simp [frSub, lkG, ren, renL, renL_set, renL_ints, UpdOk.nil, UpdOk.cons, renOO_some, renO_cells, renO_map, renOO_mkOb, rn_base, rn_add, ren_mkSl, Enc.flat_ren, set_same, set_ne, sets_cons, sets_nil, Keep.set, Keep.setK, Keep.refl], by simp [frSub, lkG, ren, renL, renL_set, renL_ints, UpdOk.nil, UpdOk.cons, renOO_some, renO_cells, renO_map, renOO_mkOb, rn_base, rn_add, ren_mkSl, Enc.flat_ren, set_same, set_ne, sets_cons, sets_nil, Keep.set, Keep.setK, Keep.refl], by simp [frSub, lkG, ren, renL, renL_set, renL_ints, UpdOk.nil, UpdOk.cons, renOO_some, renO_cells, renO_map, renOO_mkOb, rn_base, rn_add, ren_mkSl, Enc.flat_ren, set_same, set_ne, sets_cons, sets_nil, Keep.set, Keep.setK, Keep.refl]⟩
      | blk b l hb hn' =>
        have hbt : b < top := lvs
        simp only [dfV, dfU, ownS, ownO]
        exact ⟨[], by simp, by simp, by simp, by simp [frSub, lkG, ren, renL, renL_set, renL_ints, UpdOk.nil, UpdOk.cons, renOO_some, renO_cells, renO_map, renOO_mkOb, rn_base, rn_add, ren_mkSl, Enc.flat_ren, set_same, set_ne, sets_cons, sets_nil, Keep.set, Keep.setK, Keep.refl, rn_low hbt, hb, Enc.flat_ren], by simp [frSub, lkG, ren, renL, renL_set, renL_ints, UpdOk.nil, UpdOk.cons, renOO_some, renO_cells, renO_map, renOO_mkOb, rn_base, rn_add, ren_mkSl, Enc.flat_ren, set_same, set_ne, sets_cons, sets_nil, Keep.set, Keep.setK, Keep.refl, rn_low hbt, hb, Enc.flat_ren], by simp [frSub, lkG, ren, renL, renL_set, renL_ints, UpdOk.nil, UpdOk.cons, renOO_some, renO_cells, renO_map, renOO_mkOb, rn_base, rn_add, ren_mkSl, Enc.flat_ren, set_same, set_ne, sets_cons, sets_nil, Keep.set, Keep.setK, Keep.refl, rn_low hbt, hb, Enc.flat_ren]⟩
  | lw bf ab gb g hf hg ha =>
    rw [dfC_lw hf hg]
    by_cases hx : ixF (fun a : T_t96 => decide (a.v = g)) l < l.length
    · cases hO with
      | nil => simp [ixF] at hx
      | blk b l hb hn' =>
        cases l with
        | nil => simp [ixF] at hx
        | cons a l =>
          show CalledOk Try.prog 61 [mkSl b (a :: l), siVs bf] hp top _
          intro φ own w args' ha' H htop
          have hcl := H.cl htop
          have hab : ab ≠ b := fun e => by
            subst e
            rw [ha] at hb
            simp only [Option.some.injEq, AObj.cells.injEq] at hb
            exact absurd hb.2.1 (by decide)
          have hbt : b < top := hcl.lt _ _ hb
          have hus : ∀ p ∈ [(ab, some (AObj.cells true 0 [mkSl top (outs_s (a :: l) (a :: l).length)])), (top, mkOb e_string (outs_s (a :: l) (a :: l).length))], p.1 ≠ b := by
            intro p hp
            simp only [List.mem_cons, List.not_mem_nil, or_false] at hp
            rcases hp with rfl | rfl
            · exact hab
            · exact fun e => by simp only at e; omega
          refine Calls.mono (shrink2 (b := b) (i := (keptP (fun a : T_t96 => decide (a.v = g)) (a :: l)).length) (z := 3) (rows := e_t96.flat (keptP (fun a : T_t96 => decide (a.v = g)) (a :: l))) (top2 := top + 1) hus ?_ φ own w args' ha' H htop) ?_
          · intro φ own w args' ha' H htop
            refine Calls.mono (mkDetE (fun hcl hsc => df_rawL hp top b bf ab gb g (a :: l) hb hf hg ha hn hx hcl hsc) φ own w args' ha' H htop) ?_
            rintro e w' ⟨v1, h1, t1, v', φ', rfl, ⟨x, ⟨hx1, hx2⟩, rfl, rfl, rfl⟩, W⟩
            exact ⟨_, _, _, v', φ', rfl, ⟨x.2.2, x.1, by rw [← hx1]; rfl, rfl, rfl, by rw [← hx1, hx2]⟩, W⟩
          · rintro e w' ⟨v1, h1, t1, v', φ', rfl, ⟨rfl, rfl, rfl⟩, W⟩
            exact ⟨_, _, _, v', φ', rfl, ⟨rfl, rfl, rfl⟩, W⟩
    · have hxe : ixF (fun a : T_t96 => decide (a.v = g)) l = l.length := by have := ixF_le (fun a : T_t96 => decide (a.v = g)) l; omega
      have hk : keptP (fun a : T_t96 => decide (a.v = g)) l = l := filter_none hxe
      have hal : outs_s l (l.length + 1) = outs_s l l.length := by unfold outs_s; rw [List.take_of_length_le (by omega), List.take_of_length_le (by omega)]
      refine CalledOk.mkDet (r := (dfV v (keptP (fun a : T_t96 => decide (a.v = g)) l), dfU e_t96 v (keptP (fun a : T_t96 => decide (a.v = g)) l) ++ [(ab, some (.cells true 0 [mkSl top (outs_s l l.length)])), (top, mkOb e_string (outs_s l l.length))], top + 1)) ?_
      intro hcl hsc
      have lvs := hO.slT.low hcl
      have hbft : bf < top := hcl.lt _ _ hf
      have hat : ab < top := hcl.lt _ _ ha
      have hta : ¬ top = ab := by omega
      have hat2 : ¬ ab = top := by omega
      have hSP : ∀ {h' : Hp}, Keep top [] h' hp → SlP e_t96 h' v = True := fun {h'} hk => (hO.mono fun b n c e => by subst e; exact hk b lvs (by simp)).slT.P
      have hSr : ∀ {h' : Hp}, Keep top [] h' hp → e_t96.rd h' v = l := fun {h'} hk => (hO.mono fun b n c e => by subst e; exact hk b lvs (by simp)).slT.rd
      have hFn : ∀ {h' : Hp}, h' bf = some (.cells true 0 [lwV ab gb]) → h' gb = some (.cells true 0 [.string ⟨⟨g⟩⟩]) → h' ab = some (.cells true 0 [.slice none 0 0]) → FnIs h' (siVs bf) = True := fun h1 h2 h3 => eq_true (.lw bf ab gb g h1 h2 h3)
      have hIx : ∀ {h' : Hp} {t : Nat}, h' bf = some (.cells true 0 [lwV ab gb]) → h' gb = some (.cells true 0 [.string ⟨⟨g⟩⟩]) → ixC h' (siVs bf) l t = (.int .i64 (-1), [(ab, some (.cells true 0 [mkSl t (outs_s l l.length)])), (t, mkOb e_string (outs_s l l.length))], t + 1) := fun h1 h2 => by
        rw [ixC_lw h1 h2, hxe, hal]
        unfold ixResS
        rw [if_neg (Nat.lt_irrefl _)]
      refine CalledOk.of_fun tt_ok fn61_ok rfl 42 rfl [.tmp 4] rfl (show 2 ≤ 42 by decide) ?_
      refine CW.vc env11s [0, 1, 4, 5, 6, 7, 12, 19, 29] (by kernel_rfl) ?_
      (simp only [go_sem, reduceIte, reduceCtorEq, Nat.reduceAdd, Nat.reduceMul, Nat.reduceSub, Nat.reduceLT, Nat.reduceLeDiff, Nat.reduceEqDiff, Int.reduceEq, Int.reduceLT, Int.reduceLE, Int.reduceNe, G11s_ix, conIx_s, hSP, hSr, hf, hg, ha, hn, hFn, hIx]; repeat (refine Vc.mk' ?_; simp only [go_sem, reduceIte, reduceCtorEq, Nat.reduceAdd, Nat.reduceMul, Nat.reduceSub, Nat.reduceLT, Nat.reduceLeDiff, Nat.reduceEqDiff, Int.reduceEq, Int.reduceLT, Int.reduceLE, Int.reduceNe, G11s_ix, conIx_s, hSP, hSr, hf, hg, ha, hn, hFn, hIx]))
      rw [hk]
      cases hO with
      | nil =>
        simp only [dfV, dfU, List.nil_append]
        exact ⟨[top], by simp, by simp, by simp, by simp [frSub, lkG, ren, renL, renL_set, renL_ints, UpdOk.nil, UpdOk.cons, renOO_some, renO_cells, renO_map, renOO_mkOb, rn_base, rn_add, ren_mkSl, Enc.flat_ren, set_same, set_ne, sets_cons, sets_nil, Keep.set, Keep.setK, Keep.refl, rn_low hat, hta, hat2, set_lt hat], by simp [frSub, lkG, ren, renL, renL_set, renL_ints, UpdOk.nil, UpdOk.cons, renOO_some, renO_cells, renO_map, renOO_mkOb, rn_base, rn_add, ren_mkSl, Enc.flat_ren, set_same, set_ne, sets_cons, sets_nil, Keep.set, Keep.setK, Keep.refl, rn_low hat, hta, hat2, set_lt hat], by simp [frSub, lkG, ren, renL, renL_set, renL_ints, UpdOk.nil, UpdOk.cons, renOO_some, renO_cells, renO_map, renOO_mkOb, rn_base, rn_add, ren_mkSl, Enc.flat_ren, set_same, set_ne, sets_cons, sets_nil, Keep.set, Keep.setK, Keep.refl, rn_low hat, hta, hat2, set_lt hat]⟩
      | blk b l hb hn' =>
        have hbt : b < top := lvs
        have hab : ¬ ab = b := fun e => by
          subst e
          rw [ha] at hb
          simp only [Option.some.injEq, AObj.cells.injEq] at hb
          exact absurd hb.2.1 (by decide)
        have hba : ¬ b = ab := fun e => hab e.symm
        have htb : ¬ top = b := by omega
        simp only [dfV, dfU, ownS, ownO, List.cons_append, List.nil_append]
        exact ⟨[top], by simp, by simp, by simp, by simp [frSub, lkG, ren, renL, renL_set, renL_ints, UpdOk.nil, UpdOk.cons, renOO_some, renO_cells, renO_map, renOO_mkOb, rn_base, rn_add, ren_mkSl, Enc.flat_ren, set_same, set_ne, sets_cons, sets_nil, Keep.set, Keep.setK, Keep.refl, rn_low hbt, rn_low hat, hb, Enc.flat_ren, hta, hat2, hab, hba, htb, set_lt hat, set_lt hbt], by simp [frSub, lkG, ren, renL, renL_set, renL_ints, UpdOk.nil, UpdOk.cons, renOO_some, renO_cells, renO_map, renOO_mkOb, rn_base, rn_add, ren_mkSl, Enc.flat_ren, set_same, set_ne, sets_cons, sets_nil, Keep.set, Keep.setK, Keep.refl, rn_low hbt, rn_low hat, hb, Enc.flat_ren, hta, hat2, hab, hba, htb, set_lt hat, set_lt hbt], by simp [frSub, lkG, ren, renL, renL_set, renL_ints, UpdOk.nil, UpdOk.cons, renOO_some, renO_cells, renO_map, renOO_mkOb, rn_base, rn_add, ren_mkSl, Enc.flat_ren, set_same, set_ne, sets_cons, sets_nil, Keep.set, Keep.setK, Keep.refl, rn_low hbt, rn_low hat, hb, Enc.flat_ren, hta, hat2, hab, hba, htb, set_lt hat, set_lt hbt]⟩
end Go.Proofs.Ytogndgadipdikaa.Dm
