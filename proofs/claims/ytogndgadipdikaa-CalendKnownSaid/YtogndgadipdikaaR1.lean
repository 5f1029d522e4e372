/- The document's calendar: Same, Take. -/
import Derived.Test.YtogndgadipdikaaW1
import Derived.Test.YtogndgadipdikaaC3
set_option linter.unusedSimpArgs false
set_option linter.unusedVariables false
namespace Go.Proofs.Ytogndgadipdikaa.Dm
open Go.Dm
set_option maxHeartbeats 8000000
set_option maxRecDepth 20000


theorem same16_ok : ConOk Try.prog 24 (conEq e_string) := by
  refine .mkRd fn24_ok ?_ ?_
  · intro args hp h
    match args, h with
    | [u, v], _ => rfl
  intro args hp hpre top hcl hsc
  match args, hpre with
  | [u, v], ⟨⟨l, h⟩, ⟨m, g⟩⟩ =>
  have hs := h.low hcl
  have gs := g.low hcl
  simp only [h.rd, g.rd]
  refine CalledOk.of_fun tt_ok fn24_ok rfl 26 rfl [.tmp 4] rfl (show 2 ≤ 26 by decide) ?_
  by_cases hl : l.length = m.length
  · have hl2 : (l.length : Int) = (m.length : Int) := by omega
    refine CW.vc env6_s [0, 1, 4, 5, 10, 14, 25] (by kernel_rfl) ?_
    (simp only [go_sem, reduceIte, reduceCtorEq, Nat.reduceAdd, Nat.reduceMul, Nat.reduceSub, Nat.reduceLT, Nat.reduceLeDiff, Nat.reduceEqDiff, Int.reduceEq, Int.reduceLT, Int.reduceLE, Int.reduceNe, len_sstring h, idx_sstring h, ld_sstring h, sh_sstring h, sw_sstring h, h.P, h.oc, h.cl, h.rd, h.ref, strip_P hs, strip_rd hs, strip_ld hs, strip_sl h hs k_sstring, len_sstring g, idx_sstring g, ld_sstring g, sh_sstring g, sw_sstring g, g.P, g.oc, g.cl, g.rd, g.ref, strip_P gs, strip_rd gs, strip_ld gs, strip_sl g gs k_sstring, hl2]; repeat (refine Vc.mk' ?_; simp only [go_sem, reduceIte, reduceCtorEq, Nat.reduceAdd, Nat.reduceMul, Nat.reduceSub, Nat.reduceLT, Nat.reduceLeDiff, Nat.reduceEqDiff, Int.reduceEq, Int.reduceLT, Int.reduceLE, Int.reduceNe, len_sstring h, idx_sstring h, ld_sstring h, sh_sstring h, sw_sstring h, h.P, h.oc, h.cl, h.rd, h.ref, strip_P hs, strip_rd hs, strip_ld hs, strip_sl h hs k_sstring, len_sstring g, idx_sstring g, ld_sstring g, sh_sstring g, sw_sstring g, g.P, g.oc, g.cl, g.rd, g.ref, strip_P gs, strip_rd gs, strip_ld gs, strip_sl g gs k_sstring, hl2]))
    refine CW.loopR (stEq hp top u v) (fun i => i ≤ l.length ∧ l.take i = m.take i) (fun i => l.length - i) 0 ⟨Nat.zero_le _, rfl⟩ ?_ ?_
    · exact SubR.mk' [] hcl (by simp) (by simp) rfl (frSub_ok (by simp [frSub, lkG, ren, renL, renL_set, renL_ints, UpdOk.nil, UpdOk.cons, renOO_some, renO_cells, renO_map, renOO_mkOb, rn_base, rn_add, ren_mkSl, Enc.flat_ren, set_same, set_ne, sets_cons, sets_nil, Keep.set, Keep.setK, Keep.refl, Sc.ren (fun j hj => rn_low hj) hs, Sc.ren (fun j hj => rn_low hj) gs, hl2])) (by simp [frSub, lkG, ren, renL, renL_set, renL_ints, UpdOk.nil, UpdOk.cons, renOO_some, renO_cells, renO_map, renOO_mkOb, rn_base, rn_add, ren_mkSl, Enc.flat_ren, set_same, set_ne, sets_cons, sets_nil, Keep.set, Keep.setK, Keep.refl, Sc.ren (fun j hj => rn_low hj) hs, Sc.ren (fun j hj => rn_low hj) gs, hl2]) (by simp [frSub, lkG, ren, renL, renL_set, renL_ints, UpdOk.nil, UpdOk.cons, renOO_some, renO_cells, renO_map, renOO_mkOb, rn_base, rn_add, ren_mkSl, Enc.flat_ren, set_same, set_ne, sets_cons, sets_nil, Keep.set, Keep.setK, Keep.refl, Sc.ren (fun j hj => rn_low hj) hs, Sc.ren (fun j hj => rn_low hj) gs, hl2])
    · rintro i ⟨hi, hm⟩
      by_cases hlt : i < l.length
      · have hlm : i < m.length := by omega
        have he := take_eq hl hlt hm
        refine CW.vc env6_s [0, 1, 4, 5, 10, 14, 25] (by kernel_rfl) ?_
        (simp only [go_sem, reduceIte, reduceCtorEq, Nat.reduceAdd, Nat.reduceMul, Nat.reduceSub, Nat.reduceLT, Nat.reduceLeDiff, Nat.reduceEqDiff, Int.reduceEq, Int.reduceLT, Int.reduceLE, Int.reduceNe, len_sstring h, idx_sstring h, ld_sstring h, sh_sstring h, sw_sstring h, h.P, h.oc, h.cl, h.rd, h.ref, strip_P hs, strip_rd hs, strip_ld hs, strip_sl h hs k_sstring, len_sstring g, idx_sstring g, ld_sstring g, sh_sstring g, sw_sstring g, g.P, g.oc, g.cl, g.rd, g.ref, strip_P gs, strip_rd gs, strip_ld gs, strip_sl g gs k_sstring, hlt, hlm, stEq]; repeat (refine Vc.mk' ?_; simp only [go_sem, reduceIte, reduceCtorEq, Nat.reduceAdd, Nat.reduceMul, Nat.reduceSub, Nat.reduceLT, Nat.reduceLeDiff, Nat.reduceEqDiff, Int.reduceEq, Int.reduceLT, Int.reduceLE, Int.reduceNe, len_sstring h, idx_sstring h, ld_sstring h, sh_sstring h, sw_sstring h, h.P, h.oc, h.cl, h.rd, h.ref, strip_P hs, strip_rd hs, strip_ld hs, strip_sl h hs k_sstring, len_sstring g, idx_sstring g, ld_sstring g, sh_sstring g, sw_sstring g, g.P, g.oc, g.cl, g.rd, g.ref, strip_P gs, strip_rd gs, strip_ld gs, strip_sl g gs k_sstring, hlt, hlm, stEq]))
        refine condP.mk (fun c => ?_) (fun c => ?_)
        · simp only [Bool.not_eq_true', eqB_eq, beq_eq_false_iff_ne, ne_eq] at c
          (simp only [go_sem, reduceIte, reduceCtorEq, Nat.reduceAdd, Nat.reduceMul, Nat.reduceSub, Nat.reduceLT, Nat.reduceLeDiff, Nat.reduceEqDiff, Int.reduceEq, Int.reduceLT, Int.reduceLE, Int.reduceNe, len_sstring h, idx_sstring h, ld_sstring h, sh_sstring h, sw_sstring h, h.P, h.oc, h.cl, h.rd, h.ref, strip_P hs, strip_rd hs, strip_ld hs, strip_sl h hs k_sstring, len_sstring g, idx_sstring g, ld_sstring g, sh_sstring g, sw_sstring g, g.P, g.oc, g.cl, g.rd, g.ref, strip_P gs, strip_rd gs, strip_ld gs, strip_sl g gs k_sstring]; repeat (refine Vc.mk' ?_; simp only [go_sem, reduceIte, reduceCtorEq, Nat.reduceAdd, Nat.reduceMul, Nat.reduceSub, Nat.reduceLT, Nat.reduceLeDiff, Nat.reduceEqDiff, Int.reduceEq, Int.reduceLT, Int.reduceLE, Int.reduceNe, len_sstring h, idx_sstring h, ld_sstring h, sh_sstring h, sw_sstring h, h.P, h.oc, h.cl, h.rd, h.ref, strip_P hs, strip_rd hs, strip_ld hs, strip_sl h hs k_sstring, len_sstring g, idx_sstring g, ld_sstring g, sh_sstring g, sw_sstring g, g.P, g.oc, g.cl, g.rd, g.ref, strip_P gs, strip_rd gs, strip_ld gs, strip_sl g gs k_sstring]))
          simp [ne_of_at c]
        · simp only [Bool.not_eq_false', eqB_eq, beq_iff_eq] at c
          (simp only [go_sem, reduceIte, reduceCtorEq, Nat.reduceAdd, Nat.reduceMul, Nat.reduceSub, Nat.reduceLT, Nat.reduceLeDiff, Nat.reduceEqDiff, Int.reduceEq, Int.reduceLT, Int.reduceLE, Int.reduceNe, len_sstring h, idx_sstring h, ld_sstring h, sh_sstring h, sw_sstring h, h.P, h.oc, h.cl, h.rd, h.ref, strip_P hs, strip_rd hs, strip_ld hs, strip_sl h hs k_sstring, len_sstring g, idx_sstring g, ld_sstring g, sh_sstring g, sw_sstring g, g.P, g.oc, g.cl, g.rd, g.ref, strip_P gs, strip_rd gs, strip_ld gs, strip_sl g gs k_sstring]; repeat (refine Vc.mk' ?_; simp only [go_sem, reduceIte, reduceCtorEq, Nat.reduceAdd, Nat.reduceMul, Nat.reduceSub, Nat.reduceLT, Nat.reduceLeDiff, Nat.reduceEqDiff, Int.reduceEq, Int.reduceLT, Int.reduceLE, Int.reduceNe, len_sstring h, idx_sstring h, ld_sstring h, sh_sstring h, sw_sstring h, h.P, h.oc, h.cl, h.rd, h.ref, strip_P hs, strip_rd hs, strip_ld hs, strip_sl h hs k_sstring, len_sstring g, idx_sstring g, ld_sstring g, sh_sstring g, sw_sstring g, g.P, g.oc, g.cl, g.rd, g.ref, strip_P gs, strip_rd gs, strip_ld gs, strip_sl g gs k_sstring]))
          exact .mk (i + 1) ⟨hlt, he.2 c⟩ (by omega) (SubR.mk' [] hcl (by simp) (by simp) rfl (frSub_ok (by simp [frSub, lkG, ren, renL, renL_set, renL_ints, UpdOk.nil, UpdOk.cons, renOO_some, renO_cells, renO_map, renOO_mkOb, rn_base, rn_add, ren_mkSl, Enc.flat_ren, set_same, set_ne, sets_cons, sets_nil, Keep.set, Keep.setK, Keep.refl, Sc.ren (fun j hj => rn_low hj) hs, Sc.ren (fun j hj => rn_low hj) gs, wrap_succ hlt h.le])) (by simp [frSub, lkG, ren, renL, renL_set, renL_ints, UpdOk.nil, UpdOk.cons, renOO_some, renO_cells, renO_map, renOO_mkOb, rn_base, rn_add, ren_mkSl, Enc.flat_ren, set_same, set_ne, sets_cons, sets_nil, Keep.set, Keep.setK, Keep.refl, Sc.ren (fun j hj => rn_low hj) hs, Sc.ren (fun j hj => rn_low hj) gs, wrap_succ hlt h.le]) (by simp [frSub, lkG, ren, renL, renL_set, renL_ints, UpdOk.nil, UpdOk.cons, renOO_some, renO_cells, renO_map, renOO_mkOb, rn_base, rn_add, ren_mkSl, Enc.flat_ren, set_same, set_ne, sets_cons, sets_nil, Keep.set, Keep.setK, Keep.refl, Sc.ren (fun j hj => rn_low hj) hs, Sc.ren (fun j hj => rn_low hj) gs, wrap_succ hlt h.le]))
      · have hi2 : i = l.length := by omega
        subst hi2
        refine CW.vc env6_s [0, 1, 4, 5, 10, 14, 25] (by kernel_rfl) ?_
        (simp only [go_sem, reduceIte, reduceCtorEq, Nat.reduceAdd, Nat.reduceMul, Nat.reduceSub, Nat.reduceLT, Nat.reduceLeDiff, Nat.reduceEqDiff, Int.reduceEq, Int.reduceLT, Int.reduceLE, Int.reduceNe, len_sstring h, idx_sstring h, ld_sstring h, sh_sstring h, sw_sstring h, h.P, h.oc, h.cl, h.rd, h.ref, strip_P hs, strip_rd hs, strip_ld hs, strip_sl h hs k_sstring, len_sstring g, idx_sstring g, ld_sstring g, sh_sstring g, sw_sstring g, g.P, g.oc, g.cl, g.rd, g.ref, strip_P gs, strip_rd gs, strip_ld gs, strip_sl g gs k_sstring, stEq, Nat.lt_irrefl, decide_false]; repeat (refine Vc.mk' ?_; simp only [go_sem, reduceIte, reduceCtorEq, Nat.reduceAdd, Nat.reduceMul, Nat.reduceSub, Nat.reduceLT, Nat.reduceLeDiff, Nat.reduceEqDiff, Int.reduceEq, Int.reduceLT, Int.reduceLE, Int.reduceNe, len_sstring h, idx_sstring h, ld_sstring h, sh_sstring h, sw_sstring h, h.P, h.oc, h.cl, h.rd, h.ref, strip_P hs, strip_rd hs, strip_ld hs, strip_sl h hs k_sstring, len_sstring g, idx_sstring g, ld_sstring g, sh_sstring g, sw_sstring g, g.P, g.oc, g.cl, g.rd, g.ref, strip_P gs, strip_rd gs, strip_ld gs, strip_sl g gs k_sstring, stEq, Nat.lt_irrefl, decide_false]))
        rw [List.take_length, hl, List.take_length] at hm
        simp [hm]
  · have hl2 : ¬ (l.length : Int) = (m.length : Int) := by omega
    refine CW.vc env6_s [0, 1, 4, 5, 10, 14, 25] (by kernel_rfl) ?_
    (simp only [go_sem, reduceIte, reduceCtorEq, Nat.reduceAdd, Nat.reduceMul, Nat.reduceSub, Nat.reduceLT, Nat.reduceLeDiff, Nat.reduceEqDiff, Int.reduceEq, Int.reduceLT, Int.reduceLE, Int.reduceNe, len_sstring h, idx_sstring h, ld_sstring h, sh_sstring h, sw_sstring h, h.P, h.oc, h.cl, h.rd, h.ref, strip_P hs, strip_rd hs, strip_ld hs, strip_sl h hs k_sstring, len_sstring g, idx_sstring g, ld_sstring g, sh_sstring g, sw_sstring g, g.P, g.oc, g.cl, g.rd, g.ref, strip_P gs, strip_rd gs, strip_ld gs, strip_sl g gs k_sstring, hl2]; repeat (refine Vc.mk' ?_; simp only [go_sem, reduceIte, reduceCtorEq, Nat.reduceAdd, Nat.reduceMul, Nat.reduceSub, Nat.reduceLT, Nat.reduceLeDiff, Nat.reduceEqDiff, Int.reduceEq, Int.reduceLT, Int.reduceLE, Int.reduceNe, len_sstring h, idx_sstring h, ld_sstring h, sh_sstring h, sw_sstring h, h.P, h.oc, h.cl, h.rd, h.ref, strip_P hs, strip_rd hs, strip_ld hs, strip_sl h hs k_sstring, len_sstring g, idx_sstring g, ld_sstring g, sh_sstring g, sw_sstring g, g.P, g.oc, g.cl, g.rd, g.ref, strip_P gs, strip_rd gs, strip_ld gs, strip_sl g gs k_sstring, hl2]))
    simp [len_ne hl]
/-! ### the document's calendar in memory -/
structure RefAt (hp : Hp) (mb : Nat) (last : Int) (mv : Value) (l : List T_Thing) : Prop where
  h : hp mb = some (.cells true 0 [mv, .int .i64 last])
  o : SlT e_Thing hp mv l
  l0 : 0 ≤ last
  l1 : last ≤ 1000000
  n : l.length ≤ 1000000
theorem RefAt.ap {hp : Hp} {mb : Nat} {last : Int} {mv : Value} {l : List T_Thing} (R : RefAt hp mb last mv l) : ∀ b o n c, mv = .slice (some ⟨b, o, none⟩) n c → ¬ b = mb := by
  intro b o n c e e2
  subst e2
  have ho := R.o
  subst e
  cases ho with
  | rows b o c rw vs l hb hv hlen hc hn =>
    rw [R.h] at hb
    simp only [Option.some.injEq, AObj.cells.injEq] at hb
    exact absurd hb.2.1 (by decide)
/-- nothing but the calendar's own cell is another one -/
theorem RefAt.mono {hp h' : Hp} {mb top : Nat} {last : Int} {mv : Value} {l : List T_Thing} (R : RefAt hp mb last mv l) (hcl : Cl hp top) (hk : Keep top [mb] h' hp) : SlT e_Thing h' mv l :=
  R.o.mono fun b o n c e => by
    have hs := R.o.low hcl
    subst e
    exact hk b hs (by simpa using R.ap b o n c rfl)
theorem RefAt.low {hp : Hp} {mb top : Nat} {last : Int} {mv : Value} {l : List T_Thing} (R : RefAt hp mb last mv l) (hcl : Cl hp top) : Sc top mv := R.o.low hcl
def refL (hp : Hp) (mb : Nat) : Value := ((cellsOf (hp mb))[0]?).getD undef
def refLast (hp : Hp) (mb : Nat) : Int := intOf (((cellsOf (hp mb))[1]?).getD undef)
def RefIs (hp : Hp) (mb : Nat) : Prop := ∃ last mv l, RefAt hp mb last mv l
/-! ### Take -/
/-- a slice whose first elements are cut off, one by one -/
def sufN (v : Value) : Nat → Value
  | 0 => v
  | k + 1 => subL 3 (sufN v k) 1
theorem sufN_slT {hp : Hp} {v : Value} {l : List T_Thing} (h : SlT e_Thing hp v l) : ∀ k, k ≤ l.length → SlT e_Thing hp (sufN v k) (l.drop k)
  | 0, _ => h
  | k + 1, hk => by
    have ih := sufN_slT h k (by omega)
    have := ih.drop (n := 1) (by rw [List.length_drop]; omega)
    rw [List.drop_drop] at this
    exact this
theorem sufN_sc {v : Value} {n : Nat} (h : Sc n v) : ∀ k, Sc n (sufN v k)
  | 0 => h
  | k + 1 => by
    have ih := sufN_sc h k
    show Sc n (subL 3 (sufN v k) 1)
    generalize sufN v k = w at ih
    unfold subL
    split
    · split
      · exact ih
      · trivial
    · exact ih
def kFR (l : List T_Thing) (now : Int) : Nat := (l.takeWhile fun a => decide (a.At ≤ now)).length
theorem kFR_le (l : List T_Thing) (now : Int) : kFR l now ≤ l.length := (List.takeWhile_sublist _).length_le
def outsR (l : List T_Thing) (k : Nat) : List (List UInt8) := (l.take k).map T_Thing.Text
theorem outsR_succ {l : List T_Thing} {i : Nat} (h : i < l.length) : outsR l (i + 1) = outsR l i ++ [(at' l i).Text] := by
  unfold outsR; rw [take_at h, List.map_append]; rfl
theorem outsR_len {l : List T_Thing} {i : Nat} (h : i ≤ l.length) : (outsR l i).length = i := by unfold outsR; simp; omega
def conRTake : Con := .det (fun args hp _ => match args with | [.pointer (some ⟨mb, 0, none⟩), a] => RefIs hp mb ∧ IsI .u64 a | _ => False) (fun args hp top => match args with
  | [.pointer (some ⟨mb, _, _⟩), a] => (mkSl top (outsR (e_Thing.rd hp (refL hp mb)) (kFR (e_Thing.rd hp (refL hp mb)) (intOf a))),
      [(mb, some (.cells true 0 [sufN (refL hp mb) (kFR (e_Thing.rd hp (refL hp mb)) (intOf a)), .int .i64 (refLast hp mb)])), (top, mkOb e_string (outsR (e_Thing.rd hp (refL hp mb)) (kFR (e_Thing.rd hp (refL hp mb)) (intOf a))))], top + 1) | _ => (undef, [], top))
def stRT (hp : Hp) (top mb : Nat) (last now : Int) (mv : Value) (l : List T_Thing) (i : Nat) : SS :=
  ⟨[(0, .pointer (some ⟨mb, 0, none⟩), true), (1, .int .u64 now, true), (5, mkSl top (outsR l i), true)], hp.sets [(mb, some (.cells true 0 [sufN mv i, .int .i64 last])), (top, mkOb e_string (outsR l i))], top + 1⟩

theorem rtake_ok : ConOk Try.prog 26 conRTake := by
  refine .mkDet fn26_ok ?_
  intro args hp top hpre hcl hsc
  match args, hpre with
  | [.pointer (some ⟨mb, 0, none⟩), av], ⟨⟨last, mv, l, R⟩, ha⟩ =>
  rw [ha]
  generalize intOf av = now
  have hh := R.h
  have hmt : mb < top := hcl.lt _ _ hh
  have hmn : ¬ top = mb := by omega
  have hnm : ¬ mb = top := by omega
  have hmn2 : ¬ top + 2 = mb := by omega
  have lvs := R.low hcl
  have hn := R.n
  have hS := R.o
  simp only [refL, refLast, hh, cellsOf_some, List.getElem?_cons_succ, List.getElem?_cons_zero, Option.getD_some, intOf_int, hS.rd]
  refine CalledOk.of_fun tt_ok fn26_ok rfl 42 rfl [.tmp 4] rfl (show 2 ≤ 42 by decide) ?_
  refine CW.vc env6_s [0, 1, 4, 5, 22] (by kernel_rfl) ?_
  (simp only [go_sem, reduceIte, reduceCtorEq, Nat.reduceAdd, Nat.reduceMul, Nat.reduceSub, Nat.reduceLT, Nat.reduceLeDiff, Nat.reduceEqDiff, Int.reduceEq, Int.reduceLT, Int.reduceLE, Int.reduceNe]; repeat (refine Vc.mk' ?_; simp only [go_sem, reduceIte, reduceCtorEq, Nat.reduceAdd, Nat.reduceMul, Nat.reduceSub, Nat.reduceLT, Nat.reduceLeDiff, Nat.reduceEqDiff, Int.reduceEq, Int.reduceLT, Int.reduceLE, Int.reduceNe]))
  refine CW.loopR (stRT hp top mb last now mv l) (fun i => i ≤ l.length ∧ ∀ k, k < i → decide ((at' l k).At ≤ now) = true) (fun i => l.length - i) 0 ⟨Nat.zero_le _, fun k hk => absurd hk (Nat.not_lt_zero _)⟩ ?_ ?_
  · have h0 : outsR l 0 = [] := rfl
    exact SubR.mk' [top] hcl (by simp) (by simp) rfl (frSub_ok (by simp [frSub, lkG, ren, renL, renL_set, renL_ints, UpdOk.nil, UpdOk.cons, renOO_some, renO_cells, renO_map, renOO_mkOb, rn_base, rn_add, ren_mkSl, Enc.flat_ren, set_same, set_ne, sets_cons, sets_nil, Keep.set, Keep.setK, Keep.refl, Sc.ren (fun j hj => rn_low hj) lvs, rn_low hmt, h0, mkSl_nil, mkOb_nil, sufN, hh, hmn, hnm])) (by simp [frSub, lkG, ren, renL, renL_set, renL_ints, UpdOk.nil, UpdOk.cons, renOO_some, renO_cells, renO_map, renOO_mkOb, rn_base, rn_add, ren_mkSl, Enc.flat_ren, set_same, set_ne, sets_cons, sets_nil, Keep.set, Keep.setK, Keep.refl, Sc.ren (fun j hj => rn_low hj) lvs, rn_low hmt, h0, mkSl_nil, mkOb_nil, sufN, hh, hmn, hnm]) (by simp [frSub, lkG, ren, renL, renL_set, renL_ints, UpdOk.nil, UpdOk.cons, renOO_some, renO_cells, renO_map, renOO_mkOb, rn_base, rn_add, ren_mkSl, Enc.flat_ren, set_same, set_ne, sets_cons, sets_nil, Keep.set, Keep.setK, Keep.refl, Sc.ren (fun j hj => rn_low hj) lvs, rn_low hmt, h0, mkSl_nil, mkOb_nil, sufN, hh, hmn, hnm])
  · rintro i ⟨hi, hlo⟩
    have lvi := sufN_sc lvs i
    have hRi : ∀ {h' : Hp}, Keep top [mb] h' hp → SlT e_Thing h' (sufN mv i) (l.drop i) := fun hk => sufN_slT (R.mono hcl hk) i hi
    have hSi := sufN_slT hS i hi
    have hol := outsR_len hi
    have h16 : (outsR l i).length < 16777216 := by omega
    have hld : (l.drop i).length = l.length - i := List.length_drop
    have hfin : (i < l.length → decide ((at' l i).At ≤ now) = false) → kFR l now = i := fun h => tw_len hi hlo h
    by_cases hlt : i < l.length
    · have hp0 : 0 < (l.drop i).length := by omega
      have hpi : (0 : Int) < ((l.drop i).length : Int) := by omega
      have ha0 : at' (l.drop i) 0 = at' l i := by rw [drop_at hlt]; rfl
      have f0 := sf_sThing_0 hSi hp0
      have f2 := sf_sThing_2 hSi hp0
      have c0 : ∀ {h' : Hp}, Keep top [mb] h' hp → sload tt.get h' 29 (ptrS (sufN mv i) 0) = (.int .u64 (at' l i).At, True) := fun hk => by have := sc_sThing_0 (hRi hk) hp0; rw [ha0, Nat.zero_mul] at this; exact this
      have c2 : ∀ {h' : Hp}, Keep top [mb] h' hp → sload tt.get h' 9 (ptrS (sufN mv i) 2) = (.string ⟨⟨(at' l i).Text⟩⟩, True) := fun hk => by have := sc_sThing_2 (hRi hk) hp0; rw [ha0, Nat.zero_mul] at this; exact this
      simp only [Nat.zero_mul, Nat.zero_add] at f0 f2
      have hsl : ∀ {h' : Hp}, Keep top [mb] h' hp → sslice tt.get h' 49 (sufN mv i) (some (.int .i64 1)) none = (sufN mv (i + 1), True) := fun hk => sw_sThing (hRi hk) (by omega) (by omega)
      by_cases c1 : now < (at' l i).At
      · have hk := hfin fun _ => decide_eq_false (by omega)
        rw [hk]
        refine CW.vc env6_s [0, 1, 4, 5, 22] (by kernel_rfl) ?_
        (simp only [go_sem, reduceIte, reduceCtorEq, Nat.reduceAdd, Nat.reduceMul, Nat.reduceSub, Nat.reduceLT, Nat.reduceLeDiff, Nat.reduceEqDiff, Int.reduceEq, Int.reduceLT, Int.reduceLE, Int.reduceNe, stRT, len_sThing hSi, idx_sThing hSi, Keep.setK, List.mem_singleton, hmn, hnm, set_lt hmt, h16, hpi, f0, c0, c1]; repeat (refine Vc.mk' ?_; simp only [go_sem, reduceIte, reduceCtorEq, Nat.reduceAdd, Nat.reduceMul, Nat.reduceSub, Nat.reduceLT, Nat.reduceLeDiff, Nat.reduceEqDiff, Int.reduceEq, Int.reduceLT, Int.reduceLE, Int.reduceNe, stRT, len_sThing hSi, idx_sThing hSi, Keep.setK, List.mem_singleton, hmn, hnm, set_lt hmt, h16, hpi, f0, c0, c1]))
        exact ⟨[top], by simp, by simp, by simp, by simp [frSub, lkG, ren, renL, renL_set, renL_ints, UpdOk.nil, UpdOk.cons, renOO_some, renO_cells, renO_map, renOO_mkOb, rn_base, rn_add, ren_mkSl, Enc.flat_ren, set_same, set_ne, sets_cons, sets_nil, Keep.set, Keep.setK, Keep.refl, Sc.ren (fun j hj => rn_low hj) lvi, rn_low hmt, hmn, hnm, set_lt hmt], by simp [frSub, lkG, ren, renL, renL_set, renL_ints, UpdOk.nil, UpdOk.cons, renOO_some, renO_cells, renO_map, renOO_mkOb, rn_base, rn_add, ren_mkSl, Enc.flat_ren, set_same, set_ne, sets_cons, sets_nil, Keep.set, Keep.setK, Keep.refl, Sc.ren (fun j hj => rn_low hj) lvi, rn_low hmt, hmn, hnm, set_lt hmt], by simp [frSub, lkG, ren, renL, renL_set, renL_ints, UpdOk.nil, UpdOk.cons, renOO_some, renO_cells, renO_map, renOO_mkOb, rn_base, rn_add, ren_mkSl, Enc.flat_ren, set_same, set_ne, sets_cons, sets_nil, Keep.set, Keep.setK, Keep.refl, Sc.ren (fun j hj => rn_low hj) lvi, rn_low hmt, hmn, hnm, set_lt hmt]⟩
      · have hst := outsR_succ hlt
        have hcel := (sufN_slT hS (i + 1) hlt).cl
        have hoc := (sufN_slT hS (i + 1) hlt).oc
        refine CW.vc env6_s [0, 1, 4, 5, 22] (by kernel_rfl) ?_
        (simp only [go_sem, reduceIte, reduceCtorEq, Nat.reduceAdd, Nat.reduceMul, Nat.reduceSub, Nat.reduceLT, Nat.reduceLeDiff, Nat.reduceEqDiff, Int.reduceEq, Int.reduceLT, Int.reduceLE, Int.reduceNe, stRT, len_sThing hSi, idx_sThing hSi, Keep.setK, List.mem_singleton, hmn, hnm, set_lt hmt, h16, hpi, f0, f2, c0, c2, c1, hsl, hcel, hoc]; repeat (refine Vc.mk' ?_; simp only [go_sem, reduceIte, reduceCtorEq, Nat.reduceAdd, Nat.reduceMul, Nat.reduceSub, Nat.reduceLT, Nat.reduceLeDiff, Nat.reduceEqDiff, Int.reduceEq, Int.reduceLT, Int.reduceLE, Int.reduceNe, stRT, len_sThing hSi, idx_sThing hSi, Keep.setK, List.mem_singleton, hmn, hnm, set_lt hmt, h16, hpi, f0, f2, c0, c2, c1, hsl, hcel, hoc]))
        refine .mk (i + 1) ⟨hlt, fun k hk => ?_⟩ (show l.length - (i + 1) < l.length - i by omega) (SubR.mk' [top + 2] hcl (by simp) (by simp) rfl (frSub_ok (by simp [frSub, lkG, ren, renL, renL_set, renL_ints, UpdOk.nil, UpdOk.cons, renOO_some, renO_cells, renO_map, renOO_mkOb, rn_base, rn_add, ren_mkSl, Enc.flat_ren, set_same, set_ne, sets_cons, sets_nil, Keep.set, Keep.setK, Keep.refl, Sc.ren (fun j hj => rn_low hj) (sufN_sc lvs (i + 1)), rn_low hmt, hmn, hnm, hmn2, set_lt hmt, hst])) (by simp [frSub, lkG, ren, renL, renL_set, renL_ints, UpdOk.nil, UpdOk.cons, renOO_some, renO_cells, renO_map, renOO_mkOb, rn_base, rn_add, ren_mkSl, Enc.flat_ren, set_same, set_ne, sets_cons, sets_nil, Keep.set, Keep.setK, Keep.refl, Sc.ren (fun j hj => rn_low hj) (sufN_sc lvs (i + 1)), rn_low hmt, hmn, hnm, hmn2, set_lt hmt, hst]) (by simp [frSub, lkG, ren, renL, renL_set, renL_ints, UpdOk.nil, UpdOk.cons, renOO_some, renO_cells, renO_map, renOO_mkOb, rn_base, rn_add, ren_mkSl, Enc.flat_ren, set_same, set_ne, sets_cons, sets_nil, Keep.set, Keep.setK, Keep.refl, Sc.ren (fun j hj => rn_low hj) (sufN_sc lvs (i + 1)), rn_low hmt, hmn, hnm, hmn2, set_lt hmt, hst]))
        by_cases e : k < i
        · exact of_decide_eq_true (hlo k e)
        · have e2 : k = i := by omega
          subst e2
          omega
    · have hi2 : i = l.length := by omega
      subst hi2
      have hpi : ¬ (0 : Int) < ((l.drop l.length).length : Int) := by omega
      have hk := hfin fun h => absurd h (Nat.lt_irrefl _)
      rw [hk]
      refine CW.vc env6_s [0, 1, 4, 5, 22] (by kernel_rfl) ?_
      (simp only [go_sem, reduceIte, reduceCtorEq, Nat.reduceAdd, Nat.reduceMul, Nat.reduceSub, Nat.reduceLT, Nat.reduceLeDiff, Nat.reduceEqDiff, Int.reduceEq, Int.reduceLT, Int.reduceLE, Int.reduceNe, stRT, len_sThing hSi, idx_sThing hSi, Keep.setK, List.mem_singleton, hmn, hnm, set_lt hmt, h16, hpi]; repeat (refine Vc.mk' ?_; simp only [go_sem, reduceIte, reduceCtorEq, Nat.reduceAdd, Nat.reduceMul, Nat.reduceSub, Nat.reduceLT, Nat.reduceLeDiff, Nat.reduceEqDiff, Int.reduceEq, Int.reduceLT, Int.reduceLE, Int.reduceNe, stRT, len_sThing hSi, idx_sThing hSi, Keep.setK, List.mem_singleton, hmn, hnm, set_lt hmt, h16, hpi]))
      exact ⟨[top], by simp, by simp, by simp, by simp [frSub, lkG, ren, renL, renL_set, renL_ints, UpdOk.nil, UpdOk.cons, renOO_some, renO_cells, renO_map, renOO_mkOb, rn_base, rn_add, ren_mkSl, Enc.flat_ren, set_same, set_ne, sets_cons, sets_nil, Keep.set, Keep.setK, Keep.refl, Sc.ren (fun j hj => rn_low hj) lvi, rn_low hmt, hmn, hnm, set_lt hmt], by simp [frSub, lkG, ren, renL, renL_set, renL_ints, UpdOk.nil, UpdOk.cons, renOO_some, renO_cells, renO_map, renOO_mkOb, rn_base, rn_add, ren_mkSl, Enc.flat_ren, set_same, set_ne, sets_cons, sets_nil, Keep.set, Keep.setK, Keep.refl, Sc.ren (fun j hj => rn_low hj) lvi, rn_low hmt, hmn, hnm, set_lt hmt], by simp [frSub, lkG, ren, renL, renL_set, renL_ints, UpdOk.nil, UpdOk.cons, renOO_some, renO_cells, renO_map, renOO_mkOb, rn_base, rn_add, ren_mkSl, Enc.flat_ren, set_same, set_ne, sets_cons, sets_nil, Keep.set, Keep.setK, Keep.refl, Sc.ren (fun j hj => rn_low hj) lvi, rn_low hmt, hmn, hnm, set_lt hmt]⟩
end Go.Proofs.Ytogndgadipdikaa.Dm
