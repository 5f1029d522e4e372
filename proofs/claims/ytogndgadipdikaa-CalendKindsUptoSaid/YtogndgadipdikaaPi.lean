/- A calendar of int: none, New, Put. -/
import Derived.Test.YtogndgadipdikaaEi
set_option linter.unusedSimpArgs false
set_option linter.unusedVariables false
namespace Go.Proofs.Ytogndgadipdikaa.Dm
open Go.Dm
set_option maxHeartbeats 8000000
set_option maxRecDepth 20000

def conNone_i : Con := .pure (fun args hp => match args with | [.pointer (some ⟨cb, 0, none⟩)] => IsCal hp cb | [.pointer none] => True | _ => False)
  (fun args hp => match args with | [.pointer (some ⟨cb, _, _⟩)] => .bool (!boolOf ((cellsOf (hp cb)).headD undef)) | _ => .bool true)

theorem none_i_ok : ConOk Try.prog 34 conNone_i := by
  refine .mkRd fn34_ok ?_ ?_
  · intro args hp h
    match args, h with
    | [.pointer (some ⟨cb, 0, none⟩)], _ => rfl
    | [.pointer none], _ => rfl
  intro args hp hpre top hcl hsc
  match args, hpre with
  | [.pointer (some ⟨cb, 0, none⟩)], ⟨t, k, lv, h⟩ =>
    refine CalledOk.of_fun tt_ok fn34_ok rfl 12 rfl [.tmp 2] rfl (show 1 ≤ 12 by decide) ?_
    cases t with
    | true =>
      refine CW.vc env4_i [0, 2] (by kernel_rfl) ?_
      (simp only [go_sem, reduceIte, reduceCtorEq, Nat.reduceAdd, Nat.reduceMul, Nat.reduceSub, Nat.reduceLT, Nat.reduceLeDiff, Nat.reduceEqDiff, Int.reduceEq, Int.reduceLT, Int.reduceLE, Int.reduceNe, h, List.headD_cons]; repeat (refine Vc.mk' ?_; simp only [go_sem, reduceIte, reduceCtorEq, Nat.reduceAdd, Nat.reduceMul, Nat.reduceSub, Nat.reduceLT, Nat.reduceLeDiff, Nat.reduceEqDiff, Int.reduceEq, Int.reduceLT, Int.reduceLE, Int.reduceNe, h, List.headD_cons]))
    | false =>
      refine CW.vc env4_i [0, 2] (by kernel_rfl) ?_
      (simp only [go_sem, reduceIte, reduceCtorEq, Nat.reduceAdd, Nat.reduceMul, Nat.reduceSub, Nat.reduceLT, Nat.reduceLeDiff, Nat.reduceEqDiff, Int.reduceEq, Int.reduceLT, Int.reduceLE, Int.reduceNe, h, List.headD_cons]; repeat (refine Vc.mk' ?_; simp only [go_sem, reduceIte, reduceCtorEq, Nat.reduceAdd, Nat.reduceMul, Nat.reduceSub, Nat.reduceLT, Nat.reduceLeDiff, Nat.reduceEqDiff, Int.reduceEq, Int.reduceLT, Int.reduceLE, Int.reduceNe, h, List.headD_cons]))
  | [.pointer none], _ =>
    refine CalledOk.of_fun tt_ok fn34_ok rfl 12 rfl [.tmp 2] rfl (show 1 ≤ 12 by decide) ?_
    refine CW.vc env4_i [0, 2] (by kernel_rfl) ?_
    (simp only [go_sem, reduceIte, reduceCtorEq, Nat.reduceAdd, Nat.reduceMul, Nat.reduceSub, Nat.reduceLT, Nat.reduceLeDiff, Nat.reduceEqDiff, Int.reduceEq, Int.reduceLT, Int.reduceLE, Int.reduceNe]; repeat (refine Vc.mk' ?_; simp only [go_sem, reduceIte, reduceCtorEq, Nat.reduceAdd, Nat.reduceMul, Nat.reduceSub, Nat.reduceLT, Nat.reduceLeDiff, Nat.reduceEqDiff, Int.reduceEq, Int.reduceLT, Int.reduceLE, Int.reduceNe]))
/-- a calendar -/
structure CalAt_i (hp : Hp) (cb : Nat) (last : Int) (lv : Value) (l : List T_t74) : Prop where
  h : hp cb = some (.cells true 0 [.bool true, .int .i64 last, lv])
  o : OwnV e_t74 hp lv l
  up : up_i l
  tk : ∀ a ∈ l, 1 ≤ a.ticket ∧ a.ticket ≤ last
  l0 : 0 ≤ last
  l1 : last ≤ 1000000
  n : l.length ≤ 1000000
theorem CalAt_i.ap {hp : Hp} {cb : Nat} {last : Int} {lv : Value} {l : List T_t74} (C : CalAt_i hp cb last lv l) : Apart cb lv := by
  cases C.o with
  | nil => trivial
  | blk b l h hn =>
    intro e
    subst e
    have := C.h
    rw [h] at this
    simp only [Option.some.injEq, AObj.cells.injEq] at this
    exact absurd this.2.1 (by decide)
theorem CalAt_i.low {hp : Hp} {cb : Nat} {last : Int} {lv : Value} {l : List T_t74} (C : CalAt_i hp cb last lv l) {top : Nat} (hcl : Cl hp top) : Sc top lv := C.o.slT.low hcl
theorem up_filter_i {t : T_t74} : ∀ {l : List T_t74}, up_i l → l.take (lb_i l t) = l.filter (fun a => lt_i a t) ∧ l.drop (lb_i l t) = l.filter (fun a => !lt_i a t)
  | [], _ => ⟨rfl, rfl⟩
  | a :: l, h => by
    obtain ⟨h1, h2⟩ := List.pairwise_cons.1 h
    have ih := up_filter_i (t := t) h2
    unfold lb_i at ih ⊢
    cases c : lt_i a t with
    | true =>
      rw [List.countP_cons, c]
      simp only [List.filter_cons, c, if_true, Bool.not_true, Bool.false_eq_true, if_false, List.take_succ_cons, List.drop_succ_cons]
      exact ⟨by rw [ih.1], ih.2⟩
    | false =>
      have hall : ∀ b ∈ l, lt_i b t = false := by
        intro b hb
        cases c2 : lt_i b t with
        | false => rfl
        | true => rw [show lt_i a t = true from ltK_trans (h1 b hb) c2] at c; cases c
      have e0 : l.countP (fun a => lt_i a t) = 0 := List.countP_eq_zero.2 fun b hb => by simp [hall b hb]
      have e1 : l.filter (fun a => lt_i a t) = [] := List.filter_eq_nil_iff.2 fun b hb => by simp [hall b hb]
      have e2 : l.filter (fun a => !lt_i a t) = l := List.filter_eq_self.2 fun b hb => by simp [hall b hb]
      rw [List.countP_cons, c, e0]
      simp [List.filter_cons, c, e1, e2]
def put_i (l : List T_t74) (t : T_t74) : List T_t74 := insAt l (lb_i l t) t
theorem put_i_eq {l : List T_t74} (h : up_i l) (t : T_t74) : put_i l t = l.filter (fun a => lt_i a t) ++ t :: l.filter (fun a => !lt_i a t) := by
  unfold put_i insAt
  rw [(up_filter_i h).1, (up_filter_i h).2]
theorem put_i_len (l : List T_t74) (t : T_t74) : (put_i l t).length = l.length + 1 := insAt_len (lb_i_le l t) t
theorem put_i_mem {l : List T_t74} {t a : T_t74} : a ∈ put_i l t ↔ a = t ∨ a ∈ l := by
  unfold put_i insAt
  rw [List.mem_append, List.mem_cons]
  constructor
  · rintro (h | h | h)
    · exact .inr (List.mem_of_mem_take h)
    · exact .inl h
    · exact .inr (List.mem_of_mem_drop h)
  · rintro (h | h)
    · exact .inr (.inl h)
    · have := (List.take_append_drop (lb_i l t) l) ▸ h
      rcases List.mem_append.1 this with h | h
      · exact .inl h
      · exact .inr (.inr h)
theorem put_i_up {l : List T_t74} (h : up_i l) {t : T_t74} (ht : ∀ a ∈ l, a.ticket < t.ticket) : up_i (put_i l t) := by
  rw [put_i_eq h]
  unfold up_i
  rw [List.pairwise_append]
  refine ⟨h.filter _, List.pairwise_cons.2 ⟨fun b hb => ?_, h.filter _⟩, fun a ha b hb => ?_⟩
  · obtain ⟨h1, h2⟩ := List.mem_filter.1 hb
    have h3 := ht b h1
    simp only [lt_i, ltK, Bool.not_eq_true', Bool.or_eq_false_iff, Bool.and_eq_false_iff, decide_eq_false_iff_not] at h2
    simp only [lt_i, ltK, Bool.or_eq_true, Bool.and_eq_true, decide_eq_true_eq]
    omega
  · have h1 := (List.mem_filter.1 ha).2
    rcases List.mem_cons.1 hb with rfl | hb
    · exact h1
    · obtain ⟨h2, h3⟩ := List.mem_filter.1 hb
      have h4 := ht b h2
      simp only [lt_i, ltK, Bool.not_eq_true', Bool.or_eq_false_iff, Bool.and_eq_false_iff, decide_eq_false_iff_not] at h3
      simp only [lt_i, ltK, Bool.or_eq_true, Bool.and_eq_true, decide_eq_true_eq] at h1 ⊢
      omega
def thing_i (a : Value) (k : Int) (v : Value) : T_t74 := e_t74.dec (a :: .int .i64 k :: cellsL v)
def putRes_i (cb : Nat) (last : Int) (lv : Value) (l : List T_t74) (t : T_t74) (top : Nat) : Value × Upds × Nat :=
  (.int .i64 (last + 1), (cb, some (.cells true 0 [.bool true, .int .i64 (last + 1), ownS top (l.length + 1)])) :: (dropU lv ++ [(top, ownO e_t74 (put_i l t))]), top + 1)
def PutPre_i (hp : Hp) (cb : Nat) (a v : Value) : Prop := ∃ last lv l, CalAt_i hp cb last lv l ∧ last < 1000000 ∧ l.length < 1000000 ∧ IsI .u64 a ∧ IsI .i64 v
def conPut_i : Con := .det (fun args hp _ => match args with | [.pointer (some ⟨cb, 0, none⟩), a, v] => PutPre_i hp cb a v | _ => False) (fun args hp top => match args with
  | [.pointer (some ⟨cb, _, _⟩), a, v] => putRes_i cb (calLast hp cb) (calL hp cb) (e_t74.rd hp (calL hp cb)) (thing_i a (calLast hp cb + 1) v) top | _ => (undef, [], top))
def G5_i : FuncId → Con := addG G4_i 34 conNone_i
theorem env5_i : EnvV Try.prog tt.get G5_i := env4_i.add none_i_ok
theorem G5_i_none : G5_i 34 = conNone_i := rfl
theorem G5_i_bs : G5_i 35 = conBs_i := rfl
theorem G5_i_ins : G5_i 40 = conIns e_t74 24 := rfl

theorem put_i_ok : ConOk Try.prog 10 conPut_i := by
  refine .mkDet fn10_ok ?_
  intro args hp top hpre hcl hsc
  match args, hpre with
  | [.pointer (some ⟨cb, 0, none⟩), a, v], ⟨last, lv, l, C, hl1, hn1, ha, hv⟩ =>
  rw [ha, hv]; generalize intOf a = a, intOf v = v
  have hh := C.h
  have hcbt : cb < top := hcl.lt _ _ hh
  have hctn : ¬ top = cb := by omega
  have hl0 := C.l0
  have hw : wrapA .i64 (last + 1) = last + 1 := wrap64 (by omega) (by omega)
  simp only [calL, calLast, hh, cellsOf_some, List.getElem?_cons_succ, List.getElem?_cons_zero, Option.getD_some, intOf_int, C.o.slT.rd]
  have lvs := C.low hcl
  refine CalledOk.of_fun tt_ok fn10_ok rfl 50 rfl [.tmp 6] rfl (show 3 ≤ 50 by decide) ?_
  have hic : ∀ {h' : Hp}, h' cb = some (.cells true 0 [.bool true, .int .i64 last, lv]) → IsCal h' cb = True := fun h => eq_true ⟨_, _, _, h⟩
  have hrd : ∀ {h' : Hp}, Keep top [cb] h' hp → e_t74.rd h' lv = l := fun {h'} hk => (C.o.mono fun b n c e => by subst e; exact hk b lvs (by simp only [List.mem_singleton]; exact fun e => C.ap e.symm)).slT.rd
  have hbp : ∀ {h' : Hp}, Keep top [cb] h' hp → BsPre_i h' lv = True := fun {h'} hk =>
    eq_true ⟨l, (C.o.mono fun b n c e => by subst e; exact hk b lvs (by simp only [List.mem_singleton]; exact fun e => C.ap e.symm)).slT, C.up, by omega⟩
  have hT : thing_i (.int .u64 a) (last + 1) (.int .i64 v) = (T_t74.mk a (last + 1) v) := rfl
  have hte : e_t74.enc (T_t74.mk a (last + 1) v) = .int .u64 a :: .int .i64 (last + 1) :: cellsL (.int .i64 v) := rfl
  simp only [hT]
  have hlb := lb_i_le l (T_t74.mk a (last + 1) v)
  have hroom : roomB (l.length + 1) 24 = true := roomB_mk (by omega) (by omega)
  have hIP : ∀ {h' : Hp} {xb : Nat}, Keep top [cb] h' hp → h' xb = some (.cells true 3 [.int .u64 a, .int .i64 (last + 1), .int .i64 v]) → top ≤ xb → InsPre e_t74 24 h' lv (.int .i64 ((lb_i l (T_t74.mk a (last + 1) v) : Nat) : Int)) xb = True := fun {h'} {xb} hk hx hxb =>
    eq_true ⟨l, _, (T_t74.mk a (last + 1) v), C.o.mono fun b n c e => by subst e; exact hk b lvs (by simp only [List.mem_singleton]; exact fun e => C.ap e.symm), rfl, hlb, hx, by
      have := lvs
      cases C.o with
      | nil => trivial
      | blk b l h hn => exact Nat.ne_of_gt (Nat.lt_of_lt_of_le (show b < top from this) hxb), hroom⟩
  have hap := C.ap
  have ho := C.o
  cases ho with
  | nil =>
    refine CW.vc env5_i [0, 1, 2, 6, 7, 8, 11] (by kernel_rfl) ?_
    (simp only [go_sem, reduceIte, reduceCtorEq, Nat.reduceAdd, Nat.reduceMul, Nat.reduceSub, Nat.reduceLT, Nat.reduceLeDiff, Nat.reduceEqDiff, Int.reduceEq, Int.reduceLT, Int.reduceLE, Int.reduceNe, G5_i_none, conNone_i, G5_i_bs, conBs_i, G5_i_ins, conIns, List.headD_cons, Keep.setK, List.mem_singleton, hh, hcbt, hctn, hw, hic, hrd, hbp, set_lt hcbt, hIP, insRes, dropU, ownS, ownO, put_i]; repeat (refine Vc.mk' ?_; simp only [go_sem, reduceIte, reduceCtorEq, Nat.reduceAdd, Nat.reduceMul, Nat.reduceSub, Nat.reduceLT, Nat.reduceLeDiff, Nat.reduceEqDiff, Int.reduceEq, Int.reduceLT, Int.reduceLE, Int.reduceNe, G5_i_none, conNone_i, G5_i_bs, conBs_i, G5_i_ins, conIns, List.headD_cons, Keep.setK, List.mem_singleton, hh, hcbt, hctn, hw, hic, hrd, hbp, set_lt hcbt, hIP, insRes, dropU, ownS, ownO, put_i]))
    have hc2 : ¬ top + 2 = cb := by omega
    simp only [putRes_i, dropU, ownS, ownO, put_i, List.nil_append]
    exact ⟨[top + 2], by simp, by simp, by simp, by simp [frSub, lkG, ren, renL, renL_set, renL_ints, UpdOk.nil, UpdOk.cons, renOO_some, renO_cells, renO_map, renOO_mkOb, rn_base, rn_add, ren_mkSl, Enc.flat_ren, set_same, set_ne, sets_cons, sets_nil, Keep.set, Keep.setK, Keep.refl, hc2, putRes_i, dropU, ownS, ownO, put_i, rn_low hcbt, Enc.flat_ren], by simp [frSub, lkG, ren, renL, renL_set, renL_ints, UpdOk.nil, UpdOk.cons, renOO_some, renO_cells, renO_map, renOO_mkOb, rn_base, rn_add, ren_mkSl, Enc.flat_ren, set_same, set_ne, sets_cons, sets_nil, Keep.set, Keep.setK, Keep.refl, hc2, putRes_i, dropU, ownS, ownO, put_i, rn_low hcbt, Enc.flat_ren], by simp [frSub, lkG, ren, renL, renL_set, renL_ints, UpdOk.nil, UpdOk.cons, renOO_some, renO_cells, renO_map, renOO_mkOb, rn_base, rn_add, ren_mkSl, Enc.flat_ren, set_same, set_ne, sets_cons, sets_nil, Keep.set, Keep.setK, Keep.refl, hc2, putRes_i, dropU, ownS, ownO, put_i, rn_low hcbt, Enc.flat_ren]⟩
  | blk b l hb hn =>
    have hbt : b < top := lvs
    have hcb : ¬ cb = b := hap
    have hbc : ¬ b = cb := fun e => hap e.symm
    have hne1 : ¬ cb = top := by omega
    have hne2 : ¬ b = top := by omega
    refine CW.vc env5_i [0, 1, 2, 6, 7, 8, 11] (by kernel_rfl) ?_
    (simp only [go_sem, reduceIte, reduceCtorEq, Nat.reduceAdd, Nat.reduceMul, Nat.reduceSub, Nat.reduceLT, Nat.reduceLeDiff, Nat.reduceEqDiff, Int.reduceEq, Int.reduceLT, Int.reduceLE, Int.reduceNe, G5_i_none, conNone_i, G5_i_bs, conBs_i, G5_i_ins, conIns, List.headD_cons, Keep.setK, List.mem_singleton, hh, hcbt, hctn, hw, hic, hrd, hbp, set_lt hcbt, hIP, insRes, dropU, ownS, ownO, put_i, hcb, hbc, set_lt hbt, hb]; repeat (refine Vc.mk' ?_; simp only [go_sem, reduceIte, reduceCtorEq, Nat.reduceAdd, Nat.reduceMul, Nat.reduceSub, Nat.reduceLT, Nat.reduceLeDiff, Nat.reduceEqDiff, Int.reduceEq, Int.reduceLT, Int.reduceLE, Int.reduceNe, G5_i_none, conNone_i, G5_i_bs, conBs_i, G5_i_ins, conIns, List.headD_cons, Keep.setK, List.mem_singleton, hh, hcbt, hctn, hw, hic, hrd, hbp, set_lt hcbt, hIP, insRes, dropU, ownS, ownO, put_i, hcb, hbc, set_lt hbt, hb]))
    have hc2 : ¬ top + 2 = cb := by omega
    have hb2 : ¬ top + 2 = b := by omega
    simp only [putRes_i, dropU, ownS, ownO, put_i, List.cons_append, List.nil_append]
    exact ⟨[top + 2], by simp, by simp, by simp, by simp [frSub, lkG, ren, renL, renL_set, renL_ints, UpdOk.nil, UpdOk.cons, renOO_some, renO_cells, renO_map, renOO_mkOb, rn_base, rn_add, ren_mkSl, Enc.flat_ren, set_same, set_ne, sets_cons, sets_nil, Keep.set, Keep.setK, Keep.refl, hc2, hb2, putRes_i, dropU, ownS, ownO, put_i, rn_low hcbt, rn_low hbt, hcb, hbc, Enc.flat_ren], by simp [frSub, lkG, ren, renL, renL_set, renL_ints, UpdOk.nil, UpdOk.cons, renOO_some, renO_cells, renO_map, renOO_mkOb, rn_base, rn_add, ren_mkSl, Enc.flat_ren, set_same, set_ne, sets_cons, sets_nil, Keep.set, Keep.setK, Keep.refl, hc2, hb2, putRes_i, dropU, ownS, ownO, put_i, rn_low hcbt, rn_low hbt, hcb, hbc, Enc.flat_ren], by simp [frSub, lkG, ren, renL, renL_set, renL_ints, UpdOk.nil, UpdOk.cons, renOO_some, renO_cells, renO_map, renOO_mkOb, rn_base, rn_add, ren_mkSl, Enc.flat_ren, set_same, set_ne, sets_cons, sets_nil, Keep.set, Keep.setK, Keep.refl, hc2, hb2, putRes_i, dropU, ownS, ownO, put_i, rn_low hcbt, rn_low hbt, hcb, hbc, Enc.flat_ren]⟩
end Go.Proofs.Ytogndgadipdikaa.Dm
