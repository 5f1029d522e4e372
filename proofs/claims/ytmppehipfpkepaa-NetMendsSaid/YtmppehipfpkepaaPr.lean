/- A calendar of api.Arrive: none, New, Put. -/
import Derived.Test.YtmppehipfpkepaaEr
set_option linter.unusedSimpArgs false
set_option linter.unusedVariables false
namespace Go.Proofs.Ytmppehipfpkepaa.Dm
open Go.Dm
set_option maxHeartbeats 8000000
set_option maxRecDepth 20000
def conNone_r : Con := .pure (fun args hp => match args with | [.pointer (some ⟨cb, 0, none⟩)] => IsCal hp cb | [.pointer none] => True | _ => False)
  (fun args hp => match args with | [.pointer (some ⟨cb, _, _⟩)] => .bool (!boolOf ((cellsOf (hp cb)).headD undef)) | _ => .bool true)
theorem none_r_ok : ConOk Try.prog 54 conNone_r := by
  refine .mkRd fn54_ok ?_ ?_
  · intro args hp h
    match args, h with
    | [.pointer (some ⟨cb, 0, none⟩)], _ => rfl
    | [.pointer none], _ => rfl
  intro args hp hpre top hcl hsc
  match args, hpre with
  | [.pointer (some ⟨cb, 0, none⟩)], ⟨t, k, lv, h⟩ =>
    refine CalledOk.of_fun tt_ok fn54_ok rfl 12 rfl [.tmp 2] rfl (show 1 ≤ 12 by decide) ?_
    cases t with
    | true =>
      refine CW.vc env4_r [0, 2] (by kernel_rfl) ?_
      (repeat ((try refine Vc.mk' ?_); simp only [go_sem, reduceIte, reduceCtorEq, Nat.reduceAdd, Nat.reduceMul, Nat.reduceSub, Nat.reduceLT, Nat.reduceLeDiff, Nat.reduceEqDiff, Int.reduceEq, Int.reduceLT, Int.reduceLE, Int.reduceNe, h, List.headD_cons]))
    | false =>
      refine CW.vc env4_r [0, 2] (by kernel_rfl) ?_
      (repeat ((try refine Vc.mk' ?_); simp only [go_sem, reduceIte, reduceCtorEq, Nat.reduceAdd, Nat.reduceMul, Nat.reduceSub, Nat.reduceLT, Nat.reduceLeDiff, Nat.reduceEqDiff, Int.reduceEq, Int.reduceLT, Int.reduceLE, Int.reduceNe, h, List.headD_cons]))
  | [.pointer none], _ =>
    refine CalledOk.of_fun tt_ok fn54_ok rfl 12 rfl [.tmp 2] rfl (show 1 ≤ 12 by decide) ?_
    refine CW.vc env4_r [0, 2] (by kernel_rfl) ?_
    (repeat ((try refine Vc.mk' ?_); simp only [go_sem, reduceIte, reduceCtorEq, Nat.reduceAdd, Nat.reduceMul, Nat.reduceSub, Nat.reduceLT, Nat.reduceLeDiff, Nat.reduceEqDiff, Int.reduceEq, Int.reduceLT, Int.reduceLE, Int.reduceNe]))
/-- a calendar -/
structure CalAt_r (hp : Hp) (cb : Nat) (last : Int) (lv : Value) (l : List T_t124) : Prop where
  h : hp cb = some (.cells true 0 [.bool true, .int .i64 last, lv])
  o : OwnV e_t124 hp lv l
  up : up_r l
  tk : ∀ a ∈ l, 1 ≤ a.ticket ∧ a.ticket ≤ last
  l0 : 0 ≤ last
  l1 : last ≤ 1000000
  n : l.length ≤ 1000000
theorem CalAt_r.ap {hp : Hp} {cb : Nat} {last : Int} {lv : Value} {l : List T_t124} (C : CalAt_r hp cb last lv l) : Apart cb lv := by
  cases C.o with
  | nil => trivial
  | blk b l h hn =>
    intro e
    subst e
    have := C.h
    rw [h] at this
    simp only [Option.some.injEq, AObj.cells.injEq] at this
    exact absurd this.2.1 (by decide)
theorem CalAt_r.low {hp : Hp} {cb : Nat} {last : Int} {lv : Value} {l : List T_t124} (C : CalAt_r hp cb last lv l) {top : Nat} (hcl : Cl hp top) : Sc top lv := C.o.slT.low hcl
theorem up_filter_r {t : T_t124} : ∀ {l : List T_t124}, up_r l → l.take (lb_r l t) = l.filter (fun a => lt_r a t) ∧ l.drop (lb_r l t) = l.filter (fun a => !lt_r a t)
  | [], _ => ⟨rfl, rfl⟩
  | a :: l, h => by
    obtain ⟨h1, h2⟩ := List.pairwise_cons.1 h
    have ih := up_filter_r (t := t) h2
    unfold lb_r at ih ⊢
    cases c : lt_r a t with
    | true =>
      rw [List.countP_cons, c]
      simp only [List.filter_cons, c, if_true, Bool.not_true, Bool.false_eq_true, if_false, List.take_succ_cons, List.drop_succ_cons]
      exact ⟨by rw [ih.1], ih.2⟩
    | false =>
      have hall : ∀ b ∈ l, lt_r b t = false := by
        intro b hb
        cases c2 : lt_r b t with
        | false => rfl
        | true => rw [show lt_r a t = true from ltK_trans (h1 b hb) c2] at c; cases c
      have e0 : l.countP (fun a => lt_r a t) = 0 := List.countP_eq_zero.2 fun b hb => by simp [hall b hb]
      have e1 : l.filter (fun a => lt_r a t) = [] := List.filter_eq_nil_iff.2 fun b hb => by simp [hall b hb]
      have e2 : l.filter (fun a => !lt_r a t) = l := List.filter_eq_self.2 fun b hb => by simp [hall b hb]
      rw [List.countP_cons, c, e0]
      simp [List.filter_cons, c, e1, e2]
def put_r (l : List T_t124) (t : T_t124) : List T_t124 := insAt l (lb_r l t) t
theorem put_r_eq {l : List T_t124} (h : up_r l) (t : T_t124) : put_r l t = l.filter (fun a => lt_r a t) ++ t :: l.filter (fun a => !lt_r a t) := by
  unfold put_r insAt
  rw [(up_filter_r h).1, (up_filter_r h).2]
theorem put_r_len (l : List T_t124) (t : T_t124) : (put_r l t).length = l.length + 1 := insAt_len (lb_r_le l t) t
theorem put_r_mem {l : List T_t124} {t a : T_t124} : a ∈ put_r l t ↔ a = t ∨ a ∈ l := by
  unfold put_r insAt
  rw [List.mem_append, List.mem_cons]
  constructor
  · rintro (h | h | h)
    · exact .inr (List.mem_of_mem_take h)
    · exact .inl h
    · exact .inr (List.mem_of_mem_drop h)
  · rintro (h | h)
    · exact .inr (.inl h)
    · have := (List.take_append_drop (lb_r l t) l) ▸ h
      rcases List.mem_append.1 this with h | h
      · exact .inl h
      · exact .inr (.inr h)
theorem put_r_up {l : List T_t124} (h : up_r l) {t : T_t124} (ht : ∀ a ∈ l, a.ticket < t.ticket) : up_r (put_r l t) := by
  rw [put_r_eq h]
  unfold up_r
  rw [List.pairwise_append]
  refine ⟨h.filter _, List.pairwise_cons.2 ⟨fun b hb => ?_, h.filter _⟩, fun a ha b hb => ?_⟩
  · obtain ⟨h1, h2⟩ := List.mem_filter.1 hb
    have h3 := ht b h1
    simp only [lt_r, ltK, Bool.not_eq_true', Bool.or_eq_false_iff, Bool.and_eq_false_iff, decide_eq_false_iff_not] at h2
    simp only [lt_r, ltK, Bool.or_eq_true, Bool.and_eq_true, decide_eq_true_eq]
    omega
  · have h1 := (List.mem_filter.1 ha).2
    rcases List.mem_cons.1 hb with rfl | hb
    · exact h1
    · obtain ⟨h2, h3⟩ := List.mem_filter.1 hb
      have h4 := ht b h2
      simp only [lt_r, ltK, Bool.not_eq_true', Bool.or_eq_false_iff, Bool.and_eq_false_iff, decide_eq_false_iff_not] at h3
      simp only [lt_r, ltK, Bool.or_eq_true, Bool.and_eq_true, decide_eq_true_eq] at h1 ⊢
      omega
def thing_r (a : Value) (k : Int) (v : Value) : T_t124 := e_t124.dec (a :: .int .i64 k :: cellsL v)
def putRes_r (cb : Nat) (last : Int) (lv : Value) (l : List T_t124) (t : T_t124) (top : Nat) : Value × Upds × Nat :=
  (.int .i64 (last + 1), (cb, some (.cells true 0 [.bool true, .int .i64 (last + 1), ownS top (l.length + 1)])) :: (dropU lv ++ [(top, ownO e_t124 (put_r l t))]), top + 1)
def PutPre_r (hp : Hp) (cb : Nat) (a v : Value) : Prop := ∃ last lv l, CalAt_r hp cb last lv l ∧ last < 1000000 ∧ l.length < 1000000 ∧ IsI .u64 a ∧ ∃ x : T_Arrive, v = .agg ⟨e_Arrive.enc x⟩
def conPut_r : Con := .det (fun args hp _ => match args with | [.pointer (some ⟨cb, 0, none⟩), a, v] => PutPre_r hp cb a v | _ => False) (fun args hp top => match args with
  | [.pointer (some ⟨cb, _, _⟩), a, v] => putRes_r cb (calLast hp cb) (calL hp cb) (e_t124.rd hp (calL hp cb)) (thing_r a (calLast hp cb + 1) v) top | _ => (undef, [], top))
def G5_r : FuncId → Con := addG G4_r 54 conNone_r
theorem env5_r : EnvV Try.prog tt.get G5_r := env4_r.add none_r_ok
theorem G5_r_none : G5_r 54 = conNone_r := rfl
theorem G5_r_bs : G5_r 57 = conBs_r := rfl
theorem G5_r_ins : G5_r 62 = conIns e_t124 48 := rfl
theorem put_r_ok : ConOk Try.prog 34 conPut_r := by
  refine .mkDet fn34_ok ?_
  intro args hp top hpre hcl hsc
  match args, hpre with
  | [.pointer (some ⟨cb, 0, none⟩), a, v], ⟨last, lv, l, C, hl1, hn1, ha, hv⟩ =>
  rw [ha]; generalize intOf a = a; obtain ⟨v, rfl⟩ := hv
  have hh := C.h
  have hcbt : cb < top := hcl.lt _ _ hh
  have hctn : ¬ top = cb := by omega
  have hl0 := C.l0
  have hw : wrapA .i64 (last + 1) = last + 1 := wrap64 (by omega) (by omega)
  simp only [calL, calLast, hh, cellsOf_some, List.getElem?_cons_succ, List.getElem?_cons_zero, Option.getD_some, intOf_int, C.o.slT.rd]
  have lvs := C.low hcl
  refine CalledOk.of_fun tt_ok fn34_ok rfl 50 rfl [.tmp 6] rfl (show 3 ≤ 50 by decide) ?_
  have hic : ∀ {h' : Hp}, h' cb = some (.cells true 0 [.bool true, .int .i64 last, lv]) → IsCal h' cb = True := fun h => eq_true ⟨_, _, _, h⟩
  have hrd : ∀ {h' : Hp}, Keep top [cb] h' hp → e_t124.rd h' lv = l := fun {h'} hk => (C.o.mono fun b n c e => by subst e; exact hk b lvs (by simp only [List.mem_singleton]; exact fun e => C.ap e.symm)).slT.rd
  have hbp : ∀ {h' : Hp}, Keep top [cb] h' hp → BsPre_r h' lv = True := fun {h'} hk =>
    eq_true ⟨l, (C.o.mono fun b n c e => by subst e; exact hk b lvs (by simp only [List.mem_singleton]; exact fun e => C.ap e.symm)).slT, C.up, by omega⟩
  have hT : thing_r (.int .u64 a) (last + 1) (.agg ⟨e_Arrive.enc v⟩) = (T_t124.mk a (last + 1) v.From v.To v.Bytes) := rfl
  have hte : e_t124.enc (T_t124.mk a (last + 1) v.From v.To v.Bytes) = .int .u64 a :: .int .i64 (last + 1) :: cellsL (.agg ⟨e_Arrive.enc v⟩) := rfl
  simp only [hT]
  have hlb := lb_r_le l (T_t124.mk a (last + 1) v.From v.To v.Bytes)
  have hroom : roomB (l.length + 1) 48 = true := roomB_mk (by omega) (by omega)
  have hIP : ∀ {h' : Hp} {xb : Nat}, Keep top [cb] h' hp → h' xb = some (.cells true 5 [.int .u64 a, .int .i64 (last + 1), .int .i64 v.From, .int .i64 v.To, .string ⟨⟨v.Bytes⟩⟩]) → top ≤ xb → InsPre e_t124 48 h' lv (.int .i64 ((lb_r l (T_t124.mk a (last + 1) v.From v.To v.Bytes) : Nat) : Int)) xb = True := fun {h'} {xb} hk hx hxb =>
    eq_true ⟨l, _, (T_t124.mk a (last + 1) v.From v.To v.Bytes), C.o.mono fun b n c e => by subst e; exact hk b lvs (by simp only [List.mem_singleton]; exact fun e => C.ap e.symm), rfl, hlb, hx, by
      have := lvs
      cases C.o with
      | nil => trivial
      | blk b l h hn => exact Nat.ne_of_gt (Nat.lt_of_lt_of_le (show b < top from this) hxb), hroom⟩
  have hap := C.ap
  have ho := C.o
  cases ho with
  | nil =>
    refine CW.vc env5_r [0, 1, 2, 5, 6, 7, 8, 11] (by kernel_rfl) ?_
    (repeat ((try refine Vc.mk' ?_); simp only [go_sem, reduceIte, reduceCtorEq, Nat.reduceAdd, Nat.reduceMul, Nat.reduceSub, Nat.reduceLT, Nat.reduceLeDiff, Nat.reduceEqDiff, Int.reduceEq, Int.reduceLT, Int.reduceLE, Int.reduceNe, G5_r_none, conNone_r, G5_r_bs, conBs_r, G5_r_ins, conIns, List.headD_cons, Keep.setK, List.mem_singleton, hh, hcbt, hctn, hw, hic, hrd, hbp, set_lt hcbt, hIP, insRes, dropU, ownS, ownO, put_r]))
    have hc2 : ¬ top + 3 = cb := by omega
    simp only [putRes_r, dropU, ownS, ownO, put_r, List.nil_append]
    (refine ⟨[top + 3], by simp, by simp, by simp, ?_, ?_, ?_⟩ <;> simp [frSub, lkG, ren, renL, renL_set, renL_ints, UpdOk.nil, UpdOk.cons, renOO_some, renO_cells, renO_map, renOO_mkOb, rn_base, rn_add, ren_mkSl, Enc.flat_ren, set_same, set_ne, sets_cons, sets_nil, Keep.set, Keep.setK, Keep.refl, rm_m_int_bool, rm_m_message_Rule, rm_m_pair_bool, rm_m_pair_int, hc2, putRes_r, dropU, ownS, ownO, put_r, rn_low hcbt, Enc.flat_ren])
  | blk b l hb hn =>
    have hbt : b < top := lvs
    have hcb : ¬ cb = b := hap
    have hbc : ¬ b = cb := fun e => hap e.symm
    have hne1 : ¬ cb = top := by omega
    have hne2 : ¬ b = top := by omega
    refine CW.vc env5_r [0, 1, 2, 5, 6, 7, 8, 11] (by kernel_rfl) ?_
    (repeat ((try refine Vc.mk' ?_); simp only [go_sem, reduceIte, reduceCtorEq, Nat.reduceAdd, Nat.reduceMul, Nat.reduceSub, Nat.reduceLT, Nat.reduceLeDiff, Nat.reduceEqDiff, Int.reduceEq, Int.reduceLT, Int.reduceLE, Int.reduceNe, G5_r_none, conNone_r, G5_r_bs, conBs_r, G5_r_ins, conIns, List.headD_cons, Keep.setK, List.mem_singleton, hh, hcbt, hctn, hw, hic, hrd, hbp, set_lt hcbt, hIP, insRes, dropU, ownS, ownO, put_r, hcb, hbc, set_lt hbt, hb]))
    have hc2 : ¬ top + 3 = cb := by omega
    have hb2 : ¬ top + 3 = b := by omega
    simp only [putRes_r, dropU, ownS, ownO, put_r, List.cons_append, List.nil_append]
    (refine ⟨[top + 3], by simp, by simp, by simp, ?_, ?_, ?_⟩ <;> simp [frSub, lkG, ren, renL, renL_set, renL_ints, UpdOk.nil, UpdOk.cons, renOO_some, renO_cells, renO_map, renOO_mkOb, rn_base, rn_add, ren_mkSl, Enc.flat_ren, set_same, set_ne, sets_cons, sets_nil, Keep.set, Keep.setK, Keep.refl, rm_m_int_bool, rm_m_message_Rule, rm_m_pair_bool, rm_m_pair_int, hc2, hb2, putRes_r, dropU, ownS, ownO, put_r, rn_low hcbt, rn_low hbt, hcb, hbc, Enc.flat_ren])
end Go.Proofs.Ytmppehipfpkepaa.Dm
