/- The net: what lost asks of each message on its way. -/
import Derived.Test.YtmppehipfpkepaaN10
set_option linter.unusedSimpArgs false
set_option linter.unusedVariables false
namespace Go.Proofs.Ytmppehipfpkepaa.Dm
open Go.Dm
set_option maxHeartbeats 16000000
set_option maxRecDepth 20000
/-! ### up, of a net whose calendar is under work -/
structure UpAt (hp : Hp) (n : Nat) (s : NetS) : Prop where
  h : ∃ rv pv lav nwv wv, hp n = some (.cells true 0 [rv, .map (some (n + 1)), .map (some (n + 2)), .map (some (n + 3)), pv, lav, nwv, wv])
  L : hp (n + 1) = some (.map (me_m_pair_int s.L) s.lc)
  C : hp (n + 2) = some (.map (me_m_pair_bool s.C) s.cc)
  S : hp (n + 3) = some (.map (me_m_int_bool s.S) s.sc)
def entOf : Option AObj → List MapEntry
  | some (.map es _) => es
  | _ => []
def upH (hp : Hp) (n : Nat) (a b : Int) : Bool := decide (0 < (mget (dm_m_pair_int (entOf (hp (n + 1)))) (pk a b)).getD 0) && !((mget (dm_m_pair_bool (entOf (hp (n + 2)))) (pk a b)).getD false) && !((mget (dm_m_int_bool (entOf (hp (n + 3)))) a).getD false) && !((mget (dm_m_int_bool (entOf (hp (n + 3)))) b).getD false)
theorem UpAt.eq {hp : Hp} {n : Nat} {s : NetS} (h : UpAt hp n s) {a b : Int} : upH hp n a b = upF s a b := by
  unfold upH
  rw [h.L, h.C, h.S]
  simp only [entOf, dm_me_m_pair_int, dm_me_m_pair_bool, dm_me_m_int_bool]
  rfl
theorem NetAt.up {hp : Hp} {n : Nat} {lv : Value} {s : NetS} (h : NetAt hp n lv s) : UpAt hp n s := ⟨⟨_, _, _, _, _, h.h⟩, h.L, h.C, h.S⟩
def conUp2 : Con := .pure (fun args hp => match args with | [.pointer (some ⟨n, 0, none⟩), x, y] => (∃ s, UpAt hp n s) ∧ IsI .i64 x ∧ IsI .i64 y | _ => False) (fun args hp => match args with | [.pointer (some ⟨n, _, _⟩), x, y] => .bool (upH hp n (intOf x) (intOf y)) | _ => undef)
theorem up2_ok : ConOk Try.prog 31 conUp2 := by
  refine .mkRd fn31_ok ?_ ?_
  · intro args hp h
    match args, h with
    | [.pointer (some ⟨n, 0, none⟩), x, y], _ => rfl
  intro args hp hpre top hcl hsc
  match args, hpre with
  | [.pointer (some ⟨n, 0, none⟩), x, y], ⟨⟨s, h⟩, hx, hy⟩ =>
  rw [hx, hy]
  generalize intOf x = x, intOf y = y
  simp only [h.eq, intOf_int]
  have n3 : n + 3 < top := hcl.lt _ _ h.S
  have n0 : n < top := by omega
  have n1 : n + 1 < top := by omega
  have n2 : n + 2 < top := by omega
  obtain ⟨rv, pv, lav, nwv, wv, hh⟩ := h.h
  have hL := h.L
  have hC := h.C
  have hS := h.S
  refine CalledOk.of_fun tt_ok fn31_ok rfl 45 rfl [.tmp 6] rfl (show 3 ≤ 45 by decide) ?_
  by_cases c1 : 0 < (mget s.L ⟨min x y, max x y⟩).getD default
  case neg =>
    have e : upF s x y = false := by unfold upF costF pk; rw [show decide (0 < (mget s.L ⟨min x y, max x y⟩).getD 0) = false from decide_eq_false c1]; simp
    rw [e]
    refine CW.vc env7_r [0, 1, 2, 6, 7] (by kernel_rfl) ?_
    (repeat ((try refine Vc.mk' ?_); simp only [go_sem, reduceIte, reduceCtorEq, Nat.reduceAdd, Nat.reduceMul, Nat.reduceSub, Nat.reduceLT, Nat.reduceLeDiff, Nat.reduceEqDiff, Int.reduceEq, Int.reduceLT, Int.reduceLE, Int.reduceNe, hh, hL, hC, hS, G7_pair, conPair, set_lt n0, set_lt n1, set_lt n2, set_lt n3, c1]))
  have e1 : decide (0 < (mget s.L ⟨min x y, max x y⟩).getD 0) = true := decide_eq_true c1
  cases c2 : (mget s.C ⟨min x y, max x y⟩).getD default with
  | true =>
    have e : upF s x y = false := by unfold upF costF pk; rw [show (mget s.C ⟨min x y, max x y⟩).getD false = true from c2]; simp
    rw [e]
    refine CW.vc env7_r [0, 1, 2, 6, 7] (by kernel_rfl) ?_
    (repeat ((try refine Vc.mk' ?_); simp only [go_sem, reduceIte, reduceCtorEq, Nat.reduceAdd, Nat.reduceMul, Nat.reduceSub, Nat.reduceLT, Nat.reduceLeDiff, Nat.reduceEqDiff, Int.reduceEq, Int.reduceLT, Int.reduceLE, Int.reduceNe, hh, hL, hC, hS, G7_pair, conPair, set_lt n0, set_lt n1, set_lt n2, set_lt n3, c1, c2]))
  | false =>
  cases c3 : (mget s.S x).getD default with
  | true =>
    have e : upF s x y = false := by unfold upF costF pk; rw [show (mget s.S x).getD false = true from c3]; simp
    rw [e]
    refine CW.vc env7_r [0, 1, 2, 6, 7] (by kernel_rfl) ?_
    (repeat ((try refine Vc.mk' ?_); simp only [go_sem, reduceIte, reduceCtorEq, Nat.reduceAdd, Nat.reduceMul, Nat.reduceSub, Nat.reduceLT, Nat.reduceLeDiff, Nat.reduceEqDiff, Int.reduceEq, Int.reduceLT, Int.reduceLE, Int.reduceNe, hh, hL, hC, hS, G7_pair, conPair, set_lt n0, set_lt n1, set_lt n2, set_lt n3, c1, c2, c3]))
  | false =>
  cases c4 : (mget s.S y).getD default with
  | true =>
    have e : upF s x y = false := by unfold upF costF pk; rw [show (mget s.S y).getD false = true from c4]; simp
    rw [e]
    refine CW.vc env7_r [0, 1, 2, 6, 7] (by kernel_rfl) ?_
    (repeat ((try refine Vc.mk' ?_); simp only [go_sem, reduceIte, reduceCtorEq, Nat.reduceAdd, Nat.reduceMul, Nat.reduceSub, Nat.reduceLT, Nat.reduceLeDiff, Nat.reduceEqDiff, Int.reduceEq, Int.reduceLT, Int.reduceLE, Int.reduceNe, hh, hL, hC, hS, G7_pair, conPair, set_lt n0, set_lt n1, set_lt n2, set_lt n3, c1, c2, c3, c4]))
  | false =>
    have e : upF s x y = true := by unfold upF costF pk; rw [e1, show (mget s.C ⟨min x y, max x y⟩).getD false = false from c2, show (mget s.S x).getD false = false from c3, show (mget s.S y).getD false = false from c4]; rfl
    rw [e]
    refine CW.vc env7_r [0, 1, 2, 6, 7] (by kernel_rfl) ?_
    (repeat ((try refine Vc.mk' ?_); simp only [go_sem, reduceIte, reduceCtorEq, Nat.reduceAdd, Nat.reduceMul, Nat.reduceSub, Nat.reduceLT, Nat.reduceLeDiff, Nat.reduceEqDiff, Int.reduceEq, Int.reduceLT, Int.reduceLE, Int.reduceNe, hh, hL, hC, hS, G7_pair, conPair, set_lt n0, set_lt n1, set_lt n2, set_lt n3, c1, c2, c3, c4]))
noncomputable def G18_r : FuncId → Con := addG G17_r 31 conUp2
theorem env18_r : EnvV Try.prog tt.get G18_r := env17_r.add up2_ok
theorem G18_up : G18_r 31 = conUp2 := rfl
/-- the function that lost hands to Sift: the net's cell, the list's cell -/
def lostV (nb ob : Nat) : Value := .func (.func 65) ⟨[]⟩ ⟨[.pointer (some ⟨nb, 0, none⟩), .pointer (some ⟨ob, 0, none⟩)]⟩
def ptrOf : Value → Nat
  | .pointer (some ⟨b, _, _⟩) => b
  | _ => 0
def netOfC (hp : Hp) (nb : Nat) : Nat := ptrOf ((cellsOf (hp nb)).headD undef)
def askV (hp : Hp) (ab : Nat) : Value := (cellsOf (hp ab)).headD undef
def blkOf : Value → Nat
  | .slice (some ⟨b, _, _⟩) _ _ => b
  | _ => 0
def AskOk (hp : Hp) (ab : Nat) : Prop := ∃ q m, hp ab = some (.cells true 0 [mkSl q m]) ∧ (m ≠ [] → hp q = mkOb e_Arrive m) ∧ m.length < 16777216
def askRes (hp : Hp) (ab : Nat) (s : T_Arrive) (top : Nat) : Upds :=
  (ab, some (.cells true 0 [mkSl top (e_Arrive.rd hp (askV hp ab) ++ [s])])) :: appU (blkOf (askV hp ab)) (e_Arrive.rd hp (askV hp ab)) top (mkOb e_Arrive (e_Arrive.rd hp (askV hp ab) ++ [s]))
theorem appU_blk {q top : Nat} {m : List T_Arrive} {o : Option AObj} : appU (blkOf (mkSl q m)) m top o = appU q m top o := by cases m <;> rfl
theorem askRes_eq {hp : Hp} {ab q : Nat} {m : List T_Arrive} {s : T_Arrive} {top : Nat} (h : hp ab = some (.cells true 0 [mkSl q m])) (h2 : m ≠ [] → hp q = mkOb e_Arrive m) (h3 : m.length < 16777216) :
    askRes hp ab s top = (ab, some (.cells true 0 [mkSl top (m ++ [s])])) :: appU q m top (mkOb e_Arrive (m ++ [s])) := by
  have e : askV hp ab = mkSl q m := by unfold askV; rw [h]; rfl
  have er : e_Arrive.rd hp (mkSl q m) = m := by
    by_cases hm : m = []
    · subst hm; exact SlT.nils.rd
    · exact (SlT.own (h2 hm) (by omega)).rd
  unfold askRes
  rw [e, er, appU_blk]
theorem appU_ne {q top : Nat} {m : List T_Arrive} {o : Option AObj} (h : m ≠ []) : appU q m top o = [(q, none), (top, o)] := by
  cases m with
  | nil => exact absurd rfl h
  | cons a m => rfl
def conLost1 : Con := .det (fun args hp _ => match args with | [.agg ⟨p⟩, .pointer (some ⟨nb, 0, none⟩), .pointer (some ⟨ob, 0, none⟩)] => e_Arrive.enc (e_Arrive.dec p) = p ∧ (∃ n, hp nb = some (.cells true 0 [.pointer (some ⟨n, 0, none⟩)]) ∧ ∃ s, UpAt hp n s) ∧ AskOk hp ob | _ => False)
  (fun args hp top => match args with | [.agg ⟨p⟩, .pointer (some ⟨nb, _, _⟩), .pointer (some ⟨ob, _, _⟩)] => if upH hp (netOfC hp nb) (e_Arrive.dec p).From (e_Arrive.dec p).To then (.bool true, [], top) else (.bool false, askRes hp ob (e_Arrive.dec p) top, top + 1) | _ => (undef, [], top))
theorem lost1_ok : ConOk Try.prog 65 conLost1 := by
  refine .mkDet fn65_ok ?_
  intro args hp top hpre hcl hsc
  match args, hpre with
  | [.agg ⟨p⟩, .pointer (some ⟨nb, 0, none⟩), .pointer (some ⟨ob, 0, none⟩)], ⟨hx, ⟨n, h4, s, hN⟩, ⟨q, m, h1, h2, h3⟩⟩ =>
  generalize e_Arrive.dec p = x at hx
  subst hx
  have hot : ob < top := hcl.lt _ _ h1
  have hnt : nb < top := hcl.lt _ _ h4
  have hno : ¬ nb = ob := fun e => by
    rw [e, h1] at h4
    cases m <;> simp [mkSl] at h4
  have hot1 : ¬ top + 1 = ob := by omega
  have hot0 : ¬ top = ob := by omega
  have hot2 : ¬ top + 2 = ob := by omega
  have nn3 : n + 3 < top := hcl.lt _ _ hN.S
  have hk : ∀ {o}, UpAt (hp.set top o) n s := fun {o} => by
    obtain ⟨rv, pv, lav, nwv, wv, hh⟩ := hN.h
    exact ⟨⟨rv, pv, lav, nwv, wv, (set_ne _ _ _ _ (by omega)).trans hh⟩, (set_ne _ _ _ _ (by omega)).trans hN.L, (set_ne _ _ _ _ (by omega)).trans hN.C, (set_ne _ _ _ _ (by omega)).trans hN.S⟩
  have his : (∃ s, UpAt hp n s) = True := eq_true ⟨s, hN⟩
  have his2 : ∀ {o}, (∃ s, UpAt (hp.set top o) n s) = True := fun {o} => eq_true ⟨s, hk⟩
  have hs1 : ∀ {a b}, upH hp n a b = upF s a b := fun {a b} => hN.eq
  have hs2 : ∀ {o a b}, upH (hp.set top o) n a b = upF s a b := fun {o a b} => (hk (o := o)).eq
  have hnetc : netOfC hp nb = n := by unfold netOfC; rw [h4]; rfl
  simp only [hnetc, hs1, askRes_eq h1 h2 h3]
  refine CalledOk.of_fun tt_ok fn65_ok rfl 15 rfl [.tmp 4] rfl (show 3 ≤ 15 by decide) ?_
  cases c : upF s x.From x.To with
  | true =>
    refine CW.vc env18_r [0, 1, 2, 3, 4, 10] (by kernel_rfl) ?_
    (repeat ((try refine Vc.mk' ?_); simp only [go_sem, reduceIte, reduceCtorEq, Nat.reduceAdd, Nat.reduceMul, Nat.reduceSub, Nat.reduceLT, Nat.reduceLeDiff, Nat.reduceEqDiff, Int.reduceEq, Int.reduceLT, Int.reduceLE, Int.reduceNe, h1, h4, G18_up, conUp2, his, his2, hs1, hs2, hnetc, en_Arrive, c, set_lt hot, set_lt hnt]))
    (refine ⟨[], by simp, by simp, by simp, ?_, ?_, ?_⟩ <;> simp [frSub, lkG, ren, renL, renL_set, renL_ints, UpdOk.nil, UpdOk.cons, renOO_some, renO_cells, renO_map, renOO_mkOb, rn_base, rn_add, ren_mkSl, Enc.flat_ren, set_same, set_ne, sets_cons, sets_nil, Keep.set, Keep.setK, Keep.refl, rm_m_int_bool, rm_m_message_Rule, rm_m_pair_bool, rm_m_pair_int])
  | false =>
    by_cases hm : m = []
    · subst hm
      rw [mkSl_nil] at h1
      refine CW.vc env18_r [0, 1, 2, 3, 4, 10] (by kernel_rfl) ?_
      (repeat ((try refine Vc.mk' ?_); simp only [go_sem, reduceIte, reduceCtorEq, Nat.reduceAdd, Nat.reduceMul, Nat.reduceSub, Nat.reduceLT, Nat.reduceLeDiff, Nat.reduceEqDiff, Int.reduceEq, Int.reduceLT, Int.reduceLE, Int.reduceNe, h1, h4, G18_up, conUp2, his, his2, hs1, hs2, hnetc, en_Arrive, c, set_lt hot, set_lt hnt, hno, hot1, hot0, hot2]))
      simp only [Bool.false_eq_true, if_false, appU, List.nil_append]
      (refine ⟨[top + 2], by simp, by simp, by simp, ?_, ?_, ?_⟩ <;> simp [frSub, lkG, ren, renL, renL_set, renL_ints, UpdOk.nil, UpdOk.cons, renOO_some, renO_cells, renO_map, renOO_mkOb, rn_base, rn_add, ren_mkSl, Enc.flat_ren, set_same, set_ne, sets_cons, sets_nil, Keep.set, Keep.setK, Keep.refl, rm_m_int_bool, rm_m_message_Rule, rm_m_pair_bool, rm_m_pair_int, rn_low hot, hot1, hot0, hot2])
    · replace h2 := h2 hm
      have hqt : q < top := by
        cases m with
        | nil => exact absurd rfl hm
        | cons a m => exact hcl.lt _ _ h2
      have hc : ∀ {b : Nat}, cellsL (mkSl b (m ++ [x])) = [mkSl b (m ++ [x])] := fun {b} => by cases m <;> rfl
      have ho : ∀ {b : Nat}, (mkSl b (m ++ [x])).oneCell' = true := fun {b} => by cases m <;> rfl
      have hqa : ¬ q = ob := fun e => by
        rw [e, h1] at h2
        cases m with
        | nil => exact hm rfl
        | cons a m => simp only [mkOb, Option.some.injEq, AObj.cells.injEq] at h2; exact absurd h2.2.1 (by decide)
      have haq : ¬ ob = q := fun e => hqa e.symm
      have hqn : ¬ nb = q := fun e => by
        rw [← e, h4] at h2
        cases m with
        | nil => exact hm rfl
        | cons a m => simp only [mkOb, Option.some.injEq, AObj.cells.injEq] at h2; exact absurd h2.2.1 (by decide)
      refine CW.vc env18_r [0, 1, 2, 3, 4, 10] (by kernel_rfl) ?_
      (repeat ((try refine Vc.mk' ?_); simp only [go_sem, reduceIte, reduceCtorEq, Nat.reduceAdd, Nat.reduceMul, Nat.reduceSub, Nat.reduceLT, Nat.reduceLeDiff, Nat.reduceEqDiff, Int.reduceEq, Int.reduceLT, Int.reduceLE, Int.reduceNe, h1, h4, G18_up, conUp2, his, his2, hs1, hs2, hnetc, en_Arrive, c, h2, h3, set_lt hot, set_lt hnt, set_lt hqt, hno, hot1, hot0, hot2, hc, ho, hqa, haq, hqn]))
      rw [appU_ne hm]
      (refine ⟨[top + 2], by simp, by simp, by simp, ?_, ?_, ?_⟩ <;> simp [frSub, lkG, ren, renL, renL_set, renL_ints, UpdOk.nil, UpdOk.cons, renOO_some, renO_cells, renO_map, renOO_mkOb, rn_base, rn_add, ren_mkSl, Enc.flat_ren, set_same, set_ne, sets_cons, sets_nil, Keep.set, Keep.setK, Keep.refl, rm_m_int_bool, rm_m_message_Rule, rm_m_pair_bool, rm_m_pair_int, rn_low hot, rn_low hqt, hot1, hot0, hot2, hqa, haq])
end Go.Proofs.Ytmppehipfpkepaa.Dm
