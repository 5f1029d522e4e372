/- The net: Send. -/
import Derived.Test.YtmppehipfpkepaaN2
set_option linter.unusedSimpArgs false
set_option linter.unusedVariables false
namespace Go.Proofs.Ytmppehipfpkepaa.Dm
open Go.Dm
set_option maxHeartbeats 16000000
set_option maxRecDepth 20000
noncomputable def G10_r : FuncId → Con := addG (addG G9_r 12 conTick) 33 Fa.conAsk
theorem env10_r : EnvV Try.prog tt.get G10_r := (env9_r.add tick_ok).add Fa.ask_ok
theorem G10_none : G10_r 29 = conNoneN := rfl
theorem G10_up : G10_r 31 = conUp := rfl
theorem G10_pair : G10_r 30 = conPair := rfl
theorem G10_len : G10_r 32 = conLen_r := rfl
theorem G10_put : G10_r 34 = conPut_r := rfl
theorem G10_ask : G10_r 33 = Fa.conAsk := rfl
/-- the error of a message -/
def sendE (s : NetS) (a b : Int) (len : Nat) : Int := if costF s a b = 0 then 2 else if 512 < len then 3 else if upF s a b = false then 9 else if 16382 < s.l.length then 8 else (Fa.askF s.P a b).2.2
def atF (s : NetS) (by_ : Int) : Int := wrapA .u64 (s.now + s.late + wrapA .u64 by_)
def copies (s : NetS) (a b : Int) : Int := (Fa.askF s.P a b).2.1.Copies
/-- the list, when k copies are on their way -/
def putsL (s : NetS) (a b : Int) (m : List UInt8) : Nat → List T_t124
  | 0 => s.l
  | 1 => put_r s.l ⟨atF s (Fa.askF s.P a b).2.1.Late, s.last + 1, a, b, m⟩
  | k + 2 => put_r (putsL s a b m (k + 1)) ⟨atF s (Fa.askF s.P a b).2.1.Second, s.last + ((k + 2 : Nat) : Int), a, b, m⟩
theorem putsL_len (s : NetS) (a b : Int) (m : List UInt8) : ∀ k, (putsL s a b m k).length = s.l.length + k
  | 0 => rfl
  | 1 => put_r_len _ _
  | k + 2 => by rw [putsL, put_r_len, putsL_len s a b m (k + 1)]; omega
def putsU (n : Nat) (lv : Value) (s : NetS) (a b : Int) (m : List UInt8) (k q : Nat) : Upds := if k = 0 then [] else
  (n + 6, calOb (s.last + (k : Int)) (ownS q (s.l.length + k))) :: (dropU lv ++ [(q, ownO e_t124 (putsL s a b m k))])
def sendRes (n : Nat) (lv : Value) (s : NetS) (a b : Int) (m : List UInt8) (top : Nat) : Value × Upds × Nat :=
  if costF s a b = 0 ∨ 512 < m.length ∨ upF s a b = false ∨ 16382 < s.l.length then (.tuple ⟨[.agg ⟨[.int .i64 0, .int .i64 0, .int .i64 0]⟩, .int .i64 (sendE s a b m.length)]⟩, [], top)
  else (.tuple ⟨[.agg ⟨e_Fate.enc (Fa.askF s.P a b).2.1⟩, .int .i64 (sendE s a b m.length)]⟩, Fa.planUs (n + 5) (n + 4) (Fa.askF s.P a b).1 ++ putsU n lv s a b m (copies s a b).toNat top, if copies s a b = 0 then top else top + 1)
noncomputable def conSend : Con := .det (fun args hp _ => match args with | [.pointer (some ⟨n, 0, none⟩), a, b, m] => IsNet hp n ∧ (netS hp n).last < 999990 ∧ IsI .i64 a ∧ IsI .i64 b ∧ IsS m | _ => False) (fun args hp top => match args with
  | [.pointer (some ⟨n, _, _⟩), a, b, m] => sendRes n (netV hp n) (netS hp n) (intOf a) (intOf b) (strOf m) top | _ => (undef, [], top))
theorem CalAt_r.put {hp hp' : Hp} {cb q : Nat} {last : Int} {lv : Value} {l : List T_t124} (C : CalAt_r hp cb last lv l) (h1 : last < 1000000) (h2 : l.length < 1000000) {t : T_t124} (ht : t.ticket = last + 1) (hcb : hp' cb = calOb (last + 1) (ownS q (l.length + 1))) (hq : hp' q = ownO e_t124 (put_r l t)) :
    CalAt_r hp' cb (last + 1) (ownS q (l.length + 1)) (put_r l t) := by
  have hl := put_r_len l t
  refine ⟨hcb, ?_, put_r_up C.up (fun a ha => by have := (C.tk a ha).2; omega), fun a ha => ?_, by have := C.l0; omega, by omega, by omega⟩
  · rw [← hl]
    exact .blk q _ hq (by omega)
  · rcases put_r_mem.1 ha with rfl | ha
    · have := C.l0; omega
    · have := C.tk a ha; omega
theorem NetAt.plan {hp : Hp} {n : Nat} {lv : Value} {s : NetS} (h : NetAt hp n lv s) : Fa.PlanAt hp (.pointer (some ⟨n + 4, 0, none⟩)) (n + 4) (n + 5) s.P := .mk _ _ _ h.P h.M h.pl
theorem askF_err {p : Fa.PlanS} {a b : Int} (h : (Fa.askF p a b).2.2 ≠ 0) : Fa.askF p a b = (p, ⟨0, 0, 0⟩, 2) := by
  unfold Fa.askF at h ⊢
  split
  · rfl
  · rename_i c
    rw [if_neg c] at h
    split at h <;> exact absurd rfl h
theorem askF_cop (p : Fa.PlanS) (a b : Int) : (Fa.askF p a b).2.1.Copies = 0 ∨ (Fa.askF p a b).2.1.Copies = 1 ∨ (Fa.askF p a b).2.1.Copies = 2 := by
  unfold Fa.askF
  split
  · left; rfl
  · split
    · right; left; rfl
    · unfold Fa.fateOf
      split
      · right; right; rfl
      · split
        · right; left; rfl
        · left; rfl
theorem slenS {hp : Hp} {s : List UInt8} : slen tt.get hp 9 (.string ⟨⟨s⟩⟩) = (.int .i64 (s.length : Int), True) := by
  unfold slen; simp only [k_string, lenA, t_string, ti9, IsS_string]; rfl
def sendB (n top : Nat) (a b : Int) (m : List UInt8) (P' : Fa.PlanS) (f : T_Fate) : Upds := [(top, some (.cells true 0 [.int .i64 0, .int .i64 0, .int .i64 0])), (n + 5, some (.map (me_m_message_Rule P'.m) P'.clk)), (n + 4, Fa.planOb (n + 5) P'.ks), (top + 1, some (.cells true 0 [.int .i64 f.Copies, .int .i64 f.Late, .int .i64 f.Second])), (top + 2, some (.cells true 0 [.int .i64 a, .int .i64 b, .string ⟨⟨m⟩⟩]))]
def stSend (hp : Hp) (top n : Nat) (lv : Value) (s : NetS) (a b : Int) (m : List UInt8) (P' : Fa.PlanS) (f : T_Fate) : Nat → SS
  | 0 => ⟨[(0, .pointer (some ⟨n, 0, none⟩), true), (8, .pointer (some ⟨top, 0, none⟩), true), (10, .pointer (some ⟨top + 1, 0, none⟩), true), (12, .pointer (some ⟨top + 2, 0, none⟩), true), (69, .int .i64 f.Copies, true), (70, .int .i64 0, true)], hp.sets (sendB n top a b m P' f), top + 3⟩
  | k + 1 => ⟨[(0, .pointer (some ⟨n, 0, none⟩), true), (8, .pointer (some ⟨top, 0, none⟩), true), (10, .pointer (some ⟨top + 1, 0, none⟩), true), (12, .pointer (some ⟨top + 2, 0, none⟩), true), (69, .int .i64 f.Copies, true), (70, .int .i64 ((k + 1 : Nat) : Int), true)], hp.sets (sendB n top a b m P' f ++ ((n + 6, calOb (s.last + ((k + 1 : Nat) : Int)) (ownS (top + 3) (s.l.length + (k + 1)))) :: (dropU lv ++ [(top + 3, ownO e_t124 (putsL s a b m (k + 1)))]))), top + 4⟩
theorem zS : e_t124.size = 5 := rfl
theorem own_cases {hp : Hp} {v : Value} {l : List T_t124} (h : OwnV e_t124 hp v l) : (v = .slice none 0 0 ∧ l = []) ∨ ∃ q, v = .slice (some ⟨q, 0, none⟩) l.length l.length ∧ hp q = some (.cells true 5 (e_t124.flat l)) := by
  cases h with
  | nil => exact .inl ⟨rfl, rfl⟩
  | blk q l h hn => exact .inr ⟨q, rfl, h⟩
theorem send_ok : ConOk Try.prog 10 conSend := by
  refine .mkDet fn10_ok ?_
  intro args hp top hpre hcl hsc
  match args, hpre with
  | [.pointer (some ⟨n, 0, none⟩), a, b, m], ⟨⟨lv, s, h⟩, hla, ha, hb, hm⟩ =>
  rw [ha, hb, hm]
  rw [h.s] at hla
  generalize intOf a = a, intOf b = b
  generalize strOf m = m
  simp only [h.s, h.v, intOf_int, strOf_string]
  have hlow := h.low hcl
  have n0 : n < top := by omega
  have n1 : n + 1 < top := by omega
  have hh := h.h
  have hL := h.L
  have his := h.is
  have hk : ∀ o, NetAt (hp.set top o) n lv s := fun o => h.keep hcl fun i hi => set_lt hi (Nat.le_refl _)
  have his' : ∀ {o}, IsNet (hp.set top o) n = True := fun {o} => (hk o).is
  have hs' : ∀ {o}, netS (hp.set top o) n = s := fun {o} => (hk o).s
  have w1 : ∀ {o}, calL (hp.set top o) (n + 6) = lv := fun {o} => (hk o).W.calL
  have w2 : ∀ {o}, e_t124.rd (hp.set top o) lv = s.l := fun {o} => (hk o).W.rd
  have w3 : ∀ {o}, LenPre_r (hp.set top o) (n + 6) = True := fun {o} => (hk o).W.lenP
  have hpl : ∀ {o}, Fa.IsPlan (hp.set top o) (.pointer (some ⟨n + 4, 0, none⟩)) = True := fun {o} => eq_true ⟨_, _, _, (hk o).plan⟩
  have hpr : ∀ {o}, Fa.rdPlan (hp.set top o) (.pointer (some ⟨n + 4, 0, none⟩)) = some (n + 4, n + 5, s.P) := fun {o} => (hk o).plan.rd
  refine CalledOk.of_fun tt_ok fn10_ok rfl 99 rfl [.cell 8 28, .tmp 9] rfl (show 4 ≤ 99 by decide) ?_
  by_cases c1 : costF s a b = 0
  · have e : sendRes n lv s a b m top = (.tuple ⟨[.agg ⟨[.int .i64 0, .int .i64 0, .int .i64 0]⟩, .int .i64 2]⟩, [], top) := by unfold sendRes sendE; rw [if_pos (.inl c1), if_pos c1]
    have c1' : (mget s.L ⟨min a b, max a b⟩).getD default = 0 := c1
    refine CW.vc env10_r [0, 1, 2, 3, 8, 9, 10, 11, 12, 13, 14, 15, 19, 30, 35, 42, 61, 69, 70, 71, 76] (by kernel_rfl) ?_
    (repeat ((try refine Vc.mk' ?_); simp only [go_sem, reduceIte, reduceCtorEq, Nat.reduceAdd, Nat.reduceMul, Nat.reduceSub, Nat.reduceLT, Nat.reduceLeDiff, Nat.reduceEqDiff, Int.reduceEq, Int.reduceLT, Int.reduceLE, Int.reduceNe, hh, netOb, hL, G10_none, conNoneN, his, his', hs', G10_pair, conPair, G10_up, conUp, G10_len, conLen_r, G10_ask, Fa.conAsk, w1, w2, w3, hpl, hpr, set_lt n0, set_lt n1, slenS, c1']))
    rw [e]
    (refine ⟨[], by simp, by simp, by simp, ?_, ?_, ?_⟩ <;> simp [frSub, lkG, ren, renL, renL_set, renL_ints, UpdOk.nil, UpdOk.cons, renOO_some, renO_cells, renO_map, renOO_mkOb, rn_base, rn_add, ren_mkSl, Enc.flat_ren, set_same, set_ne, sets_cons, sets_nil, Keep.set, Keep.setK, Keep.refl, rm_m_int_bool, rm_m_message_Rule, rm_m_pair_bool, rm_m_pair_int])
  have c1' : ¬ (mget s.L ⟨min a b, max a b⟩).getD default = 0 := c1
  by_cases c2 : 512 < m.length
  · have e : sendRes n lv s a b m top = (.tuple ⟨[.agg ⟨[.int .i64 0, .int .i64 0, .int .i64 0]⟩, .int .i64 3]⟩, [], top) := by unfold sendRes sendE; rw [if_pos (.inr (.inl c2)), if_neg c1, if_pos c2]
    have c2' : (512 : Int) < (m.length : Int) := by omega
    refine CW.vc env10_r [0, 1, 2, 3, 8, 9, 10, 11, 12, 13, 14, 15, 19, 30, 35, 42, 61, 69, 70, 71, 76] (by kernel_rfl) ?_
    (repeat ((try refine Vc.mk' ?_); simp only [go_sem, reduceIte, reduceCtorEq, Nat.reduceAdd, Nat.reduceMul, Nat.reduceSub, Nat.reduceLT, Nat.reduceLeDiff, Nat.reduceEqDiff, Int.reduceEq, Int.reduceLT, Int.reduceLE, Int.reduceNe, hh, netOb, hL, G10_none, conNoneN, his, his', hs', G10_pair, conPair, G10_up, conUp, G10_len, conLen_r, G10_ask, Fa.conAsk, w1, w2, w3, hpl, hpr, set_lt n0, set_lt n1, slenS, c1', c2']))
    rw [e]
    (refine ⟨[], by simp, by simp, by simp, ?_, ?_, ?_⟩ <;> simp [frSub, lkG, ren, renL, renL_set, renL_ints, UpdOk.nil, UpdOk.cons, renOO_some, renO_cells, renO_map, renOO_mkOb, rn_base, rn_add, ren_mkSl, Enc.flat_ren, set_same, set_ne, sets_cons, sets_nil, Keep.set, Keep.setK, Keep.refl, rm_m_int_bool, rm_m_message_Rule, rm_m_pair_bool, rm_m_pair_int])
  have c2' : ¬ (512 : Int) < (m.length : Int) := by omega
  cases c3 : upF s a b with
  | false =>
    have e : sendRes n lv s a b m top = (.tuple ⟨[.agg ⟨[.int .i64 0, .int .i64 0, .int .i64 0]⟩, .int .i64 9]⟩, [], top) := by unfold sendRes sendE; rw [if_pos (.inr (.inr (.inl c3))), if_neg c1, if_neg c2, if_pos c3]
    refine CW.vc env10_r [0, 1, 2, 3, 8, 9, 10, 11, 12, 13, 14, 15, 19, 30, 35, 42, 61, 69, 70, 71, 76] (by kernel_rfl) ?_
    (repeat ((try refine Vc.mk' ?_); simp only [go_sem, reduceIte, reduceCtorEq, Nat.reduceAdd, Nat.reduceMul, Nat.reduceSub, Nat.reduceLT, Nat.reduceLeDiff, Nat.reduceEqDiff, Int.reduceEq, Int.reduceLT, Int.reduceLE, Int.reduceNe, hh, netOb, hL, G10_none, conNoneN, his, his', hs', G10_pair, conPair, G10_up, conUp, G10_len, conLen_r, G10_ask, Fa.conAsk, w1, w2, w3, hpl, hpr, set_lt n0, set_lt n1, slenS, c1', c2', c3]))
    rw [e]
    (refine ⟨[], by simp, by simp, by simp, ?_, ?_, ?_⟩ <;> simp [frSub, lkG, ren, renL, renL_set, renL_ints, UpdOk.nil, UpdOk.cons, renOO_some, renO_cells, renO_map, renOO_mkOb, rn_base, rn_add, ren_mkSl, Enc.flat_ren, set_same, set_ne, sets_cons, sets_nil, Keep.set, Keep.setK, Keep.refl, rm_m_int_bool, rm_m_message_Rule, rm_m_pair_bool, rm_m_pair_int])
  | true =>
  by_cases c4 : 16382 < s.l.length
  · have e : sendRes n lv s a b m top = (.tuple ⟨[.agg ⟨[.int .i64 0, .int .i64 0, .int .i64 0]⟩, .int .i64 8]⟩, [], top) := by unfold sendRes sendE; rw [if_pos (.inr (.inr (.inr c4))), if_neg c1, if_neg c2, if_neg (by rw [c3]; simp), if_pos c4]
    have c4' : (16382 : Int) < (s.l.length : Int) := by omega
    refine CW.vc env10_r [0, 1, 2, 3, 8, 9, 10, 11, 12, 13, 14, 15, 19, 30, 35, 42, 61, 69, 70, 71, 76] (by kernel_rfl) ?_
    (repeat ((try refine Vc.mk' ?_); simp only [go_sem, reduceIte, reduceCtorEq, Nat.reduceAdd, Nat.reduceMul, Nat.reduceSub, Nat.reduceLT, Nat.reduceLeDiff, Nat.reduceEqDiff, Int.reduceEq, Int.reduceLT, Int.reduceLE, Int.reduceNe, hh, netOb, hL, G10_none, conNoneN, his, his', hs', G10_pair, conPair, G10_up, conUp, G10_len, conLen_r, G10_ask, Fa.conAsk, w1, w2, w3, hpl, hpr, set_lt n0, set_lt n1, slenS, c1', c2', c3, c4']))
    rw [e]
    (refine ⟨[], by simp, by simp, by simp, ?_, ?_, ?_⟩ <;> simp [frSub, lkG, ren, renL, renL_set, renL_ints, UpdOk.nil, UpdOk.cons, renOO_some, renO_cells, renO_map, renOO_mkOb, rn_base, rn_add, ren_mkSl, Enc.flat_ren, set_same, set_ne, sets_cons, sets_nil, Keep.set, Keep.setK, Keep.refl, rm_m_int_bool, rm_m_message_Rule, rm_m_pair_bool, rm_m_pair_int])
  have c4' : ¬ (16382 : Int) < (s.l.length : Int) := by omega
  have hE : sendE s a b m.length = (Fa.askF s.P a b).2.2 := by unfold sendE; rw [if_neg c1, if_neg c2, if_neg (by rw [c3]; simp), if_neg c4]
  have hX : ¬ (costF s a b = 0 ∨ 512 < m.length ∨ upF s a b = false ∨ 16382 < s.l.length) := by rintro (h | h | h | h); exact c1 h; exact c2 h; rw [c3] at h; cases h; exact c4 h
  unfold sendRes
  rw [if_neg hX, hE]
  by_cases c5 : (Fa.askF s.P a b).2.2 = 0
  case neg =>
    have e := askF_err c5
    have hcp : copies s a b = 0 := by unfold copies; rw [e]
    have n4 : n + 4 < top := by omega
    have n5 : n + 5 < top := by omega
    have m4 : ¬ top = n + 4 := by omega
    have m5 : ¬ top = n + 5 := by omega
    have m4' : ¬ n + 4 = top := by omega
    have m5' : ¬ n + 5 = top := by omega
    have m45 : ¬ n + 4 = n + 5 := by omega
    have m54 : ¬ n + 5 = n + 4 := by omega
    have P4 := h.P
    have P5 := h.M
    refine CW.vc env10_r [0, 1, 2, 3, 8, 9, 10, 11, 12, 13, 14, 15, 19, 30, 35, 42, 61, 69, 70, 71, 76] (by kernel_rfl) ?_
    (repeat ((try refine Vc.mk' ?_); simp only [go_sem, reduceIte, reduceCtorEq, Nat.reduceAdd, Nat.reduceMul, Nat.reduceSub, Nat.reduceLT, Nat.reduceLeDiff, Nat.reduceEqDiff, Int.reduceEq, Int.reduceLT, Int.reduceLE, Int.reduceNe, hh, netOb, hL, G10_none, conNoneN, his, his', hs', G10_pair, conPair, G10_up, conUp, G10_len, conLen_r, G10_ask, Fa.conAsk, w1, w2, w3, hpl, hpr, set_lt n0, set_lt n1, slenS, c1', c2', c3, c4', Fa.resAsk, e, Fa.planUs, m4, m5, m4', m5', m45, m54]))
    simp only [hcp, putsU, Int.toNat_zero, if_true, List.append_nil]
    (refine ⟨[], by simp, by simp, by simp, ?_, ?_, ?_⟩ <;> simp [frSub, lkG, ren, renL, renL_set, renL_ints, UpdOk.nil, UpdOk.cons, renOO_some, renO_cells, renO_map, renOO_mkOb, rn_base, rn_add, ren_mkSl, Enc.flat_ren, set_same, set_ne, sets_cons, sets_nil, Keep.set, Keep.setK, Keep.refl, rm_m_int_bool, rm_m_message_Rule, rm_m_pair_bool, rm_m_pair_int, Fa.planOb, Fa.planUs, rn_low n4, rn_low n5, m4, m5, m4', m5', m45, m54, set_lt n4, set_lt n5])
  obtain ⟨⟨P', f, er⟩, hask⟩ : ∃ x, Fa.askF s.P a b = x := ⟨_, rfl⟩
  rw [hask] at c5
  have c5 : er = 0 := c5
  subst c5
  have hcp : copies s a b = f.Copies := by unfold copies; rw [hask]
  have hK : f.Copies = 0 ∨ f.Copies = 1 ∨ f.Copies = 2 := by have := askF_cop s.P a b; rw [hask] at this; exact this
  have n4 : n + 4 < top := by omega
  have n5 : n + 5 < top := by omega
  have n6 : n + 6 < top := by omega
  have n56 : ¬ n + 5 = n + 6 := by omega
  have n46 : ¬ n + 4 = n + 6 := by omega
  have n65 : ¬ n + 6 = n + 5 := by omega
  have n64 : ¬ n + 6 = n + 4 := by omega
  have n06 : ¬ n = n + 6 := by omega
  have n05 : ¬ n = n + 5 := by omega
  have n04 : ¬ n = n + 4 := by omega
  have n60 : ¬ n + 6 = n := by omega
  have x00 : ¬ top = n := by omega
  have y00 : ¬ n = top := by omega
  have x04 : ¬ top = n + 4 := by omega
  have y04 : ¬ n + 4 = top := by omega
  have x05 : ¬ top = n + 5 := by omega
  have y05 : ¬ n + 5 = top := by omega
  have x06 : ¬ top = n + 6 := by omega
  have y06 : ¬ n + 6 = top := by omega
  have x10 : ¬ top + 1 = n := by omega
  have y10 : ¬ n = top + 1 := by omega
  have x14 : ¬ top + 1 = n + 4 := by omega
  have y14 : ¬ n + 4 = top + 1 := by omega
  have x15 : ¬ top + 1 = n + 5 := by omega
  have y15 : ¬ n + 5 = top + 1 := by omega
  have x16 : ¬ top + 1 = n + 6 := by omega
  have y16 : ¬ n + 6 = top + 1 := by omega
  have x20 : ¬ top + 2 = n := by omega
  have y20 : ¬ n = top + 2 := by omega
  have x24 : ¬ top + 2 = n + 4 := by omega
  have y24 : ¬ n + 4 = top + 2 := by omega
  have x25 : ¬ top + 2 = n + 5 := by omega
  have y25 : ¬ n + 5 = top + 2 := by omega
  have x26 : ¬ top + 2 = n + 6 := by omega
  have y26 : ¬ n + 6 = top + 2 := by omega
  have x30 : ¬ top + 3 = n := by omega
  have y30 : ¬ n = top + 3 := by omega
  have x34 : ¬ top + 3 = n + 4 := by omega
  have y34 : ¬ n + 4 = top + 3 := by omega
  have x35 : ¬ top + 3 = n + 5 := by omega
  have y35 : ¬ n + 5 = top + 3 := by omega
  have x36 : ¬ top + 3 = n + 6 := by omega
  have y36 : ¬ n + 6 = top + 3 := by omega
  have x40 : ¬ top + 4 = n := by omega
  have y40 : ¬ n = top + 4 := by omega
  have x44 : ¬ top + 4 = n + 4 := by omega
  have y44 : ¬ n + 4 = top + 4 := by omega
  have x45 : ¬ top + 4 = n + 5 := by omega
  have y45 : ¬ n + 5 = top + 4 := by omega
  have x46 : ¬ top + 4 = n + 6 := by omega
  have y46 : ¬ n + 6 = top + 4 := by omega
  have n45 : ¬ n + 4 = n + 5 := by omega
  have n54 : ¬ n + 5 = n + 4 := by omega
  have n40 : ¬ n + 4 = n := by omega
  have n50 : ¬ n + 5 = n := by omega
  have w6 := h.W.h
  have lvs := h.W.low hcl
  have hl0 := h.W.l0
  have hn16 : s.l.length ≤ 16382 := by omega
  have wl : wrapA .u64 (s.now + s.late) = s.now + s.late := by have := h.lt0; have := h.lt1; have := h.nw0; have := h.nw1; exact wrapU (by omega) (by omega)
  have hT : ∀ (x k : Int), thing_r (.int .u64 x) k (.agg ⟨[.int .i64 a, .int .i64 b, .string ⟨⟨m⟩⟩]⟩) = ⟨x, k, a, b, m⟩ := fun _ _ => rfl
  have hA : (∃ x : T_Arrive, Value.agg ⟨[.int .i64 a, .int .i64 b, .string ⟨⟨m⟩⟩]⟩ = .agg ⟨e_Arrive.enc x⟩) = True := eq_true ⟨⟨a, b, m⟩, rfl⟩
  have P4 : hp (n + 4) = _ := h.P
  have P5 := h.M
  have la : Apart (n + 5) lv := h.W.off (j := n + 5) fun vs e => by rw [h.M] at e; cases e
  have lb : Apart (n + 4) lv := h.W.off (j := n + 4) fun vs e => by rw [h.P] at e; exact absurd (cellZ e) (by decide)
  have C0 : ∀ {h' : Hp}, Keep top [n + 5, n + 4] h' hp → CalAt_r h' (n + 6) s.last lv s.l := fun {h'} hk =>
    ⟨(hk _ n6 (by simp)).trans h.W.h, h.W.o.mono fun q k c e => hk q (by rw [e] at lvs; exact lvs) (by subst e; simp only [List.mem_cons, List.not_mem_nil, or_false, not_or]; exact ⟨fun e => la e.symm, fun e => lb e.symm⟩), h.W.up, h.W.tk, h.W.l0, h.W.l1, h.W.n⟩
  have C0a : ∀ {h' : Hp}, Keep top [n + 5, n + 4] h' hp → calLast h' (n + 6) = s.last := fun {h'} hk => by unfold calLast; rw [(C0 hk).h]; rfl
  have C0b : ∀ {h' : Hp}, Keep top [n + 5, n + 4] h' hp → calL h' (n + 6) = lv := fun {h'} hk => (C0 hk).calL
  have C0c : ∀ {h' : Hp}, Keep top [n + 5, n + 4] h' hp → e_t124.rd h' lv = s.l := fun {h'} hk => (C0 hk).rd
  have C0d : ∀ {h' : Hp} {x : Int}, Keep top [n + 5, n + 4] h' hp → PutPre_r h' (n + 6) (.int .u64 x) (.agg ⟨[.int .i64 a, .int .i64 b, .string ⟨⟨m⟩⟩]⟩) = True := fun {h'} {x} hk => eq_true ⟨_, _, _, C0 hk, by omega, by omega, rfl, ⟨a, b, m⟩, rfl⟩
  have hlate : f.Late = (Fa.askF s.P a b).2.1.Late := by rw [hask]
  have hsec : f.Second = (Fa.askF s.P a b).2.1.Second := by rw [hask]
  have L1 : put_r s.l ⟨wrapA .u64 (s.now + s.late + wrapA .u64 f.Late), s.last + 1, a, b, m⟩ = putsL s a b m 1 := by rw [putsL, atF, hlate]
  have L2 : put_r (putsL s a b m 1) ⟨wrapA .u64 (s.now + s.late + wrapA .u64 f.Second), s.last + 1 + 1, a, b, m⟩ = putsL s a b m 2 := by
    rw [show putsL s a b m 2 = put_r (putsL s a b m 1) ⟨atF s (Fa.askF s.P a b).2.1.Second, s.last + ((0 + 2 : Nat) : Int), a, b, m⟩ from rfl, atF, hsec]
    congr 2; omega
  have hl1 := putsL_len s a b m 1
  have C1 : ∀ {h' : Hp}, h' (n + 6) = calOb (s.last + 1) (ownS (top + 3) (s.l.length + 1)) → h' (top + 3) = ownO e_t124 (putsL s a b m 1) → CalAt_r h' (n + 6) (s.last + 1) (ownS (top + 3) (s.l.length + 1)) (putsL s a b m 1) := fun {h'} e1 e2 => by
    rw [← L1] at e2 ⊢
    exact (h.W.put (by omega) (by omega) rfl e1 e2)
  have C1a : ∀ {h' : Hp}, h' (n + 6) = some (.cells true 0 [.bool true, .int .i64 (s.last + 1), .slice (some ⟨top + 3, 0, none⟩) (s.l.length + 1) (s.l.length + 1)]) → calLast h' (n + 6) = s.last + 1 := fun {h'} e => by unfold calLast; rw [e]; rfl
  have C1b : ∀ {h' : Hp}, h' (n + 6) = some (.cells true 0 [.bool true, .int .i64 (s.last + 1), .slice (some ⟨top + 3, 0, none⟩) (s.l.length + 1) (s.l.length + 1)]) → calL h' (n + 6) = .slice (some ⟨top + 3, 0, none⟩) (s.l.length + 1) (s.l.length + 1) := fun {h'} e => by unfold calL; rw [e]; rfl
  have C1c : ∀ {h' : Hp}, h' (n + 6) = some (.cells true 0 [.bool true, .int .i64 (s.last + 1), .slice (some ⟨top + 3, 0, none⟩) (s.l.length + 1) (s.l.length + 1)]) → h' (top + 3) = some (.cells true 5 (e_t124.flat (putsL s a b m 1))) → e_t124.rd h' (.slice (some ⟨top + 3, 0, none⟩) (s.l.length + 1) (s.l.length + 1)) = putsL s a b m 1 := fun {h'} e1 e2 => (C1 e1 e2).rd
  have C1d : ∀ {h' : Hp} {x : Int}, h' (n + 6) = some (.cells true 0 [.bool true, .int .i64 (s.last + 1), .slice (some ⟨top + 3, 0, none⟩) (s.l.length + 1) (s.l.length + 1)]) → h' (top + 3) = some (.cells true 5 (e_t124.flat (putsL s a b m 1))) → PutPre_r h' (n + 6) (.int .u64 x) (.agg ⟨[.int .i64 a, .int .i64 b, .string ⟨⟨m⟩⟩]⟩) = True := fun {h'} {x} e1 e2 => eq_true ⟨_, _, _, C1 e1 e2, by omega, by omega, rfl, ⟨a, b, m⟩, rfl⟩
  have w11 : wrapA .i64 1 = 1 := by decide
  have w12 : wrapA .i64 2 = 2 := by decide
  have i01 : ((0 + 1 : Nat) : Int) = 1 := rfl
  have a11 : s.last + 1 + 1 = s.last + 2 := by omega
  have i02 : ((0 + 1 + 1 : Nat) : Int) = 2 := rfl
  have o2 : ¬ (2 : Int) = 0 := by decide
  have o1 : ¬ (1 : Int) = 0 := by decide
  have ho := h.W.o
  rw [hask]
  rcases own_cases ho with ⟨rfl, hnil⟩ | ⟨q, rfl, hq⟩
  · refine CW.vc env10_r [0, 1, 2, 3, 8, 9, 10, 11, 12, 13, 14, 15, 19, 30, 35, 42, 61, 69, 70, 71, 76] (by kernel_rfl) ?_
    (repeat ((try refine Vc.mk' ?_); simp only [go_sem, reduceIte, reduceCtorEq, Nat.reduceAdd, Nat.reduceMul, Nat.reduceSub, Nat.reduceLT, Nat.reduceLeDiff, Nat.reduceEqDiff, Int.reduceEq, Int.reduceLT, Int.reduceLE, Int.reduceNe, hh, netOb, hL, G10_none, conNoneN, his, his', hs', G10_pair, conPair, G10_up, conUp, G10_len, conLen_r, G10_ask, Fa.conAsk, w1, w2, w3, hpl, hpr, set_lt n0, set_lt n1, slenS, c1', c2', c3, c4', Fa.resAsk, hask, Fa.planUs]))
    refine CW.loopR (stSend hp top n (.slice none 0 0) s a b m P' f) (fun k => k ≤ f.Copies.toNat) (fun k => f.Copies.toNat - k) 0 (Nat.zero_le _) ?_ ?_
    · exact (by refine SubR.mk' [top, top + 1, top + 2] hcl (by simp) (by simp) rfl (frSub_ok ?_) ?_ ?_ <;> simp [frSub, lkG, ren, renL, renL_set, renL_ints, UpdOk.nil, UpdOk.cons, renOO_some, renO_cells, renO_map, renOO_mkOb, rn_base, rn_add, ren_mkSl, Enc.flat_ren, set_same, set_ne, sets_cons, sets_nil, Keep.set, Keep.setK, Keep.refl, rm_m_int_bool, rm_m_message_Rule, rm_m_pair_bool, rm_m_pair_int, zS, rn_low n0, rn_low n1, rn_low n4, rn_low n5, rn_low n6, sendB, calOb, ownS, ownO, Fa.planOb, Enc.flat_ren, dropU, n56, n46, n65, n64, n06, n05, n04, n60, x00, y00, x04, y04, x05, y05, x06, y06, x10, y10, x14, y14, x15, y15, x16, y16, x20, y20, x24, y24, x25, y25, x26, y26, x30, y30, x34, y34, x35, y35, x36, y36, x40, y40, x44, y44, x45, y45, x46, y46, n45, n54, n40, n50, List.nil_append])
    · intro k hk
      match k, hk with
      | 0, hk =>
        by_cases c6 : 0 < f.Copies
        · have c6' : 0 < f.Copies.toNat := by omega
          refine CW.vc env10_r [0, 1, 2, 3, 8, 9, 10, 11, 12, 13, 14, 15, 19, 30, 35, 42, 61, 69, 70, 71, 76] (by kernel_rfl) ?_
          (repeat ((try refine Vc.mk' ?_); simp only [go_sem, reduceIte, reduceCtorEq, Nat.reduceAdd, Nat.reduceMul, Nat.reduceSub, Nat.reduceLT, Nat.reduceLeDiff, Nat.reduceEqDiff, Int.reduceEq, Int.reduceLT, Int.reduceLE, Int.reduceNe, hh, netOb, hL, G10_none, conNoneN, his, his', hs', G10_pair, conPair, G10_up, conUp, G10_len, conLen_r, G10_ask, Fa.conAsk, w1, w2, w3, hpl, hpr, set_lt n0, set_lt n1, slenS, zS, C0a, C0b, C0c, C0d, C1a, C1b, C1c, C1d, hl1, dropU, ownS, ownO, hT, wl, L1, L2, Keep.setK, List.mem_cons, G10_put, conPut_r, putRes_r, calOb, n56, n46, n65, n64, n06, n05, n04, n60, x00, y00, x04, y04, x05, y05, x06, y06, x10, y10, x14, y14, x15, y15, x16, y16, x20, y20, x24, y24, x25, y25, x26, y26, x30, y30, x34, y34, x35, y35, x36, y36, x40, y40, x44, y44, x45, y45, x46, y46, n45, n54, n40, n50, w6, stSend, sendB, c6, List.nil_append]))
          refine .mk 1 (by omega) (by omega) ((by refine SubR.mk' [top, top + 1, top + 2, top + 3] hcl (by simp) (by simp) rfl (frSub_ok ?_) ?_ ?_ <;> simp [frSub, lkG, ren, renL, renL_set, renL_ints, UpdOk.nil, UpdOk.cons, renOO_some, renO_cells, renO_map, renOO_mkOb, rn_base, rn_add, ren_mkSl, Enc.flat_ren, set_same, set_ne, sets_cons, sets_nil, Keep.set, Keep.setK, Keep.refl, rm_m_int_bool, rm_m_message_Rule, rm_m_pair_bool, rm_m_pair_int, zS, rn_low n0, rn_low n1, rn_low n4, rn_low n5, rn_low n6, sendB, calOb, ownS, ownO, Fa.planOb, Enc.flat_ren, dropU, n56, n46, n65, n64, n06, n05, n04, n60, x00, y00, x04, y04, x05, y05, x06, y06, x10, y10, x14, y14, x15, y15, x16, y16, x20, y20, x24, y24, x25, y25, x26, y26, x30, y30, x34, y34, x35, y35, x36, y36, x40, y40, x44, y44, x45, y45, x46, y46, n45, n54, n40, n50, w11, List.nil_append]))
        · have c7 : f.Copies = 0 := by omega
          refine CW.vc env10_r [0, 1, 2, 3, 8, 9, 10, 11, 12, 13, 14, 15, 19, 30, 35, 42, 61, 69, 70, 71, 76] (by kernel_rfl) ?_
          (repeat ((try refine Vc.mk' ?_); simp only [go_sem, reduceIte, reduceCtorEq, Nat.reduceAdd, Nat.reduceMul, Nat.reduceSub, Nat.reduceLT, Nat.reduceLeDiff, Nat.reduceEqDiff, Int.reduceEq, Int.reduceLT, Int.reduceLE, Int.reduceNe, hh, netOb, hL, G10_none, conNoneN, his, his', hs', G10_pair, conPair, G10_up, conUp, G10_len, conLen_r, G10_ask, Fa.conAsk, w1, w2, w3, hpl, hpr, set_lt n0, set_lt n1, slenS, zS, C0a, C0b, C0c, C0d, C1a, C1b, C1c, C1d, hl1, dropU, ownS, ownO, hT, wl, L1, L2, Keep.setK, List.mem_cons, G10_put, conPut_r, putRes_r, calOb, n56, n46, n65, n64, n06, n05, n04, n60, x00, y00, x04, y04, x05, y05, x06, y06, x10, y10, x14, y14, x15, y15, x16, y16, x20, y20, x24, y24, x25, y25, x26, y26, x30, y30, x34, y34, x35, y35, x36, y36, x40, y40, x44, y44, x45, y45, x46, y46, n45, n54, n40, n50, w6, stSend, sendB, c6, List.nil_append]))
          simp only [hcp, c7, Int.toNat_zero, if_true, putsU]
          (refine ⟨[], by simp, by simp, by simp, ?_, ?_, ?_⟩ <;> simp [frSub, lkG, ren, renL, renL_set, renL_ints, UpdOk.nil, UpdOk.cons, renOO_some, renO_cells, renO_map, renOO_mkOb, rn_base, rn_add, ren_mkSl, Enc.flat_ren, set_same, set_ne, sets_cons, sets_nil, Keep.set, Keep.setK, Keep.refl, rm_m_int_bool, rm_m_message_Rule, rm_m_pair_bool, rm_m_pair_int, zS, rn_low n0, rn_low n1, rn_low n4, rn_low n5, rn_low n6, sendB, calOb, ownS, ownO, Fa.planOb, Enc.flat_ren, dropU, n56, n46, n65, n64, n06, n05, n04, n60, x00, y00, x04, y04, x05, y05, x06, y06, x10, y10, x14, y14, x15, y15, x16, y16, x20, y20, x24, y24, x25, y25, x26, y26, x30, y30, x34, y34, x35, y35, x36, y36, x40, y40, x44, y44, x45, y45, x46, y46, n45, n54, n40, n50, Fa.planUs])
      | 1, hk =>
        by_cases c6 : 1 < f.Copies
        · have c6' : 1 < f.Copies.toNat := by omega
          refine CW.vc env10_r [0, 1, 2, 3, 8, 9, 10, 11, 12, 13, 14, 15, 19, 30, 35, 42, 61, 69, 70, 71, 76] (by kernel_rfl) ?_
          (repeat ((try refine Vc.mk' ?_); simp only [go_sem, reduceIte, reduceCtorEq, Nat.reduceAdd, Nat.reduceMul, Nat.reduceSub, Nat.reduceLT, Nat.reduceLeDiff, Nat.reduceEqDiff, Int.reduceEq, Int.reduceLT, Int.reduceLE, Int.reduceNe, hh, netOb, hL, G10_none, conNoneN, his, his', hs', G10_pair, conPair, G10_up, conUp, G10_len, conLen_r, G10_ask, Fa.conAsk, w1, w2, w3, hpl, hpr, set_lt n0, set_lt n1, slenS, zS, C0a, C0b, C0c, C0d, C1a, C1b, C1c, C1d, hl1, dropU, ownS, ownO, hT, wl, L1, L2, Keep.setK, List.mem_cons, G10_put, conPut_r, putRes_r, calOb, n56, n46, n65, n64, n06, n05, n04, n60, x00, y00, x04, y04, x05, y05, x06, y06, x10, y10, x14, y14, x15, y15, x16, y16, x20, y20, x24, y24, x25, y25, x26, y26, x30, y30, x34, y34, x35, y35, x36, y36, x40, y40, x44, y44, x45, y45, x46, y46, n45, n54, n40, n50, w6, stSend, sendB, c6, List.nil_append, List.append_nil, i01]))
          refine .mk 2 (by omega) (by omega) ((by refine SubR.mk' [top, top + 1, top + 2, top + 4] hcl (by simp) (by simp) rfl (frSub_ok ?_) ?_ ?_ <;> simp [frSub, lkG, ren, renL, renL_set, renL_ints, UpdOk.nil, UpdOk.cons, renOO_some, renO_cells, renO_map, renOO_mkOb, rn_base, rn_add, ren_mkSl, Enc.flat_ren, set_same, set_ne, sets_cons, sets_nil, Keep.set, Keep.setK, Keep.refl, rm_m_int_bool, rm_m_message_Rule, rm_m_pair_bool, rm_m_pair_int, zS, rn_low n0, rn_low n1, rn_low n4, rn_low n5, rn_low n6, sendB, calOb, ownS, ownO, Fa.planOb, Enc.flat_ren, dropU, n56, n46, n65, n64, n06, n05, n04, n60, x00, y00, x04, y04, x05, y05, x06, y06, x10, y10, x14, y14, x15, y15, x16, y16, x20, y20, x24, y24, x25, y25, x26, y26, x30, y30, x34, y34, x35, y35, x36, y36, x40, y40, x44, y44, x45, y45, x46, y46, n45, n54, n40, n50, w12, a11, List.nil_append]))
        · have c7 : f.Copies = 1 := by omega
          refine CW.vc env10_r [0, 1, 2, 3, 8, 9, 10, 11, 12, 13, 14, 15, 19, 30, 35, 42, 61, 69, 70, 71, 76] (by kernel_rfl) ?_
          (repeat ((try refine Vc.mk' ?_); simp only [go_sem, reduceIte, reduceCtorEq, Nat.reduceAdd, Nat.reduceMul, Nat.reduceSub, Nat.reduceLT, Nat.reduceLeDiff, Nat.reduceEqDiff, Int.reduceEq, Int.reduceLT, Int.reduceLE, Int.reduceNe, hh, netOb, hL, G10_none, conNoneN, his, his', hs', G10_pair, conPair, G10_up, conUp, G10_len, conLen_r, G10_ask, Fa.conAsk, w1, w2, w3, hpl, hpr, set_lt n0, set_lt n1, slenS, zS, C0a, C0b, C0c, C0d, C1a, C1b, C1c, C1d, hl1, dropU, ownS, ownO, hT, wl, L1, L2, Keep.setK, List.mem_cons, G10_put, conPut_r, putRes_r, calOb, n56, n46, n65, n64, n06, n05, n04, n60, x00, y00, x04, y04, x05, y05, x06, y06, x10, y10, x14, y14, x15, y15, x16, y16, x20, y20, x24, y24, x25, y25, x26, y26, x30, y30, x34, y34, x35, y35, x36, y36, x40, y40, x44, y44, x45, y45, x46, y46, n45, n54, n40, n50, w6, stSend, sendB, c6, List.nil_append, i01]))
          simp only [hcp, c7, putsU, show (1 : Int).toNat = 1 from rfl, o1]
          (refine ⟨[top + 3], by simp, by simp, by simp, ?_, ?_, ?_⟩ <;> simp [frSub, lkG, ren, renL, renL_set, renL_ints, UpdOk.nil, UpdOk.cons, renOO_some, renO_cells, renO_map, renOO_mkOb, rn_base, rn_add, ren_mkSl, Enc.flat_ren, set_same, set_ne, sets_cons, sets_nil, Keep.set, Keep.setK, Keep.refl, rm_m_int_bool, rm_m_message_Rule, rm_m_pair_bool, rm_m_pair_int, zS, rn_low n0, rn_low n1, rn_low n4, rn_low n5, rn_low n6, sendB, calOb, ownS, ownO, Fa.planOb, Enc.flat_ren, dropU, n56, n46, n65, n64, n06, n05, n04, n60, x00, y00, x04, y04, x05, y05, x06, y06, x10, y10, x14, y14, x15, y15, x16, y16, x20, y20, x24, y24, x25, y25, x26, y26, x30, y30, x34, y34, x35, y35, x36, y36, x40, y40, x44, y44, x45, y45, x46, y46, n45, n54, n40, n50, Fa.planUs, List.nil_append, i01])
      | k + 2, hk =>
        have hk0 : k = 0 := by omega
        subst hk0
        have c7 : f.Copies = 2 := by omega
        refine CW.vc env10_r [0, 1, 2, 3, 8, 9, 10, 11, 12, 13, 14, 15, 19, 30, 35, 42, 61, 69, 70, 71, 76] (by kernel_rfl) ?_
        (repeat ((try refine Vc.mk' ?_); simp only [go_sem, reduceIte, reduceCtorEq, Nat.reduceAdd, Nat.reduceMul, Nat.reduceSub, Nat.reduceLT, Nat.reduceLeDiff, Nat.reduceEqDiff, Int.reduceEq, Int.reduceLT, Int.reduceLE, Int.reduceNe, hh, netOb, hL, G10_none, conNoneN, his, his', hs', G10_pair, conPair, G10_up, conUp, G10_len, conLen_r, G10_ask, Fa.conAsk, w1, w2, w3, hpl, hpr, set_lt n0, set_lt n1, slenS, zS, C0a, C0b, C0c, C0d, C1a, C1b, C1c, C1d, hl1, dropU, ownS, ownO, hT, wl, L1, L2, Keep.setK, List.mem_cons, G10_put, conPut_r, putRes_r, calOb, n56, n46, n65, n64, n06, n05, n04, n60, x00, y00, x04, y04, x05, y05, x06, y06, x10, y10, x14, y14, x15, y15, x16, y16, x20, y20, x24, y24, x25, y25, x26, y26, x30, y30, x34, y34, x35, y35, x36, y36, x40, y40, x44, y44, x45, y45, x46, y46, n45, n54, n40, n50, w6, stSend, sendB, c7, List.nil_append, i02]))
        simp only [hcp, c7, putsU, show (2 : Int).toNat = 2 from rfl, o2]
        (refine ⟨[top + 3], by simp, by simp, by simp, ?_, ?_, ?_⟩ <;> simp [frSub, lkG, ren, renL, renL_set, renL_ints, UpdOk.nil, UpdOk.cons, renOO_some, renO_cells, renO_map, renOO_mkOb, rn_base, rn_add, ren_mkSl, Enc.flat_ren, set_same, set_ne, sets_cons, sets_nil, Keep.set, Keep.setK, Keep.refl, rm_m_int_bool, rm_m_message_Rule, rm_m_pair_bool, rm_m_pair_int, zS, rn_low n0, rn_low n1, rn_low n4, rn_low n5, rn_low n6, sendB, calOb, ownS, ownO, Fa.planOb, Enc.flat_ren, dropU, n56, n46, n65, n64, n06, n05, n04, n60, x00, y00, x04, y04, x05, y05, x06, y06, x10, y10, x14, y14, x15, y15, x16, y16, x20, y20, x24, y24, x25, y25, x26, y26, x30, y30, x34, y34, x35, y35, x36, y36, x40, y40, x44, y44, x45, y45, x46, y46, n45, n54, n40, n50, Fa.planUs, List.nil_append, i02])
  · have hqt : q < top := lvs
    have qn : ¬ q = n := fun e => by rw [e, hh] at hq; exact absurd (cellZ hq) (by decide)
    have pn : ¬ n = q := fun e => qn e.symm
    have q4 : ¬ q = n + 4 := fun e => by exact lb e.symm
    have p4 : ¬ n + 4 = q := fun e => q4 e.symm
    have q5 : ¬ q = n + 5 := fun e => by exact la e.symm
    have p5 : ¬ n + 5 = q := fun e => q5 e.symm
    have q6 : ¬ q = n + 6 := fun e => by rw [e, w6] at hq; exact absurd (cellZ hq) (by decide)
    have p6 : ¬ n + 6 = q := fun e => q6 e.symm
    have u0 : ¬ top = q := by omega
    have v0 : ¬ q = top := by omega
    have u1 : ¬ top + 1 = q := by omega
    have v1 : ¬ q = top + 1 := by omega
    have u2 : ¬ top + 2 = q := by omega
    have v2 : ¬ q = top + 2 := by omega
    have u3 : ¬ top + 3 = q := by omega
    have v3 : ¬ q = top + 3 := by omega
    have u4 : ¬ top + 4 = q := by omega
    have v4 : ¬ q = top + 4 := by omega
    refine CW.vc env10_r [0, 1, 2, 3, 8, 9, 10, 11, 12, 13, 14, 15, 19, 30, 35, 42, 61, 69, 70, 71, 76] (by kernel_rfl) ?_
    (repeat ((try refine Vc.mk' ?_); simp only [go_sem, reduceIte, reduceCtorEq, Nat.reduceAdd, Nat.reduceMul, Nat.reduceSub, Nat.reduceLT, Nat.reduceLeDiff, Nat.reduceEqDiff, Int.reduceEq, Int.reduceLT, Int.reduceLE, Int.reduceNe, hh, netOb, hL, G10_none, conNoneN, his, his', hs', G10_pair, conPair, G10_up, conUp, G10_len, conLen_r, G10_ask, Fa.conAsk, w1, w2, w3, hpl, hpr, set_lt n0, set_lt n1, slenS, c1', c2', c3, c4', Fa.resAsk, hask, Fa.planUs]))
    refine CW.loopR (stSend hp top n (.slice (some ⟨q, 0, none⟩) s.l.length s.l.length) s a b m P' f) (fun k => k ≤ f.Copies.toNat) (fun k => f.Copies.toNat - k) 0 (Nat.zero_le _) ?_ ?_
    · exact (by refine SubR.mk' [top, top + 1, top + 2] hcl (by simp) (by simp) rfl (frSub_ok ?_) ?_ ?_ <;> simp [frSub, lkG, ren, renL, renL_set, renL_ints, UpdOk.nil, UpdOk.cons, renOO_some, renO_cells, renO_map, renOO_mkOb, rn_base, rn_add, ren_mkSl, Enc.flat_ren, set_same, set_ne, sets_cons, sets_nil, Keep.set, Keep.setK, Keep.refl, rm_m_int_bool, rm_m_message_Rule, rm_m_pair_bool, rm_m_pair_int, zS, rn_low n0, rn_low n1, rn_low n4, rn_low n5, rn_low n6, sendB, calOb, ownS, ownO, Fa.planOb, Enc.flat_ren, dropU, n56, n46, n65, n64, n06, n05, n04, n60, x00, y00, x04, y04, x05, y05, x06, y06, x10, y10, x14, y14, x15, y15, x16, y16, x20, y20, x24, y24, x25, y25, x26, y26, x30, y30, x34, y34, x35, y35, x36, y36, x40, y40, x44, y44, x45, y45, x46, y46, n45, n54, n40, n50, List.nil_append, List.cons_append, List.append_nil, hq, rn_low hqt, set_lt hqt, qn, pn, q4, p4, q5, p5, q6, p6, u0, v0, u1, v1, u2, v2, u3, v3, u4, v4])
    · intro k hk
      match k, hk with
      | 0, hk =>
        by_cases c6 : 0 < f.Copies
        · have c6' : 0 < f.Copies.toNat := by omega
          refine CW.vc env10_r [0, 1, 2, 3, 8, 9, 10, 11, 12, 13, 14, 15, 19, 30, 35, 42, 61, 69, 70, 71, 76] (by kernel_rfl) ?_
          (repeat ((try refine Vc.mk' ?_); simp only [go_sem, reduceIte, reduceCtorEq, Nat.reduceAdd, Nat.reduceMul, Nat.reduceSub, Nat.reduceLT, Nat.reduceLeDiff, Nat.reduceEqDiff, Int.reduceEq, Int.reduceLT, Int.reduceLE, Int.reduceNe, hh, netOb, hL, G10_none, conNoneN, his, his', hs', G10_pair, conPair, G10_up, conUp, G10_len, conLen_r, G10_ask, Fa.conAsk, w1, w2, w3, hpl, hpr, set_lt n0, set_lt n1, slenS, zS, C0a, C0b, C0c, C0d, C1a, C1b, C1c, C1d, hl1, dropU, ownS, ownO, hT, wl, L1, L2, Keep.setK, List.mem_cons, G10_put, conPut_r, putRes_r, calOb, n56, n46, n65, n64, n06, n05, n04, n60, x00, y00, x04, y04, x05, y05, x06, y06, x10, y10, x14, y14, x15, y15, x16, y16, x20, y20, x24, y24, x25, y25, x26, y26, x30, y30, x34, y34, x35, y35, x36, y36, x40, y40, x44, y44, x45, y45, x46, y46, n45, n54, n40, n50, w6, stSend, sendB, c6, List.nil_append, List.cons_append, List.append_nil, hq, rn_low hqt, set_lt hqt, qn, pn, q4, p4, q5, p5, q6, p6, u0, v0, u1, v1, u2, v2, u3, v3, u4, v4]))
          refine .mk 1 (by omega) (by omega) ((by refine SubR.mk' [top, top + 1, top + 2, top + 3] hcl (by simp) (by simp) rfl (frSub_ok ?_) ?_ ?_ <;> simp [frSub, lkG, ren, renL, renL_set, renL_ints, UpdOk.nil, UpdOk.cons, renOO_some, renO_cells, renO_map, renOO_mkOb, rn_base, rn_add, ren_mkSl, Enc.flat_ren, set_same, set_ne, sets_cons, sets_nil, Keep.set, Keep.setK, Keep.refl, rm_m_int_bool, rm_m_message_Rule, rm_m_pair_bool, rm_m_pair_int, zS, rn_low n0, rn_low n1, rn_low n4, rn_low n5, rn_low n6, sendB, calOb, ownS, ownO, Fa.planOb, Enc.flat_ren, dropU, n56, n46, n65, n64, n06, n05, n04, n60, x00, y00, x04, y04, x05, y05, x06, y06, x10, y10, x14, y14, x15, y15, x16, y16, x20, y20, x24, y24, x25, y25, x26, y26, x30, y30, x34, y34, x35, y35, x36, y36, x40, y40, x44, y44, x45, y45, x46, y46, n45, n54, n40, n50, w11, List.nil_append, List.cons_append, List.append_nil, hq, rn_low hqt, set_lt hqt, qn, pn, q4, p4, q5, p5, q6, p6, u0, v0, u1, v1, u2, v2, u3, v3, u4, v4]))
        · have c7 : f.Copies = 0 := by omega
          refine CW.vc env10_r [0, 1, 2, 3, 8, 9, 10, 11, 12, 13, 14, 15, 19, 30, 35, 42, 61, 69, 70, 71, 76] (by kernel_rfl) ?_
          (repeat ((try refine Vc.mk' ?_); simp only [go_sem, reduceIte, reduceCtorEq, Nat.reduceAdd, Nat.reduceMul, Nat.reduceSub, Nat.reduceLT, Nat.reduceLeDiff, Nat.reduceEqDiff, Int.reduceEq, Int.reduceLT, Int.reduceLE, Int.reduceNe, hh, netOb, hL, G10_none, conNoneN, his, his', hs', G10_pair, conPair, G10_up, conUp, G10_len, conLen_r, G10_ask, Fa.conAsk, w1, w2, w3, hpl, hpr, set_lt n0, set_lt n1, slenS, zS, C0a, C0b, C0c, C0d, C1a, C1b, C1c, C1d, hl1, dropU, ownS, ownO, hT, wl, L1, L2, Keep.setK, List.mem_cons, G10_put, conPut_r, putRes_r, calOb, n56, n46, n65, n64, n06, n05, n04, n60, x00, y00, x04, y04, x05, y05, x06, y06, x10, y10, x14, y14, x15, y15, x16, y16, x20, y20, x24, y24, x25, y25, x26, y26, x30, y30, x34, y34, x35, y35, x36, y36, x40, y40, x44, y44, x45, y45, x46, y46, n45, n54, n40, n50, w6, stSend, sendB, c6, List.nil_append, List.cons_append, List.append_nil, hq, rn_low hqt, set_lt hqt, qn, pn, q4, p4, q5, p5, q6, p6, u0, v0, u1, v1, u2, v2, u3, v3, u4, v4]))
          simp only [hcp, c7, Int.toNat_zero, if_true, putsU]
          (refine ⟨[], by simp, by simp, by simp, ?_, ?_, ?_⟩ <;> simp [frSub, lkG, ren, renL, renL_set, renL_ints, UpdOk.nil, UpdOk.cons, renOO_some, renO_cells, renO_map, renOO_mkOb, rn_base, rn_add, ren_mkSl, Enc.flat_ren, set_same, set_ne, sets_cons, sets_nil, Keep.set, Keep.setK, Keep.refl, rm_m_int_bool, rm_m_message_Rule, rm_m_pair_bool, rm_m_pair_int, zS, rn_low n0, rn_low n1, rn_low n4, rn_low n5, rn_low n6, sendB, calOb, ownS, ownO, Fa.planOb, Enc.flat_ren, dropU, n56, n46, n65, n64, n06, n05, n04, n60, x00, y00, x04, y04, x05, y05, x06, y06, x10, y10, x14, y14, x15, y15, x16, y16, x20, y20, x24, y24, x25, y25, x26, y26, x30, y30, x34, y34, x35, y35, x36, y36, x40, y40, x44, y44, x45, y45, x46, y46, n45, n54, n40, n50, Fa.planUs])
      | 1, hk =>
        by_cases c6 : 1 < f.Copies
        · have c6' : 1 < f.Copies.toNat := by omega
          refine CW.vc env10_r [0, 1, 2, 3, 8, 9, 10, 11, 12, 13, 14, 15, 19, 30, 35, 42, 61, 69, 70, 71, 76] (by kernel_rfl) ?_
          (repeat ((try refine Vc.mk' ?_); simp only [go_sem, reduceIte, reduceCtorEq, Nat.reduceAdd, Nat.reduceMul, Nat.reduceSub, Nat.reduceLT, Nat.reduceLeDiff, Nat.reduceEqDiff, Int.reduceEq, Int.reduceLT, Int.reduceLE, Int.reduceNe, hh, netOb, hL, G10_none, conNoneN, his, his', hs', G10_pair, conPair, G10_up, conUp, G10_len, conLen_r, G10_ask, Fa.conAsk, w1, w2, w3, hpl, hpr, set_lt n0, set_lt n1, slenS, zS, C0a, C0b, C0c, C0d, C1a, C1b, C1c, C1d, hl1, dropU, ownS, ownO, hT, wl, L1, L2, Keep.setK, List.mem_cons, G10_put, conPut_r, putRes_r, calOb, n56, n46, n65, n64, n06, n05, n04, n60, x00, y00, x04, y04, x05, y05, x06, y06, x10, y10, x14, y14, x15, y15, x16, y16, x20, y20, x24, y24, x25, y25, x26, y26, x30, y30, x34, y34, x35, y35, x36, y36, x40, y40, x44, y44, x45, y45, x46, y46, n45, n54, n40, n50, w6, stSend, sendB, c6, List.nil_append, List.cons_append, List.append_nil, hq, rn_low hqt, set_lt hqt, qn, pn, q4, p4, q5, p5, q6, p6, u0, v0, u1, v1, u2, v2, u3, v3, u4, v4, List.append_nil, i01]))
          refine .mk 2 (by omega) (by omega) ((by refine SubR.mk' [top, top + 1, top + 2, top + 4] hcl (by simp) (by simp) rfl (frSub_ok ?_) ?_ ?_ <;> simp [frSub, lkG, ren, renL, renL_set, renL_ints, UpdOk.nil, UpdOk.cons, renOO_some, renO_cells, renO_map, renOO_mkOb, rn_base, rn_add, ren_mkSl, Enc.flat_ren, set_same, set_ne, sets_cons, sets_nil, Keep.set, Keep.setK, Keep.refl, rm_m_int_bool, rm_m_message_Rule, rm_m_pair_bool, rm_m_pair_int, zS, rn_low n0, rn_low n1, rn_low n4, rn_low n5, rn_low n6, sendB, calOb, ownS, ownO, Fa.planOb, Enc.flat_ren, dropU, n56, n46, n65, n64, n06, n05, n04, n60, x00, y00, x04, y04, x05, y05, x06, y06, x10, y10, x14, y14, x15, y15, x16, y16, x20, y20, x24, y24, x25, y25, x26, y26, x30, y30, x34, y34, x35, y35, x36, y36, x40, y40, x44, y44, x45, y45, x46, y46, n45, n54, n40, n50, w12, a11, List.nil_append, List.cons_append, List.append_nil, hq, rn_low hqt, set_lt hqt, qn, pn, q4, p4, q5, p5, q6, p6, u0, v0, u1, v1, u2, v2, u3, v3, u4, v4]))
        · have c7 : f.Copies = 1 := by omega
          refine CW.vc env10_r [0, 1, 2, 3, 8, 9, 10, 11, 12, 13, 14, 15, 19, 30, 35, 42, 61, 69, 70, 71, 76] (by kernel_rfl) ?_
          (repeat ((try refine Vc.mk' ?_); simp only [go_sem, reduceIte, reduceCtorEq, Nat.reduceAdd, Nat.reduceMul, Nat.reduceSub, Nat.reduceLT, Nat.reduceLeDiff, Nat.reduceEqDiff, Int.reduceEq, Int.reduceLT, Int.reduceLE, Int.reduceNe, hh, netOb, hL, G10_none, conNoneN, his, his', hs', G10_pair, conPair, G10_up, conUp, G10_len, conLen_r, G10_ask, Fa.conAsk, w1, w2, w3, hpl, hpr, set_lt n0, set_lt n1, slenS, zS, C0a, C0b, C0c, C0d, C1a, C1b, C1c, C1d, hl1, dropU, ownS, ownO, hT, wl, L1, L2, Keep.setK, List.mem_cons, G10_put, conPut_r, putRes_r, calOb, n56, n46, n65, n64, n06, n05, n04, n60, x00, y00, x04, y04, x05, y05, x06, y06, x10, y10, x14, y14, x15, y15, x16, y16, x20, y20, x24, y24, x25, y25, x26, y26, x30, y30, x34, y34, x35, y35, x36, y36, x40, y40, x44, y44, x45, y45, x46, y46, n45, n54, n40, n50, w6, stSend, sendB, c6, List.nil_append, List.cons_append, List.append_nil, hq, rn_low hqt, set_lt hqt, qn, pn, q4, p4, q5, p5, q6, p6, u0, v0, u1, v1, u2, v2, u3, v3, u4, v4, i01]))
          simp only [hcp, c7, putsU, show (1 : Int).toNat = 1 from rfl, o1]
          (refine ⟨[top + 3], by simp, by simp, by simp, ?_, ?_, ?_⟩ <;> simp [frSub, lkG, ren, renL, renL_set, renL_ints, UpdOk.nil, UpdOk.cons, renOO_some, renO_cells, renO_map, renOO_mkOb, rn_base, rn_add, ren_mkSl, Enc.flat_ren, set_same, set_ne, sets_cons, sets_nil, Keep.set, Keep.setK, Keep.refl, rm_m_int_bool, rm_m_message_Rule, rm_m_pair_bool, rm_m_pair_int, zS, rn_low n0, rn_low n1, rn_low n4, rn_low n5, rn_low n6, sendB, calOb, ownS, ownO, Fa.planOb, Enc.flat_ren, dropU, n56, n46, n65, n64, n06, n05, n04, n60, x00, y00, x04, y04, x05, y05, x06, y06, x10, y10, x14, y14, x15, y15, x16, y16, x20, y20, x24, y24, x25, y25, x26, y26, x30, y30, x34, y34, x35, y35, x36, y36, x40, y40, x44, y44, x45, y45, x46, y46, n45, n54, n40, n50, Fa.planUs, List.nil_append, List.cons_append, List.append_nil, hq, rn_low hqt, set_lt hqt, qn, pn, q4, p4, q5, p5, q6, p6, u0, v0, u1, v1, u2, v2, u3, v3, u4, v4, i01])
      | k + 2, hk =>
        have hk0 : k = 0 := by omega
        subst hk0
        have c7 : f.Copies = 2 := by omega
        refine CW.vc env10_r [0, 1, 2, 3, 8, 9, 10, 11, 12, 13, 14, 15, 19, 30, 35, 42, 61, 69, 70, 71, 76] (by kernel_rfl) ?_
        (repeat ((try refine Vc.mk' ?_); simp only [go_sem, reduceIte, reduceCtorEq, Nat.reduceAdd, Nat.reduceMul, Nat.reduceSub, Nat.reduceLT, Nat.reduceLeDiff, Nat.reduceEqDiff, Int.reduceEq, Int.reduceLT, Int.reduceLE, Int.reduceNe, hh, netOb, hL, G10_none, conNoneN, his, his', hs', G10_pair, conPair, G10_up, conUp, G10_len, conLen_r, G10_ask, Fa.conAsk, w1, w2, w3, hpl, hpr, set_lt n0, set_lt n1, slenS, zS, C0a, C0b, C0c, C0d, C1a, C1b, C1c, C1d, hl1, dropU, ownS, ownO, hT, wl, L1, L2, Keep.setK, List.mem_cons, G10_put, conPut_r, putRes_r, calOb, n56, n46, n65, n64, n06, n05, n04, n60, x00, y00, x04, y04, x05, y05, x06, y06, x10, y10, x14, y14, x15, y15, x16, y16, x20, y20, x24, y24, x25, y25, x26, y26, x30, y30, x34, y34, x35, y35, x36, y36, x40, y40, x44, y44, x45, y45, x46, y46, n45, n54, n40, n50, w6, stSend, sendB, c7, List.nil_append, List.cons_append, List.append_nil, hq, rn_low hqt, set_lt hqt, qn, pn, q4, p4, q5, p5, q6, p6, u0, v0, u1, v1, u2, v2, u3, v3, u4, v4, i02]))
        simp only [hcp, c7, putsU, show (2 : Int).toNat = 2 from rfl, o2]
        (refine ⟨[top + 3], by simp, by simp, by simp, ?_, ?_, ?_⟩ <;> simp [frSub, lkG, ren, renL, renL_set, renL_ints, UpdOk.nil, UpdOk.cons, renOO_some, renO_cells, renO_map, renOO_mkOb, rn_base, rn_add, ren_mkSl, Enc.flat_ren, set_same, set_ne, sets_cons, sets_nil, Keep.set, Keep.setK, Keep.refl, rm_m_int_bool, rm_m_message_Rule, rm_m_pair_bool, rm_m_pair_int, zS, rn_low n0, rn_low n1, rn_low n4, rn_low n5, rn_low n6, sendB, calOb, ownS, ownO, Fa.planOb, Enc.flat_ren, dropU, n56, n46, n65, n64, n06, n05, n04, n60, x00, y00, x04, y04, x05, y05, x06, y06, x10, y10, x14, y14, x15, y15, x16, y16, x20, y20, x24, y24, x25, y25, x26, y26, x30, y30, x34, y34, x35, y35, x36, y36, x40, y40, x44, y44, x45, y45, x46, y46, n45, n54, n40, n50, Fa.planUs, List.nil_append, List.cons_append, List.append_nil, hq, rn_low hqt, set_lt hqt, qn, pn, q4, p4, q5, p5, q6, p6, u0, v0, u1, v1, u2, v2, u3, v3, u4, v4, i02])
end Go.Proofs.Ytmppehipfpkepaa.Dm
