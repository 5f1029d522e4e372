/- The net: Tick. -/
import Derived.Test.YtmppehipfpkepaaN1
set_option linter.unusedSimpArgs false
set_option linter.unusedVariables false
namespace Go.Proofs.Ytmppehipfpkepaa.Dm
open Go.Dm
set_option maxHeartbeats 8000000
set_option maxRecDepth 20000
noncomputable def G9_r : FuncId → Con := addG (addG (addG G8_r 11 conNow) 19 conFly) 14 conUpX
theorem env9_r : EnvV Try.prog tt.get G9_r := ((env8_r.add now_ok).add fly_ok).add upX_ok
theorem G9_none : G9_r 29 = conNoneN := rfl
theorem G9_take : G9_r 35 = conTake_r := rfl
def tickK (s : NetS) : Nat := kF_r s.l (s.now + 1)
def calOb (last : Int) (lv : Value) : Option AObj := some (.cells true 0 [.bool true, .int .i64 last, lv])
def tickU (n : Nat) (lv : Value) (s : NetS) (top : Nat) : Upds := if s.now < 1099511627776 then
  (n, netOb n { s with now := s.now + 1 }) :: (n + 6, calOb s.last (cutV lv s.l 0 (tickK s))) :: (top, mkOb e_Arrive (outs_r s.l (tickK s))) :: cutU e_t124 lv s.l 0 (tickK s) else []
def tickV (s : NetS) (top : Nat) : Value := if s.now < 1099511627776 then mkSl top (outs_r s.l (tickK s)) else .slice none 0 0
def tickRes (n : Nat) (lv : Value) (s : NetS) (top : Nat) : Value × Upds × Nat := (tickV s top, tickU n lv s top, if s.now < 1099511627776 then top + 1 else top)
noncomputable def conTick : Con := .det (fun args hp _ => match args with | [.pointer (some ⟨n, 0, none⟩)] => IsNet hp n | _ => False) (fun args hp top => match args with
  | [.pointer (some ⟨n, _, _⟩)] => tickRes n (netV hp n) (netS hp n) top | _ => (undef, [], top))
/-- another cell than the list's -/
theorem CalAt_r.off {hp : Hp} {cb : Nat} {last : Int} {lv : Value} {l : List T_t124} (C : CalAt_r hp cb last lv l) {j : Nat} (h : ∀ vs, hp j ≠ some (.cells true 5 vs)) : Apart j lv := by
  cases C.o with
  | nil => trivial
  | blk b l hb hn =>
    intro e
    subst e
    exact h _ hb
theorem cellZ {a b : Bool} {z y : Nat} {vs ws : List Value} (h : some (AObj.cells a z vs) = some (AObj.cells b y ws)) : z = y := by
  simp only [Option.some.injEq, AObj.cells.injEq] at h; exact h.2.1
theorem OwnV.at_ {α : Type} {E : Enc α} {hp : Hp} {l : List α} {v : Value} {b n c : Nat} (h : OwnV E hp v l) (e : v = .slice (some ⟨b, 0, none⟩) n c) : hp b = some (.cells true E.size (E.flat l)) := by
  cases h with
  | nil => cases e
  | blk b' l h hn => cases e; exact h
theorem tick_ok : ConOk Try.prog 12 conTick := by
  refine .mkDet fn12_ok ?_
  intro args hp top hpre hcl hsc
  match args, hpre with
  | [.pointer (some ⟨n, 0, none⟩)], ⟨lv, s, h⟩ =>
  simp only [h.s, h.v]
  have hlow := h.low hcl
  have n0 : n < top := by omega
  have n6 : n + 6 < top := by omega
  have n1 : n + 1 < top := by omega
  have n2 : n + 2 < top := by omega
  have n3 : n + 3 < top := by omega
  have n4 : n + 4 < top := by omega
  have m0 : ¬ top = n := by omega
  have m6 : ¬ top = n + 6 := by omega
  have m0' : ¬ n = top := by omega
  have m6' : ¬ n + 6 = top := by omega
  have hn06 : ¬ n = n + 6 := by omega
  have hh := h.h
  have his := h.is
  have w1 := h.W.calL
  have w2 := h.W.rd
  have a0 := h.nw0
  have a1 := h.nw1
  have lvs := h.W.low hcl
  refine CalledOk.of_fun tt_ok fn12_ok rfl 28 rfl [.tmp 2] rfl (show 1 ≤ 28 by decide) ?_
  by_cases c : s.now < 1099511627776
  case neg =>
    refine CW.vc env9_r [0, 2, 11] (by kernel_rfl) ?_
    (repeat ((try refine Vc.mk' ?_); simp only [go_sem, reduceIte, reduceCtorEq, Nat.reduceAdd, Nat.reduceMul, Nat.reduceSub, Nat.reduceLT, Nat.reduceLeDiff, Nat.reduceEqDiff, Int.reduceEq, Int.reduceLT, Int.reduceLE, Int.reduceNe, hh, netOb, G9_none, conNoneN, his, G9_take, conTake_r, calOb, TakePre_r, set_lt n0, set_lt n6, c]))
    simp only [tickRes, tickV, tickU, if_neg c]
    (refine ⟨[], by simp, by simp, by simp, ?_, ?_, ?_⟩ <;> simp [frSub, lkG, ren, renL, renL_set, renL_ints, UpdOk.nil, UpdOk.cons, renOO_some, renO_cells, renO_map, renOO_mkOb, rn_base, rn_add, ren_mkSl, Enc.flat_ren, set_same, set_ne, sets_cons, sets_nil, Keep.set, Keep.setK, Keep.refl, rm_m_int_bool, rm_m_message_Rule, rm_m_pair_bool, rm_m_pair_int])
  have hw : wrapA .u64 (s.now + 1) = s.now + 1 := wrapU (by omega) (by omega)
  have hn0 : ¬ n + 6 = n := by omega
  have hw6 : ∀ {o : Option AObj}, (hp.set n o) (n + 6) = some (.cells true 0 [.bool true, .int .i64 s.last, lv]) := fun {o} => by rw [set_ne _ _ _ _ hn0]; exact h.W.h
  have hca : ∀ {o : Option AObj}, CalAt_r (hp.set n o) (n + 6) s.last lv s.l := fun {o} =>
    ⟨hw6, h.W.o.mono fun b k c e => by subst e; exact set_ne _ _ _ _ (fun e => by have := h.W.off (j := n) (by rw [hh]; simp [netOb]); exact this e.symm), h.W.up, h.W.tk, h.W.l0, h.W.l1, h.W.n⟩
  have e1 : ∀ {o : Option AObj}, calLast (hp.set n o) (n + 6) = s.last := fun {o} => by unfold calLast; rw [hw6]; rfl
  have e2 : ∀ {o : Option AObj}, calL (hp.set n o) (n + 6) = lv := fun {o} => hca.calL
  have e3 : ∀ {o : Option AObj}, e_t124.rd (hp.set n o) lv = s.l := fun {o} => (hca (o := o)).rd
  have e4 : ∀ {o : Option AObj}, (∃ last v l, CalAt_r (hp.set n o) (n + 6) last v l) = True := fun {o} => eq_true ⟨_, _, _, hca⟩
  have hk : tickK s = kF_r s.l (s.now + 1) := rfl
  have hR : ren (rn top [top] (top + 1)) (mkSl (n + 7) s.R) = mkSl (n + 7) s.R := by
    cases hr : s.R with
    | nil => rfl
    | cons a l =>
      have := h.R (by rw [hr]; simp)
      rw [hr] at this
      have n7 : n + 7 < top := hcl.lt _ _ this
      exact Sc.ren (fun j hj => rn_low hj) (show Sc top (mkSl (n + 7) (a :: l)) from n7)
  rcases cut_cases_r h.W.o (kF_r_le s.l (s.now + 1)) with ⟨c1, c2⟩ | ⟨b, c0, c1, c2⟩
  · refine CW.vc env9_r [0, 2, 11] (by kernel_rfl) ?_
    (repeat ((try refine Vc.mk' ?_); simp only [go_sem, reduceIte, reduceCtorEq, Nat.reduceAdd, Nat.reduceMul, Nat.reduceSub, Nat.reduceLT, Nat.reduceLeDiff, Nat.reduceEqDiff, Int.reduceEq, Int.reduceLT, Int.reduceLE, Int.reduceNe, hh, netOb, G9_none, conNoneN, his, G9_take, conTake_r, calOb, TakePre_r, set_lt n0, set_lt n6, c, hw, e1, e2, e3, e4, hw6, takeRes_r, c1, c2, hn0]))
    simp only [tickRes, tickV, tickU, if_pos c, hk, c1, c2]
    (refine ⟨[top], by simp, by simp, by simp, ?_, ?_, ?_⟩ <;> simp [frSub, lkG, ren, renL, renL_set, renL_ints, UpdOk.nil, UpdOk.cons, renOO_some, renO_cells, renO_map, renOO_mkOb, rn_base, rn_add, ren_mkSl, Enc.flat_ren, set_same, set_ne, sets_cons, sets_nil, Keep.set, Keep.setK, Keep.refl, rm_m_int_bool, rm_m_message_Rule, rm_m_pair_bool, rm_m_pair_int, Sc.ren (fun j hj => rn_low hj) lvs, rn_low n0, rn_low n6, hR, hn0, netOb, calOb, rn_low n1, rn_low n2, rn_low n3, rn_low n4, m0, m6, m0', m6', hn06, set_lt n0, set_lt n6])
  · have lvb := lvs
    rw [c0] at lvb
    have hbt : b < top := lvb
    have hb := OwnV.at_ h.W.o c0
    have hbn : ¬ b = n := fun e => by rw [e, hh] at hb; exact absurd (cellZ hb) (by decide)
    have hb6 : ¬ b = n + 6 := fun e => by rw [e, h.W.h] at hb; exact absurd (cellZ hb) (by decide)
    have hbn' : ¬ n = b := fun e => hbn e.symm
    have hb6' : ¬ n + 6 = b := fun e => hb6 e.symm
    have hbtt : ¬ top = b := by omega
    refine CW.vc env9_r [0, 2, 11] (by kernel_rfl) ?_
    (repeat ((try refine Vc.mk' ?_); simp only [go_sem, reduceIte, reduceCtorEq, Nat.reduceAdd, Nat.reduceMul, Nat.reduceSub, Nat.reduceLT, Nat.reduceLeDiff, Nat.reduceEqDiff, Int.reduceEq, Int.reduceLT, Int.reduceLE, Int.reduceNe, hh, netOb, G9_none, conNoneN, his, G9_take, conTake_r, calOb, TakePre_r, set_lt n0, set_lt n6, c, hw, e1, e2, e3, e4, hw6, takeRes_r, c1, c2, hn0, hbn, hb6, hbn', hb6', hb, hbtt, set_lt hbt]))
    simp only [tickRes, tickV, tickU, if_pos c, hk, c1, c2]
    (refine ⟨[top], by simp, by simp, by simp, ?_, ?_, ?_⟩ <;> simp [frSub, lkG, ren, renL, renL_set, renL_ints, UpdOk.nil, UpdOk.cons, renOO_some, renO_cells, renO_map, renOO_mkOb, rn_base, rn_add, ren_mkSl, Enc.flat_ren, set_same, set_ne, sets_cons, sets_nil, Keep.set, Keep.setK, Keep.refl, rm_m_int_bool, rm_m_message_Rule, rm_m_pair_bool, rm_m_pair_int, Sc.ren (fun j hj => rn_low hj) lvs, rn_low n0, rn_low n6, rn_low hbt, Enc.flat_ren, rn_low n1, rn_low n2, rn_low n3, rn_low n4, m0, m6, m0', m6', hn06, set_lt n0, set_lt n6, netOb, calOb, ownO, ownS, hR, hn0, hbn, hb6, hbn', hb6', hbtt])
end Go.Proofs.Ytmppehipfpkepaa.Dm
