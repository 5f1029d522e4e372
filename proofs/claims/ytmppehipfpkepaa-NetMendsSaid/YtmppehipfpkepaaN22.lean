/- The net: what lost leaves is a net; Stop. -/
import Derived.Test.YtmppehipfpkepaaN19
set_option linter.unusedSimpArgs false
set_option linter.unusedVariables false
namespace Go.Proofs.Ytmppehipfpkepaa.Dm
open Go.Dm
set_option maxHeartbeats 16000000
set_option maxRecDepth 20000
def lostS (s : NetS) : NetS := { s with l := keptP (isDown s) s.l }
def lostU (n : Nat) (lv : Value) (s : NetS) (top : Nat) : Upds := (lostRes n lv s top).2.1
theorem NetAt.lost {hp : Hp} {n top : Nat} {lv : Value} {s : NetS} (h : NetAt hp n lv s) (h8 : n + 7 < top) (lvs : Sc top lv) : NetAt (hp.sets (lostU n lv s top)) n (dfV lv (keptP (isDown s) s.l)) (lostS s) := by
  have hA := h.apart
  obtain ⟨A0, A1, A2, A3, A4, A5, A6, A7⟩ := hA
  have hkl := keptP_len (p := isDown s) (l := s.l)
  have hn := h.W.n
  have hdu : ∀ p ∈ dfU e_t124 lv (keptP (isDown s) s.l), Apart p.1 lv → False := fun p hp hA => by
    rcases own_cases h.W.o with ⟨rfl, _⟩ | ⟨q, rfl, _⟩
    · cases hp
    · simp [dfU] at hp; subst hp; exact hA rfl
  have eU : lostU n lv s top = (n + 6, calOb s.last (dfV lv (keptP (isDown s) s.l))) :: (dfU e_t124 lv (keptP (isDown s) s.l) ++ [(top, mkOb e_Arrive (goneA (isDown s) s.l))]) := rfl
  have off : ∀ j, Apart j lv → j ≠ top → j ≠ n + 6 → (hp.sets (lostU n lv s top)) j = hp j := fun j h1 h2 h3 => by
    rw [eU]
    refine sets_off fun p hp => ?_
    simp only [List.mem_cons, List.mem_append, List.not_mem_nil, or_false] at hp
    rcases hp with rfl | hp | rfl
    · exact fun e => h3 e.symm
    · exact fun e => hdu p hp (by rw [e]; exact h1)
    · exact fun e => h2 e.symm
  have e6 : (hp.sets (lostU n lv s top)) (n + 6) = calOb s.last (dfV lv (keptP (isDown s) s.l)) := by
    rw [eU, sets_cons, sets_off, set_same]
    intro p hp
    simp only [List.mem_append, List.mem_cons, List.not_mem_nil, or_false] at hp
    rcases hp with hp | rfl
    · exact fun e => hdu p hp (by rw [e]; exact A6)
    · exact fun e => by simp only at e; omega
  refine ⟨(off _ A0 (by omega) (by omega)).trans h.h, (off _ A1 (by omega) (by omega)).trans h.L, (off _ A2 (by omega) (by omega)).trans h.C, (off _ A3 (by omega) (by omega)).trans h.S, (off _ A4 (by omega) (by omega)).trans h.P, (off _ A5 (by omega) (by omega)).trans h.M, h.pl, ⟨e6, ?_, List.Pairwise.filter _ h.W.up, fun a ha => h.W.tk a (List.mem_filter.1 ha).1, h.W.l0, h.W.l1, by show (keptP (isDown s) s.l).length ≤ 1000000; omega⟩, fun hr => (off _ (A7 hr) (by omega) (by omega)).trans (h.R hr), h.rn, h.lt0, h.lt1, h.nw0, h.nw1⟩
  show OwnV e_t124 _ (dfV lv (keptP (isDown s) s.l)) (keptP (isDown s) s.l)
  rcases own_cases h.W.o with ⟨rfl, hnil⟩ | ⟨q, rfl, hq⟩
  · rw [hnil]; exact .nil
  · have hqt : q < top := lvs
    have hq6 : q ≠ n + 6 := fun e => A6 e.symm
    refine .blk q _ ?_ (by omega)
    rw [eU]
    simp only [dfU, List.cons_append, List.nil_append, sets_cons, sets_nil]
    rw [set_ne _ _ _ _ (by omega), set_same]; rfl
end Go.Proofs.Ytmppehipfpkepaa.Dm
/- The net: Stop. -/
set_option linter.unusedSimpArgs false
set_option linter.unusedVariables false
namespace Go.Proofs.Ytmppehipfpkepaa.Dm
open Go.Dm
set_option maxHeartbeats 16000000
set_option maxRecDepth 20000
def stopE (s : NetS) (a : Int) : Int := if isR s a = false then 2 else if isStop s a = true then 7 else 0
def stopC (s : NetS) (a : Int) : NetS := { s with S := mput s.S a true s.sc, sc := mclk s.S a s.sc }
def stopRes (n : Nat) (lv : Value) (s : NetS) (a : Int) (top : Nat) : Value × Upds × Nat :=
  if stopE s a = 0 then (.tuple ⟨[mkSl top (goneA (isDown (stopC s a)) s.l), .int .i64 0]⟩, (n + 3, some (.map (me_m_int_bool (stopC s a).S) (stopC s a).sc)) :: (lostRes n lv (stopC s a) top).2.1, top + 1)
  else (.tuple ⟨[.slice none 0 0, .int .i64 (stopE s a)]⟩, [], top)
noncomputable def conStop : Con := .det (fun args hp _ => match args with | [.pointer (some ⟨n, 0, none⟩), a] => IsNet hp n ∧ IsI .i64 a | _ => False) (fun args hp top => match args with
  | [.pointer (some ⟨n, _, _⟩), a] => stopRes n (netV hp n) (netS hp n) (intOf a) top | _ => (undef, [], top))
theorem stop_ok : ConOk Try.prog 17 conStop := by
  refine .mkDet fn17_ok ?_
  intro args hp top hpre hcl hsc
  match args, hpre with
  | [.pointer (some ⟨n, 0, none⟩), a], ⟨⟨lv, s, h⟩, ha⟩ =>
  rw [ha]
  generalize intOf a = a
  simp only [h.s, h.v, intOf_int]
  have hlow := h.low hcl
  have n0 : n < top := by omega
  have n3 : n + 3 < top := by omega
  have hh := h.h
  have hS := h.S
  have his := h.is
  have rP : SlP e_int hp (mkSl (n + 7) s.R) = True := h.sR.P
  have rR : e_int.rd hp (mkSl (n + 7) s.R) = s.R := h.sR.rd
  refine CalledOk.of_fun tt_ok fn17_ok rfl 31 rfl [.tmp 4, .tmp 5] rfl (show 2 ≤ 31 by decide) ?_
  cases c1 : isR s a with
  | false =>
    have c1' : s.R.any (isE a) = false := c1
    have e : stopE s a = 2 := by unfold stopE; rw [if_pos c1]
    refine CW.vc env24_r [0, 1, 4, 5, 6, 9, 17] (by kernel_rfl) ?_
    (repeat ((try refine Vc.mk' ?_); simp only [go_sem, reduceIte, reduceCtorEq, Nat.reduceAdd, Nat.reduceMul, Nat.reduceSub, Nat.reduceLT, Nat.reduceLeDiff, Nat.reduceEqDiff, Int.reduceEq, Int.reduceLT, Int.reduceLE, Int.reduceNe, hh, netOb, hS, G24_none, conNoneN, his, G24_has, conHas, rP, rR, G24_lost, conLost, set_lt n0, set_lt n3, c1']))
    simp only [e, stopRes]
    (refine ⟨[], by simp, by simp, by simp, ?_, ?_, ?_⟩ <;> simp [frSub, lkG, ren, renL, renL_set, renL_ints, UpdOk.nil, UpdOk.cons, renOO_some, renO_cells, renO_map, renOO_mkOb, rn_base, rn_add, ren_mkSl, Enc.flat_ren, set_same, set_ne, sets_cons, sets_nil, Keep.set, Keep.setK, Keep.refl, rm_m_int_bool, rm_m_message_Rule, rm_m_pair_bool, rm_m_pair_int])
  | true =>
  have c1' : s.R.any (isE a) = true := c1
  cases c2 : isStop s a with
  | true =>
    have c2' : (mget s.S a).getD default = true := c2
    have e : stopE s a = 7 := by unfold stopE; rw [if_neg (by rw [c1]; simp), if_pos c2]
    refine CW.vc env24_r [0, 1, 4, 5, 6, 9, 17] (by kernel_rfl) ?_
    (repeat ((try refine Vc.mk' ?_); simp only [go_sem, reduceIte, reduceCtorEq, Nat.reduceAdd, Nat.reduceMul, Nat.reduceSub, Nat.reduceLT, Nat.reduceLeDiff, Nat.reduceEqDiff, Int.reduceEq, Int.reduceLT, Int.reduceLE, Int.reduceNe, hh, netOb, hS, G24_none, conNoneN, his, G24_has, conHas, rP, rR, G24_lost, conLost, set_lt n0, set_lt n3, c1', c2']))
    simp only [e, stopRes]
    (refine ⟨[], by simp, by simp, by simp, ?_, ?_, ?_⟩ <;> simp [frSub, lkG, ren, renL, renL_set, renL_ints, UpdOk.nil, UpdOk.cons, renOO_some, renO_cells, renO_map, renOO_mkOb, rn_base, rn_add, ren_mkSl, Enc.flat_ren, set_same, set_ne, sets_cons, sets_nil, Keep.set, Keep.setK, Keep.refl, rm_m_int_bool, rm_m_message_Rule, rm_m_pair_bool, rm_m_pair_int])
  | false =>
    have c2' : (mget s.S a).getD default = false := c2
    have e : stopE s a = 0 := by unfold stopE; rw [if_neg (by rw [c1]; simp), if_neg (by rw [c2]; simp)]
    have hN : NetAt (hp.set (n + 3) (some (.map (me_m_int_bool (mput s.S a true s.sc)) (mclk s.S a s.sc)))) n lv (stopC s a) := h.setS _ _
    have hNs := hN.s
    have hNv := hN.v
    have hNi := hN.is
    refine CW.vc env24_r [0, 1, 4, 5, 6, 9, 17] (by kernel_rfl) ?_
    (repeat ((try refine Vc.mk' ?_); simp only [go_sem, reduceIte, reduceCtorEq, Nat.reduceAdd, Nat.reduceMul, Nat.reduceSub, Nat.reduceLT, Nat.reduceLeDiff, Nat.reduceEqDiff, Int.reduceEq, Int.reduceLT, Int.reduceLE, Int.reduceNe, hh, netOb, hS, G24_none, conNoneN, his, G24_has, conHas, rP, rR, G24_lost, conLost, set_lt n0, set_lt n3, c1', c2', hNs, hNv, hNi, lostRes]))
    have m3 : ¬ top = n + 3 := by omega
    have m6 : ¬ top = n + 6 := by omega
    have r3 : ¬ n + 3 = top := by omega
    have r6 : ¬ n + 6 = top := by omega
    have d36 : ¬ n + 3 = n + 6 := by omega
    have d63 : ¬ n + 6 = n + 3 := by omega
    have n6 : n + 6 < top := by omega
    have w6 := h.W.h
    have lvs := h.W.low hcl
    have el : (stopC s a).l = s.l := rfl
    have eL : (stopC s a).last = s.last := rfl
    have eC : (stopC s a).S = mput s.S a true s.sc := rfl
    have ec : (stopC s a).sc = mclk s.S a s.sc := rfl
    rcases own_cases h.W.o with ⟨rfl, hnil⟩ | ⟨q, rfl, hq⟩
    · simp only [stopRes, e, if_true, lostRes, dfV, dfU, List.nil_append, el, eL, eC, ec]
      (refine ⟨[top], by simp, by simp, by simp, ?_, ?_, ?_⟩ <;> simp [frSub, lkG, ren, renL, renL_set, renL_ints, UpdOk.nil, UpdOk.cons, renOO_some, renO_cells, renO_map, renOO_mkOb, rn_base, rn_add, ren_mkSl, Enc.flat_ren, set_same, set_ne, sets_cons, sets_nil, Keep.set, Keep.setK, Keep.refl, rm_m_int_bool, rm_m_message_Rule, rm_m_pair_bool, rm_m_pair_int, calOb, rn_low n3, rn_low n6, m3, m6, r3, r6, d36, d63, set_lt n3, set_lt n6])
    · have hqt : q < top := lvs
      have hqc : ¬ q = n + 6 := fun e => by rw [e, w6] at hq; exact absurd (cellZ hq) (by decide)
      have hcq : ¬ n + 6 = q := fun e => hqc e.symm
      have hq3 : ¬ q = n + 3 := fun e => by rw [e, hS] at hq; cases hq
      have h3q : ¬ n + 3 = q := fun e => hq3 e.symm
      have a1 : ¬ top = q := by omega
      have b1 : ¬ q = top := by omega
      simp only [stopRes, e, if_true, lostRes, dfV, dfU, List.cons_append, List.nil_append, el, eL, eC, ec]
      (refine ⟨[top], by simp, by simp, by simp, ?_, ?_, ?_⟩ <;> simp [frSub, lkG, ren, renL, renL_set, renL_ints, UpdOk.nil, UpdOk.cons, renOO_some, renO_cells, renO_map, renOO_mkOb, rn_base, rn_add, ren_mkSl, Enc.flat_ren, set_same, set_ne, sets_cons, sets_nil, Keep.set, Keep.setK, Keep.refl, rm_m_int_bool, rm_m_message_Rule, rm_m_pair_bool, rm_m_pair_int, calOb, ownS, ownO, rn_low n3, rn_low n6, rn_low hqt, m3, m6, r3, r6, d36, d63, hqc, hcq, hq3, h3q, a1, b1, Enc.flat_ren, set_lt n3, set_lt n6, set_lt hqt])
end Go.Proofs.Ytmppehipfpkepaa.Dm
/- The net: what Cut and Stop leave is a net. -/
set_option linter.unusedSimpArgs false
set_option linter.unusedVariables false
namespace Go.Proofs.Ytmppehipfpkepaa.Dm
open Go.Dm
set_option maxHeartbeats 8000000
def cutS (s : NetS) (a b : Int) : NetS := if cutE s a b = 0 then lostS (cutC s a b) else s
def stopS (s : NetS) (a : Int) : NetS := if stopE s a = 0 then lostS (stopC s a) else s
def cutW (lv : Value) (s : NetS) (a b : Int) : Value := if cutE s a b = 0 then dfV lv (lostS (cutC s a b)).l else lv
def stopW (lv : Value) (s : NetS) (a : Int) : Value := if stopE s a = 0 then dfV lv (lostS (stopC s a)).l else lv
theorem NetAt.cut {hp : Hp} {n top : Nat} {lv : Value} {s : NetS} (h : NetAt hp n lv s) (h8 : n + 7 < top) (lvs : Sc top lv) (a b : Int) : NetAt (hp.sets (cutRes n lv s a b top).2.1) n (cutW lv s a b) (cutS s a b) := by
  unfold cutRes cutS cutW
  split
  · exact (h.setC (cutC s a b).C (cutC s a b).cc).lost h8 lvs
  · exact h
theorem NetAt.stop {hp : Hp} {n top : Nat} {lv : Value} {s : NetS} (h : NetAt hp n lv s) (h8 : n + 7 < top) (lvs : Sc top lv) (a : Int) : NetAt (hp.sets (stopRes n lv s a top).2.1) n (stopW lv s a) (stopS s a) := by
  unfold stopRes stopS stopW
  split
  · exact (h.setS (stopC s a).S (stopC s a).sc).lost h8 lvs
  · exact h
end Go.Proofs.Ytmppehipfpkepaa.Dm
