/- The net: three routers in a row; what Send and Tick leave is a net. -/
import Derived.Test.YtmppehipfpkepaaN4
set_option linter.unusedSimpArgs false
set_option linter.unusedVariables false
namespace Go.Proofs.Ytmppehipfpkepaa.Dm
open Go.Dm
set_option maxHeartbeats 16000000
set_option maxRecDepth 20000
noncomputable def G12_r : FuncId → Con := addG G11_r 21 conNewN
theorem env12_r : EnvV Try.prog tt.get G12_r := env11_r.add newN_ok
theorem G12_new : G12_r 21 = conNewN := rfl
def R3 : List Int := [1, 2, 3]
def L3 : List T_Link := [⟨1, 2, 5⟩, ⟨2, 3, 1⟩]
def net3 (m : Fa.MapR) (c : Nat) (late : Int) : NetS := net0 R3 L3 m c late
theorem err3 : Gr.errL R3 L3 = 0 := by decide +kernel
def threeRes (rl : List T_Rule) (late : Int) (top : Nat) : Value × Upds × Nat := if late < 1 ∨ 64 < late then (.pointer none, [], top) else match Fa.planF rl with
  | .error _ => (.pointer none, [], top)
  | .ok m => (.pointer (some ⟨top, 0, none⟩), netU top (net3 m rl.length late), top + 8)
theorem new3 {rl : List T_Rule} {late : Int} {top : Nat} (m : Fa.MapR) (h : ¬ (late < 1 ∨ 64 < late)) (hp : Fa.planF rl = .ok m) : newRes R3 L3 rl late top = (.tuple ⟨[.pointer (some ⟨top, 0, none⟩), .int .i64 0]⟩, netU top (net3 m rl.length late), top + 8) := by
  unfold newRes
  rw [if_neg (by rintro (c | c); exact c err3; exact h c), hp]; rfl
theorem new3a {rl : List T_Rule} {late : Int} {top : Nat} (h : late < 1 ∨ 64 < late) : newRes R3 L3 rl late top = (.tuple ⟨[.pointer none, .int .i64 2]⟩, [], top) := by
  unfold newRes newE
  rw [if_pos (.inr h), if_neg (by simp [err3]), if_pos h]
theorem new3b {rl : List T_Rule} {late : Int} {top : Nat} {i : Nat} {e : Int} (h : ¬ (late < 1 ∨ 64 < late)) (hp : Fa.planF rl = .error (i, e)) : newRes R3 L3 rl late top = (.tuple ⟨[.pointer none, .int .i64 e]⟩, [], top) := by
  unfold newRes
  rw [if_neg (by rintro (c | c); exact c err3; exact h c), hp]
def conThree : Con := .det (fun args hp _ => match args with | [.int .i64 _, r] => SlP e_Rule hp r | _ => False) (fun args hp top => match args with
  | [late, r] => threeRes (e_Rule.rd hp r) (intOf late) top | _ => (undef, [], top))
theorem three_ok : ConOk Try.prog 9 conThree := by
  refine .mkDet fn9_ok ?_
  intro args hp top hpre hcl hsc
  match args, hpre with
  | [.int .i64 late, r], ⟨rl, q⟩ =>
  have qs := q.low hcl
  simp only [q.rd, intOf_int]
  have kq : ∀ {h' : Hp}, Keep top [] h' hp → SlP e_Rule h' r = True := fun {h'} hk => (q.keep qs hk).P
  have kq2 : ∀ {h' : Hp}, Keep top [] h' hp → e_Rule.rd h' r = rl := fun {h'} hk => (q.keep qs hk).rd
  have p1 : ∀ {h' : Hp} {b : Nat}, h' b = some (.cells true 1 [.int .i64 1, .int .i64 2, .int .i64 3]) → (∃ R, SlT e_int h' (.slice (some ⟨b, 0, none⟩) 3 3) R ∧ R ≠ [] ∧ R.length ≤ 1000) = True := fun h => eq_true ⟨R3, .own (l := R3) h (by decide), by decide, by decide⟩
  have p2 : ∀ {h' : Hp} {b : Nat}, h' b = some (.cells true 1 [.int .i64 1, .int .i64 2, .int .i64 3]) → e_int.rd h' (.slice (some ⟨b, 0, none⟩) 3 3) = R3 := fun h => (SlT.own (E := e_int) (l := R3) h (by decide)).rd
  have p3 : ∀ {h' : Hp} {b : Nat}, h' b = some (.cells true 3 [.int .i64 1, .int .i64 2, .int .i64 5, .int .i64 2, .int .i64 3, .int .i64 1]) → SlP e_Link h' (.slice (some ⟨b, 0, none⟩) 2 2) = True := fun h => (SlT.own (E := e_Link) (l := L3) h (by decide)).P
  have p4 : ∀ {h' : Hp} {b : Nat}, h' b = some (.cells true 3 [.int .i64 1, .int .i64 2, .int .i64 5, .int .i64 2, .int .i64 3, .int .i64 1]) → e_Link.rd h' (.slice (some ⟨b, 0, none⟩) 2 2) = L3 := fun h => (SlT.own (E := e_Link) (l := L3) h (by decide)).rd
  refine CalledOk.of_fun tt_ok fn9_ok rfl 20 rfl [.tmp 4] rfl (show 2 ≤ 20 by decide) ?_
  by_cases c : late < 1 ∨ 64 < late
  · have e : threeRes rl late top = (.pointer none, [], top) := by unfold threeRes; rw [if_pos c]
    have n3 : ∀ {T}, newRes R3 L3 rl late T = _ := fun {T} => new3a c
    refine CW.vc env12_r [0, 1, 4, 5, 6, 18] (by kernel_rfl) ?_
    (repeat ((try refine Vc.mk' ?_); simp only [go_sem, reduceIte, reduceCtorEq, Nat.reduceAdd, Nat.reduceMul, Nat.reduceSub, Nat.reduceLT, Nat.reduceLeDiff, Nat.reduceEqDiff, Int.reduceEq, Int.reduceLT, Int.reduceLE, Int.reduceNe, G12_new, conNewN, rep3, rep2, List.drop_succ_cons, List.drop_zero, List.length_cons, List.drop_nil, p1, p2, p3, p4, kq, kq2, n3]))
    rw [e]
    (refine ⟨[], by simp, by simp, by simp, ?_, ?_, ?_⟩ <;> simp [frSub, lkG, ren, renL, renL_set, renL_ints, UpdOk.nil, UpdOk.cons, renOO_some, renO_cells, renO_map, renOO_mkOb, rn_base, rn_add, ren_mkSl, Enc.flat_ren, set_same, set_ne, sets_cons, sets_nil, Keep.set, Keep.setK, Keep.refl, rm_m_int_bool, rm_m_message_Rule, rm_m_pair_bool, rm_m_pair_int])
  cases hx : Fa.planF rl with
  | error p =>
    obtain ⟨i, e⟩ := p
    have he := Fa.planF_err hx
    have e3 : threeRes rl late top = (.pointer none, [], top) := by unfold threeRes; rw [if_neg c, hx]
    have n3 : ∀ {T}, newRes R3 L3 rl late T = _ := fun {T} => new3b c hx
    refine CW.vc env12_r [0, 1, 4, 5, 6, 18] (by kernel_rfl) ?_
    (repeat ((try refine Vc.mk' ?_); simp only [go_sem, reduceIte, reduceCtorEq, Nat.reduceAdd, Nat.reduceMul, Nat.reduceSub, Nat.reduceLT, Nat.reduceLeDiff, Nat.reduceEqDiff, Int.reduceEq, Int.reduceLT, Int.reduceLE, Int.reduceNe, G12_new, conNewN, rep3, rep2, List.drop_succ_cons, List.drop_zero, List.length_cons, List.drop_nil, p1, p2, p3, p4, kq, kq2, n3, he]))
    rw [e3]
    (refine ⟨[], by simp, by simp, by simp, ?_, ?_, ?_⟩ <;> simp [frSub, lkG, ren, renL, renL_set, renL_ints, UpdOk.nil, UpdOk.cons, renOO_some, renO_cells, renO_map, renOO_mkOb, rn_base, rn_add, ren_mkSl, Enc.flat_ren, set_same, set_ne, sets_cons, sets_nil, Keep.set, Keep.setK, Keep.refl, rm_m_int_bool, rm_m_message_Rule, rm_m_pair_bool, rm_m_pair_int])
  | ok m =>
    have e3 : threeRes rl late top = (.pointer (some ⟨top, 0, none⟩), netU top (net3 m rl.length late), top + 8) := by unfold threeRes; rw [if_neg c, hx]
    have n3 : ∀ {T}, newRes R3 L3 rl late T = _ := fun {T} => new3 m c hx
    refine CW.vc env12_r [0, 1, 4, 5, 6, 18] (by kernel_rfl) ?_
    (repeat ((try refine Vc.mk' ?_); simp only [go_sem, reduceIte, reduceCtorEq, Nat.reduceAdd, Nat.reduceMul, Nat.reduceSub, Nat.reduceLT, Nat.reduceLeDiff, Nat.reduceEqDiff, Int.reduceEq, Int.reduceLT, Int.reduceLE, Int.reduceNe, G12_new, conNewN, rep3, rep2, List.drop_succ_cons, List.drop_zero, List.length_cons, List.drop_nil, p1, p2, p3, p4, kq, kq2, n3, netU]))
    rw [e3]
    (refine ⟨[top + 2, top + 3, top + 4, top + 5, top + 6, top + 7, top + 8, top + 9], by simp, by simp, by simp, ?_, ?_, ?_⟩ <;> simp [frSub, lkG, ren, renL, renL_set, renL_ints, UpdOk.nil, UpdOk.cons, renOO_some, renO_cells, renO_map, renOO_mkOb, rn_base, rn_add, ren_mkSl, Enc.flat_ren, set_same, set_ne, sets_cons, sets_nil, Keep.set, Keep.setK, Keep.refl, rm_m_int_bool, rm_m_message_Rule, rm_m_pair_bool, rm_m_pair_int, netU, netOb, calOb, Fa.planOb, net3, net0, R3])
end Go.Proofs.Ytmppehipfpkepaa.Dm
