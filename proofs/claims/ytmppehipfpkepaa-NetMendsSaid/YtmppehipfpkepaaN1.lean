/- The net: its state in memory; none, pairOf, up, Now, Flying. -/
import Derived.Test.YtmppehipfpkepaaTr
import Derived.Test.YtmppehipfpkepaaNGO
import Derived.Test.YtmppehipfpkepaaNFB
set_option linter.unusedSimpArgs false
set_option linter.unusedVariables false
namespace Go.Proofs.Ytmppehipfpkepaa.Dm
open Go.Dm
set_option maxHeartbeats 8000000
set_option maxRecDepth 20000
structure NetS where
  R : List Int
  L : M_m_pair_int
  lc : Nat
  C : M_m_pair_bool
  cc : Nat
  S : M_m_int_bool
  sc : Nat
  P : Fa.PlanS
  late : Int
  now : Int
  last : Int
  l : List T_t124
def netOb (n : Nat) (s : NetS) : Option AObj := some (.cells true 0 [mkSl (n + 7) s.R, .map (some (n + 1)), .map (some (n + 2)), .map (some (n + 3)), .pointer (some ⟨n + 4, 0, none⟩), .int .u64 s.late, .int .u64 s.now, .pointer (some ⟨n + 6, 0, none⟩)])
structure NetAt (hp : Hp) (n : Nat) (lv : Value) (s : NetS) : Prop where
  h : hp n = netOb n s
  L : hp (n + 1) = some (.map (me_m_pair_int s.L) s.lc)
  C : hp (n + 2) = some (.map (me_m_pair_bool s.C) s.cc)
  S : hp (n + 3) = some (.map (me_m_int_bool s.S) s.sc)
  P : hp (n + 4) = Fa.planOb (n + 5) s.P.ks
  M : hp (n + 5) = some (.map (me_m_message_Rule s.P.m) s.P.clk)
  pl : s.P.ks.length = 625
  W : CalAt_r hp (n + 6) s.last lv s.l
  R : s.R ≠ [] → hp (n + 7) = mkOb e_int s.R
  rn : s.R.length ≤ 1000
  lt0 : 1 ≤ s.late
  lt1 : s.late ≤ 64
  nw0 : 0 ≤ s.now
  nw1 : s.now ≤ 1099511627776
theorem mkSl_inj {b : Nat} : ∀ {l m : List Int} {h : Hp}, h b = mkOb e_int l → h b = mkOb e_int m → l = m := by
  intro l m h h1 h2
  rw [h1] at h2
  have e1 : ∀ l : List Int, ((mkOb e_int l).map fun o => (cellsOf (some o)).map intOf).getD [] = l := by
    intro l
    cases l with
    | nil => rfl
    | cons a l =>
      have : ∀ l : List Int, (e_int.flat l).map intOf = l := by
        intro l
        induction l with
        | nil => rfl
        | cons a l ih => rw [Enc.flat_cons, List.map_append, ih]; rfl
      exact this (a :: l)
  rw [← e1 l, h2, e1 m]
theorem OwnV.fn {hp : Hp} {v : Value} {l m : List T_t124} (h : OwnV e_t124 hp v l) (g : OwnV e_t124 hp v m) : l = m := by rw [← h.slT.rd, g.slT.rd]
theorem NetAt.fn {hp : Hp} {n : Nat} {lv lv' : Value} {s s' : NetS} (h : NetAt hp n lv s) (g : NetAt hp n lv' s') : lv = lv' ∧ s = s' := by
  have e1 := h.h.symm.trans g.h
  have e2 := h.L.symm.trans g.L
  have e3 := h.C.symm.trans g.C
  have e4 := h.S.symm.trans g.S
  have e5 := h.P.symm.trans g.P
  have e6 := h.M.symm.trans g.M
  have e7 := h.W.h.symm.trans g.W.h
  simp only [netOb, Option.some.injEq, AObj.cells.injEq, AObj.map.injEq, List.cons.injEq, Value.int.injEq, true_and, and_true, Fa.planOb] at e1 e2 e3 e4 e5 e6 e7
  obtain ⟨a1, a2⟩ := e2
  obtain ⟨b1, b2⟩ := e3
  obtain ⟨c1, c2⟩ := e4
  obtain ⟨d1, d2⟩ := e6
  have a3 := congrArg dm_m_pair_int a1
  have b3 := congrArg dm_m_pair_bool b1
  have c3 := congrArg dm_m_int_bool c1
  have d3 := congrArg dm_m_message_Rule d1
  have k3 := congrArg (List.map intOf) e5
  rw [dm_me_m_pair_int, dm_me_m_pair_int] at a3
  rw [dm_me_m_pair_bool, dm_me_m_pair_bool] at b3
  rw [dm_me_m_int_bool, dm_me_m_int_bool] at c3
  rw [dm_me_m_message_Rule, dm_me_m_message_Rule] at d3
  rw [Gr.ints_back, Gr.ints_back] at k3
  obtain ⟨w1, w2⟩ := e7
  have r0 := e1.1
  have r3 : s.R = s'.R := by
    cases hr : s.R with
    | nil =>
      cases hr' : s'.R with
      | nil => rfl
      | cons a l => rw [hr, hr'] at r0; simp [mkSl] at r0
    | cons a l =>
      cases hr' : s'.R with
      | nil => rw [hr, hr'] at r0; simp [mkSl] at r0
      | cons a' l' =>
        have u1 := h.R (by rw [hr]; simp)
        have u2 := g.R (by rw [hr']; simp)
        rw [← hr, ← hr']
        exact mkSl_inj u1 u2
  have l3 : s.l = s'.l := by
    have o := h.W.o
    rw [w2] at o
    exact OwnV.fn o g.W.o
  refine ⟨w2, ?_⟩
  obtain ⟨R, L, lc, C, cc, S, sc, ⟨m, clk, ks⟩, late, now, last, l⟩ := s
  obtain ⟨R', L', lc', C', cc', S', sc', ⟨m', clk', ks'⟩, late', now', last', l'⟩ := s'
  simp only at *
  obtain ⟨_, e8, e9⟩ := e1
  subst a3 a2 b3 b2 c3 c2 d3 d2 k3 w1 r3 l3 e8 e9
  rfl
open Classical in
noncomputable def netS (hp : Hp) (n : Nat) : NetS := if h : ∃ s lv, NetAt hp n lv s then h.choose else ⟨[], [], 0, [], 0, [], 0, ⟨[], 0, []⟩, 0, 0, 0, []⟩
open Classical in
noncomputable def netV (hp : Hp) (n : Nat) : Value := if h : ∃ lv s, NetAt hp n lv s then h.choose else undef
theorem NetAt.s {hp : Hp} {n : Nat} {lv : Value} {s : NetS} (h : NetAt hp n lv s) : netS hp n = s := by
  unfold netS
  have e : ∃ s lv, NetAt hp n lv s := ⟨s, lv, h⟩
  rw [dif_pos e]
  obtain ⟨lv', h'⟩ := e.choose_spec
  exact (h'.fn h).2
theorem NetAt.v {hp : Hp} {n : Nat} {lv : Value} {s : NetS} (h : NetAt hp n lv s) : netV hp n = lv := by
  unfold netV
  have e : ∃ lv s, NetAt hp n lv s := ⟨lv, s, h⟩
  rw [dif_pos e]
  obtain ⟨s', h'⟩ := e.choose_spec
  exact (h'.fn h).1
def IsNet (hp : Hp) (n : Nat) : Prop := ∃ lv s, NetAt hp n lv s
theorem NetAt.is {hp : Hp} {n : Nat} {lv : Value} {s : NetS} (h : NetAt hp n lv s) : IsNet hp n = True := eq_true ⟨lv, s, h⟩
/-- the list's block is none of the net's -/
theorem NetAt.keep {hp hp' : Hp} {n top : Nat} {lv : Value} {s : NetS} (h : NetAt hp n lv s) (hcl : Cl hp top) (hk : ∀ i, i < top → hp' i = hp i) : NetAt hp' n lv s := by
  have low : n + 6 < top := hcl.lt _ _ h.W.h
  refine ⟨(hk _ (by omega)).trans h.h, (hk _ (by omega)).trans h.L, (hk _ (by omega)).trans h.C, (hk _ (by omega)).trans h.S, (hk _ (by omega)).trans h.P, (hk _ (by omega)).trans h.M, h.pl, ?_, ?_, h.rn, h.lt0, h.lt1, h.nw0, h.nw1⟩
  · exact ⟨(hk _ low).trans h.W.h, h.W.o.mono fun b k c e => hk b (by have := h.W.low hcl; rw [e] at this; exact this), h.W.up, h.W.tk, h.W.l0, h.W.l1, h.W.n⟩
  · intro hr
    have u := h.R hr
    have : n + 7 < top := by
      cases hl : s.R with
      | nil => exact absurd hl hr
      | cons a l => rw [hl] at u; exact hcl.lt _ _ u
    exact (hk _ this).trans u
theorem NetAt.low {hp : Hp} {n : Nat} {lv : Value} {s : NetS} (h : NetAt hp n lv s) {top : Nat} (hcl : Cl hp top) : n + 6 < top := hcl.lt _ _ h.W.h
/-! ### none, pairOf, up -/
def conNoneN : Con := .pure (fun args hp => match args with | [.pointer (some ⟨n, 0, none⟩)] => IsNet hp n | [.pointer none] => True | _ => False) (fun args _ => match args with | [.pointer none] => .bool true | _ => .bool false)
theorem noneN_ok : ConOk Try.prog 29 conNoneN := by
  refine .mkRd fn29_ok ?_ ?_
  · intro args hp h
    match args, h with
    | [.pointer (some ⟨n, 0, none⟩)], _ => rfl
    | [.pointer none], _ => rfl
  intro args hp hpre top hcl hsc
  match args, hpre with
  | [.pointer (some ⟨n, 0, none⟩)], ⟨lv, s, h⟩ =>
    refine CalledOk.of_fun tt_ok fn29_ok rfl 12 rfl [.tmp 2] rfl (show 1 ≤ 12 by decide) ?_
    have hh := h.h
    refine CW.vc env6_r [0, 2] (by kernel_rfl) ?_
    (repeat ((try refine Vc.mk' ?_); simp only [go_sem, reduceIte, reduceCtorEq, Nat.reduceAdd, Nat.reduceMul, Nat.reduceSub, Nat.reduceLT, Nat.reduceLeDiff, Nat.reduceEqDiff, Int.reduceEq, Int.reduceLT, Int.reduceLE, Int.reduceNe, hh, netOb]))
  | [.pointer none], _ =>
    refine CalledOk.of_fun tt_ok fn29_ok rfl 12 rfl [.tmp 2] rfl (show 1 ≤ 12 by decide) ?_
    refine CW.vc env6_r [0, 2] (by kernel_rfl) ?_
    (repeat ((try refine Vc.mk' ?_); simp only [go_sem, reduceIte, reduceCtorEq, Nat.reduceAdd, Nat.reduceMul, Nat.reduceSub, Nat.reduceLT, Nat.reduceLeDiff, Nat.reduceEqDiff, Int.reduceEq, Int.reduceLT, Int.reduceLE, Int.reduceNe]))
theorem mn_eq {x y : Int} : (bif decide (y < x) then y else x) = min x y := by
  by_cases h : y < x
  · simp [h]; omega
  · simp [h]; omega
theorem mx_eq {x y : Int} : (bif decide (x < y) then y else x) = max x y := by
  by_cases h : x < y
  · simp [h]; omega
  · simp [h]; omega
def conPair : Con := .pure (fun args _ => match args with | [x, y] => IsI .i64 x ∧ IsI .i64 y | _ => False) (fun args _ => match args with | [x, y] => .agg ⟨[.int .i64 (min (intOf x) (intOf y)), .int .i64 (max (intOf x) (intOf y))]⟩ | _ => undef)
theorem pair_ok : ConOk Try.prog 30 conPair := by
  refine .mkRd fn30_ok ?_ ?_
  · intro args hp h
    match args, h with
    | [x, y], _ => rfl
  intro args hp hpre top hcl hsc
  match args, hpre with
  | [x, y], ⟨hx, hy⟩ =>
  rw [hx, hy]
  generalize intOf x = x, intOf y = y
  refine CalledOk.of_fun tt_ok fn30_ok rfl 12 rfl [.cell 4 99] rfl (show 2 ≤ 12 by decide) ?_
  refine CW.vc env6_r [0, 1, 4] (by kernel_rfl) ?_
  (repeat ((try refine Vc.mk' ?_); simp only [go_sem, reduceIte, reduceCtorEq, Nat.reduceAdd, Nat.reduceMul, Nat.reduceSub, Nat.reduceLT, Nat.reduceLeDiff, Nat.reduceEqDiff, Int.reduceEq, Int.reduceLT, Int.reduceLE, Int.reduceNe, mn_eq, mx_eq]))
def G7_r : FuncId → Con := addG (addG (addG G6_r 35 conTake_r) 29 conNoneN) 30 conPair
theorem env7_r : EnvV Try.prog tt.get G7_r := ((env6_r.add take_r_ok).add noneN_ok).add pair_ok
theorem G7_pair : G7_r 30 = conPair := rfl
def pk (a b : Int) : T_pair := ⟨min a b, max a b⟩
def costF (s : NetS) (a b : Int) : Int := (mget s.L (pk a b)).getD 0
def upF (s : NetS) (a b : Int) : Bool := decide (0 < costF s a b) && !((mget s.C (pk a b)).getD false) && !((mget s.S a).getD false) && !((mget s.S b).getD false)
noncomputable def conUp : Con := .pure (fun args hp => match args with | [.pointer (some ⟨n, 0, none⟩), x, y] => IsNet hp n ∧ IsI .i64 x ∧ IsI .i64 y | _ => False) (fun args hp => match args with | [.pointer (some ⟨n, _, _⟩), x, y] => .bool (upF (netS hp n) (intOf x) (intOf y)) | _ => undef)
theorem up_ok : ConOk Try.prog 31 conUp := by
  refine .mkRd fn31_ok ?_ ?_
  · intro args hp h
    match args, h with
    | [.pointer (some ⟨n, 0, none⟩), x, y], _ => rfl
  intro args hp hpre top hcl hsc
  match args, hpre with
  | [.pointer (some ⟨n, 0, none⟩), x, y], ⟨⟨lv, s, h⟩, hx, hy⟩ =>
  rw [hx, hy]
  generalize intOf x = x, intOf y = y
  simp only [h.s, intOf_int]
  have hlow := h.low hcl
  have n0 : n < top := by omega
  have n1 : n + 1 < top := by omega
  have n2 : n + 2 < top := by omega
  have n3 : n + 3 < top := by omega
  have hh := h.h
  have hL := h.L
  have hC := h.C
  have hS := h.S
  refine CalledOk.of_fun tt_ok fn31_ok rfl 45 rfl [.tmp 6] rfl (show 3 ≤ 45 by decide) ?_
  by_cases c1 : 0 < (mget s.L ⟨min x y, max x y⟩).getD default
  case neg =>
    have e : upF s x y = false := by unfold upF costF pk; rw [show decide (0 < (mget s.L ⟨min x y, max x y⟩).getD 0) = false from decide_eq_false c1]; simp
    rw [e]
    refine CW.vc env7_r [0, 1, 2, 6, 7] (by kernel_rfl) ?_
    (repeat ((try refine Vc.mk' ?_); simp only [go_sem, reduceIte, reduceCtorEq, Nat.reduceAdd, Nat.reduceMul, Nat.reduceSub, Nat.reduceLT, Nat.reduceLeDiff, Nat.reduceEqDiff, Int.reduceEq, Int.reduceLT, Int.reduceLE, Int.reduceNe, hh, netOb, hL, hC, hS, G7_pair, conPair, set_lt n0, set_lt n1, set_lt n2, set_lt n3, c1]))
  have e1 : decide (0 < (mget s.L ⟨min x y, max x y⟩).getD 0) = true := decide_eq_true c1
  cases c2 : (mget s.C ⟨min x y, max x y⟩).getD default with
  | true =>
    have e : upF s x y = false := by unfold upF costF pk; rw [show (mget s.C ⟨min x y, max x y⟩).getD false = true from c2]; simp
    rw [e]
    refine CW.vc env7_r [0, 1, 2, 6, 7] (by kernel_rfl) ?_
    (repeat ((try refine Vc.mk' ?_); simp only [go_sem, reduceIte, reduceCtorEq, Nat.reduceAdd, Nat.reduceMul, Nat.reduceSub, Nat.reduceLT, Nat.reduceLeDiff, Nat.reduceEqDiff, Int.reduceEq, Int.reduceLT, Int.reduceLE, Int.reduceNe, hh, netOb, hL, hC, hS, G7_pair, conPair, set_lt n0, set_lt n1, set_lt n2, set_lt n3, c1, c2]))
  | false =>
  cases c3 : (mget s.S x).getD default with
  | true =>
    have e : upF s x y = false := by unfold upF costF pk; rw [show (mget s.S x).getD false = true from c3]; simp
    rw [e]
    refine CW.vc env7_r [0, 1, 2, 6, 7] (by kernel_rfl) ?_
    (repeat ((try refine Vc.mk' ?_); simp only [go_sem, reduceIte, reduceCtorEq, Nat.reduceAdd, Nat.reduceMul, Nat.reduceSub, Nat.reduceLT, Nat.reduceLeDiff, Nat.reduceEqDiff, Int.reduceEq, Int.reduceLT, Int.reduceLE, Int.reduceNe, hh, netOb, hL, hC, hS, G7_pair, conPair, set_lt n0, set_lt n1, set_lt n2, set_lt n3, c1, c2, c3]))
  | false =>
  cases c4 : (mget s.S y).getD default with
  | true =>
    have e : upF s x y = false := by unfold upF costF pk; rw [show (mget s.S y).getD false = true from c4]; simp
    rw [e]
    refine CW.vc env7_r [0, 1, 2, 6, 7] (by kernel_rfl) ?_
    (repeat ((try refine Vc.mk' ?_); simp only [go_sem, reduceIte, reduceCtorEq, Nat.reduceAdd, Nat.reduceMul, Nat.reduceSub, Nat.reduceLT, Nat.reduceLeDiff, Nat.reduceEqDiff, Int.reduceEq, Int.reduceLT, Int.reduceLE, Int.reduceNe, hh, netOb, hL, hC, hS, G7_pair, conPair, set_lt n0, set_lt n1, set_lt n2, set_lt n3, c1, c2, c3, c4]))
  | false =>
    have e : upF s x y = true := by unfold upF costF pk; rw [e1, show (mget s.C ⟨min x y, max x y⟩).getD false = false from c2, show (mget s.S x).getD false = false from c3, show (mget s.S y).getD false = false from c4]; rfl
    rw [e]
    refine CW.vc env7_r [0, 1, 2, 6, 7] (by kernel_rfl) ?_
    (repeat ((try refine Vc.mk' ?_); simp only [go_sem, reduceIte, reduceCtorEq, Nat.reduceAdd, Nat.reduceMul, Nat.reduceSub, Nat.reduceLT, Nat.reduceLeDiff, Nat.reduceEqDiff, Int.reduceEq, Int.reduceLT, Int.reduceLE, Int.reduceNe, hh, netOb, hL, hC, hS, G7_pair, conPair, set_lt n0, set_lt n1, set_lt n2, set_lt n3, c1, c2, c3, c4]))
noncomputable def G8_r : FuncId → Con := addG G7_r 31 conUp
theorem env8_r : EnvV Try.prog tt.get G8_r := env7_r.add up_ok
theorem G8_up : G8_r 31 = conUp := rfl
theorem G8_none : G8_r 29 = conNoneN := rfl
theorem G8_len : G8_r 32 = conLen_r := rfl
/-! ### Now, Flying, Up -/
noncomputable def conNow : Con := .pure (fun args hp => match args with | [.pointer (some ⟨n, 0, none⟩)] => IsNet hp n | _ => False) (fun args hp => match args with | [.pointer (some ⟨n, _, _⟩)] => .int .u64 (netS hp n).now | _ => undef)
theorem now_ok : ConOk Try.prog 11 conNow := by
  refine .mkRd fn11_ok ?_ ?_
  · intro args hp h
    match args, h with
    | [.pointer (some ⟨n, 0, none⟩)], _ => rfl
  intro args hp hpre top hcl hsc
  match args, hpre with
  | [.pointer (some ⟨n, 0, none⟩)], ⟨lv, s, h⟩ =>
  simp only [h.s]
  have hh := h.h
  have his := h.is
  refine CalledOk.of_fun tt_ok fn11_ok rfl 9 rfl [.tmp 2] rfl (show 1 ≤ 9 by decide) ?_
  refine CW.vc env8_r [0, 2, 4] (by kernel_rfl) ?_
  (repeat ((try refine Vc.mk' ?_); simp only [go_sem, reduceIte, reduceCtorEq, Nat.reduceAdd, Nat.reduceMul, Nat.reduceSub, Nat.reduceLT, Nat.reduceLeDiff, Nat.reduceEqDiff, Int.reduceEq, Int.reduceLT, Int.reduceLE, Int.reduceNe, hh, netOb, G8_none, conNoneN, his]))
noncomputable def conFly : Con := .pure (fun args hp => match args with | [.pointer (some ⟨n, 0, none⟩)] => IsNet hp n | _ => False) (fun args hp => match args with | [.pointer (some ⟨n, _, _⟩)] => .int .i64 ((netS hp n).l.length : Int) | _ => undef)
theorem CalAt_r.calL {hp : Hp} {cb : Nat} {last : Int} {lv : Value} {l : List T_t124} (C : CalAt_r hp cb last lv l) : Go.Proofs.Ytmppehipfpkepaa.Dm.calL hp cb = lv := by
  unfold Go.Proofs.Ytmppehipfpkepaa.Dm.calL
  rw [C.h]; rfl
theorem CalAt_r.rd {hp : Hp} {cb : Nat} {last : Int} {lv : Value} {l : List T_t124} (C : CalAt_r hp cb last lv l) : e_t124.rd hp lv = l := C.o.slT.rd
theorem CalAt_r.lenP {hp : Hp} {cb : Nat} {last : Int} {lv : Value} {l : List T_t124} (C : CalAt_r hp cb last lv l) : LenPre_r hp cb = True := eq_true ⟨last, lv, l, C⟩
theorem fly_ok : ConOk Try.prog 19 conFly := by
  refine .mkRd fn19_ok ?_ ?_
  · intro args hp h
    match args, h with
    | [.pointer (some ⟨n, 0, none⟩)], _ => rfl
  intro args hp hpre top hcl hsc
  match args, hpre with
  | [.pointer (some ⟨n, 0, none⟩)], ⟨lv, s, h⟩ =>
  simp only [h.s]
  have hh := h.h
  have his := h.is
  have w1 := h.W.calL
  have w2 := h.W.rd
  have w3 := h.W.lenP
  refine CalledOk.of_fun tt_ok fn19_ok rfl 10 rfl [.tmp 2] rfl (show 1 ≤ 10 by decide) ?_
  refine CW.vc env8_r [0, 2, 4] (by kernel_rfl) ?_
  (repeat ((try refine Vc.mk' ?_); simp only [go_sem, reduceIte, reduceCtorEq, Nat.reduceAdd, Nat.reduceMul, Nat.reduceSub, Nat.reduceLT, Nat.reduceLeDiff, Nat.reduceEqDiff, Int.reduceEq, Int.reduceLT, Int.reduceLE, Int.reduceNe, hh, netOb, G8_none, conNoneN, his, G8_len, conLen_r, w1, w2, w3]))
noncomputable def conUpX : Con := .pure (fun args hp => match args with | [.pointer (some ⟨n, 0, none⟩), x, y] => IsNet hp n ∧ IsI .i64 x ∧ IsI .i64 y | _ => False) (fun args hp => match args with | [.pointer (some ⟨n, _, _⟩), x, y] => .bool (upF (netS hp n) (intOf x) (intOf y)) | _ => undef)
theorem upX_ok : ConOk Try.prog 14 conUpX := by
  refine .mkRd fn14_ok ?_ ?_
  · intro args hp h
    match args, h with
    | [.pointer (some ⟨n, 0, none⟩), x, y], _ => rfl
  intro args hp hpre top hcl hsc
  match args, hpre with
  | [.pointer (some ⟨n, 0, none⟩), x, y], ⟨⟨lv, s, h⟩, hx, hy⟩ =>
  rw [hx, hy]
  generalize intOf x = x, intOf y = y
  simp only [h.s, intOf_int]
  have hs := h.s
  have his := h.is
  refine CalledOk.of_fun tt_ok fn14_ok rfl 16 rfl [.tmp 6] rfl (show 3 ≤ 16 by decide) ?_
  refine CW.vc env8_r [0, 1, 2, 6] (by kernel_rfl) ?_
  (repeat ((try refine Vc.mk' ?_); simp only [go_sem, reduceIte, reduceCtorEq, Nat.reduceAdd, Nat.reduceMul, Nat.reduceSub, Nat.reduceLT, Nat.reduceLeDiff, Nat.reduceEqDiff, Int.reduceEq, Int.reduceLT, Int.reduceLE, Int.reduceNe, G8_none, conNoneN, his, G8_up, conUp, hs]))
end Go.Proofs.Ytmppehipfpkepaa.Dm
