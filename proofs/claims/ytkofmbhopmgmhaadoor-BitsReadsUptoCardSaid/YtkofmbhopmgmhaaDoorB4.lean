/- The document's answer: bit by bit. -/
import Derived.Test.YtkofmbhopmgmhaaDoorB3
set_option linter.unusedSimpArgs false
set_option linter.unusedVariables false
namespace Go.Proofs.YtkofmbhopmgmhaaDoor.Dm
open Go.Dm
set_option maxHeartbeats 4000000

/-- the bits of which p says so -/
def coll (p : Nat → Bool) : Nat → T_Bits
  | 0 => zb
  | m + 1 => if p m then putB (coll p m) m else coll p m
theorem coll_ok {p : Nat → Bool} : ∀ m, OkB (coll p m)
  | 0 => zb_ok
  | m + 1 => by
    rw [coll]; split
    · exact putB_ok (coll_ok m)
    · exact coll_ok m
theorem putB_bit {b : T_Bits} {k i j : Nat} (hk : k < 256) (hi : i < 4) (hj : j < 64) : (wn (putB b k) i).testBit j = ((wn b i).testBit j || decide (64 * i + j = k)) := by
  have hk4 : k / 64 < 4 := by omega
  unfold putB
  rw [setw_get hk4 hi]
  by_cases h : i = k / 64
  · rw [if_pos h, Nat.testBit_or, Nat.testBit_two_pow, h]
    congr 1
    exact decide_eq_decide.2 (by omega)
  · rw [if_neg h]
    have : ¬ 64 * i + j = k := by omega
    simp [this]
theorem zb_bit {i j : Nat} : (wn zb i).testBit j = false := by
  rcases i with _ | _ | _ | i <;> simp [wn, wd, zb]
theorem coll_bit {p : Nat → Bool} {i j : Nat} (hi : i < 4) (hj : j < 64) : ∀ {m : Nat}, m ≤ 256 → (wn (coll p m) i).testBit j = (decide (64 * i + j < m) && p (64 * i + j))
  | 0, _ => by rw [coll, zb_bit]; simp
  | m + 1, hm => by
    rw [coll]
    by_cases hp : p m = true
    · rw [if_pos hp, putB_bit (by omega) hi hj, coll_bit hi hj (by omega)]
      by_cases h : 64 * i + j = m
      · rw [h]; simp [hp]
      · have : decide (64 * i + j < m + 1) = decide (64 * i + j < m) := decide_eq_decide.2 (by omega)
        rw [this]; simp [h]
    · rw [if_neg hp, coll_bit hi hj (by omega)]
      by_cases h : 64 * i + j = m
      · rw [h]; simp [hp]
      · have : decide (64 * i + j < m + 1) = decide (64 * i + j < m) := decide_eq_decide.2 (by omega)
        rw [this]
theorem hasB_at {b : T_Bits} {i j : Nat} (hj : j < 64) : hasB b (64 * i + j) = (wn b i).testBit j := by
  unfold hasB
  rw [show (64 * i + j) / 64 = i from by omega, show (64 * i + j) % 64 = j from by omega]
theorem tb_ext {x y : Nat} (hx : x < 18446744073709551616) (hy : y < 18446744073709551616) (h : ∀ j, j < 64 → x.testBit j = y.testBit j) : x = y := by
  refine Nat.eq_of_testBit_eq fun j => ?_
  rcases Nat.lt_or_ge j 64 with hj | hj
  · exact h j hj
  · have : (18446744073709551616 : Nat) ≤ 2 ^ j := Nat.pow_le_pow_right (n := 2) (i := 64) (by decide) hj
    rw [Nat.testBit_lt_two_pow (by omega), Nat.testBit_lt_two_pow (by omega)]
theorem bits_ext {a b : T_Bits} (ha : OkB a) (hb : OkB b) (h : ∀ i j, i < 4 → j < 64 → (wn a i).testBit j = (wn b i).testBit j) : a = b := by
  have key : ∀ i, i < 4 → wd a i = wd b i := by
    intro i hi
    have e := tb_ext (wn_lt ha i) (wn_lt hb i) (fun j hj => h i j hi hj)
    have h1 := (ha.wd i).1
    have h2 := (hb.wd i).1
    unfold wn at e
    omega
  have k0 := key 0 (by omega)
  have k1 := key 1 (by omega)
  have k2 := key 2 (by omega)
  have k3 := key 3 (by omega)
  cases a; cases b
  simp only [wd] at k0 k1 k2 k3
  simp [k0, k1, k2, k3]
theorem tb_max {j : Nat} (hj : j < 64) : (18446744073709551615 : Nat).testBit j = true := by
  have := Nat.testBit_two_pow_sub_one 64 j
  simp only [Nat.reducePow, Nat.reduceSub] at this
  rw [this]; simpa using hj
theorem andN_bit {x y j : Nat} (hj : j < 64) : (andN x y).testBit j = (x.testBit j && !y.testBit j) := by
  unfold andN
  rw [Nat.testBit_and, Nat.testBit_xor, tb_max hj]; cases y.testBit j <;> simp
theorem mapW_get {f : Nat → Nat → Nat} {a b : T_Bits} {j : Nat} (hj : j < 4) : wn (mapW f a b) j = f (wn a j) (wn b j) := by
  unfold mapW; rw [uptoW_get (by omega) hj, if_pos hj]
/-- word by word is bit by bit -/
theorem coll_map {f : Nat → Nat → Nat} {g : Bool → Bool → Bool} {a b : T_Bits} (ha : OkB a) (hf : ∀ i, f (wn a i) (wn b i) < 18446744073709551616) (hg : ∀ x y j, j < 64 → (f x y).testBit j = g (x.testBit j) (y.testBit j)) : coll (fun k => g (hasB a k) (hasB b k)) 256 = mapW f a b := by
  refine bits_ext (coll_ok _) (uptoW_ok ha hf 4) fun i j hi hj => ?_
  rw [coll_bit hi hj (by omega), mapW_get hi, hg _ _ _ hj, hasB_at hj, hasB_at hj]
  have : 64 * i + j < 256 := by omega
  simp [this]
theorem mapW_ok {f : Nat → Nat → Nat} {a b : T_Bits} (ha : OkB a) (hf : ∀ i, f (wn a i) (wn b i) < 18446744073709551616) : OkB (mapW f a b) := uptoW_ok ha hf 4
def G2 := addG (addG (addG (addG (addG G1 31 conHas) 29 conHas) 20 (conBin (· &&& ·))) 22 (conBin (· ||| ·))) 24 (conBin andN)
theorem env2 : EnvV Tryd.prog tt.get G2 := ((((env1.add rhas_ok).add has_ok).add and_ok).add or_ok).add andnot_ok
theorem G2_right : G2 45 = con1 rightB := rfl
theorem G2_rright : G2 47 = con1 rightB := rfl
theorem G2_one : G2 46 = conOne := rfl
theorem G2_put : G2 48 = conPut := rfl
theorem G2_rhas : G2 31 = conHas := rfl
theorem G2_has : G2 29 = conHas := rfl
theorem right_at {k : Nat} (h : k < 256) : rightB ((k : Int) + 1) = true := by simp [rightB]; omega
theorem kp1 {k : Nat} : ((k : Int) + 1 - 1).toNat = k := by omega
theorem wrap_kp2 {k : Nat} (h : k < 256) : wrapA .i64 ((k : Int) + 1 + 1) = ((k + 1 : Nat) : Int) + 1 := by rw [wrap64 (by omega) (by omega)]; omega
theorem coll_pos {p : Nat → Bool} {k : Nat} (h : p k = true) : coll p (k + 1) = putB (coll p k) k := by rw [coll, if_pos h]
theorem coll_neg {p : Nat → Bool} {k : Nat} (h : p k = false) : coll p (k + 1) = coll p k := by rw [coll, if_neg (by simp [h])]
def stColl (hp : Hp) (top : Nat) (p : Nat → Bool) (a b : T_Bits) (k : Nat) : SS := ⟨[(2, .pointer (some ⟨top, 0, none⟩), true), (3, .pointer (some ⟨top + 1, 0, none⟩), true), (4, .pointer (some ⟨top + 2, 0, none⟩), true), (5, .pointer (some ⟨top + 3, 0, none⟩), true), (6, .int .i64 ((k : Int) + 1), true)], hp.sets [(top, some (.cells true 0 (bl a))), (top + 1, some (.cells true 0 (bl b))), (top + 2, some (.cells true 0 (bl zb))), (top + 3, some (.cells true 0 (bl (coll p k))))], top + 4⟩
theorem bl_zb : bl zb = [.int .u64 0, .int .u64 0, .int .u64 0, .int .u64 0] := rfl
theorem coll_step {p : Nat → Bool} {k : Nat} {v : Bool} (h : p k = v) : coll p (k + 1) = cond v (putB (coll p k) k) (coll p k) := by
  cases v with
  | true => exact coll_pos h
  | false => exact coll_neg h

theorem rand_ok : ConOk Tryd.prog 21 (conBin (· &&& ·)) := by
  refine .mkRd fn21_ok ?_ ?_
  · rintro args hp h
    match args, h with
    | [_, _], ⟨⟨a, rfl, ha⟩, ⟨b, rfl, hb⟩⟩ => rfl
  intro args hp hpre top hcl hsc
  match args, hpre with
  | [_, _], ⟨⟨a, rfl, ha⟩, ⟨b, rfl, hb⟩⟩ =>
  refine CalledOk.of_fun tt_ok fn21_ok rfl 23 rfl [.cell 4 25] rfl (show 2 ≤ 23 by decide) ?_
  refine CW.vc env2 [0, 1, 2, 3, 4, 5, 6, 8, 18] (by kernel_rfl) ?_
  (simp only [go_sem, reduceIte, reduceCtorEq, Nat.reduceAdd, Nat.reduceMul, Nat.reduceSub, Nat.reduceLT, Nat.reduceLeDiff, Nat.reduceEqDiff, Int.reduceEq, Int.reduceLT, Int.reduceLE, Int.reduceNe, rem64, mask64, c_iu, wrapu_mod, bl_len, bl_take, bl_ren, bl_app, bl_one, bOf_bl, Nat.mul_one, G2_right, G2_rright, G2_one, G2_put, G2_rhas, G2_has, con1, conOne, conPut, conHas]; repeat (refine Vc.mk' ?_; simp only [go_sem, reduceIte, reduceCtorEq, Nat.reduceAdd, Nat.reduceMul, Nat.reduceSub, Nat.reduceLT, Nat.reduceLeDiff, Nat.reduceEqDiff, Int.reduceEq, Int.reduceLT, Int.reduceLE, Int.reduceNe, rem64, mask64, c_iu, wrapu_mod, bl_len, bl_take, bl_ren, bl_app, bl_one, bOf_bl, Nat.mul_one, G2_right, G2_rright, G2_one, G2_put, G2_rhas, G2_has, con1, conOne, conPut, conHas]))
  have hm : coll (fun k => (hasB a k && hasB b k)) 256 = mapW (· &&& ·) a b := coll_map (g := fun x y => (x && y)) ha (fun i => and_lt (wn_lt ha i)) (fun x y j hj => Nat.testBit_and ..)
  generalize hq : (fun k => (hasB a k && hasB b k)) = q at hm
  refine CW.loopR (stColl hp top q a b) (fun k => k ≤ 256) (fun k => 256 - k) 0 (by omega) ?_ ?_
  · exact SubR.mk' [top, top + 1, top + 2, top + 3] hcl (by simp) (by simp) rfl (frSub_ok (by simp [frSub, lkG, ren, renL, renL_set, renL_ints, UpdOk.nil, UpdOk.cons, renOO_some, renO_cells, renO_map, renOO_mkOb, rn_base, rn_add, ren_mkSl, Enc.flat_ren, set_same, set_ne, sets_cons, sets_nil, Keep.set, Keep.setK, Keep.refl, bl_ren, show coll q 0 = zb from rfl, bl_zb])) (by simp [frSub, lkG, ren, renL, renL_set, renL_ints, UpdOk.nil, UpdOk.cons, renOO_some, renO_cells, renO_map, renOO_mkOb, rn_base, rn_add, ren_mkSl, Enc.flat_ren, set_same, set_ne, sets_cons, sets_nil, Keep.set, Keep.setK, Keep.refl, bl_ren, show coll q 0 = zb from rfl, bl_zb]) (by simp [frSub, lkG, ren, renL, renL_set, renL_ints, UpdOk.nil, UpdOk.cons, renOO_some, renO_cells, renO_map, renOO_mkOb, rn_base, rn_add, ren_mkSl, Enc.flat_ren, set_same, set_ne, sets_cons, sets_nil, Keep.set, Keep.setK, Keep.refl, bl_ren, show coll q 0 = zb from rfl, bl_zb])
  · rintro k hi
    by_cases hlt : k < 256
    · have h4 : (k : Int) + 1 ≤ 256 := by omega
      have h6 : ¬ (256 : Int) < (k : Int) + 1 := by omega
      have h5 : 1 ≤ (k : Int) + 1 := by omega
      have hIa := isBits_bl ha
      have hIb := isBits_bl hb
      have hIc := isBits_bl (coll_ok (p := q) k)
      have hqk : q k = (hasB a k && hasB b k) := by rw [← hq]
      cases hA : hasB a k <;> cases hB : hasB b k <;> rw [hA, hB] at hqk
      all_goals
        refine CW.vc env2 [0, 1, 2, 3, 4, 5, 6, 8, 18] (by kernel_rfl) ?_
        (simp only [go_sem, reduceIte, reduceCtorEq, Nat.reduceAdd, Nat.reduceMul, Nat.reduceSub, Nat.reduceLT, Nat.reduceLeDiff, Nat.reduceEqDiff, Int.reduceEq, Int.reduceLT, Int.reduceLE, Int.reduceNe, rem64, mask64, c_iu, wrapu_mod, bl_len, bl_take, bl_ren, bl_app, bl_one, bOf_bl, Nat.mul_one, G2_right, G2_rright, G2_one, G2_put, G2_rhas, G2_has, con1, conOne, conPut, conHas, stColl, h4, h5, h6, hIa, hIb, hIc, right_at hlt, kp1, hA, hB, wrap_kp2 hlt, Bool.true_and, Bool.and_true, Bool.not_true, Bool.not_false]; repeat (refine Vc.mk' ?_; simp only [go_sem, reduceIte, reduceCtorEq, Nat.reduceAdd, Nat.reduceMul, Nat.reduceSub, Nat.reduceLT, Nat.reduceLeDiff, Nat.reduceEqDiff, Int.reduceEq, Int.reduceLT, Int.reduceLE, Int.reduceNe, rem64, mask64, c_iu, wrapu_mod, bl_len, bl_take, bl_ren, bl_app, bl_one, bOf_bl, Nat.mul_one, G2_right, G2_rright, G2_one, G2_put, G2_rhas, G2_has, con1, conOne, conPut, conHas, stColl, h4, h5, h6, hIa, hIb, hIc, right_at hlt, kp1, hA, hB, wrap_kp2 hlt, Bool.true_and, Bool.and_true, Bool.not_true, Bool.not_false]))
        refine .mk (k + 1) hlt (by omega) (SubR.mk' [top, top + 1, top + 2, top + 3] hcl (by simp) (by simp) rfl (frSub_ok (by simp [frSub, lkG, ren, renL, renL_set, renL_ints, UpdOk.nil, UpdOk.cons, renOO_some, renO_cells, renO_map, renOO_mkOb, rn_base, rn_add, ren_mkSl, Enc.flat_ren, set_same, set_ne, sets_cons, sets_nil, Keep.set, Keep.setK, Keep.refl, bl_ren, coll_step hqk])) (by simp [frSub, lkG, ren, renL, renL_set, renL_ints, UpdOk.nil, UpdOk.cons, renOO_some, renO_cells, renO_map, renOO_mkOb, rn_base, rn_add, ren_mkSl, Enc.flat_ren, set_same, set_ne, sets_cons, sets_nil, Keep.set, Keep.setK, Keep.refl, bl_ren, coll_step hqk]) (by simp [frSub, lkG, ren, renL, renL_set, renL_ints, UpdOk.nil, UpdOk.cons, renOO_some, renO_cells, renO_map, renOO_mkOb, rn_base, rn_add, ren_mkSl, Enc.flat_ren, set_same, set_ne, sets_cons, sets_nil, Keep.set, Keep.setK, Keep.refl, bl_ren, coll_step hqk]))
    · have hi4 : k = 256 := by omega
      have h4 : (256 : Int) < (k : Int) + 1 := by omega
      refine CW.vc env2 [0, 1, 2, 3, 4, 5, 6, 8, 18] (by kernel_rfl) ?_
      (simp only [go_sem, reduceIte, reduceCtorEq, Nat.reduceAdd, Nat.reduceMul, Nat.reduceSub, Nat.reduceLT, Nat.reduceLeDiff, Nat.reduceEqDiff, Int.reduceEq, Int.reduceLT, Int.reduceLE, Int.reduceNe, rem64, mask64, c_iu, wrapu_mod, bl_len, bl_take, bl_ren, bl_app, bl_one, bOf_bl, Nat.mul_one, stColl, h4]; repeat (refine Vc.mk' ?_; simp only [go_sem, reduceIte, reduceCtorEq, Nat.reduceAdd, Nat.reduceMul, Nat.reduceSub, Nat.reduceLT, Nat.reduceLeDiff, Nat.reduceEqDiff, Int.reduceEq, Int.reduceLT, Int.reduceLE, Int.reduceNe, rem64, mask64, c_iu, wrapu_mod, bl_len, bl_take, bl_ren, bl_app, bl_one, bOf_bl, Nat.mul_one, stColl, h4]))
      rw [hi4, hm]

theorem ror_ok : ConOk Tryd.prog 23 (conBin (· ||| ·)) := by
  refine .mkRd fn23_ok ?_ ?_
  · rintro args hp h
    match args, h with
    | [_, _], ⟨⟨a, rfl, ha⟩, ⟨b, rfl, hb⟩⟩ => rfl
  intro args hp hpre top hcl hsc
  match args, hpre with
  | [_, _], ⟨⟨a, rfl, ha⟩, ⟨b, rfl, hb⟩⟩ =>
  refine CalledOk.of_fun tt_ok fn23_ok rfl 23 rfl [.cell 4 25] rfl (show 2 ≤ 23 by decide) ?_
  refine CW.vc env2 [0, 1, 2, 3, 4, 5, 6, 8, 18] (by kernel_rfl) ?_
  (simp only [go_sem, reduceIte, reduceCtorEq, Nat.reduceAdd, Nat.reduceMul, Nat.reduceSub, Nat.reduceLT, Nat.reduceLeDiff, Nat.reduceEqDiff, Int.reduceEq, Int.reduceLT, Int.reduceLE, Int.reduceNe, rem64, mask64, c_iu, wrapu_mod, bl_len, bl_take, bl_ren, bl_app, bl_one, bOf_bl, Nat.mul_one, G2_right, G2_rright, G2_one, G2_put, G2_rhas, G2_has, con1, conOne, conPut, conHas]; repeat (refine Vc.mk' ?_; simp only [go_sem, reduceIte, reduceCtorEq, Nat.reduceAdd, Nat.reduceMul, Nat.reduceSub, Nat.reduceLT, Nat.reduceLeDiff, Nat.reduceEqDiff, Int.reduceEq, Int.reduceLT, Int.reduceLE, Int.reduceNe, rem64, mask64, c_iu, wrapu_mod, bl_len, bl_take, bl_ren, bl_app, bl_one, bOf_bl, Nat.mul_one, G2_right, G2_rright, G2_one, G2_put, G2_rhas, G2_has, con1, conOne, conPut, conHas]))
  have hm : coll (fun k => (hasB a k || hasB b k)) 256 = mapW (· ||| ·) a b := coll_map (g := fun x y => (x || y)) ha (fun i => or_lt (wn_lt ha i) (wn_lt hb i)) (fun x y j hj => Nat.testBit_or ..)
  generalize hq : (fun k => (hasB a k || hasB b k)) = q at hm
  refine CW.loopR (stColl hp top q a b) (fun k => k ≤ 256) (fun k => 256 - k) 0 (by omega) ?_ ?_
  · exact SubR.mk' [top, top + 1, top + 2, top + 3] hcl (by simp) (by simp) rfl (frSub_ok (by simp [frSub, lkG, ren, renL, renL_set, renL_ints, UpdOk.nil, UpdOk.cons, renOO_some, renO_cells, renO_map, renOO_mkOb, rn_base, rn_add, ren_mkSl, Enc.flat_ren, set_same, set_ne, sets_cons, sets_nil, Keep.set, Keep.setK, Keep.refl, bl_ren, show coll q 0 = zb from rfl, bl_zb])) (by simp [frSub, lkG, ren, renL, renL_set, renL_ints, UpdOk.nil, UpdOk.cons, renOO_some, renO_cells, renO_map, renOO_mkOb, rn_base, rn_add, ren_mkSl, Enc.flat_ren, set_same, set_ne, sets_cons, sets_nil, Keep.set, Keep.setK, Keep.refl, bl_ren, show coll q 0 = zb from rfl, bl_zb]) (by simp [frSub, lkG, ren, renL, renL_set, renL_ints, UpdOk.nil, UpdOk.cons, renOO_some, renO_cells, renO_map, renOO_mkOb, rn_base, rn_add, ren_mkSl, Enc.flat_ren, set_same, set_ne, sets_cons, sets_nil, Keep.set, Keep.setK, Keep.refl, bl_ren, show coll q 0 = zb from rfl, bl_zb])
  · rintro k hi
    by_cases hlt : k < 256
    · have h4 : (k : Int) + 1 ≤ 256 := by omega
      have h6 : ¬ (256 : Int) < (k : Int) + 1 := by omega
      have h5 : 1 ≤ (k : Int) + 1 := by omega
      have hIa := isBits_bl ha
      have hIb := isBits_bl hb
      have hIc := isBits_bl (coll_ok (p := q) k)
      have hqk : q k = (hasB a k || hasB b k) := by rw [← hq]
      cases hA : hasB a k <;> cases hB : hasB b k <;> rw [hA, hB] at hqk
      all_goals
        refine CW.vc env2 [0, 1, 2, 3, 4, 5, 6, 8, 18] (by kernel_rfl) ?_
        (simp only [go_sem, reduceIte, reduceCtorEq, Nat.reduceAdd, Nat.reduceMul, Nat.reduceSub, Nat.reduceLT, Nat.reduceLeDiff, Nat.reduceEqDiff, Int.reduceEq, Int.reduceLT, Int.reduceLE, Int.reduceNe, rem64, mask64, c_iu, wrapu_mod, bl_len, bl_take, bl_ren, bl_app, bl_one, bOf_bl, Nat.mul_one, G2_right, G2_rright, G2_one, G2_put, G2_rhas, G2_has, con1, conOne, conPut, conHas, stColl, h4, h5, h6, hIa, hIb, hIc, right_at hlt, kp1, hA, hB, wrap_kp2 hlt, Bool.true_and, Bool.and_true, Bool.not_true, Bool.not_false]; repeat (refine Vc.mk' ?_; simp only [go_sem, reduceIte, reduceCtorEq, Nat.reduceAdd, Nat.reduceMul, Nat.reduceSub, Nat.reduceLT, Nat.reduceLeDiff, Nat.reduceEqDiff, Int.reduceEq, Int.reduceLT, Int.reduceLE, Int.reduceNe, rem64, mask64, c_iu, wrapu_mod, bl_len, bl_take, bl_ren, bl_app, bl_one, bOf_bl, Nat.mul_one, G2_right, G2_rright, G2_one, G2_put, G2_rhas, G2_has, con1, conOne, conPut, conHas, stColl, h4, h5, h6, hIa, hIb, hIc, right_at hlt, kp1, hA, hB, wrap_kp2 hlt, Bool.true_and, Bool.and_true, Bool.not_true, Bool.not_false]))
        refine .mk (k + 1) hlt (by omega) (SubR.mk' [top, top + 1, top + 2, top + 3] hcl (by simp) (by simp) rfl (frSub_ok (by simp [frSub, lkG, ren, renL, renL_set, renL_ints, UpdOk.nil, UpdOk.cons, renOO_some, renO_cells, renO_map, renOO_mkOb, rn_base, rn_add, ren_mkSl, Enc.flat_ren, set_same, set_ne, sets_cons, sets_nil, Keep.set, Keep.setK, Keep.refl, bl_ren, coll_step hqk])) (by simp [frSub, lkG, ren, renL, renL_set, renL_ints, UpdOk.nil, UpdOk.cons, renOO_some, renO_cells, renO_map, renOO_mkOb, rn_base, rn_add, ren_mkSl, Enc.flat_ren, set_same, set_ne, sets_cons, sets_nil, Keep.set, Keep.setK, Keep.refl, bl_ren, coll_step hqk]) (by simp [frSub, lkG, ren, renL, renL_set, renL_ints, UpdOk.nil, UpdOk.cons, renOO_some, renO_cells, renO_map, renOO_mkOb, rn_base, rn_add, ren_mkSl, Enc.flat_ren, set_same, set_ne, sets_cons, sets_nil, Keep.set, Keep.setK, Keep.refl, bl_ren, coll_step hqk]))
    · have hi4 : k = 256 := by omega
      have h4 : (256 : Int) < (k : Int) + 1 := by omega
      refine CW.vc env2 [0, 1, 2, 3, 4, 5, 6, 8, 18] (by kernel_rfl) ?_
      (simp only [go_sem, reduceIte, reduceCtorEq, Nat.reduceAdd, Nat.reduceMul, Nat.reduceSub, Nat.reduceLT, Nat.reduceLeDiff, Nat.reduceEqDiff, Int.reduceEq, Int.reduceLT, Int.reduceLE, Int.reduceNe, rem64, mask64, c_iu, wrapu_mod, bl_len, bl_take, bl_ren, bl_app, bl_one, bOf_bl, Nat.mul_one, stColl, h4]; repeat (refine Vc.mk' ?_; simp only [go_sem, reduceIte, reduceCtorEq, Nat.reduceAdd, Nat.reduceMul, Nat.reduceSub, Nat.reduceLT, Nat.reduceLeDiff, Nat.reduceEqDiff, Int.reduceEq, Int.reduceLT, Int.reduceLE, Int.reduceNe, rem64, mask64, c_iu, wrapu_mod, bl_len, bl_take, bl_ren, bl_app, bl_one, bOf_bl, Nat.mul_one, stColl, h4]))
      rw [hi4, hm]

theorem randnot_ok : ConOk Tryd.prog 25 (conBin andN) := by
  refine .mkRd fn25_ok ?_ ?_
  · rintro args hp h
    match args, h with
    | [_, _], ⟨⟨a, rfl, ha⟩, ⟨b, rfl, hb⟩⟩ => rfl
  intro args hp hpre top hcl hsc
  match args, hpre with
  | [_, _], ⟨⟨a, rfl, ha⟩, ⟨b, rfl, hb⟩⟩ =>
  refine CalledOk.of_fun tt_ok fn25_ok rfl 24 rfl [.cell 4 25] rfl (show 2 ≤ 24 by decide) ?_
  refine CW.vc env2 [0, 1, 2, 3, 4, 5, 6, 8, 19] (by kernel_rfl) ?_
  (simp only [go_sem, reduceIte, reduceCtorEq, Nat.reduceAdd, Nat.reduceMul, Nat.reduceSub, Nat.reduceLT, Nat.reduceLeDiff, Nat.reduceEqDiff, Int.reduceEq, Int.reduceLT, Int.reduceLE, Int.reduceNe, rem64, mask64, c_iu, wrapu_mod, bl_len, bl_take, bl_ren, bl_app, bl_one, bOf_bl, Nat.mul_one, G2_right, G2_rright, G2_one, G2_put, G2_rhas, G2_has, con1, conOne, conPut, conHas]; repeat (refine Vc.mk' ?_; simp only [go_sem, reduceIte, reduceCtorEq, Nat.reduceAdd, Nat.reduceMul, Nat.reduceSub, Nat.reduceLT, Nat.reduceLeDiff, Nat.reduceEqDiff, Int.reduceEq, Int.reduceLT, Int.reduceLE, Int.reduceNe, rem64, mask64, c_iu, wrapu_mod, bl_len, bl_take, bl_ren, bl_app, bl_one, bOf_bl, Nat.mul_one, G2_right, G2_rright, G2_one, G2_put, G2_rhas, G2_has, con1, conOne, conPut, conHas]))
  have hm : coll (fun k => (hasB a k && !hasB b k)) 256 = mapW andN a b := coll_map (g := fun x y => (x && !y)) ha (fun i => and_lt (wn_lt ha i)) (fun x y j hj => andN_bit hj)
  generalize hq : (fun k => (hasB a k && !hasB b k)) = q at hm
  refine CW.loopR (stColl hp top q a b) (fun k => k ≤ 256) (fun k => 256 - k) 0 (by omega) ?_ ?_
  · exact SubR.mk' [top, top + 1, top + 2, top + 3] hcl (by simp) (by simp) rfl (frSub_ok (by simp [frSub, lkG, ren, renL, renL_set, renL_ints, UpdOk.nil, UpdOk.cons, renOO_some, renO_cells, renO_map, renOO_mkOb, rn_base, rn_add, ren_mkSl, Enc.flat_ren, set_same, set_ne, sets_cons, sets_nil, Keep.set, Keep.setK, Keep.refl, bl_ren, show coll q 0 = zb from rfl, bl_zb])) (by simp [frSub, lkG, ren, renL, renL_set, renL_ints, UpdOk.nil, UpdOk.cons, renOO_some, renO_cells, renO_map, renOO_mkOb, rn_base, rn_add, ren_mkSl, Enc.flat_ren, set_same, set_ne, sets_cons, sets_nil, Keep.set, Keep.setK, Keep.refl, bl_ren, show coll q 0 = zb from rfl, bl_zb]) (by simp [frSub, lkG, ren, renL, renL_set, renL_ints, UpdOk.nil, UpdOk.cons, renOO_some, renO_cells, renO_map, renOO_mkOb, rn_base, rn_add, ren_mkSl, Enc.flat_ren, set_same, set_ne, sets_cons, sets_nil, Keep.set, Keep.setK, Keep.refl, bl_ren, show coll q 0 = zb from rfl, bl_zb])
  · rintro k hi
    by_cases hlt : k < 256
    · have h4 : (k : Int) + 1 ≤ 256 := by omega
      have h6 : ¬ (256 : Int) < (k : Int) + 1 := by omega
      have h5 : 1 ≤ (k : Int) + 1 := by omega
      have hIa := isBits_bl ha
      have hIb := isBits_bl hb
      have hIc := isBits_bl (coll_ok (p := q) k)
      have hqk : q k = (hasB a k && !hasB b k) := by rw [← hq]
      cases hA : hasB a k <;> cases hB : hasB b k <;> rw [hA, hB] at hqk
      all_goals
        refine CW.vc env2 [0, 1, 2, 3, 4, 5, 6, 8, 19] (by kernel_rfl) ?_
        (simp only [go_sem, reduceIte, reduceCtorEq, Nat.reduceAdd, Nat.reduceMul, Nat.reduceSub, Nat.reduceLT, Nat.reduceLeDiff, Nat.reduceEqDiff, Int.reduceEq, Int.reduceLT, Int.reduceLE, Int.reduceNe, rem64, mask64, c_iu, wrapu_mod, bl_len, bl_take, bl_ren, bl_app, bl_one, bOf_bl, Nat.mul_one, G2_right, G2_rright, G2_one, G2_put, G2_rhas, G2_has, con1, conOne, conPut, conHas, stColl, h4, h5, h6, hIa, hIb, hIc, right_at hlt, kp1, hA, hB, wrap_kp2 hlt, Bool.true_and, Bool.and_true, Bool.not_true, Bool.not_false]; repeat (refine Vc.mk' ?_; simp only [go_sem, reduceIte, reduceCtorEq, Nat.reduceAdd, Nat.reduceMul, Nat.reduceSub, Nat.reduceLT, Nat.reduceLeDiff, Nat.reduceEqDiff, Int.reduceEq, Int.reduceLT, Int.reduceLE, Int.reduceNe, rem64, mask64, c_iu, wrapu_mod, bl_len, bl_take, bl_ren, bl_app, bl_one, bOf_bl, Nat.mul_one, G2_right, G2_rright, G2_one, G2_put, G2_rhas, G2_has, con1, conOne, conPut, conHas, stColl, h4, h5, h6, hIa, hIb, hIc, right_at hlt, kp1, hA, hB, wrap_kp2 hlt, Bool.true_and, Bool.and_true, Bool.not_true, Bool.not_false]))
        refine .mk (k + 1) hlt (by omega) (SubR.mk' [top, top + 1, top + 2, top + 3] hcl (by simp) (by simp) rfl (frSub_ok (by simp [frSub, lkG, ren, renL, renL_set, renL_ints, UpdOk.nil, UpdOk.cons, renOO_some, renO_cells, renO_map, renOO_mkOb, rn_base, rn_add, ren_mkSl, Enc.flat_ren, set_same, set_ne, sets_cons, sets_nil, Keep.set, Keep.setK, Keep.refl, bl_ren, coll_step hqk])) (by simp [frSub, lkG, ren, renL, renL_set, renL_ints, UpdOk.nil, UpdOk.cons, renOO_some, renO_cells, renO_map, renOO_mkOb, rn_base, rn_add, ren_mkSl, Enc.flat_ren, set_same, set_ne, sets_cons, sets_nil, Keep.set, Keep.setK, Keep.refl, bl_ren, coll_step hqk]) (by simp [frSub, lkG, ren, renL, renL_set, renL_ints, UpdOk.nil, UpdOk.cons, renOO_some, renO_cells, renO_map, renOO_mkOb, rn_base, rn_add, ren_mkSl, Enc.flat_ren, set_same, set_ne, sets_cons, sets_nil, Keep.set, Keep.setK, Keep.refl, bl_ren, coll_step hqk]))
    · have hi4 : k = 256 := by omega
      have h4 : (256 : Int) < (k : Int) + 1 := by omega
      refine CW.vc env2 [0, 1, 2, 3, 4, 5, 6, 8, 19] (by kernel_rfl) ?_
      (simp only [go_sem, reduceIte, reduceCtorEq, Nat.reduceAdd, Nat.reduceMul, Nat.reduceSub, Nat.reduceLT, Nat.reduceLeDiff, Nat.reduceEqDiff, Int.reduceEq, Int.reduceLT, Int.reduceLE, Int.reduceNe, rem64, mask64, c_iu, wrapu_mod, bl_len, bl_take, bl_ren, bl_app, bl_one, bOf_bl, Nat.mul_one, stColl, h4]; repeat (refine Vc.mk' ?_; simp only [go_sem, reduceIte, reduceCtorEq, Nat.reduceAdd, Nat.reduceMul, Nat.reduceSub, Nat.reduceLT, Nat.reduceLeDiff, Nat.reduceEqDiff, Int.reduceEq, Int.reduceLT, Int.reduceLE, Int.reduceNe, rem64, mask64, c_iu, wrapu_mod, bl_len, bl_take, bl_ren, bl_app, bl_one, bOf_bl, Nat.mul_one, stColl, h4]))
      rw [hi4, hm]
end Go.Proofs.YtkofmbhopmgmhaaDoor.Dm
