/- The graph package: what may be; the graph of a square of costs. -/
import Derived.Test.YtmppehipfpkepaaDmK
set_option linter.unusedSimpArgs false
set_option linter.unusedVariables false
namespace Go.Proofs.Ytmppehipfpkepaa.Gr
open Go.Dm Go.Proofs.Ytmppehipfpkepaa.Dm
set_option maxHeartbeats 4000000
theorem bool_eq {a b : Bool} (h : a = true ↔ b = true) : Value.bool a = Value.bool b := by rw [Bool.eq_iff_iff.2 h]
theorem drop_at {α : Type} [Inhabited α] {l : List α} {k : Nat} (h : k < l.length) : l.drop k = at' l k :: l.drop (k + 1) := by rw [at'_get _ _ h]; exact List.drop_eq_getElem_cons h
theorem take_at {α : Type} [Inhabited α] {l : List α} {k : Nat} (h : k < l.length) : l.take (k + 1) = l.take k ++ [at' l k] := by rw [at'_get _ _ h]; exact List.take_succ_eq_append_getElem h
theorem at_mem {α : Type} [Inhabited α] {l : List α} {k : Nat} (h : k < l.length) : at' l k ∈ l := by rw [at'_get _ _ h]; exact List.getElem_mem h
def G0 : FuncId → Con := fun _ => .none
theorem env0 : EnvV Try.prog tt.get G0 := ⟨tt_ok, fun _ => trivial⟩
def routerB (a : Int) : Bool := decide (1 ≤ a) && decide (a ≤ 24)
def costB (a : Int) : Bool := decide (1 ≤ a) && decide (a ≤ 1000)
def con1 (f : Int → Bool) : Con := .pure (fun args _ => match args with | [x] => IsI .i64 x | _ => False) (fun args _ => match args with | [x] => .bool (f (intOf x)) | _ => undef)
theorem router_ok : ConOk Try.prog 67 (con1 routerB) := by
  refine .mkPure fn67_ok ?_
  intro args hp hpre top
  match args, hpre with
  | [x], hx =>
  rw [hx]
  refine CalledOk.of_fun tt_ok fn67_ok rfl 9 rfl [.tmp 2] rfl (show 1 ≤ 9 by decide) ?_
  refine CW.vc env0 [0, 2] (by kernel_rfl) ?_
  (repeat ((try refine Vc.mk' ?_); simp only [go_sem, reduceIte, reduceCtorEq, Nat.reduceAdd, Nat.reduceMul, Nat.reduceSub, Nat.reduceLT, Nat.reduceLeDiff, Nat.reduceEqDiff, Int.reduceEq, Int.reduceLT, Int.reduceLE, Int.reduceNe]))
  refine bool_eq ?_
  simp [routerB]; try omega
theorem cost_ok : ConOk Try.prog 68 (con1 costB) := by
  refine .mkPure fn68_ok ?_
  intro args hp hpre top
  match args, hpre with
  | [x], hx =>
  rw [hx]
  refine CalledOk.of_fun tt_ok fn68_ok rfl 9 rfl [.tmp 2] rfl (show 1 ≤ 9 by decide) ?_
  refine CW.vc env0 [0, 2] (by kernel_rfl) ?_
  (repeat ((try refine Vc.mk' ?_); simp only [go_sem, reduceIte, reduceCtorEq, Nat.reduceAdd, Nat.reduceMul, Nat.reduceSub, Nat.reduceLT, Nat.reduceLeDiff, Nat.reduceEqDiff, Int.reduceEq, Int.reduceLT, Int.reduceLE, Int.reduceNe]))
  refine bool_eq ?_
  simp [costB]; try omega
theorem rrouter_ok : ConOk Try.prog 71 (con1 routerB) := by
  refine .mkPure fn71_ok ?_
  intro args hp hpre top
  match args, hpre with
  | [x], hx =>
  rw [hx]
  refine CalledOk.of_fun tt_ok fn71_ok rfl 9 rfl [.tmp 2] rfl (show 1 ≤ 9 by decide) ?_
  refine CW.vc env0 [0, 2] (by kernel_rfl) ?_
  (repeat ((try refine Vc.mk' ?_); simp only [go_sem, reduceIte, reduceCtorEq, Nat.reduceAdd, Nat.reduceMul, Nat.reduceSub, Nat.reduceLT, Nat.reduceLeDiff, Nat.reduceEqDiff, Int.reduceEq, Int.reduceLT, Int.reduceLE, Int.reduceNe]))
  refine bool_eq ?_
  simp [routerB]; try omega
def G1 := addG (addG (addG G0 67 (con1 routerB)) 68 (con1 costB)) 71 (con1 routerB)
theorem env1 : EnvV Try.prog tt.get G1 := ((env0.add router_ok).add cost_ok).add rrouter_ok
set_option maxHeartbeats 4000000
theorem ren_agg {ρ : Nat → Nat} {l : List Value} : ren ρ (.agg ⟨l⟩) = .agg ⟨renL ρ l⟩ := rfl
def cS (s : List Int) (a b : Nat) : Int := (s[a * 25 + b]?).getD 0
def iS (is : List Bool) (a : Nat) : Bool := (is[a]?).getD false
def edgeN (s : List Int) (a b : Nat) : List T_Edge := if 0 < cS s a b ∧ 0 < cS s b a then [⟨(a : Int), (b : Int), cS s a b⟩] else []
def rowA (s : List Int) (a b : Nat) : List T_Edge := (List.range b).flatMap fun j => edgeN s a j
def nodesA (is : List Bool) (a : Nat) : List Int := ((List.range a).filter (iS is)).map fun (i : Nat) => (i : Int)
def edgesA (s : List Int) (is : List Bool) (a : Nat) : List T_Edge := (List.range a).flatMap fun i => if iS is i then rowA s i 25 else []
theorem nodesA_len (is : List Bool) (a : Nat) : (nodesA is a).length ≤ a := by
  unfold nodesA
  rw [List.length_map]
  exact Nat.le_trans (List.length_filter_le ..) (by simp)
theorem edgeN_len (s : List Int) (a b : Nat) : (edgeN s a b).length ≤ 1 := by unfold edgeN; split <;> simp
theorem rowA_succ (s : List Int) (a b : Nat) : rowA s a (b + 1) = rowA s a b ++ edgeN s a b := by simp [rowA, List.range_succ]
theorem rowA_len (s : List Int) (a : Nat) : ∀ b, (rowA s a b).length ≤ b
  | 0 => by simp [rowA]
  | b + 1 => by
    have := rowA_len s a b
    have h2 := edgeN_len s a b
    rw [rowA_succ, List.length_append]; omega
theorem edgesA_succ (s : List Int) (is : List Bool) (a : Nat) : edgesA s is (a + 1) = edgesA s is a ++ (if iS is a then rowA s a 25 else []) := by simp [edgesA, List.range_succ]
theorem edgesA_len (s : List Int) (is : List Bool) : ∀ a, (edgesA s is a).length ≤ a * 25
  | 0 => by simp [edgesA]
  | a + 1 => by
    have := edgesA_len s is a
    have h2 := rowA_len s a 25
    rw [edgesA_succ, List.length_append, Nat.succ_mul]
    split
    · omega
    · simp; omega
theorem nodesA_succ (is : List Bool) (a : Nat) : nodesA is (a + 1) = nodesA is a ++ (if iS is a then [(a : Int)] else []) := by
  unfold nodesA
  rw [List.range_succ, List.filter_append, List.map_append]
  cases h : iS is a <;> simp [h]
def sqOf (hp : Hp) (b : Nat) : List Int := match hp b with
  | some (.cells _ _ vs) => vs.map intOf
  | _ => []
def sqOk (hp : Hp) (b : Nat) : Prop := match hp b with
  | some (.cells _ _ vs) => vs = (vs.map intOf).map (Value.int .i64) ∧ vs.length = 625
  | _ => False
theorem sqOk_ex {hp : Hp} {b : Nat} (h : sqOk hp b) : ∃ rw z s, hp b = some (.cells rw z (s.map (Value.int .i64))) ∧ s.length = 625 ∧ sqOf hp b = s := by
  unfold sqOk at h
  split at h
  · rename_i rw z vs hb
    refine ⟨rw, z, vs.map intOf, by rw [hb, ← h.1], by simpa using h.2, by unfold sqOf; rw [hb]⟩
  · exact h.elim
theorem ints_back (l : List Int) : (l.map (Value.int .i64)).map intOf = l := by rw [List.map_map]; exact (List.map_congr_left (fun _ _ => rfl)).trans (List.map_id l)
theorem bools_back (l : List Bool) : (l.map Value.bool).map boolOf = l := by rw [List.map_map]; exact (List.map_congr_left (fun _ _ => rfl)).trans (List.map_id l)
def resG (nodes : List Int) (edges : List T_Edge) (top : Nat) : Value × Upds × Nat := (.agg ⟨[mkSl top nodes, mkSl (top + 1) edges]⟩, [(top, mkOb e_int nodes), (top + 1, mkOb e_Edge edges)], top + 2)
def conSq : Con := .det (fun args hp _ => match args with | [.pointer (some ⟨b, 0, none⟩), .agg ⟨cs⟩] => sqOk hp b ∧ cs = (cs.map boolOf).map Value.bool ∧ cs.length = 25 | _ => False) (fun args hp top => match args with
  | [.pointer (some ⟨b, 0, none⟩), .agg ⟨cs⟩] => resG (nodesA (cs.map boolOf) 25) (edgesA (sqOf hp b) (cs.map boolOf) 25) top
  | _ => (undef, [], top))
def stS (hp : Hp) (top b : Nat) (s : List Int) (is : List Bool) (a : Nat) : SS :=
  ⟨[(0, .pointer (some ⟨b, 0, none⟩), true), (4, .pointer (some ⟨top, 0, none⟩), true), (5, .pointer (some ⟨top + 1, 0, none⟩), true), (9, .agg ⟨is.map Value.bool⟩, true), (10, .int .i64 (a : Int), true)],
    hp.sets [(top, some (.cells true 0 [.slice none 0 0, .slice none 0 0])), (top + 1, some (.cells true 0 [mkSl (top + 2) (nodesA is a), mkSl (top + 3) (edgesA s is a)])), (top + 2, mkOb e_int (nodesA is a)), (top + 3, mkOb e_Edge (edgesA s is a))], top + 4⟩
def stT (hp : Hp) (top b : Nat) (s : List Int) (is : List Bool) (a j : Nat) : SS :=
  ⟨[(0, .pointer (some ⟨b, 0, none⟩), true), (4, .pointer (some ⟨top, 0, none⟩), true), (5, .pointer (some ⟨top + 1, 0, none⟩), true), (6, .int .i64 (a : Int), true), (9, .agg ⟨is.map Value.bool⟩, true), (10, .int .i64 (a : Int), true), (22, .int .i64 (j : Int), true)],
    hp.sets [(top, some (.cells true 0 [.slice none 0 0, .slice none 0 0])), (top + 1, some (.cells true 0 [mkSl (top + 2) (nodesA is (a + 1)), mkSl (top + 3) (edgesA s is a ++ rowA s a j)])), (top + 2, mkOb e_int (nodesA is (a + 1))), (top + 3, mkOb e_Edge (edgesA s is a ++ rowA s a j))], top + 4⟩
theorem sq_ok : ConOk Try.prog 69 conSq := by
  refine .mkDet fn69_ok ?_
  intro args hp top hpre hcl hsc
  match args, hpre with
  | [.pointer (some ⟨b, 0, none⟩), .agg ⟨cs⟩], ⟨h1, h2, h3⟩ =>
  obtain ⟨rw_, z, s, hb, hsl, hso⟩ := sqOk_ex h1
  generalize hi : cs.map boolOf = is at h2
  have his : is.length = 25 := by rw [← hi]; simpa using h3
  subst h2
  simp only [hso, bools_back]
  have hbt := hcl.lt _ _ hb
  have htk : List.take 25 (is.map Value.bool) = is.map Value.bool := take_map_len his
  have hdr : List.drop 25 (is.map Value.bool) = [] := drop_map_len his
  have one : oneCells (is.map Value.bool) = true := one_bools
  refine CalledOk.of_fun tt_ok fn69_ok rfl 61 rfl [.cell 4 76] rfl (show 2 ≤ 61 by decide) ?_
  refine CW.vc env1 [0, 1, 3, 4, 5, 6, 7, 8, 9, 10, 11, 15, 22, 23, 42] (by kernel_rfl) ?_
  (repeat ((try refine Vc.mk' ?_); simp only [go_sem, reduceIte, reduceCtorEq, Nat.reduceAdd, Nat.reduceMul, Nat.reduceSub, Nat.reduceLT, Nat.reduceLeDiff, Nat.reduceEqDiff, Int.reduceEq, Int.reduceLT, Int.reduceLE, Int.reduceNe, hb, set_lt hbt, Nat.mul_one, get_ints, get_bools, his, hsl, List.length_map, ren_agg, one, htk, hdr]))
  refine CW.loopR (stS hp top b s is) (fun a => a ≤ 25) (fun a => 25 - a) 0 (Nat.zero_le _) ?_ ?_
  · exact (by refine SubR.mk' [top + 1, top + 2, top + 3, top + 4] hcl (by simp) (by simp) rfl (frSub_ok ?_) ?_ ?_ <;> simp [frSub, lkG, ren, renL, renL_set, renL_ints, UpdOk.nil, UpdOk.cons, renOO_some, renO_cells, renO_map, renOO_mkOb, rn_base, rn_add, ren_mkSl, Enc.flat_ren, set_same, set_ne, sets_cons, sets_nil, Keep.set, Keep.setK, Keep.refl, rm_m_int_bool, rm_m_message_Rule, rm_m_pair_bool, rm_m_pair_int, rn_low hbt, renL_bools, nodesA, edgesA, mkSl_nil, mkOb_nil])
  · intro a ha
    have hnl := nodesA_len is a
    have hel := edgesA_len s is a
    by_cases hlt : a < 25
    · have hlt2 : (a : Int) < 25 := by omega
      have hla : nodesA is (a + 1) = nodesA is a ++ (if iS is a then [(a : Int)] else []) := nodesA_succ is a
      have hw : wrapA .i64 ((a : Int) + 1) = ((a + 1 : Nat) : Int) := wrap_succ hlt (by decide)
      have hn16 : (nodesA is a).length < 16777216 := by omega
      cases hia : iS is a with
      | false =>
        have hia2 := hia
        unfold iS at hia2
        refine CW.vc env1 [0, 1, 3, 4, 5, 6, 7, 8, 9, 10, 11, 15, 22, 23, 42] (by kernel_rfl) ?_
        (repeat ((try refine Vc.mk' ?_); simp only [go_sem, reduceIte, reduceCtorEq, Nat.reduceAdd, Nat.reduceMul, Nat.reduceSub, Nat.reduceLT, Nat.reduceLeDiff, Nat.reduceEqDiff, Int.reduceEq, Int.reduceLT, Int.reduceLE, Int.reduceNe, hb, set_lt hbt, Nat.mul_one, get_ints, get_bools, his, hsl, List.length_map, ren_agg, stS, hlt, hlt2, hia2]))
        refine .mk (a + 1) hlt (by omega) ((by refine SubR.mk' [top, top + 1, top + 2, top + 3] hcl (by simp) (by simp) rfl (frSub_ok ?_) ?_ ?_ <;> simp [frSub, lkG, ren, renL, renL_set, renL_ints, UpdOk.nil, UpdOk.cons, renOO_some, renO_cells, renO_map, renOO_mkOb, rn_base, rn_add, ren_mkSl, Enc.flat_ren, set_same, set_ne, sets_cons, sets_nil, Keep.set, Keep.setK, Keep.refl, rm_m_int_bool, rm_m_message_Rule, rm_m_pair_bool, rm_m_pair_int, rn_low hbt, renL_bools, hw, nodesA_succ, edgesA_succ, hia]))
      | true =>
        have hia2 := hia
        unfold iS at hia2
        refine CW.vc env1 [0, 1, 3, 4, 5, 6, 7, 8, 9, 10, 11, 15, 22, 23, 42] (by kernel_rfl) ?_
        (repeat ((try refine Vc.mk' ?_); simp only [go_sem, reduceIte, reduceCtorEq, Nat.reduceAdd, Nat.reduceMul, Nat.reduceSub, Nat.reduceLT, Nat.reduceLeDiff, Nat.reduceEqDiff, Int.reduceEq, Int.reduceLT, Int.reduceLE, Int.reduceNe, hb, set_lt hbt, Nat.mul_one, get_ints, get_bools, his, hsl, List.length_map, ren_agg, stS, hlt, hlt2, hia2, hn16]))
        refine CW.loopR (stT hp top b s is a) (fun j => j ≤ 25) (fun j => 25 - j) 0 (Nat.zero_le _) ?_ ?_
        · exact (by refine SubR.mk' [top, top + 1, top + 5, top + 3] hcl (by simp) (by simp) rfl (frSub_ok ?_) ?_ ?_ <;> simp [frSub, lkG, ren, renL, renL_set, renL_ints, UpdOk.nil, UpdOk.cons, renOO_some, renO_cells, renO_map, renOO_mkOb, rn_base, rn_add, ren_mkSl, Enc.flat_ren, set_same, set_ne, sets_cons, sets_nil, Keep.set, Keep.setK, Keep.refl, rm_m_int_bool, rm_m_message_Rule, rm_m_pair_bool, rm_m_pair_int, rn_low hbt, renL_bools, nodesA_succ, hia, rowA])
        · intro j hj
          have hrl := rowA_len s a j
          by_cases hjl : j < 25
          · have hjl2 : (j : Int) < 25 := by omega
            have hw2 : wrapA .i64 ((j : Int) + 1) = ((j + 1 : Nat) : Int) := wrap_succ hjl (by decide)
            have i1 : a * 25 + j < 625 := by omega
            have i2 : j * 25 + a < 625 := by omega
            have h16 : (edgesA s is a ++ rowA s a j).length < 16777216 := by rw [List.length_append]; omega
            have c1 : (s[a * 25 + j]?).getD 0 = cS s a j := rfl
            have c2 : (s[j * 25 + a]?).getD 0 = cS s j a := rfl
            have hrs := rowA_succ s a j
            by_cases hc : 0 < cS s a j ∧ 0 < cS s j a
            · have he : edgeN s a j = [⟨(a : Int), (j : Int), cS s a j⟩] := by unfold edgeN; rw [if_pos hc]
              rw [he] at hrs
              refine CW.vc env1 [0, 1, 3, 4, 5, 6, 7, 8, 9, 10, 11, 15, 22, 23, 42] (by kernel_rfl) ?_
              (repeat ((try refine Vc.mk' ?_); simp only [go_sem, reduceIte, reduceCtorEq, Nat.reduceAdd, Nat.reduceMul, Nat.reduceSub, Nat.reduceLT, Nat.reduceLeDiff, Nat.reduceEqDiff, Int.reduceEq, Int.reduceLT, Int.reduceLE, Int.reduceNe, hb, set_lt hbt, Nat.mul_one, get_ints, get_bools, his, hsl, List.length_map, ren_agg, stT, hlt, hlt2, hjl, hjl2, i1, i2, c1, c2, hc.1, hc.2, h16]))
              refine .mk (j + 1) hjl (by omega) ((by refine SubR.mk' [top, top + 1, top + 2, top + 5] hcl (by simp) (by simp) rfl (frSub_ok ?_) ?_ ?_ <;> simp [frSub, lkG, ren, renL, renL_set, renL_ints, UpdOk.nil, UpdOk.cons, renOO_some, renO_cells, renO_map, renOO_mkOb, rn_base, rn_add, ren_mkSl, Enc.flat_ren, set_same, set_ne, sets_cons, sets_nil, Keep.set, Keep.setK, Keep.refl, rm_m_int_bool, rm_m_message_Rule, rm_m_pair_bool, rm_m_pair_int, rn_low hbt, renL_bools, hw2, hrs]))
            · have he : edgeN s a j = [] := by unfold edgeN; rw [if_neg hc]
              rw [he, List.append_nil] at hrs
              by_cases hc1 : 0 < cS s a j
              · have hc2 : ¬ 0 < cS s j a := fun h => hc ⟨hc1, h⟩
                refine CW.vc env1 [0, 1, 3, 4, 5, 6, 7, 8, 9, 10, 11, 15, 22, 23, 42] (by kernel_rfl) ?_
                (repeat ((try refine Vc.mk' ?_); simp only [go_sem, reduceIte, reduceCtorEq, Nat.reduceAdd, Nat.reduceMul, Nat.reduceSub, Nat.reduceLT, Nat.reduceLeDiff, Nat.reduceEqDiff, Int.reduceEq, Int.reduceLT, Int.reduceLE, Int.reduceNe, hb, set_lt hbt, Nat.mul_one, get_ints, get_bools, his, hsl, List.length_map, ren_agg, stT, hlt, hlt2, hjl, hjl2, i1, i2, c1, c2, hc1, hc2, h16]))
                refine .mk (j + 1) hjl (by omega) ((by refine SubR.mk' [top, top + 1, top + 2, top + 3] hcl (by simp) (by simp) rfl (frSub_ok ?_) ?_ ?_ <;> simp [frSub, lkG, ren, renL, renL_set, renL_ints, UpdOk.nil, UpdOk.cons, renOO_some, renO_cells, renO_map, renOO_mkOb, rn_base, rn_add, ren_mkSl, Enc.flat_ren, set_same, set_ne, sets_cons, sets_nil, Keep.set, Keep.setK, Keep.refl, rm_m_int_bool, rm_m_message_Rule, rm_m_pair_bool, rm_m_pair_int, rn_low hbt, renL_bools, hw2, hrs]))
              · refine CW.vc env1 [0, 1, 3, 4, 5, 6, 7, 8, 9, 10, 11, 15, 22, 23, 42] (by kernel_rfl) ?_
                (repeat ((try refine Vc.mk' ?_); simp only [go_sem, reduceIte, reduceCtorEq, Nat.reduceAdd, Nat.reduceMul, Nat.reduceSub, Nat.reduceLT, Nat.reduceLeDiff, Nat.reduceEqDiff, Int.reduceEq, Int.reduceLT, Int.reduceLE, Int.reduceNe, hb, set_lt hbt, Nat.mul_one, get_ints, get_bools, his, hsl, List.length_map, ren_agg, stT, hlt, hlt2, hjl, hjl2, i1, i2, c1, c2, hc1, h16]))
                refine .mk (j + 1) hjl (by omega) ((by refine SubR.mk' [top, top + 1, top + 2, top + 3] hcl (by simp) (by simp) rfl (frSub_ok ?_) ?_ ?_ <;> simp [frSub, lkG, ren, renL, renL_set, renL_ints, UpdOk.nil, UpdOk.cons, renOO_some, renO_cells, renO_map, renOO_mkOb, rn_base, rn_add, ren_mkSl, Enc.flat_ren, set_same, set_ne, sets_cons, sets_nil, Keep.set, Keep.setK, Keep.refl, rm_m_int_bool, rm_m_message_Rule, rm_m_pair_bool, rm_m_pair_int, rn_low hbt, renL_bools, hw2, hrs]))
          · have hj2 : j = 25 := by omega
            subst hj2
            have hed := edgesA_succ s is a
            rw [hia, if_pos rfl] at hed
            refine CW.vc env1 [0, 1, 3, 4, 5, 6, 7, 8, 9, 10, 11, 15, 22, 23, 42] (by kernel_rfl) ?_
            (repeat ((try refine Vc.mk' ?_); simp only [go_sem, reduceIte, reduceCtorEq, Nat.reduceAdd, Nat.reduceMul, Nat.reduceSub, Nat.reduceLT, Nat.reduceLeDiff, Nat.reduceEqDiff, Int.reduceEq, Int.reduceLT, Int.reduceLE, Int.reduceNe, hb, set_lt hbt, Nat.mul_one, get_ints, get_bools, his, hsl, List.length_map, ren_agg, stT, hlt, hlt2, Int.cast_ofNat_Int]))
            refine .mk (a + 1) hlt (by omega) ((by refine SubR.mk' [top, top + 1, top + 2, top + 3] hcl (by simp) (by simp) rfl (frSub_ok ?_) ?_ ?_ <;> simp [frSub, lkG, ren, renL, renL_set, renL_ints, UpdOk.nil, UpdOk.cons, renOO_some, renO_cells, renO_map, renOO_mkOb, rn_base, rn_add, ren_mkSl, Enc.flat_ren, set_same, set_ne, sets_cons, sets_nil, Keep.set, Keep.setK, Keep.refl, rm_m_int_bool, rm_m_message_Rule, rm_m_pair_bool, rm_m_pair_int, rn_low hbt, renL_bools, hw, hed]))
    · have ha2 : a = 25 := by omega
      subst ha2
      refine CW.vc env1 [0, 1, 3, 4, 5, 6, 7, 8, 9, 10, 11, 15, 22, 23, 42] (by kernel_rfl) ?_
      (repeat ((try refine Vc.mk' ?_); simp only [go_sem, reduceIte, reduceCtorEq, Nat.reduceAdd, Nat.reduceMul, Nat.reduceSub, Nat.reduceLT, Nat.reduceLeDiff, Nat.reduceEqDiff, Int.reduceEq, Int.reduceLT, Int.reduceLE, Int.reduceNe, hb, set_lt hbt, Nat.mul_one, get_ints, get_bools, his, hsl, List.length_map, ren_agg, stS, Int.cast_ofNat_Int]))
      simp only [resG]
      (refine ⟨[top + 2, top + 3], by simp, by simp, by simp, ?_, ?_, ?_⟩ <;> simp [frSub, lkG, ren, renL, renL_set, renL_ints, UpdOk.nil, UpdOk.cons, renOO_some, renO_cells, renO_map, renOO_mkOb, rn_base, rn_add, ren_mkSl, Enc.flat_ren, set_same, set_ne, sets_cons, sets_nil, Keep.set, Keep.setK, Keep.refl, rm_m_int_bool, rm_m_message_Rule, rm_m_pair_bool, rm_m_pair_int])
def G5 := addG G1 69 conSq
theorem env5 : EnvV Try.prog tt.get G5 := env1.add sq_ok
theorem filter_congr' {α : Type} {p q : α → Bool} : ∀ {l : List α}, (∀ a ∈ l, p a = q a) → l.filter p = l.filter q
  | [], _ => rfl
  | a :: l, h => by
    have := filter_congr' (l := l) fun b hb => h b (List.mem_cons_of_mem _ hb)
    simp only [List.filter_cons, h a (List.mem_cons_self ..), this]
theorem flatMap_congr' {α β : Type} {f g : α → List β} : ∀ {l : List α}, (∀ a ∈ l, f a = g a) → l.flatMap f = l.flatMap g
  | [], _ => rfl
  | a :: l, h => by rw [List.flatMap_cons, List.flatMap_cons, h a (List.mem_cons_self ..), flatMap_congr' fun b hb => h b (List.mem_cons_of_mem _ hb)]
theorem map_range_set {α : Type} {f g : Nat → α} {n i : Nat} {v : α} (hi : g i = v) (h : ∀ j, j < n → j ≠ i → g j = f j) : ((List.range n).map f).set i v = (List.range n).map g := by
  apply List.ext_getElem?
  intro j
  rw [List.getElem?_set]
  by_cases e : i = j
  · subst e
    rw [if_pos rfl]
    by_cases hl : i < n
    · simp [hl, hi]
    · simp [hl]
  · rw [if_neg e]
    by_cases hl : j < n
    · simp [hl, h j hl (fun e' => e e'.symm)]
    · simp [hl]
end Go.Proofs.Ytmppehipfpkepaa.Gr
