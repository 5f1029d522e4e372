/- BitsBack: what it computes. -/
import Derived.Test.YtkofmbhopmgmhaaDoorBPW
set_option linter.unusedSimpArgs false
set_option linter.unusedVariables false
namespace Go.Proofs.YtkofmbhopmgmhaaDoor.Dm
open Go.Dm
set_option maxHeartbeats 16000000
theorem ofL_num : ∀ {l : List Int} {b : T_Bits} {last : Int}, OkB b → (∀ x ∈ lsB b, x ≤ last) → (∀ x ∈ l, last < x) → l.Pairwise (· < ·) → (∀ x ∈ l, 1 ≤ x ∧ x ≤ 256) → ∃ b', ofL b l = (b', 0) ∧ OkB b' ∧ lsB b' = lsB b ++ l
  | [], b, last, hb, _, _, _, _ => ⟨b, rfl, hb, by simp⟩
  | n :: l, b, last, hb, hl, hlt, hp, hr => by
    obtain ⟨h1, h2⟩ := hr n (by simp)
    have hrb : rightB n = true := by simp [rightB]; omega
    have hlu := hlt _ (List.mem_cons_self ..)
    have e := ls_put' hrb hlu hl
    rw [List.pairwise_cons] at hp
    obtain ⟨b', k1, k2, k3⟩ := ofL_num (l := l) (last := n) (putB_ok hb) (fun x hx => by
      rw [e] at hx
      rcases List.mem_append.1 hx with h4 | h4
      · have := hl x h4; omega
      · simp at h4; omega) hp.1 hp.2 (fun x hx => hr x (List.mem_cons_of_mem _ hx))
    refine ⟨b', ?_, k2, by rw [k3, e]; simp⟩
    rw [ofL, if_pos hrb]; exact k1
theorem of_list {b : T_Bits} (hb : OkB b) : ofL zb (lsB b) = (b, 0) := by
  obtain ⟨b', k1, k2, k3⟩ := ofL_num (l := lsB b) (b := zb) (last := 0) zb_ok (by rw [ls_zb]; simp) (fun x hx => by have := ls_ranges x hx; omega) ls_sorted ls_ranges
  rw [ls_zb, List.nil_append] at k3
  rw [k1, ls_inj k2 hb k3]
theorem below_all {b : T_Bits} (hb : OkB b) : belowB b 256 = true := by
  rw [below_eq hb]
  unfold belowL
  by_cases h0 : (lsB b).length = 0
  · simp [h0]
  · have := ls_rng (b := b) (k := (lsB b).length - 1) (by omega)
    simp [this.2]
theorem bytes_len {b : T_Bits} {m : Nat} : (bytesOf (oI b m m)).length = m := by simp [bytesOf, oI_len]
theorem bytes_get {b : T_Bits} {m c : Nat} (h : c < m) : ((bytesOf (oI b m m))[c]?).getD 0 = UInt8.ofNat (byN b c) := by
  simp [bytesOf, oI, h]
theorem bytes_take {b : T_Bits} {m : Nat} (h : m ≤ 32) : (bytesOf (oI b 32 32)).take m = bytesOf (oI b m m) := by
  refine List.ext_getElem (by simp [bytes_len]; omega) fun i h1 h2 => ?_
  have hi : i < m := by rw [bytes_len] at h2; exact h2
  have hi2 : i < 32 := by omega
  simp [bytesOf, oI, hi, hi2]
theorem pS_bytes {b : T_Bits} {k : Nat} (hk : k < 256) : pS (bytesOf (oI b 32 32)) k = hasB b k := by
  unfold pS
  rw [bytes_get (by omega)]
  have e : (UInt8.ofNat (byN b (k / 8))).toNat = byN b (k / 8) := by
    have := bf8 (p := hasB b) (o := 8 * (k / 8))
    have h2 : byN b (k / 8) < 256 := this
    simp; omega
  rw [e]
  unfold byN
  rw [bf_bit, show 8 * (k / 8) + k % 8 = k from by omega]
  have : k % 8 < 8 := by omega
  simp [this]
theorem read_bytes {b : T_Bits} (hb : OkB b) : rdB (bytesOf (oI b 32 32)) = b ∧ rdE (bytesOf (oI b 32 32)) = 0 := by
  have hl : ¬ ((bytesOf (oI b 32 32)).length = 0 ∨ 32 < (bytesOf (oI b 32 32)).length) := by rw [bytes_len]; omega
  unfold rdB rdE
  rw [if_neg hl, if_neg hl, bytes_len]
  refine ⟨?_, rfl⟩
  refine bits_ext (coll_ok _) hb fun i j hi hj => ?_
  rw [coll_bit hi hj (by omega), pS_bytes (by omega), hasB_at hj]
  have : 64 * i + j < 256 := by omega
  simp [this]
theorem bytS_at {b : T_Bits} (m : Nat) (h1 : 1 ≤ m) (h2 : m ≤ 32) : bytS b (8 * (m : Int)) = (if belowB b (8 * (m : Int)) then bytesOf (oI b m m) else []) ∧ bytE b (8 * (m : Int)) = (if belowB b (8 * (m : Int)) then 0 else 3) := by
  have hw : byW (8 * (m : Int)) = true := by
    have e : (8 * (m : Int)).tmod 8 = ((8 * m % 8 : Nat) : Int) := rfl
    have h3 : 8 ≤ 8 * (m : Int) := by omega
    have h4 : 8 * (m : Int) ≤ 256 := by omega
    have h5 : ((8 * m % 8 : Nat) : Int) = 0 := by omega
    simp only [byW, e, h3, h4, h5, decide_true, Bool.true_and]
  have e : (8 * (m : Int)).toNat / 8 = m := by omega
  unfold bytS bytE
  rw [if_pos hw, if_pos hw, e]; exact ⟨rfl, rfl⟩
theorem slen_str {hp : Hp} {s : List UInt8} : slen tt.get hp 9 (.string ⟨⟨s⟩⟩) = (.int .i64 (s.length : Int), True) := slenS
theorem G18_of : G18 12 = conOf := rfl
theorem G18_list : G18 27 = conList := rfl
theorem G18_bytes : G18 16 = conBytes := rfl
theorem G18_read : G18 18 = conRead := rfl
theorem G18_text : G18 36 = conText := rfl
theorem G18_below : G18 34 = conBelow := rfl
def stBB (hp : Hp) (top : Nat) (b : T_Bits) (k : Nat) : SS := ⟨[(1, .pointer (some ⟨top, 0, none⟩), true), (5, .string ⟨⟨bytesOf (oI b 32 32)⟩⟩, true), (11, .int .i64 (8 * ((k : Int) + 1)), true)], hp.sets [(top, some (.cells true 0 (bl b))), (top + 1, mkOb e_int (lsB b)), (top + 2, some (.cells true 0 (bl b))), (top + 3, some (.cells true 0 (bl b))), (top + 4, some (.cells true 0 (bl b)))], top + 5⟩
def conBack : Con := .pure (fun args hp => match args with | [v] => IsBits v ∧ hp 0 = some tzO ∧ VarsOk hp | _ => False) (fun _ _ => .bool true)

theorem back_ok : ConOk Tryd.prog 10 conBack := by
  refine .mkRd fn10_ok (fun _ _ _ => rfl) ?_
  intro args hp hpre top hcl hsc
  match args, hpre with
  | [_], ⟨⟨b, rfl, hb⟩, ht, hv⟩ =>
  have ht5 := vars_top hcl hv
  have ht0 : 0 < top := by omega
  have ht1 : 1 < top := by omega
  have hp1 := hv.1
  have v1 : ∀ (i : Nat) (h : Hp) (o : Option AObj), VarsOk (h.set (top + i) o) = VarsOk h := fun i h o => vars_set (by omega)
  have v0 : ∀ (h : Hp) (o : Option AObj), VarsOk (h.set top o) = VarsOk h := fun h o => vars_set ht5
  have hI := isBits_bl hb
  have hL := ls_len (b := b)
  have hLb : (lsB b).length ≤ 9223372036854775807 := by omega
  have e1 := of_list hb
  have hbe := below_all hb
  obtain ⟨e2, e3⟩ := bytS_at (b := b) 32 (by decide) (by decide)
  rw [show 8 * ((32 : Nat) : Int) = 256 from rfl, hbe, if_pos rfl] at e2 e3
  obtain ⟨e4, e5⟩ := read_bytes hb
  have e6 := textN_eq hb
  obtain ⟨e7, e8⟩ := par_text hb
  have e9 : (textN (lsB b)).length < 4294967281 := by have := text_len (b := b); omega
  have e10 : (bytesOf (oI b 32 32)).length = 32 := bytes_len
  have n32 : ((32 : Nat) : Int) = 32 := rfl
  refine CalledOk.of_fun tt_ok fn10_ok rfl 107 rfl [.tmp 2] rfl (show 1 ≤ 107 by decide) ?_
  refine CW.vc env18 [0, 1, 2, 3, 4, 5, 6, 7, 8, 9, 10, 11, 12, 13, 69, 71, 105] (by kernel_rfl) ?_
  (simp (config := { maxSteps := 6000000 }) only [go_sem, reduceIte, reduceCtorEq, Nat.reduceAdd, Nat.reduceMul, Nat.reduceSub, Nat.reduceLT, Nat.reduceLeDiff, Nat.reduceEqDiff, Int.reduceEq, Int.reduceLT, Int.reduceLE, Int.reduceNe, rem64, mask64, c_iu, wrapu_mod, bl_len, bl_take, bl_ren, bl_app, bl_one, bOf_bl, Nat.mul_one, G18_parse, G18_works, G18_of, G18_list, G18_bytes, G18_read, G18_text, G18_below, conParse, conWorks, conOf, conList, conBytes, conRead, conText, conBelow, parV, bytV_eq, readV_eq, hI, bits_eql, bits_neq, own_Pb, own_rdb, hLb, e1, e2, e3, e4, e5, e6, e7, e8, e9, e10, n32, slen_str, v0, v1, hv, set_lt ht0, set_lt ht1, ht, hp1, decide_true, Bool.not_true]; repeat (refine Vc.mk' ?_; simp (config := { maxSteps := 6000000 }) only [go_sem, reduceIte, reduceCtorEq, Nat.reduceAdd, Nat.reduceMul, Nat.reduceSub, Nat.reduceLT, Nat.reduceLeDiff, Nat.reduceEqDiff, Int.reduceEq, Int.reduceLT, Int.reduceLE, Int.reduceNe, rem64, mask64, c_iu, wrapu_mod, bl_len, bl_take, bl_ren, bl_app, bl_one, bOf_bl, Nat.mul_one, G18_parse, G18_works, G18_of, G18_list, G18_bytes, G18_read, G18_text, G18_below, conParse, conWorks, conOf, conList, conBytes, conRead, conText, conBelow, parV, bytV_eq, readV_eq, hI, bits_eql, bits_neq, own_Pb, own_rdb, hLb, e1, e2, e3, e4, e5, e6, e7, e8, e9, e10, n32, slen_str, v0, v1, hv, set_lt ht0, set_lt ht1, ht, hp1, decide_true, Bool.not_true]))
  refine CW.loopR (stBB hp top b) (fun k => k ≤ 32) (fun k => 32 - k) 0 (by omega) ?_ ?_
  · exact SubR.mk' [top, top + 1, top + 2, top + 3, top + 4] hcl (by simp) (by simp) rfl (frSub_ok (by simp [frSub, lkG, ren, renL, renL_set, renL_ints, UpdOk.nil, UpdOk.cons, renOO_some, renO_cells, renO_map, renOO_mkOb, rn_base, rn_add, ren_mkSl, Enc.flat_ren, set_same, set_ne, sets_cons, sets_nil, Keep.set, Keep.setK, Keep.refl, bl_ren])) (by simp [frSub, lkG, ren, renL, renL_set, renL_ints, UpdOk.nil, UpdOk.cons, renOO_some, renO_cells, renO_map, renOO_mkOb, rn_base, rn_add, ren_mkSl, Enc.flat_ren, set_same, set_ne, sets_cons, sets_nil, Keep.set, Keep.setK, Keep.refl, bl_ren]) (by simp [frSub, lkG, ren, renL, renL_set, renL_ints, UpdOk.nil, UpdOk.cons, renOO_some, renO_cells, renO_map, renOO_mkOb, rn_base, rn_add, ren_mkSl, Enc.flat_ren, set_same, set_ne, sets_cons, sets_nil, Keep.set, Keep.setK, Keep.refl, bl_ren])
  · intro k hk
    by_cases hlt : k < 32
    · have g1 : ¬ (256 : Int) < 8 * ((k : Int) + 1) := by omega
      obtain ⟨f2, f3⟩ := bytS_at (b := b) (k + 1) (by omega) (by omega)
      rw [show 8 * ((k + 1 : Nat) : Int) = 8 * ((k : Int) + 1) from by omega] at f2 f3
      have q : IntKind.i64.wrap ((8 * ((k : Int) + 1)).tdiv 8) = ((k + 1 : Nat) : Int) := by
        rw [show (8 * ((k : Int) + 1)) = ((8 * (k + 1) : Nat) : Int) from by omega, show ((8 * (k + 1) : Nat) : Int).tdiv 8 = ((8 * (k + 1) / 8 : Nat) : Int) from rfl, ← wrapA_eq, wrap64 (by omega) (by omega)]; omega
      have q2 : wrapA .i64 (8 * ((k : Int) + 1) + 8) = 8 * (((k + 1 : Nat) : Int) + 1) := by rw [wrap64 (by omega) (by omega)]; omega
      cases hbw : belowB b (8 * ((k : Int) + 1)) with
      | true =>
        rw [hbw, if_pos rfl] at f2 f3
        have ft := bytes_take (b := b) (m := k + 1) (by omega)
        have hk31 : k ≤ 31 := by omega
        refine CW.vc env18 [0, 1, 2, 3, 4, 5, 6, 7, 8, 9, 10, 11, 12, 13, 69, 71, 105] (by kernel_rfl) ?_
        (simp (config := { maxSteps := 6000000 }) only [go_sem, reduceIte, reduceCtorEq, Nat.reduceAdd, Nat.reduceMul, Nat.reduceSub, Nat.reduceLT, Nat.reduceLeDiff, Nat.reduceEqDiff, Int.reduceEq, Int.reduceLT, Int.reduceLE, Int.reduceNe, rem64, mask64, c_iu, wrapu_mod, bl_len, bl_take, bl_ren, bl_app, bl_one, bOf_bl, Nat.mul_one, G18_parse, G18_works, G18_of, G18_list, G18_bytes, G18_read, G18_text, G18_below, conParse, conWorks, conOf, conList, conBytes, conRead, conText, conBelow, parV, bytV_eq, readV_eq, stBB, hI, g1, f2, f3, hbw, q, e10, ft, hk31, Nat.sub_zero, eqB_self, sslice, sbound, isBound, Int.toNat_natCast]; repeat (refine Vc.mk' ?_; simp (config := { maxSteps := 6000000 }) only [go_sem, reduceIte, reduceCtorEq, Nat.reduceAdd, Nat.reduceMul, Nat.reduceSub, Nat.reduceLT, Nat.reduceLeDiff, Nat.reduceEqDiff, Int.reduceEq, Int.reduceLT, Int.reduceLE, Int.reduceNe, rem64, mask64, c_iu, wrapu_mod, bl_len, bl_take, bl_ren, bl_app, bl_one, bOf_bl, Nat.mul_one, G18_parse, G18_works, G18_of, G18_list, G18_bytes, G18_read, G18_text, G18_below, conParse, conWorks, conOf, conList, conBytes, conRead, conText, conBelow, parV, bytV_eq, readV_eq, stBB, hI, g1, f2, f3, hbw, q, e10, ft, hk31, Nat.sub_zero, eqB_self, sslice, sbound, isBound, Int.toNat_natCast]))
        refine .mk (k + 1) hlt (by omega) (SubR.mk' [top, top + 1, top + 2, top + 3, top + 4] hcl (by simp) (by simp) rfl (frSub_ok (by simp [frSub, lkG, ren, renL, renL_set, renL_ints, UpdOk.nil, UpdOk.cons, renOO_some, renO_cells, renO_map, renOO_mkOb, rn_base, rn_add, ren_mkSl, Enc.flat_ren, set_same, set_ne, sets_cons, sets_nil, Keep.set, Keep.setK, Keep.refl, bl_ren, q2])) (by simp [frSub, lkG, ren, renL, renL_set, renL_ints, UpdOk.nil, UpdOk.cons, renOO_some, renO_cells, renO_map, renOO_mkOb, rn_base, rn_add, ren_mkSl, Enc.flat_ren, set_same, set_ne, sets_cons, sets_nil, Keep.set, Keep.setK, Keep.refl, bl_ren, q2]) (by simp [frSub, lkG, ren, renL, renL_set, renL_ints, UpdOk.nil, UpdOk.cons, renOO_some, renO_cells, renO_map, renOO_mkOb, rn_base, rn_add, ren_mkSl, Enc.flat_ren, set_same, set_ne, sets_cons, sets_nil, Keep.set, Keep.setK, Keep.refl, bl_ren, q2]))
      | false =>
        rw [hbw, if_neg (by simp)] at f2 f3
        refine CW.vc env18 [0, 1, 2, 3, 4, 5, 6, 7, 8, 9, 10, 11, 12, 13, 69, 71, 105] (by kernel_rfl) ?_
        (simp (config := { maxSteps := 6000000 }) only [go_sem, reduceIte, reduceCtorEq, Nat.reduceAdd, Nat.reduceMul, Nat.reduceSub, Nat.reduceLT, Nat.reduceLeDiff, Nat.reduceEqDiff, Int.reduceEq, Int.reduceLT, Int.reduceLE, Int.reduceNe, rem64, mask64, c_iu, wrapu_mod, bl_len, bl_take, bl_ren, bl_app, bl_one, bOf_bl, Nat.mul_one, G18_parse, G18_works, G18_of, G18_list, G18_bytes, G18_read, G18_text, G18_below, conParse, conWorks, conOf, conList, conBytes, conRead, conText, conBelow, parV, bytV_eq, readV_eq, stBB, hI, g1, f2, f3, hbw, q, e10]; repeat (refine Vc.mk' ?_; simp (config := { maxSteps := 6000000 }) only [go_sem, reduceIte, reduceCtorEq, Nat.reduceAdd, Nat.reduceMul, Nat.reduceSub, Nat.reduceLT, Nat.reduceLeDiff, Nat.reduceEqDiff, Int.reduceEq, Int.reduceLT, Int.reduceLE, Int.reduceNe, rem64, mask64, c_iu, wrapu_mod, bl_len, bl_take, bl_ren, bl_app, bl_one, bOf_bl, Nat.mul_one, G18_parse, G18_works, G18_of, G18_list, G18_bytes, G18_read, G18_text, G18_below, conParse, conWorks, conOf, conList, conBytes, conRead, conText, conBelow, parV, bytV_eq, readV_eq, stBB, hI, g1, f2, f3, hbw, q, e10]))
        refine .mk (k + 1) hlt (by omega) (SubR.mk' [top, top + 1, top + 2, top + 3, top + 4] hcl (by simp) (by simp) rfl (frSub_ok (by simp [frSub, lkG, ren, renL, renL_set, renL_ints, UpdOk.nil, UpdOk.cons, renOO_some, renO_cells, renO_map, renOO_mkOb, rn_base, rn_add, ren_mkSl, Enc.flat_ren, set_same, set_ne, sets_cons, sets_nil, Keep.set, Keep.setK, Keep.refl, bl_ren, q2])) (by simp [frSub, lkG, ren, renL, renL_set, renL_ints, UpdOk.nil, UpdOk.cons, renOO_some, renO_cells, renO_map, renOO_mkOb, rn_base, rn_add, ren_mkSl, Enc.flat_ren, set_same, set_ne, sets_cons, sets_nil, Keep.set, Keep.setK, Keep.refl, bl_ren, q2]) (by simp [frSub, lkG, ren, renL, renL_set, renL_ints, UpdOk.nil, UpdOk.cons, renOO_some, renO_cells, renO_map, renOO_mkOb, rn_base, rn_add, ren_mkSl, Enc.flat_ren, set_same, set_ne, sets_cons, sets_nil, Keep.set, Keep.setK, Keep.refl, bl_ren, q2]))
    · have hk2 : k = 32 := by omega
      subst hk2
      have g1 : (256 : Int) < 8 * (((32 : Nat) : Int) + 1) := by omega
      refine CW.vc env18 [0, 1, 2, 3, 4, 5, 6, 7, 8, 9, 10, 11, 12, 13, 69, 71, 105] (by kernel_rfl) ?_
      (simp (config := { maxSteps := 6000000 }) only [go_sem, reduceIte, reduceCtorEq, Nat.reduceAdd, Nat.reduceMul, Nat.reduceSub, Nat.reduceLT, Nat.reduceLeDiff, Nat.reduceEqDiff, Int.reduceEq, Int.reduceLT, Int.reduceLE, Int.reduceNe, rem64, mask64, c_iu, wrapu_mod, bl_len, bl_take, bl_ren, bl_app, bl_one, bOf_bl, Nat.mul_one, G18_parse, G18_works, G18_of, G18_list, G18_bytes, G18_read, G18_text, G18_below, conParse, conWorks, conOf, conList, conBytes, conRead, conText, conBelow, parV, bytV_eq, readV_eq, stBB, g1, set_lt ht0, set_lt ht1, ht, hp1]; repeat (refine Vc.mk' ?_; simp (config := { maxSteps := 6000000 }) only [go_sem, reduceIte, reduceCtorEq, Nat.reduceAdd, Nat.reduceMul, Nat.reduceSub, Nat.reduceLT, Nat.reduceLeDiff, Nat.reduceEqDiff, Int.reduceEq, Int.reduceLT, Int.reduceLE, Int.reduceNe, rem64, mask64, c_iu, wrapu_mod, bl_len, bl_take, bl_ren, bl_app, bl_one, bOf_bl, Nat.mul_one, G18_parse, G18_works, G18_of, G18_list, G18_bytes, G18_read, G18_text, G18_below, conParse, conWorks, conOf, conList, conBytes, conRead, conText, conBelow, parV, bytV_eq, readV_eq, stBB, g1, set_lt ht0, set_lt ht1, ht, hp1]))
end Go.Proofs.YtkofmbhopmgmhaaDoor.Dm
