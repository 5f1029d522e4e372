/- Event: the event of a line. -/
import Derived.Test.YthpibnpeaidabaaGreatDoorTE
set_option linter.unusedVariables false
namespace Go.Proofs.YthpibnpeaidabaaGreatDoor.Dm
open Go.Dm
set_option maxHeartbeats 16000000
set_option maxRecDepth 20000
def zeroEv : T_Event := ⟨0, 0, 0, 0, 0, 0, 0, 0, 0, 0⟩
def wN (s : List UInt8) (i : Nat) : List UInt8 := at' (sp7 s) i
def evX (s : List UInt8) : T_Event := ⟨(puN (wN s 0) 64 : Nat), idxS wordsL (wN s 1) 0, (puN (wN s 2) 31 : Nat), (puN (wN s 3) 31 : Nat), (puN (wN s 4) 32 : Nat), (puN (wN s 5) 31 : Nat), (parB (wN s 6)).x0, (parB (wN s 6)).x1, (parB (wN s 6)).x2, (parB (wN s 6)).x3⟩
def evG (s : List UInt8) : Bool := okT (wN s 0) 64 && okT (wN s 2) 31 && okT (wN s 3) 31 && okT (wN s 4) 32 && okT (wN s 5) 31
def evP (s : List UInt8) : Option T_Event := if (sp7 s).length < 7 then none else if parE (wN s 6) = 0 ∧ evG s = true ∧ okE (evX s) = true then some (evX s) else none
def evV (s : List UInt8) (top : Nat) : Value × Upds × Nat := match evP s with
  | some x => (.tuple ⟨[.agg ⟨e_Event.enc x⟩, .nilIface]⟩, [], top)
  | none => (.tuple ⟨[.agg ⟨e_Event.enc zeroEv⟩, .iface 84 (.pointer (some ⟨top, 0, none⟩))]⟩, [(top, some (.cells true 0 [.int .i64 12, .int .i64 0]))], top + 1)
def conEvent : Con := .det (fun args hp _ => match args with | [.string ⟨⟨s⟩⟩] => s.length < 4294967281 ∧ VarsOk hp ∧ hp 0 = some tzO | _ => False) (fun args _ top => match args with | [s] => evV (strOf s) top | _ => (undef, [], top))
def GT5 : FuncId → Con := addG (addG (addG (addG GT4 64 conTake) 65 conOk) 40 conRead2) 39 conWrong
theorem envT5 : EnvV Tryz.prog tt.get GT5 := (((envT4.add take_ok).add rok_ok).add read_ok).add wrong_ok
theorem GT5_sp : GT5 38 = conSp7 := rfl
theorem GT5_t : GT5 64 = conTake := rfl
theorem GT5_o : GT5 65 = conOk := rfl
theorem GT5_r : GT5 40 = conRead2 := rfl
theorem GT5_w : GT5 39 = conWrong := rfl
theorem GT5_ws : GT5 34 = conWords := rfl
theorem GT5_ix : GT5 41 = conIdx := rfl
theorem GT5_pa : GT5 42 = conParse := rfl
theorem GT5_k : GT5 28 = conChk := rfl
theorem splitK_mem (sep : List UInt8) : ∀ (k : Nat) (s : List UInt8), ∀ w ∈ Lib.splitK sep 0 k s, w.length ≤ s.length
  | 0, s, w, h => by simp [Lib.splitK] at h; rw [h]; exact Nat.le_refl _
  | k + 1, s, w, h => by
    unfold Lib.splitK at h
    split at h
    · simp at h; rw [h]; exact Nat.le_refl _
    · rcases List.mem_cons.1 h with rfl | h
      · rw [List.length_take]; omega
      · have := splitK_mem sep k _ w h
        rw [List.length_drop] at this; omega
theorem parB_ok (s : List UInt8) : OkB (parB s) := by
  unfold parB; split
  · exact rB_ok s
  · exact zb_ok
theorem wN_len {s : List UInt8} {i : Nat} (h : i < (sp7 s).length) : (wN s i).length ≤ s.length := by
  refine splitK_mem [32] (spC s - 1) s _ ?_
  show at' (sp7 s) i ∈ sp7 s
  rw [at'_get _ _ h]; exact List.getElem_mem h
theorem event_ok : ConOk Tryz.prog 12 conEvent := by
  refine .mkDet fn12_ok ?_
  intro args hp top hpre hcl hsc
  match args, hpre with
  | [.string ⟨⟨s⟩⟩], ⟨hs, hv, ht⟩ =>
  have hv0 := hv
  obtain ⟨hp1, hv2, hv3, hv4⟩ := hv0
  have ht5 := vars_top hcl hv
  have t2 : 2 < top := by omega
  simp only [strOf_string]
  have hln := sp7_len s
  have hlV : ∀ {h' : Hp} {b : Nat}, slen tt.get h' 58 (sp7V s b) = (.int .i64 ((sp7 s).length : Int), True) := fun {h'} {b} => by
    unfold sp7V slen
    simp only [k_sstring, lenA, t_sstring, ti58]; rfl
  refine CalledOk.of_fun tt_ok fn12_ok rfl 82 rfl [.cell 2 33, .tmp 3] rfl (show 1 ≤ 82 by decide) ?_
  by_cases c7 : (sp7 s).length < 7
  · have c7' : ((sp7 s).length : Int) < 7 := by omega
    have e : evV s top = (.tuple ⟨[.agg ⟨e_Event.enc zeroEv⟩, .iface 84 (.pointer (some ⟨top, 0, none⟩))]⟩, [(top, some (.cells true 0 [.int .i64 12, .int .i64 0]))], top + 1) := by unfold evV evP; rw [if_pos c7]
    rw [e]
    refine CW.vc envT5 [0, 2, 3, 4, 5, 6, 7, 8, 9, 10, 15, 78, 1000006] (by kernel_rfl) ?_
    (repeat ((first | refine Vc.mk' ?_ | refine CW.drawX envT5 6 [0, 2, 3, 4, 5, 6, 7, 8, 9, 10, 15, 78, 1000006] [(3, 35), (5, 4), (5, 35), (8, 4), (8, 35), (9, 35), (13, 4), (13, 35), (15, 20), (15, 26), (15, 32), (15, 35), (19, 4), (19, 14), (19, 35), (21, 26), (21, 32), (21, 35), (25, 4), (25, 14), (25, 20), (25, 35), (27, 32), (27, 35), (31, 4), (31, 14), (31, 20), (31, 26), (31, 35), (33, 35)] (by kernel_rfl) (by kernel_rfl) ?_ | skip); simp (config := { maxSteps := 6000000 }) only [go_sem, reduceCtorEq, Nat.reduceAdd, GT5_sp, conSp7, GT5_w, conWrong, hs, hv2, set_lt t2, hlV, c7']))
    (refine ⟨[top + 2], by simp, by simp, by simp, ?_, ?_, ?_⟩ <;> simp [ren, renL, UpdOk.nil, UpdOk.cons, renOO_some, renO_cells, rn_base, set_same, set_ne, Keep.set, Keep.refl, zeroEv])
  have h7 : (sp7 s).length = 7 := by omega
  have c7' : ¬ ((sp7 s).length : Int) < 7 := by omega
  have hix : ∀ {b i : Nat}, i < 7 → sindexAddr tt.get 58 (sp7V s b) (.int .i64 (i : Int)) = (ptrS (sp7V s b) i, True) := fun {b} {i} hi => by
    have := idx_sstring (sp7_slt (hp := fun _ => some (.cells true 1 (sp7Cells s))) (b := b) (s := s) rfl) (k := .i64) (n := (i : Int)) (by omega) (by omega)
    rwa [Int.toNat_natCast, Nat.mul_one] at this
  have hld : ∀ {h' : Hp} {b i : Nat}, i < 7 → h' b = some (.cells true 1 (sp7Cells s)) → sload tt.get h' 9 (ptrS (sp7V s b) i) = (.string ⟨⟨wN s i⟩⟩, True) := fun {h'} {b} {i} hi e => by
    have := ld_sstring (sp7_slt e) (i := i) (by omega)
    rwa [Nat.mul_one] at this
  have x0 : ∀ {b : Nat}, sindexAddr tt.get 58 (sp7V s b) (.int .i64 0) = (ptrS (sp7V s b) 0, True) := fun {b} => hix (i := 0) (by decide)
  have x1 : ∀ {b : Nat}, sindexAddr tt.get 58 (sp7V s b) (.int .i64 1) = (ptrS (sp7V s b) 1, True) := fun {b} => hix (i := 1) (by decide)
  have x2 : ∀ {b : Nat}, sindexAddr tt.get 58 (sp7V s b) (.int .i64 2) = (ptrS (sp7V s b) 2, True) := fun {b} => hix (i := 2) (by decide)
  have x3 : ∀ {b : Nat}, sindexAddr tt.get 58 (sp7V s b) (.int .i64 3) = (ptrS (sp7V s b) 3, True) := fun {b} => hix (i := 3) (by decide)
  have x4 : ∀ {b : Nat}, sindexAddr tt.get 58 (sp7V s b) (.int .i64 4) = (ptrS (sp7V s b) 4, True) := fun {b} => hix (i := 4) (by decide)
  have x5 : ∀ {b : Nat}, sindexAddr tt.get 58 (sp7V s b) (.int .i64 5) = (ptrS (sp7V s b) 5, True) := fun {b} => hix (i := 5) (by decide)
  have x6 : ∀ {b : Nat}, sindexAddr tt.get 58 (sp7V s b) (.int .i64 6) = (ptrS (sp7V s b) 6, True) := fun {b} => hix (i := 6) (by decide)
  have n0 := wN_len (s := s) (i := 0) (by omega)
  have n1 := wN_len (s := s) (i := 1) (by omega)
  have n2 := wN_len (s := s) (i := 2) (by omega)
  have n3 := wN_len (s := s) (i := 3) (by omega)
  have n4 := wN_len (s := s) (i := 4) (by omega)
  have n5 := wN_len (s := s) (i := 5) (by omega)
  have n6 := wN_len (s := s) (i := 6) (by omega)
  have eP : evP s = if parE (wN s 6) = 0 ∧ evG s = true ∧ okE (evX s) = true then some (evX s) else none := by unfold evP; rw [if_neg c7]
  have eG : evG s = (okT (wN s 0) 64 && okT (wN s 2) 31 && okT (wN s 3) 31 && okT (wN s 4) 32 && okT (wN s 5) 31) := rfl
  have eX : evX s = ⟨(puN (wN s 0) 64 : Nat), idxS wordsL (wN s 1) 0, (puN (wN s 2) 31 : Nat), (puN (wN s 3) 31 : Nat), (puN (wN s 4) 32 : Nat), (puN (wN s 5) 31 : Nat), (parB (wN s 6)).x0, (parB (wN s 6)).x1, (parB (wN s 6)).x2, (parB (wN s 6)).x3⟩ := rfl
  have l0 : ∀ {h' : Hp} {b : Nat}, h' b = some (.cells true 1 (sp7Cells s)) → sload tt.get h' 9 (ptrS (sp7V s b) 0) = (.string ⟨⟨wN s 0⟩⟩, True) := fun e => hld (by decide) e
  have l1 : ∀ {h' : Hp} {b : Nat}, h' b = some (.cells true 1 (sp7Cells s)) → sload tt.get h' 9 (ptrS (sp7V s b) 1) = (.string ⟨⟨wN s 1⟩⟩, True) := fun e => hld (by decide) e
  have l2 : ∀ {h' : Hp} {b : Nat}, h' b = some (.cells true 1 (sp7Cells s)) → sload tt.get h' 9 (ptrS (sp7V s b) 2) = (.string ⟨⟨wN s 2⟩⟩, True) := fun e => hld (by decide) e
  have l3 : ∀ {h' : Hp} {b : Nat}, h' b = some (.cells true 1 (sp7Cells s)) → sload tt.get h' 9 (ptrS (sp7V s b) 3) = (.string ⟨⟨wN s 3⟩⟩, True) := fun e => hld (by decide) e
  have l4 : ∀ {h' : Hp} {b : Nat}, h' b = some (.cells true 1 (sp7Cells s)) → sload tt.get h' 9 (ptrS (sp7V s b) 4) = (.string ⟨⟨wN s 4⟩⟩, True) := fun e => hld (by decide) e
  have l5 : ∀ {h' : Hp} {b : Nat}, h' b = some (.cells true 1 (sp7Cells s)) → sload tt.get h' 9 (ptrS (sp7V s b) 5) = (.string ⟨⟨wN s 5⟩⟩, True) := fun e => hld (by decide) e
  have l6 : ∀ {h' : Hp} {b : Nat}, h' b = some (.cells true 1 (sp7Cells s)) → sload tt.get h' 9 (ptrS (sp7V s b) 6) = (.string ⟨⟨wN s 6⟩⟩, True) := fun e => hld (by decide) e
  have a1 : ∀ {h' : Hp} {b : Nat}, h' b = some (.cells true 0 wordsV) → (∃ l, ArrS h' (.slice (some ⟨b, 0, none⟩) 9 9) l) = True := fun {h'} {b} e => eq_true ⟨wordsL, b, true, 0, rfl, e, by decide⟩
  have a2 : ∀ {h' : Hp} {b : Nat}, h' b = some (.cells true 0 wordsV) → rdS h' (.slice (some ⟨b, 0, none⟩) 9 9) = wordsL := fun {h'} {b} e => (show ArrS h' (.slice (some ⟨b, 0, none⟩) 9 9) wordsL from ⟨b, true, 0, rfl, e, by decide⟩).rd
  have z64 : sizeOk 64 = True := eq_true (.inl rfl)
  have z32 : sizeOk 32 = True := eq_true (.inr (.inl rfl))
  have z31 : sizeOk 31 = True := eq_true (.inr (.inr rfl))
  have m0 : ((wN s 0).length ≤ 281474976710656) = True := eq_true (by omega)
  have m2 : ((wN s 2).length ≤ 281474976710656) = True := eq_true (by omega)
  have m3 : ((wN s 3).length ≤ 281474976710656) = True := eq_true (by omega)
  have m4 : ((wN s 4).length ≤ 281474976710656) = True := eq_true (by omega)
  have m5 : ((wN s 5).length ≤ 281474976710656) = True := eq_true (by omega)
  have m6 : ((wN s 6).length < 4294967281) = True := eq_true (by omega)
  have kw : wordsV.length = 9 := rfl
  have hIb : ∀ {b : T_Bits}, (bl b).length = 4 := fun {b} => rfl
  have ko : oneCells wordsV = true := rfl
  have v1 : ∀ (i : Nat) (h : Hp) (o : Option AObj), VarsOk (h.set (top + i) o) = VarsOk h := fun i h o => vars_set (by omega)
  have v0 : ∀ (h : Hp) (o : Option AObj), VarsOk (h.set top o) = VarsOk h := fun h o => vars_set ht5
  generalize evX s = X at eP eX
  generalize evG s = G at eP eG
  unfold evV
  rw [eP]
  generalize wN s 0 = w0 at *
  generalize wN s 1 = w1 at *
  generalize wN s 2 = w2 at *
  generalize wN s 3 = w3 at *
  generalize wN s 4 = w4 at *
  generalize wN s 5 = w5 at *
  generalize wN s 6 = w6 at *
  have sW : ∀ {h' : Hp} {b : Nat}, h' b = some (.cells true 0 wordsV) → sslice tt.get h' 71 (.pointer (some ⟨b, 0, none⟩)) none none = (.slice (some ⟨b, 0, none⟩) 9 9, True) := fun {h'} {b} e => by
    have h1 : sliceA tt.get h' 71 (.pointer (some ⟨b, 0, none⟩)) none none = some (.slice (some ⟨b, 0, none⟩) 9 9) := by
      simp only [sliceA, t_a9string, ti71, e, t_string]; rfl
    unfold sslice
    rw [h1]
    rfl
  obtain ⟨T1, hT1⟩ : ∃ T, puT w0 64 (top + 4) = T := ⟨_, rfl⟩
  have q1 : top + 4 ≤ T1 := by rw [← hT1]; exact puT_le ..
  obtain ⟨T2, hT2⟩ : ∃ T, puT w2 31 T1 = T := ⟨_, rfl⟩
  have q2 : T1 ≤ T2 := by rw [← hT2]; exact puT_le ..
  obtain ⟨T3, hT3⟩ : ∃ T, puT w3 31 T2 = T := ⟨_, rfl⟩
  have q3 : T2 ≤ T3 := by rw [← hT3]; exact puT_le ..
  obtain ⟨T4, hT4⟩ : ∃ T, puT w4 32 T3 = T := ⟨_, rfl⟩
  have q4 : T3 ≤ T4 := by rw [← hT4]; exact puT_le ..
  obtain ⟨T5, hT5⟩ : ∃ T, puT w5 31 T4 = T := ⟨_, rfl⟩
  have q5 : T4 ≤ T5 := by rw [← hT5]; exact puT_le ..
  have d0 : ¬ top = T5 := by omega
  have d1 : ¬ top + 1 = T5 := by omega
  have d2 : ¬ top + 2 = T5 := by omega
  have d3 : ¬ top + 3 = T5 := by omega
  have d4 : ¬ T5 = top := by omega
  have d5 : ¬ T5 = top + 1 := by omega
  have d6 : ¬ T5 = top + 2 := by omega
  have d7 : ¬ T5 = top + 3 := by omega
  have f0 : ¬ top = T5 + 1 := by omega
  have f1 : ¬ top + 1 = T5 + 1 := by omega
  have f2 : ¬ top + 2 = T5 + 1 := by omega
  have f3 : ¬ top + 3 = T5 + 1 := by omega
  have f4 : ¬ T5 + 1 = top := by omega
  have f6 : ¬ T5 + 1 = top + 2 := by omega
  have f8 : ¬ T5 = T5 + 1 := by omega
  have f9 : ¬ T5 + 1 = T5 := by omega
  have h0 : ¬ top = T5 + 2 := by omega
  have h1 : ¬ top + 1 = T5 + 2 := by omega
  have h2 : ¬ top + 2 = T5 + 2 := by omega
  have h3 : ¬ top + 3 = T5 + 2 := by omega
  have h4 : ¬ T5 + 2 = top := by omega
  have g5 : top ≤ T5 := by omega
  have g6 : top ≤ T5 + 3 := by omega
  have g7 : top ≤ T5 + 2 := by omega
  have g8 : top ≤ T5 + 1 := by omega
  have v5 : ∀ (h : Hp) (o : Option AObj), VarsOk (h.set T5 o) = VarsOk h := fun h o => vars_set (by omega)
  have v6 : ∀ (h : Hp) (o : Option AObj), VarsOk (h.set (T5 + 1) o) = VarsOk h := fun h o => vars_set (by omega)
  have i64 : (64 : Int).toNat = 64 := rfl
  have i32 : (32 : Int).toNat = 32 := rfl
  have i31 : (31 : Int).toNat = 31 := rfl
  have eG' : (okT w0 64 && okT w2 31 && okT w3 31 && okT w4 32 && okT w5 31) = G := eG.symm
  by_cases e6 : parE w6 = 0
  case neg =>
    rw [if_neg (fun h => e6 h.1)]
    dsimp only
    refine CW.vc envT5 [0, 2, 3, 4, 5, 6, 7, 8, 9, 10, 15, 78, 1000006] (by kernel_rfl) ?_
    (repeat ((first | refine Vc.mk' ?_ | refine CW.drawX envT5 6 [0, 2, 3, 4, 5, 6, 7, 8, 9, 10, 15, 78, 1000006] [(3, 35), (5, 4), (5, 35), (8, 4), (8, 35), (9, 35), (13, 4), (13, 35), (15, 20), (15, 26), (15, 32), (15, 35), (19, 4), (19, 14), (19, 35), (21, 26), (21, 32), (21, 35), (25, 4), (25, 14), (25, 20), (25, 35), (27, 32), (27, 35), (31, 4), (31, 14), (31, 20), (31, 26), (31, 35), (33, 35)] (by kernel_rfl) (by kernel_rfl) ?_ | skip); simp (config := { maxSteps := 6000000 }) only [go_sem, reduceCtorEq, Nat.reduceAdd, Nat.reduceLeDiff, Nat.reduceEqDiff, GT5_sp, conSp7, GT5_r, conRead2, GT5_w, conWrong, GT5_ws, conWords, GT5_t, conTake, GT5_o, conOk, GT5_ix, conIdx, GT5_pa, conParse, GT5_k, conChk, hs, hv2, set_lt t2, hlV, c7', takeF, okFn, kw, ko, x0, x1, x2, x3, x4, x5, l0, l1, l2, l3, l4, l5, a1, a2, z64, z32, z31, m0, m2, m3, m4, m5, v0, v1, hv, goodB, GoodAt, sW, goodO, hT1, hT2, hT3, hT4, hT5, q1, q2, q3, q4, q5, d0, d1, d2, d3, f0, f2, f8, h0, g6, v5, x6, l6, m6, parV, i64, i32, i31, bl, en_Bits, e6]))
    (refine ⟨[T5 + 2], by simp [], by simp [g7], by simp [], ?_, ?_, ?_⟩ <;> simp [ren, renL, UpdOk.nil, UpdOk.cons, renOO_some, renO_cells, rn_base, set_same, set_ne, Keep.set, Keep.refl, zeroEv, g5, g7, g8, h4])
  cases hG : G with
  | false =>
    rw [if_neg (fun h => absurd h.2.1 (by simp))]
    rw [hG] at eG'
    dsimp only
    refine CW.vc envT5 [0, 2, 3, 4, 5, 6, 7, 8, 9, 10, 15, 78, 1000006] (by kernel_rfl) ?_
    (repeat ((first | refine Vc.mk' ?_ | refine CW.drawX envT5 6 [0, 2, 3, 4, 5, 6, 7, 8, 9, 10, 15, 78, 1000006] [(3, 35), (5, 4), (5, 35), (8, 4), (8, 35), (9, 35), (13, 4), (13, 35), (15, 20), (15, 26), (15, 32), (15, 35), (19, 4), (19, 14), (19, 35), (21, 26), (21, 32), (21, 35), (25, 4), (25, 14), (25, 20), (25, 35), (27, 32), (27, 35), (31, 4), (31, 14), (31, 20), (31, 26), (31, 35), (33, 35)] (by kernel_rfl) (by kernel_rfl) ?_ | skip); simp (config := { maxSteps := 6000000 }) only [go_sem, reduceCtorEq, Nat.reduceAdd, Nat.reduceLeDiff, Nat.reduceEqDiff, GT5_sp, conSp7, GT5_r, conRead2, GT5_w, conWrong, GT5_ws, conWords, GT5_t, conTake, GT5_o, conOk, GT5_ix, conIdx, GT5_pa, conParse, GT5_k, conChk, hs, hv2, set_lt t2, hlV, c7', takeF, okFn, kw, ko, x0, x1, x2, x3, x4, x5, l0, l1, l2, l3, l4, l5, a1, a2, z64, z32, z31, m0, m2, m3, m4, m5, v0, v1, hv, goodB, GoodAt, sW, goodO, hT1, hT2, hT3, hT4, hT5, q1, q2, q3, q4, q5, d0, d1, d2, d3, f0, f2, f8, h0, g6, v5, x6, l6, m6, parV, i64, i32, i31, bl, en_Bits, e6, eG']))
    (refine ⟨[T5 + 2], by simp [], by simp [g7], by simp [], ?_, ?_, ?_⟩ <;> simp [ren, renL, UpdOk.nil, UpdOk.cons, renOO_some, renO_cells, rn_base, set_same, set_ne, Keep.set, Keep.refl, zeroEv, g5, g7, g8, h4])
  | true =>
  rw [hG] at eG'
  have g := eG'
  simp only [Bool.and_eq_true] at g
  obtain ⟨⟨⟨⟨g0, g2⟩, g3⟩, g4⟩, g5_⟩ := g
  have p0 := puN_le w0 64
  have p2 := puN_le w2 31
  have p3 := puN_le w3 31
  have p4 := puN_le w4 32
  have p5 := puN_le w5 31
  have b2 : wrapA .i64 (puN w2 31 : Int) = (puN w2 31 : Int) := wrap64 (by omega) (by omega)
  have b3 : wrapA .i64 (puN w3 31 : Int) = (puN w3 31 : Int) := wrap64 (by omega) (by omega)
  have b5 : wrapA .i64 (puN w5 31 : Int) = (puN w5 31 : Int) := wrap64 (by omega) (by omega)
  have b4 : wrapA .u32 (puN w4 32 : Int) = (puN w4 32 : Int) := wrap_id (by simp [IntKind.signed]) (by simp [IntKind.signed, IntKind.bits]; omega)
  have RX : RngE X := by rw [eX]; exact ⟨by dsimp only; omega, by dsimp only; omega, by dsimp only; omega, by dsimp only; omega, parB_ok w6⟩
  have IX : IsEv (.agg ⟨e_Event.enc X⟩) = True := isEv RX
  have EX : evOf (.agg ⟨e_Event.enc X⟩) = X := evOf_enc
  rw [eX] at IX EX
  simp only [en_Event] at IX EX
  rw [← eX] at EX
  cases hK : okE X with
  | false =>
    rw [if_neg (fun h => absurd h.2.2 (by simp))]
    dsimp only
    refine CW.vc envT5 [0, 2, 3, 4, 5, 6, 7, 8, 9, 10, 15, 78, 1000006] (by kernel_rfl) ?_
    (repeat ((first | refine Vc.mk' ?_ | refine CW.drawX envT5 6 [0, 2, 3, 4, 5, 6, 7, 8, 9, 10, 15, 78, 1000006] [(3, 35), (5, 4), (5, 35), (8, 4), (8, 35), (9, 35), (13, 4), (13, 35), (15, 20), (15, 26), (15, 32), (15, 35), (19, 4), (19, 14), (19, 35), (21, 26), (21, 32), (21, 35), (25, 4), (25, 14), (25, 20), (25, 35), (27, 32), (27, 35), (31, 4), (31, 14), (31, 20), (31, 26), (31, 35), (33, 35)] (by kernel_rfl) (by kernel_rfl) ?_ | skip); simp (config := { maxSteps := 6000000 }) only [go_sem, reduceCtorEq, Nat.reduceAdd, Nat.reduceLeDiff, Nat.reduceEqDiff, Int.reduceEq, GT5_sp, conSp7, GT5_r, conRead2, GT5_w, conWrong, GT5_ws, conWords, GT5_t, conTake, GT5_o, conOk, GT5_ix, conIdx, GT5_pa, conParse, GT5_k, conChk, hs, hv2, set_lt t2, hlV, c7', takeF, okFn, kw, ko, x0, x1, x2, x3, x4, x5, l0, l1, l2, l3, l4, l5, a1, a2, z64, z32, z31, m0, m2, m3, m4, m5, v0, v1, hv, goodB, GoodAt, sW, goodO, hT1, hT2, hT3, hT4, hT5, q1, q2, q3, q4, q5, d0, d1, d2, d3, f0, f2, f8, h0, g6, v5, x6, l6, m6, parV, i64, i32, i31, bl, en_Bits, e6, eG', b2, b3, b4, b5, IX, EX, hK]))
    (refine ⟨[T5 + 2], by simp [], by simp [g7], by simp [], ?_, ?_, ?_⟩ <;> simp [ren, renL, UpdOk.nil, UpdOk.cons, renOO_some, renO_cells, rn_base, set_same, set_ne, Keep.set, Keep.refl, zeroEv, g5, g7, g8, h4])
  | true =>
    rw [if_pos ⟨e6, rfl, rfl⟩]
    dsimp only
    refine CW.vc envT5 [0, 2, 3, 4, 5, 6, 7, 8, 9, 10, 15, 78, 1000006] (by kernel_rfl) ?_
    (repeat ((first | refine Vc.mk' ?_ | refine CW.drawX envT5 6 [0, 2, 3, 4, 5, 6, 7, 8, 9, 10, 15, 78, 1000006] [(3, 35), (5, 4), (5, 35), (8, 4), (8, 35), (9, 35), (13, 4), (13, 35), (15, 20), (15, 26), (15, 32), (15, 35), (19, 4), (19, 14), (19, 35), (21, 26), (21, 32), (21, 35), (25, 4), (25, 14), (25, 20), (25, 35), (27, 32), (27, 35), (31, 4), (31, 14), (31, 20), (31, 26), (31, 35), (33, 35)] (by kernel_rfl) (by kernel_rfl) ?_ | skip); simp (config := { maxSteps := 6000000 }) only [go_sem, reduceCtorEq, Nat.reduceAdd, Nat.reduceLeDiff, Nat.reduceEqDiff, GT5_sp, conSp7, GT5_r, conRead2, GT5_ws, conWords, GT5_t, conTake, GT5_o, conOk, GT5_ix, conIdx, GT5_pa, conParse, GT5_k, conChk, hs, hv2, set_lt t2, hlV, c7', takeF, okFn, kw, ko, x0, x1, x2, x3, x4, x5, l0, l1, l2, l3, l4, l5, a1, a2, z64, z32, z31, m0, m2, m3, m4, m5, v0, v1, hv, goodB, GoodAt, sW, goodO, hT1, hT2, hT3, hT4, hT5, q1, q2, q3, q4, q5, d0, d1, d2, d3, f0, f2, f8, g7, v5, x6, l6, m6, parV, i64, i32, i31, bl, en_Bits, e6, eG', b2, b3, b4, b5, IX, EX, hK]))
    rw [eX]
    (refine ⟨[], by simp, by simp, by simp, ?_, ?_, ?_⟩ <;> simp [ren, renL, UpdOk.nil, Keep.set, Keep.refl, g5, g8])
end Go.Proofs.YthpibnpeaidabaaGreatDoor.Dm
