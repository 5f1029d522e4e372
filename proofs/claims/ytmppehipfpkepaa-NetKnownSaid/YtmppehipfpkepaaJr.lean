/- slices.Insert at things of api.Arrive, run: there is no room, in the midst. -/
import Derived.Test.YtmppehipfpkepaaIr
set_option linter.unusedSimpArgs false
set_option linter.unusedVariables false
namespace Go.Proofs.Ytmppehipfpkepaa.Dm
open Go.Dm Go.RowKit Go.Lib
set_option maxHeartbeats 4000000
set_option maxRecDepth 100000
theorem ins_grow_r : InsGrow Try.prog 62 5 48 124 := by
  intro B off n c i Vb vo vc cc cv ty tyv fz fzv w hi hnc hroom hbig hvb hB hlim hV hvl ho1 ho2
  have hj := tt_ok _ _ (by kernel_rfl : tt.get 124 = some ti124)
  obtain ⟨y, hy, hys, hyb, hyz⟩ := hj.info
  have hys' : y.size = 5 := hys
  have hyb' : y.bytes = 48 := hyb
  have hz2 : ¬ ((i : Int) = (n : Int)) := by omega
  have hc : c = n := by omega
  subst hc
  unfold roomB at hbig
  simp only [Bool.and_eq_true] at hbig
  have hb1 := Nat.le_of_ble_eq_true hbig.1
  have hb2 := Nat.le_of_ble_eq_true hbig.2
  have hold : (Builtin.firstCells y.size i (.slice (some ⟨B, off, none⟩) i c)).run Try.prog w.drew = .ok ((cc.toList.drop off).take (i * 5)).toArray w.drew := by
    rw [hys']
    by_cases hz : i * 5 = 0
    · simp [Builtin.firstCells, loadCells, hz, loadCellsFrom]
    · simp only [Builtin.firstCells, loadCells, Go.Dm.run_loadCellsFrom Try.prog w.drew B off cc ty fz hB (i * 5) 0 #[] (by omega)]
      simp
  have hnc := nextcap_le (need := c + 1) (old := c) (by omega)
  have hrz := fun tyr => Lib.run_append_grow_zeros (P := Try.prog) w 114 3 tyr 124 y _ .i64 .i64 Try.underlying114 Try.underlying3 hy hyz (some ⟨B, off, none⟩) i c ((cc.toList.drop off).take (i * 5)) hold (c + 1 - i) (by omega) (by omega) (by omega) (by omega) (by rw [hyb']; omega) (by rw [hyb', show i + (c + 1 - i) = c + 1 by omega]; omega)
  rw [show i + (c + 1 - i) = c + 1 by omega] at hrz
  have hkk : (c : Int) + 1 - (i : Int) = ((c + 1 - i : Nat) : Int) := by omega
  rw [← hkk] at hrz
  have hG : c + 1 ≤ grownCap w (c + 1) c 124 := grownCap_ge w _ _ _
  have hG63 : grownCap w (c + 1) c 124 ≤ 9223372036854775807 := by
    have := grownCap_le_maxLen w (c + 1) c 124 (by unfold maxLen; omega)
    unfold maxLen at this
    omega
  generalize grownCap w (c + 1) c 124 = G at hrz hG hG63
  obtain ⟨ROW, hROW⟩ : ∃ ROW : Array Value, ROW = ((cc.toList.drop off).take (i * 5)).toArray ++ Builtin.zeroCells (ti124).zero.cells (c + 1 - i) ++ Builtin.zeroCells (ti124).zero.cells (G - (c + 1)) := ⟨_, rfl⟩
  rw [← hROW] at hrz
  have hz3 : (ti124).zero.cells.size = 5 := by kernel_rfl
  have hZ1 := zeroCells_toList (ti124).zero.cells (c + 1 - i)
  have hZ2 := zeroCells_toList (ti124).zero.cells (G - (c + 1))
  rw [hz3] at hZ1 hZ2
  have hRL : ROW.toList = (cc.toList.drop off).take (i * 5) ++ (Builtin.zeroCells (ti124).zero.cells (c + 1 - i)).toList ++ (Builtin.zeroCells (ti124).zero.cells (G - (c + 1))).toList := by rw [hROW]; simp
  generalize hz1' : (Builtin.zeroCells (ti124).zero.cells (c + 1 - i)).toList = Z1 at hRL
  generalize hz2' : (Builtin.zeroCells (ti124).zero.cells (G - (c + 1))).toList = Z2 at hRL
  have hL1 : Z1.length = (c + 1 - i) * 5 := by rw [← hz1', Array.length_toList, hZ1]
  have hL2 : Z2.length = (G - (c + 1)) * 5 := by rw [← hz2', Array.length_toList, hZ2]
  clear hROW hz1' hz2' hZ1 hZ2
  have hRs : ROW.size = G * 5 := by
    rw [← Array.length_toList, hRL]; simp [hL1, hL2]; omega
  have hVs := heap_lt hV
  have hBs := heap_lt hB
  obtain ⟨W0, hW0⟩ : ∃ W0, W0 = w.drew.alloc (.cells ROW 124) := ⟨_, rfl⟩
  have n0 : W0.heap[w.heap.size]? = some (.cells ROW 124 (0, 0)) := by rw [hW0]; exact push_at w _
  have n1 : ∀ k, k ≠ w.heap.size → W0.heap[k]? = w.heap[k]? := fun k hk => by rw [hW0]; exact push_oth w _ hk
  have n2 : W0.heap.size = w.heap.size + 1 ∧ W0.os = w.os ∧ W0.tape = w.tape ∧ W0.output = w.output := by rw [hW0]; exact ⟨push_size w _, rfl, rfl, rfl⟩
  rw [← hW0] at hrz
  have cpA : ∀ r dc, ∃ w', (Builtin.copy_ #[114, 114] r #[.slice (some ⟨w.heap.size, i * 5, none⟩) (c + 1 - i) dc, .slice (some ⟨Vb, vo, none⟩) 1 vc]).run Try.prog W0 = .ok (.int .i64 ((1 : Nat) : Int)) w' ∧
      At w.heap.size (.cells ⟨splice ROW.toList (i * 5) ((cv.toList.drop vo).take (1 * 5))⟩ 124 (0, 0)) W0 w' := fun r dc =>
    copy_run (P := Try.prog) (r := r) (ts2 := 114) (dc := dc) (sc := vc) (sl := 1) (dl := c + 1 - i) (m := 1) Try.underlying114 hj W0 n0 (Nat.le_refl _) (by rw [n1 Vb (by omega)]; exact hV) (Nat.min_eq_left (by omega)) (o := i * 5) (so := vo) (show i * 5 + 1 * 5 ≤ ROW.size by omega) (show vo + 1 * 5 ≤ cv.size by omega) ho2
  have hsz : (⟨splice ROW.toList (i * 5) ((cv.toList.drop vo).take (1 * 5))⟩ : Array Value).size = ROW.size := by
    have : (splice ROW.toList (i * 5) ((cv.toList.drop vo).take (1 * 5))).length = ROW.toList.length := splice_length (by simp; omega)
    simpa using this
  have cpB : ∀ (W W1 : World) (C1 : Array Value), C1.size = ROW.size → At w.heap.size (.cells C1 124 (0, 0)) W0 W1 → W.heap = W1.heap → W.os = W1.os → W.tape = W1.tape → W.output = W1.output → ∀ r dc sc, ∃ w', (Builtin.copy_ #[114, 114] r #[.slice (some ⟨w.heap.size, (i + 1) * 5, none⟩) (c - i) dc, .slice (some ⟨B, off + i * 5, none⟩) (c - i) sc]).run Try.prog W = .ok (.int .i64 ((c - i : Nat) : Int)) w' ∧
      At w.heap.size (.cells ⟨splice C1.toList ((i + 1) * 5) ((cc.toList.drop (off + i * 5)).take ((c - i) * 5))⟩ 124 (0, 0)) W0 w' := fun W W1 C1 hs hW h1 h2 h3 h4 r dc sc => by
    obtain ⟨w', e1, e2⟩ := copy_run (P := Try.prog) (r := r) (ts2 := 114) (dc := dc) (sc := sc) (sl := c - i) (dl := c - i) (m := c - i) Try.underlying114 hj W (by rw [h1]; exact hW.here) (Nat.le_refl _) (by rw [h1, hW.oth B (by omega), n1 B (by omega)]; exact hB) (Nat.min_eq_left (Nat.le_refl _)) (o := (i + 1) * 5) (so := off + i * 5) (show (i + 1) * 5 + (c - i) * 5 ≤ C1.size by omega) (show off + i * 5 + (c - i) * 5 ≤ cc.size by omega) ho1
    exact ⟨w', e1, e2.here, by rw [e2.size, h1, hW.size], fun k hk => by rw [e2.oth k hk, h1, hW.oth k hk], by rw [e2.os, h2, hW.os], by rw [e2.tape, h3, hW.tape], by rw [e2.output, h4, hW.output]⟩
  have hw1 : IntKind.i64.wrap ((i : Int) + 1) = (i : Int) + 1 := by rw [IntKind.wrap_i64]; omega
  have hw2 : IntKind.i64.wrap ((c : Int) + 1) = (c : Int) + 1 := by rw [IntKind.wrap_i64]; omega
  have hw3 : IntKind.i64.wrap ((c : Int) + 1 - (i : Int)) = (c : Int) + 1 - (i : Int) := by rw [IntKind.wrap_i64]; omega
  have htn : ((i : Int) + 1).toNat = i + 1 := by omega
  have mixed : Try.prog.follows Departure.mixedOrders = true := by kernel_rfl
  have hb1 : (0 : Int) ≤ (i : Int) + 1 := by omega
  have hin : i ≤ c := by omega
  have hb3 : (i : Int) ≤ (c : Int) := by omega
  have hb4 : ¬ (c = i) := by omega
  have hGi : ¬ (G = i) := by omega
  have hGim : ¬ (G = i + 1) := by omega
  have hlast : splice (splice ROW.toList (i * 5) ((cv.toList.drop vo).take (1 * 5))) ((i + 1) * 5) ((cc.toList.drop (off + i * 5)).take ((c - i) * 5)) =
      (cc.toList.drop off).take (i * 5) ++ (cv.toList.drop vo).take (1 * 5) ++ (cc.toList.drop (off + i * 5)).take ((c - i) * 5) ++ Z2 := by
    rw [hRL, show (i + 1) * 5 = i * 5 + 5 by omega]
    exact splice_row (x := 5) (s := (c - i) * 5) (by simp; omega) (by simp; omega) (by simp; omega) (by rw [hL1]; omega)
  clear hkk hold hnc hbig hy hyz hys hyb hys' hyb' hRL hL1 hW0 hz3
  go_enter Try.func62, Try.ntmps62
  go_wp2_with (first
    | (at_builtin; refine Lib.wpList_append_run _ rfl _ _ _ _ rfl _ _ rfl rfl _ _ (hrz _) ?_)
    | (refine wpList_copy rfl _ _ 114 114 rfl _ _ rfl rfl (cpA _ (G - i)) ?_; intro W1 hW1))
  go_region_law_o (refine step_copy rfl _ _ 114 114 rfl _ _ (by simp [Act.eval, Act.put]) (by simp [Act.eval, Act.put]) (cpB W1.drew W1 _ hsz hW1 rfl rfl rfl rfl _ (G - (i + 1)) (c - i)) ?_; intro W2 hW2)
  go_wp2
  go_ret
  rw [hlast] at hW2
  exact ⟨G, Z2, hG, hL2, rfl, by simpa only [List.append_assoc, Nat.one_mul] using hW2.here, by rw [hW2.size, n2.1], fun k hk => by rw [hW2.oth k hk, n1 k hk], by rw [hW2.os, n2.2.1], by rw [hW2.tape, n2.2.2.1], by rw [hW2.output, n2.2.2.2]⟩
end Go.Proofs.Ytmppehipfpkepaa.Dm
