/- slices.Insert at things of api.Arrive, run: there is room, in the midst. -/
import Derived.Test.YtmppehipfpkepaaDmI
import Derived.Test.YtmppehipfpkepaaDmK
set_option linter.unusedSimpArgs false
set_option linter.unusedVariables false
namespace Go.Proofs.Ytmppehipfpkepaa.Dm
open Go.Dm Go.RowKit Go.Lib
set_option maxHeartbeats 4000000
set_option maxRecDepth 100000
theorem ins_shift_r : InsShift Try.prog 62 5 := by
  intro B off n c i Vb vo vc cc cv ty tyv fz fzv w hi hroom hn63 hvb hB hfz hlim hV hfv hvl ho1 ho2
  have hz2 : ¬ ((i : Int) = (n : Int)) := by omega
  have hw1 : IntKind.i64.wrap ((i : Int) + 1) = (i : Int) + 1 := by rw [IntKind.wrap_i64]; omega
  have hw2 : IntKind.i64.wrap ((n : Int) + 1) = (n : Int) + 1 := by rw [IntKind.wrap_i64]; omega
  have htn : ((i : Int) + 1).toNat = i + 1 := by omega
  have htm : ((n : Int) + 1).toNat = n + 1 := by omega
  have hsa : w.shape? Vb = some (tyv, cv.size) := by simp [World.shape?, hV]
  have hsb : w.shape? B = some (ty, cc.size) := by simp [World.shape?, hB]
  have hfa : w.frozen? ⟨Vb, vo, none⟩ = false := by simp [World.frozen?, hV]; omega
  have hfe : w.frozen? ⟨Vb, cv.size, none⟩ = false := by simp [World.frozen?, hV]; omega
  have hov : ∀ lb cb, (callFunc 82 #[.slice (some ⟨Vb, vo, none⟩) 1 vc, .slice (some ⟨B, off + (i + 1) * 5, none⟩) lb cb]).run Try.prog w = .ok (.value (.bool false)) w := fun lb cb => by
    rw [run_callFunc_extern Try.func82 (by kernel_rfl) (by kernel_rfl) (by kernel_rfl) (e := Extern.SlicesOverlaps.overlaps #[114, 114] #[4]) (by kernel_rfl),
      Lib.run_overlaps_apart w 114 4 124 Try.underlying114 5 (fun w => (tt_ok _ _ (by kernel_rfl : tt.get 124 = some ti124)).run_size w) ⟨Vb, vo, none⟩ ⟨B, off + (i + 1) * 5, none⟩ 1 vc lb cb hvb tyv ty cv.size cc.size hsa hsb (by omega) hfa hfe]
    rfl
  have cp1 : ∀ (W : World), W.heap = w.heap → W.os = w.os → W.tape = w.tape → W.output = w.output → ∀ r dc sc, ∃ w', (Builtin.copy_ #[114, 114] r #[.slice (some ⟨B, off + (i + 1) * 5, none⟩) (n - i) dc, .slice (some ⟨B, off + i * 5, none⟩) (n + 1 - i) sc]).run Try.prog W = .ok (.int .i64 ((n - i : Nat) : Int)) w' ∧
      At B (.cells ⟨splice cc.toList (off + (i + 1) * 5) ((cc.toList.drop (off + i * 5)).take ((n - i) * 5))⟩ ty fz) w w' := fun W h1 h2 h3 h4 r dc sc => by
    obtain ⟨w', e1, e2⟩ := copy_run (P := Try.prog) (r := r) (ts2 := 114) (dc := dc) (sc := sc) (sl := n + 1 - i) (dl := n - i) (m := n - i) Try.underlying114 (tt_ok _ _ (by kernel_rfl : tt.get 124 = some ti124)) W (by rw [h1]; exact hB) hfz (by rw [h1]; exact hB) (Nat.min_eq_right (by omega)) (o := off + (i + 1) * 5) (so := off + i * 5) (show off + (i + 1) * 5 + (n - i) * 5 ≤ cc.size by omega) (show off + i * 5 + (n - i) * 5 ≤ cc.size by omega) ho1
    exact ⟨w', e1, e2.here, by rw [e2.size, h1], fun k hk => by rw [e2.oth k hk, h1], by rw [e2.os, h2], by rw [e2.tape, h3], by rw [e2.output, h4]⟩
  have cp2 : ∀ (W : World) (C1 : Array Value), C1.size = cc.size → At B (.cells C1 ty fz) w W → ∀ r dc, ∃ w', (Builtin.copy_ #[114, 114] r #[.slice (some ⟨B, off + i * 5, none⟩) (n + 1 - i) dc, .slice (some ⟨Vb, vo, none⟩) 1 vc]).run Try.prog W = .ok (.int .i64 ((1 : Nat) : Int)) w' ∧
      At B (.cells ⟨splice C1.toList (off + i * 5) ((cv.toList.drop vo).take (1 * 5))⟩ ty fz) w w' := fun W C1 hs hW r dc => by
    obtain ⟨w', e1, e2⟩ := copy_run (P := Try.prog) (r := r) (ts2 := 114) (dc := dc) (sc := vc) (sl := 1) (dl := n + 1 - i) (m := 1) Try.underlying114 (tt_ok _ _ (by kernel_rfl : tt.get 124 = some ti124)) W hW.here hfz (by rw [hW.oth Vb hvb]; exact hV) (Nat.min_eq_left (by omega)) (o := off + i * 5) (so := vo) (show off + i * 5 + 1 * 5 ≤ C1.size by omega) (show vo + 1 * 5 ≤ cv.size by omega) ho2
    exact ⟨w', e1, e2.here, by rw [e2.size, hW.size], fun k hk => by rw [e2.oth k hk, hW.oth k hk], by rw [e2.os, hW.os], by rw [e2.tape, hW.tape], by rw [e2.output, hW.output]⟩
  have hsz : (⟨splice cc.toList (off + (i + 1) * 5) ((cc.toList.drop (off + i * 5)).take ((n - i) * 5))⟩ : Array Value).size = cc.size := by
    have : (splice cc.toList (off + (i + 1) * 5) ((cc.toList.drop (off + i * 5)).take ((n - i) * 5))).length = cc.toList.length := splice_length (by simp; omega)
    simpa using this
  have mixed : Try.prog.follows Departure.mixedOrders = true := by kernel_rfl
  have hb1 : (0 : Int) ≤ (i : Int) + 1 := by omega
  have hin : i ≤ n := by omega
  have hb2 : ¬ (c = i + 1) := by omega
  have hb3 : (i : Int) ≤ (n : Int) + 1 := by omega
  have hb4 : ¬ (c = i) := by omega
  go_enter Try.func62, Try.ntmps62
  go_wp2_with (simp only [hov])
  go_region_law_o (refine step_copy rfl _ _ 114 114 rfl _ _ (by simp [Act.eval, Act.put]) (by simp [Act.eval, Act.put]) (cp1 w.drew rfl rfl rfl rfl _ (c - (i + 1)) (c - i)) ?_; intro W1 hW1)
  go_wp2_with (refine wpList_copy rfl _ _ 114 114 rfl _ _ rfl rfl (cp2 W1 _ hsz hW1 _ (c - i)) ?_; intro W2 hW2)
  go_ret
  exact ⟨rfl, hW2⟩
end Go.Proofs.Ytmppehipfpkepaa.Dm
