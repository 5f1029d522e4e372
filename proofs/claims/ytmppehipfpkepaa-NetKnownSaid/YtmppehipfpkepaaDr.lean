/- slices.Delete at things of api.Arrive, run. -/
import Derived.Test.YtmppehipfpkepaaDmK
import Derived.Test.YtmppehipfpkepaaDmI
set_option linter.unusedSimpArgs false
set_option linter.unusedVariables false
namespace Go.Proofs.Ytmppehipfpkepaa.Dm
open Go.Dm Go.RowKit Go.Lib
set_option maxHeartbeats 4000000
set_option maxRecDepth 100000
theorem del_r : DelRun Try.prog 63 5 := by
  intro B off n c i j cc ty fz w hij hjn hnc hn63 hB hfz hlim ho
  have hj := tt_ok _ _ (by kernel_rfl : tt.get 124 = some ti124)
  have hts := tt_ok _ _ (by kernel_rfl : tt.get 114 = some ti114)
  have hz1 : ¬ ((i : Int) = (j : Int)) := by omega
  have hb1 : (i : Int) ≤ (j : Int) := by omega
  have hb2 : (j : Int) ≤ (n : Int) := by omega
  have hb3 : (n : Int) ≤ (c : Int) := by omega
  have hin : i ≤ n := by omega
  have hij2 : i ≤ j := by omega
  have mixed : Try.prog.follows Departure.mixedOrders = true := by kernel_rfl
  have hoz : oneCells (cellsL (ti124).zero) = true := by kernel_rfl
  have ap : ∀ (W : World), W.heap = w.heap → W.os = w.os → W.tape = w.tape → W.output = w.output → ∀ (r : TypeId) (so sc : Nat), so + (n - j) * 5 ≤ cc.size → ((cc.toList.drop so).take ((n - j) * 5)) = ((cc.toList.drop (off + j * 5)).take ((n - j) * 5)) →
      ∃ w', (Builtin.append_ #[114, 114] r #[.slice (some ⟨B, off, none⟩) i c, .slice (some ⟨B, so, none⟩) (n - j) sc]).run Try.prog W = .ok (.slice (some ⟨B, off, none⟩) (i + (n - j)) c) w' ∧
        At B (.cells ⟨splice cc.toList (off + i * 5) ((cc.toList.drop (off + j * 5)).take ((n - j) * 5))⟩ ty fz) w w' := fun W h1 h2 h3 h4 r so sc hso hsrc => by
    obtain ⟨w', e1, e2⟩ := append_run (P := Try.prog) (r := r) (sc := sc) (n := n - j) (sl := i) (cap := c) Try.underlying114 hj W (by rw [h1]; exact hB) hfz (by rw [h1]; exact hB) (by omega) (o := off) (so := so) (show off + (i + (n - j)) * 5 ≤ cc.size by omega) hso (by rw [show (n - j) * (ti124).size = (n - j) * 5 from rfl, hsrc]; exact ho)
    rw [show (n - j) * (ti124).size = (n - j) * 5 from rfl, hsrc] at e2
    exact ⟨w', e1, e2.here, by rw [e2.size, h1], fun k hk => by rw [e2.oth k hk, h1], by rw [e2.os, h2], by rw [e2.tape, h3], by rw [e2.output, h4]⟩
  have cl : ∀ (W : World) (C1 : Array Value), C1.size = cc.size → At B (.cells C1 ty fz) w W → ∀ (r : TypeId) (sc : Nat), ∃ w', (Builtin.clear_ #[114] r #[.slice (some ⟨B, off + (i + (n - j)) * 5, none⟩) (n - (i + (n - j))) sc]).run Try.prog W = .ok undef w' ∧
        At B (.cells ⟨splice C1.toList (off + (i + (n - j)) * 5) (zerosA ti124 (n - (i + (n - j))))⟩ ty fz) w w' := fun W C1 hs hW r sc => by
    obtain ⟨w', e1, e2⟩ := clear_run (P := Try.prog) (r := r) (cap := sc) (n := n - (i + (n - j))) Try.underlying114 hj W hW.here hfz (o := off + (i + (n - j)) * 5) (show off + (i + (n - j)) * 5 + (n - (i + (n - j))) * 5 ≤ C1.size by omega) hoz
    exact ⟨w', e1, e2.here, by rw [e2.size, hW.size], fun k hk => by rw [e2.oth k hk, hW.oth k hk], by rw [e2.os, hW.os], by rw [e2.tape, hW.tape], by rw [e2.output, hW.output]⟩
  have hsz : (⟨splice cc.toList (off + i * 5) ((cc.toList.drop (off + j * 5)).take ((n - j) * 5))⟩ : Array Value).size = cc.size := by
    have : (splice cc.toList (off + i * 5) ((cc.toList.drop (off + j * 5)).take ((n - j) * 5))).length = cc.toList.length := splice_length (by simp; omega)
    simpa using this
  have hlz : (zerosA ti124 (n - (i + (n - j)))).length = (j - i) * 5 := by
    rw [zerosA_length hj, show n - (i + (n - j)) = j - i by omega]; rfl
  have hic : i ≤ c := by omega
  have hjc : j ≤ c := by omega
  have hcl : ¬ (c = i + (n - j)) := by omega
  have hlt : i + (n - j) ≤ n := by omega
  have hlen : n - (j - i) = i + (n - j) := by omega
  rw [hlen]
  clear hoz
  by_cases hcj : c = j
  · have hso : ((cc.toList.drop off).take ((n - j) * 5)) = ((cc.toList.drop (off + j * 5)).take ((n - j) * 5)) := by rw [show n - j = 0 by omega]; simp
    have ap2 := ap w.drew rfl rfl rfl rfl 114 off (c - j) (by omega) hso
    have hn : n = j := by omega
    clear ap hso hjn hnc hin hjc hb2 hb3 hlt hlen
    subst hcj
    subst hn
    simp only [Nat.sub_self, Nat.add_zero] at ap2 cl hlz hcl hsz ⊢
    go_enter Try.func63, Try.ntmps63
    go_wp2
    go_region_law_o (refine step_append rfl _ _ 114 114 rfl _ _ (by simp [Act.eval, Act.put]) (by simp [Act.eval, Act.put]) ap2 ?_; intro W1 hW1)
    go_wp2_with (refine wpList_clear rfl _ 114 rfl _ rfl (cl W1 _ hsz hW1 _ (n - i)) ?_; intro W2 hW2)
    go_ret
    exact ⟨rfl, _, hlz, hW2⟩
  · have ap2 := ap w.drew rfl rfl rfl rfl 114 (off + j * 5) (c - j) (by omega) rfl
    clear ap
    go_enter Try.func63, Try.ntmps63
    go_wp2
    go_region_law_o (refine step_append rfl _ _ 114 114 rfl _ _ (by simp [Act.eval, Act.put]) (by simp [Act.eval, Act.put]) ap2 ?_; intro W1 hW1)
    go_wp2_with (refine wpList_clear rfl _ 114 rfl _ rfl (cl W1 _ hsz hW1 _ (c - (i + (n - j)))) ?_; intro W2 hW2)
    go_ret
    exact ⟨rfl, _, hlz, hW2⟩
end Go.Proofs.Ytmppehipfpkepaa.Dm
