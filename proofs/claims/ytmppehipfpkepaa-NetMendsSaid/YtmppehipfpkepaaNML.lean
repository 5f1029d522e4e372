/- NetMends' law, without the program. -/
import Derived.Test.YtmppehipfpkepaaN26
import Derived.Test.YtmppehipfpkepaaN27
set_option linter.unusedSimpArgs false
set_option linter.unusedVariables false
namespace Go.Proofs.Ytmppehipfpkepaa.Dm
open Go.Dm
set_option maxHeartbeats 8000000
set_option maxRecDepth 100000
def R4 : List Int := [1, 2, 3, 4]
def linkAt : Nat → T_Link
  | 0 => ⟨2, 1, 3⟩
  | 1 => ⟨3, 1, 4⟩
  | 2 => ⟨3, 2, 5⟩
  | 3 => ⟨4, 1, 5⟩
  | 4 => ⟨4, 2, 6⟩
  | _ => ⟨4, 3, 7⟩
def lkB (β : Nat → Bool) (m : Nat) : List T_Link := ((List.range m).filter β).map linkAt
theorem lkB_succ (β : Nat → Bool) (m : Nat) : lkB β (m + 1) = lkB β m ++ (if β m = true then [linkAt m] else []) := by
  unfold lkB
  rw [List.range_succ, List.filter_append, List.map_append]
  congr 1
  rw [List.filter_cons]
  split <;> rfl
theorem lkB_len (β : Nat → Bool) (m : Nat) : (lkB β m).length ≤ m := by
  unfold lkB
  rw [List.length_map]
  exact Nat.le_trans (List.length_filter_le _ _) (by rw [List.length_range]; exact Nat.le_refl _)
def if1 (b : Bool) (x : T_Link) (l : List T_Link) : List T_Link := if b then x :: l else l
def lkX (b0 b1 b2 b3 b4 b5 : Bool) : List T_Link := if1 b0 ⟨2, 1, 3⟩ (if1 b1 ⟨3, 1, 4⟩ (if1 b2 ⟨3, 2, 5⟩ (if1 b3 ⟨4, 1, 5⟩ (if1 b4 ⟨4, 2, 6⟩ (if1 b5 ⟨4, 3, 7⟩ [])))))
theorem lkB_six (β : Nat → Bool) : lkB β 6 = lkX (β 0) (β 1) (β 2) (β 3) (β 4) (β 5) := by
  show ([0, 1, 2, 3, 4, 5].filter β).map linkAt = _
  cases h0 : β 0 <;> cases h1 : β 1 <;> cases h2 : β 2 <;> cases h3 : β 3 <;> cases h4 : β 4 <;> cases h5 : β 5 <;> simp only [List.filter_cons, List.filter_nil, h0, h1, h2, h3, h4, h5] <;> rfl
def sM (l : List T_Link) : NetS := net0 R4 l [] 0 1
def okM (l : List T_Link) : Bool := decide (Gr.errL R4 l = 0) && decide ((((sM l).L.map (·.2.2)).Nodup)) && decide (∀ e ∈ (sM l).L, e.2.2 < (sM l).lc) && decide (∀ e ∈ (sM l).L, 0 < e.2.1) && decide (upL (sM l) = l ∨ Gr.errL R4 (upL (sM l)) = 0) && decide ((Gr.edgesO R4 (upL (sM l)) 25).length = 2 * l.length) && decide ((sM l).L.length ≤ 1000)
theorem okM_all : ∀ b0 b1 b2 b3 b4 b5 : Bool, okM (lkX b0 b1 b2 b3 b4 b5) = true := by decide +kernel
theorem downM (l : List T_Link) : downR (sM l) = R4 := rfl
theorem nodesM : (Gr.nodesO R4 25).length = 4 := by decide +kernel
structure OkM (l : List T_Link) : Prop where
  e : Gr.errL R4 l = 0
  g : GoodN (sM l)
  p : ∀ e ∈ (sM l).L, 0 < e.2.1
  n : (Gr.edgesO R4 (upL (sM l)) 25).length = 2 * l.length
theorem okM_of {l : List T_Link} (h : okM l = true) : OkM l := by
  unfold okM at h
  simp only [Bool.and_eq_true, decide_eq_true_eq] at h
  obtain ⟨⟨⟨⟨⟨⟨h1, h2⟩, h3⟩, h4⟩, h5⟩, h6⟩, h7⟩ := h
  refine ⟨h1, ⟨h2, h3, ?_, h7⟩, h4, h6⟩
  rw [downM]
  rcases h5 with h5 | h5
  · rw [h5]; exact h1
  · exact h5
theorem lkB_ok (β : Nat → Bool) : OkM (lkB β 6) := by rw [lkB_six]; exact okM_of (okM_all ..)
section
variable {l : List T_Link} {x y : Int}
theorem costM (h : OkM l) : 0 ≤ costF (sM l) x y := by
  unfold costF
  cases hg : mget (sM l).L (pk x y) with
  | none => exact Int.le_refl 0
  | some v =>
    obtain ⟨e, he, hv⟩ := mget_mem hg
    have := h.p e he
    rw [hv] at this
    exact Int.le_of_lt this
theorem pk_sym (a b : Int) : pk b a = pk a b := by unfold pk; rw [Int.min_comm, Int.max_comm]
theorem mget_one {κ β : Type} [DecidableEq κ] (k : κ) (v : β) (c : Nat) : mget [(k, v, c)] k = some v := by unfold mget; exact if_pos rfl
theorem mdel_one {κ β : Type} [DecidableEq κ] (k : κ) (v : β) (c : Nat) : mdel [(k, v, c)] k = [] := by unfold mdel; exact if_pos rfl
def sCut (l : List T_Link) (x y : Int) : NetS := if costF (sM l) x y = 0 then sM l else { sM l with C := [(pk x y, true, 0)], cc := 1 }
theorem cutE_M : cutE (sM l) x y = if costF (sM l) x y = 0 then 2 else 0 := by
  unfold cutE
  split
  · rfl
  · exact if_neg (by simp [isCut, sM, net0, mget])
theorem cutS_M : cutS (sM l) x y = sCut l x y := by
  unfold cutS sCut
  rw [cutE_M]
  by_cases c : costF (sM l) x y = 0
  · rw [if_pos c, if_neg (by decide), if_pos c]
  · rw [if_neg c, if_pos rfl, if_neg c]; rfl
theorem upM (h : OkM l) : upF (sM l) x y = decide (cutE (sM l) x y = 0) := by
  have := costM (x := x) (y := y) h
  rw [cutE_M]
  unfold upF
  have e : (decide (0 < costF (sM l) x y)) = decide ((if costF (sM l) x y = 0 then (2 : Int) else 0) = 0) := by
    by_cases c : costF (sM l) x y = 0
    · rw [c]; rfl
    · rw [if_neg c]; simp; omega
  rw [← e]
  simp [sM, net0, mget]
theorem downX : upF (sCut l x y) x y = false := by
  unfold sCut
  by_cases c : costF (sM l) x y = 0
  · rw [if_pos c]; unfold upF; rw [c]; rfl
  · rw [if_neg c]
    unfold upF
    simp [mget_one]
def sStop (l : List T_Link) (x y : Int) : NetS := { sCut l x y with S := [(x, true, 0)], sc := 1 }
theorem sCut_S : (sCut l x y).S = [] ∧ (sCut l x y).sc = 0 ∧ (sCut l x y).l = [] ∧ (sCut l x y).R = R4 ∧ (sCut l x y).L = (sM l).L ∧ (sCut l x y).lc = (sM l).lc := by
  unfold sCut
  split <;> exact ⟨rfl, rfl, rfl, rfl, rfl, rfl⟩
theorem isR_M {s : NetS} (hR : s.R = R4) (h1 : 1 ≤ x) (h4 : x ≤ 4) : isR s x = true := by
  unfold isR
  rw [hR]
  have : x = 1 ∨ x = 2 ∨ x = 3 ∨ x = 4 := by omega
  rcases this with rfl | rfl | rfl | rfl <;> rfl
theorem stopE_M (h1 : 1 ≤ x) (h4 : x ≤ 4) : stopE (sCut l x y) x = 0 := by
  obtain ⟨a1, a2, a3, a4, _⟩ := sCut_S (l := l) (x := x) (y := y)
  unfold stopE
  rw [if_neg (by rw [isR_M a4 h1 h4]; simp), if_neg]
  unfold isStop
  rw [a1]; simp [mget]
theorem stopS_M (h1 : 1 ≤ x) (h4 : x ≤ 4) : stopS (sCut l x y) x = sStop l x y := by
  obtain ⟨a1, a2, a3, a4, _⟩ := sCut_S (l := l) (x := x) (y := y)
  unfold stopS
  rw [if_pos (stopE_M h1 h4)]
  unfold lostS stopC sStop
  simp only [a1, a2, a3]
  rfl
theorem nearM : nearU (sStop l x y) x 24 = [] := by
  unfold nearU
  rw [List.map_eq_nil_iff, List.filter_eq_nil_iff]
  intro j _
  unfold upF
  simp [sStop, mget_one]
theorem startE_M (h1 : 1 ≤ x) (h4 : x ≤ 4) : startE (sStop l x y) x = 0 := by
  obtain ⟨a1, a2, a3, a4, _⟩ := sCut_S (l := l) (x := x) (y := y)
  unfold startE
  rw [if_neg (by rw [isR_M (s := sStop l x y) a4 h1 h4]; simp), if_neg]
  unfold isStop
  simp [sStop, mget_one]
def sStart (l : List T_Link) (x y : Int) : NetS := { sCut l x y with S := [], sc := 1 }
theorem startS_M (h1 : 1 ≤ x) (h4 : x ≤ 4) : startS (sStop l x y) x = sStart l x y := by
  unfold startS
  rw [if_pos (startE_M h1 h4)]
  unfold sStop sStart
  simp only [mdel_one]
theorem mendE_M (h : ¬ costF (sM l) x y = 0) : mendE (sStart l x y) y x = 0 := by
  unfold mendE
  have hc : costF (sStart l x y) y x = costF (sM l) x y := by
    unfold costF
    rw [pk_sym]
    show ((mget (sCut l x y).L (pk x y)).getD 0) = _
    rw [sCut_S.2.2.2.2.1]
  rw [hc, if_neg h, if_neg]
  unfold isCut
  rw [pk_sym]
  show ¬ (mget (sCut l x y).C (pk x y)).getD false = false
  unfold sCut
  rw [if_neg h]
  simp [mget_one]
/-- the end: as it was, but for the clocks of two empty maps -/
def sEnd (l : List T_Link) (x y : Int) : NetS := if costF (sM l) x y = 0 then sStart l x y else mendS (sStart l x y) y x
theorem sEnd_is : ∃ c d, sEnd l x y = { sM l with cc := c, sc := d } := by
  unfold sEnd
  by_cases c : costF (sM l) x y = 0
  · rw [if_pos c]
    refine ⟨0, 1, ?_⟩
    unfold sStart sCut
    rw [if_pos c]; rfl
  · rw [if_neg c]
    unfold mendS
    rw [if_pos (mendE_M c)]
    unfold sStart sCut
    rw [if_neg c, pk_sym]
    simp only [mdel_one]
    exact ⟨1, 1, rfl⟩
theorem sEnd_good (h : OkM l) : GoodN (sEnd l x y) := by
  obtain ⟨c, d, e⟩ := sEnd_is (l := l) (x := x) (y := y)
  rw [e]
  exact ⟨h.g.bn, h.g.bl, h.g.er, h.g.le⟩
theorem sEnd_same : downR (sEnd l x y) = R4 ∧ upL (sEnd l x y) = upL (sM l) ∧ upF (sEnd l x y) x y = upF (sM l) x y := by
  obtain ⟨c, d, e⟩ := sEnd_is (l := l) (x := x) (y := y)
  rw [e]
  exact ⟨rfl, rfl, rfl⟩
end
end Go.Proofs.Ytmppehipfpkepaa.Dm
