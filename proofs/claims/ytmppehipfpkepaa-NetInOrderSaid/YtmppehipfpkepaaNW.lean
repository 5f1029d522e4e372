/- NetInOrder: what it computes. -/
import Derived.Test.YtmppehipfpkepaaNL
import Derived.Test.YtmppehipfpkepaaNU
set_option linter.unusedSimpArgs false
set_option linter.unusedVariables false
namespace Go.Proofs.Ytmppehipfpkepaa.Dm
open Go.Dm
set_option maxHeartbeats 16000000
set_option maxRecDepth 20000
def lvI (q : Nat) (W : List Int) (D : Nat) : Value := if W = [] then .slice none 0 0 else ownS q ((thI W).drop D).length
def loI (W : List Int) (D : Nat) : Option AObj := if W = [] then none else ownO e_t124 ((thI W).drop D)
def netUV (n : Nat) (s : NetS) (lv : Value) : Upds := [(n, netOb n s), (n + 1, some (.map (me_m_pair_int s.L) s.lc)), (n + 2, some (.map (me_m_pair_bool s.C) s.cc)), (n + 3, some (.map (me_m_int_bool s.S) s.sc)), (n + 4, Fa.planOb (n + 5) s.P.ks), (n + 5, some (.map (me_m_message_Rule s.P.m) s.P.clk)), (n + 6, calOb s.last lv), (n + 7, mkOb e_int s.R)]
def hpI (hp : Hp) (top : Nat) (late : Int) (ks : List Int) (now : Int) (W : List Int) (D : Nat) : Hp := hp.sets (netUV top (netI late ks now W D) (lvI (top + 8) W D) ++ [(top + 8, loI W D), (top + 9, mkOb e_uint64 W)])
theorem thI_up {W : List Int} (h : W.Pairwise (· ≤ ·)) (D : Nat) : up_r ((thI W).drop D) := by
  refine up_drop_r ?_ D
  unfold up_r
  rw [List.pairwise_iff_getElem]
  intro i j hi hj hij
  rw [thI_len] at hi hj
  rw [thI_at hi, thI_at hj]
  have := List.pairwise_iff_getElem.1 h i j hi hj hij
  simp only [lt_r, ltK, Bool.or_eq_true, Bool.and_eq_true, decide_eq_true_eq]
  omega
theorem thI_tk {W : List Int} (D : Nat) : ∀ a ∈ (thI W).drop D, 1 ≤ a.ticket ∧ a.ticket ≤ (W.length : Int) := by
  intro a ha
  have ha := List.mem_of_mem_drop ha
  obtain ⟨j, hj, rfl⟩ := List.getElem_of_mem ha
  rw [thI_len] at hj
  rw [thI_at hj]
  show 1 ≤ (j : Int) + 1 ∧ (j : Int) + 1 ≤ _
  omega
theorem fam_net {hp : Hp} {top : Nat} {late : Int} {ks : List Int} {now : Int} {W : List Int} {D : Nat} (h1 : 1 ≤ late) (h2 : late ≤ 64) (h3 : 0 ≤ now) (h4 : now ≤ 1000) (h5 : ks.length = 625) (h6 : W.Pairwise (· ≤ ·)) (h7 : W.length ≤ 200) : NetAt (hpI hp top late ks now W D) top (lvI (top + 8) W D) (netI late ks now W D) := by
  have hl : ((thI W).drop D).length ≤ 200 := by rw [List.length_drop, thI_len]; omega
  have e : ∀ j, j ≤ top + 7 → (hpI hp top late ks now W D) j = (hp.sets (netUV top (netI late ks now W D) (lvI (top + 8) W D))) j := fun j hj => by
    unfold hpI
    rw [sets_app]
    exact sets_off fun p hp => by simp at hp; rcases hp with rfl | rfl <;> simp <;> omega
  refine ⟨?_, ?_, ?_, ?_, ?_, ?_, h5, ⟨?_, ?_, thI_up h6 D, thI_tk D, Int.natCast_nonneg _, by show (W.length : Int) ≤ 1000000; omega, by show ((thI W).drop D).length ≤ 1000000; omega⟩, fun _ => ?_, by show (3 : Nat) ≤ 1000; decide, h1, h2, h3, by show now ≤ 1099511627776; omega⟩
  · rw [e _ (by omega)]; simp [netUV, Hp.sets, Hp.set]
  · rw [e _ (by omega)]; simp [netUV, Hp.sets, Hp.set]
  · rw [e _ (by omega)]; simp [netUV, Hp.sets, Hp.set]
  · rw [e _ (by omega)]; simp [netUV, Hp.sets, Hp.set]
  · rw [e _ (by omega)]; simp [netUV, Hp.sets, Hp.set]
  · rw [e _ (by omega)]; simp [netUV, Hp.sets, Hp.set]
  · rw [e _ (by omega)]; simp [netUV, Hp.sets, Hp.set, calOb]
  · by_cases c : W = []
    · subst c
      show OwnV e_t124 _ (lvI (top + 8) [] D) ((thI []).drop D)
      rw [show lvI (top + 8) [] D = .slice none 0 0 from rfl, show (thI []).drop D = [] from by simp [thI]]
      exact .nil
    · show OwnV e_t124 _ (lvI (top + 8) W D) ((thI W).drop D)
      rw [show lvI (top + 8) W D = ownS (top + 8) ((thI W).drop D).length from if_neg c]
      refine .blk _ _ ?_ (by omega)
      unfold hpI
      rw [sets_app]
      simp [Hp.sets, Hp.set, loI, c, ownO]
  · rw [e _ (by omega)]; simp [netUV, Hp.sets, Hp.set]
theorem fam_W {hp : Hp} {top : Nat} {late : Int} {ks : List Int} {now : Int} {W : List Int} {D : Nat} : (hpI hp top late ks now W D) (top + 9) = mkOb e_uint64 W := by
  unfold hpI; rw [sets_app]; simp [Hp.sets, Hp.set]
theorem lvI_sc {top : Nat} {W : List Int} {D : Nat} : Sc (top + 9) (lvI (top + 8) W D) := by
  unfold lvI
  split
  · trivial
  · exact Nat.lt_succ_self (top + 8)
theorem lvI_hi {top : Nat} {W : List Int} {D : Nat} : Hi top (lvI (top + 8) W D) := by
  unfold lvI
  split
  · exact Hi.nil
  · intro b n c e; cases e; omega
theorem lvI_off {q j : Nat} {W : List Int} {D : Nat} (h : j ≠ q) : Apart j (lvI q W D) := by
  unfold lvI
  split
  · trivial
  · exact h
theorem lvI_app {q : Nat} {W : List Int} {w : Int} {D : Nat} : lvI q (W ++ [w]) D = ownS q ((thI (W ++ [w])).drop D).length := by unfold lvI; rw [if_neg (by simp)]
theorem loI_app {W : List Int} {w : Int} {D : Nat} : loI (W ++ [w]) D = ownO e_t124 ((thI (W ++ [w])).drop D) := by unfold loI; rw [if_neg (by simp)]
theorem sendU_off {n X j : Nat} {lv : Value} {s : NetS} {a b : Int} {m : List UInt8} {hp h : Hp} (o : OwnV e_t124 hp lv s.l) (h4 : j ≠ n + 4) (h5 : j ≠ n + 5) (h6 : j ≠ n + 6) (hX : j ≠ X) (hA : Apart j lv) : (h.sets (sendU n lv s a b m X)) j = h j := by
  refine sets_off fun p hp => ?_
  unfold sendU sendRes at hp
  split at hp
  · cases hp
  · simp only [List.mem_append] at hp
    rcases hp with hp | hp
    · simp [Fa.planUs] at hp; rcases hp with rfl | rfl
      · exact fun e => h5 e.symm
      · exact fun e => h4 e.symm
    · unfold putsU at hp
      split at hp
      · cases hp
      · simp only [List.mem_cons, List.mem_append, List.not_mem_nil, or_false] at hp
        rcases hp with rfl | hp | rfl
        · exact fun e => h6 e.symm
        · rcases own_cases o with ⟨rfl, _⟩ | ⟨q, rfl, _⟩
          · cases hp
          · simp [dropU] at hp; subst hp; exact fun e => hA e.symm
        · exact fun e => hX e.symm
theorem tickU_off {n X j : Nat} {lv : Value} {s : NetS} {hp h : Hp} (o : OwnV e_t124 hp lv s.l) (h0 : j ≠ n) (h6 : j ≠ n + 6) (hX : j ≠ X) (hA : Apart j lv) : (h.sets (tickU n lv s X)) j = h j := by
  refine sets_off fun p hp => ?_
  unfold tickU at hp
  split at hp
  · simp only [List.mem_cons] at hp
    rcases hp with rfl | rfl | rfl | hp
    · exact fun e => h0 e.symm
    · exact fun e => h6 e.symm
    · exact fun e => hX e.symm
    · rcases cut_cases_r o (kF_r_le s.l (s.now + 1)) with ⟨_, c2⟩ | ⟨b, c0, _, c2⟩
      · rw [show tickK s = kF_r s.l (s.now + 1) from rfl, c2] at hp; cases hp
      · rw [show tickK s = kF_r s.l (s.now + 1) from rfl, c2] at hp
        simp at hp; subst hp; rw [c0] at hA; exact fun e => hA e.symm
  · cases hp
theorem lvI_tick {q : Nat} {late : Int} {ks : List Int} {i : Nat} {W : List Int} {D : Nat} (h : i < 1000) : tickW (lvI q W D) (netI late ks i W D) = lvI q W (D + kI i W D) := by
  have hc : (netI late ks i W D).now < 1099511627776 := by show (i : Int) < 1099511627776; omega
  unfold tickW
  rw [if_pos hc]
  show cutV (lvI q W D) ((thI W).drop D) 0 (kI i W D) = _
  by_cases c : W = []
  · unfold lvI; rw [if_pos c, if_pos c]; unfold cutV; split <;> rfl
  · unfold lvI
    rw [if_neg c, if_neg c]
    unfold cutV
    by_cases e : 0 = kI i W D
    · rw [if_pos e, ← e]; rfl
    · rw [if_neg e]
      show ownS q (cutOut ((thI W).drop D) 0 (kI i W D)).length = _
      unfold cutOut
      rw [List.take_zero, List.nil_append, List.drop_drop]
end Go.Proofs.Ytmppehipfpkepaa.Dm
