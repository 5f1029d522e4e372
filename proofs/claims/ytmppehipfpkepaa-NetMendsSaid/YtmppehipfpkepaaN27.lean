/- The net in memory beside other blocks that stay as they are. -/
import Derived.Test.YtmppehipfpkepaaNCA
set_option linter.unusedSimpArgs false
set_option linter.unusedVariables false
namespace Go.Proofs.Ytmppehipfpkepaa.Dm
open Go.Dm
set_option maxHeartbeats 16000000
set_option maxRecDepth 20000
/-- the net lies at n .. n + 7, its list in a new block; all else below m is as it was in F -/
structure MnAt (F : Hp) (n m : Nat) (hp : Hp) (top : Nat) (lv : Value) (s : NetS) : Prop where
  fx : ∀ j, j < m → (j < n ∨ n + 8 ≤ j) → hp j = F j
  nm : n + 8 ≤ m
  tp : m ≤ top
  net : NetAt hp n lv s
  hi : Hi m lv
  sc : Sc top lv
/-- names of the net, and new ones -/
def OwnM (n m : Nat) (us : Upds) : Prop := ∀ p ∈ us, (n ≤ p.1 ∧ p.1 ≤ n + 7) ∨ m ≤ p.1
section
variable {F hp : Hp} {n m top : Nat} {lv : Value} {s : NetS}
theorem MnAt.sets (h : MnAt F n m hp top lv s) {us : Upds} (hu : OwnM n m us) {lv' : Value} {s' : NetS} {top' : Nat} (hN : NetAt (hp.sets us) n lv' s') (hh : Hi m lv') (hs : Sc top' lv') (ht : top ≤ top') : MnAt F n m (hp.sets us) top' lv' s' := by
  have hnm := h.nm
  refine ⟨fun j h1 h2 => ?_, h.nm, Nat.le_trans h.tp ht, hN, hh, hs⟩
  rw [sets_off fun p hp e => by have := hu p hp; omega]
  exact h.fx j h1 h2
theorem MnAt.new (h : MnAt F n m hp top lv s) (o : Option AObj) : MnAt F n m (hp.set top o) (top + 1) lv s := by
  have t := h.tp
  have hnm := h.nm
  refine h.sets (us := [(top, o)]) (fun p hp => ?_) (h.net.stay (top := top) (by omega) h.sc (by show Keep top [] (hp.set top o) hp; rw [Keep.set (by omega), Keep.refl]; trivial)) h.hi (sc_up h.net.W.o h.sc (by omega)) (by omega)
  simp at hp; subst hp; right; exact t
/-- what is there now stays -/
theorem MnAt.froze (h : MnAt F n m hp top lv s) (hl : Hi top lv) : MnAt hp n top hp top lv s := ⟨fun _ _ _ => rfl, by have := h.nm; have := h.tp; omega, Nat.le_refl _, h.net, hl, h.sc⟩
theorem MnAt.drop (h : MnAt F n m hp top lv s) : ∀ p ∈ dropU lv, m ≤ p.1 := hi_drop h.net.W.o h.hi
theorem MnAt.send (h : MnAt F n m hp top lv s) (hla : s.last < 999990) (a b : Int) (b_ : List UInt8) : MnAt F n m (hp.sets (sendU n lv s a b b_ top)) (sendT s a b b_ top) (sendV lv s a b b_ top) (sendS s a b b_) := by
  have t := h.tp
  have hnm := h.nm
  refine h.sets (fun p hp => ?_) (h.net.send (by omega) h.sc hla a b b_) (hi_sendV t h.hi) ?_ ?_
  · unfold sendU sendRes at hp
    split at hp
    · cases hp
    · simp only [List.mem_append] at hp
      rcases hp with hp | hp
      · simp [Fa.planUs] at hp; rcases hp with rfl | rfl <;> simp
      · unfold putsU at hp
        split at hp
        · cases hp
        · simp only [List.mem_cons, List.mem_append, List.not_mem_nil, or_false] at hp
          rcases hp with rfl | hp | rfl
          · simp
          · exact .inr (h.drop p hp)
          · exact .inr t
  · unfold sendV sendT
    split
    · exact h.sc
    · exact Nat.lt_succ_self top
  · unfold sendT
    split <;> omega
theorem MnAt.tick (h : MnAt F n m hp top lv s) : MnAt F n m (hp.sets (tickU n lv s top)) (tickT s top) (tickW lv s) (tickS s) := by
  have t := h.tp
  have hnm := h.nm
  have hT : top ≤ tickT s top := by unfold tickT; split <;> omega
  refine h.sets (fun p hp => ?_) (h.net.tick (by omega) h.sc) (hi_tickW h.net.W.o h.hi) ?_ hT
  · unfold tickU at hp
    split at hp
    · simp only [List.mem_cons] at hp
      rcases hp with rfl | rfl | rfl | hp
      · simp
      · simp
      · exact .inr t
      · rcases cut_cases_r h.net.W.o (kF_r_le s.l (s.now + 1)) with ⟨_, c2⟩ | ⟨b, c0, _, c2⟩
        · rw [show tickK s = kF_r s.l (s.now + 1) from rfl, c2] at hp; cases hp
        · rw [show tickK s = kF_r s.l (s.now + 1) from rfl, c2] at hp
          simp at hp; subst hp; exact .inr (h.hi b _ _ c0)
    · cases hp
  · unfold tickW
    split
    · rcases cut_cases_r h.net.W.o (kF_r_le s.l (s.now + 1)) with ⟨c1, _⟩ | ⟨b, c0, c1, _⟩
      · rw [show cutV lv s.l 0 (tickK s) = lv from c1]; exact sc_up h.net.W.o h.sc hT
      · rw [show cutV lv s.l 0 (tickK s) = _ from c1]
        have := h.sc
        rw [c0] at this
        exact Nat.lt_of_lt_of_le (show b < top from this) hT
    · exact sc_up h.net.W.o h.sc hT
theorem mem_lostM {p : Nat × Option AObj} {o : Upds} (h : MnAt F n m hp top lv s) {s' : NetS} {l : List T_t124} (hp_ : p ∈ (n + 6, calOb s'.last (dfV lv l)) :: (dfU e_t124 lv l ++ o)) (ho : ∀ p ∈ o, m ≤ p.1) : (n ≤ p.1 ∧ p.1 ≤ n + 7) ∨ m ≤ p.1 := by
  simp only [List.mem_cons, List.mem_append] at hp_
  rcases hp_ with rfl | hp_ | hp_
  · simp
  · rcases own_cases h.net.W.o with ⟨rfl, _⟩ | ⟨q, rfl, _⟩
    · cases hp_
    · simp [dfU] at hp_; subst hp_; exact .inr (h.hi q _ _ rfl)
  · exact .inr (ho p hp_)
theorem MnAt.cut (h : MnAt F n m hp top lv s) (a b : Int) : MnAt F n m (hp.sets (cutX n lv s a b top)) (cutT s a b top) (cutW lv s a b) (cutS s a b) := by
  have t := h.tp
  have hnm := h.nm
  have hT : top ≤ cutT s a b top := by unfold cutT; split <;> omega
  refine h.sets (fun p hp => ?_) (h.net.cut (by omega) h.sc a b) ?_ ?_ hT
  · unfold cutX cutRes at hp
    split at hp
    · rcases List.mem_cons.1 hp with rfl | hp
      · simp
      · exact mem_lostM h hp (by simp; omega)
    · cases hp
  · unfold cutW; split
    · exact hi_df h.net.W.o h.hi
    · exact h.hi
  · unfold cutW; split
    · exact sc_df h.net.W.o h.sc hT
    · exact sc_up h.net.W.o h.sc hT
theorem MnAt.stop (h : MnAt F n m hp top lv s) (a : Int) : MnAt F n m (hp.sets (stopX n lv s a top)) (stopT s a top) (stopW lv s a) (stopS s a) := by
  have t := h.tp
  have hnm := h.nm
  have hT : top ≤ stopT s a top := by unfold stopT; split <;> omega
  refine h.sets (fun p hp => ?_) (h.net.stop (by omega) h.sc a) ?_ ?_ hT
  · unfold stopX stopRes at hp
    split at hp
    · rcases List.mem_cons.1 hp with rfl | hp
      · simp
      · exact mem_lostM h hp (by simp; omega)
    · cases hp
  · unfold stopW; split
    · exact hi_df h.net.W.o h.hi
    · exact h.hi
  · unfold stopW; split
    · exact sc_df h.net.W.o h.sc hT
    · exact sc_up h.net.W.o h.sc hT
theorem MnAt.mend (h : MnAt F n m hp top lv s) (a b : Int) : MnAt F n m (hp.sets (mendU n s a b)) top lv (mendS s a b) := by
  have t := h.tp
  have hnm := h.nm
  refine h.sets (fun p hp => ?_) (h.net.mend a b) h.hi h.sc (Nat.le_refl _)
  unfold mendU at hp
  split at hp
  · simp at hp; subst hp; simp
  · cases hp
theorem MnAt.start (h : MnAt F n m hp top lv s) (a : Int) : MnAt F n m (hp.sets (startU n s a)) top lv (startS s a) := by
  have t := h.tp
  have hnm := h.nm
  refine h.sets (fun p hp => ?_) (h.net.start a) h.hi h.sc (Nat.le_refl _)
  unfold startU at hp
  split at hp
  · simp at hp; subst hp; simp
  · cases hp
/-- nothing flies: nothing comes -/
theorem cutL_nil {a b : Int} (h : s.l = []) : cutL s a b = [] := by unfold cutL; rw [h]; split <;> rfl
end
end Go.Proofs.Ytmppehipfpkepaa.Dm
