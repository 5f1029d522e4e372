/- The net: what lost leaves is a net; Stop. -/
import Derived.Test.YtmppehipfpkepaaN19
set_option linter.unusedSimpArgs false
set_option linter.unusedVariables false
namespace Go.Proofs.Ytmppehipfpkepaa.Dm
open Go.Dm
set_option maxHeartbeats 16000000
set_option maxRecDepth 20000
def lostS (s : NetS) : NetS := { s with l := keptP (isDown s) s.l }
def lostU (n : Nat) (lv : Value) (s : NetS) (top : Nat) : Upds := (lostRes n lv s top).2.1
theorem NetAt.lost {hp : Hp} {n top : Nat} {lv : Value} {s : NetS} (h : NetAt hp n lv s) (h8 : n + 7 < top) (lvs : Sc top lv) : NetAt (hp.sets (lostU n lv s top)) n (dfV lv (keptP (isDown s) s.l)) (lostS s) := by
  have hA := h.apart
  obtain ⟨A0, A1, A2, A3, A4, A5, A6, A7⟩ := hA
  have hkl := keptP_len (p := isDown s) (l := s.l)
  have hn := h.W.n
  have hdu : ∀ p ∈ dfU e_t124 lv (keptP (isDown s) s.l), Apart p.1 lv → False := fun p hp hA => by
    rcases own_cases h.W.o with ⟨rfl, _⟩ | ⟨q, rfl, _⟩
    · cases hp
    · simp [dfU] at hp; subst hp; exact hA rfl
  have eU : lostU n lv s top = (n + 6, calOb s.last (dfV lv (keptP (isDown s) s.l))) :: (dfU e_t124 lv (keptP (isDown s) s.l) ++ [(top, mkOb e_Arrive (goneA (isDown s) s.l))]) := rfl
  have off : ∀ j, Apart j lv → j ≠ top → j ≠ n + 6 → (hp.sets (lostU n lv s top)) j = hp j := fun j h1 h2 h3 => by
    rw [eU]
    refine sets_off fun p hp => ?_
    simp only [List.mem_cons, List.mem_append, List.not_mem_nil, or_false] at hp
    rcases hp with rfl | hp | rfl
    · exact fun e => h3 e.symm
    · exact fun e => hdu p hp (by rw [e]; exact h1)
    · exact fun e => h2 e.symm
  have e6 : (hp.sets (lostU n lv s top)) (n + 6) = calOb s.last (dfV lv (keptP (isDown s) s.l)) := by
    rw [eU, sets_cons, sets_off, set_same]
    intro p hp
    simp only [List.mem_append, List.mem_cons, List.not_mem_nil, or_false] at hp
    rcases hp with hp | rfl
    · exact fun e => hdu p hp (by rw [e]; exact A6)
    · exact fun e => by simp only at e; omega
  refine ⟨(off _ A0 (by omega) (by omega)).trans h.h, (off _ A1 (by omega) (by omega)).trans h.L, (off _ A2 (by omega) (by omega)).trans h.C, (off _ A3 (by omega) (by omega)).trans h.S, (off _ A4 (by omega) (by omega)).trans h.P, (off _ A5 (by omega) (by omega)).trans h.M, h.pl, ⟨e6, ?_, List.Pairwise.filter _ h.W.up, fun a ha => h.W.tk a (List.mem_filter.1 ha).1, h.W.l0, h.W.l1, by show (keptP (isDown s) s.l).length ≤ 1000000; omega⟩, fun hr => (off _ (A7 hr) (by omega) (by omega)).trans (h.R hr), h.rn, h.lt0, h.lt1, h.nw0, h.nw1⟩
  show OwnV e_t124 _ (dfV lv (keptP (isDown s) s.l)) (keptP (isDown s) s.l)
  rcases own_cases h.W.o with ⟨rfl, hnil⟩ | ⟨q, rfl, hq⟩
  · rw [hnil]; exact .nil
  · have hqt : q < top := lvs
    have hq6 : q ≠ n + 6 := fun e => A6 e.symm
    refine .blk q _ ?_ (by omega)
    rw [eU]
    simp only [dfU, List.cons_append, List.nil_append, sets_cons, sets_nil]
    rw [set_ne _ _ _ _ (by omega), set_same]; rfl
end Go.Proofs.Ytmppehipfpkepaa.Dm
