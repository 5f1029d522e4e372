/- A list of a block of its own, or none yet: its forms through puts and cuts. -/
import Derived.Test.YtogndgadipdikaaC1
set_option linter.unusedSimpArgs false
set_option linter.unusedVariables false
namespace Go.Proofs.Ytogndgadipdikaa.Dm
open Go.Dm
set_option maxHeartbeats 4000000

def gV {α : Type} (s : Bool) (b : Nat) (l : List α) : Value := if s then ownS b l.length else .slice none 0 0
def gO {α : Type} (s : Bool) (E : Enc α) (l : List α) : Option AObj := if s then ownO E l else none
section
variable {α : Type} {E : Enc α} {s : Bool} {b : Nat} {l : List α} {hp : Hp}
theorem ren_gV {ρ : Nat → Nat} : ren ρ (gV s b l) = gV s (ρ b) l := by cases s <;> rfl
theorem renOO_gO [E.Plain] {ρ : Nat → Nat} : renOO ρ (gO s E l) = gO s E l := by
  cases s
  · rfl
  · simp only [gO, ownO, renOO, renO, if_true, Enc.flat_ren]
theorem gV_own (hs : s = false → l = []) (ho : hp b = gO s E l) (hn : l.length ≤ 9223372036854775807) : OwnV E hp (gV s b l) l := by
  cases s
  · rw [hs rfl]; exact .nil
  · exact .blk b l ho hn
theorem gV_slT (hs : s = false → l = []) (ho : hp b = gO s E l) (hn : l.length ≤ 9223372036854775807) : SlT E hp (gV s b l) l := (gV_own hs ho hn).slT
theorem gV_cut {i j : Nat} (hij : i ≤ j) (hj : j ≤ l.length) : cutV (gV s b l) l i j = gV s b (cutOut l i j) := by
  unfold cutV
  by_cases e : i = j
  · subst e
    rw [if_pos rfl]
    unfold gV
    rw [cutOut_len hij hj]
    simp
  · rw [if_neg e]; cases s <;> rfl
theorem set_self {h : Hp} {k : Nat} {o : Option AObj} (e : h k = o) : h.set k o = h := by
  funext i
  by_cases c : i = k
  · subst c; rw [set_same, e]
  · rw [set_ne _ _ _ _ c]
theorem gV_cutU {i j : Nat} (hij : i ≤ j) (hj : j ≤ l.length) (hs : s = false → l = []) (ho : hp b = gO s E l) : hp.sets (cutU E (gV s b l) l i j) = hp.set b (gO s E (cutOut l i j)) := by
  unfold cutU
  by_cases e : i = j
  · subst e
    rw [if_pos rfl, sets_nil]
    have : cutOut l i i = l := by unfold cutOut; exact List.take_append_drop ..
    rw [this, set_self ho]
  · rw [if_neg e]
    cases s with
    | false => have := hs rfl; subst this; simp only [List.length_nil] at hj; omega
    | true => rfl
theorem gV_drop {r : Upds} (ho : hp b = gO s E l) : hp.sets (dropU (gV s b l) ++ r) = (hp.set b none).sets r := by
  cases s with
  | false => rw [set_self (show hp b = none from ho)]; rfl
  | true => rfl
theorem gV_true {m : List α} (h : l.length + 1 = m.length) : ownS b (l.length + 1) = gV true b m := by unfold gV; rw [h]; rfl
theorem gO_true : ownO E l = gO true E l := rfl
theorem gV_false : gV false b l = .slice none 0 0 := rfl
theorem gO_false : gO false E l = none := rfl
theorem cut0 {k : Nat} : cutOut l 0 k = l.drop k := by unfold cutOut; simp
theorem cut_drop {i k : Nat} : cutOut (l.drop i) 0 k = l.drop (i + k) := by rw [cut0, List.drop_drop]
end
end Go.Proofs.Ytogndgadipdikaa.Dm
