/- A calendar of string as the statements' walks see it. -/
import Derived.Test.YtogndgadipdikaaW1
import Derived.Test.YtogndgadipdikaaTs
import Derived.Test.YtogndgadipdikaaC2
set_option linter.unusedSimpArgs false
set_option linter.unusedVariables false
namespace Go.Proofs.Ytogndgadipdikaa.Dm
open Go.Dm
set_option maxHeartbeats 4000000

section
variable {hp : Hp} {cb b : Nat} {last : Int} {s : Bool} {l : List T_t96}
theorem cal_gV_s (h : hp cb = some (.cells true 0 [.bool true, .int .i64 last, gV s b l])) (ho : hp b = gO s e_t96 l) (hs : s = false → l = []) (hu : up_s l) (ht : ∀ a ∈ l, 1 ≤ a.ticket ∧ a.ticket ≤ last) (h0 : 0 ≤ last) (h1 : last ≤ 1000000) (hn : l.length ≤ 1000000) :
    CalAt_s hp cb last (gV s b l) l := ⟨h, gV_own hs ho (by omega), hu, ht, h0, h1, hn⟩
end
theorem up_drop_s {l : List T_t96} (h : up_s l) (k : Nat) : up_s (l.drop k) := List.Pairwise.drop h
theorem outs_add_s {l : List T_t96} {i k : Nat} : outs_s l i ++ outs_s (l.drop i) k = outs_s l (i + k) := by
  unfold outs_s
  rw [← List.map_append, List.take_add]
theorem kF_all_s {n : Int} : ∀ {l : List T_t96}, (∀ a ∈ l, a.at_ ≤ n) → kF_s l n = l.length
  | [], _ => rfl
  | a :: l, h => by
    have ih := kF_all_s (n := n) (l := l) fun b hb => h b (List.mem_cons_of_mem _ hb)
    unfold kF_s at ih ⊢
    rw [List.takeWhile_cons, if_pos (by simpa using h a (List.mem_cons_self ..)), List.length_cons, ih, List.length_cons]
end Go.Proofs.Ytogndgadipdikaa.Dm
