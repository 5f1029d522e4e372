/- A slice of bytes as a text. -/
import Derived.Test.YtmppehipfpkepaaDmI
set_option linter.unusedSimpArgs false
set_option linter.unusedVariables false
namespace Go.Dm
def bytesOf (l : List Int) : List UInt8 := l.map fun n => UInt8.ofNat n.toNat
theorem sconvH_bytes {tt : TTab} {hp : Hp} {s e d : TypeId} {b o n c : Nat} {rw : Bool} {z : Nat} {vs : List Value} {l : List Int} (hs : kindOf tt s = some (.slice e)) (he : kindOf tt e = some (.int .u8)) (hd : kindOf tt d = some .string)
    (hb : hp b = some (.cells rw z vs)) (hv : (vs.drop o).take n = l.map (Value.int .u8)) (hn : o + n ≤ vs.length) : sconvH tt hp s d (.slice (some ⟨b, o, none⟩) n c) = (.string ⟨⟨bytesOf l⟩⟩, True) := by
  obtain ⟨i, hi, h1⟩ := kindOf_some hs
  obtain ⟨j, hj, h2⟩ := kindOf_some he
  obtain ⟨k, hk, h3⟩ := kindOf_some hd
  have h : convB tt hp s d (.slice (some ⟨b, o, none⟩) n c) = some (.string ⟨⟨bytesOf l⟩⟩) := by
    simp only [convB, hi, hk, h1, h3, hj, h2, hb, Nat.ble_eq_true_of_le hn, hv, numsL_map]; rfl
  unfold sconvH
  simp only [hs, h]
/-- one byte -/
theorem sconvH_one {tt : TTab} {hp : Hp} {s e d : TypeId} {b : Nat} {n : Int} (hs : kindOf tt s = some (.slice e)) (he : kindOf tt e = some (.int .u8)) (hd : kindOf tt d = some .string)
    (hb : hp b = some (.cells true 1 [.int .u8 n])) : sconvH tt hp s d (.slice (some ⟨b, 0, none⟩) 1 1) = (.string ⟨⟨[UInt8.ofNat n.toNat]⟩⟩, True) :=
  sconvH_bytes (l := [n]) hs he hd hb rfl (by simp)
end Go.Dm
