/- A slice of bytes as a text. -/
import Derived.Test.YtmppehipfpkepaaDmI
set_option linter.unusedVariables false
namespace Go.Dm
def bytesOf (l:List Int):List UInt8:=l.map fun n=>UInt8.ofNat n.toNat
theorem Wl {tt:Ac}{hp:Hp}{s e d:TypeId}{b o n c:Nat}{rw:Bool}{z:Nat}{vs:List Value}{l:List Int}(hs:BF tt s=some (.slice e))(he:BF tt e=some (.int .u8))(hd:BF tt d=some .string)
  (hb:hp b=some (.cells rw z vs)) (hv:(vs.drop o).take n=l.map (Value.int .u8)) (hn:o+n≤vs.length):HO tt hp s d (.slice (some ⟨b,o,none⟩) n c)=(.string ⟨⟨bytesOf l⟩⟩,True):=by
 obtain ⟨i,hi,h1⟩:=BG hs
 obtain ⟨j,hj,h2⟩:=BG he
 obtain ⟨k,hk,h3⟩:=BG hd
 have h:Nd tt hp s d (.slice (some ⟨b,o,none⟩) n c)=some (.string ⟨⟨bytesOf l⟩⟩):=by
  simp only [Nd,hi,hk,h1,h3,hj,h2,hb,Nat.ble_eq_true_of_le hn,hv,hY];rfl
 unfold HO
 simp only [hs,h]
/-- one byte -/
theorem y8 {tt:Ac}{hp:Hp}{s e d:TypeId}{b:Nat}{n:Int}(hs:BF tt s=some (.slice e))(he:BF tt e=some (.int .u8))(hd:BF tt d=some .string)
  (hb:hp b=some (.cells true 1 [.int .u8 n])):HO tt hp s d (.slice (some ⟨b,0,none⟩) 1 1)=(.string ⟨⟨[UInt8.ofNat n.toNat]⟩⟩,True):=
 Wl (l:= [n]) hs he hd hb rfl (by simp)
end Go.Dm
