/- Digits as bytes; an op's bytes as a word, and back. -/
import Derived.Test.YthlhnangbinhoaaGreatDoorSD
set_option linter.unusedVariables false
namespace Go.Proofs.YthlhnangbinhoaaGreatDoor.Dm
open Go.Dm
set_option maxHeartbeats 16000000
set_option maxRecDepth 20000
def TE : Bb := .pure (fun args _ => match args with | [.string ⟨⟨_⟩⟩, .int .u8 _] => True | _ => False) (fun args _ => match args with | [s, c] => .int .i64 (Lib.indexByte (strOf s) (intOf c).toNat.toUInt8) | _ => undef)
theorem zf : A0 Tryz.prog 119 TE := by
  refine ⟨⟨_, Xp.toFTOk⟩, fun args hp hpre top => ?_⟩
  match args, hpre with
  | [.string ⟨⟨s⟩⟩, .int .u8 c], _ =>
  refine AR.OJ rfl fun φ own w args' ha H => ?_
  cases ha with
  | cons _ _ _ _ hx hl =>
  cases hx
  cases hl with
  | cons _ _ _ _ hx hl =>
  cases hx
  cases hl
  refine (Tryz.strings_IndexByte ⟨⟨s⟩⟩ c w).mono ?_
  rintro e w' ⟨rfl, rfl⟩
  exact ⟨rfl, Go.RowKit.Below.refl _ _⟩
def hv (c : UInt8) : Int := Lib.indexByte AAZ c
theorem MH (c : UInt8) : -1 ≤ hv c ∧ hv c < 16 := by
  have : ∀ n : Fin 256, -1 ≤ hv (UInt8.ofNat n.val) ∧ hv (UInt8.ofNat n.val) < 16 := by decide +kernel
  have h := this ⟨c.toNat, c.toNat_lt⟩
  simpa using h
def nK (a b : UInt8) : UInt8 := UInt8.ofNat (16 * (hv a).toNat + (hv b).toNat)
def Ed (s : List UInt8) (k : Nat) : List UInt8 := (List.range k).map fun j => nK (at' s (2 * j)) (at' s (2 * j + 1))
def R7 (s : List UInt8) (k : Nat) : Bool := (List.range k).all fun j => decide (0 ≤ hv (at' s (2 * j))) && decide (0 ≤ hv (at' s (2 * j + 1)))
theorem TX {s : List UInt8} {k : Nat} : Ed s (k + 1) = Ed s k ++ [nK (at' s (2 * k)) (at' s (2 * k + 1))] := by simp [Ed, List.range_succ]
theorem GH {s : List UInt8} {k : Nat} : (Ed s k).length = k := by simp [Ed]
theorem Qd {s : List UInt8} {k : Nat} : R7 s (k + 1) = (R7 s k && (decide (0 ≤ hv (at' s (2 * k))) && decide (0 ≤ hv (at' s (2 * k + 1))))) := by simp [R7, List.range_succ]
theorem NO {s : List UInt8} {k : Nat} : ∀ {n : Nat}, k ≤ n → R7 s k = false → R7 s n = false := by
  intro n
  induction n with
  | zero => intro h; have : k = 0 := by omega
            subst this; exact id
  | succ n ih =>
    intro h e
    by_cases hk : k = n + 1
    · subst hk; exact e
    · rw [Qd, ih (by omega) e]; rfl
def GX (s : List UInt8) : Option (List UInt8) := if s.length % 2 = 0 ∧ R7 s (s.length / 2) = true then some (Ed s (s.length / 2)) else none
def Gt (s : List UInt8) : Value := .tuple ⟨[.string ⟨⟨(GX s).getD []⟩⟩, .int .i64 (if (GX s).isSome then 0 else 4)]⟩
def Od : Bb := .pure (fun args _ => match args with | [.string ⟨⟨s⟩⟩] => s.length < 4294967281 | _ => False) (fun args _ => match args with | [s] => Gt (strOf s) | _ => undef)
theorem vE {a b : Int} (h0 : 0 ≤ a) (h1 : a < 16) (h2 : 0 ≤ b) (h3 : b < 16) : Ap .u8 (CZ .or .i64 (Ap .i64 (a * Int.ofNat (Nat.pow 2 ((Int.toNat 4).min 64)))) b) = ((UInt8.ofNat (16 * a.toNat + b.toNat)).toNat : Int) := by
  have : ∀ x y : Fin 16, Ap .u8 (CZ .or .i64 (Ap .i64 ((x.val : Int) * Int.ofNat (Nat.pow 2 ((Int.toNat 4).min 64)))) (y.val : Int)) = ((UInt8.ofNat (16 * x.val + y.val)).toNat : Int) := by decide +kernel
  have h := this ⟨a.toNat, by omega⟩ ⟨b.toNat, by omega⟩
  simpa only [Int.toNat_of_nonneg h0, Int.toNat_of_nonneg h2] using h
theorem ee (c : UInt8) : (Int.ofNat c.toNat).toNat.toUInt8 = c := by simp
theorem Zh (c : UInt8) : Lib.indexByte [48, 49, 50, 51, 52, 53, 54, 55, 56, 57, 97, 98, 99, 100, 101, 102] c = hv c := rfl
def GS7 : FuncId → Bb := Bw (Bw GS6 81 Ti) 119 TE
theorem RQ : CQ Tryz.prog tt.get GS7 := (Te.add vH).add zf
theorem ke : GS7 119 = TE := rfl
def zU (L : List UInt8) (n : Nat) : List Value := Jj L ++ DV n (.int .u8 0)
theorem xw {n : Nat} : zU [] n = DV n (.int .u8 0) := rfl
theorem Ol {n : Nat} {v : Value} : DV (n + 1) v = v :: DV n v := rfl
theorem gG {L : List UInt8} {n : Nat} : (zU L n).length = L.length + n := by simp [zU, Eb, iP]
theorem Oe {f : Value → Value} {v : Value} : ∀ n, (DV n v).map f = DV n (f v)
  | 0 => rfl
  | n + 1 => by rw [Ol, Ol, List.map_cons, Oe n]
theorem vW {ρ : Nat → Nat} {L : List UInt8} {n : Nat} : Co ρ (zU L n) = zU L n := by
  rw [FK, zU, List.map_append, Oe, Jj, List.map_map]; rfl
theorem sT {ρ : Nat → Nat} {n : Nat} : Co ρ (DV n (.int .u8 0)) = DV n (.int .u8 0) := by rw [FK, Oe]; rfl
theorem xG {L : List UInt8} {n : Nat} {x : UInt8} : A6 (zU L (n + 1)) L.length [.int .u8 x.toNat] = zU (L ++ [x]) n := by
  unfold A6 zU
  rw [Ol]
  have e : (Jj L).length = L.length := Eb
  rw [List.take_append_of_le_length (by omega), List.take_of_length_le (by omega), ← e, List.drop_append]
  simp [Jj, List.drop_eq_nil_of_le]
theorem AAD {hp : Hp} {b q top k c : Nat} {L : List UInt8} {x : UInt8} (hL : L.length = k) (hc : k < c) (hb : hp b = some (.cells true 1 (zU L (c - k)))) (hq : hp q = some (.cells true 1 [.int .u8 x.toNat])) :
    AM tt.get hp top [69, 69] (.slice (some ⟨b, 0, none⟩) k c) (.slice (some ⟨q, 0, none⟩) 1 1) = some (.slice (some ⟨b, 0, none⟩) (k + 1) c, [(b, some (.cells true 1 (zU (L ++ [x]) (c - (k + 1)))))], top) := by
  have h1 : (Nat.ble (k + 1) c && !Nat.beq k c) = true := by
    rw [Bool.and_eq_true]
    have e0 : Nat.beq k c = false := by
      cases e : Nat.beq k c with
      | false => rfl
      | true => have := Nat.eq_of_beq_eq_true e; omega
    exact ⟨Nat.ble_eq_true_of_le hc, by rw [e0]; rfl⟩
  have h2 : Nat.ble (0 + k * 1 + [Value.int .u8 x.toNat].length) (zU L (c - k)).length = true := Nat.ble_eq_true_of_le (by rw [gG, hL]; simp; omega)
  have hf : Cq hp 1 1 (.slice (some ⟨q, 0, none⟩) 1 1) = some [.int .u8 x.toNat] := by simp [Cq, hq]
  have e3 : c - k = (c - (k + 1)) + 1 := by omega
  simp only [AM, DW, T9, F6, xe, HC, EA, hf, hb, A3, h1, h2]
  rw [e3, show 0 + k * 1 = L.length from by omega, xG]
  rfl
def gF (hp : Hp) (top : Nat) (s : List UInt8) (k : Nat) : SS := ⟨[(0, .string ⟨⟨s⟩⟩, true), (4, .slice (some ⟨top, 0, none⟩) k (s.length / 2), true), (5, .int .i64 ((2 * k : Nat) : Int), true)], hp.Av [(top, some (.cells true 1 (zU (Ed s k) (s.length / 2 - k))))], top + 1⟩
theorem xV : A0 Tryz.prog 96 Od := by
  refine .Fm VM ?_ ?_
  · intro args hp h
    match args, h with
    | [.string ⟨⟨s⟩⟩], _ => rfl
  intro args hp hpre top hcl hsc
  match args, hpre with
  | [.string ⟨⟨s⟩⟩], hs =>
  simp only [AH]
  have tm : ((s.length : Int)).tmod 2 = ((s.length % 2 : Nat) : Int) := rfl
  have q2 : IntKind.i64.wrap ((s.length : Int).tdiv 2) = ((s.length / 2 : Nat) : Int) := by
    rw [show (s.length : Int).tdiv 2 = ((s.length / 2 : Nat) : Int) from rfl, ← Eo, wrap64 (by omega) (by omega)]
  refine AR.A5 BA VM rfl 47 rfl [.tmp 2, .tmp 3] rfl (show 1 ≤ 47 by decide) ?_
  by_cases c2 : s.length % 2 = 0
  case neg =>
    have e : GX s = none := by unfold GX; rw [if_neg (fun h => c2 h.1)]
    have c2' : ¬ ((s.length % 2 : Nat) : Int) = 0 := by omega
    simp only [Gt, e]
    refine CW.vc RQ [0, 2, 3, 4, 5, 6, 7, 11, 19, 36] (by kernel_rfl) ?_
    (repeat ((try refine Vc.mk' ?_); simp (maxSteps:=6000000) only [go_sem, A8, tm, c2', decide_false]))
    rfl
  have c2' : ((s.length % 2 : Nat) : Int) = 0 := by omega
  have b1 : Nat.ble (s.length / 2) 1099511627776 = true := Nat.ble_eq_true_of_le (by omega)
  have b2 : Nat.ble (1 * (s.length / 2)) 1099511627776 = true := Nat.ble_eq_true_of_le (by omega)
  have b3 : Nat.ble 0 (s.length / 2) = true := Nat.ble_eq_true_of_le (by omega)
  refine CW.vc RQ [0, 2, 3, 4, 5, 6, 7, 11, 19, 36] (by kernel_rfl) ?_
  (repeat ((try refine Vc.mk' ?_); simp (maxSteps:=6000000) only [go_sem, A8, tm, c2', decide_true, q2, b1, b2, b3]))
  generalize hN : s.length / 2 = N at b1 b2 b3 q2
  have hsN : s.length = 2 * N := by omega
  have eV : ∀ (h : R7 s N = true), Gt s = .tuple ⟨[.string ⟨⟨Ed s N⟩⟩, .int .i64 0]⟩ := fun h => by
    have e : GX s = some (Ed s N) := by unfold GX; rw [hN, if_pos ⟨c2, h⟩]
    simp only [Gt, e]; rfl
  have eW : ∀ (h : R7 s N = false), Gt s = .tuple ⟨[.string ⟨⟨[]⟩⟩, .int .i64 4]⟩ := fun h => by
    have e : GX s = none := by unfold GX; rw [hN, if_neg (fun h' => by rw [h] at h'; simp at h')]
    simp only [Gt, e]; rfl
  refine CW.DC (gF hp top s) (fun k => k ≤ N ∧ R7 s k = true) (fun k => N - k) 0 ⟨Nat.zero_le _, rfl⟩ ?_ ?_
  · exact (by refine BR.mk' [top] hcl (by simp) (by simp) rfl (AU ?_) ?_ ?_ <;> simp [show Ed s 0 = [] from rfl, xw, hN, sT])
  · rintro k ⟨hi, hok⟩
    by_cases hlt : k < N
    · have l1 : (((2 * k : Nat) : Int) < (s.length : Int)) := by omega
      have l2 : (((2 * k + 1 : Nat) : Int) < (s.length : Int)) := by omega
      have k1 : Ap .i64 (((2 * k : Nat) : Int) + 1) = ((2 * k + 1 : Nat) : Int) := by rw [wrap64 (by omega) (by omega)]; omega
      have k2 : Ap .i64 (((2 * k : Nat) : Int) + 2) = ((2 * (k + 1) : Nat) : Int) := by rw [wrap64 (by omega) (by omega)]; omega
      have a1 := PU (b := s) (k := 2 * k) (by omega)
      have a2 := PU (b := s) (k := 2 * k + 1) (by omega)
      have r1 := MH (at' s (2 * k))
      have r2 := MH (at' s (2 * k + 1))
      have hsu := Qd (s := s) (k := k)
      by_cases d1 : 0 ≤ hv (at' s (2 * k))
      · have d1' : ¬ hv (at' s (2 * k)) < 0 := by omega
        by_cases d2 : 0 ≤ hv (at' s (2 * k + 1))
        · have d2' : ¬ hv (at' s (2 * k + 1)) < 0 := by omega
          have hx := vE d1 r1.2 d2 r2.2
          have hap : ∀ {h' : Hp} {q t : Nat}, h' top = some (.cells true 1 (zU (Ed s k) (N - k))) → h' q = some (.cells true 1 [.int .u8 (nK (at' s (2 * k)) (at' s (2 * k + 1))).toNat]) → AM tt.get h' t [69, 69] (.slice (some ⟨top, 0, none⟩) k N) (.slice (some ⟨q, 0, none⟩) 1 1) = some (.slice (some ⟨top, 0, none⟩) (k + 1) N, [(top, some (.cells true 1 (zU (Ed s (k + 1)) (N - (k + 1)))))], t) := fun {h'} {q} {t} e1 e2 => by
            rw [TX]
            exact AAD GH hlt e1 e2
          have hxB : Ap .u8 (CZ .or .i64 (Ap .i64 (hv (at' s (2 * k)) * Int.ofNat (Nat.pow 2 ((Int.toNat 4).min 64)))) (hv (at' s (2 * k + 1)))) = ((nK (at' s (2 * k)) (at' s (2 * k + 1))).toNat : Int) := hx
          have hn : R7 s (k + 1) = true := by rw [hsu, hok]; simp [d1, d2]
          refine CW.vc RQ [0, 2, 3, 4, 5, 6, 7, 11, 19, 36] (by kernel_rfl) ?_
          (repeat ((try refine Vc.mk' ?_); simp (maxSteps:=6000000) only [go_sem, gF, A8, l1, l2, k1, k2, a1, a2, ke, TE, ee, Zh, d1', d2', decide_false, hxB, hap, hN]))
          refine .mk (k + 1) ⟨hlt, hn⟩ (by omega) ((by refine BR.mk' [top] hcl (by simp) (by simp) rfl (AU ?_) ?_ ?_ <;> simp [hN, vW]))
        · have d2' : hv (at' s (2 * k + 1)) < 0 := by omega
          have hn : R7 s N = false := NO (k := k + 1) hlt (by rw [hsu]; simp [d2])
          rw [eW hn]
          refine CW.vc RQ [0, 2, 3, 4, 5, 6, 7, 11, 19, 36] (by kernel_rfl) ?_
          (repeat ((try refine Vc.mk' ?_); simp (maxSteps:=6000000) only [go_sem, gF, A8, l1, l2, k1, a1, a2, ke, TE, ee, Zh, d1', d2', decide_false, decide_true]))
      · have d1' : hv (at' s (2 * k)) < 0 := by omega
        have hn : R7 s N = false := NO (k := k + 1) hlt (by rw [hsu]; simp [d1])
        rw [eW hn]
        refine CW.vc RQ [0, 2, 3, 4, 5, 6, 7, 11, 19, 36] (by kernel_rfl) ?_
        (repeat ((try refine Vc.mk' ?_); simp (maxSteps:=6000000) only [go_sem, gF, A8, l1, l2, k1, a1, a2, ke, TE, ee, Zh, d1', decide_true]))
    · have hk : k = N := by omega
      subst hk
      rw [eV hok]
      have l1 : ¬ (((2 * k : Nat) : Int) < (s.length : Int)) := by omega
      have hcv : ∀ {h' : Hp} {c : Nat}, h' top = some (.cells true 1 (zU (Ed s k) (k - k))) → CU tt.get h' 69 9 (.slice (some ⟨top, 0, none⟩) k c) = (.string ⟨⟨Ed s k⟩⟩, True) := fun {h'} {c} e => by
        have e2 : ((zU (Ed s k) (k - k)).drop 0).take k = ((Ed s k).map fun b => (b.toNat : Int)).map (Value.int .u8) := by
          rw [Nat.sub_self, List.drop_zero, zU, show DV 0 (Value.int .u8 0) = [] from rfl, List.append_nil, List.take_of_length_le (by rw [Eb, GH]; exact Nat.le_refl _), Jj, List.map_map]
          rfl
        have := Gf (o := 0) (n := k) (c := c) DT JT HD e e2 (by rw [gG, GH]; omega)
        rw [this]
        have e3 : bytesOf ((Ed s k).map fun b => (b.toNat : Int)) = Ed s k := by
          simp [bytesOf, List.map_map, Function.comp_def]
        rw [e3]
      refine CW.vc RQ [0, 2, 3, 4, 5, 6, 7, 11, 19, 36] (by kernel_rfl) ?_
      (repeat ((try refine Vc.mk' ?_); simp (maxSteps:=6000000) only [go_sem, gF, A8, l1, decide_false, hN, hcv]))
end Go.Proofs.YthlhnangbinhoaaGreatDoor.Dm
