/- Bit strings, as the bits chapter has them (turned to this seat by port.py): part TB3. -/
import Derived.Test.YthpibnpeaidabaaGreatDoorTB2
import Derived.Lib.ItoaLen
import Derived.Lib.ItoaMem
import Derived.Shelf.Spec.TrailingZeros
set_option linter.unusedVariables false
namespace Go.Proofs.YthpibnpeaidabaaGreatDoor.Dm
open Go.Dm
set_option maxHeartbeats 16000000
def vr := vd
theorem qi : B7 Tryz.prog tt.get vr := rJ
/-- a variable of one cell: the program's variable g, whole -/
def KP (g : Nat) (v : Value) : Av := .cells false (A8 + 4096 + g) [v]
theorem IM {φ : Ren} {own : Nat → Prop} {hp : Hp} {w : World} (H : HR φ own hp w) {i g : Nat} {v : Value} (hg : g < 4096) (h : hp i = some (KP g v)) : ∃ v', V φ v v' ∧ w.cell? ⟨g, 0, none⟩ = some v' := by
  obtain ⟨L, hL, he, c, t, fz, h1, h2, h3, h4, h5⟩ := H.obj _ _ h
  obtain ⟨h6, h7, h8⟩ := h5.2.1 rfl (by omega)
  have hb : L.Bs = g := by omega
  have hm : L.D7 = 1 := by omega
  rw [hb] at h1
  rw [h7, List.drop_zero] at h4
  cases h4' : c.toList with
  | nil => have : c.size = 0 := by rw [← Array.length_toList, h4']; rfl
           omega
  | cons x r =>
    rw [h4'] at h4
    cases h4 with
    | cons _ _ _ _ hx _ =>
      refine ⟨x, hx, ?_⟩
      have hc : c[0]? = some x := by rw [← Array.getElem?_toList, h4']; rfl
      simp [World.cell?, h1, hc]
def TX (s : List UInt8) : List (List UInt8) := Lib.split s [32]
def I4 : BB := .det (fun args hp _ => match args with | [.string ⟨⟨s⟩⟩, .string ⟨⟨sep⟩⟩] => s.length < 4294967281 ∧ sep = [32] ∧ ∃ m, hp 2 = some (KP 3 (.int .i64 m)) | _ => False)
  (fun args _ top => match args with | [s, _] => (Ao top (TX (strOf s)), [(top, Af AR (TX (strOf s)))], top + 1) | _ => (undef, [], top))
theorem bu (l : List ByteArray) : AR.flat (l.map (·.data.toList)) = l.map Value.string := by
  induction l with
  | nil => rfl
  | cons a l ih => rw [List.map_cons, Be.B6, ih]; rfl
theorem Y0 {φ : Ren} : ∀ l : List ByteArray, Vs φ (l.map Value.string) (l.map Value.string)
  | [] => .nil
  | a :: l => .cons _ _ _ _ (.str a) (Y0 l)
/-- a new row of texts -/
theorem newRow {φ : Ren} {own : Nat → Prop} {hp : Hp} {w : World} {top : Nat} (H : HR φ own hp w) (htop : ∀ j, top ≤ j → φ j = none) (l : List ByteArray) (t : TypeId) (hl : l ≠ []) :
    Em φ own w (Ao top (l.map (·.data.toList))) (hp.Am [(top, Af AR (l.map (·.data.toList)))]) (top + 1) (.slice (some ⟨w.heap.size, 0, none⟩) l.length l.length) (w.alloc (.cells (l.map Value.string).toArray t)) (φ.ext top ⟨w.heap.size, 0, 1, l.length⟩) := by
  obtain ⟨x, r, rfl⟩ := List.exists_cons_of_ne_nil hl
  have hok : C2 φ ⟨w.heap.size, 0, 1, (x :: r).length⟩ (.cells true 1 ((x :: r).map Value.string)) (some (.cells ((x :: r).map Value.string).toArray t)) := by
    refine ⟨rfl, _, t, (0, 0), rfl, by simp, by simp, ?_, ⟨fun _ => Nat.le_refl _, (fun e => by cases e), fun _ h => absurd h (by decide)⟩⟩
    have e : ((((x :: r).map Value.string).toArray.toList.drop 0).take ((x :: r).map Value.string).length) = (x :: r).map Value.string := by
      rw [List.drop_zero, List.take_of_length_le (by simp)]
    rw [e]; exact Y0 _
  have hs : hp.Am [(top, Af AR ((x :: r).map (·.data.toList)))] = hp.H8 top (.cells true 1 ((x :: r).map Value.string)) := by
    have e : Af AR ((x :: r).map (·.data.toList)) = some (.cells true 1 ((x :: r).map Value.string)) := by
      rw [← bu]; rfl
    rw [e]
    funext j
    simp only [Dj, JI, Hp.set, Hp.H8]
  have HA := H.alloc top _ _ _ w.drawn (htop top (Nat.le_refl _)) rfl hok
  refine ⟨Ren.C4 (htop top (Nat.le_refl _)), ?_, ?_, K.alloc own w _ w.drawn rfl, ?_⟩
  · have e : Ao top ((x :: r).map (·.data.toList)) = .slice (some ⟨top, 0, none⟩) (x :: r).length (x :: r).length := by simp [Ao]
    rw [e]
    have := V.slice (φ := φ.ext top ⟨w.heap.size, 0, 1, (x :: r).length⟩) top 0 (x :: r).length (x :: r).length (x :: r).length ⟨w.heap.size, 0, 1, (x :: r).length⟩ (Ren.Ay ..) (Nat.le_refl _) (Nat.le_refl _) (by simp)
    exact this
  · rw [hs]; exact HA
  · intro j hj
    have : ¬ j = top := by omega
    simp only [Ren.ext, this, if_false]
    exact htop j (by omega)
theorem Xr : A4 Tryz.prog 66 I4 := by
  refine ⟨⟨_, Vf.toFTOk⟩, fun args hp top hpre => ?_⟩
  match args, hpre with
  | [.string ⟨⟨s⟩⟩, .string ⟨⟨sep⟩⟩], ⟨hs, hsep, m, hm⟩ =>
  subst hsep
  intro φ own w args' ha H htop
  cases ha with
  | cons _ _ _ _ hx hl =>
  cases hx
  cases hl with
  | cons _ _ _ _ hx hl =>
  cases hx
  cases hl
  obtain ⟨v', hv, hc⟩ := IM H (by omega) hm
  cases hv
  refine (Tryz.strings_Split ⟨⟨s⟩⟩ ⟨⟨[32]⟩⟩ m w hs hc (by decide)).mono ?_
  rintro e w' ⟨rfl, rfl⟩
  have hlen := Lib.splitB_all ⟨⟨[32]⟩⟩ (by decide) 0 _ (⟨⟨s⟩⟩ : ByteArray) rfl
  have hd := Lib.splitB_data ⟨⟨[32]⟩⟩ 0 (Lib.countB ⟨⟨s⟩⟩ ⟨⟨[32]⟩⟩) (⟨⟨s⟩⟩ : ByteArray)
  have hd2 : (Lib.splitB ⟨⟨[32]⟩⟩ 0 (Lib.countB ⟨⟨s⟩⟩ ⟨⟨[32]⟩⟩) ⟨⟨s⟩⟩).map (·.data.toList) = TX s := hd
  rw [← hlen]
  generalize Lib.splitB ⟨⟨[32]⟩⟩ 0 (Lib.countB ⟨⟨s⟩⟩ ⟨⟨[32]⟩⟩) ⟨⟨s⟩⟩ = l at hlen hd2
  refine ⟨Ao top (TX s), hp.Am [(top, Af AR (TX s))], top + 1, _, φ.ext top ⟨w.heap.size, 0, 1, l.length⟩, rfl, ⟨rfl, rfl, rfl⟩, ?_⟩
  rw [← hd2]
  exact newRow H htop l 9 (by intro h; rw [h] at hlen; simp at hlen)
def C1 (s : List UInt8) (top : Nat) : Value × BP × Nat := match Lib.atoiAll s with
  | .ok v => (.tuple ⟨[.int .i64 v, .nilIface]⟩, [], top)
  | .syntax => (.tuple ⟨[.int .i64 0, .iface 155 (.pointer (some ⟨top, 0, none⟩))]⟩, [], top + 1)
  | .range => (.tuple ⟨[.int .i64 (Lib.atoiSat s), .iface 155 (.pointer (some ⟨top, 0, none⟩))]⟩, [], top + 1)
def ES : BB := .det (fun args hp _ => match args with | [.string ⟨⟨s⟩⟩] => s.length ≤ 281474976710656 ∧ (∃ t a, hp 4 = some (KP 4 (.iface t a))) ∧ (∃ t a, hp 6 = some (KP 5 (.iface t a))) | _ => False)
  (fun args _ top => match args with | [s] => C1 (strOf s) top | _ => (undef, [], top))
theorem Em.named {φ : Ren} {own : Nat → Prop} {hp : Hp} {w w' : World} {top N : Nat} {n : Int} {t : TypeId} (H : HR φ own hp w) (htop : ∀ j, top ≤ j → φ j = none) (hb : Go.RowKit.Below w.heap.size w w') (hN : N < w'.heap.size) :
    Em φ own w (.tuple ⟨[.int .i64 n, .iface t (.pointer (some ⟨top, 0, none⟩))]⟩) hp (top + 1) (.tuple ⟨[.int .i64 n, .iface t (.pointer (some ⟨N, 0, none⟩))]⟩) w' (φ.ext top ⟨N, 0, 1, 1⟩) := by
  have k := K.JC hb
  have H2 := H.stay k
  have hle := Ren.C4 (L := ⟨N, 0, 1, 1⟩) (htop top (Nat.le_refl _))
  have low : ∀ j o M, hp j = some o → φ.ext top ⟨N, 0, 1, 1⟩ j = some M → φ j = some M := by
    intro j o M hj hM
    have : j < top := H.lt htop hj
    have hne : ¬ j = top := by omega
    simpa [Ren.ext, hne] using hM
  refine ⟨hle, ?_, ⟨?_, ?_, ?_, ?_, H2.fresh⟩, K.KY H.fresh k, ?_⟩
  · refine .tuple _ _ (.cons _ _ _ _ (.int _ _) (.cons _ _ _ _ (.iface _ _ _ ?_) .nil))
    exact .ptr top 0 ⟨N, 0, 1, 1⟩ (Ren.Ay ..)
  · intro j o hj
    obtain ⟨M, m1, m2⟩ := H2.obj j o hj
    exact ⟨M, hle _ _ m1, m2.mono hle⟩
  · intro i j oi oj Li Lj hi hj hne hrw hLi hLj
    exact H2.sep i j oi oj Li Lj hi hj hne hrw (low _ _ _ hi hLi) (low _ _ _ hj hLj)
  · intro i o M hi hrw hM
    exact H2.C7 i o M hi hrw (low _ _ _ hi hM)
  · intro j M hM
    by_cases e : j = top
    · subst e; rw [Ren.Ay] at hM; cases hM; exact hN
    · have : φ j = some M := by simpa [Ren.ext, e] using hM
      exact H2.val j M this
  · intro j hj
    have : ¬ j = top := by omega
    simp only [Ren.ext, this, if_false]
    exact htop j (by omega)
theorem iG : A4 Tryz.prog 48 ES := by
  refine ⟨⟨_, Ui.toFTOk⟩, fun args hp top hpre => ?_⟩
  match args, hpre with
  | [.string ⟨⟨s⟩⟩], ⟨hs, ⟨t1, a1, hp3⟩, ⟨t2, a2, hp4⟩⟩ =>
  intro φ own w args' ha H htop
  cases ha with
  | cons _ _ _ _ hx hl =>
  cases hx
  cases hl
  obtain ⟨v1, V1, c1⟩ := IM H (by omega) hp3
  obtain ⟨v2, V2, c2⟩ := IM H (by omega) hp4
  have i1 : v1 = .nilIface ∨ ∃ te pe, v1 = .iface te pe := by cases V1; exact .inr ⟨_, _, rfl⟩
  have i2 : v2 = .nilIface ∨ ∃ te pe, v2 = .iface te pe := by cases V2; exact .inr ⟨_, _, rfl⟩
  simp only [BV]
  cases hr : Lib.atoiAll s with
  | ok v =>
    have ea : C1 s top = (.tuple ⟨[.int .i64 v, .nilIface]⟩, [], top) := by simp only [C1, hr]
    refine (Tryz.strconv_Atoi_ok ⟨⟨s⟩⟩ (by show s.length ≤ _; omega) v hr w).mono ?_
    rintro e w' ⟨rfl, hw⟩
    have hb : Go.RowKit.Below w.heap.size w w' := by
      rcases hw with rfl | ⟨t, rfl⟩
      · exact Go.RowKit.Below.refl _ _
      · exact Lib.bytesWorld_below _ _ _
    have k := K.JC hb
    refine ⟨(C1 s top).1, hp.Am (C1 s top).2.1, (C1 s top).2.2, _, φ, rfl, ⟨rfl, rfl, rfl⟩, ?_⟩
    rw [ea]
    exact ⟨Ren.le_refl _, .tuple _ _ (.cons _ _ _ _ (.int _ _) (.cons _ _ _ _ .nili .nil)), H.stay k, K.KY H.fresh k, htop⟩
  | «syntax» =>
    have ea : C1 s top = (.tuple ⟨[.int .i64 0, .iface 155 (.pointer (some ⟨top, 0, none⟩))]⟩, [], top + 1) := by simp only [C1, hr]
    refine (Tryz.strconv_Atoi_syntax ⟨⟨s⟩⟩ (by show s.length ≤ _; omega) hr v1 w c1 i1).mono ?_
    rintro e w' ⟨N, rfl, h1, h2, hb⟩
    refine ⟨(C1 s top).1, hp.Am (C1 s top).2.1, (C1 s top).2.2, _, φ.ext top ⟨N, 0, 1, 1⟩, rfl, ⟨rfl, rfl, rfl⟩, ?_⟩
    rw [ea]
    exact Em.named H htop hb (Array.getElem?_eq_some_iff.1 h2).1
  | range =>
    have ea : C1 s top = (.tuple ⟨[.int .i64 (Lib.atoiSat s), .iface 155 (.pointer (some ⟨top, 0, none⟩))]⟩, [], top + 1) := by simp only [C1, hr]
    refine (Tryz.strconv_Atoi_range ⟨⟨s⟩⟩ (by show s.length ≤ _; omega) hr v2 w c2 i2).mono ?_
    rintro e w' ⟨N, rfl, h1, h2, hb⟩
    refine ⟨(C1 s top).1, hp.Am (C1 s top).2.1, (C1 s top).2.2, _, φ.ext top ⟨N, 0, 1, 1⟩, rfl, ⟨rfl, rfl, rfl⟩, ?_⟩
    rw [ea]
    exact Em.named H htop hb (Array.getElem?_eq_some_iff.1 h2).1
def Mf (u : Nat) : List UInt8 := if u < 10 then [UInt8.ofNat (48 + u)] else if u < 100 then [UInt8.ofNat (48 + u / 10), UInt8.ofNat (48 + u % 10)] else [UInt8.ofNat (48 + u / 100), UInt8.ofNat (48 + u / 10 % 10), UInt8.ofNat (48 + u % 10)]
theorem aZ {u : Nat} (h : u < 1000) : Lib.itoa (u : Int) = Mf u := by
  rw [Lib.itoa_nonneg]
  unfold Mf
  by_cases h1 : u < 10
  · rw [if_pos h1, DL h1]
  · rw [if_neg h1, JN h1]
    by_cases h2 : u < 100
    · rw [if_pos h2, DL (by omega)]; rfl
    · rw [if_neg h2, JN (u := u / 10) (by omega), DL (u := u / 10 / 10) (by omega), Nat.div_div_eq_div_mul]; rfl
theorem aY : ∀ u : Fin 257, Lib.atoiAll (Mf u.val) = .ok (u.val : Int) := by decide +kernel
theorem WK : ∀ u : Fin 257, (32 : UInt8) ∉ Mf u.val := by decide +kernel
theorem gI {u : Nat} : (Mf u).length ≤ 3 := by
  unfold Mf
  split
  · simp
  · split <;> simp
theorem PK {x : Int} (h : 1 ≤ x ∧ x ≤ 256) : ∃ u : Nat, x = (u : Int) ∧ u < 257 ∧ Lib.itoa x = Mf u := by
  obtain ⟨u, rfl⟩ := Int.eq_ofNat_of_zero_le (show 0 ≤ x by omega)
  exact ⟨u, rfl, by omega, aZ (by omega)⟩
def H6 : List UInt8 → List (List UInt8)
  | [] => [[]]
  | c :: r => if c = 32 then [] :: H6 r else match H6 r with
    | [] => [[c]]
    | h :: t => (c :: h) :: t
theorem ab : ∀ s, H6 s ≠ []
  | [] => by simp [H6]
  | c :: r => by
    unfold H6
    split
    · simp
    · split <;> simp
theorem VV : ∀ s, TX s = H6 s
  | [] => rfl
  | c :: r => by
    have ih : Lib.splitK [32] 0 (Lib.count r [32]) r = H6 r := VV r
    show Lib.splitK [32] 0 (Lib.count (c :: r) [32]) (c :: r) = _
    by_cases hc : c = 32
    · subst hc
      have hi : Lib.index ((32 : UInt8) :: r) [32] = 0 := by simp [Lib.index, List.isPrefixOf]
      rw [Lib.count_cons_eq, Nat.add_comm, Lib.splitK, hi]
      simp only [H6, if_true]
      have : ¬ ((0 : Int) == -1) = true := by decide
      rw [if_neg this]
      simp only [Int.toNat_zero, Nat.add_zero, List.take_zero, List.length_cons, List.length_nil, Nat.zero_add, List.drop_succ_cons, List.drop_zero, ih]
    · rw [Lib.count_cons_ne _ _ _ hc]
      have hp : ([32] : List UInt8).isPrefixOf (c :: r) = false := by
        have : ((32 : UInt8) == c) = false := by simpa using fun e => hc e.symm
        simp [List.isPrefixOf, this]
      have hsp : H6 (c :: r) = match H6 r with
        | [] => [[c]]
        | h :: t => (c :: h) :: t := by rw [H6, if_neg hc]
      rcases Lib.indexB_cases ⟨⟨r⟩⟩ ⟨⟨[32]⟩⟩ with hm | ⟨i, hi, hle⟩
      · have hm : Lib.index r [32] = -1 := hm
        have hm2 : Lib.index (c :: r) [32] = -1 := by simp [Lib.index, hp, hm]
        have h0 := Lib.count_miss hm
        rw [h0] at ih ⊢
        rw [hsp, ← ih]
        rfl
      · have hi : Lib.index r [32] = (i : Int) := hi
        have hi2 : Lib.index (c :: r) [32] = ((i + 1 : Nat) : Int) := by
          have h1 : ¬ ((i : Int) = -1) := by omega
          simp [Lib.index, hp, hi, h1]
        have hk := Lib.count_hit (sub := [32]) (by simp) hi
        rw [hk, Nat.add_comm 1] at ih ⊢
        rw [Lib.splitK] at ih ⊢
        rw [hi] at ih
        rw [hi2]
        have n1 : ¬ ((i : Int) == -1) = true := by simp
        have n2 : ¬ (((i + 1 : Nat) : Int) == -1) = true := by simp; omega
        rw [if_neg n1] at ih
        rw [if_neg n2, hsp, ← ih]
        simp only [Int.toNat_natCast, Nat.add_zero, List.take_succ_cons, List.length_cons, List.length_nil, Nat.zero_add, List.drop_succ_cons]
theorem Qj : ∀ s, Lib.join (H6 s) [32] = s
  | [] => by simp [H6, Lib.join_one]
  | c :: r => by
    have ih := Qj r
    obtain ⟨h, t, e⟩ := List.exists_cons_of_ne_nil (ab r)
    rw [e, Lib.join_cons] at ih
    unfold H6
    by_cases hc : c = 32
    · rw [if_pos hc, e, Lib.join_cons, hc]
      simp only [Lib.joinTail, List.map_cons, List.flatten_cons, List.nil_append, List.cons_append]
      rw [← ih]; simp [Lib.joinTail]
    · rw [if_neg hc, e]
      simp only
      rw [Lib.join_cons, List.cons_append, ih]
theorem Mq : ∀ {x : List UInt8}, (32 : UInt8) ∉ x → H6 x = [x]
  | [], _ => rfl
  | c :: r, h => by
    have hc : ¬ c = 32 := fun e => h (by simp [e])
    have ih := Mq (x := r) (fun hm => h (List.mem_cons_of_mem _ hm))
    rw [H6, if_neg hc, ih]
theorem UZ : ∀ {x z : List UInt8}, (32 : UInt8) ∉ x → H6 (x ++ 32 :: z) = x :: H6 z
  | [], z, _ => by simp [H6]
  | c :: r, z, h => by
    have hc : ¬ c = 32 := fun e => h (by simp [e])
    have ih := UZ (x := r) (z := z) (fun hm => h (List.mem_cons_of_mem _ hm))
    rw [List.cons_append, H6, if_neg hc, ih]
theorem QC : ∀ {l : List (List UInt8)}, l ≠ [] → (∀ x ∈ l, (32 : UInt8) ∉ x) → H6 (Lib.join l [32]) = l
  | [], h, _ => absurd rfl h
  | [x], _, h => by rw [Lib.join_one]; exact Mq (h x (by simp))
  | x :: y :: r, _, h => by
    have ih := QC (l := y :: r) (by simp) (fun z hz => h z (List.mem_cons_of_mem _ hz))
    have e : Lib.join (x :: y :: r) [32] = x ++ 32 :: Lib.join (y :: r) [32] := by
      rw [Lib.join_cons, Lib.join_cons]
      simp [Lib.joinTail]
    rw [e, UZ (h x (by simp)), ih]
theorem G8 {p : Nat → Bool} {m : Nat} : ∀ d, (∀ j, m ≤ j → j < m + d → p j = false) → (List.range (m + d)).filter p = (List.range m).filter p
  | 0, _ => rfl
  | d + 1, h => by
    rw [← Nat.add_assoc, List.range_succ, List.filter_append, G8 d (fun j h1 h2 => h j h1 (by omega))]
    have := h (m + d) (by omega) (by omega)
    simp [this]
theorem oM {b : AV} {k : Nat} (hk : k < 256) (h : ∀ j, k ≤ j → j < 256 → hasB b j = false) : DN (FX b k) = DN b ++ [(k : Int) + 1] := by
  unfold DN e9
  have e1 : (List.range 256).filter (hasB b) = (List.range k).filter (hasB b) := by
    have := G8 (p := hasB b) (m := k) (256 - k) (fun j h1 h2 => h j h1 (by omega))
    rwa [show k + (256 - k) = 256 from by omega] at this
  have e2 : (List.range 256).filter (hasB (FX b k)) = (List.range k).filter (hasB b) ++ [k] := by
    have := G8 (p := hasB (FX b k)) (m := k + 1) (256 - (k + 1)) (fun j h1 h2 => by
      rw [Ly hk (by omega), h j (by omega) (by omega)]
      have : ¬ j = k := by omega
      simp [this])
    rw [show k + 1 + (256 - (k + 1)) = 256 from by omega] at this
    rw [this, List.range_succ, List.filter_append]
    have e3 : (List.range k).filter (hasB (FX b k)) = (List.range k).filter (hasB b) := by
      refine List.filter_congr fun j hj => ?_
      have hj := List.mem_range.1 hj
      rw [Ly hk (by omega)]
      have : ¬ j = k := by omega
      simp [this]
    rw [e3]
    have : hasB (FX b k) k = true := by rw [Ly hk hk]; simp
    simp [this]
  rw [e1, e2, List.map_append]; rfl
theorem PJ {b : AV} {n last : Int} (hn : CL n = true) (hl : last < n) (h : ∀ x ∈ DN b, x ≤ last) : DN (FX b (n - 1).toNat) = DN b ++ [n] := by
  simp only [CL, Bool.and_eq_true, decide_eq_true_eq] at hn
  have e := oM (b := b) (k := (n - 1).toNat) (by omega) (fun j h1 h2 => by
    cases hb : hasB b j with
    | false => rfl
    | true =>
      have := h _ (K8.2 ⟨j, h2, rfl, hb⟩)
      omega)
  rw [e]; congr 2; omega
theorem og {a b : AV} (ha : Fw a) (hb : Fw b) (h : DN a = DN b) : a = b := by
  have key : ∀ {a b : AV}, DN a = DN b → ∀ k, k < 256 → hasB a k = true → hasB b k = true := by
    intro a b h k hk hh
    have : (k : Int) + 1 ∈ DN b := by rw [← h]; exact K8.2 ⟨k, hk, rfl, hh⟩
    obtain ⟨j, j1, j2, j3⟩ := K8.1 this
    have : j = k := by omega
    rw [← this]; exact j3
  refine VA ha hb fun k hk => ?_
  cases h1 : hasB a k with
  | true => rw [key h k hk h1]
  | false =>
    cases h2 : hasB b k with
    | false => rfl
    | true => rw [key h.symm k hk h2] at h1; cases h1
def EA : AV → Int → List (List UInt8) → Option AV
  | b, _, [] => some b
  | b, last, w :: r => match Lib.atoiAll w with
    | .ok n => if last < n ∧ CL n = true ∧ Lib.itoa n = w then EA (FX b (n - 1).toNat) n r else none
    | _ => none
theorem Lf : ∀ {ws : List (List UInt8)} {b b' : AV} {last : Int}, Fw b → (∀ x ∈ DN b, x ≤ last) → EA b last ws = some b' → Fw b' ∧ ∃ ns : List Int, DN b' = DN b ++ ns ∧ ns.map Lib.itoa = ws
  | [], b, b', last, hb, _, h => by
    cases h
    exact ⟨hb, [], by simp, rfl⟩
  | w :: r, b, b', last, hb, hl, h => by
    unfold EA at h
    split at h
    · rename_i n hn
      split at h
      · rename_i hc
        obtain ⟨h1, h2, h3⟩ := hc
        have e := PJ h2 h1 hl
        obtain ⟨k1, ns, k2, k3⟩ := Lf (Fy hb) (fun x hx => by
          rw [e] at hx
          rcases List.mem_append.1 hx with h4 | h4
          · have := hl x h4; omega
          · simp at h4; omega) h
        refine ⟨k1, n :: ns, by rw [k2, e]; simp, by rw [List.map_cons, h3, k3]⟩
      · cases h
    · cases h
theorem NF : ∀ {l : List Int} {b : AV} {last : Int}, Fw b → (∀ x ∈ DN b, x ≤ last) → (∀ x ∈ l, last < x) → l.Pairwise (· < ·) → (∀ x ∈ l, 1 ≤ x ∧ x ≤ 256) → ∃ b', EA b last (l.map Lib.itoa) = some b' ∧ Fw b' ∧ DN b' = DN b ++ l
  | [], b, last, hb, _, _, _, _ => ⟨b, rfl, hb, by simp⟩
  | n :: l, b, last, hb, hl, hlt, hp, hr => by
    obtain ⟨h1, h2⟩ := hr n (by simp)
    obtain ⟨u, rfl, hu, he⟩ := PK ⟨h1, h2⟩
    have ha : Lib.atoiAll (Lib.itoa (u : Int)) = .ok (u : Int) := by rw [he]; exact aY ⟨u, hu⟩
    have hrb : CL (u : Int) = true := by simp [CL]; omega
    have hlu := hlt _ (List.mem_cons_self ..)
    have e := PJ hrb hlu hl
    rw [List.pairwise_cons] at hp
    obtain ⟨b', k1, k2, k3⟩ := NF (l := l) (last := (u : Int)) (Fy hb) (fun x hx => by
      rw [e] at hx
      rcases List.mem_append.1 hx with h4 | h4
      · have := hl x h4; omega
      · simp at h4; omega) hp.1 hp.2 (fun x hx => hr x (List.mem_cons_of_mem _ hx))
    refine ⟨b', ?_, k2, by rw [k3, e]; simp⟩
    rw [List.map_cons, EA, ha]
    show (if last < (u : Int) ∧ CL (u : Int) = true ∧ Lib.itoa (u : Int) = Lib.itoa (u : Int) then EA (FX b ((u : Int) - 1).toNat) (u : Int) (l.map Lib.itoa) else none) = some b'
    rw [if_pos ⟨hlu, hrb, rfl⟩]; exact k1
def Gg (x : AV × Int) (c : UInt8) : AV × Int := if (48 ≤ c.toNat ∧ c.toNat ≤ 57) ∧ x.2 ≤ 256 then (x.1, 10 * x.2 + ((c.toNat : Int) - 48)) else (if CL x.2 then FX x.1 (x.2 - 1).toNat else x.1, 0)
def V4 (x : AV × Int) : AV := if CL x.2 then FX x.1 (x.2 - 1).toNat else x.1
def rB (s : List UInt8) : AV := V4 (s.foldl Gg (zb, 0))
theorem Xv {x : AV × Int} {c : UInt8} (h : Fw x.1) : Fw (Gg x c).1 := by
  unfold Gg
  split
  · exact h
  · simp only
    split
    · exact Fy h
    · exact h
theorem SB : ∀ (s : List UInt8) {x : AV × Int}, Fw x.1 → Fw (s.foldl Gg x).1
  | [], _, h => h
  | c :: r, x, h => SB r (Xv h)
theorem qg (s : List UInt8) : Fw (rB s) := by
  have := SB s (x := (zb, 0)) KA
  unfold rB V4
  split
  · exact Fy this
  · exact this
theorem Ee {b : AV} {n : Int} {d : Nat} (hd : d < 10) (hn : n ≤ 256) : Gg (b, n) (UInt8.ofNat (48 + d)) = (b, 10 * n + d) := by
  have e : (UInt8.ofNat (48 + d)).toNat = 48 + d := by simp; omega
  unfold Gg
  rw [e, if_pos ⟨⟨by omega, by omega⟩, hn⟩]
  simp only [Prod.mk.injEq, true_and]
  omega
theorem Mo {b : AV} {u : Nat} (hu : u < 257) : (Mf u).foldl Gg (b, 0) = (b, (u : Int)) := by
  unfold Mf
  by_cases h1 : u < 10
  · rw [if_pos h1]
    simp only [List.foldl_cons, List.foldl_nil]
    rw [Ee h1 (by omega)]; simp
  · rw [if_neg h1]
    by_cases h2 : u < 100
    · rw [if_pos h2]
      simp only [List.foldl_cons, List.foldl_nil]
      rw [Ee (d := u / 10) (by omega) (by omega), Ee (d := u % 10) (by omega) (by omega)]
      simp only [Prod.mk.injEq, true_and]; omega
    · rw [if_neg h2]
      simp only [List.foldl_cons, List.foldl_nil]
      rw [Ee (d := u / 100) (by omega) (by omega), Ee (d := u / 10 % 10) (by omega) (by omega), Ee (d := u % 10) (by omega) (by omega)]
      simp only [Prod.mk.injEq, true_and]; omega
theorem RU {b : AV} {n : Int} : Gg (b, n) 32 = (V4 (b, n), 0) := by
  unfold Gg
  rw [if_neg (by rintro ⟨⟨h1, _⟩, _⟩; exact absurd h1 (by decide))]; rfl
theorem VU : ∀ {l : List Int} {b : AV} {last : Int}, l ≠ [] → Fw b → (∀ x ∈ DN b, x ≤ last) → (∀ x ∈ l, last < x) → l.Pairwise (· < ·) → (∀ x ∈ l, 1 ≤ x ∧ x ≤ 256) →
    Fw (V4 ((Lib.join (l.map Lib.itoa) [32]).foldl Gg (b, 0))) ∧ DN (V4 ((Lib.join (l.map Lib.itoa) [32]).foldl Gg (b, 0))) = DN b ++ l
  | [], _, _, h, _, _, _, _, _ => absurd rfl h
  | n :: l, b, last, _, hb, hl, hlt, hp, hr => by
    obtain ⟨u, rfl, hu, he⟩ := PK (hr n (by simp))
    have hrb : CL (u : Int) = true := by have := hr _ (List.mem_cons_self ..); simp [CL]; omega
    have hlu := hlt _ (List.mem_cons_self ..)
    have e := PJ hrb hlu hl
    have en : V4 (b, (u : Int)) = FX b ((u : Int) - 1).toNat := if_pos hrb
    rw [List.pairwise_cons] at hp
    cases l with
    | nil =>
      rw [List.map_cons, List.map_nil, Lib.join_one, he, Mo hu, en]
      exact ⟨Fy hb, e⟩
    | cons m r =>
      have ej : Lib.join (((u : Int) :: m :: r).map Lib.itoa) [32] = Mf u ++ 32 :: Lib.join ((m :: r).map Lib.itoa) [32] := by
        rw [List.map_cons, he, Lib.join_cons, List.map_cons, Lib.join_cons]
        simp [Lib.joinTail]
      rw [ej, List.foldl_append, Mo hu, List.foldl_cons, RU, en]
      obtain ⟨k1, k2⟩ := VU (l := m :: r) (last := (u : Int)) (by simp) (Fy (k := ((u : Int) - 1).toNat) hb) (fun x hx => by
        rw [e] at hx
        rcases List.mem_append.1 hx with h4 | h4
        · have := hl x h4; omega
        · simp at h4; omega) hp.1 hp.2 (fun x hx => hr x (List.mem_cons_of_mem _ hx))
      exact ⟨k1, by rw [k2, e]; simp⟩
theorem Ft {b : AV} : ∀ x ∈ DN b, 1 ≤ x ∧ x ≤ 256 := by
  intro x hx
  obtain ⟨k, h1, h2, _⟩ := K8.1 hx
  omega
/-- a bit string comes back from its text -/
theorem je {b : AV} (hb : Fw b) : rB (Dz (DN b)) = b := by
  by_cases h0 : (DN b).length = 0
  · have e : DN b = [] := List.eq_nil_of_length_eq_zero h0
    rw [nq hb e, L0]
    decide +kernel
  · have e : Dz (DN b) = Lib.join ((DN b).map Lib.itoa) [32] := by unfold Dz tk; rw [if_neg h0, List.take_length]
    have hne : DN b ≠ [] := fun e => h0 (by rw [e]; rfl)
    obtain ⟨k1, k2⟩ := VU (l := DN b) (b := zb) (last := 0) hne KA (by rw [L0]; simp) (fun x hx => by have := Ft x hx; omega) NB Ft
    rw [L0, List.nil_append] at k2
    rw [e]
    exact og k1 hb k2
theorem Zf {b : AV} : (Dz (DN b)).length ≤ 1024 := by
  have hk : ∀ k, k ≤ (DN b).length → (tk (DN b) k).length ≤ 4 * k := by
    intro k
    induction k with
    | zero => intro _; simp [tk, Lib.join_nil]
    | succ k ih =>
      intro h
      have ih := ih (by omega)
      obtain ⟨u, h1, h2, h3⟩ := PK (mZ (b := b) (k := k) h)
      have := gI (u := u)
      rw [iT h, List.length_append, h3]
      split
      · simp; omega
      · simp; omega
  have := nS (b := b)
  unfold Dz
  split
  · simp
  · have := hk _ (Nat.le_refl _); omega
/-- what Parse answers -/
def Hf (s : List UInt8) : AV := if Dz (DN (rB s)) = s then rB s else zb
def Nu (s : List UInt8) : Int := if Dz (DN (rB s)) = s then 0 else 4
def KS (s : List UInt8) : Value := .tuple ⟨[.agg ⟨bl (Hf s)⟩, .int .i64 (Nu s)]⟩
theorem L7 {b : AV} (hb : Fw b) : Hf (Dz (DN b)) = b ∧ Nu (Dz (DN b)) = 0 := by
  have e := je hb
  unfold Hf Nu
  rw [e, if_pos rfl, if_pos rfl]; exact ⟨rfl, rfl⟩
theorem Re : Hf [45] = zb ∧ Nu [45] = 0 := by
  have := L7 KA
  rw [L0] at this
  exact this
theorem bz {s : List UInt8} {b : AV} (h : EA zb 0 (H6 s) = some b) : Fw b ∧ Hf s = b ∧ Nu s = 0 := by
  obtain ⟨k1, ns, k2, k3⟩ := Lf KA (by rw [L0]; simp) h
  rw [L0, List.nil_append] at k2
  have hne : ¬ ns.length = 0 := fun e => by
    rw [List.eq_nil_of_length_eq_zero e] at k3
    exact ab s k3.symm
  have e : Dz (DN b) = s := by
    unfold Dz tk
    rw [k2, if_neg hne, List.take_length, k3, Qj]
  have := L7 k1
  rw [e] at this
  exact ⟨k1, this⟩
theorem Qu {s : List UInt8} (hs : s ≠ [45]) (h : EA zb 0 (H6 s) = none) : Hf s = zb ∧ Nu s = 4 := by
  have hne : ¬ Dz (DN (rB s)) = s := by
    intro e
    by_cases h0 : (DN (rB s)).length = 0
    · rw [Dz, if_pos h0] at e
      exact hs e.symm
    · rw [Dz, if_neg h0, tk, List.take_length] at e
      have hnn : (DN (rB s)).map Lib.itoa ≠ [] := fun e => h0 (by have := congrArg List.length e; simpa using this)
      have es : H6 s = (DN (rB s)).map Lib.itoa := by
        conv => lhs; rw [← e]
        refine QC hnn fun x hx => ?_
        obtain ⟨y, hy, rfl⟩ := List.mem_map.1 hx
        obtain ⟨u, rfl, hu, he⟩ := PK (Ft y hy)
        rw [he]; exact WK ⟨u, hu⟩
      obtain ⟨b', k1, _⟩ := NF (l := DN (rB s)) (b := zb) (last := 0) KA (by rw [L0]; simp) (fun x hx => by have := Ft x hx; omega) NB Ft
      rw [es, k1] at h; cases h
  exact ⟨if_neg hne, if_neg hne⟩
end Go.Proofs.YthpibnpeaidabaaGreatDoor.Dm
