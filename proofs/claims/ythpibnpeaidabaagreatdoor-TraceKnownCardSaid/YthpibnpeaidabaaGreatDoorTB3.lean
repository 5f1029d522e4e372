/- Bit strings, as the bits chapter has them (turned to this seat by port.py): part TB3. -/
import Derived.Test.YthpibnpeaidabaaGreatDoorTB2
import Derived.Lib.ItoaLen
import Derived.Lib.ItoaMem
import Derived.Shelf.Spec.TrailingZeros
set_option linter.unusedSimpArgs false
set_option linter.unusedVariables false
namespace Go.Proofs.YthpibnpeaidabaaGreatDoor.Dm
open Go.Dm
set_option maxHeartbeats 16000000
def tF := sy
theorem om : B9 Tryz.prog tt.get tF := ox
def KI (g : Nat) (v : Value) : A5 := .cells false (BQ + 4096 + g) [v]
theorem I3 {φ : Ren} {own : Nat → Prop} {hp : Hp} {w : World} (H : HR φ own hp w) {i g : Nat} {v : Value} (hg : g < 4096) (h : hp i = some (KI g v)) : ∃ v', V φ v v' ∧ w.cell? ⟨g, 0, none⟩ = some v' := by
  obtain ⟨L, hL, he, c, t, fz, h1, h2, h3, h4, h5⟩ := H.obj _ _ h
  obtain ⟨h6, h7, h8⟩ := h5.2.1 rfl (by omega)
  have hb : L.Bl = g := by omega
  have hm : L.Ep = 1 := by omega
  rw [hb] at h1
  rw [h7, List.drop_zero] at h4
  cases h4' : c.toList with
  | nil => have : c.size = 0 := by rw [← Array.length_toList, h4']; rfl
           omega
  | cons x r =>
    rw [h4'] at h4
    cases h4 with
    | cons _ _ _ _ hx _ =>
      refine ⟨x, hx, ?_⟩
      have hc : c[0]? = some x := by rw [← Array.getElem?_toList, h4']; rfl
      simp [World.cell?, h1, hc]
def TE (s : List UInt8) : List (List UInt8) := Lib.split s [32]
def DP : BO := .det (fun args hp _ => match args with | [.string ⟨⟨s⟩⟩, .string ⟨⟨sep⟩⟩] => s.length < 4294967281 ∧ sep = [32] ∧ ∃ m, hp 2 = some (KI 3 (.int .i64 m)) | _ => False)
  (fun args _ top => match args with | [s, _] => (A4 top (TE (strOf s)), [(top, Au Ah (TE (strOf s)))], top + 1) | _ => (undef, [], top))
theorem ak (l : List ByteArray) : Ah.flat (l.map (·.data.toList)) = l.map Value.string := by
  induction l with
  | nil => rfl
  | cons a l ih => rw [List.map_cons, Ax.CS, ih]; rfl
theorem ao {φ : Ren} : ∀ l : List ByteArray, Vs φ (l.map Value.string) (l.map Value.string)
  | [] => .nil
  | a :: l => .cons _ _ _ _ (.str a) (ao l)
theorem newRow {φ : Ren} {own : Nat → Prop} {hp : Hp} {w : World} {top : Nat} (H : HR φ own hp w) (htop : ∀ j, top ≤ j → φ j = none) (l : List ByteArray) (t : TypeId) (hl : l ≠ []) :
    FY φ own w (A4 top (l.map (·.data.toList))) (hp.A0 [(top, Au Ah (l.map (·.data.toList)))]) (top + 1) (.slice (some ⟨w.heap.size, 0, none⟩) l.length l.length) (w.alloc (.cells (l.map Value.string).toArray t)) (φ.ext top ⟨w.heap.size, 0, 1, l.length⟩) := by
  obtain ⟨x, r, rfl⟩ := List.exists_cons_of_ne_nil hl
  have hok : Da φ ⟨w.heap.size, 0, 1, (x :: r).length⟩ (.cells true 1 ((x :: r).map Value.string)) (some (.cells ((x :: r).map Value.string).toArray t)) := by
    refine ⟨rfl, _, t, (0, 0), rfl, by simp, by simp, ?_, ⟨fun _ => Nat.le_refl _, (fun e => by cases e), fun _ h => absurd h (by decide)⟩⟩
    have e : ((((x :: r).map Value.string).toArray.toList.drop 0).take ((x :: r).map Value.string).length) = (x :: r).map Value.string := by
      rw [List.drop_zero, List.take_of_length_le (by simp)]
    rw [e]; exact ao _
  have hs : hp.A0 [(top, Au Ah ((x :: r).map (·.data.toList)))] = hp.H3 top (.cells true 1 ((x :: r).map Value.string)) := by
    have e : Au Ah ((x :: r).map (·.data.toList)) = some (.cells true 1 ((x :: r).map Value.string)) := by
      rw [← ak]; rfl
    rw [e]
    funext j
    simp only [AE, AH, Hp.set, Hp.H3]
  have HA := H.alloc top _ _ _ w.drawn (htop top (Nat.le_refl _)) rfl hok
  refine ⟨Ren.Dc (htop top (Nat.le_refl _)), ?_, ?_, K.alloc own w _ w.drawn rfl, ?_⟩
  · have e : A4 top ((x :: r).map (·.data.toList)) = .slice (some ⟨top, 0, none⟩) (x :: r).length (x :: r).length := by simp [A4]
    rw [e]
    have := V.slice (φ := φ.ext top ⟨w.heap.size, 0, 1, (x :: r).length⟩) top 0 (x :: r).length (x :: r).length (x :: r).length ⟨w.heap.size, 0, 1, (x :: r).length⟩ (Ren.A8 ..) (Nat.le_refl _) (Nat.le_refl _) (by simp)
    exact this
  · rw [hs]; exact HA
  · intro j hj
    have : ¬ j = top := by omega
    simp only [Ren.ext, this, if_false]
    exact htop j (by omega)
theorem Yl : BG Tryz.prog 66 DP := by
  refine ⟨⟨_, VM.toFTOk⟩, fun args hp top hpre => ?_⟩
  match args, hpre with
  | [.string ⟨⟨s⟩⟩, .string ⟨⟨sep⟩⟩], ⟨hs, hsep, m, hm⟩ =>
  subst hsep
  intro φ own w args' ha H htop
  cases ha with
  | cons _ _ _ _ hx hl =>
  cases hx
  cases hl with
  | cons _ _ _ _ hx hl =>
  cases hx
  cases hl
  obtain ⟨v', hv, hc⟩ := I3 H (by omega) hm
  cases hv
  refine (Tryz.strings_Split ⟨⟨s⟩⟩ ⟨⟨[32]⟩⟩ m w hs hc (by decide)).mono ?_
  rintro e w' ⟨rfl, rfl⟩
  have hlen := Lib.splitB_all ⟨⟨[32]⟩⟩ (by decide) 0 _ (⟨⟨s⟩⟩ : ByteArray) rfl
  have hd := Lib.splitB_data ⟨⟨[32]⟩⟩ 0 (Lib.countB ⟨⟨s⟩⟩ ⟨⟨[32]⟩⟩) (⟨⟨s⟩⟩ : ByteArray)
  have hd2 : (Lib.splitB ⟨⟨[32]⟩⟩ 0 (Lib.countB ⟨⟨s⟩⟩ ⟨⟨[32]⟩⟩) ⟨⟨s⟩⟩).map (·.data.toList) = TE s := hd
  rw [← hlen]
  generalize Lib.splitB ⟨⟨[32]⟩⟩ 0 (Lib.countB ⟨⟨s⟩⟩ ⟨⟨[32]⟩⟩) ⟨⟨s⟩⟩ = l at hlen hd2
  refine ⟨A4 top (TE s), hp.A0 [(top, Au Ah (TE s))], top + 1, _, φ.ext top ⟨w.heap.size, 0, 1, l.length⟩, rfl, ⟨rfl, rfl, rfl⟩, ?_⟩
  rw [← hd2]
  exact newRow H htop l 9 (by intro h; rw [h] at hlen; simp at hlen)
def DZ (s : List UInt8) (top : Nat) : Value × BZ × Nat := match Lib.atoiAll s with
  | .ok v => (.tuple ⟨[.int .i64 v, .nilIface]⟩, [], top)
  | .syntax => (.tuple ⟨[.int .i64 0, .iface 155 (.pointer (some ⟨top, 0, none⟩))]⟩, [], top + 1)
  | .range => (.tuple ⟨[.int .i64 (Lib.atoiSat s), .iface 155 (.pointer (some ⟨top, 0, none⟩))]⟩, [], top + 1)
def EE : BO := .det (fun args hp _ => match args with | [.string ⟨⟨s⟩⟩] => s.length ≤ 281474976710656 ∧ (∃ t a, hp 4 = some (KI 4 (.iface t a))) ∧ (∃ t a, hp 6 = some (KI 5 (.iface t a))) | _ => False)
  (fun args _ top => match args with | [s] => DZ (strOf s) top | _ => (undef, [], top))
theorem FY.named {φ : Ren} {own : Nat → Prop} {hp : Hp} {w w' : World} {top N : Nat} {n : Int} {t : TypeId} (H : HR φ own hp w) (htop : ∀ j, top ≤ j → φ j = none) (hb : Go.RowKit.Below w.heap.size w w') (hN : N < w'.heap.size) :
    FY φ own w (.tuple ⟨[.int .i64 n, .iface t (.pointer (some ⟨top, 0, none⟩))]⟩) hp (top + 1) (.tuple ⟨[.int .i64 n, .iface t (.pointer (some ⟨N, 0, none⟩))]⟩) w' (φ.ext top ⟨N, 0, 1, 1⟩) := by
  have k := K.Jt hb
  have H2 := H.stay k
  have hle := Ren.Dc (L := ⟨N, 0, 1, 1⟩) (htop top (Nat.le_refl _))
  have low : ∀ j o M, hp j = some o → φ.ext top ⟨N, 0, 1, 1⟩ j = some M → φ j = some M := by
    intro j o M hj hM
    have : j < top := H.lt htop hj
    have hne : ¬ j = top := by omega
    simpa [Ren.ext, hne] using hM
  refine ⟨hle, ?_, ⟨?_, ?_, ?_, ?_, H2.fresh⟩, K.LG H.fresh k, ?_⟩
  · refine .tuple _ _ (.cons _ _ _ _ (.int _ _) (.cons _ _ _ _ (.iface _ _ _ ?_) .nil))
    exact .ptr top 0 ⟨N, 0, 1, 1⟩ (Ren.A8 ..)
  · intro j o hj
    obtain ⟨M, m1, m2⟩ := H2.obj j o hj
    exact ⟨M, hle _ _ m1, m2.mono hle⟩
  · intro i j oi oj Li Lj hi hj hne hrw hLi hLj
    exact H2.sep i j oi oj Li Lj hi hj hne hrw (low _ _ _ hi hLi) (low _ _ _ hj hLj)
  · intro i o M hi hrw hM
    exact H2.Dq i o M hi hrw (low _ _ _ hi hM)
  · intro j M hM
    by_cases e : j = top
    · subst e; rw [Ren.A8] at hM; cases hM; exact hN
    · have : φ j = some M := by simpa [Ren.ext, e] using hM
      exact H2.val j M this
  · intro j hj
    have : ¬ j = top := by omega
    simp only [Ren.ext, this, if_false]
    exact htop j (by omega)
theorem e7 : BG Tryz.prog 48 EE := by
  refine ⟨⟨_, VQ.toFTOk⟩, fun args hp top hpre => ?_⟩
  match args, hpre with
  | [.string ⟨⟨s⟩⟩], ⟨hs, ⟨t1, a1, hp3⟩, ⟨t2, a2, hp4⟩⟩ =>
  intro φ own w args' ha H htop
  cases ha with
  | cons _ _ _ _ hx hl =>
  cases hx
  cases hl
  obtain ⟨v1, V1, c1⟩ := I3 H (by omega) hp3
  obtain ⟨v2, V2, c2⟩ := I3 H (by omega) hp4
  have i1 : v1 = .nilIface ∨ ∃ te pe, v1 = .iface te pe := by cases V1; exact .inr ⟨_, _, rfl⟩
  have i2 : v2 = .nilIface ∨ ∃ te pe, v2 = .iface te pe := by cases V2; exact .inr ⟨_, _, rfl⟩
  simp only [BV]
  cases hr : Lib.atoiAll s with
  | ok v =>
    have ea : DZ s top = (.tuple ⟨[.int .i64 v, .nilIface]⟩, [], top) := by simp only [DZ, hr]
    refine (Tryz.strconv_Atoi_ok ⟨⟨s⟩⟩ (by show s.length ≤ _; omega) v hr w).mono ?_
    rintro e w' ⟨rfl, hw⟩
    have hb : Go.RowKit.Below w.heap.size w w' := by
      rcases hw with rfl | ⟨t, rfl⟩
      · exact Go.RowKit.Below.refl _ _
      · exact Lib.bytesWorld_below _ _ _
    have k := K.Jt hb
    refine ⟨(DZ s top).1, hp.A0 (DZ s top).2.1, (DZ s top).2.2, _, φ, rfl, ⟨rfl, rfl, rfl⟩, ?_⟩
    rw [ea]
    exact ⟨Ren.le_refl _, .tuple _ _ (.cons _ _ _ _ (.int _ _) (.cons _ _ _ _ .nili .nil)), H.stay k, K.LG H.fresh k, htop⟩
  | «syntax» =>
    have ea : DZ s top = (.tuple ⟨[.int .i64 0, .iface 155 (.pointer (some ⟨top, 0, none⟩))]⟩, [], top + 1) := by simp only [DZ, hr]
    refine (Tryz.strconv_Atoi_syntax ⟨⟨s⟩⟩ (by show s.length ≤ _; omega) hr v1 w c1 i1).mono ?_
    rintro e w' ⟨N, rfl, h1, h2, hb⟩
    refine ⟨(DZ s top).1, hp.A0 (DZ s top).2.1, (DZ s top).2.2, _, φ.ext top ⟨N, 0, 1, 1⟩, rfl, ⟨rfl, rfl, rfl⟩, ?_⟩
    rw [ea]
    exact FY.named H htop hb (Array.getElem?_eq_some_iff.1 h2).1
  | range =>
    have ea : DZ s top = (.tuple ⟨[.int .i64 (Lib.atoiSat s), .iface 155 (.pointer (some ⟨top, 0, none⟩))]⟩, [], top + 1) := by simp only [DZ, hr]
    refine (Tryz.strconv_Atoi_range ⟨⟨s⟩⟩ (by show s.length ≤ _; omega) hr v2 w c2 i2).mono ?_
    rintro e w' ⟨N, rfl, h1, h2, hb⟩
    refine ⟨(DZ s top).1, hp.A0 (DZ s top).2.1, (DZ s top).2.2, _, φ.ext top ⟨N, 0, 1, 1⟩, rfl, ⟨rfl, rfl, rfl⟩, ?_⟩
    rw [ea]
    exact FY.named H htop hb (Array.getElem?_eq_some_iff.1 h2).1
def NS (u : Nat) : List UInt8 := if u < 10 then [UInt8.ofNat (48 + u)] else if u < 100 then [UInt8.ofNat (48 + u / 10), UInt8.ofNat (48 + u % 10)] else [UInt8.ofNat (48 + u / 100), UInt8.ofNat (48 + u / 10 % 10), UInt8.ofNat (48 + u % 10)]
theorem Z0 {u : Nat} (h : u < 1000) : Lib.itoa (u : Int) = NS u := by
  rw [Lib.itoa_nonneg]
  unfold NS
  by_cases h1 : u < 10
  · rw [if_pos h1, Dw h1]
  · rw [if_neg h1, Jj h1]
    by_cases h2 : u < 100
    · rw [if_pos h2, Dw (by omega)]; rfl
    · rw [if_neg h2, Jj (u := u / 10) (by omega), Dw (u := u / 10 / 10) (by omega), Nat.div_div_eq_div_mul]; rfl
theorem aZ : ∀ u : Fin 257, Lib.atoiAll (NS u.val) = .ok (u.val : Int) := by decide +kernel
theorem Wy : ∀ u : Fin 257, (32 : UInt8) ∉ NS u.val := by decide +kernel
theorem dv {u : Nat} : (NS u).length ≤ 3 := by
  unfold NS
  split
  · simp
  · split <;> simp
theorem OT {x : Int} (h : 1 ≤ x ∧ x ≤ 256) : ∃ u : Nat, x = (u : Int) ∧ u < 257 ∧ Lib.itoa x = NS u := by
  obtain ⟨u, rfl⟩ := Int.eq_ofNat_of_zero_le (show 0 ≤ x by omega)
  exact ⟨u, rfl, by omega, Z0 (by omega)⟩
def IU : List UInt8 → List (List UInt8)
  | [] => [[]]
  | c :: r => if c = 32 then [] :: IU r else match IU r with
    | [] => [[c]]
    | h :: t => (c :: h) :: t
theorem Yh : ∀ s, IU s ≠ []
  | [] => by simp [IU]
  | c :: r => by
    unfold IU
    split
    · simp
    · split <;> simp
theorem VO : ∀ s, TE s = IU s
  | [] => rfl
  | c :: r => by
    have ih : Lib.splitK [32] 0 (Lib.count r [32]) r = IU r := VO r
    show Lib.splitK [32] 0 (Lib.count (c :: r) [32]) (c :: r) = _
    by_cases hc : c = 32
    · subst hc
      have hi : Lib.index ((32 : UInt8) :: r) [32] = 0 := by simp [Lib.index, List.isPrefixOf]
      rw [Lib.count_cons_eq, Nat.add_comm, Lib.splitK, hi]
      simp only [IU, if_true]
      have : ¬ ((0 : Int) == -1) = true := by decide
      rw [if_neg this]
      simp only [Int.toNat_zero, Nat.add_zero, List.take_zero, List.length_cons, List.length_nil, Nat.zero_add, List.drop_succ_cons, List.drop_zero, ih]
    · rw [Lib.count_cons_ne _ _ _ hc]
      have hp : ([32] : List UInt8).isPrefixOf (c :: r) = false := by
        have : ((32 : UInt8) == c) = false := by simpa using fun e => hc e.symm
        simp [List.isPrefixOf, this]
      have hsp : IU (c :: r) = match IU r with
        | [] => [[c]]
        | h :: t => (c :: h) :: t := by rw [IU, if_neg hc]
      rcases Lib.indexB_cases ⟨⟨r⟩⟩ ⟨⟨[32]⟩⟩ with hm | ⟨i, hi, hle⟩
      · have hm : Lib.index r [32] = -1 := hm
        have hm2 : Lib.index (c :: r) [32] = -1 := by simp [Lib.index, hp, hm]
        have h0 := Lib.count_miss hm
        rw [h0] at ih ⊢
        rw [hsp, ← ih]
        rfl
      · have hi : Lib.index r [32] = (i : Int) := hi
        have hi2 : Lib.index (c :: r) [32] = ((i + 1 : Nat) : Int) := by
          have h1 : ¬ ((i : Int) = -1) := by omega
          simp [Lib.index, hp, hi, h1]
        have hk := Lib.count_hit (sub := [32]) (by simp) hi
        rw [hk, Nat.add_comm 1] at ih ⊢
        rw [Lib.splitK] at ih ⊢
        rw [hi] at ih
        rw [hi2]
        have n1 : ¬ ((i : Int) == -1) = true := by simp
        have n2 : ¬ (((i + 1 : Nat) : Int) == -1) = true := by simp; omega
        rw [if_neg n1] at ih
        rw [if_neg n2, hsp, ← ih]
        simp only [Int.toNat_natCast, Nat.add_zero, List.take_succ_cons, List.length_cons, List.length_nil, Nat.zero_add, List.drop_succ_cons]
theorem Qp : ∀ s, Lib.join (IU s) [32] = s
  | [] => by simp [IU, Lib.join_one]
  | c :: r => by
    have ih := Qp r
    obtain ⟨h, t, e⟩ := List.exists_cons_of_ne_nil (Yh r)
    rw [e, Lib.join_cons] at ih
    unfold IU
    by_cases hc : c = 32
    · rw [if_pos hc, e, Lib.join_cons, hc]
      simp only [Lib.joinTail, List.map_cons, List.flatten_cons, List.nil_append, List.cons_append, ih]
      rw [← ih]; simp [Lib.joinTail]
    · rw [if_neg hc, e]
      simp only
      rw [Lib.join_cons, List.cons_append, ih]
theorem Nb : ∀ {x : List UInt8}, (32 : UInt8) ∉ x → IU x = [x]
  | [], _ => rfl
  | c :: r, h => by
    have hc : ¬ c = 32 := fun e => h (by simp [e])
    have ih := Nb (x := r) (fun hm => h (List.mem_cons_of_mem _ hm))
    rw [IU, if_neg hc, ih]
theorem VT : ∀ {x z : List UInt8}, (32 : UInt8) ∉ x → IU (x ++ 32 :: z) = x :: IU z
  | [], z, _ => by simp [IU]
  | c :: r, z, h => by
    have hc : ¬ c = 32 := fun e => h (by simp [e])
    have ih := VT (x := r) (z := z) (fun hm => h (List.mem_cons_of_mem _ hm))
    rw [List.cons_append, IU, if_neg hc, ih]
theorem Q9 : ∀ {l : List (List UInt8)}, l ≠ [] → (∀ x ∈ l, (32 : UInt8) ∉ x) → IU (Lib.join l [32]) = l
  | [], h, _ => absurd rfl h
  | [x], _, h => by rw [Lib.join_one]; exact Nb (h x (by simp))
  | x :: y :: r, _, h => by
    have ih := Q9 (l := y :: r) (by simp) (fun z hz => h z (List.mem_cons_of_mem _ hz))
    have e : Lib.join (x :: y :: r) [32] = x ++ 32 :: Lib.join (y :: r) [32] := by
      rw [Lib.join_cons, Lib.join_cons]
      simp [Lib.joinTail]
    rw [e, VT (h x (by simp)), ih]
theorem HK {p : Nat → Bool} {m : Nat} : ∀ d, (∀ j, m ≤ j → j < m + d → p j = false) → (List.range (m + d)).filter p = (List.range m).filter p
  | 0, _ => rfl
  | d + 1, h => by
    rw [← Nat.add_assoc, List.range_succ, List.filter_append, HK d (fun j h1 h2 => h j h1 (by omega))]
    have := h (m + d) (by omega) (by omega)
    simp [this]
theorem lX {b : Ak} {k : Nat} (hk : k < 256) (h : ∀ j, k ≤ j → j < 256 → hasB b j = false) : D6 (GS b k) = D6 b ++ [(k : Int) + 1] := by
  unfold D6 jA
  have e1 : (List.range 256).filter (hasB b) = (List.range k).filter (hasB b) := by
    have := HK (p := hasB b) (m := k) (256 - k) (fun j h1 h2 => h j h1 (by omega))
    rwa [show k + (256 - k) = 256 from by omega] at this
  have e2 : (List.range 256).filter (hasB (GS b k)) = (List.range k).filter (hasB b) ++ [k] := by
    have := HK (p := hasB (GS b k)) (m := k + 1) (256 - (k + 1)) (fun j h1 h2 => by
      rw [LR hk (by omega), h j (by omega) (by omega)]
      have : ¬ j = k := by omega
      simp [this])
    rw [show k + 1 + (256 - (k + 1)) = 256 from by omega] at this
    rw [this, List.range_succ, List.filter_append]
    have e3 : (List.range k).filter (hasB (GS b k)) = (List.range k).filter (hasB b) := by
      refine List.filter_congr fun j hj => ?_
      have hj := List.mem_range.1 hj
      rw [LR hk (by omega)]
      have : ¬ j = k := by omega
      simp [this]
    rw [e3]
    have : hasB (GS b k) k = true := by rw [LR hk hk]; simp
    simp [this]
  rw [e1, e2, List.map_append]; rfl
theorem PV {b : Ak} {n last : Int} (hn : Cj n = true) (hl : last < n) (h : ∀ x ∈ D6 b, x ≤ last) : D6 (GS b (n - 1).toNat) = D6 b ++ [n] := by
  simp only [Cj, Bool.and_eq_true, decide_eq_true_eq] at hn
  have e := lX (b := b) (k := (n - 1).toNat) (by omega) (fun j h1 h2 => by
    cases hb : hasB b j with
    | false => rfl
    | true =>
      have := h _ (NH.2 ⟨j, h2, rfl, hb⟩)
      omega)
  rw [e]; congr 2; omega
theorem oG {a b : Ak} (ha : GV a) (hb : GV b) (h : D6 a = D6 b) : a = b := by
  have key : ∀ {a b : Ak}, D6 a = D6 b → ∀ k, k < 256 → hasB a k = true → hasB b k = true := by
    intro a b h k hk hh
    have : (k : Int) + 1 ∈ D6 b := by rw [← h]; exact NH.2 ⟨k, hk, rfl, hh⟩
    obtain ⟨j, j1, j2, j3⟩ := NH.1 this
    have : j = k := by omega
    rw [← this]; exact j3
  refine U2 ha hb fun k hk => ?_
  cases h1 : hasB a k with
  | true => rw [key h k hk h1]
  | false =>
    cases h2 : hasB b k with
    | false => rfl
    | true => rw [key h.symm k hk h2] at h1; cases h1
def Ed : Ak → Int → List (List UInt8) → Option Ak
  | b, _, [] => some b
  | b, last, w :: r => match Lib.atoiAll w with
    | .ok n => if last < n ∧ Cj n = true ∧ Lib.itoa n = w then Ed (GS b (n - 1).toNat) n r else none
    | _ => none
theorem L9 : ∀ {ws : List (List UInt8)} {b b' : Ak} {last : Int}, GV b → (∀ x ∈ D6 b, x ≤ last) → Ed b last ws = some b' → GV b' ∧ ∃ ns : List Int, D6 b' = D6 b ++ ns ∧ ns.map Lib.itoa = ws
  | [], b, b', last, hb, _, h => by
    cases h
    exact ⟨hb, [], by simp, rfl⟩
  | w :: r, b, b', last, hb, hl, h => by
    unfold Ed at h
    split at h
    · rename_i n hn
      split at h
      · rename_i hc
        obtain ⟨h1, h2, h3⟩ := hc
        have e := PV h2 h1 hl
        obtain ⟨k1, ns, k2, k3⟩ := L9 (Gh hb) (fun x hx => by
          rw [e] at hx
          rcases List.mem_append.1 hx with h4 | h4
          · have := hl x h4; omega
          · simp at h4; omega) h
        refine ⟨k1, n :: ns, by rw [k2, e]; simp, by rw [List.map_cons, h3, k3]⟩
      · cases h
    · cases h
theorem OE : ∀ {l : List Int} {b : Ak} {last : Int}, GV b → (∀ x ∈ D6 b, x ≤ last) → (∀ x ∈ l, last < x) → l.Pairwise (· < ·) → (∀ x ∈ l, 1 ≤ x ∧ x ≤ 256) → ∃ b', Ed b last (l.map Lib.itoa) = some b' ∧ GV b' ∧ D6 b' = D6 b ++ l
  | [], b, last, hb, _, _, _, _ => ⟨b, rfl, hb, by simp⟩
  | n :: l, b, last, hb, hl, hlt, hp, hr => by
    obtain ⟨h1, h2⟩ := hr n (by simp)
    obtain ⟨u, rfl, hu, he⟩ := OT ⟨h1, h2⟩
    have ha : Lib.atoiAll (Lib.itoa (u : Int)) = .ok (u : Int) := by rw [he]; exact aZ ⟨u, hu⟩
    have hrb : Cj (u : Int) = true := by simp [Cj]; omega
    have hlu := hlt _ (List.mem_cons_self ..)
    have e := PV hrb hlu hl
    rw [List.pairwise_cons] at hp
    obtain ⟨b', k1, k2, k3⟩ := OE (l := l) (last := (u : Int)) (Gh hb) (fun x hx => by
      rw [e] at hx
      rcases List.mem_append.1 hx with h4 | h4
      · have := hl x h4; omega
      · simp at h4; omega) hp.1 hp.2 (fun x hx => hr x (List.mem_cons_of_mem _ hx))
    refine ⟨b', ?_, k2, by rw [k3, e]; simp⟩
    rw [List.map_cons, Ed, ha]
    show (if last < (u : Int) ∧ Cj (u : Int) = true ∧ Lib.itoa (u : Int) = Lib.itoa (u : Int) then Ed (GS b ((u : Int) - 1).toNat) (u : Int) (l.map Lib.itoa) else none) = some b'
    rw [if_pos ⟨hlu, hrb, rfl⟩]; exact k1
def HJ (x : Ak × Int) (c : UInt8) : Ak × Int := if (48 ≤ c.toNat ∧ c.toNat ≤ 57) ∧ x.2 ≤ 256 then (x.1, 10 * x.2 + ((c.toNat : Int) - 48)) else (if Cj x.2 then GS x.1 (x.2 - 1).toNat else x.1, 0)
def W7 (x : Ak × Int) : Ak := if Cj x.2 then GS x.1 (x.2 - 1).toNat else x.1
def rB (s : List UInt8) : Ak := W7 (s.foldl HJ (zb, 0))
theorem ZM {x : Ak × Int} {c : UInt8} (h : GV x.1) : GV (HJ x c).1 := by
  unfold HJ
  split
  · exact h
  · simp only
    split
    · exact Gh h
    · exact h
theorem Ry : ∀ (s : List UInt8) {x : Ak × Int}, GV x.1 → GV (s.foldl HJ x).1
  | [], _, h => h
  | c :: r, x, h => Ry r (ZM h)
theorem pA (s : List UInt8) : GV (rB s) := by
  have := Ry s (x := (zb, 0)) Kt
  unfold rB W7
  split
  · exact Gh this
  · exact this
theorem FD {b : Ak} {n : Int} {d : Nat} (hd : d < 10) (hn : n ≤ 256) : HJ (b, n) (UInt8.ofNat (48 + d)) = (b, 10 * n + d) := by
  have e : (UInt8.ofNat (48 + d)).toNat = 48 + d := by simp; omega
  unfold HJ
  rw [e, if_pos ⟨⟨by omega, by omega⟩, hn⟩]
  simp only [Prod.mk.injEq, true_and]
  omega
theorem Ny {b : Ak} {u : Nat} (hu : u < 257) : (NS u).foldl HJ (b, 0) = (b, (u : Int)) := by
  unfold NS
  by_cases h1 : u < 10
  · rw [if_pos h1]
    simp only [List.foldl_cons, List.foldl_nil]
    rw [FD h1 (by omega)]; simp
  · rw [if_neg h1]
    by_cases h2 : u < 100
    · rw [if_pos h2]
      simp only [List.foldl_cons, List.foldl_nil]
      rw [FD (d := u / 10) (by omega) (by omega), FD (d := u % 10) (by omega) (by omega)]
      simp only [Prod.mk.injEq, true_and]; omega
    · rw [if_neg h2]
      simp only [List.foldl_cons, List.foldl_nil]
      rw [FD (d := u / 100) (by omega) (by omega), FD (d := u / 10 % 10) (by omega) (by omega), FD (d := u % 10) (by omega) (by omega)]
      simp only [Prod.mk.injEq, true_and]; omega
theorem RW {b : Ak} {n : Int} : HJ (b, n) 32 = (W7 (b, n), 0) := by
  unfold HJ
  rw [if_neg (by rintro ⟨⟨h1, _⟩, _⟩; exact absurd h1 (by decide))]; rfl
theorem VK : ∀ {l : List Int} {b : Ak} {last : Int}, l ≠ [] → GV b → (∀ x ∈ D6 b, x ≤ last) → (∀ x ∈ l, last < x) → l.Pairwise (· < ·) → (∀ x ∈ l, 1 ≤ x ∧ x ≤ 256) →
    GV (W7 ((Lib.join (l.map Lib.itoa) [32]).foldl HJ (b, 0))) ∧ D6 (W7 ((Lib.join (l.map Lib.itoa) [32]).foldl HJ (b, 0))) = D6 b ++ l
  | [], _, _, h, _, _, _, _, _ => absurd rfl h
  | n :: l, b, last, _, hb, hl, hlt, hp, hr => by
    obtain ⟨u, rfl, hu, he⟩ := OT (hr n (by simp))
    have hrb : Cj (u : Int) = true := by have := hr _ (List.mem_cons_self ..); simp [Cj]; omega
    have hlu := hlt _ (List.mem_cons_self ..)
    have e := PV hrb hlu hl
    have en : W7 (b, (u : Int)) = GS b ((u : Int) - 1).toNat := if_pos hrb
    rw [List.pairwise_cons] at hp
    cases l with
    | nil =>
      rw [List.map_cons, List.map_nil, Lib.join_one, he, Ny hu, en]
      exact ⟨Gh hb, e⟩
    | cons m r =>
      have ej : Lib.join (((u : Int) :: m :: r).map Lib.itoa) [32] = NS u ++ 32 :: Lib.join ((m :: r).map Lib.itoa) [32] := by
        rw [List.map_cons, he, Lib.join_cons, List.map_cons, Lib.join_cons]
        simp [Lib.joinTail]
      rw [ej, List.foldl_append, Ny hu, List.foldl_cons, RW, en]
      obtain ⟨k1, k2⟩ := VK (l := m :: r) (last := (u : Int)) (by simp) (Gh (k := ((u : Int) - 1).toNat) hb) (fun x hx => by
        rw [e] at hx
        rcases List.mem_append.1 hx with h4 | h4
        · have := hl x h4; omega
        · simp at h4; omega) hp.1 hp.2 (fun x hx => hr x (List.mem_cons_of_mem _ hx))
      exact ⟨k1, by rw [k2, e]; simp⟩
theorem F7 {b : Ak} : ∀ x ∈ D6 b, 1 ≤ x ∧ x ≤ 256 := by
  intro x hx
  obtain ⟨k, h1, h2, _⟩ := NH.1 hx
  omega
theorem jO {b : Ak} (hb : GV b) : rB (Em (D6 b)) = b := by
  by_cases h0 : (D6 b).length = 0
  · have e : D6 b = [] := List.eq_nil_of_length_eq_zero h0
    rw [nr hb e, MC]
    decide +kernel
  · have e : Em (D6 b) = Lib.join ((D6 b).map Lib.itoa) [32] := by unfold Em tk; rw [if_neg h0, List.take_length]
    have hne : D6 b ≠ [] := fun e => h0 (by rw [e]; rfl)
    obtain ⟨k1, k2⟩ := VK (l := D6 b) (b := zb) (last := 0) hne Kt (by rw [MC]; simp) (fun x hx => by have := F7 x hx; omega) Np F7
    rw [MC, List.nil_append] at k2
    rw [e]
    exact oG k1 hb k2
theorem bO {b : Ak} : (Em (D6 b)).length ≤ 1024 := by
  have hk : ∀ k, k ≤ (D6 b).length → (tk (D6 b) k).length ≤ 4 * k := by
    intro k
    induction k with
    | zero => intro _; simp [tk, Lib.join_nil]
    | succ k ih =>
      intro h
      have ih := ih (by omega)
      obtain ⟨u, h1, h2, h3⟩ := OT (mM (b := b) (k := k) h)
      have := dv (u := u)
      rw [jC h, List.length_append, h3]
      split
      · simp; omega
      · simp; omega
  have := lD (b := b)
  unfold Em
  split
  · simp
  · have := hk _ (Nat.le_refl _); omega
def G9 (s : List UInt8) : Ak := if Em (D6 (rB s)) = s then rB s else zb
def Mt (s : List UInt8) : Int := if Em (D6 (rB s)) = s then 0 else 4
def Kx (s : List UInt8) : Value := .tuple ⟨[.agg ⟨bl (G9 s)⟩, .int .i64 (Mt s)]⟩
theorem Lc {b : Ak} (hb : GV b) : G9 (Em (D6 b)) = b ∧ Mt (Em (D6 b)) = 0 := by
  have e := jO hb
  unfold G9 Mt
  rw [e, if_pos rfl, if_pos rfl]; exact ⟨rfl, rfl⟩
theorem SD : G9 [45] = zb ∧ Mt [45] = 0 := by
  have := Lc Kt
  rw [MC] at this
  exact this
theorem Yt {s : List UInt8} {b : Ak} (h : Ed zb 0 (IU s) = some b) : GV b ∧ G9 s = b ∧ Mt s = 0 := by
  obtain ⟨k1, ns, k2, k3⟩ := L9 Kt (by rw [MC]; simp) h
  rw [MC, List.nil_append] at k2
  have hne : ¬ ns.length = 0 := fun e => by
    rw [List.eq_nil_of_length_eq_zero e] at k3
    exact Yh s k3.symm
  have e : Em (D6 b) = s := by
    unfold Em tk
    rw [k2, if_neg hne, List.take_length, k3, Qp]
  have := Lc k1
  rw [e] at this
  exact ⟨k1, this⟩
theorem Se {s : List UInt8} (hs : s ≠ [45]) (h : Ed zb 0 (IU s) = none) : G9 s = zb ∧ Mt s = 4 := by
  have hne : ¬ Em (D6 (rB s)) = s := by
    intro e
    by_cases h0 : (D6 (rB s)).length = 0
    · rw [Em, if_pos h0] at e
      exact hs e.symm
    · rw [Em, if_neg h0, tk, List.take_length] at e
      have hnn : (D6 (rB s)).map Lib.itoa ≠ [] := fun e => h0 (by have := congrArg List.length e; simpa using this)
      have es : IU s = (D6 (rB s)).map Lib.itoa := by
        conv => lhs; rw [← e]
        refine Q9 hnn fun x hx => ?_
        obtain ⟨y, hy, rfl⟩ := List.mem_map.1 hx
        obtain ⟨u, rfl, hu, he⟩ := OT (F7 y hy)
        rw [he]; exact Wy ⟨u, hu⟩
      obtain ⟨b', k1, _⟩ := OE (l := D6 (rB s)) (b := zb) (last := 0) Kt (by rw [MC]; simp) (fun x hx => by have := F7 x hx; omega) Np F7
      rw [es, k1] at h; cases h
  exact ⟨if_neg hne, if_neg hne⟩
end Go.Proofs.YthpibnpeaidabaaGreatDoor.Dm
