import Derived.Test.YthpibnpeaidabaaGreatDoorTB2
import Derived.Lib.ItoaLen
import Derived.Lib.ItoaMem
import Derived.Shelf.Spec.TrailingZeros
set_option linter.unusedVariables false
namespace Go.Proofs.YthpibnpeaidabaaGreatDoor.Dm
open Go.Dm
set_option maxHeartbeats 16000000
def G16 := G11
theorem yI : B4 Tryz.prog tt.get G16 := yF
def Lb (g : Nat) (v : Value) : Ay := .cells false (BB + 4096 + g) [v]
theorem Jn {φ : Ren} {own : Nat → Prop} {hp : Hp} {w : World} (H : HR φ own hp w) {i g : Nat} {v : Value} (hg : g < 4096) (h : hp i = some (Lb g v)) : ∃ v', V φ v v' ∧ w.cell? ⟨g, 0, none⟩ = some v' := by
  obtain ⟨L, hL, he, c, t, fz, h1, h2, h3, h4, h5⟩ := H.obj _ _ h
  obtain ⟨h6, h7, h8⟩ := h5.2.1 rfl (by omega)
  have hb : L.BR = g := by omega
  have hm : L.Dp = 1 := by omega
  rw [hb] at h1
  rw [h7, List.drop_zero] at h4
  cases h4' : c.toList with
  | nil => have : c.size = 0 := by rw [← Array.length_toList, h4']; rfl
           omega
  | cons x r =>
    rw [h4'] at h4
    cases h4 with
    | cons _ _ _ _ hx _ =>
      refine ⟨x, hx, ?_⟩
      have hc : c[0]? = some x := by rw [← Array.getElem?_toList, h4']; rfl
      simp [World.cell?, h1, hc]
def WK (s : List UInt8) : List (List UInt8) := Lib.split s [32]
def KF : BG := .det (fun args hp _ => match args with | [.string ⟨⟨s⟩⟩, .string ⟨⟨sep⟩⟩] => s.length < 4294967281 ∧ sep = [32] ∧ ∃ m, hp 2 = some (Lb 3 (.int .i64 m)) | _ => False)
  (fun args _ top => match args with | [s, _] => (AR top (WK (strOf s)), [(top, AV AU (WK (strOf s)))], top + 1) | _ => (undef, [], top))
theorem di (l : List ByteArray) : AU.flat (l.map (·.data.toList)) = l.map Value.string := by
  induction l with
  | nil => rfl
  | cons a l ih => rw [List.map_cons, Bk.CB, ih]; rfl
theorem bd {φ : Ren} : ∀ l : List ByteArray, Vs φ (l.map Value.string) (l.map Value.string)
  | [] => .nil
  | a :: l => .cons _ _ _ _ (.str a) (bd l)
theorem newRow {φ : Ren} {own : Nat → Prop} {hp : Hp} {w : World} {top : Nat} (H : HR φ own hp w) (htop : ∀ j, top ≤ j → φ j = none) (l : List ByteArray) (t : TypeId) (hl : l ≠ []) :
    FD φ own w (AR top (l.map (·.data.toList))) (hp.Al [(top, AV AU (l.map (·.data.toList)))]) (top + 1) (.slice (some ⟨w.heap.size, 0, none⟩) l.length l.length) (w.alloc (.cells (l.map Value.string).toArray t)) (φ.ext top ⟨w.heap.size, 0, 1, l.length⟩) := by
  obtain ⟨x, r, rfl⟩ := List.exists_cons_of_ne_nil hl
  have hok : DH φ ⟨w.heap.size, 0, 1, (x :: r).length⟩ (.cells true 1 ((x :: r).map Value.string)) (some (.cells ((x :: r).map Value.string).toArray t)) := by
    refine ⟨rfl, _, t, (0, 0), rfl, by simp, by simp, ?_, ⟨fun _ => Nat.le_refl _, (fun e => by cases e), fun _ h => absurd h (by decide)⟩⟩
    have e : ((((x :: r).map Value.string).toArray.toList.drop 0).take ((x :: r).map Value.string).length) = (x :: r).map Value.string := by
      rw [List.drop_zero, List.take_of_length_le (by simp)]
    rw [e]; exact bd _
  have hs : hp.Al [(top, AV AU ((x :: r).map (·.data.toList)))] = hp.Ij top (.cells true 1 ((x :: r).map Value.string)) := by
    have e : AV AU ((x :: r).map (·.data.toList)) = some (.cells true 1 ((x :: r).map Value.string)) := by
      rw [← di]; rfl
    rw [e]
    funext j
    simp only [CA, DQ, Hp.set, Hp.Ij]
  have HA := H.alloc top _ _ _ w.drawn (htop top (Nat.le_refl _)) rfl hok
  refine ⟨Ren.DA (htop top (Nat.le_refl _)), ?_, ?_, K.alloc own w _ w.drawn rfl, ?_⟩
  · have e : AR top ((x :: r).map (·.data.toList)) = .slice (some ⟨top, 0, none⟩) (x :: r).length (x :: r).length := by simp [AR]
    rw [e]
    have := V.slice (φ := φ.ext top ⟨w.heap.size, 0, 1, (x :: r).length⟩) top 0 (x :: r).length (x :: r).length (x :: r).length ⟨w.heap.size, 0, 1, (x :: r).length⟩ (Ren.A4 ..) (Nat.le_refl _) (Nat.le_refl _) (by simp)
    exact this
  · rw [hs]; exact HA
  · intro j hj
    have : ¬ j = top := by omega
    simp only [Ren.ext, this, if_false]
    exact htop j (by omega)
theorem df : Aw Tryz.prog 66 KF := by
  refine ⟨⟨_, W8.toFTOk⟩, fun args hp top hpre => ?_⟩
  match args, hpre with
  | [.string ⟨⟨s⟩⟩, .string ⟨⟨sep⟩⟩], ⟨hs, hsep, m, hm⟩ =>
  subst hsep
  intro φ own w args' ha H htop
  cases ha with
  | cons _ _ _ _ hx hl =>
  cases hx
  cases hl with
  | cons _ _ _ _ hx hl =>
  cases hx
  cases hl
  obtain ⟨v', hv, hc⟩ := Jn H (by omega) hm
  cases hv
  refine (Tryz.strings_Split ⟨⟨s⟩⟩ ⟨⟨[32]⟩⟩ m w hs hc (by decide)).mono ?_
  rintro e w' ⟨rfl, rfl⟩
  have hlen := Lib.splitB_all ⟨⟨[32]⟩⟩ (by decide) 0 _ (⟨⟨s⟩⟩ : ByteArray) rfl
  have hd := Lib.splitB_data ⟨⟨[32]⟩⟩ 0 (Lib.countB ⟨⟨s⟩⟩ ⟨⟨[32]⟩⟩) (⟨⟨s⟩⟩ : ByteArray)
  have hd2 : (Lib.splitB ⟨⟨[32]⟩⟩ 0 (Lib.countB ⟨⟨s⟩⟩ ⟨⟨[32]⟩⟩) ⟨⟨s⟩⟩).map (·.data.toList) = WK s := hd
  rw [← hlen]
  generalize Lib.splitB ⟨⟨[32]⟩⟩ 0 (Lib.countB ⟨⟨s⟩⟩ ⟨⟨[32]⟩⟩) ⟨⟨s⟩⟩ = l at hlen hd2
  refine ⟨AR top (WK s), hp.Al [(top, AV AU (WK s))], top + 1, _, φ.ext top ⟨w.heap.size, 0, 1, l.length⟩, rfl, ⟨rfl, rfl, rfl⟩, ?_⟩
  rw [← hd2]
  exact newRow H htop l 9 (by intro h; rw [h] at hlen; simp at hlen)
def DW (s : List UInt8) (top : Nat) : Value × BZ × Nat := match Lib.atoiAll s with
  | .ok v => (.tuple ⟨[.int .i64 v, .nilIface]⟩, [], top)
  | .syntax => (.tuple ⟨[.int .i64 0, .iface 155 (.pointer (some ⟨top, 0, none⟩))]⟩, [], top + 1)
  | .range => (.tuple ⟨[.int .i64 (Lib.atoiSat s), .iface 155 (.pointer (some ⟨top, 0, none⟩))]⟩, [], top + 1)
def FF : BG := .det (fun args hp _ => match args with | [.string ⟨⟨s⟩⟩] => s.length ≤ 281474976710656 ∧ (∃ t a, hp 4 = some (Lb 4 (.iface t a))) ∧ (∃ t a, hp 6 = some (Lb 5 (.iface t a))) | _ => False)
  (fun args _ top => match args with | [s] => DW (strOf s) top | _ => (undef, [], top))
theorem FD.named {φ : Ren} {own : Nat → Prop} {hp : Hp} {w w' : World} {top N : Nat} {n : Int} {t : TypeId} (H : HR φ own hp w) (htop : ∀ j, top ≤ j → φ j = none) (hb : Go.RowKit.Below w.heap.size w w') (hN : N < w'.heap.size) :
    FD φ own w (.tuple ⟨[.int .i64 n, .iface t (.pointer (some ⟨top, 0, none⟩))]⟩) hp (top + 1) (.tuple ⟨[.int .i64 n, .iface t (.pointer (some ⟨N, 0, none⟩))]⟩) w' (φ.ext top ⟨N, 0, 1, 1⟩) := by
  have k := K.KD hb
  have H2 := H.stay k
  have hle := Ren.DA (L := ⟨N, 0, 1, 1⟩) (htop top (Nat.le_refl _))
  have low : ∀ j o M, hp j = some o → φ.ext top ⟨N, 0, 1, 1⟩ j = some M → φ j = some M := by
    intro j o M hj hM
    have : j < top := H.lt htop hj
    have hne : ¬ j = top := by omega
    simpa [Ren.ext, hne] using hM
  refine ⟨hle, ?_, ⟨?_, ?_, ?_, ?_, H2.fresh⟩, K.L9 H.fresh k, ?_⟩
  · refine .tuple _ _ (.cons _ _ _ _ (.int _ _) (.cons _ _ _ _ (.iface _ _ _ ?_) .nil))
    exact .ptr top 0 ⟨N, 0, 1, 1⟩ (Ren.A4 ..)
  · intro j o hj
    obtain ⟨M, m1, m2⟩ := H2.obj j o hj
    exact ⟨M, hle _ _ m1, m2.mono hle⟩
  · intro i j oi oj Li Lj hi hj hne hrw hLi hLj
    exact H2.sep i j oi oj Li Lj hi hj hne hrw (low _ _ _ hi hLi) (low _ _ _ hj hLj)
  · intro i o M hi hrw hM
    exact H2.DC i o M hi hrw (low _ _ _ hi hM)
  · intro j M hM
    by_cases e : j = top
    · subst e; rw [Ren.A4] at hM; cases hM; exact hN
    · have : φ j = some M := by simpa [Ren.ext, e] using hM
      exact H2.val j M this
  · intro j hj
    have : ¬ j = top := by omega
    simp only [Ren.ext, this, if_false]
    exact htop j (by omega)
theorem nP : Aw Tryz.prog 48 FF := by
  refine ⟨⟨_, XX.toFTOk⟩, fun args hp top hpre => ?_⟩
  match args, hpre with
  | [.string ⟨⟨s⟩⟩], ⟨hs, ⟨t1, a1, hp3⟩, ⟨t2, a2, hp4⟩⟩ =>
  intro φ own w args' ha H htop
  cases ha with
  | cons _ _ _ _ hx hl =>
  cases hx
  cases hl
  obtain ⟨v1, V1, c1⟩ := Jn H (by omega) hp3
  obtain ⟨v2, V2, c2⟩ := Jn H (by omega) hp4
  have i1 : v1 = .nilIface ∨ ∃ te pe, v1 = .iface te pe := by cases V1; exact .inr ⟨_, _, rfl⟩
  have i2 : v2 = .nilIface ∨ ∃ te pe, v2 = .iface te pe := by cases V2; exact .inr ⟨_, _, rfl⟩
  simp only [Ba]
  cases hr : Lib.atoiAll s with
  | ok v =>
    have ea : DW s top = (.tuple ⟨[.int .i64 v, .nilIface]⟩, [], top) := by simp only [DW, hr]
    refine (Tryz.strconv_Atoi_ok ⟨⟨s⟩⟩ (by show s.length ≤ _; omega) v hr w).mono ?_
    rintro e w' ⟨rfl, hw⟩
    have hb : Go.RowKit.Below w.heap.size w w' := by
      rcases hw with rfl | ⟨t, rfl⟩
      · exact Go.RowKit.Below.refl _ _
      · exact Lib.bytesWorld_below _ _ _
    have k := K.KD hb
    refine ⟨(DW s top).1, hp.Al (DW s top).2.1, (DW s top).2.2, _, φ, rfl, ⟨rfl, rfl, rfl⟩, ?_⟩
    rw [ea]
    exact ⟨Ren.le_refl _, .tuple _ _ (.cons _ _ _ _ (.int _ _) (.cons _ _ _ _ .nili .nil)), H.stay k, K.L9 H.fresh k, htop⟩
  | «syntax» =>
    have ea : DW s top = (.tuple ⟨[.int .i64 0, .iface 155 (.pointer (some ⟨top, 0, none⟩))]⟩, [], top + 1) := by simp only [DW, hr]
    refine (Tryz.strconv_Atoi_syntax ⟨⟨s⟩⟩ (by show s.length ≤ _; omega) hr v1 w c1 i1).mono ?_
    rintro e w' ⟨N, rfl, h1, h2, hb⟩
    refine ⟨(DW s top).1, hp.Al (DW s top).2.1, (DW s top).2.2, _, φ.ext top ⟨N, 0, 1, 1⟩, rfl, ⟨rfl, rfl, rfl⟩, ?_⟩
    rw [ea]
    exact FD.named H htop hb (Array.getElem?_eq_some_iff.1 h2).1
  | range =>
    have ea : DW s top = (.tuple ⟨[.int .i64 (Lib.atoiSat s), .iface 155 (.pointer (some ⟨top, 0, none⟩))]⟩, [], top + 1) := by simp only [DW, hr]
    refine (Tryz.strconv_Atoi_range ⟨⟨s⟩⟩ (by show s.length ≤ _; omega) hr v2 w c2 i2).mono ?_
    rintro e w' ⟨N, rfl, h1, h2, hb⟩
    refine ⟨(DW s top).1, hp.Al (DW s top).2.1, (DW s top).2.2, _, φ.ext top ⟨N, 0, 1, 1⟩, rfl, ⟨rfl, rfl, rfl⟩, ?_⟩
    rw [ea]
    exact FD.named H htop hb (Array.getElem?_eq_some_iff.1 h2).1
def OJ (u : Nat) : List UInt8 := if u < 10 then [UInt8.ofNat (48 + u)] else if u < 100 then [UInt8.ofNat (48 + u / 10), UInt8.ofNat (48 + u % 10)] else [UInt8.ofNat (48 + u / 100), UInt8.ofNat (48 + u / 10 % 10), UInt8.ofNat (48 + u % 10)]
theorem dA {u : Nat} (h : u < 1000) : Lib.itoa (u : Int) = OJ u := by
  rw [Lib.itoa_nonneg]
  unfold OJ
  by_cases h1 : u < 10
  · rw [if_pos h1, Dy h1]
  · rw [if_neg h1, KU h1]
    by_cases h2 : u < 100
    · rw [if_pos h2, Dy (by omega)]; rfl
    · rw [if_neg h2, KU (u := u / 10) (by omega), Dy (u := u / 10 / 10) (by omega), Nat.div_div_eq_div_mul]; rfl
theorem cm : ∀ u : Fin 257, Lib.atoiAll (OJ u.val) = .ok (u.val : Int) := by decide +kernel
theorem Zd : ∀ u : Fin 257, (32 : UInt8) ∉ OJ u.val := by decide +kernel
theorem mZ {u : Nat} : (OJ u).length ≤ 3 := by
  unfold OJ
  split
  · simp
  · split <;> simp
theorem Qi {x : Int} (h : 1 ≤ x ∧ x ≤ 256) : ∃ u : Nat, x = (u : Int) ∧ u < 257 ∧ Lib.itoa x = OJ u := by
  obtain ⟨u, rfl⟩ := Int.eq_ofNat_of_zero_le (show 0 ≤ x by omega)
  exact ⟨u, rfl, by omega, dA (by omega)⟩
def JP : List UInt8 → List (List UInt8)
  | [] => [[]]
  | c :: r => if c = 32 then [] :: JP r else match JP r with
    | [] => [[c]]
    | h :: t => (c :: h) :: t
theorem cL : ∀ s, JP s ≠ []
  | [] => by simp [JP]
  | c :: r => by
    unfold JP
    split
    · simp
    · split <;> simp
theorem XE : ∀ s, WK s = JP s
  | [] => rfl
  | c :: r => by
    have ih : Lib.splitK [32] 0 (Lib.count r [32]) r = JP r := XE r
    show Lib.splitK [32] 0 (Lib.count (c :: r) [32]) (c :: r) = _
    by_cases hc : c = 32
    · subst hc
      have hi : Lib.index ((32 : UInt8) :: r) [32] = 0 := by simp [Lib.index, List.isPrefixOf]
      rw [Lib.count_cons_eq, Nat.add_comm, Lib.splitK, hi]
      simp only [JP, if_true]
      have : ¬ ((0 : Int) == -1) = true := by decide
      rw [if_neg this]
      simp only [Int.toNat_zero, Nat.add_zero, List.take_zero, List.length_cons, List.length_nil, Nat.zero_add, List.drop_succ_cons, List.drop_zero, ih]
    · rw [Lib.count_cons_ne _ _ _ hc]
      have hp : ([32] : List UInt8).isPrefixOf (c :: r) = false := by
        have : ((32 : UInt8) == c) = false := by simpa using fun e => hc e.symm
        simp [List.isPrefixOf, this]
      have hsp : JP (c :: r) = match JP r with
        | [] => [[c]]
        | h :: t => (c :: h) :: t := by rw [JP, if_neg hc]
      rcases Lib.indexB_cases ⟨⟨r⟩⟩ ⟨⟨[32]⟩⟩ with hm | ⟨i, hi, hle⟩
      · have hm : Lib.index r [32] = -1 := hm
        have hm2 : Lib.index (c :: r) [32] = -1 := by simp [Lib.index, hp, hm]
        have h0 := Lib.count_miss hm
        rw [h0] at ih ⊢
        rw [hsp, ← ih]
        rfl
      · have hi : Lib.index r [32] = (i : Int) := hi
        have hi2 : Lib.index (c :: r) [32] = ((i + 1 : Nat) : Int) := by
          have h1 : ¬ ((i : Int) = -1) := by omega
          simp [Lib.index, hp, hi, h1]
        have hk := Lib.count_hit (sub := [32]) (by simp) hi
        rw [hk, Nat.add_comm 1] at ih ⊢
        rw [Lib.splitK] at ih ⊢
        rw [hi] at ih
        rw [hi2]
        have n1 : ¬ ((i : Int) == -1) = true := by simp
        have n2 : ¬ (((i + 1 : Nat) : Int) == -1) = true := by simp; omega
        rw [if_neg n1] at ih
        rw [if_neg n2, hsp, ← ih]
        simp only [Int.toNat_natCast, Nat.add_zero, List.take_succ_cons, List.length_cons, List.length_nil, Nat.zero_add, List.drop_succ_cons]
theorem Tm : ∀ s, Lib.join (JP s) [32] = s
  | [] => by simp [JP, Lib.join_one]
  | c :: r => by
    have ih := Tm r
    obtain ⟨h, t, e⟩ := List.exists_cons_of_ne_nil (cL r)
    rw [e, Lib.join_cons] at ih
    unfold JP
    by_cases hc : c = 32
    · rw [if_pos hc, e, Lib.join_cons, hc]
      simp only [Lib.joinTail, List.map_cons, List.flatten_cons, List.nil_append, List.cons_append]
      rw [← ih]; simp [Lib.joinTail]
    · rw [if_neg hc, e]
      simp only
      rw [Lib.join_cons, List.cons_append, ih]
theorem PI : ∀ {x : List UInt8}, (32 : UInt8) ∉ x → JP x = [x]
  | [], _ => rfl
  | c :: r, h => by
    have hc : ¬ c = 32 := fun e => h (by simp [e])
    have ih := PI (x := r) (fun hm => h (List.mem_cons_of_mem _ hm))
    rw [JP, if_neg hc, ih]
theorem Xd : ∀ {x z : List UInt8}, (32 : UInt8) ∉ x → JP (x ++ 32 :: z) = x :: JP z
  | [], z, _ => by simp [JP]
  | c :: r, z, h => by
    have hc : ¬ c = 32 := fun e => h (by simp [e])
    have ih := Xd (x := r) (z := z) (fun hm => h (List.mem_cons_of_mem _ hm))
    rw [List.cons_append, JP, if_neg hc, ih]
theorem TG : ∀ {l : List (List UInt8)}, l ≠ [] → (∀ x ∈ l, (32 : UInt8) ∉ x) → JP (Lib.join l [32]) = l
  | [], h, _ => absurd rfl h
  | [x], _, h => by rw [Lib.join_one]; exact PI (h x (by simp))
  | x :: y :: r, _, h => by
    have ih := TG (l := y :: r) (by simp) (fun z hz => h z (List.mem_cons_of_mem _ hz))
    have e : Lib.join (x :: y :: r) [32] = x ++ 32 :: Lib.join (y :: r) [32] := by
      rw [Lib.join_cons, Lib.join_cons]
      simp [Lib.joinTail]
    rw [e, Xd (h x (by simp)), ih]
theorem II {p : Nat → Bool} {m : Nat} : ∀ d, (∀ j, m ≤ j → j < m + d → p j = false) → (List.range (m + d)).filter p = (List.range m).filter p
  | 0, _ => rfl
  | d + 1, h => by
    rw [← Nat.add_assoc, List.range_succ, List.filter_append, II d (fun j h1 h2 => h j h1 (by omega))]
    have := h (m + d) (by omega) (by omega)
    simp [this]
theorem tD {b : AX} {k : Nat} (hk : k < 256) (h : ∀ j, k ≤ j → j < 256 → hasB b j = false) : CU (Ga b k) = CU b ++ [(k : Int) + 1] := by
  unfold CU Rx
  have e1 : (List.range 256).filter (hasB b) = (List.range k).filter (hasB b) := by
    have := II (p := hasB b) (m := k) (256 - k) (fun j h1 h2 => h j h1 (by omega))
    rwa [show k + (256 - k) = 256 from by omega] at this
  have e2 : (List.range 256).filter (hasB (Ga b k)) = (List.range k).filter (hasB b) ++ [k] := by
    have := II (p := hasB (Ga b k)) (m := k + 1) (256 - (k + 1)) (fun j h1 h2 => by
      rw [Ms hk (by omega), h j (by omega) (by omega)]
      have : ¬ j = k := by omega
      simp [this])
    rw [show k + 1 + (256 - (k + 1)) = 256 from by omega] at this
    rw [this, List.range_succ, List.filter_append]
    have e3 : (List.range k).filter (hasB (Ga b k)) = (List.range k).filter (hasB b) := by
      refine List.filter_congr fun j hj => ?_
      have hj := List.mem_range.1 hj
      rw [Ms hk (by omega)]
      have : ¬ j = k := by omega
      simp [this]
    rw [e3]
    have : hasB (Ga b k) k = true := by rw [Ms hk hk]; simp
    simp [this]
  rw [e1, e2, List.map_append]; rfl
theorem Qb {b : AX} {n last : Int} (hn : Cm n = true) (hl : last < n) (h : ∀ x ∈ CU b, x ≤ last) : CU (Ga b (n - 1).toNat) = CU b ++ [n] := by
  simp only [Cm, Bool.and_eq_true, decide_eq_true_eq] at hn
  have e := tD (b := b) (k := (n - 1).toNat) (by omega) (fun j h1 h2 => by
    cases hb : hasB b j with
    | false => rfl
    | true =>
      have := h _ (M5.2 ⟨j, h2, rfl, hb⟩)
      omega)
  rw [e]; congr 2; omega
theorem sr {a b : AX} (ha : Fs a) (hb : Fs b) (h : CU a = CU b) : a = b := by
  have key : ∀ {a b : AX}, CU a = CU b → ∀ k, k < 256 → hasB a k = true → hasB b k = true := by
    intro a b h k hk hh
    have : (k : Int) + 1 ∈ CU b := by rw [← h]; exact M5.2 ⟨k, hk, rfl, hh⟩
    obtain ⟨j, j1, j2, j3⟩ := M5.1 this
    have : j = k := by omega
    rw [← this]; exact j3
  refine Xz ha hb fun k hk => ?_
  cases h1 : hasB a k with
  | true => rw [key h k hk h1]
  | false =>
    cases h2 : hasB b k with
    | false => rfl
    | true => rw [key h.symm k hk h2] at h1; cases h1
def Er : AX → Int → List (List UInt8) → Option AX
  | b, _, [] => some b
  | b, last, w :: r => match Lib.atoiAll w with
    | .ok n => if last < n ∧ Cm n = true ∧ Lib.itoa n = w then Er (Ga b (n - 1).toNat) n r else none
    | _ => none
theorem OC : ∀ {ws : List (List UInt8)} {b b' : AX} {last : Int}, Fs b → (∀ x ∈ CU b, x ≤ last) → Er b last ws = some b' → Fs b' ∧ ∃ ns : List Int, CU b' = CU b ++ ns ∧ ns.map Lib.itoa = ws
  | [], b, b', last, hb, _, h => by
    cases h
    exact ⟨hb, [], by simp, rfl⟩
  | w :: r, b, b', last, hb, hl, h => by
    unfold Er at h
    split at h
    · rename_i n hn
      split at h
      · rename_i hc
        obtain ⟨h1, h2, h3⟩ := hc
        have e := Qb h2 h1 hl
        obtain ⟨k1, ns, k2, k3⟩ := OC (HC hb) (fun x hx => by
          rw [e] at hx
          rcases List.mem_append.1 hx with h4 | h4
          · have := hl x h4; omega
          · simp at h4; omega) h
        refine ⟨k1, n :: ns, by rw [k2, e]; simp, by rw [List.map_cons, h3, k3]⟩
      · cases h
    · cases h
theorem Oh : ∀ {l : List Int} {b : AX} {last : Int}, Fs b → (∀ x ∈ CU b, x ≤ last) → (∀ x ∈ l, last < x) → l.Pairwise (· < ·) → (∀ x ∈ l, 1 ≤ x ∧ x ≤ 256) → ∃ b', Er b last (l.map Lib.itoa) = some b' ∧ Fs b' ∧ CU b' = CU b ++ l
  | [], b, last, hb, _, _, _, _ => ⟨b, rfl, hb, by simp⟩
  | n :: l, b, last, hb, hl, hlt, hp, hr => by
    obtain ⟨h1, h2⟩ := hr n (by simp)
    obtain ⟨u, rfl, hu, he⟩ := Qi ⟨h1, h2⟩
    have ha : Lib.atoiAll (Lib.itoa (u : Int)) = .ok (u : Int) := by rw [he]; exact cm ⟨u, hu⟩
    have hrb : Cm (u : Int) = true := by simp [Cm]; omega
    have hlu := hlt _ (List.mem_cons_self ..)
    have e := Qb hrb hlu hl
    rw [List.pairwise_cons] at hp
    obtain ⟨b', k1, k2, k3⟩ := Oh (l := l) (last := (u : Int)) (HC hb) (fun x hx => by
      rw [e] at hx
      rcases List.mem_append.1 hx with h4 | h4
      · have := hl x h4; omega
      · simp at h4; omega) hp.1 hp.2 (fun x hx => hr x (List.mem_cons_of_mem _ hx))
    refine ⟨b', ?_, k2, by rw [k3, e]; simp⟩
    rw [List.map_cons, Er, ha]
    show (if last < (u : Int) ∧ Cm (u : Int) = true ∧ Lib.itoa (u : Int) = Lib.itoa (u : Int) then Er (Ga b ((u : Int) - 1).toNat) (u : Int) (l.map Lib.itoa) else none) = some b'
    rw [if_pos ⟨hlu, hrb, rfl⟩]; exact k1
def H8 (x : AX × Int) (c : UInt8) : AX × Int := if (48 ≤ c.toNat ∧ c.toNat ≤ 57) ∧ x.2 ≤ 256 then (x.1, 10 * x.2 + ((c.toNat : Int) - 48)) else (if Cm x.2 then Ga x.1 (x.2 - 1).toNat else x.1, 0)
def Yl (x : AX × Int) : AX := if Cm x.2 then Ga x.1 (x.2 - 1).toNat else x.1
def rB (s : List UInt8) : AX := Yl (s.foldl H8 (zb, 0))
theorem ey {x : AX × Int} {c : UInt8} (h : Fs x.1) : Fs (H8 x c).1 := by
  unfold H8
  split
  · exact h
  · simp only
    split
    · exact HC h
    · exact h
theorem R6 : ∀ (s : List UInt8) {x : AX × Int}, Fs x.1 → Fs (s.foldl H8 x).1
  | [], _, h => h
  | c :: r, x, h => R6 r (ey h)
theorem vS (s : List UInt8) : Fs (rB s) := by
  have := R6 s (x := (zb, 0)) LY
  unfold rB Yl
  split
  · exact HC this
  · exact this
theorem FL {b : AX} {n : Int} {d : Nat} (hd : d < 10) (hn : n ≤ 256) : H8 (b, n) (UInt8.ofNat (48 + d)) = (b, 10 * n + d) := by
  have e : (UInt8.ofNat (48 + d)).toNat = 48 + d := by simp; omega
  unfold H8
  rw [e, if_pos ⟨⟨by omega, by omega⟩, hn⟩]
  simp only [Prod.mk.injEq, true_and]
  omega
theorem OX {b : AX} {u : Nat} (hu : u < 257) : (OJ u).foldl H8 (b, 0) = (b, (u : Int)) := by
  unfold OJ
  by_cases h1 : u < 10
  · rw [if_pos h1]
    simp only [List.foldl_cons, List.foldl_nil]
    rw [FL h1 (by omega)]; simp
  · rw [if_neg h1]
    by_cases h2 : u < 100
    · rw [if_pos h2]
      simp only [List.foldl_cons, List.foldl_nil]
      rw [FL (d := u / 10) (by omega) (by omega), FL (d := u % 10) (by omega) (by omega)]
      simp only [Prod.mk.injEq, true_and]; omega
    · rw [if_neg h2]
      simp only [List.foldl_cons, List.foldl_nil]
      rw [FL (d := u / 100) (by omega) (by omega), FL (d := u / 10 % 10) (by omega) (by omega), FL (d := u % 10) (by omega) (by omega)]
      simp only [Prod.mk.injEq, true_and]; omega
theorem SM {b : AX} {n : Int} : H8 (b, n) 32 = (Yl (b, n), 0) := by
  unfold H8
  rw [if_neg (by rintro ⟨⟨h1, _⟩, _⟩; exact absurd h1 (by decide))]; rfl
theorem X6 : ∀ {l : List Int} {b : AX} {last : Int}, l ≠ [] → Fs b → (∀ x ∈ CU b, x ≤ last) → (∀ x ∈ l, last < x) → l.Pairwise (· < ·) → (∀ x ∈ l, 1 ≤ x ∧ x ≤ 256) →
    Fs (Yl ((Lib.join (l.map Lib.itoa) [32]).foldl H8 (b, 0))) ∧ CU (Yl ((Lib.join (l.map Lib.itoa) [32]).foldl H8 (b, 0))) = CU b ++ l
  | [], _, _, h, _, _, _, _, _ => absurd rfl h
  | n :: l, b, last, _, hb, hl, hlt, hp, hr => by
    obtain ⟨u, rfl, hu, he⟩ := Qi (hr n (by simp))
    have hrb : Cm (u : Int) = true := by have := hr _ (List.mem_cons_self ..); simp [Cm]; omega
    have hlu := hlt _ (List.mem_cons_self ..)
    have e := Qb hrb hlu hl
    have en : Yl (b, (u : Int)) = Ga b ((u : Int) - 1).toNat := if_pos hrb
    rw [List.pairwise_cons] at hp
    cases l with
    | nil =>
      rw [List.map_cons, List.map_nil, Lib.join_one, he, OX hu, en]
      exact ⟨HC hb, e⟩
    | cons m r =>
      have ej : Lib.join (((u : Int) :: m :: r).map Lib.itoa) [32] = OJ u ++ 32 :: Lib.join ((m :: r).map Lib.itoa) [32] := by
        rw [List.map_cons, he, Lib.join_cons, List.map_cons, Lib.join_cons]
        simp [Lib.joinTail]
      rw [ej, List.foldl_append, OX hu, List.foldl_cons, SM, en]
      obtain ⟨k1, k2⟩ := X6 (l := m :: r) (last := (u : Int)) (by simp) (HC (k := ((u : Int) - 1).toNat) hb) (fun x hx => by
        rw [e] at hx
        rcases List.mem_append.1 hx with h4 | h4
        · have := hl x h4; omega
        · simp at h4; omega) hp.1 hp.2 (fun x hx => hr x (List.mem_cons_of_mem _ hx))
      exact ⟨k1, by rw [k2, e]; simp⟩
theorem Gh {b : AX} : ∀ x ∈ CU b, 1 ≤ x ∧ x ≤ 256 := by
  intro x hx
  obtain ⟨k, h1, h2, _⟩ := M5.1 hx
  omega
theorem nZ {b : AX} (hb : Fs b) : rB (ER (CU b)) = b := by
  by_cases h0 : (CU b).length = 0
  · have e : CU b = [] := List.eq_nil_of_length_eq_zero h0
    rw [rT hb e, Mi]
    decide +kernel
  · have e : ER (CU b) = Lib.join ((CU b).map Lib.itoa) [32] := by unfold ER tk; rw [if_neg h0, List.take_length]
    have hne : CU b ≠ [] := fun e => h0 (by rw [e]; rfl)
    obtain ⟨k1, k2⟩ := X6 (l := CU b) (b := zb) (last := 0) hne LY (by rw [Mi]; simp) (fun x hx => by have := Gh x hx; omega) Ov Gh
    rw [Mi, List.nil_append] at k2
    rw [e]
    exact sr k1 hb k2
theorem e9 {b : AX} : (ER (CU b)).length ≤ 1024 := by
  have hk : ∀ k, k ≤ (CU b).length → (tk (CU b) k).length ≤ 4 * k := by
    intro k
    induction k with
    | zero => intro _; simp [tk, Lib.join_nil]
    | succ k ih =>
      intro h
      have ih := ih (by omega)
      obtain ⟨u, h1, h2, h3⟩ := Qi (Vx (b := b) (k := k) h)
      have := mZ (u := u)
      rw [XM h, List.length_append, h3]
      split
      · simp; omega
      · simp; omega
  have := tu (b := b)
  unfold ER
  split
  · simp
  · have := hk _ (Nat.le_refl _); omega
def Ho (s : List UInt8) : AX := if ER (CU (rB s)) = s then rB s else zb
def NY (s : List UInt8) : Int := if ER (CU (rB s)) = s then 0 else 4
def Ld (s : List UInt8) : Value := .tuple ⟨[.agg ⟨bl (Ho s)⟩, .int .i64 (NY s)]⟩
theorem Mv {b : AX} (hb : Fs b) : Ho (ER (CU b)) = b ∧ NY (ER (CU b)) = 0 := by
  have e := nZ hb
  unfold Ho NY
  rw [e, if_pos rfl, if_pos rfl]; exact ⟨rfl, rfl⟩
theorem SB : Ho [45] = zb ∧ NY [45] = 0 := by
  have := Mv LY
  rw [Mi] at this
  exact this
theorem bQ {s : List UInt8} {b : AX} (h : Er zb 0 (JP s) = some b) : Fs b ∧ Ho s = b ∧ NY s = 0 := by
  obtain ⟨k1, ns, k2, k3⟩ := OC LY (by rw [Mi]; simp) h
  rw [Mi, List.nil_append] at k2
  have hne : ¬ ns.length = 0 := fun e => by
    rw [List.eq_nil_of_length_eq_zero e] at k3
    exact cL s k3.symm
  have e : ER (CU b) = s := by
    unfold ER tk
    rw [k2, if_neg hne, List.take_length, k3, Tm]
  have := Mv k1
  rw [e] at this
  exact ⟨k1, this⟩
theorem S9 {s : List UInt8} (hs : s ≠ [45]) (h : Er zb 0 (JP s) = none) : Ho s = zb ∧ NY s = 4 := by
  have hne : ¬ ER (CU (rB s)) = s := by
    intro e
    by_cases h0 : (CU (rB s)).length = 0
    · rw [ER, if_pos h0] at e
      exact hs e.symm
    · rw [ER, if_neg h0, tk, List.take_length] at e
      have hnn : (CU (rB s)).map Lib.itoa ≠ [] := fun e => h0 (by have := congrArg List.length e; simpa using this)
      have es : JP s = (CU (rB s)).map Lib.itoa := by
        conv => lhs; rw [← e]
        refine TG hnn fun x hx => ?_
        obtain ⟨y, hy, rfl⟩ := List.mem_map.1 hx
        obtain ⟨u, rfl, hu, he⟩ := Qi (Gh y hy)
        rw [he]; exact Zd ⟨u, hu⟩
      obtain ⟨b', k1, _⟩ := Oh (l := CU (rB s)) (b := zb) (last := 0) LY (by rw [Mi]; simp) (fun x hx => by have := Gh x hx; omega) Ov Gh
      rw [es, k1] at h; cases h
  exact ⟨if_neg hne, if_neg hne⟩
end Go.Proofs.YthpibnpeaidabaaGreatDoor.Dm
