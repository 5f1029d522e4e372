/- Bit strings, as the bits chapter has them (turned to this seat by port.py): part TB3. -/
import Derived.Test.YthpibnpeaidabaaGreatDoorTB2
import Derived.Lib.ItoaLen
import Derived.Lib.ItoaMem
import Derived.Shelf.Spec.TrailingZeros
set_option linter.unusedVariables false
namespace Go.Proofs.YthpibnpeaidabaaGreatDoor.Dm
open Go.Dm
set_option maxHeartbeats 16000000
def G16 := G11
theorem env16 : EnvV Tryz.prog tt.get G16 := env11
/-- a variable of one cell: the program's variable g, whole -/
def varO (g : Nat) (v : Value) : AObj := .cells false (tabMark + 4096 + g) [v]
theorem var_at {φ : Ren} {own : Nat → Prop} {hp : Hp} {w : World} (H : HR φ own hp w) {i g : Nat} {v : Value} (hg : g < 4096) (h : hp i = some (varO g v)) : ∃ v', V φ v v' ∧ w.cell? ⟨g, 0, none⟩ = some v' := by
  obtain ⟨L, hL, he, c, t, fz, h1, h2, h3, h4, h5⟩ := H.obj _ _ h
  obtain ⟨h6, h7, h8⟩ := h5.2.1 rfl (by omega)
  have hb : L.blk = g := by omega
  have hm : L.lim = 1 := by omega
  rw [hb] at h1
  rw [h7, List.drop_zero] at h4
  cases h4' : c.toList with
  | nil => have : c.size = 0 := by rw [← Array.length_toList, h4']; rfl
           omega
  | cons x r =>
    rw [h4'] at h4
    cases h4 with
    | cons _ _ _ _ hx _ =>
      refine ⟨x, hx, ?_⟩
      have hc : c[0]? = some x := by rw [← Array.getElem?_toList, h4']; rfl
      simp [World.cell?, h1, hc]
def splL (s : List UInt8) : List (List UInt8) := Lib.split s [32]
def conSplit : Con := .det (fun args hp _ => match args with | [.string ⟨⟨s⟩⟩, .string ⟨⟨sep⟩⟩] => s.length < 4294967281 ∧ sep = [32] ∧ ∃ m, hp 2 = some (varO 3 (.int .i64 m)) | _ => False)
  (fun args _ top => match args with | [s, _] => (mkSl top (splL (strOf s)), [(top, mkOb e_string (splL (strOf s)))], top + 1) | _ => (undef, [], top))
theorem flat_str (l : List ByteArray) : e_string.flat (l.map (·.data.toList)) = l.map Value.string := by
  induction l with
  | nil => rfl
  | cons a l ih => rw [List.map_cons, Enc.flat_cons, ih]; rfl
theorem vs_str {φ : Ren} : ∀ l : List ByteArray, Vs φ (l.map Value.string) (l.map Value.string)
  | [] => .nil
  | a :: l => .cons _ _ _ _ (.str a) (vs_str l)
/-- a new row of texts -/
theorem newRow {φ : Ren} {own : Nat → Prop} {hp : Hp} {w : World} {top : Nat} (H : HR φ own hp w) (htop : ∀ j, top ≤ j → φ j = none) (l : List ByteArray) (t : TypeId) (hl : l ≠ []) :
    WOk φ own w (mkSl top (l.map (·.data.toList))) (hp.sets [(top, mkOb e_string (l.map (·.data.toList)))]) (top + 1) (.slice (some ⟨w.heap.size, 0, none⟩) l.length l.length) (w.alloc (.cells (l.map Value.string).toArray t)) (φ.ext top ⟨w.heap.size, 0, 1, l.length⟩) := by
  obtain ⟨x, r, rfl⟩ := List.exists_cons_of_ne_nil hl
  have hok : OkObj φ ⟨w.heap.size, 0, 1, (x :: r).length⟩ (.cells true 1 ((x :: r).map Value.string)) (some (.cells ((x :: r).map Value.string).toArray t)) := by
    refine ⟨rfl, _, t, (0, 0), rfl, by simp, by simp, ?_, ⟨fun _ => Nat.le_refl _, (fun e => by cases e), fun _ h => absurd h (by decide)⟩⟩
    have e : ((((x :: r).map Value.string).toArray.toList.drop 0).take ((x :: r).map Value.string).length) = (x :: r).map Value.string := by
      rw [List.drop_zero, List.take_of_length_le (by simp)]
    rw [e]; exact vs_str _
  have hs : hp.sets [(top, mkOb e_string ((x :: r).map (·.data.toList)))] = hp.upd top (.cells true 1 ((x :: r).map Value.string)) := by
    have e : mkOb e_string ((x :: r).map (·.data.toList)) = some (.cells true 1 ((x :: r).map Value.string)) := by
      rw [← flat_str]; rfl
    rw [e]
    funext j
    simp only [sets_cons, sets_nil, Hp.set, Hp.upd]
  have HA := H.alloc top _ _ _ w.drawn (htop top (Nat.le_refl _)) rfl hok
  refine ⟨Ren.le_ext (htop top (Nat.le_refl _)), ?_, ?_, K.alloc own w _ w.drawn rfl, ?_⟩
  · have e : mkSl top ((x :: r).map (·.data.toList)) = .slice (some ⟨top, 0, none⟩) (x :: r).length (x :: r).length := by simp [mkSl]
    rw [e]
    have := V.slice (φ := φ.ext top ⟨w.heap.size, 0, 1, (x :: r).length⟩) top 0 (x :: r).length (x :: r).length (x :: r).length ⟨w.heap.size, 0, 1, (x :: r).length⟩ (Ren.ext_same ..) (Nat.le_refl _) (Nat.le_refl _) (by simp)
    exact this
  · rw [hs]; exact HA
  · intro j hj
    have : ¬ j = top := by omega
    simp only [Ren.ext, this, if_false]
    exact htop j (by omega)
theorem split_ok : ConOk Tryz.prog 66 conSplit := by
  refine ⟨⟨_, fn66_ok.toFTOk⟩, fun args hp top hpre => ?_⟩
  match args, hpre with
  | [.string ⟨⟨s⟩⟩, .string ⟨⟨sep⟩⟩], ⟨hs, hsep, m, hm⟩ =>
  subst hsep
  intro φ own w args' ha H htop
  cases ha with
  | cons _ _ _ _ hx hl =>
  cases hx
  cases hl with
  | cons _ _ _ _ hx hl =>
  cases hx
  cases hl
  obtain ⟨v', hv, hc⟩ := var_at H (by omega) hm
  cases hv
  refine (Tryz.strings_Split ⟨⟨s⟩⟩ ⟨⟨[32]⟩⟩ m w hs hc (by decide)).mono ?_
  rintro e w' ⟨rfl, rfl⟩
  have hlen := Lib.splitB_all ⟨⟨[32]⟩⟩ (by decide) 0 _ (⟨⟨s⟩⟩ : ByteArray) rfl
  have hd := Lib.splitB_data ⟨⟨[32]⟩⟩ 0 (Lib.countB ⟨⟨s⟩⟩ ⟨⟨[32]⟩⟩) (⟨⟨s⟩⟩ : ByteArray)
  have hd2 : (Lib.splitB ⟨⟨[32]⟩⟩ 0 (Lib.countB ⟨⟨s⟩⟩ ⟨⟨[32]⟩⟩) ⟨⟨s⟩⟩).map (·.data.toList) = splL s := hd
  rw [← hlen]
  generalize Lib.splitB ⟨⟨[32]⟩⟩ 0 (Lib.countB ⟨⟨s⟩⟩ ⟨⟨[32]⟩⟩) ⟨⟨s⟩⟩ = l at hlen hd2
  refine ⟨mkSl top (splL s), hp.sets [(top, mkOb e_string (splL s))], top + 1, _, φ.ext top ⟨w.heap.size, 0, 1, l.length⟩, rfl, ⟨rfl, rfl, rfl⟩, ?_⟩
  rw [← hd2]
  exact newRow H htop l 9 (by intro h; rw [h] at hlen; simp at hlen)
def atoiV (s : List UInt8) (top : Nat) : Value × Upds × Nat := match Lib.atoiAll s with
  | .ok v => (.tuple ⟨[.int .i64 v, .nilIface]⟩, [], top)
  | .syntax => (.tuple ⟨[.int .i64 0, .iface 155 (.pointer (some ⟨top, 0, none⟩))]⟩, [], top + 1)
  | .range => (.tuple ⟨[.int .i64 (Lib.atoiSat s), .iface 155 (.pointer (some ⟨top, 0, none⟩))]⟩, [], top + 1)
def conAtoi : Con := .det (fun args hp _ => match args with | [.string ⟨⟨s⟩⟩] => s.length ≤ 281474976710656 ∧ (∃ t a, hp 4 = some (varO 4 (.iface t a))) ∧ (∃ t a, hp 6 = some (varO 5 (.iface t a))) | _ => False)
  (fun args _ top => match args with | [s] => atoiV (strOf s) top | _ => (undef, [], top))
theorem WOk.named {φ : Ren} {own : Nat → Prop} {hp : Hp} {w w' : World} {top N : Nat} {n : Int} {t : TypeId} (H : HR φ own hp w) (htop : ∀ j, top ≤ j → φ j = none) (hb : Go.RowKit.Below w.heap.size w w') (hN : N < w'.heap.size) :
    WOk φ own w (.tuple ⟨[.int .i64 n, .iface t (.pointer (some ⟨top, 0, none⟩))]⟩) hp (top + 1) (.tuple ⟨[.int .i64 n, .iface t (.pointer (some ⟨N, 0, none⟩))]⟩) w' (φ.ext top ⟨N, 0, 1, 1⟩) := by
  have k := K.of_below hb
  have H2 := H.stay k
  have hle := Ren.le_ext (L := ⟨N, 0, 1, 1⟩) (htop top (Nat.le_refl _))
  have low : ∀ j o M, hp j = some o → φ.ext top ⟨N, 0, 1, 1⟩ j = some M → φ j = some M := by
    intro j o M hj hM
    have : j < top := H.lt htop hj
    have hne : ¬ j = top := by omega
    simpa [Ren.ext, hne] using hM
  refine ⟨hle, ?_, ⟨?_, ?_, ?_, ?_, H2.fresh⟩, K.ofFresh H.fresh k, ?_⟩
  · refine .tuple _ _ (.cons _ _ _ _ (.int _ _) (.cons _ _ _ _ (.iface _ _ _ ?_) .nil))
    exact .ptr top 0 ⟨N, 0, 1, 1⟩ (Ren.ext_same ..)
  · intro j o hj
    obtain ⟨M, m1, m2⟩ := H2.obj j o hj
    exact ⟨M, hle _ _ m1, m2.mono hle⟩
  · intro i j oi oj Li Lj hi hj hne hrw hLi hLj
    exact H2.sep i j oi oj Li Lj hi hj hne hrw (low _ _ _ hi hLi) (low _ _ _ hj hLj)
  · intro i o M hi hrw hM
    exact H2.mine i o M hi hrw (low _ _ _ hi hM)
  · intro j M hM
    by_cases e : j = top
    · subst e; rw [Ren.ext_same] at hM; cases hM; exact hN
    · have : φ j = some M := by simpa [Ren.ext, e] using hM
      exact H2.val j M this
  · intro j hj
    have : ¬ j = top := by omega
    simp only [Ren.ext, this, if_false]
    exact htop j (by omega)
theorem atoi_ok : ConOk Tryz.prog 48 conAtoi := by
  refine ⟨⟨_, fn48_ok.toFTOk⟩, fun args hp top hpre => ?_⟩
  match args, hpre with
  | [.string ⟨⟨s⟩⟩], ⟨hs, ⟨t1, a1, hp3⟩, ⟨t2, a2, hp4⟩⟩ =>
  intro φ own w args' ha H htop
  cases ha with
  | cons _ _ _ _ hx hl =>
  cases hx
  cases hl
  obtain ⟨v1, V1, c1⟩ := var_at H (by omega) hp3
  obtain ⟨v2, V2, c2⟩ := var_at H (by omega) hp4
  have i1 : v1 = .nilIface ∨ ∃ te pe, v1 = .iface te pe := by cases V1; exact .inr ⟨_, _, rfl⟩
  have i2 : v2 = .nilIface ∨ ∃ te pe, v2 = .iface te pe := by cases V2; exact .inr ⟨_, _, rfl⟩
  simp only [strOf_string]
  cases hr : Lib.atoiAll s with
  | ok v =>
    have ea : atoiV s top = (.tuple ⟨[.int .i64 v, .nilIface]⟩, [], top) := by simp only [atoiV, hr]
    refine (Tryz.strconv_Atoi_ok ⟨⟨s⟩⟩ (by show s.length ≤ _; omega) v hr w).mono ?_
    rintro e w' ⟨rfl, hw⟩
    have hb : Go.RowKit.Below w.heap.size w w' := by
      rcases hw with rfl | ⟨t, rfl⟩
      · exact Go.RowKit.Below.refl _ _
      · exact Lib.bytesWorld_below _ _ _
    have k := K.of_below hb
    refine ⟨(atoiV s top).1, hp.sets (atoiV s top).2.1, (atoiV s top).2.2, _, φ, rfl, ⟨rfl, rfl, rfl⟩, ?_⟩
    rw [ea]
    exact ⟨Ren.le_refl _, .tuple _ _ (.cons _ _ _ _ (.int _ _) (.cons _ _ _ _ .nili .nil)), H.stay k, K.ofFresh H.fresh k, htop⟩
  | «syntax» =>
    have ea : atoiV s top = (.tuple ⟨[.int .i64 0, .iface 155 (.pointer (some ⟨top, 0, none⟩))]⟩, [], top + 1) := by simp only [atoiV, hr]
    refine (Tryz.strconv_Atoi_syntax ⟨⟨s⟩⟩ (by show s.length ≤ _; omega) hr v1 w c1 i1).mono ?_
    rintro e w' ⟨N, rfl, h1, h2, hb⟩
    refine ⟨(atoiV s top).1, hp.sets (atoiV s top).2.1, (atoiV s top).2.2, _, φ.ext top ⟨N, 0, 1, 1⟩, rfl, ⟨rfl, rfl, rfl⟩, ?_⟩
    rw [ea]
    exact WOk.named H htop hb (Array.getElem?_eq_some_iff.1 h2).1
  | range =>
    have ea : atoiV s top = (.tuple ⟨[.int .i64 (Lib.atoiSat s), .iface 155 (.pointer (some ⟨top, 0, none⟩))]⟩, [], top + 1) := by simp only [atoiV, hr]
    refine (Tryz.strconv_Atoi_range ⟨⟨s⟩⟩ (by show s.length ≤ _; omega) hr v2 w c2 i2).mono ?_
    rintro e w' ⟨N, rfl, h1, h2, hb⟩
    refine ⟨(atoiV s top).1, hp.sets (atoiV s top).2.1, (atoiV s top).2.2, _, φ.ext top ⟨N, 0, 1, 1⟩, rfl, ⟨rfl, rfl, rfl⟩, ?_⟩
    rw [ea]
    exact WOk.named H htop hb (Array.getElem?_eq_some_iff.1 h2).1
def dig3 (u : Nat) : List UInt8 := if u < 10 then [UInt8.ofNat (48 + u)] else if u < 100 then [UInt8.ofNat (48 + u / 10), UInt8.ofNat (48 + u % 10)] else [UInt8.ofNat (48 + u / 100), UInt8.ofNat (48 + u / 10 % 10), UInt8.ofNat (48 + u % 10)]
theorem itoa_dig {u : Nat} (h : u < 1000) : Lib.itoa (u : Int) = dig3 u := by
  rw [Lib.itoa_nonneg]
  unfold dig3
  by_cases h1 : u < 10
  · rw [if_pos h1, dec_small h1]
  · rw [if_neg h1, dec_big h1]
    by_cases h2 : u < 100
    · rw [if_pos h2, dec_small (by omega)]; rfl
    · rw [if_neg h2, dec_big (u := u / 10) (by omega), dec_small (u := u / 10 / 10) (by omega), Nat.div_div_eq_div_mul]; rfl
theorem dig_atoi : ∀ u : Fin 257, Lib.atoiAll (dig3 u.val) = .ok (u.val : Int) := by decide +kernel
theorem dig_blank : ∀ u : Fin 257, (32 : UInt8) ∉ dig3 u.val := by decide +kernel
theorem dig_len {u : Nat} : (dig3 u).length ≤ 3 := by
  unfold dig3
  split
  · simp
  · split <;> simp
theorem num_of {x : Int} (h : 1 ≤ x ∧ x ≤ 256) : ∃ u : Nat, x = (u : Int) ∧ u < 257 ∧ Lib.itoa x = dig3 u := by
  obtain ⟨u, rfl⟩ := Int.eq_ofNat_of_zero_le (show 0 ≤ x by omega)
  exact ⟨u, rfl, by omega, itoa_dig (by omega)⟩
def spl : List UInt8 → List (List UInt8)
  | [] => [[]]
  | c :: r => if c = 32 then [] :: spl r else match spl r with
    | [] => [[c]]
    | h :: t => (c :: h) :: t
theorem spl_ne : ∀ s, spl s ≠ []
  | [] => by simp [spl]
  | c :: r => by
    unfold spl
    split
    · simp
    · split <;> simp
theorem splL_eq : ∀ s, splL s = spl s
  | [] => rfl
  | c :: r => by
    have ih : Lib.splitK [32] 0 (Lib.count r [32]) r = spl r := splL_eq r
    show Lib.splitK [32] 0 (Lib.count (c :: r) [32]) (c :: r) = _
    by_cases hc : c = 32
    · subst hc
      have hi : Lib.index ((32 : UInt8) :: r) [32] = 0 := by simp [Lib.index, List.isPrefixOf]
      rw [Lib.count_cons_eq, Nat.add_comm, Lib.splitK, hi]
      simp only [spl, if_true]
      have : ¬ ((0 : Int) == -1) = true := by decide
      rw [if_neg this]
      simp only [Int.toNat_zero, Nat.add_zero, List.take_zero, List.length_cons, List.length_nil, Nat.zero_add, List.drop_succ_cons, List.drop_zero, ih]
    · rw [Lib.count_cons_ne _ _ _ hc]
      have hp : ([32] : List UInt8).isPrefixOf (c :: r) = false := by
        have : ((32 : UInt8) == c) = false := by simpa using fun e => hc e.symm
        simp [List.isPrefixOf, this]
      have hsp : spl (c :: r) = match spl r with
        | [] => [[c]]
        | h :: t => (c :: h) :: t := by rw [spl, if_neg hc]
      rcases Lib.indexB_cases ⟨⟨r⟩⟩ ⟨⟨[32]⟩⟩ with hm | ⟨i, hi, hle⟩
      · have hm : Lib.index r [32] = -1 := hm
        have hm2 : Lib.index (c :: r) [32] = -1 := by simp [Lib.index, hp, hm]
        have h0 := Lib.count_miss hm
        rw [h0] at ih ⊢
        rw [hsp, ← ih]
        rfl
      · have hi : Lib.index r [32] = (i : Int) := hi
        have hi2 : Lib.index (c :: r) [32] = ((i + 1 : Nat) : Int) := by
          have h1 : ¬ ((i : Int) = -1) := by omega
          simp [Lib.index, hp, hi, h1]
        have hk := Lib.count_hit (sub := [32]) (by simp) hi
        rw [hk, Nat.add_comm 1] at ih ⊢
        rw [Lib.splitK] at ih ⊢
        rw [hi] at ih
        rw [hi2]
        have n1 : ¬ ((i : Int) == -1) = true := by simp
        have n2 : ¬ (((i + 1 : Nat) : Int) == -1) = true := by simp; omega
        rw [if_neg n1] at ih
        rw [if_neg n2, hsp, ← ih]
        simp only [Int.toNat_natCast, Nat.add_zero, List.take_succ_cons, List.length_cons, List.length_nil, Nat.zero_add, List.drop_succ_cons]
theorem join_spl : ∀ s, Lib.join (spl s) [32] = s
  | [] => by simp [spl, Lib.join_one]
  | c :: r => by
    have ih := join_spl r
    obtain ⟨h, t, e⟩ := List.exists_cons_of_ne_nil (spl_ne r)
    rw [e, Lib.join_cons] at ih
    unfold spl
    by_cases hc : c = 32
    · rw [if_pos hc, e, Lib.join_cons, hc]
      simp only [Lib.joinTail, List.map_cons, List.flatten_cons, List.nil_append, List.cons_append]
      rw [← ih]; simp [Lib.joinTail]
    · rw [if_neg hc, e]
      simp only
      rw [Lib.join_cons, List.cons_append, ih]
theorem spl_plain : ∀ {x : List UInt8}, (32 : UInt8) ∉ x → spl x = [x]
  | [], _ => rfl
  | c :: r, h => by
    have hc : ¬ c = 32 := fun e => h (by simp [e])
    have ih := spl_plain (x := r) (fun hm => h (List.mem_cons_of_mem _ hm))
    rw [spl, if_neg hc, ih]
theorem spl_app : ∀ {x z : List UInt8}, (32 : UInt8) ∉ x → spl (x ++ 32 :: z) = x :: spl z
  | [], z, _ => by simp [spl]
  | c :: r, z, h => by
    have hc : ¬ c = 32 := fun e => h (by simp [e])
    have ih := spl_app (x := r) (z := z) (fun hm => h (List.mem_cons_of_mem _ hm))
    rw [List.cons_append, spl, if_neg hc, ih]
theorem spl_join : ∀ {l : List (List UInt8)}, l ≠ [] → (∀ x ∈ l, (32 : UInt8) ∉ x) → spl (Lib.join l [32]) = l
  | [], h, _ => absurd rfl h
  | [x], _, h => by rw [Lib.join_one]; exact spl_plain (h x (by simp))
  | x :: y :: r, _, h => by
    have ih := spl_join (l := y :: r) (by simp) (fun z hz => h z (List.mem_cons_of_mem _ hz))
    have e : Lib.join (x :: y :: r) [32] = x ++ 32 :: Lib.join (y :: r) [32] := by
      rw [Lib.join_cons, Lib.join_cons]
      simp [Lib.joinTail]
    rw [e, spl_app (h x (by simp)), ih]
theorem filter_stop {p : Nat → Bool} {m : Nat} : ∀ d, (∀ j, m ≤ j → j < m + d → p j = false) → (List.range (m + d)).filter p = (List.range m).filter p
  | 0, _ => rfl
  | d + 1, h => by
    rw [← Nat.add_assoc, List.range_succ, List.filter_append, filter_stop d (fun j h1 h2 => h j h1 (by omega))]
    have := h (m + d) (by omega) (by omega)
    simp [this]
theorem ls_put {b : T_Bits} {k : Nat} (hk : k < 256) (h : ∀ j, k ≤ j → j < 256 → hasB b j = false) : lsB (putB b k) = lsB b ++ [(k : Int) + 1] := by
  unfold lsB lsN
  have e1 : (List.range 256).filter (hasB b) = (List.range k).filter (hasB b) := by
    have := filter_stop (p := hasB b) (m := k) (256 - k) (fun j h1 h2 => h j h1 (by omega))
    rwa [show k + (256 - k) = 256 from by omega] at this
  have e2 : (List.range 256).filter (hasB (putB b k)) = (List.range k).filter (hasB b) ++ [k] := by
    have := filter_stop (p := hasB (putB b k)) (m := k + 1) (256 - (k + 1)) (fun j h1 h2 => by
      rw [hasB_put hk (by omega), h j (by omega) (by omega)]
      have : ¬ j = k := by omega
      simp [this])
    rw [show k + 1 + (256 - (k + 1)) = 256 from by omega] at this
    rw [this, List.range_succ, List.filter_append]
    have e3 : (List.range k).filter (hasB (putB b k)) = (List.range k).filter (hasB b) := by
      refine List.filter_congr fun j hj => ?_
      have hj := List.mem_range.1 hj
      rw [hasB_put hk (by omega)]
      have : ¬ j = k := by omega
      simp [this]
    rw [e3]
    have : hasB (putB b k) k = true := by rw [hasB_put hk hk]; simp
    simp [this]
  rw [e1, e2, List.map_append]; rfl
theorem ls_put' {b : T_Bits} {n last : Int} (hn : rightB n = true) (hl : last < n) (h : ∀ x ∈ lsB b, x ≤ last) : lsB (putB b (n - 1).toNat) = lsB b ++ [n] := by
  simp only [rightB, Bool.and_eq_true, decide_eq_true_eq] at hn
  have e := ls_put (b := b) (k := (n - 1).toNat) (by omega) (fun j h1 h2 => by
    cases hb : hasB b j with
    | false => rfl
    | true =>
      have := h _ (ls_mem.2 ⟨j, h2, rfl, hb⟩)
      omega)
  rw [e]; congr 2; omega
theorem ls_inj {a b : T_Bits} (ha : OkB a) (hb : OkB b) (h : lsB a = lsB b) : a = b := by
  have key : ∀ {a b : T_Bits}, lsB a = lsB b → ∀ k, k < 256 → hasB a k = true → hasB b k = true := by
    intro a b h k hk hh
    have : (k : Int) + 1 ∈ lsB b := by rw [← h]; exact ls_mem.2 ⟨k, hk, rfl, hh⟩
    obtain ⟨j, j1, j2, j3⟩ := ls_mem.1 this
    have : j = k := by omega
    rw [← this]; exact j3
  refine has_ext ha hb fun k hk => ?_
  cases h1 : hasB a k with
  | true => rw [key h k hk h1]
  | false =>
    cases h2 : hasB b k with
    | false => rfl
    | true => rw [key h.symm k hk h2] at h1; cases h1
def pLoop : T_Bits → Int → List (List UInt8) → Option T_Bits
  | b, _, [] => some b
  | b, last, w :: r => match Lib.atoiAll w with
    | .ok n => if last < n ∧ rightB n = true ∧ Lib.itoa n = w then pLoop (putB b (n - 1).toNat) n r else none
    | _ => none
theorem pLoop_some : ∀ {ws : List (List UInt8)} {b b' : T_Bits} {last : Int}, OkB b → (∀ x ∈ lsB b, x ≤ last) → pLoop b last ws = some b' → OkB b' ∧ ∃ ns : List Int, lsB b' = lsB b ++ ns ∧ ns.map Lib.itoa = ws
  | [], b, b', last, hb, _, h => by
    cases h
    exact ⟨hb, [], by simp, rfl⟩
  | w :: r, b, b', last, hb, hl, h => by
    unfold pLoop at h
    split at h
    · rename_i n hn
      split at h
      · rename_i hc
        obtain ⟨h1, h2, h3⟩ := hc
        have e := ls_put' h2 h1 hl
        obtain ⟨k1, ns, k2, k3⟩ := pLoop_some (putB_ok hb) (fun x hx => by
          rw [e] at hx
          rcases List.mem_append.1 hx with h4 | h4
          · have := hl x h4; omega
          · simp at h4; omega) h
        refine ⟨k1, n :: ns, by rw [k2, e]; simp, by rw [List.map_cons, h3, k3]⟩
      · cases h
    · cases h
theorem pLoop_num : ∀ {l : List Int} {b : T_Bits} {last : Int}, OkB b → (∀ x ∈ lsB b, x ≤ last) → (∀ x ∈ l, last < x) → l.Pairwise (· < ·) → (∀ x ∈ l, 1 ≤ x ∧ x ≤ 256) → ∃ b', pLoop b last (l.map Lib.itoa) = some b' ∧ OkB b' ∧ lsB b' = lsB b ++ l
  | [], b, last, hb, _, _, _, _ => ⟨b, rfl, hb, by simp⟩
  | n :: l, b, last, hb, hl, hlt, hp, hr => by
    obtain ⟨h1, h2⟩ := hr n (by simp)
    obtain ⟨u, rfl, hu, he⟩ := num_of ⟨h1, h2⟩
    have ha : Lib.atoiAll (Lib.itoa (u : Int)) = .ok (u : Int) := by rw [he]; exact dig_atoi ⟨u, hu⟩
    have hrb : rightB (u : Int) = true := by simp [rightB]; omega
    have hlu := hlt _ (List.mem_cons_self ..)
    have e := ls_put' hrb hlu hl
    rw [List.pairwise_cons] at hp
    obtain ⟨b', k1, k2, k3⟩ := pLoop_num (l := l) (last := (u : Int)) (putB_ok hb) (fun x hx => by
      rw [e] at hx
      rcases List.mem_append.1 hx with h4 | h4
      · have := hl x h4; omega
      · simp at h4; omega) hp.1 hp.2 (fun x hx => hr x (List.mem_cons_of_mem _ hx))
    refine ⟨b', ?_, k2, by rw [k3, e]; simp⟩
    rw [List.map_cons, pLoop, ha]
    show (if last < (u : Int) ∧ rightB (u : Int) = true ∧ Lib.itoa (u : Int) = Lib.itoa (u : Int) then pLoop (putB b ((u : Int) - 1).toNat) (u : Int) (l.map Lib.itoa) else none) = some b'
    rw [if_pos ⟨hlu, hrb, rfl⟩]; exact k1
def rStep (x : T_Bits × Int) (c : UInt8) : T_Bits × Int := if (48 ≤ c.toNat ∧ c.toNat ≤ 57) ∧ x.2 ≤ 256 then (x.1, 10 * x.2 + ((c.toNat : Int) - 48)) else (if rightB x.2 then putB x.1 (x.2 - 1).toNat else x.1, 0)
def rEnd (x : T_Bits × Int) : T_Bits := if rightB x.2 then putB x.1 (x.2 - 1).toNat else x.1
def rB (s : List UInt8) : T_Bits := rEnd (s.foldl rStep (zb, 0))
theorem rStep_ok {x : T_Bits × Int} {c : UInt8} (h : OkB x.1) : OkB (rStep x c).1 := by
  unfold rStep
  split
  · exact h
  · simp only
    split
    · exact putB_ok h
    · exact h
theorem rFold_ok : ∀ (s : List UInt8) {x : T_Bits × Int}, OkB x.1 → OkB (s.foldl rStep x).1
  | [], _, h => h
  | c :: r, x, h => rFold_ok r (rStep_ok h)
theorem rB_ok (s : List UInt8) : OkB (rB s) := by
  have := rFold_ok s (x := (zb, 0)) zb_ok
  unfold rB rEnd
  split
  · exact putB_ok this
  · exact this
theorem rStep_dig {b : T_Bits} {n : Int} {d : Nat} (hd : d < 10) (hn : n ≤ 256) : rStep (b, n) (UInt8.ofNat (48 + d)) = (b, 10 * n + d) := by
  have e : (UInt8.ofNat (48 + d)).toNat = 48 + d := by simp; omega
  unfold rStep
  rw [e, if_pos ⟨⟨by omega, by omega⟩, hn⟩]
  simp only [Prod.mk.injEq, true_and]
  omega
theorem rStep_num {b : T_Bits} {u : Nat} (hu : u < 257) : (dig3 u).foldl rStep (b, 0) = (b, (u : Int)) := by
  unfold dig3
  by_cases h1 : u < 10
  · rw [if_pos h1]
    simp only [List.foldl_cons, List.foldl_nil]
    rw [rStep_dig h1 (by omega)]; simp
  · rw [if_neg h1]
    by_cases h2 : u < 100
    · rw [if_pos h2]
      simp only [List.foldl_cons, List.foldl_nil]
      rw [rStep_dig (d := u / 10) (by omega) (by omega), rStep_dig (d := u % 10) (by omega) (by omega)]
      simp only [Prod.mk.injEq, true_and]; omega
    · rw [if_neg h2]
      simp only [List.foldl_cons, List.foldl_nil]
      rw [rStep_dig (d := u / 100) (by omega) (by omega), rStep_dig (d := u / 10 % 10) (by omega) (by omega), rStep_dig (d := u % 10) (by omega) (by omega)]
      simp only [Prod.mk.injEq, true_and]; omega
theorem rStep_blank {b : T_Bits} {n : Int} : rStep (b, n) 32 = (rEnd (b, n), 0) := by
  unfold rStep
  rw [if_neg (by rintro ⟨⟨h1, _⟩, _⟩; exact absurd h1 (by decide))]; rfl
theorem rB_join : ∀ {l : List Int} {b : T_Bits} {last : Int}, l ≠ [] → OkB b → (∀ x ∈ lsB b, x ≤ last) → (∀ x ∈ l, last < x) → l.Pairwise (· < ·) → (∀ x ∈ l, 1 ≤ x ∧ x ≤ 256) →
    OkB (rEnd ((Lib.join (l.map Lib.itoa) [32]).foldl rStep (b, 0))) ∧ lsB (rEnd ((Lib.join (l.map Lib.itoa) [32]).foldl rStep (b, 0))) = lsB b ++ l
  | [], _, _, h, _, _, _, _, _ => absurd rfl h
  | n :: l, b, last, _, hb, hl, hlt, hp, hr => by
    obtain ⟨u, rfl, hu, he⟩ := num_of (hr n (by simp))
    have hrb : rightB (u : Int) = true := by have := hr _ (List.mem_cons_self ..); simp [rightB]; omega
    have hlu := hlt _ (List.mem_cons_self ..)
    have e := ls_put' hrb hlu hl
    have en : rEnd (b, (u : Int)) = putB b ((u : Int) - 1).toNat := if_pos hrb
    rw [List.pairwise_cons] at hp
    cases l with
    | nil =>
      rw [List.map_cons, List.map_nil, Lib.join_one, he, rStep_num hu, en]
      exact ⟨putB_ok hb, e⟩
    | cons m r =>
      have ej : Lib.join (((u : Int) :: m :: r).map Lib.itoa) [32] = dig3 u ++ 32 :: Lib.join ((m :: r).map Lib.itoa) [32] := by
        rw [List.map_cons, he, Lib.join_cons, List.map_cons, Lib.join_cons]
        simp [Lib.joinTail]
      rw [ej, List.foldl_append, rStep_num hu, List.foldl_cons, rStep_blank, en]
      obtain ⟨k1, k2⟩ := rB_join (l := m :: r) (last := (u : Int)) (by simp) (putB_ok (k := ((u : Int) - 1).toNat) hb) (fun x hx => by
        rw [e] at hx
        rcases List.mem_append.1 hx with h4 | h4
        · have := hl x h4; omega
        · simp at h4; omega) hp.1 hp.2 (fun x hx => hr x (List.mem_cons_of_mem _ hx))
      exact ⟨k1, by rw [k2, e]; simp⟩
theorem ls_ranges {b : T_Bits} : ∀ x ∈ lsB b, 1 ≤ x ∧ x ≤ 256 := by
  intro x hx
  obtain ⟨k, h1, h2, _⟩ := ls_mem.1 hx
  omega
/-- a bit string comes back from its text -/
theorem rB_text {b : T_Bits} (hb : OkB b) : rB (textN (lsB b)) = b := by
  by_cases h0 : (lsB b).length = 0
  · have e : lsB b = [] := List.eq_nil_of_length_eq_zero h0
    rw [ls_nil hb e, ls_zb]
    decide +kernel
  · have e : textN (lsB b) = Lib.join ((lsB b).map Lib.itoa) [32] := by unfold textN tk; rw [if_neg h0, List.take_length]
    have hne : lsB b ≠ [] := fun e => h0 (by rw [e]; rfl)
    obtain ⟨k1, k2⟩ := rB_join (l := lsB b) (b := zb) (last := 0) hne zb_ok (by rw [ls_zb]; simp) (fun x hx => by have := ls_ranges x hx; omega) ls_sorted ls_ranges
    rw [ls_zb, List.nil_append] at k2
    rw [e]
    exact ls_inj k1 hb k2
theorem text_len {b : T_Bits} : (textN (lsB b)).length ≤ 1024 := by
  have hk : ∀ k, k ≤ (lsB b).length → (tk (lsB b) k).length ≤ 4 * k := by
    intro k
    induction k with
    | zero => intro _; simp [tk, Lib.join_nil]
    | succ k ih =>
      intro h
      have ih := ih (by omega)
      obtain ⟨u, h1, h2, h3⟩ := num_of (ls_rng (b := b) (k := k) h)
      have := dig_len (u := u)
      rw [tk_succ h, List.length_append, h3]
      split
      · simp; omega
      · simp; omega
  have := ls_len (b := b)
  unfold textN
  split
  · simp
  · have := hk _ (Nat.le_refl _); omega
/-- what Parse answers -/
def parB (s : List UInt8) : T_Bits := if textN (lsB (rB s)) = s then rB s else zb
def parE (s : List UInt8) : Int := if textN (lsB (rB s)) = s then 0 else 4
def parV (s : List UInt8) : Value := .tuple ⟨[.agg ⟨bl (parB s)⟩, .int .i64 (parE s)]⟩
theorem par_text {b : T_Bits} (hb : OkB b) : parB (textN (lsB b)) = b ∧ parE (textN (lsB b)) = 0 := by
  have e := rB_text hb
  unfold parB parE
  rw [e, if_pos rfl, if_pos rfl]; exact ⟨rfl, rfl⟩
theorem par_dash : parB [45] = zb ∧ parE [45] = 0 := by
  have := par_text zb_ok
  rw [ls_zb] at this
  exact this
theorem par_some {s : List UInt8} {b : T_Bits} (h : pLoop zb 0 (spl s) = some b) : OkB b ∧ parB s = b ∧ parE s = 0 := by
  obtain ⟨k1, ns, k2, k3⟩ := pLoop_some zb_ok (by rw [ls_zb]; simp) h
  rw [ls_zb, List.nil_append] at k2
  have hne : ¬ ns.length = 0 := fun e => by
    rw [List.eq_nil_of_length_eq_zero e] at k3
    exact spl_ne s k3.symm
  have e : textN (lsB b) = s := by
    unfold textN tk
    rw [k2, if_neg hne, List.take_length, k3, join_spl]
  have := par_text k1
  rw [e] at this
  exact ⟨k1, this⟩
theorem par_none {s : List UInt8} (hs : s ≠ [45]) (h : pLoop zb 0 (spl s) = none) : parB s = zb ∧ parE s = 4 := by
  have hne : ¬ textN (lsB (rB s)) = s := by
    intro e
    by_cases h0 : (lsB (rB s)).length = 0
    · rw [textN, if_pos h0] at e
      exact hs e.symm
    · rw [textN, if_neg h0, tk, List.take_length] at e
      have hnn : (lsB (rB s)).map Lib.itoa ≠ [] := fun e => h0 (by have := congrArg List.length e; simpa using this)
      have es : spl s = (lsB (rB s)).map Lib.itoa := by
        conv => lhs; rw [← e]
        refine spl_join hnn fun x hx => ?_
        obtain ⟨y, hy, rfl⟩ := List.mem_map.1 hx
        obtain ⟨u, rfl, hu, he⟩ := num_of (ls_ranges y hy)
        rw [he]; exact dig_blank ⟨u, hu⟩
      obtain ⟨b', k1, _⟩ := pLoop_num (l := lsB (rB s)) (b := zb) (last := 0) zb_ok (by rw [ls_zb]; simp) (fun x hx => by have := ls_ranges x hx; omega) ls_sorted ls_ranges
      rw [es, k1] at h; cases h
  exact ⟨if_neg hne, if_neg hne⟩
end Go.Proofs.YthpibnpeaidabaaGreatDoor.Dm
