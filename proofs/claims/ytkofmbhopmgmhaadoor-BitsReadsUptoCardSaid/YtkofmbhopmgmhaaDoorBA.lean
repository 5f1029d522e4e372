/- strings.Split at a blank, strconv.Atoi: the library's contracts. -/
import Derived.Test.YtkofmbhopmgmhaaDoorBYW
import Derived.Test.YtkofmbhopmgmhaaDoorShelf2
set_option linter.unusedSimpArgs false
set_option linter.unusedVariables false
namespace Go.Proofs.YtkofmbhopmgmhaaDoor.Dm
open Go.Dm
set_option maxHeartbeats 4000000

/-- a variable of one cell: the program's variable g, whole -/
def varO (g : Nat) (v : Value) : AObj := .cells false (tabMark + 4096 + g) [v]
theorem var_at {φ : Ren} {own : Nat → Prop} {hp : Hp} {w : World} (H : HR φ own hp w) {i g : Nat} {v : Value} (hg : g < 4096) (h : hp i = some (varO g v)) : ∃ v', V φ v v' ∧ w.cell? ⟨g, 0, none⟩ = some v' := by
  obtain ⟨L, hL, he, c, t, fz, h1, h2, h3, h4, h5⟩ := H.obj _ _ h
  obtain ⟨h6, h7, h8⟩ := h5.2 rfl (by omega)
  have hb : L.blk = g := by omega
  have hm : L.lim = 1 := by omega
  rw [hb] at h1
  rw [h7, List.drop_zero] at h4
  cases h4' : c.toList with
  | nil => have : c.size = 0 := by rw [← Array.length_toList, h4']; rfl
           omega
  | cons x r =>
    rw [h4'] at h4
    cases h4 with
    | cons _ _ _ _ hx _ =>
      refine ⟨x, hx, ?_⟩
      have hc : c[0]? = some x := by rw [← Array.getElem?_toList, h4']; rfl
      simp [World.cell?, h1, hc]
/-! ### Split at blanks -/
def splL (s : List UInt8) : List (List UInt8) := Lib.split s [32]
def conSplit : Con := .det (fun args hp _ => match args with | [.string ⟨⟨s⟩⟩, .string ⟨⟨sep⟩⟩] => s.length < 4294967281 ∧ sep = [32] ∧ ∃ m, hp 2 = some (varO 4 (.int .i64 m)) | _ => False)
  (fun args _ top => match args with | [s, _] => (mkSl top (splL (strOf s)), [(top, mkOb e_string (splL (strOf s)))], top + 1) | _ => (undef, [], top))
theorem flat_str (l : List ByteArray) : e_string.flat (l.map (·.data.toList)) = l.map Value.string := by
  induction l with
  | nil => rfl
  | cons a l ih => rw [List.map_cons, Enc.flat_cons, ih]; rfl
theorem vs_str {φ : Ren} : ∀ l : List ByteArray, Vs φ (l.map Value.string) (l.map Value.string)
  | [] => .nil
  | a :: l => .cons _ _ _ _ (.str a) (vs_str l)
/-- a new row of texts -/
theorem newRow {φ : Ren} {own : Nat → Prop} {hp : Hp} {w : World} {top : Nat} (H : HR φ own hp w) (htop : ∀ j, top ≤ j → φ j = none) (l : List ByteArray) (t : TypeId) (hl : l ≠ []) :
    WOk φ own w (mkSl top (l.map (·.data.toList))) (hp.sets [(top, mkOb e_string (l.map (·.data.toList)))]) (top + 1) (.slice (some ⟨w.heap.size, 0, none⟩) l.length l.length) (w.alloc (.cells (l.map Value.string).toArray t)) (φ.ext top ⟨w.heap.size, 0, 1, l.length⟩) := by
  obtain ⟨x, r, rfl⟩ := List.exists_cons_of_ne_nil hl
  have hok : OkObj φ ⟨w.heap.size, 0, 1, (x :: r).length⟩ (.cells true 1 ((x :: r).map Value.string)) (some (.cells ((x :: r).map Value.string).toArray t)) := by
    refine ⟨rfl, _, t, (0, 0), rfl, by simp, by simp, ?_, ⟨fun _ => Nat.le_refl _, fun e => by cases e⟩⟩
    have e : ((((x :: r).map Value.string).toArray.toList.drop 0).take ((x :: r).map Value.string).length) = (x :: r).map Value.string := by
      rw [List.drop_zero, List.take_of_length_le (by simp)]
    rw [e]; exact vs_str _
  have hs : hp.sets [(top, mkOb e_string ((x :: r).map (·.data.toList)))] = hp.upd top (.cells true 1 ((x :: r).map Value.string)) := by
    have e : mkOb e_string ((x :: r).map (·.data.toList)) = some (.cells true 1 ((x :: r).map Value.string)) := by
      rw [← flat_str]; rfl
    rw [e]
    funext j
    simp only [sets_cons, sets_nil, Hp.set, Hp.upd]
  have HA := H.alloc top _ _ _ w.drawn (htop top (Nat.le_refl _)) rfl hok
  refine ⟨Ren.le_ext (htop top (Nat.le_refl _)), ?_, ?_, K.alloc own w _ w.drawn rfl, ?_⟩
  · have e : mkSl top ((x :: r).map (·.data.toList)) = .slice (some ⟨top, 0, none⟩) (x :: r).length (x :: r).length := by simp [mkSl]
    rw [e]
    have := V.slice (φ := φ.ext top ⟨w.heap.size, 0, 1, (x :: r).length⟩) top 0 (x :: r).length (x :: r).length (x :: r).length ⟨w.heap.size, 0, 1, (x :: r).length⟩ (Ren.ext_same ..) (Nat.le_refl _) (Nat.le_refl _) (by simp)
    exact this
  · rw [hs]; exact HA
  · intro j hj
    have : ¬ j = top := by omega
    simp only [Ren.ext, this, if_false]
    exact htop j (by omega)
theorem split_ok : ConOk Tryd.prog 56 conSplit := by
  refine ⟨⟨_, fn56_ok.toFTOk⟩, fun args hp top hpre => ?_⟩
  match args, hpre with
  | [.string ⟨⟨s⟩⟩, .string ⟨⟨sep⟩⟩], ⟨hs, hsep, m, hm⟩ =>
  subst hsep
  intro φ own w args' ha H htop
  cases ha with
  | cons _ _ _ _ hx hl =>
  cases hx
  cases hl with
  | cons _ _ _ _ hx hl =>
  cases hx
  cases hl
  obtain ⟨v', hv, hc⟩ := var_at H (by omega) hm
  cases hv
  refine (Tryd.strings_Split ⟨⟨s⟩⟩ ⟨⟨[32]⟩⟩ m w hs hc (by decide)).mono ?_
  rintro e w' ⟨rfl, rfl⟩
  have hlen := Lib.splitB_all ⟨⟨[32]⟩⟩ (by decide) 0 _ (⟨⟨s⟩⟩ : ByteArray) rfl
  have hd := Lib.splitB_data ⟨⟨[32]⟩⟩ 0 (Lib.countB ⟨⟨s⟩⟩ ⟨⟨[32]⟩⟩) (⟨⟨s⟩⟩ : ByteArray)
  have hd2 : (Lib.splitB ⟨⟨[32]⟩⟩ 0 (Lib.countB ⟨⟨s⟩⟩ ⟨⟨[32]⟩⟩) ⟨⟨s⟩⟩).map (·.data.toList) = splL s := hd
  rw [← hlen]
  generalize Lib.splitB ⟨⟨[32]⟩⟩ 0 (Lib.countB ⟨⟨s⟩⟩ ⟨⟨[32]⟩⟩) ⟨⟨s⟩⟩ = l at hlen hd2
  refine ⟨mkSl top (splL s), hp.sets [(top, mkOb e_string (splL s))], top + 1, _, φ.ext top ⟨w.heap.size, 0, 1, l.length⟩, rfl, ⟨rfl, rfl, rfl⟩, ?_⟩
  rw [← hd2]
  exact newRow H htop l 9 (by intro h; rw [h] at hlen; simp at hlen)
/-! ### Atoi -/
def atoiV (s : List UInt8) (top : Nat) : Value × Upds × Nat := match Lib.atoiAll s with
  | .ok v => (.tuple ⟨[.int .i64 v, .nilIface]⟩, [], top)
  | .syntax => (.tuple ⟨[.int .i64 0, .iface 80 (.pointer (some ⟨top, 0, none⟩))]⟩, [], top + 1)
  | .range => (.tuple ⟨[.int .i64 (Lib.atoiSat s), .iface 80 (.pointer (some ⟨top, 0, none⟩))]⟩, [], top + 1)
def conAtoi : Con := .det (fun args hp _ => match args with | [.string ⟨⟨s⟩⟩] => s.length ≤ 281474976710656 ∧ (∃ t a, hp 4 = some (varO 1 (.iface t a))) ∧ (∃ t a, hp 6 = some (varO 2 (.iface t a))) | _ => False)
  (fun args _ top => match args with | [s] => atoiV (strOf s) top | _ => (undef, [], top))
theorem WOk.named {φ : Ren} {own : Nat → Prop} {hp : Hp} {w w' : World} {top N : Nat} {n : Int} {t : TypeId} (H : HR φ own hp w) (htop : ∀ j, top ≤ j → φ j = none) (hb : Go.RowKit.Below w.heap.size w w') (hN : N < w'.heap.size) :
    WOk φ own w (.tuple ⟨[.int .i64 n, .iface t (.pointer (some ⟨top, 0, none⟩))]⟩) hp (top + 1) (.tuple ⟨[.int .i64 n, .iface t (.pointer (some ⟨N, 0, none⟩))]⟩) w' (φ.ext top ⟨N, 0, 1, 1⟩) := by
  have k := K.of_below hb
  have H2 := H.stay k
  have hle := Ren.le_ext (L := ⟨N, 0, 1, 1⟩) (htop top (Nat.le_refl _))
  have low : ∀ j o M, hp j = some o → φ.ext top ⟨N, 0, 1, 1⟩ j = some M → φ j = some M := by
    intro j o M hj hM
    have : j < top := H.lt htop hj
    have hne : ¬ j = top := by omega
    simpa [Ren.ext, hne] using hM
  refine ⟨hle, ?_, ⟨?_, ?_, ?_, ?_, H2.fresh⟩, K.ofFresh H.fresh k, ?_⟩
  · refine .tuple _ _ (.cons _ _ _ _ (.int _ _) (.cons _ _ _ _ (.iface _ _ _ ?_) .nil))
    exact .ptr top 0 ⟨N, 0, 1, 1⟩ (Ren.ext_same ..)
  · intro j o hj
    obtain ⟨M, m1, m2⟩ := H2.obj j o hj
    exact ⟨M, hle _ _ m1, m2.mono hle⟩
  · intro i j oi oj Li Lj hi hj hne hrw hLi hLj
    exact H2.sep i j oi oj Li Lj hi hj hne hrw (low _ _ _ hi hLi) (low _ _ _ hj hLj)
  · intro i o M hi hrw hM
    exact H2.mine i o M hi hrw (low _ _ _ hi hM)
  · intro j M hM
    by_cases e : j = top
    · subst e; rw [Ren.ext_same] at hM; cases hM; exact hN
    · have : φ j = some M := by simpa [Ren.ext, e] using hM
      exact H2.val j M this
  · intro j hj
    have : ¬ j = top := by omega
    simp only [Ren.ext, this, if_false]
    exact htop j (by omega)
theorem atoi_ok : ConOk Tryd.prog 57 conAtoi := by
  refine ⟨⟨_, fn57_ok.toFTOk⟩, fun args hp top hpre => ?_⟩
  match args, hpre with
  | [.string ⟨⟨s⟩⟩], ⟨hs, ⟨t1, a1, hp3⟩, ⟨t2, a2, hp4⟩⟩ =>
  intro φ own w args' ha H htop
  cases ha with
  | cons _ _ _ _ hx hl =>
  cases hx
  cases hl
  obtain ⟨v1, V1, c1⟩ := var_at H (by omega) hp3
  obtain ⟨v2, V2, c2⟩ := var_at H (by omega) hp4
  have i1 : v1 = .nilIface ∨ ∃ te pe, v1 = .iface te pe := by cases V1; exact .inr ⟨_, _, rfl⟩
  have i2 : v2 = .nilIface ∨ ∃ te pe, v2 = .iface te pe := by cases V2; exact .inr ⟨_, _, rfl⟩
  simp only [strOf_string]
  cases hr : Lib.atoiAll s with
  | ok v =>
    have ea : atoiV s top = (.tuple ⟨[.int .i64 v, .nilIface]⟩, [], top) := by simp only [atoiV, hr]
    refine (Tryd.strconv_Atoi_ok ⟨⟨s⟩⟩ (by show s.length ≤ _; omega) v hr w).mono ?_
    rintro e w' ⟨rfl, hw⟩
    have hb : Go.RowKit.Below w.heap.size w w' := by
      rcases hw with rfl | ⟨t, rfl⟩
      · exact Go.RowKit.Below.refl _ _
      · exact Lib.bytesWorld_below _ _ _
    have k := K.of_below hb
    refine ⟨(atoiV s top).1, hp.sets (atoiV s top).2.1, (atoiV s top).2.2, _, φ, rfl, ⟨rfl, rfl, rfl⟩, ?_⟩
    rw [ea]
    exact ⟨Ren.le_refl _, .tuple _ _ (.cons _ _ _ _ (.int _ _) (.cons _ _ _ _ .nili .nil)), H.stay k, K.ofFresh H.fresh k, htop⟩
  | «syntax» =>
    have ea : atoiV s top = (.tuple ⟨[.int .i64 0, .iface 80 (.pointer (some ⟨top, 0, none⟩))]⟩, [], top + 1) := by simp only [atoiV, hr]
    refine (Tryd.strconv_Atoi_syntax ⟨⟨s⟩⟩ (by show s.length ≤ _; omega) hr v1 w c1 i1).mono ?_
    rintro e w' ⟨N, rfl, h1, h2, hb⟩
    refine ⟨(atoiV s top).1, hp.sets (atoiV s top).2.1, (atoiV s top).2.2, _, φ.ext top ⟨N, 0, 1, 1⟩, rfl, ⟨rfl, rfl, rfl⟩, ?_⟩
    rw [ea]
    exact WOk.named H htop hb (Array.getElem?_eq_some_iff.1 h2).1
  | range =>
    have ea : atoiV s top = (.tuple ⟨[.int .i64 (Lib.atoiSat s), .iface 80 (.pointer (some ⟨top, 0, none⟩))]⟩, [], top + 1) := by simp only [atoiV, hr]
    refine (Tryd.strconv_Atoi_range ⟨⟨s⟩⟩ (by show s.length ≤ _; omega) hr v2 w c2 i2).mono ?_
    rintro e w' ⟨N, rfl, h1, h2, hb⟩
    refine ⟨(atoiV s top).1, hp.sets (atoiV s top).2.1, (atoiV s top).2.2, _, φ.ext top ⟨N, 0, 1, 1⟩, rfl, ⟨rfl, rfl, rfl⟩, ?_⟩
    rw [ea]
    exact WOk.named H htop hb (Array.getElem?_eq_some_iff.1 h2).1
end Go.Proofs.YtkofmbhopmgmhaaDoor.Dm
