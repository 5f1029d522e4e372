/- Texts of the library and of the layers below: turned from the trace chapter by sport.py. -/
import Derived.Test.YthlhnangbinhoaaGreatDoorDmK
import Derived.Test.YthlhnangbinhoaaGreatDoorDmJ
import Derived.Test.YthlhnangbinhoaaGreatDoorDmX
import Derived.Test.YthlhnangbinhoaaGreatDoorShelf
import Derived.Lib.ItoaLen
import Derived.Lib.ItoaMem
import Derived.Shelf.Spec.TrailingZeros
import Derived.Lib.Split
import Derived.Lib.IndexMore
set_option linter.unusedVariables false
namespace Go.Proofs.YthlhnangbinhoaaGreatDoor.Dm
open Go.Dm
set_option maxHeartbeats 16000000
set_option maxRecDepth 100000
def Jq (k : IntKind) (l : List Nat) : List Value := l.map fun n : Nat => Value.int k ((n : Nat) : Int)
def xX (g : Nat) (k : IntKind) (l : List Nat) : A7 := .cells false (Bc + 4096 * l.length + g) (Jq k l)
theorem Zo {φ : Ren} {k : IntKind} : ∀ {l : List Nat} {m : List Value}, Vs φ (Jq k l) m → m = Jq k l
  | [], _, h => by cases h; rfl
  | n :: l, _, h => by
    cases h with
    | cons _ x _ m hx hm =>
      cases hx
      rw [Zo (l := l) hm]; rfl
theorem uj {φ : Ren} {own : Nat → Prop} {hp : Hp} {w : World} (H : HR φ own hp w) {i g : Nat} {k : IntKind} {l : List Nat} (hg : g < 4096) (h : hp i = some (xX g k l)) : ∃ ct cf, w.heap[g]? = some (.cells (Jq k l).toArray ct cf) := by
  obtain ⟨L, hL, he, c, t, fz, h1, h2, h3, h4, h5⟩ := H.obj _ _ h
  obtain ⟨h6, h7, h8⟩ := h5.2.1 rfl (by omega)
  have hlen : (Jq k l).length = l.length := by simp [Jq]
  have hb : L.Bi = g := by omega
  have hm : L.Pb = l.length := by omega
  rw [hb] at h1
  refine ⟨t, fz, ?_⟩
  rw [h1]
  have hv := Zo h4
  rw [h7, List.drop_zero, hlen, ← hm, ← h2] at hv
  have e : c.toList.take c.size = c.toList := List.take_of_length_le (by simp)
  rw [e] at hv
  congr 2
  rw [← hv]
theorem K.Q8 {w w' : World} (h : Go.RowKit.Below w.heap.size w w') : K (fun b => w.heap.size ≤ b) w w' := ⟨h.size, fun b hb _ => h.block b hb, h.os, h.tape, h.output⟩
theorem AR.OJ {P : Program} {f : FuncId} {args : List Value} {hp : Hp} {top : Nat} {r : Value} (hr : plain 3 r = true)
    (h : ∀ φ own w args', Vs φ args args' → HR φ own hp w → Calls P f ⟨args'⟩ w fun e w' => e = .returned r ∧ Go.RowKit.Below w.heap.size w w') : AR P f args hp top fun v hp' top' => v = r ∧ hp' = hp ∧ top' = top := by
  intro φ own w args' ha H htop
  refine (h φ own w args' ha H).mono ?_
  rintro e w' ⟨rfl, hb⟩
  have k := K.Q8 hb
  exact ⟨r, hp, top, r, φ, rfl, ⟨rfl, rfl, rfl⟩, ⟨Ren.le_refl _, DL _ _ hr, H.stay k, K.VU H.fresh k, htop⟩⟩
def tzO : A7 := xX 6 .u8 Lib.deBruijn64tab
def U64 (n : Int) : Prop := 0 ≤ n ∧ n < 18446744073709551616
def Va : List Nat := (List.range 20).map fun i => 10 ^ i
def Tw : A7 := xX 2 .u64 Va
theorem Ui {φ : Ren} {own : Nat → Prop} {hp : Hp} {w : World} (H : HR φ own hp w) (h : hp 1 = some Tw) : Lib.TabIs Tryz.prog w "internal/strconv.uint64pow10" .u64 Lib.pow10Tab := by
  obtain ⟨ct, cf, hc⟩ := uj H (by omega) h
  have hg : Tryz.prog.globalNamed "internal/strconv.uint64pow10" = some 2 := by kernel_rfl
  unfold Lib.TabIs World.var?
  rw [hg]
  simp only [Option.bind_some, hc]
  congr 2
def Pz : Bb := .pure (fun args hp => match args with | [v, .string ⟨⟨sep⟩⟩] => GQ AE hp v ∧ (AE.rd hp v).length ≤ 140737488355328 ∧ (Lib.join (AE.rd hp v) sep).length ≤ 140737488355328 | _ => False)
  (fun args hp => match args with | [v, s] => .string ⟨⟨Lib.join (AE.rd hp v) (strOf s)⟩⟩ | _ => undef)
theorem np : A0 Tryz.prog 44 Pz := by
  refine ⟨⟨_, bS.toFTOk⟩, fun args hp hpre top => ?_⟩
  match args, hpre with
  | [v, .string ⟨⟨sep⟩⟩], ⟨⟨l, h⟩, h1, h2⟩ =>
  rw [h.rd] at h1 h2
  simp only [h.rd, AH]
  refine AR.OJ rfl fun φ own w args' ha H => ?_
  cases ha with
  | cons _ v' _ _ hx hl =>
  cases hl with
  | cons _ s' _ _ hs hl =>
  cases hs
  cases hl
  cases h with
  | nils =>
    cases hx
    refine (Tryz.strings_Join_none none 0 ⟨⟨sep⟩⟩ w).mono ?_
    rintro e w' ⟨rfl, rfl⟩
    exact ⟨rfl, Go.RowKit.Below.refl _ _⟩
  | emp =>
    cases hx with
    | emp a' c' =>
      refine (Tryz.strings_Join_none (some a') c' ⟨⟨sep⟩⟩ w).mono ?_
      rintro e w' ⟨rfl, rfl⟩
      exact ⟨rfl, Go.RowKit.Below.refl _ _⟩
  | rows b o c rw vs l hb hv ho hc hn =>
    cases hx with
    | slice _ _ _ _ c' L hL hn' hc' hl' =>
      obtain ⟨L', hL', hok⟩ := H.obj _ _ hb
      rw [hL] at hL'; cases hL'
      obtain ⟨_, cc, ty, fz, hg, hsz, hlim, hvs, _⟩ := hok
      obtain ⟨xs, hxs⟩ : ∃ xs : List ByteArray, xs = l.map fun x => ⟨⟨x⟩⟩ := ⟨_, rfl⟩
      have hxl : xs.length = l.length := by rw [hxs]; simp
      have hxd : xs.map (·.data.toList) = l := by rw [hxs, List.map_map]; simp [Function.comp_def]
      have hsz1 : AE.size = 1 := rfl
      have hcell : ∀ (j : Nat) x, xs[j]? = some x → w.cell? ⟨L.Bi, L.off + o + j, none⟩ = some (.string x) := by
        intro j x hj
        have hjl : j < l.length := by
          rw [← hxl]
          rcases Nat.lt_or_ge j xs.length with h | h
          · exact h
          · rw [List.getElem?_eq_none h] at hj; cases hj
        have h3 : (AE.flat l)[j]? = some (.string x) := by
          rw [hxs, List.getElem?_map] at hj
          have : AE.flat l = l.map fun x => Value.string ⟨⟨x⟩⟩ := by
            clear hj hv ho hc hn hn' hl' hjl hxl hxd hxs h1 h2
            induction l with
            | nil => rfl
            | cons a l ih => rw [B8.DH, ih]; rfl
          rw [this, List.getElem?_map]
          cases hl : l[j]? with
          | none => rw [hl] at hj; cases hj
          | some y => rw [hl] at hj; cases hj; rfl
        rw [← hv] at h3
        rw [List.getElem?_take, hsz1, Nat.mul_one, if_pos hjl, List.getElem?_drop] at h3
        obtain ⟨x', h4, h5⟩ := hvs.get h3
        have h6 := h5.Nr
        subst h6
        have hlt : o + j < vs.length := by
          rcases Nat.lt_or_ge (o + j) vs.length with h | h
          · exact h
          · rw [List.getElem?_eq_none h] at h3; cases h3
        rw [List.getElem?_take, if_pos hlt, List.getElem?_drop] at h4
        simp only [World.cell?, hg]
        rw [Nat.add_assoc]
        simpa using h4
      have := Tryz.strings_Join L.Bi (L.off + o) c' xs ⟨⟨sep⟩⟩ w hcell (H.val _ _ hL) (by rw [hxl]; exact h1) (by rw [hxl]; omega) (by rw [hxd]; exact h2)
      rw [hxl, hxd] at this
      refine this.mono ?_
      rintro e w' ⟨rfl, hbw⟩
      exact ⟨rfl, hbw⟩
theorem wrap_u64 {n : Int} (h : 0 ≤ n) (h2 : n < 18446744073709551616) : Ap .u64 n = n := Gg (by simpa [IntKind.signed, IntKind.bits] using h) (by simpa [IntKind.signed, IntKind.bits] using h2)
def G0 : FuncId → Bb := fun _ => .none
theorem SF : CQ Tryz.prog tt.get G0 := ⟨BA, fun _ => trivial⟩
theorem Ee {a b : Bool} (h : a = true ↔ b = true) : Value.bool a = Value.bool b := by rw [Bool.eq_iff_iff.2 h]
theorem ZT {s d : TypeId} {k1 k2 : IntKind} {hp : Hp} {x : Value} (h1 : kindOf tt.get s = some (.int k1)) (h2 : kindOf tt.get d = some (.int k2)) : CU tt.get hp s d x = (.int k2 (Ap k2 (intOf x)), SD x) := by
  simp [CU, h1, QF, h2]
mutual
theorem ABo {n m : Nat} (hm : n ≤ m) : ∀ {v : Value}, Sc n v → Sc m v
  | .bool _, _ => trivial
  | .int _ _, _ => trivial
  | .float _ _, _ => trivial
  | .complex _ _ _, _ => trivial
  | .string _, _ => trivial
  | .pointer none, _ => trivial
  | .pointer (some ⟨_, _, _⟩), h => Nat.lt_of_lt_of_le h hm
  | .slice none _ _, _ => trivial
  | .slice (some ⟨_, _, none⟩) _ _, h => Nat.lt_of_lt_of_le h hm
  | .slice (some ⟨_, _, some _⟩) _ _, _ => trivial
  | .map none, _ => trivial
  | .map (some _), h => Nat.lt_of_lt_of_le h hm
  | .chan _, _ => trivial
  | .func _ ⟨_⟩ ⟨_⟩, h => ⟨X6 hm h.1, X6 hm h.2⟩
  | .nilFunc, _ => trivial
  | .iface _ v, h => ABo (v := v) hm h
  | .nilIface, _ => trivial
  | .agg ⟨l⟩, h => X6 (l := l) hm h
  | .tuple ⟨l⟩, h => X6 (l := l) hm h
theorem X6 {n m : Nat} (hm : n ≤ m) : ∀ {l : List Value}, PB n l → PB m l
  | [], _ => trivial
  | _ :: _, h => ⟨ABo hm h.1, X6 hm h.2⟩
end
theorem Pv {α : Type} [Inhabited α] {l : List α} {k : Nat} (h : k < l.length) : l.drop k = at' l k :: l.drop (k + 1) := by rw [CO _ _ h]; exact List.drop_eq_getElem_cons h
theorem Ko {l : List UInt8} : Xl l l = true := by rw [OW]; simp
theorem Fp {u : Nat} (h : u < 10) : Lib.decDigits u = [UInt8.ofNat (48 + u)] := by rw [Lib.decDigits, dif_pos h]
theorem K4 {u : Nat} (h : ¬ u < 10) : Lib.decDigits u = Lib.decDigits (u / 10) ++ [UInt8.ofNat (48 + u % 10)] := by rw [Lib.decDigits, dif_neg h]
theorem TV {sep x : List UInt8} {xs : List (List UInt8)} : Lib.join (xs ++ [x]) sep = if xs.length = 0 then x else Lib.join xs sep ++ sep ++ x := by
  cases xs with
  | nil => simp [Lib.join_one]
  | cons y r =>
    rw [List.cons_append, Lib.join_cons, Lib.join_cons]
    simp [Lib.joinTail, List.append_assoc]
def Ph (g : Nat) (v : Value) : A7 := .cells false (Bc + 4096 + g) [v]
theorem U1 {φ : Ren} {own : Nat → Prop} {hp : Hp} {w : World} (H : HR φ own hp w) {i g : Nat} {v : Value} (hg : g < 4096) (h : hp i = some (Ph g v)) : ∃ v', V φ v v' ∧ w.cell? ⟨g, 0, none⟩ = some v' := by
  obtain ⟨L, hL, he, c, t, fz, h1, h2, h3, h4, h5⟩ := H.obj _ _ h
  obtain ⟨h6, h7, h8⟩ := h5.2.1 rfl (by omega)
  have hb : L.Bi = g := by omega
  have hm : L.Pb = 1 := by omega
  rw [hb] at h1
  rw [h7, List.drop_zero] at h4
  cases h4' : c.toList with
  | nil => have : c.size = 0 := by rw [← Array.length_toList, h4']; rfl
           omega
  | cons x r =>
    rw [h4'] at h4
    cases h4 with
    | cons _ _ _ _ hx _ =>
      refine ⟨x, hx, ?_⟩
      have hc : c[0]? = some x := by rw [← Array.getElem?_toList, h4']; rfl
      simp [World.cell?, h1, hc]
def cb (s : List UInt8) : List (List UInt8) := Lib.split s [32]
def Aj : Bb := .det (fun args hp _ => match args with | [.string ⟨⟨s⟩⟩, .string ⟨⟨sep⟩⟩] => s.length < 4294967281 ∧ sep = [32] ∧ ∃ m, hp 2 = some (Ph 1 (.int .i64 m)) | _ => False)
  (fun args _ top => match args with | [s, _] => (AA top (cb (strOf s)), [(top, AD AE (cb (strOf s)))], top + 1) | _ => (undef, [], top))
theorem nG (l : List ByteArray) : AE.flat (l.map (·.data.toList)) = l.map Value.string := by
  induction l with
  | nil => rfl
  | cons a l ih => rw [List.map_cons, B8.DH, ih]; rfl
theorem jV {φ : Ren} : ∀ l : List ByteArray, Vs φ (l.map Value.string) (l.map Value.string)
  | [] => .nil
  | a :: l => .cons _ _ _ _ (.str a) (jV l)
theorem newRow {φ : Ren} {own : Nat → Prop} {hp : Hp} {w : World} {top : Nat} (H : HR φ own hp w) (htop : ∀ j, top ≤ j → φ j = none) (l : List ByteArray) (t : TypeId) (hl : l ≠ []) :
    E9 φ own w (AA top (l.map (·.data.toList))) (hp.Av [(top, AD AE (l.map (·.data.toList)))]) (top + 1) (.slice (some ⟨w.heap.size, 0, none⟩) l.length l.length) (w.alloc (.cells (l.map Value.string).toArray t)) (φ.ext top ⟨w.heap.size, 0, 1, l.length⟩) := by
  obtain ⟨x, r, rfl⟩ := List.exists_cons_of_ne_nil hl
  have hok : ET φ ⟨w.heap.size, 0, 1, (x :: r).length⟩ (.cells true 1 ((x :: r).map Value.string)) (some (.cells ((x :: r).map Value.string).toArray t)) := by
    refine ⟨rfl, _, t, (0, 0), rfl, by simp, by simp, ?_, ⟨fun _ => Nat.le_refl _, (fun e => by cases e), fun _ h => absurd h (by decide)⟩⟩
    have e : ((((x :: r).map Value.string).toArray.toList.drop 0).take ((x :: r).map Value.string).length) = (x :: r).map Value.string := by
      rw [List.drop_zero, List.take_of_length_le (by simp)]
    rw [e]; exact jV _
  have hs : hp.Av [(top, AD AE ((x :: r).map (·.data.toList)))] = hp.I5 top (.cells true 1 ((x :: r).map Value.string)) := by
    have e : AD AE ((x :: r).map (·.data.toList)) = some (.cells true 1 ((x :: r).map Value.string)) := by
      rw [← nG]; rfl
    rw [e]
    funext j
    simp only [Bt, CG, Hp.set, Hp.I5]
  have HA := H.alloc top _ _ _ w.drawn (htop top (Nat.le_refl _)) rfl hok
  refine ⟨Ren.EM (htop top (Nat.le_refl _)), ?_, ?_, K.alloc own w _ w.drawn rfl, ?_⟩
  · have e : AA top ((x :: r).map (·.data.toList)) = .slice (some ⟨top, 0, none⟩) (x :: r).length (x :: r).length := by simp [AA]
    rw [e]
    have := V.slice (φ := φ.ext top ⟨w.heap.size, 0, 1, (x :: r).length⟩) top 0 (x :: r).length (x :: r).length (x :: r).length ⟨w.heap.size, 0, 1, (x :: r).length⟩ (Ren.BE ..) (Nat.le_refl _) (Nat.le_refl _) (by simp)
    exact this
  · rw [hs]; exact HA
  · intro j hj
    have : ¬ j = top := by omega
    simp only [Ren.ext, this, if_false]
    exact htop j (by omega)
theorem jX : A0 Tryz.prog 73 Aj := by
  refine ⟨⟨_, bI.toFTOk⟩, fun args hp top hpre => ?_⟩
  match args, hpre with
  | [.string ⟨⟨s⟩⟩, .string ⟨⟨sep⟩⟩], ⟨hs, hsep, m, hm⟩ =>
  subst hsep
  intro φ own w args' ha H htop
  cases ha with
  | cons _ _ _ _ hx hl =>
  cases hx
  cases hl with
  | cons _ _ _ _ hx hl =>
  cases hx
  cases hl
  obtain ⟨v', hv, hc⟩ := U1 H (by omega) hm
  cases hv
  refine (Tryz.strings_Split ⟨⟨s⟩⟩ ⟨⟨[32]⟩⟩ m w hs hc (by decide)).mono ?_
  rintro e w' ⟨rfl, rfl⟩
  have hlen := Lib.splitB_all ⟨⟨[32]⟩⟩ (by decide) 0 _ (⟨⟨s⟩⟩ : ByteArray) rfl
  have hd := Lib.splitB_data ⟨⟨[32]⟩⟩ 0 (Lib.countB ⟨⟨s⟩⟩ ⟨⟨[32]⟩⟩) (⟨⟨s⟩⟩ : ByteArray)
  have hd2 : (Lib.splitB ⟨⟨[32]⟩⟩ 0 (Lib.countB ⟨⟨s⟩⟩ ⟨⟨[32]⟩⟩) ⟨⟨s⟩⟩).map (·.data.toList) = cb s := hd
  rw [← hlen]
  generalize Lib.splitB ⟨⟨[32]⟩⟩ 0 (Lib.countB ⟨⟨s⟩⟩ ⟨⟨[32]⟩⟩) ⟨⟨s⟩⟩ = l at hlen hd2
  refine ⟨AA top (cb s), hp.Av [(top, AD AE (cb s))], top + 1, _, φ.ext top ⟨w.heap.size, 0, 1, l.length⟩, rfl, ⟨rfl, rfl, rfl⟩, ?_⟩
  rw [← hd2]
  exact newRow H htop l 9 (by intro h; rw [h] at hlen; simp at hlen)
theorem E9.named {φ : Ren} {own : Nat → Prop} {hp : Hp} {w w' : World} {top N : Nat} {n : Int} {t : TypeId} (H : HR φ own hp w) (htop : ∀ j, top ≤ j → φ j = none) (hb : Go.RowKit.Below w.heap.size w w') (hN : N < w'.heap.size) :
    E9 φ own w (.tuple ⟨[.int .i64 n, .iface t (.pointer (some ⟨top, 0, none⟩))]⟩) hp (top + 1) (.tuple ⟨[.int .i64 n, .iface t (.pointer (some ⟨N, 0, none⟩))]⟩) w' (φ.ext top ⟨N, 0, 1, 1⟩) := by
  have k := K.Q8 hb
  have H2 := H.stay k
  have hle := Ren.EM (L := ⟨N, 0, 1, 1⟩) (htop top (Nat.le_refl _))
  have low : ∀ j o M, hp j = some o → φ.ext top ⟨N, 0, 1, 1⟩ j = some M → φ j = some M := by
    intro j o M hj hM
    have : j < top := H.lt htop hj
    have hne : ¬ j = top := by omega
    simpa [Ren.ext, hne] using hM
  refine ⟨hle, ?_, ⟨?_, ?_, ?_, ?_, H2.fresh⟩, K.VU H.fresh k, ?_⟩
  · refine .tuple _ _ (.cons _ _ _ _ (.int _ _) (.cons _ _ _ _ (.iface _ _ _ ?_) .nil))
    exact .ptr top 0 ⟨N, 0, 1, 1⟩ (Ren.BE ..)
  · intro j o hj
    obtain ⟨M, m1, m2⟩ := H2.obj j o hj
    exact ⟨M, hle _ _ m1, m2.mono hle⟩
  · intro i j oi oj Li Lj hi hj hne hrw hLi hLj
    exact H2.sep i j oi oj Li Lj hi hj hne hrw (low _ _ _ hi hLi) (low _ _ _ hj hLj)
  · intro i o M hi hrw hM
    exact H2.D8 i o M hi hrw (low _ _ _ hi hM)
  · intro j M hM
    by_cases e : j = top
    · subst e; rw [Ren.BE] at hM; cases hM; exact hN
    · have : φ j = some M := by simpa [Ren.ext, e] using hM
      exact H2.val j M this
  · intro j hj
    have : ¬ j = top := by omega
    simp only [Ren.ext, this, if_false]
    exact htop j (by omega)
def Bm : List UInt8 → List (List UInt8)
  | [] => [[]]
  | c :: r => if c = 32 then [] :: Bm r else match Bm r with
    | [] => [[c]]
    | h :: t => (c :: h) :: t
theorem Md : ∀ s, Bm s ≠ []
  | [] => by simp [Bm]
  | c :: r => by
    unfold Bm
    split
    · simp
    · split <;> simp
theorem Ar : ∀ s, cb s = Bm s
  | [] => rfl
  | c :: r => by
    have ih : Lib.splitK [32] 0 (Lib.count r [32]) r = Bm r := Ar r
    show Lib.splitK [32] 0 (Lib.count (c :: r) [32]) (c :: r) = _
    by_cases hc : c = 32
    · subst hc
      have hi : Lib.index ((32 : UInt8) :: r) [32] = 0 := by simp [Lib.index, List.isPrefixOf]
      rw [Lib.count_cons_eq, Nat.add_comm, Lib.splitK, hi]
      simp only [Bm, if_true]
      have : ¬ ((0 : Int) == -1) = true := by decide
      rw [if_neg this]
      simp only [Int.toNat_zero, Nat.add_zero, List.take_zero, List.length_cons, List.length_nil, Nat.zero_add, List.drop_succ_cons, List.drop_zero, ih]
    · rw [Lib.count_cons_ne _ _ _ hc]
      have hp : ([32] : List UInt8).isPrefixOf (c :: r) = false := by
        have : ((32 : UInt8) == c) = false := by simpa using fun e => hc e.symm
        simp [List.isPrefixOf, this]
      have hsp : Bm (c :: r) = match Bm r with
        | [] => [[c]]
        | h :: t => (c :: h) :: t := by rw [Bm, if_neg hc]
      rcases Lib.indexB_cases ⟨⟨r⟩⟩ ⟨⟨[32]⟩⟩ with hm | ⟨i, hi, hle⟩
      · have hm : Lib.index r [32] = -1 := hm
        have hm2 : Lib.index (c :: r) [32] = -1 := by simp [Lib.index, hp, hm]
        have h0 := Lib.count_miss hm
        rw [h0] at ih ⊢
        rw [hsp, ← ih]
        rfl
      · have hi : Lib.index r [32] = (i : Int) := hi
        have hi2 : Lib.index (c :: r) [32] = ((i + 1 : Nat) : Int) := by
          have h1 : ¬ ((i : Int) = -1) := by omega
          simp [Lib.index, hp, hi, h1]
        have hk := Lib.count_hit (sub := [32]) (by simp) hi
        rw [hk, Nat.add_comm 1] at ih ⊢
        rw [Lib.splitK] at ih ⊢
        rw [hi] at ih
        rw [hi2]
        have n1 : ¬ ((i : Int) == -1) = true := by simp
        have n2 : ¬ (((i + 1 : Nat) : Int) == -1) = true := by simp; omega
        rw [if_neg n1] at ih
        rw [if_neg n2, hsp, ← ih]
        simp only [Int.toNat_natCast, Nat.add_zero, List.take_succ_cons, List.length_cons, List.length_nil, Nat.zero_add, List.drop_succ_cons]
theorem XE : ∀ s, Lib.join (Bm s) [32] = s
  | [] => by simp [Bm, Lib.join_one]
  | c :: r => by
    have ih := XE r
    obtain ⟨h, t, e⟩ := List.exists_cons_of_ne_nil (Md r)
    rw [e, Lib.join_cons] at ih
    unfold Bm
    by_cases hc : c = 32
    · rw [if_pos hc, e, Lib.join_cons, hc]
      simp only [Lib.joinTail, List.map_cons, List.flatten_cons, List.nil_append, List.cons_append]
      rw [← ih]; simp [Lib.joinTail]
    · rw [if_neg hc, e]
      simp only
      rw [Lib.join_cons, List.cons_append, ih]
theorem TC : ∀ {x : List UInt8}, (32 : UInt8) ∉ x → Bm x = [x]
  | [], _ => rfl
  | c :: r, h => by
    have hc : ¬ c = 32 := fun e => h (by simp [e])
    have ih := TC (x := r) (fun hm => h (List.mem_cons_of_mem _ hm))
    rw [Bm, if_neg hc, ih]
theorem bX : ∀ {x z : List UInt8}, (32 : UInt8) ∉ x → Bm (x ++ 32 :: z) = x :: Bm z
  | [], z, _ => by simp [Bm]
  | c :: r, z, h => by
    have hc : ¬ c = 32 := fun e => h (by simp [e])
    have ih := bX (x := r) (z := z) (fun hm => h (List.mem_cons_of_mem _ hm))
    rw [List.cons_append, Bm, if_neg hc, ih]
theorem P9 : ∀ {l : List (List UInt8)}, l ≠ [] → (∀ x ∈ l, (32 : UInt8) ∉ x) → Bm (Lib.join l [32]) = l
  | [], h, _ => absurd rfl h
  | [x], _, h => by rw [Lib.join_one]; exact TC (h x (by simp))
  | x :: y :: r, _, h => by
    have ih := P9 (l := y :: r) (by simp) (fun z hz => h z (List.mem_cons_of_mem _ hz))
    have e : Lib.join (x :: y :: r) [32] = x ++ 32 :: Lib.join (y :: r) [32] := by
      rw [Lib.join_cons, Lib.join_cons]
      simp [Lib.joinTail]
    rw [e, bX (h x (by simp)), ih]
theorem NC : ∀ s, (Bm s).length ≤ s.length + 1
  | [] => by simp [Bm]
  | c :: r => by
    have ih := NC r
    unfold Bm
    split
    · simp; exact ih
    · split
      · simp
      · rename_i h t e; rw [e] at ih; simp at ih ⊢; omega
theorem LL : ∀ s, ∀ w ∈ Bm s, w.length ≤ s.length
  | [], w, h => by simp [Bm] at h; simp [h]
  | c :: r, w, h => by
    have ih := LL r
    unfold Bm at h
    split at h
    · rcases List.mem_cons.1 h with rfl | h
      · simp
      · have := ih w h; simp; omega
    · split at h
      · simp at h; simp [h]
      · rename_i h' t e
        rcases List.mem_cons.1 h with rfl | h
        · have := ih h' (by rw [e]; simp); simp; omega
        · have := ih w (by rw [e]; simp [h]); simp; omega
theorem jq {xo yo : Operand} {t : TypeId} {v : Value} : DX tt.get .neq 38 xo yo (.iface t v) .nilIface = some (.bool true) := by simp [DX, Jt, P4, Vv]
theorem tN {xo : Operand} : DX tt.get .neq 38 xo (.const .nilIface) .nilIface .nilIface = some (.bool false) := by simp [DX, Jt, P4, Vv, qm]
def C7 (hp : Hp) : Prop := hp 1 = some Tw ∧ (∃ m, hp 2 = some (Ph 1 (.int .i64 m))) ∧ (∃ t a, hp 4 = some (Ph 3 (.iface t a))) ∧ (∃ t a, hp 6 = some (Ph 4 (.iface t a)))
theorem dV {hp h : Hp} (hv : C7 hp) (e : ∀ i, i < 7 → h i = hp i) : C7 h := by
  unfold C7
  rw [e 1 (by decide), e 2 (by decide), e 4 (by decide), e 6 (by decide)]; exact hv
theorem AQ {hp : Hp} {i : Nat} {o : Option A7} (hi : 7 ≤ i) : C7 (hp.set i o) = C7 hp := by
  unfold C7
  rw [AZ _ _ _ _ (by omega), AZ _ _ _ _ (by omega), AZ _ _ _ _ (by omega), AZ _ _ _ _ (by omega)]
theorem Fc {hp : Hp} {top : Nat} (hcl : Cl hp top) (hv : C7 hp) : 7 ≤ top := by
  obtain ⟨_, _, _, t, a, h⟩ := hv
  have := hcl.lt _ _ h
  omega
def DJ (s : List UInt8) : List UInt8 × List UInt8 × Bool := Lib.cut s [10]
def Ka (s : List UInt8) : Value := .tuple ⟨[.string ⟨⟨(DJ s).1⟩⟩, .string ⟨⟨(DJ s).2.1⟩⟩, .bool (DJ s).2.2]⟩
def D7 : Bb := .pure (fun args hp => match args with | [.string ⟨⟨s⟩⟩, .string ⟨⟨sep⟩⟩] => s.length < 4294967281 ∧ sep = [10] ∧ ∃ m, hp 2 = some (Ph 1 (.int .i64 m)) | _ => False) (fun args _ => match args with | [s, _] => Ka (strOf s) | _ => undef)
theorem yC : A0 Tryz.prog 36 D7 := by
  refine ⟨⟨_, bD.toFTOk⟩, fun args hp hpre top => ?_⟩
  match args, hpre with
  | [.string ⟨⟨s⟩⟩, .string ⟨⟨sep⟩⟩], ⟨hs, hsep, m, hm⟩ =>
  subst hsep
  refine AR.OJ rfl fun φ own w args' ha H => ?_
  cases ha with
  | cons _ _ _ _ hx hl =>
  cases hx
  cases hl with
  | cons _ _ _ _ hx hl =>
  cases hx
  cases hl
  obtain ⟨v', hv, hc⟩ := U1 H (by omega) hm
  cases hv
  refine (Tryz.strings_Cut ⟨⟨s⟩⟩ ⟨⟨[10]⟩⟩ m w hs hc).mono ?_
  rintro e w' ⟨rfl, n, rfl⟩
  exact ⟨rfl, ⟨rfl, rfl, rfl, Nat.le_refl _, fun i hi => rfl⟩⟩
theorem AV {x y : List UInt8} : Xl x y = decide (x = y) := by
  rw [OW]; by_cases h : x = y <;> simp [h]
theorem zl {xo yo : Operand} {t : TypeId} {v : Value} : DX tt.get .eql 38 xo yo (.iface t v) .nilIface = some (.bool false) := by simp [DX, Jt, P4, Vv]
theorem Xe {xo : Operand} : DX tt.get .eql 38 xo (.const .nilIface) .nilIface .nilIface = some (.bool true) := by simp [DX, Jt, P4, Vv, qm]
theorem fc {a : Option Addr} : H8 tt.get 51 (.pointer a) = some (.iface 51 (.pointer a)) := by simp [H8, Mx, Y3]
theorem bT (s : List UInt8) : (DJ s).1.length ≤ s.length ∧ (DJ s).2.1.length ≤ s.length ∧ ((DJ s).2.2 = true → (DJ s).2.1.length < s.length) := by
  unfold DJ Lib.cut
  by_cases h : 0 ≤ Lib.index s [10]
  · rw [if_pos h]
    have hs : 0 < s.length := by
      cases s with
      | nil => exact absurd h (by simp [Lib.index])
      | cons a r => simp
    simp only [List.length_take, List.length_drop, List.length_cons, List.length_nil]
    omega
  · rw [if_neg h]; simp
theorem A8 {h' : Hp} {x : List UInt8} : CF tt.get h' 9 (.string ⟨⟨x⟩⟩) = (.int .i64 (x.length : Int), True) := by
  unfold CF
  simp only [HD]
  simp [strOf, SK]
def OT (c n : Int) : Option A7 := some (.cells true 0 [.int .i64 c, .int .i64 n])
def RX (top : Nat) : Value := .iface 51 (.pointer (some ⟨top, 0, none⟩))
end Go.Proofs.YthlhnangbinhoaaGreatDoor.Dm
