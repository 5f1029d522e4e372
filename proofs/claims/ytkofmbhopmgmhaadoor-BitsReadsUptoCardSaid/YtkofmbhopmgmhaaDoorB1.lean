/- Bit strings: tables that are read alone, and library functions by their contracts. -/
import Derived.Test.YtkofmbhopmgmhaaDoorDmK
import Derived.Test.YtkofmbhopmgmhaaDoorDmJ
import Derived.Test.YtkofmbhopmgmhaaDoorShelf
set_option linter.unusedSimpArgs false
set_option linter.unusedVariables false
namespace Go.Proofs.YtkofmbhopmgmhaaDoor.Dm
open Go.Dm
set_option maxHeartbeats 4000000

/-! ### tables -/
def nums (k : IntKind) (l : List Nat) : List Value := l.map fun n : Nat => Value.int k ((n : Nat) : Int)
/-- a table: the program's variable g, whole -/
def tabO (g : Nat) (k : IntKind) (l : List Nat) : AObj := .cells false (tabMark + 4096 * l.length + g) (nums k l)
theorem vs_nums {φ : Ren} {k : IntKind} : ∀ {l : List Nat} {m : List Value}, Vs φ (nums k l) m → m = nums k l
  | [], _, h => by cases h; rfl
  | n :: l, _, h => by
    cases h with
    | cons _ x _ m hx hm =>
      cases hx
      rw [vs_nums (l := l) hm]; rfl
/-- where the table lies -/
theorem tab_at {φ : Ren} {own : Nat → Prop} {hp : Hp} {w : World} (H : HR φ own hp w) {i g : Nat} {k : IntKind} {l : List Nat} (hg : g < 4096) (h : hp i = some (tabO g k l)) : ∃ ct cf, w.heap[g]? = some (.cells (nums k l).toArray ct cf) := by
  obtain ⟨L, hL, he, c, t, fz, h1, h2, h3, h4, h5⟩ := H.obj _ _ h
  obtain ⟨h6, h7, h8⟩ := h5.2 rfl (by omega)
  have hlen : (nums k l).length = l.length := by simp [nums]
  have hb : L.blk = g := by omega
  have hm : L.lim = l.length := by omega
  rw [hb] at h1
  refine ⟨t, fz, ?_⟩
  rw [h1]
  have hv := vs_nums h4
  rw [h7, List.drop_zero, hlen, ← hm, ← h2] at hv
  have e : c.toList.take c.size = c.toList := List.take_of_length_le (by simp)
  rw [e] at hv
  congr 2
  rw [← hv]
theorem tab_cell {w : World} {g : Nat} {k : IntKind} {l : List Nat} {ct : TypeId} {cf : Nat × Nat} (h : w.heap[g]? = some (.cells (nums k l).toArray ct cf)) (j : Nat) (hj : j < l.length) : w.cell? ⟨g, j, none⟩ = some (.int k (l.getD j 0 : Nat)) := by
  simp [World.cell?, h, nums, hj, List.getD]
theorem K.of_below {w w' : World} (h : Go.RowKit.Below w.heap.size w w') : K (fun b => w.heap.size ≤ b) w w' := ⟨h.size, fun b hb _ => h.block b hb, h.os, h.tape, h.output, fun b hb => by rw [h.block b hb]⟩
/-- a call that the library's contract tells, and that hands back a plain value -/
theorem CalledOk.of_lib {P : Program} {f : FuncId} {args : List Value} {hp : Hp} {top : Nat} {r : Value} (hr : plain 3 r = true)
    (h : ∀ φ own w args', Vs φ args args' → HR φ own hp w → Calls P f ⟨args'⟩ w fun e w' => e = .returned r ∧ Go.RowKit.Below w.heap.size w w') : CalledOk P f args hp top fun v hp' top' => v = r ∧ hp' = hp ∧ top' = top := by
  intro φ own w args' ha H htop
  refine (h φ own w args' ha H).mono ?_
  rintro e w' ⟨rfl, hb⟩
  have k := K.of_below hb
  exact ⟨r, hp, top, r, φ, rfl, ⟨rfl, rfl, rfl⟩, ⟨Ren.le_refl _, plain_V _ _ hr, H.stay k, K.ofFresh H.fresh k, htop⟩⟩

/-! ### TrailingZeros64, Len64 -/
def tzO : AObj := tabO 0 .u8 Lib.deBruijn64tab
def U64 (n : Int) : Prop := 0 ≤ n ∧ n < 18446744073709551616
theorem tz_ft : ∃ fn, FTOk Tryd.prog 50 fn := ⟨_, fn50_ok.toFTOk⟩
def conTz : Con := .pure (fun args hp => match args with | [.int .u64 x] => U64 x ∧ hp 0 = some tzO | _ => False) (fun args _ => match args with | [x] => .int .i64 (Lib.ctz 64 (intOf x).toNat : Nat) | _ => undef)
theorem tz_ok : ConOk Tryd.prog 50 conTz := by
  refine ⟨tz_ft, fun args hp hpre top => ?_⟩
  match args, hpre with
  | [.int .u64 x], ⟨⟨h0, h1⟩, ht⟩ =>
  refine CalledOk.of_lib rfl fun φ own w args' ha H => ?_
  cases ha with
  | cons _ _ _ _ hx hl =>
  cases hx
  cases hl
  obtain ⟨m, rfl⟩ := Int.eq_ofNat_of_zero_le h0
  obtain ⟨ct, cf, hc⟩ := tab_at H (by omega) ht
  refine (Tryd.bits_TrailingZeros64 m (by omega) w fun _ j hj => tab_cell hc j hj).mono ?_
  rintro e w' ⟨rfl, rfl⟩
  exact ⟨rfl, Go.RowKit.Below.refl _ _⟩
def conLen64 : Con := .pure (fun args _ => match args with | [.int .u64 x] => U64 x | _ => False) (fun args _ => match args with | [x] => .int .i64 (Lib.bitLen (intOf x).toNat : Nat) | _ => undef)
theorem len64_ok : ConOk Tryd.prog 58 conLen64 := by
  refine ⟨⟨_, fn58_ok.toFTOk⟩, fun args hp hpre top => ?_⟩
  match args, hpre with
  | [.int .u64 x], ⟨h0, h1⟩ =>
  refine CalledOk.of_lib rfl fun φ own w args' ha H => ?_
  cases ha with
  | cons _ _ _ _ hx hl =>
  cases hx
  cases hl
  refine (Tryd.bits_Len64 x w h0 (by omega)).mono ?_
  rintro e w' ⟨rfl, rfl⟩
  exact ⟨rfl, Go.RowKit.Below.refl _ _⟩
/-! ### Itoa, Join -/
def pow10N : List Nat := (List.range 20).map fun i => 10 ^ i
def powO : AObj := tabO 3 .u64 pow10N
theorem pow_tab {φ : Ren} {own : Nat → Prop} {hp : Hp} {w : World} (H : HR φ own hp w) (h : hp 1 = some powO) : Lib.TabIs Tryd.prog w "internal/strconv.uint64pow10" .u64 Lib.pow10Tab := by
  obtain ⟨ct, cf, hc⟩ := tab_at H (by omega) h
  have hg : Tryd.prog.globalNamed "internal/strconv.uint64pow10" = some 3 := by kernel_rfl
  unfold Lib.TabIs World.var?
  rw [hg]
  simp only [Option.bind_some, hc]
  congr 2
def conItoa : Con := .pure (fun args hp => match args with | [.int .i64 n] => 0 ≤ n ∧ n ≤ 9223372036854775807 ∧ hp 1 = some powO | _ => False) (fun args _ => match args with | [n] => .string ⟨⟨Lib.itoa (intOf n)⟩⟩ | _ => undef)
theorem itoa_ok : ConOk Tryd.prog 52 conItoa := by
  refine ⟨⟨_, fn52_ok.toFTOk⟩, fun args hp hpre top => ?_⟩
  match args, hpre with
  | [.int .i64 x], ⟨h0, h1, ht⟩ =>
  refine CalledOk.of_lib rfl fun φ own w args' ha H => ?_
  cases ha with
  | cons _ _ _ _ hx hl =>
  cases hx
  cases hl
  refine (Tryd.strconv_Itoa x (by omega) h1 w (pow_tab H ht)).mono ?_
  rintro e w' ⟨rfl, k, os, rfl⟩
  exact ⟨rfl, ⟨rfl, rfl, rfl, by simp [Go.Sort.grow, World.drewN], fun i hi => by simp [Go.Sort.grow, World.drewN, Array.getElem?_append, hi]⟩⟩
def conJoin : Con := .pure (fun args hp => match args with | [v, .string ⟨⟨sep⟩⟩] => SlP e_string hp v ∧ (e_string.rd hp v).length ≤ 140737488355328 ∧ (Lib.join (e_string.rd hp v) sep).length ≤ 140737488355328 | _ => False)
  (fun args hp => match args with | [v, s] => .string ⟨⟨Lib.join (e_string.rd hp v) (strOf s)⟩⟩ | _ => undef)
theorem join_ok : ConOk Tryd.prog 53 conJoin := by
  refine ⟨⟨_, fn53_ok.toFTOk⟩, fun args hp hpre top => ?_⟩
  match args, hpre with
  | [v, .string ⟨⟨sep⟩⟩], ⟨⟨l, h⟩, h1, h2⟩ =>
  rw [h.rd] at h1 h2
  simp only [h.rd, strOf_string]
  refine CalledOk.of_lib rfl fun φ own w args' ha H => ?_
  cases ha with
  | cons _ v' _ _ hx hl =>
  cases hl with
  | cons _ s' _ _ hs hl =>
  cases hs
  cases hl
  cases h with
  | nils =>
    cases hx
    refine (Tryd.strings_Join_none none 0 ⟨⟨sep⟩⟩ w).mono ?_
    rintro e w' ⟨rfl, rfl⟩
    exact ⟨rfl, Go.RowKit.Below.refl _ _⟩
  | emp =>
    cases hx with
    | emp a' c' =>
      refine (Tryd.strings_Join_none (some a') c' ⟨⟨sep⟩⟩ w).mono ?_
      rintro e w' ⟨rfl, rfl⟩
      exact ⟨rfl, Go.RowKit.Below.refl _ _⟩
  | rows b o c rw vs l hb hv ho hc hn =>
    cases hx with
    | slice _ _ _ _ c' L hL hn' hc' hl' =>
      obtain ⟨L', hL', hok⟩ := H.obj _ _ hb
      rw [hL] at hL'; cases hL'
      obtain ⟨_, cc, ty, fz, hg, hsz, hlim, hvs, _⟩ := hok
      obtain ⟨xs, hxs⟩ : ∃ xs : List ByteArray, xs = l.map fun x => ⟨⟨x⟩⟩ := ⟨_, rfl⟩
      have hxl : xs.length = l.length := by rw [hxs]; simp
      have hxd : xs.map (·.data.toList) = l := by rw [hxs, List.map_map]; simp [Function.comp_def]
      have hsz1 : e_string.size = 1 := rfl
      have hcell : ∀ (j : Nat) x, xs[j]? = some x → w.cell? ⟨L.blk, L.off + o + j, none⟩ = some (.string x) := by
        intro j x hj
        have hjl : j < l.length := by
          rw [← hxl]
          rcases Nat.lt_or_ge j xs.length with h | h
          · exact h
          · rw [List.getElem?_eq_none h] at hj; cases hj
        have h3 : (e_string.flat l)[j]? = some (.string x) := by
          rw [hxs, List.getElem?_map] at hj
          have : e_string.flat l = l.map fun x => Value.string ⟨⟨x⟩⟩ := by
            clear hj hv ho hc hn hn' hl' hjl hxl hxd hxs h1 h2
            induction l with
            | nil => rfl
            | cons a l ih => rw [Enc.flat_cons, ih]; rfl
          rw [this, List.getElem?_map]
          cases hl : l[j]? with
          | none => rw [hl] at hj; cases hj
          | some y => rw [hl] at hj; cases hj; rfl
        rw [← hv] at h3
        rw [List.getElem?_take, hsz1, Nat.mul_one, if_pos hjl, List.getElem?_drop] at h3
        obtain ⟨x', h4, h5⟩ := hvs.get h3
        have h6 := h5.str_inv
        subst h6
        have hlt : o + j < vs.length := by
          rcases Nat.lt_or_ge (o + j) vs.length with h | h
          · exact h
          · rw [List.getElem?_eq_none h] at h3; cases h3
        rw [List.getElem?_take, if_pos hlt, List.getElem?_drop] at h4
        simp only [World.cell?, hg]
        rw [Nat.add_assoc]
        simpa using h4
      have := Tryd.strings_Join L.blk (L.off + o) c' xs ⟨⟨sep⟩⟩ w hcell (H.val _ _ hL) (by rw [hxl]; exact h1) (by rw [hxl]; omega) (by rw [hxd]; exact h2)
      rw [hxl, hxd] at this
      refine this.mono ?_
      rintro e w' ⟨rfl, hbw⟩
      exact ⟨rfl, hbw⟩
end Go.Proofs.YtkofmbhopmgmhaaDoor.Dm
