/- Bit strings, as the bits chapter has them (turned to this seat by port.py): part TB2. -/
import Derived.Test.YthpibnpeaidabaaGreatDoorTB1
import Derived.Lib.ItoaLen
import Derived.Lib.ItoaMem
import Derived.Shelf.Spec.TrailingZeros
set_option linter.unusedVariables false
namespace Go.Proofs.YthpibnpeaidabaaGreatDoor.Dm
open Go.Dm
set_option maxHeartbeats 16000000
def eachF (b : Nat) : Value := .func (.func 88) ⟨[]⟩ ⟨[.pointer (some ⟨b, 0, none⟩)]⟩
def conEach : Con := .det (fun args _ _ => match args with | [v] => IsBits v | _ => False) (fun args _ top => match args with | [v] => (eachF top, [(top, some (.cells true 0 (bl (bOf v))))], top + 1) | _ => (undef, [], top))
theorem each_ok : ConOk Tryz.prog 61 conEach := by
  refine .mkDet fn61_ok ?_
  intro args hp top hpre hcl hsc
  match args, hpre with
  | [_], ⟨b, rfl, hb⟩ =>
  simp only [bOf_bl]
  refine CalledOk.of_fun tt_ok fn61_ok rfl 4 rfl [.tmp 2] rfl (show 1 ≤ 4 by decide) ?_
  refine CW.vc env2 [0, 1, 2] (by kernel_rfl) ?_
  (repeat ((try refine Vc.mk' ?_); simp (config := { maxSteps := 6000000 }) only [go_sem, evList, evO]))
  (refine ⟨[top], by simp, by simp, by simp, ?_, ?_, ?_⟩ <;> simp [ren, renL, UpdOk.nil, UpdOk.cons, renOO_some, renO_cells, rn_base, set_same, Keep.set, Keep.refl, eachF, bl_ren])
def G3 := addG G2 61 conEach
theorem env3 : EnvV Tryz.prog tt.get G3 := env2.add each_ok
def G4 := addG (addG (addG G3 89 conTz) 35 conItoa) 37 conJoin
theorem env4 : EnvV Tryz.prog tt.get G4 := ((env3.add tz_ok).add itoa_ok).add join_ok
theorem G4_each : G4 61 = conEach := rfl
theorem G4_itoa : G4 35 = conItoa := rfl
theorem G4_join : G4 37 = conJoin := rfl
/-- the numbers of bits as texts -/
def txt (x : Bn) : List UInt8 := Lib.itoa x.1
def S5 (hp : Hp) (top : Nat) (b : T_Bits) (pre : List Bn) : Hp × Nat := (hp.sets [(top, some (.cells true 0 (bl b))), (top + 1, some (.cells true 0 [mkSl (top + 3) (pre.map txt)])), (top + 2, some (.cells true 0 (bl b))), (top + 3, mkOb e_string (pre.map txt))], top + 4)
theorem txt_len (x : Bn) : (txt x).length ≤ 21 := Lib.itoa_length_le _ (by have := x.2.1; omega) (by have := x.2.2; omega)
theorem lens_txt : ∀ l : List Bn, Lib.lens (l.map txt) ≤ 21 * l.length
  | [] => by simp [Lib.lens]
  | x :: l => by
    have h1 := txt_len x
    have h2 := lens_txt l
    simp only [Lib.lens, List.map_cons, List.length_cons, List.sum_cons] at *
    omega
theorem join_txt (l : List Bn) (h : l.length ≤ 256) : (Lib.join (l.map txt) [32]).length ≤ 140737488355328 := by
  cases l with
  | nil => simp [Lib.join_nil]
  | cons x r =>
    have := lens_txt (x :: r)
    rw [List.map_cons, Lib.join_length]
    simp only [List.map_cons, List.length_cons, List.length_map, List.length_nil] at *
    omega
def textB (b : T_Bits) : List UInt8 := if (bitsL b).length = 0 then [45] else Lib.join ((bitsL b).map txt) [32]
def conText : Con := .pure (fun args hp => match args with | [v] => IsBits v ∧ hp 0 = some tzO ∧ hp 1 = some powO | _ => False) (fun args _ => match args with | [v] => .string ⟨⟨textB (bOf v)⟩⟩ | _ => undef)
theorem sets_get : ∀ (us : Upds) (hp : Hp) i o, (hp.sets us) i = some o → (∃ p ∈ us, p.1 = i ∧ p.2 = some o) ∨ ((∀ p ∈ us, p.1 ≠ i) ∧ hp i = some o) := by
  intro us
  induction us with
  | nil => intro hp i o h; exact .inr ⟨fun _ h => (by cases h), h⟩
  | cons p us ih =>
    intro hp i o h
    obtain ⟨a, x⟩ := p
    rw [sets_cons] at h
    rcases ih _ i o h with ⟨p, h1, h2, h3⟩ | ⟨h1, h2⟩
    · exact .inl ⟨p, List.mem_cons_of_mem _ h1, h2, h3⟩
    · by_cases e : i = a
      · subst e
        rw [set_same] at h2
        exact .inl ⟨(i, x), List.mem_cons_self .., rfl, h2⟩
      · rw [set_ne _ _ _ _ e] at h2
        refine .inr ⟨?_, h2⟩
        intro p hp'
        cases hp' with
        | head => exact fun e' => e e'.symm
        | tail _ h => exact h1 p h
theorem sets_low : ∀ (us : Upds) (hp : Hp) (i : Nat), (∀ p ∈ us, i ≠ p.1) → (hp.sets us) i = hp i := by
  intro us
  induction us with
  | nil => intro hp i h; rfl
  | cons p us ih =>
    intro hp i h
    obtain ⟨a, x⟩ := p
    rw [sets_cons, ih _ _ (fun p hp' => h p (List.mem_cons_of_mem _ hp')), set_ne _ _ _ _ (h (a, x) (List.mem_cons_self ..))]
theorem flat_sets {hp : Hp} {top b1 : Nat} {us us0 : Upds} (hcl : Cl hp top) (hb : top ≤ b1) (h1 : ∀ p ∈ us, ∀ o, p.2 = some o → o.isC) (h0 : ∀ p ∈ us0, top ≤ p.1) : FlatOn b1 (hp.sets us0) (hp.sets us) := by
  intro i o e
  rcases sets_get us hp i o e with ⟨p, h2, _, h4⟩ | ⟨_, h2⟩
  · exact .inl (h1 p h2 o h4)
  · have := hcl.lt i o h2
    exact .inr ⟨by omega, o, by rw [sets_low us0 hp i (fun p hp' => by have := h0 p hp'; omega)]; exact h2⟩
theorem mkOb_isC {α : Type} {E : Enc α} {l : List α} : ∀ o, mkOb E l = some o → o.isC := by
  intro o e
  cases l with
  | nil => cases e
  | cons a l => cases e; trivial
def scN (n : Nat) : SFr → Prop
  | [] => True
  | (_, v, _) :: l => Sc n v ∧ scN n l
theorem scN.of {n : Nat} : ∀ {fr : SFr}, scN n fr → ∀ t v, evT fr t = some v → Sc n v
  | [], _, _, _, h => by cases h
  | (j, x, g) :: l, ⟨h1, h2⟩, t, v, hv => by
    simp only [evT, lkG] at hv
    cases hb : Nat.beq j t with
    | true =>
      rw [hb] at hv
      cases hv
      cases g with
      | true => exact h1
      | false => simp [undef, Sc, ScL]
    | false => rw [hb] at hv; exact scN.of h2 t v hv
mutual
theorem scUp {n m : Nat} (hm : n ≤ m) : ∀ {v : Value}, Sc n v → Sc m v
  | .bool _, _ => trivial
  | .int _ _, _ => trivial
  | .float _ _, _ => trivial
  | .complex _ _ _, _ => trivial
  | .string _, _ => trivial
  | .pointer none, _ => trivial
  | .pointer (some ⟨_, _, _⟩), h => Nat.lt_of_lt_of_le h hm
  | .slice none _ _, _ => trivial
  | .slice (some ⟨_, _, none⟩) _ _, h => Nat.lt_of_lt_of_le h hm
  | .slice (some ⟨_, _, some _⟩) _ _, _ => trivial
  | .map none, _ => trivial
  | .map (some _), h => Nat.lt_of_lt_of_le h hm
  | .chan _, _ => trivial
  | .func _ ⟨_⟩ ⟨_⟩, h => ⟨scLUp hm h.1, scLUp hm h.2⟩
  | .nilFunc, _ => trivial
  | .iface _ v, h => scUp (v := v) hm h
  | .nilIface, _ => trivial
  | .agg ⟨l⟩, h => scLUp (l := l) hm h
  | .tuple ⟨l⟩, h => scLUp (l := l) hm h
theorem scLUp {n m : Nat} (hm : n ≤ m) : ∀ {l : List Value}, ScL n l → ScL m l
  | [], _ => trivial
  | _ :: _, h => ⟨scUp hm h.1, scLUp hm h.2⟩
end
theorem clUp {hp : Hp} {n m : Nat} (h : Cl hp n) (hm : n ≤ m) : Cl hp m := by
  refine ⟨fun i o e => Nat.lt_of_lt_of_le (h.lt i o e) hm, fun i o e => ?_⟩
  have := h.sc i o e
  cases o with
  | cells rw z vs => exact scLUp hm this
  | map es clk => exact fun e he => ⟨scUp hm (this e he).1, scUp hm (this e he).2⟩
  | iter s p => trivial
  | miter m s c l => exact Nat.lt_of_lt_of_le this hm
  | raw b vs => trivial
theorem text_ok : ConOk Tryz.prog 36 conText := by
  refine .mkRd fn36_ok ?_ ?_
  · rintro args hp h
    match args, h with
    | [_], ⟨⟨b, rfl, hb⟩, _⟩ => rfl
  intro args hp hpre top hcl hsc
  match args, hpre with
  | [_], ⟨⟨b, rfl, hb⟩, ht, hp1⟩ =>
  simp only [bOf_bl]
  have hIb := isBits_bl hb
  have ht0 := hcl.lt _ _ ht
  have ht1 := hcl.lt _ _ hp1
  refine CalledOk.of_funT tt_ok fn36_ok rfl 18 rfl [.tmp 2] rfl (show 1 ≤ 18 by decide) ?_
  refine CT.seq (CT.of (CW.vc env4 [0, 1, 2, 3, 4, 6, 15] (by kernel_rfl) ?_))
  (repeat ((try refine Vc.mk' ?_); simp (config := { maxSteps := 6000000 }) only [go_sem]))
  refine CT.seq (CT.of (CW.vc env4 [0, 1, 2, 3, 4, 6, 15] (by kernel_rfl) ?_))
  (repeat ((try refine Vc.mk' ?_); simp (config := { maxSteps := 6000000 }) only [go_sem, Nat.reduceAdd]))
  refine CT.seq (CT.seq (CT.of (CW.vc env4 [0, 1, 2, 3, 4, 6, 15] (by kernel_rfl) ?_)))
  (repeat ((try refine Vc.mk' ?_); simp (config := { maxSteps := 6000000 }) only [go_sem, reduceCtorEq, Nat.reduceAdd, bl_len, bl_take, bOf_bl, G4_each, conEach, hIb]))
  refine CT.block ?_
  refine CT.range (g := .tmp 6) (p := 7) (q := 4) (Sd := fun xs => xs = bitsL b) (Sp := fun pre => pre <+: bitsL b) (N := (bitsL b).length) tt_ok Tryz.f88 (by kernel_rfl) fn88_ok.toFTOk (top + 3) ?hb1
    [(1, .pointer (some ⟨top, 0, none⟩), true), (3, .pointer (some ⟨top + 1, 0, none⟩), true), (6, eachF (top + 2), true)] (S5 hp top b) (fun _ _ _ => False) encB (fun _ => rfl) ?hp ?hq ?ho ?hd ?hgd [.pointer (some ⟨top + 2, 0, none⟩)] rfl
    ?h0 ?ht ?hfr ?hfl ?hfX tzT ?hT tzT_put ?hit ?hround ?hdone ?hret ?hexit
  case hb1 => exact Nat.le_add_right _ _
  case ho => rfl
  case hd => rfl
  case hgd => rfl
  case hp => decide
  case hq => decide
  case h0 => exact (by refine SubR.mk' [top, top + 1, top + 2, top + 3] hcl (by simp) (by simp) rfl (frSub_ok ?_) ?_ ?_ <;> simp [frSub, lkG, ren, renL, UpdOk.nil, UpdOk.cons, renOO_some, renO_cells, rn_base, rn_add, set_same, set_ne, Keep.set, Keep.refl, bl_ren, eachF, mkSl_nil, mkOb_nil])
  case ht => exact fun pre => Nat.le_succ _
  case hfr => exact scN.of (by simp [scN, Sc, ScL, eachF])
  case hfl =>
    refine fun pre => flat_sets hcl (by omega) ?_ (by simp)
    intro p hp' o e
    simp only [List.mem_cons, List.not_mem_nil, or_false] at hp'
    rcases hp' with rfl | rfl | rfl | rfl
    · cases e; trivial
    · cases e; trivial
    · cases e; trivial
    · exact mkOb_isC o e
  case hfX => exact fun _ _ _ h => h.elim
  case hT =>
    intro pre φ own W H
    refine tzT_of H ?_
    show hp.sets _ 0 = _
    rw [sets_low _ _ _ (by simp; omega)]; exact ht
  case hit =>
    intro φ own W caps' hV H
    exact each_stops b hb (by show hp.sets _ 0 = _; rw [sets_low _ _ _ (by simp; omega)]; exact ht) (gb := top + 2) (rw := true) (by simp [S5, sets_cons, sets_nil, set_same, set_ne, bl]) hV H
  case hround =>
    intro pre x hlen
    refine CW.vc env4 [0, 1, 2, 3, 4, 6, 15] (by kernel_rfl) ?_
    have hx0 : 0 ≤ x.1 := by have := x.2.1; omega
    have hx1 : x.1 ≤ 9223372036854775807 := by have := x.2.2; omega
    have hll : (pre.map txt).length < 16777216 := by have := bitsL_len hb; simp; omega
    have hll2 : pre.length < 16777216 := by have := bitsL_len hb; omega
    have htx : Lib.itoa x.1 = txt x := rfl
    (repeat ((try refine Vc.mk' ?_); simp (config := { maxSteps := 6000000 }) only [go_sem, Nat.reduceAdd, Nat.reduceLeDiff, Nat.reduceEqDiff, Nat.mul_one, S5, encB, G4_itoa, conItoa, hx0, hx1, set_lt ht1, hp1, htx, hll2, List.length_map]))
    have e0 : top < top + 3 := by omega
    have e1 : top + 1 < top + 3 := by omega
    have e2 : top + 2 < top + 3 := by omega
    refine SubR.mk' (hp := hp) [top + 5] (clUp hcl (by omega)) (by simp) (by simp) rfl (frSub_ok (by simp [frSub])) (by simp [Keep.set, Keep.setK, Keep.refl]) ?_
    simp [renL, UpdOk.nil, UpdOk.cons, renOO_some, renO_cells, renOO_mkOb, rn_base, ren_mkSl, set_same, set_ne, bl_ren, rn_low e0, rn_low e1, rn_low e2]
  case hdone =>
    rintro xs rfl
    refine CT.seq (CT.of (CW.vc env4 [0, 1, 2, 3, 4, 6, 15] (by kernel_rfl) ?_))
    have hml : ((bitsL b).map txt).length ≤ 256 := by rw [List.length_map]; exact bitsL_len hb
    have hbl := bitsL_len hb
    have hob : (((hp.set top (some (AObj.cells true 0 (bl b)))).set (top + 1) (some (AObj.cells true 0 [mkSl (top + 3) (List.map txt (bitsL b))]))).set (top + 2) (some (AObj.cells true 0 (bl b)))).set (top + 3) (mkOb e_string (List.map txt (bitsL b))) (top + 3) = mkOb e_string (List.map txt (bitsL b)) := set_same ..
    have hP := own_P hob (by omega)
    have hR := own_rd hob (by omega)
    have hJ := join_txt _ hbl
    have hm2 : (bitsL b).length ≤ 140737488355328 := by omega
    (repeat ((try refine Vc.mk' ?_); simp (config := { maxSteps := 6000000 }) only [go_sem, Nat.reduceEqDiff, S5]))
    refine condP.mk (fun c => ?_) (fun c => ?_)
    · (repeat ((try refine Vc.mk' ?_); simp (config := { maxSteps := 6000000 }) only [go_sem]))
      have c2 : (bitsL b).length = 0 := by simpa using c
      simp [textB, c2]
    · have c2 : ¬ (bitsL b).length = 0 := by simpa using c
      refine CT.of (CW.vc env4 [0, 1, 2, 3, 4, 6, 15] (by kernel_rfl) ?_)
      (repeat ((try refine Vc.mk' ?_); simp (config := { maxSteps := 6000000 }) only [go_sem, Nat.reduceEqDiff, G4_join, conJoin, hP, hR, hJ, hm2, List.length_map]))
      rw [show textB b = Lib.join ((bitsL b).map txt) [32] from if_neg c2]
  case hret => exact fun _ _ _ h => h.elim
  case hexit => exact fun _ _ _ _ h => h.elim
theorem eqA_u64 {d : Nat} {x y : Int} : eqA tt.get (d + 1) 28 (.int .u64 x) (.int .u64 y) = some (decide (x = y)) := by
  simp [eqA, t_uint64, ti28, eqI_dec]
theorem eqItems_u64 {xs ys : List Value} {d i n : Nat} {x y : Int} (h1 : partA ti28 xs (i * 1) = some (.int .u64 x)) (h2 : partA ti28 ys (i * 1) = some (.int .u64 y)) :
    eqItems tt.get (d + 2) 28 ti28 xs ys i (n + 1) = if x = y then eqItems tt.get (d + 1) 28 ti28 xs ys (i + 1) n else some false := by
  have hs : ti28.size = 1 := rfl
  simp only [eqItems, hs, h1, h2, eqA_u64]
  by_cases h : x = y <;> simp [h]
theorem eqItems_none {xs ys : List Value} {d e i : Nat} {j : TI} : eqItems tt.get (d + 1) e j xs ys i 0 = some true := by rw [eqItems]
def shrI (x : Int) (k : Int) : Int := x.fdiv (Int.ofNat (Nat.pow 2 ((Int.toNat k).min 64)))
def oc1 (x : Int) : Int := wrapA .u64 (bitsI .and .u64 (shrI x 1) 6148914691236517205 + bitsI .and .u64 x 6148914691236517205)
def oc2 (x : Int) : Int := wrapA .u64 (bitsI .and .u64 (shrI x 2) 3689348814741910323 + bitsI .and .u64 x 3689348814741910323)
def oc3 (x : Int) : Int := bitsI .and .u64 (wrapA .u64 (shrI x 4 + x)) 1085102592571150095
def oc4 (k : Int) (x : Int) : Int := wrapA .u64 (x + shrI x k)
/-- as Go's text counts -/
def swar (x : Int) : Int := bitsI .and .i64 (wrapA .i64 (oc4 32 (oc4 16 (oc4 8 (oc3 (oc2 (oc1 x))))))) 127
def conOC : Con := .pure (fun args _ => match args with | [.int .u64 x] => U64 x | _ => False) (fun args _ => match args with | [x] => .int .i64 (swar (intOf x)) | _ => undef)
theorem c_ui {hp : Hp} {x : Value} : sconvH tt.get hp 28 3 x = (.int .i64 (wrapA .i64 (intOf x)), IsN x) := sconvH_int k_uint64 k_int
theorem oc_ok : ConOk Tryz.prog 81 conOC := by
  refine .mkPure fn81_ok ?_
  intro args hp hpre top
  match args, hpre with
  | [.int .u64 x], ⟨h0, h1⟩ =>
  refine CalledOk.of_fun tt_ok fn81_ok rfl 35 rfl [.tmp 2] rfl (show 1 ≤ 35 by decide) ?_
  refine CW.vc env0 [0, 2] (by kernel_rfl) ?_
  (repeat ((try refine Vc.mk' ?_); simp (config := { maxSteps := 6000000 }) only [go_sem, Int.reduceLE, c_ui]))
  rfl
theorem swar_range (x : Int) : 0 ≤ swar x ∧ swar x ≤ 127 := by
  unfold swar
  generalize wrapA .i64 _ = y
  have h : (BitVec.ofInt 64 y &&& BitVec.ofInt 64 127).toNat ≤ 127 := by
    rw [BitVec.toNat_and]
    exact Nat.le_trans Nat.and_le_right (by decide)
  show 0 ≤ IntKind.i64.wrap ((BitVec.ofInt 64 y &&& BitVec.ofInt 64 127).toNat : Int) ∧ IntKind.i64.wrap ((BitVec.ofInt 64 y &&& BitVec.ofInt 64 127).toNat : Int) ≤ 127
  rw [← wrapA_eq, wrap64 (by omega) (by omega)]
  omega
def cnt (b : T_Bits) : Nat → Int
  | 0 => 0
  | i + 1 => cnt b i + swar (wn b i : Int)
theorem cnt_range {b : T_Bits} : ∀ i, 0 ≤ cnt b i ∧ cnt b i ≤ 127 * i
  | 0 => by simp [cnt]
  | i + 1 => by
    have h1 := cnt_range (b := b) i
    have h2 := swar_range (wn b i : Int)
    simp only [cnt]
    omega
def G5 := addG G4 81 conOC
theorem env5 : EnvV Tryz.prog tt.get G5 := env4.add oc_ok
theorem G5_oc : G5 81 = conOC := rfl
def conCount : Con := .pure (fun args _ => match args with | [v] => IsBits v | _ => False) (fun args _ => match args with | [v] => .int .i64 (cnt (bOf v) 4) | _ => undef)
def stCnt (hp : Hp) (top : Nat) (b : T_Bits) (i : Nat) : SS := ⟨[(3, .int .i64 (cnt b i), true), (6, .agg ⟨bl b⟩, true), (7, .int .i64 (i : Int), true)], hp.sets [(top, some (.cells true 0 (bl b)))], top + 1⟩
theorem count_ok : ConOk Tryz.prog 56 conCount := by
  refine .mkRd fn56_ok ?_ ?_
  · rintro args hp h
    match args, h with
    | [_], ⟨b, rfl, hb⟩ => rfl
  intro args hp hpre top hcl hsc
  match args, hpre with
  | [_], ⟨b, rfl, hb⟩ =>
  refine CalledOk.of_fun tt_ok fn56_ok rfl 16 rfl [.tmp 2] rfl (show 1 ≤ 16 by decide) ?_
  refine CW.vc env5 [0, 1, 2, 3, 5, 6, 7, 8] (by kernel_rfl) ?_
  (repeat ((try refine Vc.mk' ?_); simp (config := { maxSteps := 6000000 }) only [go_sem, bl_len, bl_take, bOf_bl]))
  refine CW.loopR (stCnt hp top b) (fun k => k ≤ 4) (fun k => 4 - k) 0 (by omega) ?_ ?_
  · exact (by refine SubR.mk' [top] hcl (by simp) (by simp) rfl (frSub_ok ?_) ?_ ?_ <;> simp [frSub, lkG, ren, UpdOk.nil, UpdOk.cons, renOO_some, renO_cells, rn_base, set_same, Keep.set, Keep.refl, bl_ren, cnt])
  · rintro i hi
    by_cases hlt : i < 4
    · have h4 : (i : Int) < 4 := by omega
      have h3 : i ≤ 3 := by omega
      have hu : U64 (wn b i : Int) = True := eq_true ⟨by omega, by have := wn_lt hb i; omega⟩
      refine CW.vc env5 [0, 1, 2, 3, 5, 6, 7, 8] (by kernel_rfl) ?_
      (repeat ((try refine Vc.mk' ?_); simp (config := { maxSteps := 6000000 }) only [go_sem, bl_len, Nat.mul_one, stCnt, hlt, h4, sindex, Int.toNat_natCast, bl_get hb hlt, G5_oc, conOC, hu]))
      have hw : wrapA .i64 (cnt b i + swar (wn b i : Int)) = cnt b (i + 1) := by
        have h1 := cnt_range (b := b) i
        have h2 := swar_range (wn b i : Int)
        rw [wrap64 (by omega) (by omega)]; rfl
      refine .mk (i + 1) hlt (by omega) ((by refine SubR.mk' [top] hcl (by simp) (by simp) rfl (frSub_ok ?_) ?_ ?_ <;> simp [frSub, lkG, ren, UpdOk.nil, UpdOk.cons, renOO_some, renO_cells, rn_base, set_same, Keep.set, Keep.refl, bl_ren, wrap_succ hlt (by decide), hw]))
    · have hi4 : i = 4 := by omega
      have h4 : ¬ (i : Int) < 4 := by omega
      refine CW.vc env5 [0, 1, 2, 3, 5, 6, 7, 8] (by kernel_rfl) ?_
      (repeat ((try refine Vc.mk' ?_); simp (config := { maxSteps := 6000000 }) only [go_sem, stCnt, h4]))
      rw [hi4]
theorem at_get? {α : Type} [Inhabited α] {l : List α} {k : Nat} (h : k < l.length) : l.drop k = at' l k :: l.drop (k + 1) := by rw [at'_get _ _ h]; exact List.drop_eq_getElem_cons h
def G6 := addG (addG G5 56 conCount) 36 conText
theorem env6 : EnvV Tryz.prog tt.get G6 := (env5.add count_ok).add text_ok
def G10 := G6
theorem env10 : EnvV Tryz.prog tt.get G10 := env6
/-- the number of set bits below n -/
def popN (x : Nat) : Nat → Nat
  | 0 => 0
  | n + 1 => popN x n + (x.testBit n).toNat
theorem popN_filter {x : Nat} : ∀ n, ((List.range n).filter fun j => x.testBit j).length = popN x n
  | 0 => rfl
  | n + 1 => by
    rw [List.range_succ, List.filter_append, List.length_append, popN_filter n, popN]
    cases h : x.testBit n <;> simp [h]
theorem wf_len {i w : Nat} : (wf i w).length = popN w 64 := by
  unfold wf; rw [List.length_map, popN_filter]
theorem bitsL_pop {b : T_Bits} (hb : OkB b) : (bitsL b).length = popN (wn b 0) 64 + (popN (wn b 1) 64 + (popN (wn b 2) 64 + popN (wn b 3) 64)) := by
  rw [bitsL_split]
  simp only [List.length_append, wl_eq _ (wn_lt hb _), wf_len]
theorem shr_nat {w k : Nat} : shrI (w : Int) (k : Int) = ((w / 2 ^ (min k 64) : Nat) : Int) := by
  unfold shrI
  rw [Int.toNat_natCast]
  exact (Int.ofNat_fdiv w _).symm
def mk (m : Nat) : Nat → Nat
  | 0 => 0
  | n + 1 => m + 256 * mk m n
theorem and_split {c m y M : Nat} (hc : c < 256) (hm : m < 256) : (c + 256 * y) &&& (m + 256 * M) = (c &&& m) + 256 * (y &&& M) := by
  have e1 : c + 256 * y = 2 ^ 8 * y + c := by omega
  have e2 : m + 256 * M = 2 ^ 8 * M + m := by omega
  have hcm : c &&& m < 2 ^ 8 := Nat.lt_of_le_of_lt Nat.and_le_left hc
  have e3 : (c &&& m) + 256 * (y &&& M) = 2 ^ 8 * (y &&& M) + (c &&& m) := by omega
  rw [e1, e2, e3]
  refine Nat.eq_of_testBit_eq fun j => ?_
  rw [Nat.testBit_and, Nat.testBit_two_pow_mul_add _ hc, Nat.testBit_two_pow_mul_add _ hm, Nat.testBit_two_pow_mul_add _ hcm]
  split <;> rw [Nat.testBit_and]
def n1 (M x : Nat) : Nat := (x / 2 &&& M) + (x &&& M)
def n2 (M x : Nat) : Nat := (x / 4 &&& M) + (x &&& M)
def n3 (M x : Nat) : Nat := (x / 16 + x) &&& M
theorem b1 : ∀ c : Fin 256, ∀ d : Fin 2, (c.val / 2 + 128 * d.val) &&& 85 = c.val / 2 &&& 85 := by decide +kernel
theorem b2 : ∀ c : Fin 256, ∀ d : Fin 4, (c.val / 4 + 64 * d.val) &&& 51 = c.val / 4 &&& 51 := by decide +kernel
theorem b12 : ∀ c : Fin 256, n1 85 c.val < 256 ∧ n2 51 (n1 85 c.val) < 256 ∧ n2 51 (n1 85 c.val) % 16 ≤ 4 ∧ n2 51 (n1 85 c.val) / 16 ≤ 4 ∧ n3 15 (n2 51 (n1 85 c.val)) = popN c.val 8 := by decide +kernel
theorem b3 : ∀ c : Fin 5, ∀ e : Fin 5, ∀ d : Fin 5, (e.val + 16 * d.val + (c.val + 16 * e.val)) &&& 15 = (e.val + (c.val + 16 * e.val)) &&& 15 := by decide +kernel
theorem n1_split {c y M : Nat} (hc : c < 256) : n1 (85 + 256 * M) (c + 256 * y) = n1 85 c + 256 * n1 M y := by
  unfold n1
  have e : (c + 256 * y) / 2 = (c / 2 + 128 * (y % 2)) + 256 * (y / 2) := by omega
  rw [e, and_split (by omega) (by decide), and_split hc (by decide), show (c / 2 + 128 * (y % 2)) &&& 85 = c / 2 &&& 85 from b1 ⟨c, hc⟩ ⟨y % 2, by omega⟩]
  omega
theorem n2_split {c y M : Nat} (hc : c < 256) : n2 (51 + 256 * M) (c + 256 * y) = n2 51 c + 256 * n2 M y := by
  unfold n2
  have e : (c + 256 * y) / 4 = (c / 4 + 64 * (y % 4)) + 256 * (y / 4) := by omega
  rw [e, and_split (by omega) (by decide), and_split hc (by decide), show (c / 4 + 64 * (y % 4)) &&& 51 = c / 4 &&& 51 from b2 ⟨c, hc⟩ ⟨y % 4, by omega⟩]
  omega
/-- as bytes -/
def bys (x : Nat) : Nat → Nat
  | 0 => 0
  | n + 1 => popN (x % 256) 8 + 256 * bys (x / 256) n
theorem n12_low {x : Nat} : ∀ n, n2 (mk 51 n) (n1 (mk 85 n) x) % 16 ≤ 4
  | 0 => by simp [mk, n2]
  | n + 1 => by
    have h : n1 85 (x % 256) < 256 ∧ n2 51 (n1 85 (x % 256)) < 256 ∧ n2 51 (n1 85 (x % 256)) % 16 ≤ 4 ∧ n2 51 (n1 85 (x % 256)) / 16 ≤ 4 ∧ n3 15 (n2 51 (n1 85 (x % 256))) = popN (x % 256) 8 := b12 ⟨x % 256, by omega⟩
    have e : x = x % 256 + 256 * (x / 256) := by omega
    have e1 : n1 (mk 85 (n + 1)) x = n1 85 (x % 256) + 256 * n1 (mk 85 n) (x / 256) := by
      conv => lhs; rw [e]
      exact n1_split (by omega)
    rw [e1, show mk 51 (n + 1) = 51 + 256 * mk 51 n from rfl, n2_split h.1]
    have := h.2.2.1
    omega
theorem n3_all : ∀ (n x : Nat), n3 (mk 15 n) (n2 (mk 51 n) (n1 (mk 85 n) x)) = bys x n
  | 0, x => by simp [mk, n3, bys]
  | n + 1, x => by
    have h : n1 85 (x % 256) < 256 ∧ n2 51 (n1 85 (x % 256)) < 256 ∧ n2 51 (n1 85 (x % 256)) % 16 ≤ 4 ∧ n2 51 (n1 85 (x % 256)) / 16 ≤ 4 ∧ n3 15 (n2 51 (n1 85 (x % 256))) = popN (x % 256) 8 := b12 ⟨x % 256, by omega⟩
    have hl := n12_low (x := x / 256) n
    have ih := n3_all n (x / 256)
    have e : x = x % 256 + 256 * (x / 256) := by omega
    have e1 : n1 (mk 85 (n + 1)) x = n1 85 (x % 256) + 256 * n1 (mk 85 n) (x / 256) := by
      conv => lhs; rw [e]
      exact n1_split (by omega)
    rw [e1, show mk 51 (n + 1) = 51 + 256 * mk 51 n from rfl, show mk 15 (n + 1) = 15 + 256 * mk 15 n from rfl, n2_split h.1, bys, ← ih, ← h.2.2.2.2]
    obtain ⟨h1, h2, h3, h4, _⟩ := h
    generalize n2 51 (n1 85 (x % 256)) = c at *
    generalize n2 (mk 51 n) (n1 (mk 85 n) (x / 256)) = y at *
    unfold n3
    have e2 : (c + 256 * y) / 16 + (c + 256 * y) = (c / 16 + 16 * (y % 16) + c) + 256 * (y / 16 + y) := by omega
    have hb := b3 ⟨c % 16, by omega⟩ ⟨c / 16, by omega⟩ ⟨y % 16, by omega⟩
    simp only at hb
    have e3 : c % 16 + 16 * (c / 16) = c := by omega
    rw [e3] at hb
    rw [e2, and_split (by omega) (by decide), hb]
theorem popN_mod {x : Nat} : ∀ n, n ≤ 8 → popN (x % 256) n = popN x n
  | 0, _ => rfl
  | n + 1, h => by
    rw [popN, popN, popN_mod n (by omega), show x % 256 = x % 2 ^ 8 from rfl, Nat.testBit_mod_two_pow]
    simp [show n < 8 from by omega]
theorem popN_split {x : Nat} : ∀ m, popN x (8 + m) = popN (x % 256) 8 + popN (x / 256) m
  | 0 => by rw [popN_mod 8 (by omega)]; rfl
  | m + 1 => by
    have e : (x / 256).testBit m = x.testBit (8 + m) := by
      rw [show x / 256 = x / 2 ^ 8 from rfl, Nat.testBit_div_two_pow]; congr 1; omega
    show popN x (8 + m) + (x.testBit (8 + m)).toNat = popN (x % 256) 8 + (popN (x / 256) m + ((x / 256).testBit m).toNat)
    rw [popN_split m, e]; omega
theorem popN_le {x : Nat} : ∀ n, popN x n ≤ n
  | 0 => Nat.le_refl _
  | n + 1 => by
    have := popN_le (x := x) n
    have h2 : (x.testBit n).toNat ≤ 1 := by cases x.testBit n <;> simp
    rw [popN]; omega
theorem bys_sum {x : Nat} : ∃ p0 p1 p2 p3 p4 p5 p6 p7 : Nat, (p0 ≤ 8 ∧ p1 ≤ 8 ∧ p2 ≤ 8 ∧ p3 ≤ 8 ∧ p4 ≤ 8 ∧ p5 ≤ 8 ∧ p6 ≤ 8 ∧ p7 ≤ 8) ∧ popN x 64 = p0 + (p1 + (p2 + (p3 + (p4 + (p5 + (p6 + p7)))))) ∧
    bys x 8 = p0 + 256 * (p1 + 256 * (p2 + 256 * (p3 + 256 * (p4 + 256 * (p5 + 256 * (p6 + 256 * p7)))))) := by
  have l : ∀ y : Nat, popN (y % 256) 8 ≤ 8 := fun y => popN_le 8
  refine ⟨popN (x % 256) 8, popN (x / 256 % 256) 8, popN (x / 256 / 256 % 256) 8, popN (x / 256 / 256 / 256 % 256) 8, popN (x / 256 / 256 / 256 / 256 % 256) 8, popN (x / 256 / 256 / 256 / 256 / 256 % 256) 8, popN (x / 256 / 256 / 256 / 256 / 256 / 256 % 256) 8, popN (x / 256 / 256 / 256 / 256 / 256 / 256 / 256 % 256) 8, ⟨l _, l _, l _, l _, l _, l _, l _, l _⟩, ?_, ?_⟩
  · rw [popN_split (x := x) 56, popN_split (x := x / 256) 48, popN_split (x := x / 256 / 256) 40, popN_split (x := x / 256 / 256 / 256) 32, popN_split (x := x / 256 / 256 / 256 / 256) 24, popN_split (x := x / 256 / 256 / 256 / 256 / 256) 16, popN_split (x := x / 256 / 256 / 256 / 256 / 256 / 256) 8, popN_mod 8 (Nat.le_refl 8)]
    rw [popN_mod (x := x / 256 / 256 / 256 / 256 / 256 / 256 / 256) 8 (Nat.le_refl 8)]
  · simp only [bys]; omega
theorem oc1_nat {w : Nat} (hw : w < 18446744073709551616) : oc1 (w : Int) = (n1 6148914691236517205 w : Nat) := by
  have h1 : shrI (w : Int) 1 = ((w / 2 : Nat) : Int) := shr_nat (k := 1)
  have h2 := and_u64 (x := w / 2) (y := 6148914691236517205) (by omega) (by decide)
  have h3 := and_u64 (x := w) (y := 6148914691236517205) hw (by decide)
  have l1 : w / 2 &&& 6148914691236517205 ≤ 6148914691236517205 := Nat.and_le_right
  have l2 : w &&& 6148914691236517205 ≤ 6148914691236517205 := Nat.and_le_right
  unfold oc1 n1
  rw [h1, show (6148914691236517205 : Int) = ((6148914691236517205 : Nat) : Int) from rfl, h2, h3, wrap_u64 (by omega) (by omega)]
  rfl
theorem oc2_nat {w : Nat} (hw : w < 18446744073709551616) : oc2 (w : Int) = (n2 3689348814741910323 w : Nat) := by
  have h1 : shrI (w : Int) 2 = ((w / 4 : Nat) : Int) := shr_nat (k := 2)
  have h2 := and_u64 (x := w / 4) (y := 3689348814741910323) (by omega) (by decide)
  have h3 := and_u64 (x := w) (y := 3689348814741910323) hw (by decide)
  have l1 : w / 4 &&& 3689348814741910323 ≤ 3689348814741910323 := Nat.and_le_right
  have l2 : w &&& 3689348814741910323 ≤ 3689348814741910323 := Nat.and_le_right
  unfold oc2 n2
  rw [h1, show (3689348814741910323 : Int) = ((3689348814741910323 : Nat) : Int) from rfl, h2, h3, wrap_u64 (by omega) (by omega)]
  rfl
theorem oc3_nat {w : Nat} (hw : w ≤ 7378697629483820646) : oc3 (w : Int) = (n3 1085102592571150095 w : Nat) := by
  have h1 : shrI (w : Int) 4 = ((w / 16 : Nat) : Int) := shr_nat (k := 4)
  have h2 := and_u64 (x := w / 16 + w) (y := 1085102592571150095) (by omega) (by decide)
  unfold oc3 n3
  rw [h1, wrap_u64 (by omega) (by omega), show (1085102592571150095 : Int) = ((1085102592571150095 : Nat) : Int) from rfl]
  exact h2
theorem oc4_nat {w d : Nat} {k : Int} (hd : shrI (w : Int) k = ((w / d : Nat) : Int)) (hw : w + w / d < 18446744073709551616) : oc4 k (w : Int) = ((w + w / d : Nat) : Int) := by
  unfold oc4
  rw [hd]
  generalize w / d = q at hw
  rw [wrap_u64 (by omega) (by omega)]; rfl
theorem and127 {w : Nat} (hw : w < 9223372036854775808) : bitsI .and .i64 (w : Int) 127 = ((w % 128 : Nat) : Int) := by
  have h : (BitVec.ofInt 64 (w : Int) &&& BitVec.ofInt 64 127).toNat = w % 128 := by
    rw [BitVec.toNat_and, bv_nat (by omega)]
    exact Nat.and_two_pow_sub_one_eq_mod w 7
  show IntKind.i64.wrap ((BitVec.ofInt 64 (w : Int) &&& BitVec.ofInt 64 127).toNat : Int) = _
  rw [h, ← wrapA_eq, wrap64 (by omega) (by omega)]
theorem swar_pop {w : Nat} (hw : w < 18446744073709551616) : swar (w : Int) = (popN w 64 : Int) := by
  obtain ⟨p0, p1, p2, p3, p4, p5, p6, p7, ⟨l0, l1, l2, l3, l4, l5, l6, l7⟩, hp, hb⟩ := bys_sum (x := w)
  have a1 : n1 6148914691236517205 w ≤ 12297829382473034410 := by
    unfold n1
    have l1 : w / 2 &&& 6148914691236517205 ≤ 6148914691236517205 := Nat.and_le_right
    have l2 : w &&& 6148914691236517205 ≤ 6148914691236517205 := Nat.and_le_right
    omega
  have a2 : n2 3689348814741910323 (n1 6148914691236517205 w) ≤ 7378697629483820646 := by
    unfold n2
    have l1 : n1 6148914691236517205 w / 4 &&& 3689348814741910323 ≤ 3689348814741910323 := Nat.and_le_right
    have l2 : n1 6148914691236517205 w &&& 3689348814741910323 ≤ 3689348814741910323 := Nat.and_le_right
    omega
  have a3 : n3 1085102592571150095 (n2 3689348814741910323 (n1 6148914691236517205 w)) = bys w 8 := n3_all 8 w
  unfold swar
  rw [oc1_nat hw, oc2_nat (by omega), oc3_nat a2, a3, hp]
  generalize bys w 8 = z at hb
  have e8 : oc4 8 (z : Int) = ((z + z / 256 : Nat) : Int) := oc4_nat (d := 256) (shr_nat (k := 8)) (by omega)
  rw [e8]
  generalize hy : z + z / 256 = y
  have e16 : oc4 16 (y : Int) = ((y + y / 65536 : Nat) : Int) := oc4_nat (d := 65536) (shr_nat (k := 16)) (by omega)
  rw [e16]
  generalize hu : y + y / 65536 = u
  have e32 : oc4 32 (u : Int) = ((u + u / 4294967296 : Nat) : Int) := oc4_nat (d := 4294967296) (shr_nat (k := 32)) (by omega)
  rw [e32, wrap64 (by omega) (by omega), and127 (by omega)]
  have q1 : z / 256 = p1 + 256 * (p2 + 256 * (p3 + 256 * (p4 + 256 * (p5 + 256 * (p6 + 256 * p7))))) := by omega
  have y2 : y = (p0 + p1) + 256 * ((p1 + p2) + 256 * ((p2 + p3) + 256 * ((p3 + p4) + 256 * ((p4 + p5) + 256 * ((p5 + p6) + 256 * ((p6 + p7) + 256 * p7)))))) := by omega
  have y3 : y / 65536 = (p2 + p3) + 256 * ((p3 + p4) + 256 * ((p4 + p5) + 256 * ((p5 + p6) + 256 * ((p6 + p7) + 256 * p7)))) := by clear hy q1 hb e8 e16 e32; omega
  have u2 : u = (p0 + p1 + p2 + p3) + 256 * ((p1 + p2 + p3 + p4) + 256 * ((p2 + p3 + p4 + p5) + 256 * ((p3 + p4 + p5 + p6) + 256 * ((p4 + p5 + p6 + p7) + 256 * ((p5 + p6 + p7) + 256 * ((p6 + p7) + 256 * p7)))))) := by clear hy q1 hb e8 e16 e32; omega
  have u3 : u / 4294967296 = (p4 + p5 + p6 + p7) + 256 * ((p5 + p6 + p7) + 256 * ((p6 + p7) + 256 * p7)) := by clear hy q1 hb y2 y3 hu e8 e16 e32; omega
  have e : (u + u / 4294967296) % 128 = p0 + (p1 + (p2 + (p3 + (p4 + (p5 + (p6 + p7)))))) := by
    rw [u3]; clear hy q1 hb y2 y3 hu u3 e8 e16 e32; omega
  rw [e]
theorem cnt_pop {a : T_Bits} (ha : OkB a) : cnt a 4 = ((popN (wn a 0) 64 + popN (wn a 1) 64 + popN (wn a 2) 64 + popN (wn a 3) 64 : Nat) : Int) := by
  simp only [cnt, swar_pop (wn_lt ha _)]
  omega
theorem cnt_len {a : T_Bits} (ha : OkB a) : cnt a 4 = ((bitsL a).length : Int) := by
  rw [cnt_pop ha, bitsL_pop ha]; omega
/-- the bits below n, rising -/
def lsN (b : T_Bits) (n : Nat) : List Int := ((List.range n).filter (hasB b)).map fun j : Nat => (j : Int) + 1
def lsB (b : T_Bits) : List Int := lsN b 256
def valB (l : List Bn) : List Int := l.map Subtype.val
theorem lsN_succ {b : T_Bits} {n : Nat} : lsN b (n + 1) = if hasB b n then lsN b n ++ [(n : Int) + 1] else lsN b n := by
  unfold lsN
  rw [List.range_succ, List.filter_append, List.map_append]
  cases h : hasB b n <;> simp [h]
theorem lsN_len {b : T_Bits} : ∀ n, (lsN b n).length ≤ n := fun n => by
  unfold lsN
  rw [List.length_map]
  exact Nat.le_trans (List.length_filter_le _ _) (by simp)
theorem val_wf {b : T_Bits} {i : Nat} (hi : i < 4) : valB (wf i (wn b i)) = ((List.range' (64 * i) 64).filter (hasB b)).map fun j : Nat => (j : Int) + 1 := by
  unfold valB wf
  rw [List.range'_eq_map_range, List.filter_map, List.map_map, List.map_map]
  have e : (List.range 64).filter (fun j => (wn b i).testBit j) = (List.range 64).filter (hasB b ∘ fun x => 64 * i + x) := by
    refine List.filter_congr fun j hj => ?_
    rw [List.mem_range] at hj
    exact (hasB_at hj).symm
  rw [e]
  refine List.map_congr_left fun j hj => ?_
  have hj : j < 64 := List.mem_range.1 (List.mem_filter.1 hj).1
  show (toBn _).1 = _
  rw [toBn_val ⟨by omega, by omega⟩]
  simp only [Function.comp]
  omega
theorem valB_app (l m : List Bn) : valB (l ++ m) = valB l ++ valB m := by simp [valB]
theorem ls_eq {b : T_Bits} (hb : OkB b) : valB (bitsL b) = lsB b := by
  rw [bitsL_split]
  simp only [wl_eq _ (wn_lt hb _), valB_app, val_wf (show 0 < 4 by decide), val_wf (show 1 < 4 by decide), val_wf (show 2 < 4 by decide), val_wf (show 3 < 4 by decide)]
  unfold lsB lsN
  have e : List.range 256 = List.range' (64 * 0) 64 ++ (List.range' (64 * 1) 64 ++ (List.range' (64 * 2) 64 ++ List.range' (64 * 3) 64)) := by decide +kernel
  rw [e]
  simp only [List.filter_append, List.map_append]
theorem ls_len {b : T_Bits} : (lsB b).length ≤ 256 := lsN_len 256
theorem hasB_put {b : T_Bits} {k j : Nat} (hk : k < 256) (hj : j < 256) : hasB (putB b k) j = (hasB b j || decide (j = k)) := by
  have h1 : 64 * (j / 64) + j % 64 = j := by omega
  unfold hasB
  rw [putB_bit hk (by omega) (Nat.mod_lt _ (by decide)), h1]
theorem has_ext {a b : T_Bits} (ha : OkB a) (hb : OkB b) (h : ∀ k, k < 256 → hasB a k = hasB b k) : a = b := by
  refine bits_ext ha hb fun i j hi hj => ?_
  rw [← hasB_at hj, ← hasB_at hj]
  exact h _ (by omega)
theorem hasB_zb {k : Nat} : hasB zb k = false := zb_bit
theorem ls_nil {b : T_Bits} (hb : OkB b) (h : lsB b = []) : b = zb := by
  refine has_ext hb zb_ok fun k hk => ?_
  rw [hasB_zb]
  unfold lsB lsN at h
  have h2 := List.map_eq_nil_iff.1 h
  rw [List.filter_eq_nil_iff] at h2
  have := h2 k (List.mem_range.2 hk)
  simpa using this
theorem ls_zb : lsB zb = [] := by
  unfold lsB lsN
  have : (List.range 256).filter (hasB zb) = [] := by
    rw [List.filter_eq_nil_iff]; intro a _; rw [hasB_zb]; simp
  rw [this]; rfl
theorem ls_mem {b : T_Bits} {x : Int} : x ∈ lsB b ↔ ∃ k : Nat, k < 256 ∧ x = (k : Int) + 1 ∧ hasB b k = true := by
  unfold lsB lsN
  rw [List.mem_map]
  constructor
  · rintro ⟨k, h1, h2⟩
    obtain ⟨h3, h4⟩ := List.mem_filter.1 h1
    exact ⟨k, List.mem_range.1 h3, h2.symm, h4⟩
  · rintro ⟨k, h1, h2, h3⟩
    exact ⟨k, List.mem_filter.2 ⟨List.mem_range.2 h1, h3⟩, h2.symm⟩
/-- the bits rise -/
theorem ls_sorted {b : T_Bits} : List.Pairwise (· < ·) (lsB b) := by
  unfold lsB lsN
  rw [List.pairwise_map]
  refine List.Pairwise.filter _ ?_
  refine List.Pairwise.imp ?_ List.pairwise_lt_range
  intro a b h; omega
theorem G10_right : G10 67 = con1 rightB := rfl
theorem G10_one : G10 94 = conOne := rfl
def pairB (c : Bool) (x : T_Bits) : Value := .tuple ⟨[.agg ⟨bl (if c then x else zb)⟩, .int .i64 (if c then 0 else 2)]⟩
theorem pairB_t {x : T_Bits} : pairB true x = .tuple ⟨[.agg ⟨bl x⟩, .int .i64 0]⟩ := rfl
theorem pairB_f {x : T_Bits} : pairB false x = .tuple ⟨[.agg ⟨bl zb⟩, .int .i64 2]⟩ := rfl
def conSet (f : T_Bits → Nat → T_Bits) : Con := .pure (fun args _ => match args with | [v, .int .i64 _] => IsBits v | _ => False) (fun args _ => match args with | [v, n] => pairB (rightB (intOf n)) (f (bOf v) (intOf n - 1).toNat) | _ => undef)
theorem with_ok : ConOk Tryz.prog 68 (conSet putB) := by
  refine .mkRd fn68_ok ?_ ?_
  · rintro args hp h
    match args, h with
    | [_, .int .i64 n], ⟨b, rfl, hb⟩ => rfl
  intro args hp hpre top hcl hsc
  match args, hpre with
  | [_, .int .i64 n], ⟨b, rfl, hb⟩ =>
  refine CalledOk.of_fun tt_ok fn68_ok rfl 24 rfl [.cell 4 31, .tmp 5] rfl (show 2 ≤ 24 by decide) ?_
  simp only [intOf_int, bOf_bl]
  cases hr : rightB n with
  | false =>
    refine CW.vc env10 [0, 1, 2, 4, 5, 6, 7, 10] (by kernel_rfl) ?_
    (repeat ((try refine Vc.mk' ?_); simp (config := { maxSteps := 6000000 }) only [go_sem, Nat.reduceAdd, Nat.mul_one, G10_right, con1, hr, pairB_f]))
    rfl
  | true =>
    have hr1 := hr
    simp only [rightB, Bool.and_eq_true, decide_eq_true_eq] at hr1
    obtain ⟨h1, h2⟩ := hr1
    obtain ⟨k, rfl⟩ : ∃ k : Nat, n = (k : Int) + 1 := ⟨(n - 1).toNat, by omega⟩
    have hk : k < 256 := by omega
    have h4 : k / 64 < 4 := by omega
    have h5 : k / 64 ≤ 3 := by omega
    have ea : bitsI .or .u64 ((wn b (k / 64) : Nat) : Int) (bitM k) = ((wn b (k / 64) ||| 2 ^ (k % 64) : Nat) : Int) := or_u64 (wn_lt hb _) (pow_lt (Nat.mod_lt _ (by decide)))
    refine CW.vc env10 [0, 1, 2, 4, 5, 6, 7, 10] (by kernel_rfl) ?_
    (repeat ((try refine Vc.mk' ?_); simp (config := { maxSteps := 6000000 }) only [go_sem, reduceCtorEq, Nat.reduceAdd, Nat.reduceLeDiff, bl_len, bl_take, bl_one, Nat.mul_one, G10_right, G10_one, con1, conOne, hr, h1, h2, kp1, h4, h5, bl_get hb h4, bl_splice h4, ea, pairB_t]))
    rfl
def G11 := addG G10 68 (conSet putB)
theorem env11 : EnvV Tryz.prog tt.get G11 := env10.add with_ok
theorem dec_small {u : Nat} (h : u < 10) : Lib.decDigits u = [UInt8.ofNat (48 + u)] := by rw [Lib.decDigits, dif_pos h]
theorem dec_big {u : Nat} (h : ¬ u < 10) : Lib.decDigits u = Lib.decDigits (u / 10) ++ [UInt8.ofNat (48 + u % 10)] := by rw [Lib.decDigits, dif_neg h]
theorem join_snoc {sep x : List UInt8} {xs : List (List UInt8)} : Lib.join (xs ++ [x]) sep = if xs.length = 0 then x else Lib.join xs sep ++ sep ++ x := by
  cases xs with
  | nil => simp [Lib.join_one]
  | cons y r =>
    rw [List.cons_append, Lib.join_cons, Lib.join_cons]
    simp [Lib.joinTail, List.append_assoc]
def tk (l : List Int) (k : Nat) : List UInt8 := Lib.join ((l.take k).map Lib.itoa) [32]
theorem tk_succ {l : List Int} {k : Nat} (h : k < l.length) : tk l (k + 1) = (if k = 0 then [] else tk l k ++ [32]) ++ Lib.itoa (at' l k) := by
  unfold tk
  rw [List.take_succ_eq_append_getElem h, List.map_append, List.map_cons, List.map_nil, join_snoc, at'_get _ _ h, List.length_map, List.length_take, Nat.min_eq_left (by omega)]
  by_cases h0 : k = 0
  · rw [if_pos h0, if_pos h0]; rfl
  · rw [if_neg h0, if_neg h0]
def textN (l : List Int) : List UInt8 := if l.length = 0 then [45] else tk l l.length
theorem ls_rng {b : T_Bits} {k : Nat} (h : k < (lsB b).length) : 1 ≤ at' (lsB b) k ∧ at' (lsB b) k ≤ 256 := by
  have : at' (lsB b) k ∈ lsB b := by rw [at'_get _ _ h]; exact List.getElem_mem h
  obtain ⟨j, h1, h2, _⟩ := ls_mem.1 this
  omega
theorem textN_eq {b : T_Bits} (hb : OkB b) : textB b = textN (lsB b) := by
  unfold textB textN tk
  have e : (bitsL b).map txt = (lsB b).map Lib.itoa := by rw [← ls_eq hb]; simp [valB, txt]
  have e2 : (bitsL b).length = (lsB b).length := by rw [← ls_eq hb]; simp [valB]
  rw [e, e2, List.take_length]
theorem eqB_self {l : List UInt8} : eqB l l = true := by rw [eqB_eq]; simp
end Go.Proofs.YthpibnpeaidabaaGreatDoor.Dm
