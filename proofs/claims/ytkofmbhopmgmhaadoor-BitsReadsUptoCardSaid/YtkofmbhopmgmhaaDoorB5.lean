/- Each, and what ranges over it. -/
import Derived.Test.YtkofmbhopmgmhaaDoorBW
import Derived.Lib.ItoaLen
set_option linter.unusedSimpArgs false
set_option linter.unusedVariables false
namespace Go.Proofs.YtkofmbhopmgmhaaDoor.Dm
open Go.Dm
set_option maxHeartbeats 4000000

def eachF (b : Nat) : Value := .func (.func 55) ⟨[]⟩ ⟨[.pointer (some ⟨b, 0, none⟩)]⟩
def conEach : Con := .det (fun args _ _ => match args with | [v] => IsBits v | _ => False) (fun args _ top => match args with | [v] => (eachF top, [(top, some (.cells true 0 (bl (bOf v))))], top + 1) | _ => (undef, [], top))

theorem each_ok : ConOk Tryd.prog 42 conEach := by
  refine .mkDet fn42_ok ?_
  intro args hp top hpre hcl hsc
  match args, hpre with
  | [_], ⟨b, rfl, hb⟩ =>
  simp only [bOf_bl]
  refine CalledOk.of_fun tt_ok fn42_ok rfl 4 rfl [.tmp 2] rfl (show 1 ≤ 4 by decide) ?_
  refine CW.vc env2 [0, 1, 2] (by kernel_rfl) ?_
  (simp only [go_sem, reduceIte, reduceCtorEq, Nat.reduceAdd, Nat.reduceMul, Nat.reduceSub, Nat.reduceLT, Nat.reduceLeDiff, Nat.reduceEqDiff, Int.reduceEq, Int.reduceLT, Int.reduceLE, Int.reduceNe, rem64, mask64, c_iu, wrapu_mod, bl_len, bl_take, bl_ren, bl_app, bl_one, bOf_bl, Nat.mul_one, evList, evO, evT]; repeat (refine Vc.mk' ?_; simp only [go_sem, reduceIte, reduceCtorEq, Nat.reduceAdd, Nat.reduceMul, Nat.reduceSub, Nat.reduceLT, Nat.reduceLeDiff, Nat.reduceEqDiff, Int.reduceEq, Int.reduceLT, Int.reduceLE, Int.reduceNe, rem64, mask64, c_iu, wrapu_mod, bl_len, bl_take, bl_ren, bl_app, bl_one, bOf_bl, Nat.mul_one, evList, evO, evT]))
  exact ⟨[top], by simp, by simp, by simp, by simp [frSub, lkG, ren, renL, renL_set, renL_ints, UpdOk.nil, UpdOk.cons, renOO_some, renO_cells, renO_map, renOO_mkOb, rn_base, rn_add, ren_mkSl, Enc.flat_ren, set_same, set_ne, sets_cons, sets_nil, Keep.set, Keep.setK, Keep.refl, eachF, bl_ren], by simp [frSub, lkG, ren, renL, renL_set, renL_ints, UpdOk.nil, UpdOk.cons, renOO_some, renO_cells, renO_map, renOO_mkOb, rn_base, rn_add, ren_mkSl, Enc.flat_ren, set_same, set_ne, sets_cons, sets_nil, Keep.set, Keep.setK, Keep.refl, eachF, bl_ren], by simp [frSub, lkG, ren, renL, renL_set, renL_ints, UpdOk.nil, UpdOk.cons, renOO_some, renO_cells, renO_map, renOO_mkOb, rn_base, rn_add, ren_mkSl, Enc.flat_ren, set_same, set_ne, sets_cons, sets_nil, Keep.set, Keep.setK, Keep.refl, eachF, bl_ren]⟩
def G3 := addG (addG (addG (addG G2 21 (conBin (· &&& ·))) 23 (conBin (· ||| ·))) 25 (conBin andN)) 42 conEach
theorem env3 : EnvV Tryd.prog tt.get G3 := (((env2.add rand_ok).add ror_ok).add randnot_ok).add each_ok
def G4 := addG (addG (addG (addG G3 50 conTz) 58 conLen64) 52 conItoa) 53 conJoin
theorem env4 : EnvV Tryd.prog tt.get G4 := (((env3.add tz_ok).add len64_ok).add itoa_ok).add join_ok
theorem G4_each : G4 42 = conEach := rfl
theorem G4_itoa : G4 52 = conItoa := rfl
theorem G4_join : G4 53 = conJoin := rfl
/-- the numbers of bits as texts -/
def txt (x : Bn) : List UInt8 := Lib.itoa x.1
def S5 (hp : Hp) (top : Nat) (b : T_Bits) (pre : List Bn) : Hp × Nat := (hp.sets [(top, some (.cells true 0 (bl b))), (top + 1, some (.cells true 0 [mkSl (top + 3) (pre.map txt)])), (top + 2, some (.cells true 0 (bl b))), (top + 3, mkOb e_string (pre.map txt))], top + 4)
theorem txt_len (x : Bn) : (txt x).length ≤ 21 := Lib.itoa_length_le _ (by have := x.2.1; omega) (by have := x.2.2; omega)
theorem lens_txt : ∀ l : List Bn, Lib.lens (l.map txt) ≤ 21 * l.length
  | [] => by simp [Lib.lens]
  | x :: l => by
    have h1 := txt_len x
    have h2 := lens_txt l
    simp only [Lib.lens, List.map_cons, List.length_cons, List.sum_cons] at *
    omega
theorem join_txt (l : List Bn) (h : l.length ≤ 256) : (Lib.join (l.map txt) [32]).length ≤ 140737488355328 := by
  cases l with
  | nil => simp [Lib.join_nil]
  | cons x r =>
    have := lens_txt (x :: r)
    rw [List.map_cons, Lib.join_length]
    simp only [List.map_cons, List.length_cons, List.length_map, List.length_nil] at *
    omega
def textB (b : T_Bits) : List UInt8 := if (bitsL b).length = 0 then [45] else Lib.join ((bitsL b).map txt) [32]
def conText : Con := .pure (fun args hp => match args with | [v] => IsBits v ∧ hp 0 = some tzO ∧ hp 1 = some powO | _ => False) (fun args _ => match args with | [v] => .string ⟨⟨textB (bOf v)⟩⟩ | _ => undef)
theorem sets_get : ∀ (us : Upds) (hp : Hp) i o, (hp.sets us) i = some o → (∃ p ∈ us, p.1 = i ∧ p.2 = some o) ∨ ((∀ p ∈ us, p.1 ≠ i) ∧ hp i = some o) := by
  intro us
  induction us with
  | nil => intro hp i o h; exact .inr ⟨fun _ h => (by cases h), h⟩
  | cons p us ih =>
    intro hp i o h
    obtain ⟨a, x⟩ := p
    rw [sets_cons] at h
    rcases ih _ i o h with ⟨p, h1, h2, h3⟩ | ⟨h1, h2⟩
    · exact .inl ⟨p, List.mem_cons_of_mem _ h1, h2, h3⟩
    · by_cases e : i = a
      · subst e
        rw [set_same] at h2
        exact .inl ⟨(i, x), List.mem_cons_self .., rfl, h2⟩
      · rw [set_ne _ _ _ _ e] at h2
        refine .inr ⟨?_, h2⟩
        intro p hp'
        cases hp' with
        | head => exact fun e' => e e'.symm
        | tail _ h => exact h1 p h
theorem sets_low : ∀ (us : Upds) (hp : Hp) (i : Nat), (∀ p ∈ us, i ≠ p.1) → (hp.sets us) i = hp i := by
  intro us
  induction us with
  | nil => intro hp i h; rfl
  | cons p us ih =>
    intro hp i h
    obtain ⟨a, x⟩ := p
    rw [sets_cons, ih _ _ (fun p hp' => h p (List.mem_cons_of_mem _ hp')), set_ne _ _ _ _ (h (a, x) (List.mem_cons_self ..))]
theorem flat_sets {hp : Hp} {top b1 : Nat} {us us0 : Upds} (hcl : Cl hp top) (hb : top ≤ b1) (h1 : ∀ p ∈ us, ∀ o, p.2 = some o → o.isC) (h0 : ∀ p ∈ us0, top ≤ p.1) : FlatOn b1 (hp.sets us0) (hp.sets us) := by
  intro i o e
  rcases sets_get us hp i o e with ⟨p, h2, _, h4⟩ | ⟨_, h2⟩
  · exact .inl (h1 p h2 o h4)
  · have := hcl.lt i o h2
    exact .inr ⟨by omega, o, by rw [sets_low us0 hp i (fun p hp' => by have := h0 p hp'; omega)]; exact h2⟩
theorem mkOb_isC {α : Type} {E : Enc α} {l : List α} : ∀ o, mkOb E l = some o → o.isC := by
  intro o e
  cases l with
  | nil => cases e
  | cons a l => cases e; trivial
def scN (n : Nat) : SFr → Prop
  | [] => True
  | (_, v, _) :: l => Sc n v ∧ scN n l
theorem scN.of {n : Nat} : ∀ {fr : SFr}, scN n fr → ∀ t v, evT fr t = some v → Sc n v
  | [], _, _, _, h => by cases h
  | (j, x, g) :: l, ⟨h1, h2⟩, t, v, hv => by
    simp only [evT, lkG] at hv
    cases hb : Nat.beq j t with
    | true =>
      rw [hb] at hv
      cases hv
      cases g with
      | true => exact h1
      | false => simp [undef, Sc, ScL]
    | false => rw [hb] at hv; exact scN.of h2 t v hv
mutual
theorem scUp {n m : Nat} (hm : n ≤ m) : ∀ {v : Value}, Sc n v → Sc m v
  | .bool _, _ => trivial
  | .int _ _, _ => trivial
  | .float _ _, _ => trivial
  | .complex _ _ _, _ => trivial
  | .string _, _ => trivial
  | .pointer none, _ => trivial
  | .pointer (some ⟨_, _, _⟩), h => Nat.lt_of_lt_of_le h hm
  | .slice none _ _, _ => trivial
  | .slice (some ⟨_, _, none⟩) _ _, h => Nat.lt_of_lt_of_le h hm
  | .slice (some ⟨_, _, some _⟩) _ _, _ => trivial
  | .map none, _ => trivial
  | .map (some _), h => Nat.lt_of_lt_of_le h hm
  | .chan _, _ => trivial
  | .func _ ⟨_⟩ ⟨_⟩, h => ⟨scLUp hm h.1, scLUp hm h.2⟩
  | .nilFunc, _ => trivial
  | .iface _ v, h => scUp (v := v) hm h
  | .nilIface, _ => trivial
  | .agg ⟨l⟩, h => scLUp (l := l) hm h
  | .tuple ⟨l⟩, h => scLUp (l := l) hm h
theorem scLUp {n m : Nat} (hm : n ≤ m) : ∀ {l : List Value}, ScL n l → ScL m l
  | [], _ => trivial
  | _ :: _, h => ⟨scUp hm h.1, scLUp hm h.2⟩
end
theorem clUp {hp : Hp} {n m : Nat} (h : Cl hp n) (hm : n ≤ m) : Cl hp m := by
  refine ⟨fun i o e => Nat.lt_of_lt_of_le (h.lt i o e) hm, fun i o e => ?_⟩
  have := h.sc i o e
  cases o with
  | cells rw z vs => exact scLUp hm this
  | map es clk => exact fun e he => ⟨scUp hm (this e he).1, scUp hm (this e he).2⟩
  | iter s p => trivial

theorem text_ok : ConOk Tryd.prog 36 conText := by
  refine .mkRd fn36_ok ?_ ?_
  · rintro args hp h
    match args, h with
    | [_], ⟨⟨b, rfl, hb⟩, _⟩ => rfl
  intro args hp hpre top hcl hsc
  match args, hpre with
  | [_], ⟨⟨b, rfl, hb⟩, ht, hp1⟩ =>
  simp only [bOf_bl]
  have hIb := isBits_bl hb
  have ht0 := hcl.lt _ _ ht
  have ht1 := hcl.lt _ _ hp1
  refine CalledOk.of_funT tt_ok fn36_ok rfl 18 rfl [.tmp 2] rfl (show 1 ≤ 18 by decide) ?_
  refine CT.seq (CT.of (CW.vc env4 [0, 1, 2, 3, 4, 6, 15] (by kernel_rfl) ?_))
  (simp only [go_sem, reduceIte, reduceCtorEq, Nat.reduceAdd, Nat.reduceMul, Nat.reduceSub, Nat.reduceLT, Nat.reduceLeDiff, Nat.reduceEqDiff, Int.reduceEq, Int.reduceLT, Int.reduceLE, Int.reduceNe, rem64, mask64, c_iu, wrapu_mod, bl_len, bl_take, bl_ren, bl_app, bl_one, bOf_bl, Nat.mul_one, G4_each, conEach, hIb]; repeat (refine Vc.mk' ?_; simp only [go_sem, reduceIte, reduceCtorEq, Nat.reduceAdd, Nat.reduceMul, Nat.reduceSub, Nat.reduceLT, Nat.reduceLeDiff, Nat.reduceEqDiff, Int.reduceEq, Int.reduceLT, Int.reduceLE, Int.reduceNe, rem64, mask64, c_iu, wrapu_mod, bl_len, bl_take, bl_ren, bl_app, bl_one, bOf_bl, Nat.mul_one, G4_each, conEach, hIb]))
  refine CT.seq (CT.of (CW.vc env4 [0, 1, 2, 3, 4, 6, 15] (by kernel_rfl) ?_))
  (simp only [go_sem, reduceIte, reduceCtorEq, Nat.reduceAdd, Nat.reduceMul, Nat.reduceSub, Nat.reduceLT, Nat.reduceLeDiff, Nat.reduceEqDiff, Int.reduceEq, Int.reduceLT, Int.reduceLE, Int.reduceNe, rem64, mask64, c_iu, wrapu_mod, bl_len, bl_take, bl_ren, bl_app, bl_one, bOf_bl, Nat.mul_one, G4_each, conEach, hIb]; repeat (refine Vc.mk' ?_; simp only [go_sem, reduceIte, reduceCtorEq, Nat.reduceAdd, Nat.reduceMul, Nat.reduceSub, Nat.reduceLT, Nat.reduceLeDiff, Nat.reduceEqDiff, Int.reduceEq, Int.reduceLT, Int.reduceLE, Int.reduceNe, rem64, mask64, c_iu, wrapu_mod, bl_len, bl_take, bl_ren, bl_app, bl_one, bOf_bl, Nat.mul_one, G4_each, conEach, hIb]))
  refine CT.seq (CT.seq (CT.of (CW.vc env4 [0, 1, 2, 3, 4, 6, 15] (by kernel_rfl) ?_)))
  (simp only [go_sem, reduceIte, reduceCtorEq, Nat.reduceAdd, Nat.reduceMul, Nat.reduceSub, Nat.reduceLT, Nat.reduceLeDiff, Nat.reduceEqDiff, Int.reduceEq, Int.reduceLT, Int.reduceLE, Int.reduceNe, rem64, mask64, c_iu, wrapu_mod, bl_len, bl_take, bl_ren, bl_app, bl_one, bOf_bl, Nat.mul_one, G4_each, conEach, hIb]; repeat (refine Vc.mk' ?_; simp only [go_sem, reduceIte, reduceCtorEq, Nat.reduceAdd, Nat.reduceMul, Nat.reduceSub, Nat.reduceLT, Nat.reduceLeDiff, Nat.reduceEqDiff, Int.reduceEq, Int.reduceLT, Int.reduceLE, Int.reduceNe, rem64, mask64, c_iu, wrapu_mod, bl_len, bl_take, bl_ren, bl_app, bl_one, bOf_bl, Nat.mul_one, G4_each, conEach, hIb]))
  refine CT.block ?_
  refine CT.range (g := .tmp 6) (p := 7) (q := 4) (Sd := fun xs => xs = bitsL b) (Sp := fun pre => pre <+: bitsL b) (N := (bitsL b).length) tt_ok Tryd.f55 (by kernel_rfl) fn55_ok.toFTOk (top + 3) ?hb1
    [(1, .pointer (some ⟨top, 0, none⟩), true), (3, .pointer (some ⟨top + 1, 0, none⟩), true), (6, eachF (top + 2), true)] (S5 hp top b) (fun _ _ _ => False) encB (fun _ => rfl) ?hp ?hq ?ho ?hd ?hgd [.pointer (some ⟨top + 2, 0, none⟩)] rfl
    ?h0 ?ht ?hfr ?hfl ?hfX tzT ?hT tzT_put ?hit ?hround ?hdone ?hret ?hexit
  case hb1 => exact Nat.le_add_right _ _
  case ho => rfl
  case hd => rfl
  case hgd => rfl
  case hp => decide
  case hq => decide
  case h0 => exact SubR.mk' [top, top + 1, top + 2, top + 3] hcl (by simp) (by simp) rfl (frSub_ok (by simp [frSub, lkG, ren, renL, renL_set, renL_ints, UpdOk.nil, UpdOk.cons, renOO_some, renO_cells, renO_map, renOO_mkOb, rn_base, rn_add, ren_mkSl, Enc.flat_ren, set_same, set_ne, sets_cons, sets_nil, Keep.set, Keep.setK, Keep.refl, bl_ren, eachF, mkSl_nil, mkOb_nil])) (by simp [frSub, lkG, ren, renL, renL_set, renL_ints, UpdOk.nil, UpdOk.cons, renOO_some, renO_cells, renO_map, renOO_mkOb, rn_base, rn_add, ren_mkSl, Enc.flat_ren, set_same, set_ne, sets_cons, sets_nil, Keep.set, Keep.setK, Keep.refl, bl_ren, eachF, mkSl_nil, mkOb_nil]) (by simp [frSub, lkG, ren, renL, renL_set, renL_ints, UpdOk.nil, UpdOk.cons, renOO_some, renO_cells, renO_map, renOO_mkOb, rn_base, rn_add, ren_mkSl, Enc.flat_ren, set_same, set_ne, sets_cons, sets_nil, Keep.set, Keep.setK, Keep.refl, bl_ren, eachF, mkSl_nil, mkOb_nil])
  case ht => exact fun pre => Nat.le_succ _
  case hfr => exact scN.of (by simp [scN, Sc, ScL, eachF])
  case hfl =>
    refine fun pre => flat_sets hcl (by omega) ?_ (by simp)
    intro p hp' o e
    simp only [List.mem_cons, List.not_mem_nil, or_false] at hp'
    rcases hp' with rfl | rfl | rfl | rfl
    · cases e; trivial
    · cases e; trivial
    · cases e; trivial
    · exact mkOb_isC o e
  case hfX => exact fun _ _ _ h => h.elim
  case hT =>
    intro pre φ own W H
    refine tzT_of H ?_
    show hp.sets _ 0 = _
    rw [sets_low _ _ _ (by simp; omega)]; exact ht
  case hit =>
    intro φ own W caps' hV H
    exact each_stops b hb (by show hp.sets _ 0 = _; rw [sets_low _ _ _ (by simp; omega)]; exact ht) (gb := top + 2) (rw := true) (by simp [S5, sets_cons, sets_nil, set_same, set_ne, bl]) hV H
  case hround =>
    intro pre x hlen
    refine CW.vc env4 [0, 1, 2, 3, 4, 6, 15] (by kernel_rfl) ?_
    have hx0 : 0 ≤ x.1 := by have := x.2.1; omega
    have hx1 : x.1 ≤ 9223372036854775807 := by have := x.2.2; omega
    have hll : (pre.map txt).length < 16777216 := by have := bitsL_len hb; simp; omega
    have hll2 : pre.length < 16777216 := by have := bitsL_len hb; omega
    have htx : Lib.itoa x.1 = txt x := rfl
    (simp only [go_sem, reduceIte, reduceCtorEq, Nat.reduceAdd, Nat.reduceMul, Nat.reduceSub, Nat.reduceLT, Nat.reduceLeDiff, Nat.reduceEqDiff, Int.reduceEq, Int.reduceLT, Int.reduceLE, Int.reduceNe, rem64, mask64, c_iu, wrapu_mod, bl_len, bl_take, bl_ren, bl_app, bl_one, bOf_bl, Nat.mul_one, S5, encB, G4_itoa, conItoa, hx0, hx1, set_lt ht1, hp1, htx, hll, hll2, List.length_map]; repeat (refine Vc.mk' ?_; simp only [go_sem, reduceIte, reduceCtorEq, Nat.reduceAdd, Nat.reduceMul, Nat.reduceSub, Nat.reduceLT, Nat.reduceLeDiff, Nat.reduceEqDiff, Int.reduceEq, Int.reduceLT, Int.reduceLE, Int.reduceNe, rem64, mask64, c_iu, wrapu_mod, bl_len, bl_take, bl_ren, bl_app, bl_one, bOf_bl, Nat.mul_one, S5, encB, G4_itoa, conItoa, hx0, hx1, set_lt ht1, hp1, htx, hll, hll2, List.length_map]))
    have e0 : top < top + 3 := by omega
    have e1 : top + 1 < top + 3 := by omega
    have e2 : top + 2 < top + 3 := by omega
    refine SubR.mk' (hp := hp) [top + 5] (clUp hcl (by omega)) (by simp) (by simp) rfl (frSub_ok (by simp [frSub, lkG, ren, renL, renL_set, renL_ints, UpdOk.nil, UpdOk.cons, renOO_some, renO_cells, renO_map, renOO_mkOb, rn_base, rn_add, ren_mkSl, Enc.flat_ren, set_same, set_ne, sets_cons, sets_nil, Keep.set, Keep.setK, Keep.refl])) (by simp [frSub, lkG, ren, renL, renL_set, renL_ints, UpdOk.nil, UpdOk.cons, renOO_some, renO_cells, renO_map, renOO_mkOb, rn_base, rn_add, ren_mkSl, Enc.flat_ren, set_same, set_ne, sets_cons, sets_nil, Keep.set, Keep.setK, Keep.refl]) ?_
    simp [frSub, lkG, ren, renL, renL_set, renL_ints, UpdOk.nil, UpdOk.cons, renOO_some, renO_cells, renO_map, renOO_mkOb, rn_base, rn_add, ren_mkSl, Enc.flat_ren, set_same, set_ne, sets_cons, sets_nil, Keep.set, Keep.setK, Keep.refl, bl_ren, rn_low e0, rn_low e1, rn_low e2]
  case hdone =>
    rintro xs rfl
    refine CT.seq (CT.of (CW.vc env4 [0, 1, 2, 3, 4, 6, 15] (by kernel_rfl) ?_))
    have hml : ((bitsL b).map txt).length ≤ 256 := by rw [List.length_map]; exact bitsL_len hb
    have hbl := bitsL_len hb
    have hob : (((hp.set top (some (AObj.cells true 0 (bl b)))).set (top + 1) (some (AObj.cells true 0 [mkSl (top + 3) (List.map txt (bitsL b))]))).set (top + 2) (some (AObj.cells true 0 (bl b)))).set (top + 3) (mkOb e_string (List.map txt (bitsL b))) (top + 3) = mkOb e_string (List.map txt (bitsL b)) := set_same ..
    have hP := own_P hob (by omega)
    have hR := own_rd hob (by omega)
    have hJ := join_txt _ hbl
    have hm2 : (bitsL b).length ≤ 140737488355328 := by omega
    (simp only [go_sem, reduceIte, reduceCtorEq, Nat.reduceAdd, Nat.reduceMul, Nat.reduceSub, Nat.reduceLT, Nat.reduceLeDiff, Nat.reduceEqDiff, Int.reduceEq, Int.reduceLT, Int.reduceLE, Int.reduceNe, rem64, mask64, c_iu, wrapu_mod, bl_len, bl_take, bl_ren, bl_app, bl_one, bOf_bl, Nat.mul_one, S5]; repeat (refine Vc.mk' ?_; simp only [go_sem, reduceIte, reduceCtorEq, Nat.reduceAdd, Nat.reduceMul, Nat.reduceSub, Nat.reduceLT, Nat.reduceLeDiff, Nat.reduceEqDiff, Int.reduceEq, Int.reduceLT, Int.reduceLE, Int.reduceNe, rem64, mask64, c_iu, wrapu_mod, bl_len, bl_take, bl_ren, bl_app, bl_one, bOf_bl, Nat.mul_one, S5]))
    refine condP.mk (fun c => ?_) (fun c => ?_)
    · (simp only [go_sem, reduceIte, reduceCtorEq, Nat.reduceAdd, Nat.reduceMul, Nat.reduceSub, Nat.reduceLT, Nat.reduceLeDiff, Nat.reduceEqDiff, Int.reduceEq, Int.reduceLT, Int.reduceLE, Int.reduceNe, rem64, mask64, c_iu, wrapu_mod, bl_len, bl_take, bl_ren, bl_app, bl_one, bOf_bl, Nat.mul_one, S5]; repeat (refine Vc.mk' ?_; simp only [go_sem, reduceIte, reduceCtorEq, Nat.reduceAdd, Nat.reduceMul, Nat.reduceSub, Nat.reduceLT, Nat.reduceLeDiff, Nat.reduceEqDiff, Int.reduceEq, Int.reduceLT, Int.reduceLE, Int.reduceNe, rem64, mask64, c_iu, wrapu_mod, bl_len, bl_take, bl_ren, bl_app, bl_one, bOf_bl, Nat.mul_one, S5]))
      have c2 : (bitsL b).length = 0 := by simpa using c
      simp [textB, c2]
    · have c2 : ¬ (bitsL b).length = 0 := by simpa using c
      refine CT.of (CW.vc env4 [0, 1, 2, 3, 4, 6, 15] (by kernel_rfl) ?_)
      (simp only [go_sem, reduceIte, reduceCtorEq, Nat.reduceAdd, Nat.reduceMul, Nat.reduceSub, Nat.reduceLT, Nat.reduceLeDiff, Nat.reduceEqDiff, Int.reduceEq, Int.reduceLT, Int.reduceLE, Int.reduceNe, rem64, mask64, c_iu, wrapu_mod, bl_len, bl_take, bl_ren, bl_app, bl_one, bOf_bl, Nat.mul_one, G4_join, conJoin, hP, hR, hJ, hm2, List.length_map]; repeat (refine Vc.mk' ?_; simp only [go_sem, reduceIte, reduceCtorEq, Nat.reduceAdd, Nat.reduceMul, Nat.reduceSub, Nat.reduceLT, Nat.reduceLeDiff, Nat.reduceEqDiff, Int.reduceEq, Int.reduceLT, Int.reduceLE, Int.reduceNe, rem64, mask64, c_iu, wrapu_mod, bl_len, bl_take, bl_ren, bl_app, bl_one, bOf_bl, Nat.mul_one, G4_join, conJoin, hP, hR, hJ, hm2, List.length_map]))
      rw [show textB b = Lib.join ((bitsL b).map txt) [32] from if_neg c2]
  case hret => exact fun _ _ _ h => h.elim
  case hexit => exact fun _ _ _ _ h => h.elim
end Go.Proofs.YtkofmbhopmgmhaaDoor.Dm
