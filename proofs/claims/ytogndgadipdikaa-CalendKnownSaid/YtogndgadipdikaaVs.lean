/- A calendar of texts: what Drop and Sift ask of their functions; the first one. -/
import Derived.Test.YtogndgadipdikaaR2
import Derived.Test.YtogndgadipdikaaMs
set_option linter.unusedSimpArgs false
set_option linter.unusedVariables false
namespace Go.Proofs.Ytogndgadipdikaa.Dm
open Go.Dm
set_option maxHeartbeats 8000000
set_option maxRecDepth 20000

def conD1_s : Con := .pure (fun args hp => match args with | [.agg ⟨p⟩, .pointer (some ⟨b, 0, none⟩)] => e_t96.enc (e_t96.dec p) = p ∧ (∃ k, hp b = some (.cells true 0 [.int .i64 k])) | _ => False)
  (fun args hp => match args with | [.agg ⟨p⟩, .pointer (some ⟨b, _, _⟩)] => .bool (decide ((e_t96.dec p).ticket = intOf ((cellsOf (hp b)).headD undef))) | _ => undef)

theorem d1_s_ok : ConOk Try.prog 60 conD1_s := by
  refine .mkRd fn60_ok ?_ ?_
  · intro args hp h
    match args, h with
    | [.agg ⟨p⟩, .pointer (some ⟨b, 0, none⟩)], _ => rfl
  intro args hp hpre top hcl hsc
  match args, hpre with
  | [.agg ⟨p⟩, .pointer (some ⟨b, 0, none⟩)], ⟨hx, k, hk⟩ =>
  generalize e_t96.dec p = x at hx
  subst hx
  have hbt : b < top := hcl.lt _ _ hk
  have hbn : ¬ b = top := by omega
  refine CalledOk.of_fun tt_ok fn60_ok rfl 8 rfl [.tmp 3] rfl (show 2 ≤ 8 by decide) ?_
  refine CW.vc env7 [0, 1, 2, 3] (by kernel_rfl) ?_
  (simp only [go_sem, reduceIte, reduceCtorEq, Nat.reduceAdd, Nat.reduceMul, Nat.reduceSub, Nat.reduceLT, Nat.reduceLeDiff, Nat.reduceEqDiff, Int.reduceEq, Int.reduceLT, Int.reduceLE, Int.reduceNe, en_t96, hk, hbn, List.headD_cons, intOf_int]; repeat (refine Vc.mk' ?_; simp only [go_sem, reduceIte, reduceCtorEq, Nat.reduceAdd, Nat.reduceMul, Nat.reduceSub, Nat.reduceLT, Nat.reduceLeDiff, Nat.reduceEqDiff, Int.reduceEq, Int.reduceLT, Int.reduceLE, Int.reduceNe, en_t96, hk, hbn, List.headD_cons, intOf_int]))
/-! ### what is asked: the example's own function; sift's, which writes down what it is asked of -/
def knV : Value := .func (.func 32) ⟨[]⟩ ⟨[]⟩
def lwV (ab gb : Nat) : Value := .func (.func 70) ⟨[]⟩ ⟨[.pointer (some ⟨ab, 0, none⟩), .pointer (some ⟨gb, 0, none⟩)]⟩
def isP (s : List UInt8) : Bool := !decide (s = [112])
def conKn : Con := .pure (fun args _ => match args with | [v] => IsS v | _ => False) (fun args _ => match args with | [v] => .bool (!isP (strOf v)) | _ => undef)

theorem kn_ok : ConOk Try.prog 32 conKn := by
  refine .mkPure fn32_ok ?_
  intro args hp hpre top
  match args, hpre with
  | [v], hv =>
  rw [hv]
  generalize strOf v = v
  refine CalledOk.of_fun tt_ok fn32_ok rfl 5 rfl [.tmp 2] rfl (show 1 ≤ 5 by decide) ?_
  refine CW.vc env7 [0, 2] (by kernel_rfl) ?_
  (simp only [go_sem, reduceIte, reduceCtorEq, Nat.reduceAdd, Nat.reduceMul, Nat.reduceSub, Nat.reduceLT, Nat.reduceLeDiff, Nat.reduceEqDiff, Int.reduceEq, Int.reduceLT, Int.reduceLE, Int.reduceNe]; repeat (refine Vc.mk' ?_; simp only [go_sem, reduceIte, reduceCtorEq, Nat.reduceAdd, Nat.reduceMul, Nat.reduceSub, Nat.reduceLT, Nat.reduceLeDiff, Nat.reduceEqDiff, Int.reduceEq, Int.reduceLT, Int.reduceLE, Int.reduceNe]))
  rw [eqB_eq]
  unfold isP
  by_cases c : v = [112] <;> simp [c]
def askV (hp : Hp) (ab : Nat) : Value := (cellsOf (hp ab)).headD undef
def blkOf : Value → Nat
  | .slice (some ⟨b, _, _⟩) _ _ => b
  | _ => 0
def AskOk (hp : Hp) (ab : Nat) : Prop := ∃ q m, hp ab = some (.cells true 0 [mkSl q m]) ∧ (m ≠ [] → hp q = mkOb e_string m) ∧ m.length < 16777216
def askRes (hp : Hp) (ab : Nat) (s : List UInt8) (top : Nat) : Upds :=
  (ab, some (.cells true 0 [mkSl top (e_string.rd hp (askV hp ab) ++ [s])])) :: appU (blkOf (askV hp ab)) (e_string.rd hp (askV hp ab)) top (mkOb e_string (e_string.rd hp (askV hp ab) ++ [s]))
theorem appU_blk {q top : Nat} {m : List (List UInt8)} {o : Option AObj} : appU (blkOf (mkSl q m)) m top o = appU q m top o := by cases m <;> rfl
theorem askRes_eq {hp : Hp} {ab q : Nat} {m : List (List UInt8)} {s : List UInt8} {top : Nat} (h : hp ab = some (.cells true 0 [mkSl q m])) (h2 : m ≠ [] → hp q = mkOb e_string m) (h3 : m.length < 16777216) :
    askRes hp ab s top = (ab, some (.cells true 0 [mkSl top (m ++ [s])])) :: appU q m top (mkOb e_string (m ++ [s])) := by
  have e : askV hp ab = mkSl q m := by unfold askV; rw [h]; rfl
  have er : e_string.rd hp (mkSl q m) = m := by
    by_cases hm : m = []
    · subst hm; exact SlT.nils.rd
    · exact (SlT.own (h2 hm) (by omega)).rd
  unfold askRes
  rw [e, er, appU_blk]
theorem askRes_nil {hp : Hp} {ab : Nat} {s : List UInt8} {top : Nat} (h : hp ab = some (.cells true 0 [.slice none 0 0])) :
    askRes hp ab s top = [(ab, some (.cells true 0 [mkSl top [s]])), (top, mkOb e_string [s])] := askRes_eq (q := 0) (m := []) h (fun h => absurd rfl h) (by decide)
theorem appU_ne {q top : Nat} {m : List (List UInt8)} {o : Option AObj} (h : m ≠ []) : appU q m top o = [(q, none), (top, o)] := by
  cases m with
  | nil => exact absurd rfl h
  | cons a m => rfl
def goneOf (hp : Hp) (gb : Nat) : List UInt8 := strOf ((cellsOf (hp gb)).headD undef)
def conLw : Con := .det (fun args hp _ => match args with | [v, .pointer (some ⟨ab, 0, none⟩), .pointer (some ⟨gb, 0, none⟩)] => IsS v ∧ AskOk hp ab ∧ (∃ g, hp gb = some (.cells true 0 [.string ⟨⟨g⟩⟩])) | _ => False)
  (fun args hp top => match args with | [v, .pointer (some ⟨ab, _, _⟩), .pointer (some ⟨gb, _, _⟩)] => (.bool (!decide (strOf v = goneOf hp gb)), askRes hp ab (strOf v) top, top + 1) | _ => (undef, [], top))

theorem lw_ok : ConOk Try.prog 70 conLw := by
  refine .mkDet fn70_ok ?_
  intro args hp top hpre hcl hsc
  match args, hpre with
  | [v, .pointer (some ⟨ab, 0, none⟩), .pointer (some ⟨gb, 0, none⟩)], ⟨hv, ⟨q, m, h1, h2, h3⟩, g, h4⟩ =>
  rw [hv]
  generalize strOf v = s
  have hat : ab < top := hcl.lt _ _ h1
  have hgt : gb < top := hcl.lt _ _ h4
  have hga : ¬ gb = ab := fun e => by
    rw [e, h1] at h4
    cases m <;> simp [mkSl] at h4
  have hat1 : ¬ top + 1 = ab := by omega
  simp only [goneOf, h4, cellsOf_some, List.headD_cons, strOf_string, askRes_eq h1 h2 h3]
  have hee : eqB s g = decide (s = g) := by rw [eqB_eq]; by_cases c : s = g <;> simp [c]
  refine CalledOk.of_fun tt_ok fn70_ok rfl 12 rfl [.tmp 4] rfl (show 3 ≤ 12 by decide) ?_
  by_cases hm : m = []
  · subst hm
    rw [mkSl_nil] at h1
    refine CW.vc env7 [0, 1, 2, 4] (by kernel_rfl) ?_
    (simp only [go_sem, reduceIte, reduceCtorEq, Nat.reduceAdd, Nat.reduceMul, Nat.reduceSub, Nat.reduceLT, Nat.reduceLeDiff, Nat.reduceEqDiff, Int.reduceEq, Int.reduceLT, Int.reduceLE, Int.reduceNe, h1, h4, set_lt hat, set_lt hgt, hga, hat1, hee]; repeat (refine Vc.mk' ?_; simp only [go_sem, reduceIte, reduceCtorEq, Nat.reduceAdd, Nat.reduceMul, Nat.reduceSub, Nat.reduceLT, Nat.reduceLeDiff, Nat.reduceEqDiff, Int.reduceEq, Int.reduceLT, Int.reduceLE, Int.reduceNe, h1, h4, set_lt hat, set_lt hgt, hga, hat1, hee]))
    simp only [appU, List.nil_append]
    exact ⟨[top + 1], by simp, by simp, by simp, by simp [frSub, lkG, ren, renL, renL_set, renL_ints, UpdOk.nil, UpdOk.cons, renOO_some, renO_cells, renO_map, renOO_mkOb, rn_base, rn_add, ren_mkSl, Enc.flat_ren, set_same, set_ne, sets_cons, sets_nil, Keep.set, Keep.setK, Keep.refl, rn_low hat, hat1], by simp [frSub, lkG, ren, renL, renL_set, renL_ints, UpdOk.nil, UpdOk.cons, renOO_some, renO_cells, renO_map, renOO_mkOb, rn_base, rn_add, ren_mkSl, Enc.flat_ren, set_same, set_ne, sets_cons, sets_nil, Keep.set, Keep.setK, Keep.refl, rn_low hat, hat1], by simp [frSub, lkG, ren, renL, renL_set, renL_ints, UpdOk.nil, UpdOk.cons, renOO_some, renO_cells, renO_map, renOO_mkOb, rn_base, rn_add, ren_mkSl, Enc.flat_ren, set_same, set_ne, sets_cons, sets_nil, Keep.set, Keep.setK, Keep.refl, rn_low hat, hat1]⟩
  · replace h2 := h2 hm
    have hqt : q < top := by
      cases m with
      | nil => exact absurd rfl hm
      | cons a m => exact hcl.lt _ _ h2
    have hc : ∀ {b : Nat}, cellsL (mkSl b (m ++ [s])) = [mkSl b (m ++ [s])] := fun {b} => by cases m <;> rfl
    have ho : ∀ {b : Nat}, (mkSl b (m ++ [s])).oneCell' = true := fun {b} => by cases m <;> rfl
    have hqa : ¬ q = ab := fun e => by
      rw [e, h1] at h2
      cases m with
      | nil => exact hm rfl
      | cons a m => simp only [mkOb, Option.some.injEq, AObj.cells.injEq] at h2; exact absurd h2.2.1 (by decide)
    have haq : ¬ ab = q := fun e => hqa e.symm
    have hqg : ¬ gb = q := fun e => by
      rw [← e, h4] at h2
      cases m with
      | nil => exact hm rfl
      | cons a m => simp only [mkOb, Option.some.injEq, AObj.cells.injEq] at h2; exact absurd h2.2.1 (by decide)
    refine CW.vc env7 [0, 1, 2, 4] (by kernel_rfl) ?_
    (simp only [go_sem, reduceIte, reduceCtorEq, Nat.reduceAdd, Nat.reduceMul, Nat.reduceSub, Nat.reduceLT, Nat.reduceLeDiff, Nat.reduceEqDiff, Int.reduceEq, Int.reduceLT, Int.reduceLE, Int.reduceNe, h1, h2, h3, h4, set_lt hat, set_lt hgt, set_lt hqt, hga, hat1, hc, ho, hqa, haq, hqg, hee]; repeat (refine Vc.mk' ?_; simp only [go_sem, reduceIte, reduceCtorEq, Nat.reduceAdd, Nat.reduceMul, Nat.reduceSub, Nat.reduceLT, Nat.reduceLeDiff, Nat.reduceEqDiff, Int.reduceEq, Int.reduceLT, Int.reduceLE, Int.reduceNe, h1, h2, h3, h4, set_lt hat, set_lt hgt, set_lt hqt, hga, hat1, hc, ho, hqa, haq, hqg, hee]))
    rw [appU_ne hm]
    exact ⟨[top + 1], by simp, by simp, by simp, by simp [frSub, lkG, ren, renL, renL_set, renL_ints, UpdOk.nil, UpdOk.cons, renOO_some, renO_cells, renO_map, renOO_mkOb, rn_base, rn_add, ren_mkSl, Enc.flat_ren, set_same, set_ne, sets_cons, sets_nil, Keep.set, Keep.setK, Keep.refl, rn_low hat, rn_low hqt, hat1, hqa, haq], by simp [frSub, lkG, ren, renL, renL_set, renL_ints, UpdOk.nil, UpdOk.cons, renOO_some, renO_cells, renO_map, renOO_mkOb, rn_base, rn_add, ren_mkSl, Enc.flat_ren, set_same, set_ne, sets_cons, sets_nil, Keep.set, Keep.setK, Keep.refl, rn_low hat, rn_low hqt, hat1, hqa, haq], by simp [frSub, lkG, ren, renL, renL_set, renL_ints, UpdOk.nil, UpdOk.cons, renOO_some, renO_cells, renO_map, renOO_mkOb, rn_base, rn_add, ren_mkSl, Enc.flat_ren, set_same, set_ne, sets_cons, sets_nil, Keep.set, Keep.setK, Keep.refl, rn_low hat, rn_low hqt, hat1, hqa, haq]⟩
/-! ### Sift's own -/
def G9s : FuncId → Con := addG (addG (addG G7 60 conD1_s) 32 conKn) 70 conLw
theorem env9s : EnvV Try.prog tt.get G9s := ((env7.add d1_s_ok).add kn_ok).add lw_ok
theorem G9s_kn : G9s 32 = conKn := rfl
theorem G9s_lw : G9s 70 = conLw := rfl
/-- what Sift is to keep by -/
inductive Keeps (hp : Hp) : Value → Prop
  | kn : Keeps hp knV
  | lw (ab gb : Nat) (g : List UInt8) (h : hp gb = some (.cells true 0 [.string ⟨⟨g⟩⟩])) (ha : AskOk hp ab) : Keeps hp (lwV ab gb)
def s1Res (hp : Hp) (kv : Value) (s : List UInt8) (top : Nat) : Value × Upds × Nat := match kv with
  | .func _ _ ⟨[.pointer (some ⟨ab, _, _⟩), .pointer (some ⟨gb, _, _⟩)]⟩ => (.bool (decide (s = goneOf hp gb)), askRes hp ab s top, top + 1)
  | _ => (.bool (isP s), [], top)
def S1Pre (hp : Hp) (b : Nat) : Prop := ∃ kv, hp b = some (.cells true 0 [kv]) ∧ Keeps hp kv
def s1R (hp : Hp) (b : Nat) (s : List UInt8) (top : Nat) : Value × Upds × Nat := s1Res hp ((cellsOf (hp b)).headD undef) s top
def conS1_s : Con := .det (fun args hp _ => match args with | [.agg ⟨p⟩, .pointer (some ⟨b, 0, none⟩)] => e_t96.enc (e_t96.dec p) = p ∧ S1Pre hp b | _ => False)
  (fun args hp top => match args with | [.agg ⟨p⟩, .pointer (some ⟨b, _, _⟩)] => s1R hp b (e_t96.dec p).v top | _ => (undef, [], top))

theorem s1_s_ok : ConOk Try.prog 62 conS1_s := by
  refine .mkDet fn62_ok ?_
  intro args hp top hpre hcl hsc
  match args, hpre with
  | [.agg ⟨p⟩, .pointer (some ⟨b, 0, none⟩)], ⟨hx, kv, hk, hK⟩ =>
  generalize e_t96.dec p = x at hx
  subst hx
  have hbt : b < top := hcl.lt _ _ hk
  have hbn : ¬ b = top := by omega
  simp only [s1R, hk, cellsOf_some, List.headD_cons]
  cases hK with
  | kn =>
    simp only [knV] at hk
    refine CalledOk.of_fun tt_ok fn62_ok rfl 9 rfl [.tmp 3] rfl (show 2 ≤ 9 by decide) ?_
    refine CW.vc env9s [0, 1, 2, 3] (by kernel_rfl) ?_
    (simp only [go_sem, reduceIte, reduceCtorEq, Nat.reduceAdd, Nat.reduceMul, Nat.reduceSub, Nat.reduceLT, Nat.reduceLeDiff, Nat.reduceEqDiff, Int.reduceEq, Int.reduceLT, Int.reduceLE, Int.reduceNe, en_t96, hk, hbn, G9s_kn, conKn, set_lt hbt]; repeat (refine Vc.mk' ?_; simp only [go_sem, reduceIte, reduceCtorEq, Nat.reduceAdd, Nat.reduceMul, Nat.reduceSub, Nat.reduceLT, Nat.reduceLeDiff, Nat.reduceEqDiff, Int.reduceEq, Int.reduceLT, Int.reduceLE, Int.reduceNe, en_t96, hk, hbn, G9s_kn, conKn, set_lt hbt]))
    simp only [s1Res, knV]
    exact ⟨[], by simp, by simp, by simp, by simp [frSub, lkG, ren, renL, renL_set, renL_ints, UpdOk.nil, UpdOk.cons, renOO_some, renO_cells, renO_map, renOO_mkOb, rn_base, rn_add, ren_mkSl, Enc.flat_ren, set_same, set_ne, sets_cons, sets_nil, Keep.set, Keep.setK, Keep.refl], by simp [frSub, lkG, ren, renL, renL_set, renL_ints, UpdOk.nil, UpdOk.cons, renOO_some, renO_cells, renO_map, renOO_mkOb, rn_base, rn_add, ren_mkSl, Enc.flat_ren, set_same, set_ne, sets_cons, sets_nil, Keep.set, Keep.setK, Keep.refl], by simp [frSub, lkG, ren, renL, renL_set, renL_ints, UpdOk.nil, UpdOk.cons, renOO_some, renO_cells, renO_map, renOO_mkOb, rn_base, rn_add, ren_mkSl, Enc.flat_ren, set_same, set_ne, sets_cons, sets_nil, Keep.set, Keep.setK, Keep.refl]⟩
  | lw ab gb g hg ha =>
    obtain ⟨q, m, h1, h2, h3⟩ := ha
    have hat : ab < top := hcl.lt _ _ h1
    have hgt : gb < top := hcl.lt _ _ hg
    simp only [lwV] at hk
    have hpre : ∀ {h' : Hp}, h' ab = some (.cells true 0 [mkSl q m]) → h' q = mkOb e_string m → AskOk h' ab = True := fun e1 e2 => eq_true ⟨q, m, e1, fun _ => e2, h3⟩
    have hres : ∀ {h' : Hp} {t : Nat}, h' ab = some (.cells true 0 [mkSl q m]) → h' q = mkOb e_string m → askRes h' ab x.v t = (ab, some (.cells true 0 [mkSl t (m ++ [x.v])])) :: appU q m t (mkOb e_string (m ++ [x.v])) := fun e1 e2 => askRes_eq e1 (fun _ => e2) h3
    have hat1 : ¬ top + 1 = ab := by omega
    have hgo : ∀ {h' : Hp}, h' gb = some (.cells true 0 [.string ⟨⟨g⟩⟩]) → goneOf h' gb = g := fun e => by unfold goneOf; rw [e]; rfl
    have hgd : (∃ g', some (AObj.cells true 0 [Value.string ⟨⟨g⟩⟩]) = some (AObj.cells true 0 [.string ⟨⟨g'⟩⟩])) = True := eq_true ⟨g, rfl⟩
    have hR : s1Res hp (lwV ab gb) x.v top = (.bool (decide (x.v = g)), (ab, some (.cells true 0 [mkSl top (m ++ [x.v])])) :: appU q m top (mkOb e_string (m ++ [x.v])), top + 1) := by
      show (Value.bool (decide (x.v = goneOf hp gb)), askRes hp ab x.v top, top + 1) = _
      rw [hgo hg, askRes_eq h1 h2 h3]
    rw [show e_t96.dec (e_t96.enc x) = x from rfl, hR]
    refine CalledOk.of_fun tt_ok fn62_ok rfl 9 rfl [.tmp 3] rfl (show 2 ≤ 9 by decide) ?_
    by_cases hm : m = []
    · subst hm
      rw [mkSl_nil] at h1
      have hpre2 : ∀ {h' : Hp}, h' ab = some (.cells true 0 [.slice none 0 0]) → AskOk h' ab = True := fun {h'} e1 => eq_true ⟨0, [], e1, fun h => absurd rfl h, h3⟩
      have hres2 : ∀ {h' : Hp} {t : Nat}, h' ab = some (.cells true 0 [.slice none 0 0]) → askRes h' ab x.v t = [(ab, some (.cells true 0 [mkSl t [x.v]])), (t, mkOb e_string [x.v])] := fun e => askRes_nil e
      refine CW.vc env9s [0, 1, 2, 3] (by kernel_rfl) ?_
      (simp only [go_sem, reduceIte, reduceCtorEq, Nat.reduceAdd, Nat.reduceMul, Nat.reduceSub, Nat.reduceLT, Nat.reduceLeDiff, Nat.reduceEqDiff, Int.reduceEq, Int.reduceLT, Int.reduceLE, Int.reduceNe, en_t96, hk, hbn, G9s_lw, conLw, hgo, hgd, hpre2, hres2, h1, hg, set_lt hat, set_lt hgt, set_lt hbt]; repeat (refine Vc.mk' ?_; simp only [go_sem, reduceIte, reduceCtorEq, Nat.reduceAdd, Nat.reduceMul, Nat.reduceSub, Nat.reduceLT, Nat.reduceLeDiff, Nat.reduceEqDiff, Int.reduceEq, Int.reduceLT, Int.reduceLE, Int.reduceNe, en_t96, hk, hbn, G9s_lw, conLw, hgo, hgd, hpre2, hres2, h1, hg, set_lt hat, set_lt hgt, set_lt hbt]))
      simp only [appU, List.nil_append]
      exact ⟨[top + 1], by simp, by simp, by simp, by simp [frSub, lkG, ren, renL, renL_set, renL_ints, UpdOk.nil, UpdOk.cons, renOO_some, renO_cells, renO_map, renOO_mkOb, rn_base, rn_add, ren_mkSl, Enc.flat_ren, set_same, set_ne, sets_cons, sets_nil, Keep.set, Keep.setK, Keep.refl, rn_low hat, hat1, set_lt hat], by simp [frSub, lkG, ren, renL, renL_set, renL_ints, UpdOk.nil, UpdOk.cons, renOO_some, renO_cells, renO_map, renOO_mkOb, rn_base, rn_add, ren_mkSl, Enc.flat_ren, set_same, set_ne, sets_cons, sets_nil, Keep.set, Keep.setK, Keep.refl, rn_low hat, hat1, set_lt hat], by simp [frSub, lkG, ren, renL, renL_set, renL_ints, UpdOk.nil, UpdOk.cons, renOO_some, renO_cells, renO_map, renOO_mkOb, rn_base, rn_add, ren_mkSl, Enc.flat_ren, set_same, set_ne, sets_cons, sets_nil, Keep.set, Keep.setK, Keep.refl, rn_low hat, hat1, set_lt hat]⟩
    · replace h2 := h2 hm
      have hqt : q < top := by
        cases m with
        | nil => exact absurd rfl hm
        | cons a m => exact hcl.lt _ _ h2
      refine CW.vc env9s [0, 1, 2, 3] (by kernel_rfl) ?_
      (simp only [go_sem, reduceIte, reduceCtorEq, Nat.reduceAdd, Nat.reduceMul, Nat.reduceSub, Nat.reduceLT, Nat.reduceLeDiff, Nat.reduceEqDiff, Int.reduceEq, Int.reduceLT, Int.reduceLE, Int.reduceNe, en_t96, hk, hbn, G9s_lw, conLw, hgo, hgd, hpre, hres, h1, h2, hg, set_lt hat, set_lt hgt, set_lt hqt, set_lt hbt, appU_ne hm]; repeat (refine Vc.mk' ?_; simp only [go_sem, reduceIte, reduceCtorEq, Nat.reduceAdd, Nat.reduceMul, Nat.reduceSub, Nat.reduceLT, Nat.reduceLeDiff, Nat.reduceEqDiff, Int.reduceEq, Int.reduceLT, Int.reduceLE, Int.reduceNe, en_t96, hk, hbn, G9s_lw, conLw, hgo, hgd, hpre, hres, h1, h2, hg, set_lt hat, set_lt hgt, set_lt hqt, set_lt hbt, appU_ne hm]))
      have hqa : ¬ q = ab := fun e => by
        rw [e, h1] at h2
        cases m with
        | nil => exact hm rfl
        | cons a m => simp only [mkOb, Option.some.injEq, AObj.cells.injEq] at h2; exact absurd h2.2.1 (by decide)
      have haq : ¬ ab = q := fun e => hqa e.symm
      exact ⟨[top + 1], by simp, by simp, by simp, by simp [frSub, lkG, ren, renL, renL_set, renL_ints, UpdOk.nil, UpdOk.cons, renOO_some, renO_cells, renO_map, renOO_mkOb, rn_base, rn_add, ren_mkSl, Enc.flat_ren, set_same, set_ne, sets_cons, sets_nil, Keep.set, Keep.setK, Keep.refl, rn_low hat, rn_low hqt, hat1, hqa, haq, set_lt hat, set_lt hqt], by simp [frSub, lkG, ren, renL, renL_set, renL_ints, UpdOk.nil, UpdOk.cons, renOO_some, renO_cells, renO_map, renOO_mkOb, rn_base, rn_add, ren_mkSl, Enc.flat_ren, set_same, set_ne, sets_cons, sets_nil, Keep.set, Keep.setK, Keep.refl, rn_low hat, rn_low hqt, hat1, hqa, haq, set_lt hat, set_lt hqt], by simp [frSub, lkG, ren, renL, renL_set, renL_ints, UpdOk.nil, UpdOk.cons, renOO_some, renO_cells, renO_map, renOO_mkOb, rn_base, rn_add, ren_mkSl, Enc.flat_ren, set_same, set_ne, sets_cons, sets_nil, Keep.set, Keep.setK, Keep.refl, rn_low hat, rn_low hqt, hat1, hqa, haq, set_lt hat, set_lt hqt]⟩
theorem S1Pre_kn {hp : Hp} {b : Nat} (h : hp b = some (.cells true 0 [knV])) : S1Pre hp b = True := eq_true ⟨_, h, .kn⟩
theorem S1Pre_lw {hp : Hp} {b ab gb q : Nat} {g : List UInt8} {m : List (List UInt8)} (h : hp b = some (.cells true 0 [lwV ab gb])) (hg : hp gb = some (.cells true 0 [.string ⟨⟨g⟩⟩])) (ha : hp ab = some (.cells true 0 [mkSl q m])) (hq : hp q = mkOb e_string m) (hm : m.length < 16777216) :
    S1Pre hp b = True := eq_true ⟨_, h, .lw ab gb g hg ⟨q, m, ha, fun _ => hq, hm⟩⟩
theorem s1R_kn {hp : Hp} {b top : Nat} {s : List UInt8} (h : hp b = some (.cells true 0 [knV])) : s1R hp b s top = (.bool (isP s), [], top) := by unfold s1R; rw [h]; rfl
theorem s1R_lw {hp : Hp} {b ab gb q top : Nat} {g s : List UInt8} {m : List (List UInt8)} (h : hp b = some (.cells true 0 [lwV ab gb])) (hg : hp gb = some (.cells true 0 [.string ⟨⟨g⟩⟩])) (ha : hp ab = some (.cells true 0 [mkSl q m])) (hq : hp q = mkOb e_string m) (hm : m.length < 16777216) :
    s1R hp b s top = (.bool (decide (s = g)), (ab, some (.cells true 0 [mkSl top (m ++ [s])])) :: appU q m top (mkOb e_string (m ++ [s])), top + 1) := by
  unfold s1R
  rw [h]
  show (Value.bool (decide (s = goneOf hp gb)), askRes hp ab s top, top + 1) = _
  rw [askRes_eq ha (fun _ => hq) hm]
  unfold goneOf
  rw [hg]; rfl
/-! ### the first one -/
def drVs (b : Nat) : Value := .func (.func 60) ⟨[]⟩ ⟨[.pointer (some ⟨b, 0, none⟩)]⟩
def siVs (b : Nat) : Value := .func (.func 62) ⟨[]⟩ ⟨[.pointer (some ⟨b, 0, none⟩)]⟩
inductive FnIs (hp : Hp) : Value → Prop
  | dr (b : Nat) (k : Int) (h : hp b = some (.cells true 0 [.int .i64 k])) : FnIs hp (drVs b)
  | kn (b : Nat) (h : hp b = some (.cells true 0 [knV])) : FnIs hp (siVs b)
  | lw (b ab gb : Nat) (g : List UInt8) (h : hp b = some (.cells true 0 [lwV ab gb])) (hg : hp gb = some (.cells true 0 [.string ⟨⟨g⟩⟩])) (ha : hp ab = some (.cells true 0 [.slice none 0 0])) : FnIs hp (siVs b)
def ixResS (i n : Nat) : Value := .int .i64 (if i < n then (i : Int) else -1)
def ixCk (hp : Hp) (kv : Value) (l : List T_t96) (top : Nat) : Value × Upds × Nat := match kv with
  | .func _ _ ⟨[.pointer (some ⟨ab, _, _⟩), .pointer (some ⟨gb, _, _⟩)]⟩ => (ixResS (ixF (fun a => decide (a.v = goneOf hp gb)) l) l.length,
      [(ab, some (.cells true 0 [mkSl top (outs_s l (ixF (fun a => decide (a.v = goneOf hp gb)) l + 1))])), (top, mkOb e_string (outs_s l (ixF (fun a => decide (a.v = goneOf hp gb)) l + 1)))], top + 1)
  | _ => (ixResS (ixF (fun a => isP a.v) l) l.length, [], top)
def ixC (hp : Hp) (f : Value) (l : List T_t96) (top : Nat) : Value × Upds × Nat := match f with
  | .func (.func x) _ ⟨[.pointer (some ⟨b, _, _⟩)]⟩ => if x = 60 then (ixResS (ixF (fun a => decide (a.ticket = intOf ((cellsOf (hp b)).headD undef))) l) l.length, [], top)
      else ixCk hp ((cellsOf (hp b)).headD undef) l top
  | _ => (undef, [], top)
section
variable {hp : Hp} {b ab gb top : Nat} {l : List T_t96} {g : List UInt8} {k : Int}
theorem ixC_dr (h : hp b = some (.cells true 0 [.int .i64 k])) : ixC hp (drVs b) l top = (ixResS (ixF (fun a => decide (a.ticket = k)) l) l.length, [], top) := by
  show (ixResS (ixF (fun a => decide (a.ticket = intOf ((cellsOf (hp b)).headD undef))) l) l.length, [], top) = _
  rw [h]; rfl
theorem ixC_kn (h : hp b = some (.cells true 0 [knV])) : ixC hp (siVs b) l top = (ixResS (ixF (fun a => isP a.v) l) l.length, [], top) := by
  show ixCk hp ((cellsOf (hp b)).headD undef) l top = _
  rw [h]; rfl
theorem ixC_lw (h : hp b = some (.cells true 0 [lwV ab gb])) (hg : hp gb = some (.cells true 0 [.string ⟨⟨g⟩⟩])) : ixC hp (siVs b) l top = (ixResS (ixF (fun a => decide (a.v = g)) l) l.length,
    [(ab, some (.cells true 0 [mkSl top (outs_s l (ixF (fun a => decide (a.v = g)) l + 1))])), (top, mkOb e_string (outs_s l (ixF (fun a => decide (a.v = g)) l + 1)))], top + 1) := by
  show ixCk hp ((cellsOf (hp b)).headD undef) l top = _
  have e : goneOf hp gb = g := by unfold goneOf; rw [hg]; rfl
  rw [h, ← e]; rfl
end
def conIx_s : Con := .det (fun args hp _ => match args with | [v, f] => SlP e_t96 hp v ∧ FnIs hp f ∧ (e_t96.rd hp v).length ≤ 1000000 | _ => False) (fun args hp top => match args with
  | [v, f] => ixC hp f (e_t96.rd hp v) top | _ => (undef, [], top))
def stIxS (hp : Hp) (top : Nat) (v f : Value) (n i : Nat) : SS := ⟨[(0, v, true), (1, f, true), (7, .int .i64 (n : Int), true), (8, .int .i64 (i : Int), true)], hp.sets [], top + 0⟩
def stIxL (hp : Hp) (top ab : Nat) (v f : Value) (l : List T_t96) (i : Nat) : SS := ⟨[(0, v, true), (1, f, true), (7, .int .i64 (l.length : Int), true), (8, .int .i64 (i : Int), true)],
  hp.sets [(ab, some (.cells true 0 [mkSl top (outs_s l i)])), (top, mkOb e_string (outs_s l i))], top + 1⟩
def G10s : FuncId → Con := addG G9s 62 conS1_s
theorem env10s : EnvV Try.prog tt.get G10s := env9s.add s1_s_ok
theorem G10s_d1 : G10s 60 = conD1_s := rfl
theorem G10s_s1 : G10s 62 = conS1_s := rfl

theorem ix_s_ok : ConOk Try.prog 59 conIx_s := by
  refine .mkDet fn59_ok ?_
  intro args hp top hpre hcl hsc
  match args, hpre with
  | [v, f], ⟨⟨l, h⟩, hf, hl⟩ =>
  have hs := h.low hcl
  have hl63 := h.le
  simp only [h.rd] at hl ⊢
  cases hf with
  | dr b k hk =>
    rw [ixC_dr hk]
    have hbt : b < top := hcl.lt _ _ hk
    have hkd : (∃ k', some (AObj.cells true 0 [.int .i64 k]) = some (AObj.cells true 0 [.int .i64 k'])) = True := eq_true ⟨k, rfl⟩
    have hkv : ∀ {h' : Hp}, Keep top [] h' hp → h' b = some (.cells true 0 [.int .i64 k]) := fun hk' => by rw [hk' b hbt (by simp)]; exact hk
    refine CalledOk.of_fun tt_ok fn59_ok rfl 19 rfl [.tmp 4] rfl (show 2 ≤ 19 by decide) ?_
    refine CW.vc env10s [0, 1, 4, 5, 7, 8, 9, 16] (by kernel_rfl) ?_
    (simp only [go_sem, reduceIte, reduceCtorEq, Nat.reduceAdd, Nat.reduceMul, Nat.reduceSub, Nat.reduceLT, Nat.reduceLeDiff, Nat.reduceEqDiff, Int.reduceEq, Int.reduceLT, Int.reduceLE, Int.reduceNe, len_st96 h, idx_st96 h, ld_st96 h, sh_st96 h, sw_st96 h, sf_st96_0 h, sc_st96_0 h, sf_st96_1 h, sc_st96_1 h, sf_st96_2 h, sc_st96_2 h, h.P, h.oc, h.cl, h.rd, h.ref, strip_P hs, strip_rd hs, strip_ld hs, strip_sl h hs k_st96, G10s_d1, conD1_s, G10s_s1, conS1_s]; repeat (refine Vc.mk' ?_; simp only [go_sem, reduceIte, reduceCtorEq, Nat.reduceAdd, Nat.reduceMul, Nat.reduceSub, Nat.reduceLT, Nat.reduceLeDiff, Nat.reduceEqDiff, Int.reduceEq, Int.reduceLT, Int.reduceLE, Int.reduceNe, len_st96 h, idx_st96 h, ld_st96 h, sh_st96 h, sw_st96 h, sf_st96_0 h, sc_st96_0 h, sf_st96_1 h, sc_st96_1 h, sf_st96_2 h, sc_st96_2 h, h.P, h.oc, h.cl, h.rd, h.ref, strip_P hs, strip_rd hs, strip_ld hs, strip_sl h hs k_st96, G10s_d1, conD1_s, G10s_s1, conS1_s]))
    refine CW.loopR (stIxS hp top v (drVs b) l.length) (fun i => i ≤ l.length ∧ ∀ k', k' < i → decide ((at' l k').ticket = k) = false) (fun i => l.length - i) 0 ⟨Nat.zero_le _, fun k' h' => absurd h' (Nat.not_lt_zero _)⟩ ?_ ?_
    · exact SubR.mk' [] hcl (by simp) (by simp) rfl (frSub_ok (by simp [frSub, lkG, ren, renL, renL_set, renL_ints, UpdOk.nil, UpdOk.cons, renOO_some, renO_cells, renO_map, renOO_mkOb, rn_base, rn_add, ren_mkSl, Enc.flat_ren, set_same, set_ne, sets_cons, sets_nil, Keep.set, Keep.setK, Keep.refl, Sc.ren (fun j hj => rn_low hj) hs, drVs, rn_low hbt, Int.natCast_zero])) (by simp [frSub, lkG, ren, renL, renL_set, renL_ints, UpdOk.nil, UpdOk.cons, renOO_some, renO_cells, renO_map, renOO_mkOb, rn_base, rn_add, ren_mkSl, Enc.flat_ren, set_same, set_ne, sets_cons, sets_nil, Keep.set, Keep.setK, Keep.refl, Sc.ren (fun j hj => rn_low hj) hs, drVs, rn_low hbt, Int.natCast_zero]) (by simp [frSub, lkG, ren, renL, renL_set, renL_ints, UpdOk.nil, UpdOk.cons, renOO_some, renO_cells, renO_map, renOO_mkOb, rn_base, rn_add, ren_mkSl, Enc.flat_ren, set_same, set_ne, sets_cons, sets_nil, Keep.set, Keep.setK, Keep.refl, Sc.ren (fun j hj => rn_low hj) hs, drVs, rn_low hbt, Int.natCast_zero])
    · rintro i ⟨hi, hlo⟩
      by_cases hlt : i < l.length
      · by_cases c1 : (at' l i).ticket = k
        · have hix := ixF_at (p := fun a => decide (a.ticket = k)) hi hlo fun _ => decide_eq_true c1
          refine CW.vc env10s [0, 1, 4, 5, 7, 8, 9, 16] (by kernel_rfl) ?_
          (simp only [go_sem, reduceIte, reduceCtorEq, Nat.reduceAdd, Nat.reduceMul, Nat.reduceSub, Nat.reduceLT, Nat.reduceLeDiff, Nat.reduceEqDiff, Int.reduceEq, Int.reduceLT, Int.reduceLE, Int.reduceNe, len_st96 h, idx_st96 h, ld_st96 h, sh_st96 h, sw_st96 h, sf_st96_0 h, sc_st96_0 h, sf_st96_1 h, sc_st96_1 h, sf_st96_2 h, sc_st96_2 h, h.P, h.oc, h.cl, h.rd, h.ref, strip_P hs, strip_rd hs, strip_ld hs, strip_sl h hs k_st96, G10s_d1, conD1_s, G10s_s1, conS1_s, stIxS, drVs, hlt, hkd, hkv, en_t96, c1, List.headD_cons, intOf_int]; repeat (refine Vc.mk' ?_; simp only [go_sem, reduceIte, reduceCtorEq, Nat.reduceAdd, Nat.reduceMul, Nat.reduceSub, Nat.reduceLT, Nat.reduceLeDiff, Nat.reduceEqDiff, Int.reduceEq, Int.reduceLT, Int.reduceLE, Int.reduceNe, len_st96 h, idx_st96 h, ld_st96 h, sh_st96 h, sw_st96 h, sf_st96_0 h, sc_st96_0 h, sf_st96_1 h, sc_st96_1 h, sf_st96_2 h, sc_st96_2 h, h.P, h.oc, h.cl, h.rd, h.ref, strip_P hs, strip_rd hs, strip_ld hs, strip_sl h hs k_st96, G10s_d1, conD1_s, G10s_s1, conS1_s, stIxS, drVs, hlt, hkd, hkv, en_t96, c1, List.headD_cons, intOf_int]))
          simp only [hix, ixResS, hlt, if_true]
          exact ⟨[], by simp, by simp, by simp, by simp [frSub, lkG, ren, renL, renL_set, renL_ints, UpdOk.nil, UpdOk.cons, renOO_some, renO_cells, renO_map, renOO_mkOb, rn_base, rn_add, ren_mkSl, Enc.flat_ren, set_same, set_ne, sets_cons, sets_nil, Keep.set, Keep.setK, Keep.refl], by simp [frSub, lkG, ren, renL, renL_set, renL_ints, UpdOk.nil, UpdOk.cons, renOO_some, renO_cells, renO_map, renOO_mkOb, rn_base, rn_add, ren_mkSl, Enc.flat_ren, set_same, set_ne, sets_cons, sets_nil, Keep.set, Keep.setK, Keep.refl], by simp [frSub, lkG, ren, renL, renL_set, renL_ints, UpdOk.nil, UpdOk.cons, renOO_some, renO_cells, renO_map, renOO_mkOb, rn_base, rn_add, ren_mkSl, Enc.flat_ren, set_same, set_ne, sets_cons, sets_nil, Keep.set, Keep.setK, Keep.refl]⟩
        · refine CW.vc env10s [0, 1, 4, 5, 7, 8, 9, 16] (by kernel_rfl) ?_
          (simp only [go_sem, reduceIte, reduceCtorEq, Nat.reduceAdd, Nat.reduceMul, Nat.reduceSub, Nat.reduceLT, Nat.reduceLeDiff, Nat.reduceEqDiff, Int.reduceEq, Int.reduceLT, Int.reduceLE, Int.reduceNe, len_st96 h, idx_st96 h, ld_st96 h, sh_st96 h, sw_st96 h, sf_st96_0 h, sc_st96_0 h, sf_st96_1 h, sc_st96_1 h, sf_st96_2 h, sc_st96_2 h, h.P, h.oc, h.cl, h.rd, h.ref, strip_P hs, strip_rd hs, strip_ld hs, strip_sl h hs k_st96, G10s_d1, conD1_s, G10s_s1, conS1_s, stIxS, drVs, hlt, hkd, hkv, en_t96, c1, List.headD_cons, intOf_int]; repeat (refine Vc.mk' ?_; simp only [go_sem, reduceIte, reduceCtorEq, Nat.reduceAdd, Nat.reduceMul, Nat.reduceSub, Nat.reduceLT, Nat.reduceLeDiff, Nat.reduceEqDiff, Int.reduceEq, Int.reduceLT, Int.reduceLE, Int.reduceNe, len_st96 h, idx_st96 h, ld_st96 h, sh_st96 h, sw_st96 h, sf_st96_0 h, sc_st96_0 h, sf_st96_1 h, sc_st96_1 h, sf_st96_2 h, sc_st96_2 h, h.P, h.oc, h.cl, h.rd, h.ref, strip_P hs, strip_rd hs, strip_ld hs, strip_sl h hs k_st96, G10s_d1, conD1_s, G10s_s1, conS1_s, stIxS, drVs, hlt, hkd, hkv, en_t96, c1, List.headD_cons, intOf_int]))
          refine .mk (i + 1) ⟨hlt, fun k' h' => ?_⟩ (by omega) (SubR.mk' [] hcl (by simp) (by simp) rfl (frSub_ok (by simp [frSub, lkG, ren, renL, renL_set, renL_ints, UpdOk.nil, UpdOk.cons, renOO_some, renO_cells, renO_map, renOO_mkOb, rn_base, rn_add, ren_mkSl, Enc.flat_ren, set_same, set_ne, sets_cons, sets_nil, Keep.set, Keep.setK, Keep.refl, Sc.ren (fun j hj => rn_low hj) hs, drVs, rn_low hbt, wrap_succ hlt hl63])) (by simp [frSub, lkG, ren, renL, renL_set, renL_ints, UpdOk.nil, UpdOk.cons, renOO_some, renO_cells, renO_map, renOO_mkOb, rn_base, rn_add, ren_mkSl, Enc.flat_ren, set_same, set_ne, sets_cons, sets_nil, Keep.set, Keep.setK, Keep.refl, Sc.ren (fun j hj => rn_low hj) hs, drVs, rn_low hbt, wrap_succ hlt hl63]) (by simp [frSub, lkG, ren, renL, renL_set, renL_ints, UpdOk.nil, UpdOk.cons, renOO_some, renO_cells, renO_map, renOO_mkOb, rn_base, rn_add, ren_mkSl, Enc.flat_ren, set_same, set_ne, sets_cons, sets_nil, Keep.set, Keep.setK, Keep.refl, Sc.ren (fun j hj => rn_low hj) hs, drVs, rn_low hbt, wrap_succ hlt hl63]))
          by_cases e : k' < i
          · exact of_decide_eq_false (hlo k' e)
          · have e2 : k' = i := by omega
            subst e2
            exact c1
      · have hi2 : i = l.length := by omega
        subst hi2
        have hix := ixF_at (p := fun a => decide (a.ticket = k)) hi hlo fun h => absurd h (Nat.lt_irrefl _)
        refine CW.vc env10s [0, 1, 4, 5, 7, 8, 9, 16] (by kernel_rfl) ?_
        (simp only [go_sem, reduceIte, reduceCtorEq, Nat.reduceAdd, Nat.reduceMul, Nat.reduceSub, Nat.reduceLT, Nat.reduceLeDiff, Nat.reduceEqDiff, Int.reduceEq, Int.reduceLT, Int.reduceLE, Int.reduceNe, len_st96 h, idx_st96 h, ld_st96 h, sh_st96 h, sw_st96 h, sf_st96_0 h, sc_st96_0 h, sf_st96_1 h, sc_st96_1 h, sf_st96_2 h, sc_st96_2 h, h.P, h.oc, h.cl, h.rd, h.ref, strip_P hs, strip_rd hs, strip_ld hs, strip_sl h hs k_st96, G10s_d1, conD1_s, G10s_s1, conS1_s, stIxS, drVs, Nat.lt_irrefl, decide_false]; repeat (refine Vc.mk' ?_; simp only [go_sem, reduceIte, reduceCtorEq, Nat.reduceAdd, Nat.reduceMul, Nat.reduceSub, Nat.reduceLT, Nat.reduceLeDiff, Nat.reduceEqDiff, Int.reduceEq, Int.reduceLT, Int.reduceLE, Int.reduceNe, len_st96 h, idx_st96 h, ld_st96 h, sh_st96 h, sw_st96 h, sf_st96_0 h, sc_st96_0 h, sf_st96_1 h, sc_st96_1 h, sf_st96_2 h, sc_st96_2 h, h.P, h.oc, h.cl, h.rd, h.ref, strip_P hs, strip_rd hs, strip_ld hs, strip_sl h hs k_st96, G10s_d1, conD1_s, G10s_s1, conS1_s, stIxS, drVs, Nat.lt_irrefl, decide_false]))
        simp only [hix, ixResS, Nat.lt_irrefl, if_false]
        exact ⟨[], by simp, by simp, by simp, by simp [frSub, lkG, ren, renL, renL_set, renL_ints, UpdOk.nil, UpdOk.cons, renOO_some, renO_cells, renO_map, renOO_mkOb, rn_base, rn_add, ren_mkSl, Enc.flat_ren, set_same, set_ne, sets_cons, sets_nil, Keep.set, Keep.setK, Keep.refl], by simp [frSub, lkG, ren, renL, renL_set, renL_ints, UpdOk.nil, UpdOk.cons, renOO_some, renO_cells, renO_map, renOO_mkOb, rn_base, rn_add, ren_mkSl, Enc.flat_ren, set_same, set_ne, sets_cons, sets_nil, Keep.set, Keep.setK, Keep.refl], by simp [frSub, lkG, ren, renL, renL_set, renL_ints, UpdOk.nil, UpdOk.cons, renOO_some, renO_cells, renO_map, renOO_mkOb, rn_base, rn_add, ren_mkSl, Enc.flat_ren, set_same, set_ne, sets_cons, sets_nil, Keep.set, Keep.setK, Keep.refl]⟩
  | kn b hk =>
    rw [ixC_kn hk]
    have hbt : b < top := hcl.lt _ _ hk
    have hkv : ∀ {h' : Hp}, Keep top [] h' hp → h' b = some (.cells true 0 [knV]) := fun hk' => by rw [hk' b hbt (by simp)]; exact hk
    have hkp : ∀ {h' : Hp}, Keep top [] h' hp → S1Pre h' b = True := fun hk' => S1Pre_kn (hkv hk')
    have hkr : ∀ {h' : Hp} {s : List UInt8} {t : Nat}, Keep top [] h' hp → s1R h' b s t = (.bool (isP s), [], t) := fun hk' => s1R_kn (hkv hk')
    refine CalledOk.of_fun tt_ok fn59_ok rfl 19 rfl [.tmp 4] rfl (show 2 ≤ 19 by decide) ?_
    refine CW.vc env10s [0, 1, 4, 5, 7, 8, 9, 16] (by kernel_rfl) ?_
    (simp only [go_sem, reduceIte, reduceCtorEq, Nat.reduceAdd, Nat.reduceMul, Nat.reduceSub, Nat.reduceLT, Nat.reduceLeDiff, Nat.reduceEqDiff, Int.reduceEq, Int.reduceLT, Int.reduceLE, Int.reduceNe, len_st96 h, idx_st96 h, ld_st96 h, sh_st96 h, sw_st96 h, sf_st96_0 h, sc_st96_0 h, sf_st96_1 h, sc_st96_1 h, sf_st96_2 h, sc_st96_2 h, h.P, h.oc, h.cl, h.rd, h.ref, strip_P hs, strip_rd hs, strip_ld hs, strip_sl h hs k_st96, G10s_d1, conD1_s, G10s_s1, conS1_s]; repeat (refine Vc.mk' ?_; simp only [go_sem, reduceIte, reduceCtorEq, Nat.reduceAdd, Nat.reduceMul, Nat.reduceSub, Nat.reduceLT, Nat.reduceLeDiff, Nat.reduceEqDiff, Int.reduceEq, Int.reduceLT, Int.reduceLE, Int.reduceNe, len_st96 h, idx_st96 h, ld_st96 h, sh_st96 h, sw_st96 h, sf_st96_0 h, sc_st96_0 h, sf_st96_1 h, sc_st96_1 h, sf_st96_2 h, sc_st96_2 h, h.P, h.oc, h.cl, h.rd, h.ref, strip_P hs, strip_rd hs, strip_ld hs, strip_sl h hs k_st96, G10s_d1, conD1_s, G10s_s1, conS1_s]))
    refine CW.loopR (stIxS hp top v (siVs b) l.length) (fun i => i ≤ l.length ∧ ∀ k', k' < i → isP (at' l k').v = false) (fun i => l.length - i) 0 ⟨Nat.zero_le _, fun k' h' => absurd h' (Nat.not_lt_zero _)⟩ ?_ ?_
    · exact SubR.mk' [] hcl (by simp) (by simp) rfl (frSub_ok (by simp [frSub, lkG, ren, renL, renL_set, renL_ints, UpdOk.nil, UpdOk.cons, renOO_some, renO_cells, renO_map, renOO_mkOb, rn_base, rn_add, ren_mkSl, Enc.flat_ren, set_same, set_ne, sets_cons, sets_nil, Keep.set, Keep.setK, Keep.refl, Sc.ren (fun j hj => rn_low hj) hs, siVs, rn_low hbt, Int.natCast_zero])) (by simp [frSub, lkG, ren, renL, renL_set, renL_ints, UpdOk.nil, UpdOk.cons, renOO_some, renO_cells, renO_map, renOO_mkOb, rn_base, rn_add, ren_mkSl, Enc.flat_ren, set_same, set_ne, sets_cons, sets_nil, Keep.set, Keep.setK, Keep.refl, Sc.ren (fun j hj => rn_low hj) hs, siVs, rn_low hbt, Int.natCast_zero]) (by simp [frSub, lkG, ren, renL, renL_set, renL_ints, UpdOk.nil, UpdOk.cons, renOO_some, renO_cells, renO_map, renOO_mkOb, rn_base, rn_add, ren_mkSl, Enc.flat_ren, set_same, set_ne, sets_cons, sets_nil, Keep.set, Keep.setK, Keep.refl, Sc.ren (fun j hj => rn_low hj) hs, siVs, rn_low hbt, Int.natCast_zero])
    · rintro i ⟨hi, hlo⟩
      by_cases hlt : i < l.length
      · cases c1 : isP (at' l i).v with
        | true =>
          have hix := ixF_at (p := fun a => isP a.v) hi hlo fun _ => c1
          refine CW.vc env10s [0, 1, 4, 5, 7, 8, 9, 16] (by kernel_rfl) ?_
          (simp only [go_sem, reduceIte, reduceCtorEq, Nat.reduceAdd, Nat.reduceMul, Nat.reduceSub, Nat.reduceLT, Nat.reduceLeDiff, Nat.reduceEqDiff, Int.reduceEq, Int.reduceLT, Int.reduceLE, Int.reduceNe, len_st96 h, idx_st96 h, ld_st96 h, sh_st96 h, sw_st96 h, sf_st96_0 h, sc_st96_0 h, sf_st96_1 h, sc_st96_1 h, sf_st96_2 h, sc_st96_2 h, h.P, h.oc, h.cl, h.rd, h.ref, strip_P hs, strip_rd hs, strip_ld hs, strip_sl h hs k_st96, G10s_d1, conD1_s, G10s_s1, conS1_s, stIxS, siVs, hlt, hkp, hkr, en_t96, c1]; repeat (refine Vc.mk' ?_; simp only [go_sem, reduceIte, reduceCtorEq, Nat.reduceAdd, Nat.reduceMul, Nat.reduceSub, Nat.reduceLT, Nat.reduceLeDiff, Nat.reduceEqDiff, Int.reduceEq, Int.reduceLT, Int.reduceLE, Int.reduceNe, len_st96 h, idx_st96 h, ld_st96 h, sh_st96 h, sw_st96 h, sf_st96_0 h, sc_st96_0 h, sf_st96_1 h, sc_st96_1 h, sf_st96_2 h, sc_st96_2 h, h.P, h.oc, h.cl, h.rd, h.ref, strip_P hs, strip_rd hs, strip_ld hs, strip_sl h hs k_st96, G10s_d1, conD1_s, G10s_s1, conS1_s, stIxS, siVs, hlt, hkp, hkr, en_t96, c1]))
          simp only [hix, ixResS, hlt, if_true]
          exact ⟨[], by simp, by simp, by simp, by simp [frSub, lkG, ren, renL, renL_set, renL_ints, UpdOk.nil, UpdOk.cons, renOO_some, renO_cells, renO_map, renOO_mkOb, rn_base, rn_add, ren_mkSl, Enc.flat_ren, set_same, set_ne, sets_cons, sets_nil, Keep.set, Keep.setK, Keep.refl], by simp [frSub, lkG, ren, renL, renL_set, renL_ints, UpdOk.nil, UpdOk.cons, renOO_some, renO_cells, renO_map, renOO_mkOb, rn_base, rn_add, ren_mkSl, Enc.flat_ren, set_same, set_ne, sets_cons, sets_nil, Keep.set, Keep.setK, Keep.refl], by simp [frSub, lkG, ren, renL, renL_set, renL_ints, UpdOk.nil, UpdOk.cons, renOO_some, renO_cells, renO_map, renOO_mkOb, rn_base, rn_add, ren_mkSl, Enc.flat_ren, set_same, set_ne, sets_cons, sets_nil, Keep.set, Keep.setK, Keep.refl]⟩
        | false =>
          refine CW.vc env10s [0, 1, 4, 5, 7, 8, 9, 16] (by kernel_rfl) ?_
          (simp only [go_sem, reduceIte, reduceCtorEq, Nat.reduceAdd, Nat.reduceMul, Nat.reduceSub, Nat.reduceLT, Nat.reduceLeDiff, Nat.reduceEqDiff, Int.reduceEq, Int.reduceLT, Int.reduceLE, Int.reduceNe, len_st96 h, idx_st96 h, ld_st96 h, sh_st96 h, sw_st96 h, sf_st96_0 h, sc_st96_0 h, sf_st96_1 h, sc_st96_1 h, sf_st96_2 h, sc_st96_2 h, h.P, h.oc, h.cl, h.rd, h.ref, strip_P hs, strip_rd hs, strip_ld hs, strip_sl h hs k_st96, G10s_d1, conD1_s, G10s_s1, conS1_s, stIxS, siVs, hlt, hkp, hkr, en_t96, c1]; repeat (refine Vc.mk' ?_; simp only [go_sem, reduceIte, reduceCtorEq, Nat.reduceAdd, Nat.reduceMul, Nat.reduceSub, Nat.reduceLT, Nat.reduceLeDiff, Nat.reduceEqDiff, Int.reduceEq, Int.reduceLT, Int.reduceLE, Int.reduceNe, len_st96 h, idx_st96 h, ld_st96 h, sh_st96 h, sw_st96 h, sf_st96_0 h, sc_st96_0 h, sf_st96_1 h, sc_st96_1 h, sf_st96_2 h, sc_st96_2 h, h.P, h.oc, h.cl, h.rd, h.ref, strip_P hs, strip_rd hs, strip_ld hs, strip_sl h hs k_st96, G10s_d1, conD1_s, G10s_s1, conS1_s, stIxS, siVs, hlt, hkp, hkr, en_t96, c1]))
          refine .mk (i + 1) ⟨hlt, fun k' h' => ?_⟩ (by omega) (SubR.mk' [] hcl (by simp) (by simp) rfl (frSub_ok (by simp [frSub, lkG, ren, renL, renL_set, renL_ints, UpdOk.nil, UpdOk.cons, renOO_some, renO_cells, renO_map, renOO_mkOb, rn_base, rn_add, ren_mkSl, Enc.flat_ren, set_same, set_ne, sets_cons, sets_nil, Keep.set, Keep.setK, Keep.refl, Sc.ren (fun j hj => rn_low hj) hs, siVs, rn_low hbt, wrap_succ hlt hl63])) (by simp [frSub, lkG, ren, renL, renL_set, renL_ints, UpdOk.nil, UpdOk.cons, renOO_some, renO_cells, renO_map, renOO_mkOb, rn_base, rn_add, ren_mkSl, Enc.flat_ren, set_same, set_ne, sets_cons, sets_nil, Keep.set, Keep.setK, Keep.refl, Sc.ren (fun j hj => rn_low hj) hs, siVs, rn_low hbt, wrap_succ hlt hl63]) (by simp [frSub, lkG, ren, renL, renL_set, renL_ints, UpdOk.nil, UpdOk.cons, renOO_some, renO_cells, renO_map, renOO_mkOb, rn_base, rn_add, ren_mkSl, Enc.flat_ren, set_same, set_ne, sets_cons, sets_nil, Keep.set, Keep.setK, Keep.refl, Sc.ren (fun j hj => rn_low hj) hs, siVs, rn_low hbt, wrap_succ hlt hl63]))
          by_cases e : k' < i
          · exact hlo k' e
          · have e2 : k' = i := by omega
            subst e2
            exact c1
      · have hi2 : i = l.length := by omega
        subst hi2
        have hix := ixF_at (p := fun a : T_t96 => isP a.v) hi hlo fun h => absurd h (Nat.lt_irrefl _)
        refine CW.vc env10s [0, 1, 4, 5, 7, 8, 9, 16] (by kernel_rfl) ?_
        (simp only [go_sem, reduceIte, reduceCtorEq, Nat.reduceAdd, Nat.reduceMul, Nat.reduceSub, Nat.reduceLT, Nat.reduceLeDiff, Nat.reduceEqDiff, Int.reduceEq, Int.reduceLT, Int.reduceLE, Int.reduceNe, len_st96 h, idx_st96 h, ld_st96 h, sh_st96 h, sw_st96 h, sf_st96_0 h, sc_st96_0 h, sf_st96_1 h, sc_st96_1 h, sf_st96_2 h, sc_st96_2 h, h.P, h.oc, h.cl, h.rd, h.ref, strip_P hs, strip_rd hs, strip_ld hs, strip_sl h hs k_st96, G10s_d1, conD1_s, G10s_s1, conS1_s, stIxS, siVs, Nat.lt_irrefl, decide_false]; repeat (refine Vc.mk' ?_; simp only [go_sem, reduceIte, reduceCtorEq, Nat.reduceAdd, Nat.reduceMul, Nat.reduceSub, Nat.reduceLT, Nat.reduceLeDiff, Nat.reduceEqDiff, Int.reduceEq, Int.reduceLT, Int.reduceLE, Int.reduceNe, len_st96 h, idx_st96 h, ld_st96 h, sh_st96 h, sw_st96 h, sf_st96_0 h, sc_st96_0 h, sf_st96_1 h, sc_st96_1 h, sf_st96_2 h, sc_st96_2 h, h.P, h.oc, h.cl, h.rd, h.ref, strip_P hs, strip_rd hs, strip_ld hs, strip_sl h hs k_st96, G10s_d1, conD1_s, G10s_s1, conS1_s, stIxS, siVs, Nat.lt_irrefl, decide_false]))
        simp only [hix, ixResS, Nat.lt_irrefl, if_false]
        exact ⟨[], by simp, by simp, by simp, by simp [frSub, lkG, ren, renL, renL_set, renL_ints, UpdOk.nil, UpdOk.cons, renOO_some, renO_cells, renO_map, renOO_mkOb, rn_base, rn_add, ren_mkSl, Enc.flat_ren, set_same, set_ne, sets_cons, sets_nil, Keep.set, Keep.setK, Keep.refl], by simp [frSub, lkG, ren, renL, renL_set, renL_ints, UpdOk.nil, UpdOk.cons, renOO_some, renO_cells, renO_map, renOO_mkOb, rn_base, rn_add, ren_mkSl, Enc.flat_ren, set_same, set_ne, sets_cons, sets_nil, Keep.set, Keep.setK, Keep.refl], by simp [frSub, lkG, ren, renL, renL_set, renL_ints, UpdOk.nil, UpdOk.cons, renOO_some, renO_cells, renO_map, renOO_mkOb, rn_base, rn_add, ren_mkSl, Enc.flat_ren, set_same, set_ne, sets_cons, sets_nil, Keep.set, Keep.setK, Keep.refl]⟩
  | lw b ab gb g hk hg ha =>
    rw [ixC_lw hk hg]
    have hbt : b < top := hcl.lt _ _ hk
    have hat : ab < top := hcl.lt _ _ ha
    have hgt : gb < top := hcl.lt _ _ hg
    have hba : ¬ b = ab := fun e => by rw [e, ha] at hk; simp [lwV] at hk
    have hga : ¬ gb = ab := fun e => by rw [e, ha] at hg; simp at hg
    have hta : ¬ top = ab := by omega
    have hat2 : ¬ ab = top := by omega
    refine CalledOk.of_fun tt_ok fn59_ok rfl 19 rfl [.tmp 4] rfl (show 2 ≤ 19 by decide) ?_
    refine CW.vc env10s [0, 1, 4, 5, 7, 8, 9, 16] (by kernel_rfl) ?_
    (simp only [go_sem, reduceIte, reduceCtorEq, Nat.reduceAdd, Nat.reduceMul, Nat.reduceSub, Nat.reduceLT, Nat.reduceLeDiff, Nat.reduceEqDiff, Int.reduceEq, Int.reduceLT, Int.reduceLE, Int.reduceNe, len_st96 h, idx_st96 h, ld_st96 h, sh_st96 h, sw_st96 h, sf_st96_0 h, sc_st96_0 h, sf_st96_1 h, sc_st96_1 h, sf_st96_2 h, sc_st96_2 h, h.P, h.oc, h.cl, h.rd, h.ref, strip_P hs, strip_rd hs, strip_ld hs, strip_sl h hs k_st96, G10s_d1, conD1_s, G10s_s1, conS1_s]; repeat (refine Vc.mk' ?_; simp only [go_sem, reduceIte, reduceCtorEq, Nat.reduceAdd, Nat.reduceMul, Nat.reduceSub, Nat.reduceLT, Nat.reduceLeDiff, Nat.reduceEqDiff, Int.reduceEq, Int.reduceLT, Int.reduceLE, Int.reduceNe, len_st96 h, idx_st96 h, ld_st96 h, sh_st96 h, sw_st96 h, sf_st96_0 h, sc_st96_0 h, sf_st96_1 h, sc_st96_1 h, sf_st96_2 h, sc_st96_2 h, h.P, h.oc, h.cl, h.rd, h.ref, strip_P hs, strip_rd hs, strip_ld hs, strip_sl h hs k_st96, G10s_d1, conD1_s, G10s_s1, conS1_s]))
    refine CW.loopR (stIxL hp top ab v (siVs b) l) (fun i => i ≤ l.length ∧ ∀ k', k' < i → decide ((at' l k').v = g) = false) (fun i => l.length - i) 0 ⟨Nat.zero_le _, fun k' h' => absurd h' (Nat.not_lt_zero _)⟩ ?_ ?_
    · have e0 : outs_s l 0 = [] := rfl
      exact SubR.mk' [top] hcl (by simp) (by simp) rfl (frSub_ok (by simp [frSub, lkG, ren, renL, renL_set, renL_ints, UpdOk.nil, UpdOk.cons, renOO_some, renO_cells, renO_map, renOO_mkOb, rn_base, rn_add, ren_mkSl, Enc.flat_ren, set_same, set_ne, sets_cons, sets_nil, Keep.set, Keep.setK, Keep.refl, Sc.ren (fun j hj => rn_low hj) hs, siVs, rn_low hbt, rn_low hat, Int.natCast_zero, e0, mkSl_nil, mkOb_nil, ha, hta, hat2])) (by simp [frSub, lkG, ren, renL, renL_set, renL_ints, UpdOk.nil, UpdOk.cons, renOO_some, renO_cells, renO_map, renOO_mkOb, rn_base, rn_add, ren_mkSl, Enc.flat_ren, set_same, set_ne, sets_cons, sets_nil, Keep.set, Keep.setK, Keep.refl, Sc.ren (fun j hj => rn_low hj) hs, siVs, rn_low hbt, rn_low hat, Int.natCast_zero, e0, mkSl_nil, mkOb_nil, ha, hta, hat2]) (by simp [frSub, lkG, ren, renL, renL_set, renL_ints, UpdOk.nil, UpdOk.cons, renOO_some, renO_cells, renO_map, renOO_mkOb, rn_base, rn_add, ren_mkSl, Enc.flat_ren, set_same, set_ne, sets_cons, sets_nil, Keep.set, Keep.setK, Keep.refl, Sc.ren (fun j hj => rn_low hj) hs, siVs, rn_low hbt, rn_low hat, Int.natCast_zero, e0, mkSl_nil, mkOb_nil, ha, hta, hat2])
    · rintro i ⟨hi, hlo⟩
      have hol := outs_s_len hi
      have h16 : (outs_s l i).length < 16777216 := by omega
      have hvm : ∀ {h' : Hp}, Keep top [ab] h' hp → SlT e_t96 h' v l := fun hk' => h.mono fun b' o n c e => by
        subst e
        refine hk' b' hs ?_
        intro hm
        have e2 : b' = ab := by simpa using hm
        subst e2
        cases h with
        | rows b o c rw vs l hb hv hlen hc hn => rw [ha] at hb; simp only [Option.some.injEq, AObj.cells.injEq] at hb; exact absurd hb.2.1 (by decide)
      have hbt2 : ¬ b = top := by omega
      have hgt2 : ¬ gb = top := by omega
      by_cases hlt : i < l.length
      · have hld : ∀ {h' : Hp}, Keep top [ab] h' hp → sload tt.get h' 96 (ptrS v (i * 3)) = (.agg ⟨[.int .u64 (at' l i).at_, .int .i64 (at' l i).ticket, .string ⟨⟨(at' l i).v⟩⟩]⟩, True) := fun hk' => ld_st96 (hvm hk') hlt
        have hst := outs_s_succ hlt
        have hvl : val_s (at' l i) = (at' l i).v := rfl
        rw [hvl] at hst
        have hpr : ∀ {h' : Hp}, h' b = some (.cells true 0 [lwV ab gb]) → h' gb = some (.cells true 0 [.string ⟨⟨g⟩⟩]) → h' ab = some (.cells true 0 [mkSl top (outs_s l i)]) → h' top = mkOb e_string (outs_s l i) → S1Pre h' b = True := fun e1 e2 e3 e4 => S1Pre_lw e1 e2 e3 e4 h16
        have hrs : ∀ {h' : Hp} {t : Nat}, h' b = some (.cells true 0 [lwV ab gb]) → h' gb = some (.cells true 0 [.string ⟨⟨g⟩⟩]) → h' ab = some (.cells true 0 [mkSl top (outs_s l i)]) → h' top = mkOb e_string (outs_s l i) → s1R h' b (at' l i).v t = (.bool (decide ((at' l i).v = g)), (ab, some (.cells true 0 [mkSl t (outs_s l (i + 1))])) :: appU top (outs_s l i) t (mkOb e_string (outs_s l (i + 1))), t + 1) := fun e1 e2 e3 e4 => by rw [s1R_lw e1 e2 e3 e4 h16, hst]
        by_cases c1 : (at' l i).v = g
        · have hix := ixF_at (p := fun a => decide (a.v = g)) hi hlo fun _ => decide_eq_true c1
          refine CW.vc env10s [0, 1, 4, 5, 7, 8, 9, 16] (by kernel_rfl) ?_
          have c2 : decide ((at' l i).v = g) = true := decide_eq_true c1
          (simp only [go_sem, reduceIte, reduceCtorEq, Nat.reduceAdd, Nat.reduceMul, Nat.reduceSub, Nat.reduceLT, Nat.reduceLeDiff, Nat.reduceEqDiff, Int.reduceEq, Int.reduceLT, Int.reduceLE, Int.reduceNe, len_st96 h, idx_st96 h, ld_st96 h, sh_st96 h, sw_st96 h, sf_st96_0 h, sc_st96_0 h, sf_st96_1 h, sc_st96_1 h, sf_st96_2 h, sc_st96_2 h, h.P, h.oc, h.cl, h.rd, h.ref, strip_P hs, strip_rd hs, strip_ld hs, strip_sl h hs k_st96, G10s_d1, conD1_s, G10s_s1, conS1_s, stIxL, siVs, hlt, hld, Keep.setK, List.mem_singleton, hpr, hrs, hk, hg, hba, hga, hta, hat2, hbt2, hgt2, set_lt hbt, set_lt hgt, set_lt hat, en_t96, c2]; repeat (refine Vc.mk' ?_; simp only [go_sem, reduceIte, reduceCtorEq, Nat.reduceAdd, Nat.reduceMul, Nat.reduceSub, Nat.reduceLT, Nat.reduceLeDiff, Nat.reduceEqDiff, Int.reduceEq, Int.reduceLT, Int.reduceLE, Int.reduceNe, len_st96 h, idx_st96 h, ld_st96 h, sh_st96 h, sw_st96 h, sf_st96_0 h, sc_st96_0 h, sf_st96_1 h, sc_st96_1 h, sf_st96_2 h, sc_st96_2 h, h.P, h.oc, h.cl, h.rd, h.ref, strip_P hs, strip_rd hs, strip_ld hs, strip_sl h hs k_st96, G10s_d1, conD1_s, G10s_s1, conS1_s, stIxL, siVs, hlt, hld, Keep.setK, List.mem_singleton, hpr, hrs, hk, hg, hba, hga, hta, hat2, hbt2, hgt2, set_lt hbt, set_lt hgt, set_lt hat, en_t96, c2]))
          simp only [hix, ixResS, hlt, if_true]
          exact ⟨[top + 1], by simp, by simp, by simp, by simp [frSub, lkG, ren, renL, renL_set, renL_ints, UpdOk.nil, UpdOk.cons, renOO_some, renO_cells, renO_map, renOO_mkOb, rn_base, rn_add, ren_mkSl, Enc.flat_ren, set_same, set_ne, sets_cons, sets_nil, Keep.set, Keep.setK, Keep.refl, rn_low hat, hta, hat2, set_lt hat], by simp [frSub, lkG, ren, renL, renL_set, renL_ints, UpdOk.nil, UpdOk.cons, renOO_some, renO_cells, renO_map, renOO_mkOb, rn_base, rn_add, ren_mkSl, Enc.flat_ren, set_same, set_ne, sets_cons, sets_nil, Keep.set, Keep.setK, Keep.refl, rn_low hat, hta, hat2, set_lt hat], by simp [frSub, lkG, ren, renL, renL_set, renL_ints, UpdOk.nil, UpdOk.cons, renOO_some, renO_cells, renO_map, renOO_mkOb, rn_base, rn_add, ren_mkSl, Enc.flat_ren, set_same, set_ne, sets_cons, sets_nil, Keep.set, Keep.setK, Keep.refl, rn_low hat, hta, hat2, set_lt hat]⟩
        · refine CW.vc env10s [0, 1, 4, 5, 7, 8, 9, 16] (by kernel_rfl) ?_
          have c2 : decide ((at' l i).v = g) = false := decide_eq_false c1
          (simp only [go_sem, reduceIte, reduceCtorEq, Nat.reduceAdd, Nat.reduceMul, Nat.reduceSub, Nat.reduceLT, Nat.reduceLeDiff, Nat.reduceEqDiff, Int.reduceEq, Int.reduceLT, Int.reduceLE, Int.reduceNe, len_st96 h, idx_st96 h, ld_st96 h, sh_st96 h, sw_st96 h, sf_st96_0 h, sc_st96_0 h, sf_st96_1 h, sc_st96_1 h, sf_st96_2 h, sc_st96_2 h, h.P, h.oc, h.cl, h.rd, h.ref, strip_P hs, strip_rd hs, strip_ld hs, strip_sl h hs k_st96, G10s_d1, conD1_s, G10s_s1, conS1_s, stIxL, siVs, hlt, hld, Keep.setK, List.mem_singleton, hpr, hrs, hk, hg, hba, hga, hta, hat2, hbt2, hgt2, set_lt hbt, set_lt hgt, set_lt hat, en_t96, c2]; repeat (refine Vc.mk' ?_; simp only [go_sem, reduceIte, reduceCtorEq, Nat.reduceAdd, Nat.reduceMul, Nat.reduceSub, Nat.reduceLT, Nat.reduceLeDiff, Nat.reduceEqDiff, Int.reduceEq, Int.reduceLT, Int.reduceLE, Int.reduceNe, len_st96 h, idx_st96 h, ld_st96 h, sh_st96 h, sw_st96 h, sf_st96_0 h, sc_st96_0 h, sf_st96_1 h, sc_st96_1 h, sf_st96_2 h, sc_st96_2 h, h.P, h.oc, h.cl, h.rd, h.ref, strip_P hs, strip_rd hs, strip_ld hs, strip_sl h hs k_st96, G10s_d1, conD1_s, G10s_s1, conS1_s, stIxL, siVs, hlt, hld, Keep.setK, List.mem_singleton, hpr, hrs, hk, hg, hba, hga, hta, hat2, hbt2, hgt2, set_lt hbt, set_lt hgt, set_lt hat, en_t96, c2]))
          refine .mk (i + 1) ⟨hlt, fun k' h' => ?_⟩ (by omega) (SubR.mk' [top + 1] hcl (by simp) (by simp) rfl (frSub_ok (by simp [frSub, lkG, ren, renL, renL_set, renL_ints, UpdOk.nil, UpdOk.cons, renOO_some, renO_cells, renO_map, renOO_mkOb, rn_base, rn_add, ren_mkSl, Enc.flat_ren, set_same, set_ne, sets_cons, sets_nil, Keep.set, Keep.setK, Keep.refl, Sc.ren (fun j hj => rn_low hj) hs, rn_low hbt, rn_low hat, siVs, hta, hat2, set_lt hat, wrap_succ hlt hl63])) (by simp [frSub, lkG, ren, renL, renL_set, renL_ints, UpdOk.nil, UpdOk.cons, renOO_some, renO_cells, renO_map, renOO_mkOb, rn_base, rn_add, ren_mkSl, Enc.flat_ren, set_same, set_ne, sets_cons, sets_nil, Keep.set, Keep.setK, Keep.refl, Sc.ren (fun j hj => rn_low hj) hs, rn_low hbt, rn_low hat, siVs, hta, hat2, set_lt hat, wrap_succ hlt hl63]) (by simp [frSub, lkG, ren, renL, renL_set, renL_ints, UpdOk.nil, UpdOk.cons, renOO_some, renO_cells, renO_map, renOO_mkOb, rn_base, rn_add, ren_mkSl, Enc.flat_ren, set_same, set_ne, sets_cons, sets_nil, Keep.set, Keep.setK, Keep.refl, Sc.ren (fun j hj => rn_low hj) hs, rn_low hbt, rn_low hat, siVs, hta, hat2, set_lt hat, wrap_succ hlt hl63]))
          by_cases e : k' < i
          · exact of_decide_eq_false (hlo k' e)
          · have e2 : k' = i := by omega
            subst e2
            exact c1
      · have hi2 : i = l.length := by omega
        subst hi2
        have hix := ixF_at (p := fun a => decide (a.v = g)) hi hlo fun h => absurd h (Nat.lt_irrefl _)
        have hal : outs_s l (l.length + 1) = outs_s l l.length := by unfold outs_s; rw [List.take_of_length_le (by omega), List.take_of_length_le (by omega)]
        refine CW.vc env10s [0, 1, 4, 5, 7, 8, 9, 16] (by kernel_rfl) ?_
        (simp only [go_sem, reduceIte, reduceCtorEq, Nat.reduceAdd, Nat.reduceMul, Nat.reduceSub, Nat.reduceLT, Nat.reduceLeDiff, Nat.reduceEqDiff, Int.reduceEq, Int.reduceLT, Int.reduceLE, Int.reduceNe, len_st96 h, idx_st96 h, ld_st96 h, sh_st96 h, sw_st96 h, sf_st96_0 h, sc_st96_0 h, sf_st96_1 h, sc_st96_1 h, sf_st96_2 h, sc_st96_2 h, h.P, h.oc, h.cl, h.rd, h.ref, strip_P hs, strip_rd hs, strip_ld hs, strip_sl h hs k_st96, G10s_d1, conD1_s, G10s_s1, conS1_s, stIxL, siVs, Nat.lt_irrefl, decide_false]; repeat (refine Vc.mk' ?_; simp only [go_sem, reduceIte, reduceCtorEq, Nat.reduceAdd, Nat.reduceMul, Nat.reduceSub, Nat.reduceLT, Nat.reduceLeDiff, Nat.reduceEqDiff, Int.reduceEq, Int.reduceLT, Int.reduceLE, Int.reduceNe, len_st96 h, idx_st96 h, ld_st96 h, sh_st96 h, sw_st96 h, sf_st96_0 h, sc_st96_0 h, sf_st96_1 h, sc_st96_1 h, sf_st96_2 h, sc_st96_2 h, h.P, h.oc, h.cl, h.rd, h.ref, strip_P hs, strip_rd hs, strip_ld hs, strip_sl h hs k_st96, G10s_d1, conD1_s, G10s_s1, conS1_s, stIxL, siVs, Nat.lt_irrefl, decide_false]))
        simp only [hix, ixResS, Nat.lt_irrefl, if_false, hal]
        exact ⟨[top], by simp, by simp, by simp, by simp [frSub, lkG, ren, renL, renL_set, renL_ints, UpdOk.nil, UpdOk.cons, renOO_some, renO_cells, renO_map, renOO_mkOb, rn_base, rn_add, ren_mkSl, Enc.flat_ren, set_same, set_ne, sets_cons, sets_nil, Keep.set, Keep.setK, Keep.refl, rn_low hat, hta, hat2, set_lt hat], by simp [frSub, lkG, ren, renL, renL_set, renL_ints, UpdOk.nil, UpdOk.cons, renOO_some, renO_cells, renO_map, renOO_mkOb, rn_base, rn_add, ren_mkSl, Enc.flat_ren, set_same, set_ne, sets_cons, sets_nil, Keep.set, Keep.setK, Keep.refl, rn_low hat, hta, hat2, set_lt hat], by simp [frSub, lkG, ren, renL, renL_set, renL_ints, UpdOk.nil, UpdOk.cons, renOO_some, renO_cells, renO_map, renOO_mkOb, rn_base, rn_add, ren_mkSl, Enc.flat_ren, set_same, set_ne, sets_cons, sets_nil, Keep.set, Keep.setK, Keep.refl, rn_low hat, hta, hat2, set_lt hat]⟩
end Go.Proofs.Ytogndgadipdikaa.Dm
