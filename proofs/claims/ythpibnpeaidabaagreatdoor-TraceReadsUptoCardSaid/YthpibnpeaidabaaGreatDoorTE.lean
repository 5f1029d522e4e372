/- read, Event: what they compute. -/
import Derived.Test.YthpibnpeaidabaaGreatDoorTC
set_option linter.unusedVariables false
namespace Go.Proofs.YthpibnpeaidabaaGreatDoor.Dm
open Go.Dm
set_option maxHeartbeats 16000000
set_option maxRecDepth 20000
theorem parseM_le {M : Nat} : ∀ {l : List UInt8} {acc u : Nat}, acc ≤ M → Lib.parseUintM M acc l = .ok u → u ≤ M
  | [], acc, u, h, e => by
    unfold Lib.parseUintM at e
    cases e; exact h
  | c :: r, acc, u, h, e => by
    unfold Lib.parseUintM at e
    split at e
    · split at e
      · cases e
      · split at e
        · cases e
        · exact parseM_le (by omega) e
    · cases e
theorem puN_le (s : List UInt8) (B : Nat) : puN s B ≤ 2 ^ B - 1 := by
  unfold puN
  split
  · rename_i u h
    unfold Lib.parseUintB at h
    split at h
    · cases h
    · exact parseM_le (Nat.zero_le _) h
  · exact Nat.zero_le _
  · exact Nat.le_refl _
theorem puN_u64 {s : List UInt8} {B : Int} (h : sizeOk B) : U64 (puN s B.toNat : Int) := by
  have := puN_le s B.toNat
  unfold U64
  rcases h with rfl | rfl | rfl
  · have e : (2 : Nat) ^ (64 : Int).toNat - 1 = 18446744073709551615 := by decide
    rw [e] at this; omega
  · have e : (2 : Nat) ^ (32 : Int).toNat - 1 = 4294967295 := by decide
    rw [e] at this; omega
  · have e : (2 : Nat) ^ (31 : Int).toNat - 1 = 2147483647 := by decide
    rw [e] at this; omega
/-- is a text a number's, within a size? -/
theorem eqB_dec {x y : List UInt8} : eqB x y = decide (x = y) := by
  rw [eqB_eq]; by_cases h : x = y <;> simp [h]
def okT (s : List UInt8) (B : Nat) : Bool := puE s B && decide (Lib.itoa (puN s B : Int) = s)
def puT (s : List UInt8) (B top : Nat) : Nat := if puE s B then top else top + 1
theorem puT_le (s : List UInt8) (B top : Nat) : top ≤ puT s B top := by unfold puT; split <;> omega
def goodO (b : Bool) : Option AObj := some (.cells true 0 [.bool b])
def GoodAt (hp : Hp) (g : Nat) : Prop := match hp g with
  | some (.cells true 0 [.bool _]) => True
  | _ => False
theorem GoodAt.ex {hp : Hp} {g : Nat} (h : GoodAt hp g) : ∃ b, hp g = goodO b := by
  unfold GoodAt at h
  split at h
  · rename_i b e; exact ⟨b, e⟩
  · exact h.elim
def goodB (hp : Hp) (g : Nat) : Bool := match hp g with
  | some (.cells _ _ [.bool b]) => b
  | _ => false
theorem goodB_eq {hp : Hp} {g : Nat} {b : Bool} (h : hp g = goodO b) : goodB hp g = b := by unfold goodB; rw [h]; rfl
def conTake : Con := .det (fun args hp _ => match args with | [.string ⟨⟨s⟩⟩, .int .i64 B, .pointer (some ⟨g, 0, none⟩)] => sizeOk B ∧ s.length ≤ 281474976710656 ∧ VarsOk hp ∧ GoodAt hp g | _ => False)
  (fun args hp top => match args with | [s, B, .pointer (some ⟨g, _, _⟩)] => (.int .u64 (puN (strOf s) (intOf B).toNat : Int), [(g, goodO (goodB hp g && okT (strOf s) (intOf B).toNat))], puT (strOf s) (intOf B).toNat top) | _ => (undef, [], top))
def GT4 : FuncId → Con := addG (addG GT3 46 conPu) 11 conLine
theorem envT4 : EnvV Tryz.prog tt.get GT4 := (envT3.add pu_ok).add line_ok
theorem GT4_p : GT4 46 = conPu := rfl
theorem GT4_f : GT4 33 = conFmt := rfl
theorem eql_i {xo yo : Operand} {t : TypeId} {v : Value} : binA tt.get .eql 35 xo yo (.iface t v) .nilIface = some (.bool false) := by simp [binA, eqA, t_error, ti35]
theorem eql_n {xo : Operand} : binA tt.get .eql 35 xo (.const .nilIface) .nilIface .nilIface = some (.bool true) := by simp [binA, eqA, t_error, ti35, isC]
theorem take_ok : ConOk Tryz.prog 64 conTake := by
  refine .mkDet fn64_ok ?_
  intro args hp top hpre hcl hsc
  match args, hpre with
  | [.string ⟨⟨s⟩⟩, .int .i64 B, .pointer (some ⟨g, 0, none⟩)], ⟨hB, hs, hv, hga⟩ =>
  obtain ⟨b, hg⟩ := hga.ex
  have hu : U64 (puN s B.toNat : Int) = True := eq_true (puN_u64 hB)
  have hsz : sizeOk B = True := eq_true hB
  obtain ⟨hp1, hv2, hv3, hv4⟩ := hv
  simp only [strOf_string, intOf_int, goodB_eq hg]
  have hgt : g < top := hcl.lt _ _ hg
  have hgn : ¬ top = g := by omega
  replace hg : hp g = some (.cells true 0 [.bool b]) := hg
  refine CalledOk.of_fun tt_ok fn64_ok rfl 26 rfl [.tmp 5] rfl (show 3 ≤ 26 by decide) ?_
  cases hE : puE s B.toNat with
  | false =>
    have e : ∀ T, puV s B.toNat T = (.tuple ⟨[.int .u64 (puN s B.toNat : Int), .iface 155 (.pointer (some ⟨T, 0, none⟩))]⟩, [], T + 1) := fun T => by unfold puV; rw [hE]; rfl
    have eo : okT s B.toNat = false := by unfold okT; rw [hE]; rfl
    have eT : ∀ T, puT s B.toNat T = T + 1 := fun T => by unfold puT; rw [hE]; rfl
    rw [eo, eT]
    refine CW.vc envT4 [0, 1, 2, 5, 6, 7] (by kernel_rfl) ?_
    (repeat ((try refine Vc.mk' ?_); simp only [go_sem, Nat.reduceAdd, GT4_p, conPu, hsz, hs, hv3, hv4, e, hg, eql_i]))
    simp only [Bool.and_false, Bool.false_and, goodO]
    (refine ⟨[top], by simp, by simp, by simp, ?_, ?_, ?_⟩ <;> simp [ren, renL, UpdOk.nil, UpdOk.cons, renOO_some, renO_cells, set_same, Keep.setK, Keep.refl, rn_low hgt])
  | true =>
    have e : ∀ T, puV s B.toNat T = (.tuple ⟨[.int .u64 (puN s B.toNat : Int), .nilIface]⟩, [], T) := fun T => by unfold puV; rw [hE]; rfl
    have eT : ∀ T, puT s B.toNat T = T := fun T => by unfold puT; rw [hE]; rfl
    have eo : okT s B.toNat = decide (Lib.itoa (puN s B.toNat : Int) = s) := by unfold okT; rw [hE]; rfl
    rw [eo, eT]
    refine CW.vc envT4 [0, 1, 2, 5, 6, 7] (by kernel_rfl) ?_
    (repeat ((try refine Vc.mk' ?_); simp only [go_sem, Nat.reduceAdd, GT4_p, conPu, hsz, hs, hv3, hv4, e, hg, eql_n, GT4_f, conFmt, hu, hp1]))
    simp only [eqB_dec, goodO]
    (refine ⟨[], by simp, by simp, by simp, ?_, ?_, ?_⟩ <;> simp [ren, renL, UpdOk.nil, UpdOk.cons, renOO_some, renO_cells, set_same, Keep.setK, Keep.refl, rn_low hgt])
def conOk : Con := .pure (fun args hp => match args with | [.pointer (some ⟨g, 0, none⟩)] => GoodAt hp g | _ => False) (fun args hp => match args with | [.pointer (some ⟨g, _, _⟩)] => .bool (goodB hp g) | _ => undef)
theorem rok_ok : ConOk Tryz.prog 65 conOk := by
  refine .mkRd fn65_ok ?_ ?_
  · intro args hp h
    match args, h with
    | [.pointer (some ⟨g, 0, none⟩)], _ => rfl
  intro args hp hpre top hcl hsc
  match args, hpre with
  | [.pointer (some ⟨g, 0, none⟩)], hga =>
  obtain ⟨b, hg⟩ := GoodAt.ex hga
  simp only [goodB_eq hg]
  replace hg : hp g = some (.cells true 0 [.bool b]) := hg
  refine CalledOk.of_fun tt_ok fn65_ok rfl 3 rfl [.tmp 1] rfl (show 1 ≤ 3 by decide) ?_
  refine CW.vc envT4 [0, 1] (by kernel_rfl) ?_
  (repeat ((try refine Vc.mk' ?_); simp only [go_sem, hg]))
def takeF (g : Nat) : Value := .func (.func 64) ⟨[]⟩ ⟨[.pointer (some ⟨g, 0, none⟩)]⟩
def okFn (g : Nat) : Value := .func (.func 65) ⟨[]⟩ ⟨[.pointer (some ⟨g, 0, none⟩)]⟩
def conRead2 : Con := .det (fun args _ _ => args = []) (fun _ _ top => (.tuple ⟨[takeF top, okFn top]⟩, [(top, goodO true)], top + 1))
theorem read_ok : ConOk Tryz.prog 40 conRead2 := by
  refine .mkDet fn40_ok ?_
  intro args hp top hpre hcl hsc
  subst hpre
  refine CalledOk.of_fun tt_ok fn40_ok rfl 5 rfl [.tmp 0, .tmp 1] rfl (show 0 ≤ 5 by decide) ?_
  refine CW.vc envT4 [0, 1, 2] (by kernel_rfl) ?_
  (repeat ((try refine Vc.mk' ?_); simp only [go_sem, evList, evO]))
  simp only [takeF, okFn, goodO]
  (refine ⟨[top], by simp, by simp, by simp, ?_, ?_, ?_⟩ <;> simp [ren, renL, UpdOk.nil, UpdOk.cons, renOO_some, renO_cells, rn_base, set_same, Keep.set, Keep.refl])
def conWrong : Con := .det (fun args _ _ => match args with | [.int .i64 _] => True | _ => False) (fun args _ top => match args with | [n] => (.iface 84 (.pointer (some ⟨top, 0, none⟩)), [(top, some (.cells true 0 [.int .i64 12, n]))], top + 1) | _ => (undef, [], top))
theorem if_fault {a : Option Addr} : ifaceA tt.get 84 (.pointer a) = some (.iface 84 (.pointer a)) := by simp [ifaceA, t_papi_Fault, ti84]
theorem wrong_ok : ConOk Tryz.prog 39 conWrong := by
  refine .mkDet fn39_ok ?_
  intro args hp top hpre hcl hsc
  match args, hpre with
  | [.int .i64 n], _ =>
  refine CalledOk.of_fun tt_ok fn39_ok rfl 7 rfl [.tmp 2] rfl (show 1 ≤ 7 by decide) ?_
  refine CW.vc envT4 [0, 2] (by kernel_rfl) ?_
  (repeat ((try refine Vc.mk' ?_); simp only [go_sem, Nat.reduceAdd, Nat.reduceLeDiff, evO, if_fault]))
  (refine ⟨[top], by simp, by simp, by simp, ?_, ?_, ?_⟩ <;> simp [ren, renL, UpdOk.nil, UpdOk.cons, renOO_some, renO_cells, rn_base, set_same, Keep.set, Keep.refl])
end Go.Proofs.YthpibnpeaidabaaGreatDoor.Dm
