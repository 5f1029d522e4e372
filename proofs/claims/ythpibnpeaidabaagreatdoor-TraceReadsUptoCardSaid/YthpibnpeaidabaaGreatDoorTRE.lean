/- The document's trace: what Event leans on. -/
import Derived.Test.YthpibnpeaidabaaGreatDoorTR3
import Derived.Test.YthpibnpeaidabaaGreatDoorTRW
set_option linter.unusedVariables false
namespace Go.Proofs.YthpibnpeaidabaaGreatDoor.Dm
open Go.Dm
set_option maxHeartbeats 16000000
set_option maxRecDepth 20000
/-- a contract whose names are counted further -/
theorem CalledOk.bump {P : Program} {f : FuncId} {args : List Value} {hp : Hp} {top t1 t2 : Nat} {v : Value} {us : Upds} (h : CalledOk P f args hp top fun v' hp' top' => v' = v ∧ hp' = hp.sets us ∧ top' = t1) (ht : t1 ≤ t2) :
    CalledOk P f args hp top fun v' hp' top' => v' = v ∧ hp' = hp.sets us ∧ top' = t2 := by
  intro φ own w args' ha H htop
  refine (h φ own w args' ha H htop).mono ?_
  rintro e w' ⟨v', hp', top', x, φ', rfl, ⟨rfl, rfl, rfl⟩, k⟩
  exact ⟨_, _, _, _, φ', rfl, ⟨rfl, rfl, rfl⟩, ⟨k.le, k.v, k.hr, k.k, fun j hj => k.top j (by omega)⟩⟩
def errU (s : List UInt8) (B top : Nat) : Value := if puE s B then .nilIface else .iface 155 (.pointer (some ⟨top, 0, none⟩))
def conPu1 : Con := .det (fun args hp _ => match args with | [.string ⟨⟨s⟩⟩, .int .i64 b, .int .i64 B] => b = 10 ∧ sizeOk B ∧ s.length ≤ 281474976710656 ∧ VarsOk hp | _ => False)
  (fun args _ top => match args with | [s, _, B] => (.tuple ⟨[.int .u64 (puN (strOf s) (intOf B).toNat), errU (strOf s) (intOf B).toNat top]⟩, [], top + 1) | _ => (undef, [], top))
theorem pu1_ok : ConOk Tryz.prog 46 conPu1 := by
  refine ⟨pu_ok.1, fun args hp top hpre => ?_⟩
  match args, hpre with
  | [.string ⟨⟨s⟩⟩, .int .i64 b, .int .i64 B], ⟨h1, h2, h3, h4⟩ =>
  exact CalledOk.bump (pu_ok.2 [.string ⟨⟨s⟩⟩, .int .i64 b, .int .i64 B] hp top ⟨h1, h2, h3, h4.2.2.1, h4.2.2.2⟩) (by
    show (if puE (strOf (.string ⟨⟨s⟩⟩)) (intOf (.int .i64 B)).toNat then top else top + 1) ≤ top + 1
    split <;> omega)
def atN (s : List UInt8) : Int := match Lib.atoiAll s with | .ok v => v | .syntax => 0 | .range => Lib.atoiSat s
def errA (s : List UInt8) (top : Nat) : Value := match Lib.atoiAll s with | .ok _ => .nilIface | _ => .iface 155 (.pointer (some ⟨top, 0, none⟩))
def conAtoi1 : Con := .det (fun args hp _ => match args with | [.string ⟨⟨s⟩⟩] => s.length ≤ 281474976710656 ∧ VarsOk hp | _ => False)
  (fun args _ top => match args with | [s] => (.tuple ⟨[.int .i64 (atN (strOf s)), errA (strOf s) top]⟩, [], top + 1) | _ => (undef, [], top))
theorem atoi1_ok : ConOk Tryz.prog 48 conAtoi1 := by
  refine ⟨atoi_ok.1, fun args hp top hpre => ?_⟩
  match args, hpre with
  | [.string ⟨⟨s⟩⟩], ⟨h3, h4⟩ =>
  have h := atoi_ok.2 [.string ⟨⟨s⟩⟩] hp top ⟨h3, h4.2.2.1, h4.2.2.2⟩
  have e : (atoiV s top).1 = .tuple ⟨[.int .i64 (atN s), errA s top]⟩ ∧ (atoiV s top).2.1 = [] ∧ (atoiV s top).2.2 ≤ top + 1 := by
    unfold atoiV atN errA
    split <;> simp_all
  have h' : CalledOk Tryz.prog 48 [.string ⟨⟨s⟩⟩] hp top fun v' hp' top' => v' = (atoiV s top).1 ∧ hp' = hp.sets (atoiV s top).2.1 ∧ top' = (atoiV s top).2.2 := h
  rw [e.1, e.2.1] at h'
  exact CalledOk.bump h' e.2.2
def conWith4 : Con := .pure (fun args _ => match args with | [v, .int .i64 n] => IsBits v ∧ 1 ≤ n ∧ n ≤ 256 | _ => False) (fun args _ => match args with | [v, n] => .agg ⟨bl (putB (bOf v) (intOf n - 1).toNat)⟩ | _ => undef)
theorem with4_ok : ConOk Tryz.prog 49 conWith4 := by
  refine .mkRd fn49_ok ?_ ?_
  · rintro args hp h
    match args, h with
    | [_, .int .i64 n], ⟨⟨b, rfl, hb⟩, _⟩ => rfl
  intro args hp hpre top hcl hsc
  match args, hpre with
  | [_, .int .i64 n], ⟨⟨b, rfl, hb⟩, h1, h2⟩ =>
  obtain ⟨k, rfl⟩ : ∃ k : Nat, n = (k : Int) + 1 := ⟨(n - 1).toNat, by omega⟩
  have hk : k < 256 := by omega
  have e1 : wrapA .i64 ((k : Int) + 1 - 1) = (k : Int) := by rw [wrap64 (by omega) (by omega)]; omega
  have h4 : k / 64 < 4 := by omega
  have h5 : k / 64 ≤ 3 := by omega
  have e2 : ((k : Int) + 1 - 1).toNat = k := by omega
  have e3 : (0 : Int) ≤ ((k % 64 : Nat) : Int) := by omega
  have ea : bitsI .or .u64 ((wn b (k / 64) : Nat) : Int) (bitM k) = ((wn b (k / 64) ||| 2 ^ (k % 64) : Nat) : Int) := or_u64 (wn_lt hb _) (pow_lt (Nat.mod_lt _ (by decide)))
  simp only [intOf_int, e2, bOf_bl]
  refine CalledOk.of_fun tt_ok fn49_ok rfl 21 rfl [.cell 4 31] rfl (show 2 ≤ 21 by decide) ?_
  refine CW.vc envT3 [0, 1, 2, 4] (by kernel_rfl) ?_
  (repeat ((try refine Vc.mk' ?_); simp (config := { maxSteps := 6000000 }) only [go_sem, reduceCtorEq, Nat.reduceAdd, Nat.reduceLeDiff, Int.reduceEq, e1, quo64 hk, rem64, mask64, c_iu, wrapu_mod, bl_len, bl_take, bl_one, Nat.mul_one, bl_get hb h4, h4, h5, e3, bl_splice h4, ea]))
  rfl
end Go.Proofs.YthpibnpeaidabaaGreatDoor.Dm
