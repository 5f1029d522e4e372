/- Facts on the types of this seat; how their data lie in memory. -/
import Derived.Test.YtnlbcaefljaceaaDmTab
import Derived.Test.YtnlbcaefljaceaaDmF
namespace Go.Proofs.Ytnlbcaefljaceaa.Dm
open Go.Dm
theorem t_int : tt.get 3 = some ti3 := by kernel_rfl
theorem k_int : kindOf tt.get 3 = some (.int .i64) := by kernel_rfl
theorem v_int {op : BinOp} {xo yo : Operand} {x y : Value} : sbin2 tt.get op 3 xo yo x y = sbinI op .i64 x y := sbin2_int k_int
theorem t_bool : tt.get 4 = some ti4 := by kernel_rfl
theorem k_bool : kindOf tt.get 4 = some (.bool) := by kernel_rfl
theorem v_bool {op : BinOp} {xo yo : Operand} {x y : Value} : sbin2 tt.get op 4 xo yo x y = sbinB op x y := sbin2_bool k_bool
theorem t_uint8 : tt.get 5 = some ti5 := by kernel_rfl
theorem k_uint8 : kindOf tt.get 5 = some (.int .u8) := by kernel_rfl
theorem v_uint8 {op : BinOp} {xo yo : Operand} {x y : Value} : sbin2 tt.get op 5 xo yo x y = sbinI op .u8 x y := sbin2_int k_uint8
theorem t_t20 : tt.get 20 = some ti20 := by kernel_rfl
theorem v_t20 {op : BinOp} {xo yo : Operand} {x y : Value} : sbin2 tt.get op 20 xo yo x y = sbinX (binA tt.get op 20 xo yo x y) := sbin2_ref (by kernel_rfl)
theorem t_sTurn : tt.get 22 = some ti22 := by kernel_rfl
theorem k_sTurn : kindOf tt.get 22 = some (.slice 57) := by kernel_rfl
theorem v_sTurn {op : BinOp} {xo yo : Operand} {x y : Value} : sbin2 tt.get op 22 xo yo x y = sbinX (binA tt.get op 22 xo yo x y) := sbin2_ref (by kernel_rfl)
theorem n_sTurn_eql {xo yo : Operand} {a : Option Addr} {n c : Nat} : binA tt.get .eql 22 xo yo (.slice a n c) (.slice none 0 0) = some (.bool (a.isNone)) := by cases a <;> simp [binA, eqA, t_sTurn, ti22]
theorem n_sTurn_neq {xo yo : Operand} {a : Option Addr} {n c : Nat} : binA tt.get .neq 22 xo yo (.slice a n c) (.slice none 0 0) = some (.bool (!a.isNone)) := by cases a <;> simp [binA, eqA, t_sTurn, ti22]
theorem t_sa2uint8 : tt.get 23 = some ti23 := by kernel_rfl
theorem k_sa2uint8 : kindOf tt.get 23 = some (.slice 33) := by kernel_rfl
theorem v_sa2uint8 {op : BinOp} {xo yo : Operand} {x y : Value} : sbin2 tt.get op 23 xo yo x y = sbinX (binA tt.get op 23 xo yo x y) := sbin2_ref (by kernel_rfl)
theorem n_sa2uint8_eql {xo yo : Operand} {a : Option Addr} {n c : Nat} : binA tt.get .eql 23 xo yo (.slice a n c) (.slice none 0 0) = some (.bool (a.isNone)) := by cases a <;> simp [binA, eqA, t_sa2uint8, ti23]
theorem n_sa2uint8_neq {xo yo : Operand} {a : Option Addr} {n c : Nat} : binA tt.get .neq 23 xo yo (.slice a n c) (.slice none 0 0) = some (.bool (!a.isNone)) := by cases a <;> simp [binA, eqA, t_sa2uint8, ti23]
theorem t_sRule : tt.get 24 = some ti24 := by kernel_rfl
theorem k_sRule : kindOf tt.get 24 = some (.slice 27) := by kernel_rfl
theorem v_sRule {op : BinOp} {xo yo : Operand} {x y : Value} : sbin2 tt.get op 24 xo yo x y = sbinX (binA tt.get op 24 xo yo x y) := sbin2_ref (by kernel_rfl)
theorem n_sRule_eql {xo yo : Operand} {a : Option Addr} {n c : Nat} : binA tt.get .eql 24 xo yo (.slice a n c) (.slice none 0 0) = some (.bool (a.isNone)) := by cases a <;> simp [binA, eqA, t_sRule, ti24]
theorem n_sRule_neq {xo yo : Operand} {a : Option Addr} {n c : Nat} : binA tt.get .neq 24 xo yo (.slice a n c) (.slice none 0 0) = some (.bool (!a.isNone)) := by cases a <;> simp [binA, eqA, t_sRule, ti24]
theorem t_Rule : tt.get 27 = some ti27 := by kernel_rfl
theorem fl_Rule : flatOf tt.get 27 = some [.i64, .i64, .i64, .i64, .i64] := by kernel_rfl
theorem v_Rule_eql {xo yo : Operand} {x y : Value} : sbin2 tt.get .eql 27 xo yo x y = (.bool (eqNums (aggOf x) (aggOf y)), x = .agg ⟨aggOf x⟩ ∧ y = .agg ⟨aggOf y⟩ ∧ NumsAs [.i64, .i64, .i64, .i64, .i64] (aggOf x) ∧ NumsAs [.i64, .i64, .i64, .i64, .i64] (aggOf y)) := sbin2_flat_eql fl_Rule
theorem v_Rule_neq {xo yo : Operand} {x y : Value} : sbin2 tt.get .neq 27 xo yo x y = (.bool (!eqNums (aggOf x) (aggOf y)), x = .agg ⟨aggOf x⟩ ∧ y = .agg ⟨aggOf y⟩ ∧ NumsAs [.i64, .i64, .i64, .i64, .i64] (aggOf x) ∧ NumsAs [.i64, .i64, .i64, .i64, .i64] (aggOf y)) := sbin2_flat_neq fl_Rule
theorem fa_Rule_0 {b o : Nat} : sfieldAddr tt.get 27 (.pointer (some ⟨b, o, none⟩)) 0 = (.pointer (some ⟨b, o, none⟩), True) := by unfold sfieldAddr; rw [show fieldAddrA tt.get 27 (.pointer (some ⟨b, o, none⟩)) 0 = some (.pointer (some ⟨b, o, none⟩)) from by kernel_rfl]
theorem fa_Rule_1 {b o : Nat} : sfieldAddr tt.get 27 (.pointer (some ⟨b, o, none⟩)) 1 = (.pointer (some ⟨b, o + 1, none⟩), True) := by unfold sfieldAddr; rw [show fieldAddrA tt.get 27 (.pointer (some ⟨b, o, none⟩)) 1 = some (.pointer (some ⟨b, o + 1, none⟩)) from by kernel_rfl]
theorem fa_Rule_2 {b o : Nat} : sfieldAddr tt.get 27 (.pointer (some ⟨b, o, none⟩)) 2 = (.pointer (some ⟨b, o + 2, none⟩), True) := by unfold sfieldAddr; rw [show fieldAddrA tt.get 27 (.pointer (some ⟨b, o, none⟩)) 2 = some (.pointer (some ⟨b, o + 2, none⟩)) from by kernel_rfl]
theorem fa_Rule_3 {b o : Nat} : sfieldAddr tt.get 27 (.pointer (some ⟨b, o, none⟩)) 3 = (.pointer (some ⟨b, o + 3, none⟩), True) := by unfold sfieldAddr; rw [show fieldAddrA tt.get 27 (.pointer (some ⟨b, o, none⟩)) 3 = some (.pointer (some ⟨b, o + 3, none⟩)) from by kernel_rfl]
theorem fa_Rule_4 {b o : Nat} : sfieldAddr tt.get 27 (.pointer (some ⟨b, o, none⟩)) 4 = (.pointer (some ⟨b, o + 4, none⟩), True) := by unfold sfieldAddr; rw [show fieldAddrA tt.get 27 (.pointer (some ⟨b, o, none⟩)) 4 = some (.pointer (some ⟨b, o + 4, none⟩)) from by kernel_rfl]
theorem t_pfate_Plan : tt.get 28 = some ti28 := by kernel_rfl
theorem k_pfate_Plan : kindOf tt.get 28 = some (.pointer 64) := by kernel_rfl
theorem v_pfate_Plan {op : BinOp} {xo yo : Operand} {x y : Value} : sbin2 tt.get op 28 xo yo x y = sbinX (binA tt.get op 28 xo yo x y) := sbin2_ref (by kernel_rfl)
theorem n_pfate_Plan_eql {xo yo : Operand} {a : Option Addr} : binA tt.get .eql 28 xo yo (.pointer a) (.pointer none) = some (.bool (a.isNone)) := by cases a <;> simp [binA, eqA, t_pfate_Plan, ti28]
theorem n_pfate_Plan_neq {xo yo : Operand} {a : Option Addr} : binA tt.get .neq 28 xo yo (.pointer a) (.pointer none) = some (.bool (!a.isNone)) := by cases a <;> simp [binA, eqA, t_pfate_Plan, ti28]
theorem t_Errno : tt.get 29 = some ti29 := by kernel_rfl
theorem k_Errno : kindOf tt.get 29 = some (.int .i64) := by kernel_rfl
theorem v_Errno {op : BinOp} {xo yo : Operand} {x y : Value} : sbin2 tt.get op 29 xo yo x y = sbinI op .i64 x y := sbin2_int k_Errno
theorem t_sint : tt.get 32 = some ti32 := by kernel_rfl
theorem k_sint : kindOf tt.get 32 = some (.slice 3) := by kernel_rfl
theorem v_sint {op : BinOp} {xo yo : Operand} {x y : Value} : sbin2 tt.get op 32 xo yo x y = sbinX (binA tt.get op 32 xo yo x y) := sbin2_ref (by kernel_rfl)
theorem n_sint_eql {xo yo : Operand} {a : Option Addr} {n c : Nat} : binA tt.get .eql 32 xo yo (.slice a n c) (.slice none 0 0) = some (.bool (a.isNone)) := by cases a <;> simp [binA, eqA, t_sint, ti32]
theorem n_sint_neq {xo yo : Operand} {a : Option Addr} {n c : Nat} : binA tt.get .neq 32 xo yo (.slice a n c) (.slice none 0 0) = some (.bool (!a.isNone)) := by cases a <;> simp [binA, eqA, t_sint, ti32]
theorem t_a2uint8 : tt.get 33 = some ti33 := by kernel_rfl
theorem k_a2uint8 : kindOf tt.get 33 = some (.array 2 5) := by kernel_rfl
theorem t_Fate : tt.get 35 = some ti35 := by kernel_rfl
theorem fl_Fate : flatOf tt.get 35 = some [.i64, .i64, .i64] := by kernel_rfl
theorem v_Fate_eql {xo yo : Operand} {x y : Value} : sbin2 tt.get .eql 35 xo yo x y = (.bool (eqNums (aggOf x) (aggOf y)), x = .agg ⟨aggOf x⟩ ∧ y = .agg ⟨aggOf y⟩ ∧ NumsAs [.i64, .i64, .i64] (aggOf x) ∧ NumsAs [.i64, .i64, .i64] (aggOf y)) := sbin2_flat_eql fl_Fate
theorem v_Fate_neq {xo yo : Operand} {x y : Value} : sbin2 tt.get .neq 35 xo yo x y = (.bool (!eqNums (aggOf x) (aggOf y)), x = .agg ⟨aggOf x⟩ ∧ y = .agg ⟨aggOf y⟩ ∧ NumsAs [.i64, .i64, .i64] (aggOf x) ∧ NumsAs [.i64, .i64, .i64] (aggOf y)) := sbin2_flat_neq fl_Fate
theorem fa_Fate_0 {b o : Nat} : sfieldAddr tt.get 35 (.pointer (some ⟨b, o, none⟩)) 0 = (.pointer (some ⟨b, o, none⟩), True) := by unfold sfieldAddr; rw [show fieldAddrA tt.get 35 (.pointer (some ⟨b, o, none⟩)) 0 = some (.pointer (some ⟨b, o, none⟩)) from by kernel_rfl]
theorem fa_Fate_1 {b o : Nat} : sfieldAddr tt.get 35 (.pointer (some ⟨b, o, none⟩)) 1 = (.pointer (some ⟨b, o + 1, none⟩), True) := by unfold sfieldAddr; rw [show fieldAddrA tt.get 35 (.pointer (some ⟨b, o, none⟩)) 1 = some (.pointer (some ⟨b, o + 1, none⟩)) from by kernel_rfl]
theorem fa_Fate_2 {b o : Nat} : sfieldAddr tt.get 35 (.pointer (some ⟨b, o, none⟩)) 2 = (.pointer (some ⟨b, o + 2, none⟩), True) := by unfold sfieldAddr; rw [show fieldAddrA tt.get 35 (.pointer (some ⟨b, o, none⟩)) 2 = some (.pointer (some ⟨b, o + 2, none⟩)) from by kernel_rfl]
theorem t_sa2int : tt.get 42 = some ti42 := by kernel_rfl
theorem k_sa2int : kindOf tt.get 42 = some (.slice 48) := by kernel_rfl
theorem v_sa2int {op : BinOp} {xo yo : Operand} {x y : Value} : sbin2 tt.get op 42 xo yo x y = sbinX (binA tt.get op 42 xo yo x y) := sbin2_ref (by kernel_rfl)
theorem n_sa2int_eql {xo yo : Operand} {a : Option Addr} {n c : Nat} : binA tt.get .eql 42 xo yo (.slice a n c) (.slice none 0 0) = some (.bool (a.isNone)) := by cases a <;> simp [binA, eqA, t_sa2int, ti42]
theorem n_sa2int_neq {xo yo : Operand} {a : Option Addr} {n c : Nat} : binA tt.get .neq 42 xo yo (.slice a n c) (.slice none 0 0) = some (.bool (!a.isNone)) := by cases a <;> simp [binA, eqA, t_sa2int, ti42]
theorem t_sPair : tt.get 45 = some ti45 := by kernel_rfl
theorem k_sPair : kindOf tt.get 45 = some (.slice 72) := by kernel_rfl
theorem v_sPair {op : BinOp} {xo yo : Operand} {x y : Value} : sbin2 tt.get op 45 xo yo x y = sbinX (binA tt.get op 45 xo yo x y) := sbin2_ref (by kernel_rfl)
theorem n_sPair_eql {xo yo : Operand} {a : Option Addr} {n c : Nat} : binA tt.get .eql 45 xo yo (.slice a n c) (.slice none 0 0) = some (.bool (a.isNone)) := by cases a <;> simp [binA, eqA, t_sPair, ti45]
theorem n_sPair_neq {xo yo : Operand} {a : Option Addr} {n c : Nat} : binA tt.get .neq 45 xo yo (.slice a n c) (.slice none 0 0) = some (.bool (!a.isNone)) := by cases a <;> simp [binA, eqA, t_sPair, ti45]
theorem t_dandelionref17_Plan : tt.get 47 = some ti47 := by kernel_rfl
theorem fa_dandelionref17_Plan_0 {b o : Nat} : sfieldAddr tt.get 47 (.pointer (some ⟨b, o, none⟩)) 0 = (.pointer (some ⟨b, o, none⟩), True) := by unfold sfieldAddr; rw [show fieldAddrA tt.get 47 (.pointer (some ⟨b, o, none⟩)) 0 = some (.pointer (some ⟨b, o, none⟩)) from by kernel_rfl]
theorem fa_dandelionref17_Plan_1 {b o : Nat} : sfieldAddr tt.get 47 (.pointer (some ⟨b, o, none⟩)) 1 = (.pointer (some ⟨b, o + 1, none⟩), True) := by unfold sfieldAddr; rw [show fieldAddrA tt.get 47 (.pointer (some ⟨b, o, none⟩)) 1 = some (.pointer (some ⟨b, o + 1, none⟩)) from by kernel_rfl]
theorem t_a2int : tt.get 48 = some ti48 := by kernel_rfl
theorem k_a2int : kindOf tt.get 48 = some (.array 2 3) := by kernel_rfl
theorem t_Turn : tt.get 57 = some ti57 := by kernel_rfl
theorem fa_Turn_0 {b o : Nat} : sfieldAddr tt.get 57 (.pointer (some ⟨b, o, none⟩)) 0 = (.pointer (some ⟨b, o, none⟩), True) := by unfold sfieldAddr; rw [show fieldAddrA tt.get 57 (.pointer (some ⟨b, o, none⟩)) 0 = some (.pointer (some ⟨b, o, none⟩)) from by kernel_rfl]
theorem fa_Turn_1 {b o : Nat} : sfieldAddr tt.get 57 (.pointer (some ⟨b, o, none⟩)) 1 = (.pointer (some ⟨b, o + 1, none⟩), True) := by unfold sfieldAddr; rw [show fieldAddrA tt.get 57 (.pointer (some ⟨b, o, none⟩)) 1 = some (.pointer (some ⟨b, o + 1, none⟩)) from by kernel_rfl]
theorem fa_Turn_2 {b o : Nat} : sfieldAddr tt.get 57 (.pointer (some ⟨b, o, none⟩)) 2 = (.pointer (some ⟨b, o + 2, none⟩), True) := by unfold sfieldAddr; rw [show fieldAddrA tt.get 57 (.pointer (some ⟨b, o, none⟩)) 2 = some (.pointer (some ⟨b, o + 2, none⟩)) from by kernel_rfl]
theorem fa_Turn_3 {b o : Nat} : sfieldAddr tt.get 57 (.pointer (some ⟨b, o, none⟩)) 3 = (.pointer (some ⟨b, o + 3, none⟩), True) := by unfold sfieldAddr; rw [show fieldAddrA tt.get 57 (.pointer (some ⟨b, o, none⟩)) 3 = some (.pointer (some ⟨b, o + 3, none⟩)) from by kernel_rfl]
theorem fa_Turn_4 {b o : Nat} : sfieldAddr tt.get 57 (.pointer (some ⟨b, o, none⟩)) 4 = (.pointer (some ⟨b, o + 4, none⟩), True) := by unfold sfieldAddr; rw [show fieldAddrA tt.get 57 (.pointer (some ⟨b, o, none⟩)) 4 = some (.pointer (some ⟨b, o + 4, none⟩)) from by kernel_rfl]
theorem t_m_message_Rule : tt.get 58 = some ti58 := by kernel_rfl
theorem k_m_message_Rule : kindOf tt.get 58 = some (.map 67 27) := by kernel_rfl
theorem v_m_message_Rule {op : BinOp} {xo yo : Operand} {x y : Value} : sbin2 tt.get op 58 xo yo x y = sbinX (binA tt.get op 58 xo yo x y) := sbin2_ref (by kernel_rfl)
theorem n_m_message_Rule_eql {xo yo : Operand} {a : Option Nat} : binA tt.get .eql 58 xo yo (.map a) (.map none) = some (.bool (a.isNone)) := by cases a <;> simp [binA, eqA, t_m_message_Rule, ti58]
theorem n_m_message_Rule_neq {xo yo : Operand} {a : Option Nat} : binA tt.get .neq 58 xo yo (.map a) (.map none) = some (.bool (!a.isNone)) := by cases a <;> simp [binA, eqA, t_m_message_Rule, ti58]
theorem le_m_message_Rule {hp : Hp} {b : Nat} : slen tt.get hp 58 (.map (some b)) = (match hp b with | some (.map es _) => (.int .i64 (Int.ofNat es.length), True) | _ => (undef, False)) := by unfold slen; simp only [k_m_message_Rule, lenA, t_m_message_Rule, ti58]; cases hp b with | none => rfl | some o => cases o <;> rfl
theorem ln_m_message_Rule {hp : Hp} : slen tt.get hp 58 (.map none) = (.int .i64 0, True) := by unfold slen; simp only [k_m_message_Rule, lenA, t_m_message_Rule, ti58]
theorem t_a25int : tt.get 61 = some ti61 := by kernel_rfl
theorem k_a25int : kindOf tt.get 61 = some (.array 25 3) := by kernel_rfl
theorem t_a25a25int : tt.get 62 = some ti62 := by kernel_rfl
theorem k_a25a25int : kindOf tt.get 62 = some (.array 25 61) := by kernel_rfl
theorem t_fate_Plan : tt.get 64 = some ti64 := by kernel_rfl
theorem fa_fate_Plan_0 {b o : Nat} : sfieldAddr tt.get 64 (.pointer (some ⟨b, o, none⟩)) 0 = (.pointer (some ⟨b, o, none⟩), True) := by unfold sfieldAddr; rw [show fieldAddrA tt.get 64 (.pointer (some ⟨b, o, none⟩)) 0 = some (.pointer (some ⟨b, o, none⟩)) from by kernel_rfl]
theorem fa_fate_Plan_1 {b o : Nat} : sfieldAddr tt.get 64 (.pointer (some ⟨b, o, none⟩)) 1 = (.pointer (some ⟨b, o + 1, none⟩), True) := by unfold sfieldAddr; rw [show fieldAddrA tt.get 64 (.pointer (some ⟨b, o, none⟩)) 1 = some (.pointer (some ⟨b, o + 1, none⟩)) from by kernel_rfl]
theorem t_message : tt.get 67 = some ti67 := by kernel_rfl
theorem fl_message : flatOf tt.get 67 = some [.i64, .i64, .i64] := by kernel_rfl
theorem v_message_eql {xo yo : Operand} {x y : Value} : sbin2 tt.get .eql 67 xo yo x y = (.bool (eqNums (aggOf x) (aggOf y)), x = .agg ⟨aggOf x⟩ ∧ y = .agg ⟨aggOf y⟩ ∧ NumsAs [.i64, .i64, .i64] (aggOf x) ∧ NumsAs [.i64, .i64, .i64] (aggOf y)) := sbin2_flat_eql fl_message
theorem v_message_neq {xo yo : Operand} {x y : Value} : sbin2 tt.get .neq 67 xo yo x y = (.bool (!eqNums (aggOf x) (aggOf y)), x = .agg ⟨aggOf x⟩ ∧ y = .agg ⟨aggOf y⟩ ∧ NumsAs [.i64, .i64, .i64] (aggOf x) ∧ NumsAs [.i64, .i64, .i64] (aggOf y)) := sbin2_flat_neq fl_message
theorem fa_message_0 {b o : Nat} : sfieldAddr tt.get 67 (.pointer (some ⟨b, o, none⟩)) 0 = (.pointer (some ⟨b, o, none⟩), True) := by unfold sfieldAddr; rw [show fieldAddrA tt.get 67 (.pointer (some ⟨b, o, none⟩)) 0 = some (.pointer (some ⟨b, o, none⟩)) from by kernel_rfl]
theorem fa_message_1 {b o : Nat} : sfieldAddr tt.get 67 (.pointer (some ⟨b, o, none⟩)) 1 = (.pointer (some ⟨b, o + 1, none⟩), True) := by unfold sfieldAddr; rw [show fieldAddrA tt.get 67 (.pointer (some ⟨b, o, none⟩)) 1 = some (.pointer (some ⟨b, o + 1, none⟩)) from by kernel_rfl]
theorem fa_message_2 {b o : Nat} : sfieldAddr tt.get 67 (.pointer (some ⟨b, o, none⟩)) 2 = (.pointer (some ⟨b, o + 2, none⟩), True) := by unfold sfieldAddr; rw [show fieldAddrA tt.get 67 (.pointer (some ⟨b, o, none⟩)) 2 = some (.pointer (some ⟨b, o + 2, none⟩)) from by kernel_rfl]
theorem t_Pair : tt.get 72 = some ti72 := by kernel_rfl
theorem fa_Pair_0 {b o : Nat} : sfieldAddr tt.get 72 (.pointer (some ⟨b, o, none⟩)) 0 = (.pointer (some ⟨b, o, none⟩), True) := by unfold sfieldAddr; rw [show fieldAddrA tt.get 72 (.pointer (some ⟨b, o, none⟩)) 0 = some (.pointer (some ⟨b, o, none⟩)) from by kernel_rfl]
theorem fa_Pair_1 {b o : Nat} : sfieldAddr tt.get 72 (.pointer (some ⟨b, o, none⟩)) 1 = (.pointer (some ⟨b, o + 1, none⟩), True) := by unfold sfieldAddr; rw [show fieldAddrA tt.get 72 (.pointer (some ⟨b, o, none⟩)) 1 = some (.pointer (some ⟨b, o + 1, none⟩)) from by kernel_rfl]
def e_int : Enc (Int) := ⟨fun a => [.int .i64 (a)], fun l => intOf ((l[0]?).getD undef), 1, fun _ => rfl, fun _ => rfl, fun _ => rfl⟩
instance : e_int.Plain := ⟨fun _ _ => rfl⟩
theorem en_int (a : Int) : e_int.enc a = [.int .i64 (a)] := rfl
theorem de_int (l : List Value) : e_int.dec l = intOf ((l[0]?).getD undef) := rfl
def e_bool : Enc (Bool) := ⟨fun a => [.bool (a)], fun l => boolOf ((l[0]?).getD undef), 1, fun _ => rfl, fun _ => rfl, fun _ => rfl⟩
instance : e_bool.Plain := ⟨fun _ _ => rfl⟩
theorem en_bool (a : Bool) : e_bool.enc a = [.bool (a)] := rfl
theorem de_bool (l : List Value) : e_bool.dec l = boolOf ((l[0]?).getD undef) := rfl
def e_uint8 : Enc (Int) := ⟨fun a => [.int .u8 (a)], fun l => intOf ((l[0]?).getD undef), 1, fun _ => rfl, fun _ => rfl, fun _ => rfl⟩
instance : e_uint8.Plain := ⟨fun _ _ => rfl⟩
theorem en_uint8 (a : Int) : e_uint8.enc a = [.int .u8 (a)] := rfl
theorem de_uint8 (l : List Value) : e_uint8.dec l = intOf ((l[0]?).getD undef) := rfl
structure T_Rule where
  From : Int
  To : Int
  Nth : Int
  Kind : Int
  By : Int
instance : Inhabited T_Rule := ⟨⟨0, 0, 0, 0, 0⟩⟩
instance : DecidableEq T_Rule := fun a b => decidable_of_iff (a.From = b.From ∧ a.To = b.To ∧ a.Nth = b.Nth ∧ a.Kind = b.Kind ∧ a.By = b.By) (by cases a; cases b; simp)
def e_Rule : Enc (T_Rule) := ⟨fun a => [.int .i64 (a.From), .int .i64 (a.To), .int .i64 (a.Nth), .int .i64 (a.Kind), .int .i64 (a.By)], fun l => ⟨intOf ((l[0]?).getD undef), intOf ((l[1]?).getD undef), intOf ((l[2]?).getD undef), intOf ((l[3]?).getD undef), intOf ((l[4]?).getD undef)⟩, 5, fun _ => rfl, fun _ => rfl, fun _ => rfl⟩
instance : e_Rule.Plain := ⟨fun _ _ => rfl⟩
theorem en_Rule (a : T_Rule) : e_Rule.enc a = [.int .i64 (a.From), .int .i64 (a.To), .int .i64 (a.Nth), .int .i64 (a.Kind), .int .i64 (a.By)] := rfl
theorem mk_Rule (a : T_Rule) : T_Rule.mk a.From a.To a.Nth a.Kind a.By = a := rfl
theorem de_Rule (l : List Value) : e_Rule.dec l = ⟨intOf ((l[0]?).getD undef), intOf ((l[1]?).getD undef), intOf ((l[2]?).getD undef), intOf ((l[3]?).getD undef), intOf ((l[4]?).getD undef)⟩ := rfl
def e_Errno : Enc (Int) := ⟨fun a => [.int .i64 (a)], fun l => intOf ((l[0]?).getD undef), 1, fun _ => rfl, fun _ => rfl, fun _ => rfl⟩
instance : e_Errno.Plain := ⟨fun _ _ => rfl⟩
theorem en_Errno (a : Int) : e_Errno.enc a = [.int .i64 (a)] := rfl
theorem de_Errno (l : List Value) : e_Errno.dec l = intOf ((l[0]?).getD undef) := rfl
structure T_a2uint8 where
  x0 : Int
  x1 : Int
instance : Inhabited T_a2uint8 := ⟨⟨0, 0⟩⟩
instance : DecidableEq T_a2uint8 := fun a b => decidable_of_iff (a.x0 = b.x0 ∧ a.x1 = b.x1) (by cases a; cases b; simp)
def e_a2uint8 : Enc (T_a2uint8) := ⟨fun a => [.int .u8 (a.x0), .int .u8 (a.x1)], fun l => ⟨intOf ((l[0]?).getD undef), intOf ((l[1]?).getD undef)⟩, 2, fun _ => rfl, fun _ => rfl, fun _ => rfl⟩
instance : e_a2uint8.Plain := ⟨fun _ _ => rfl⟩
theorem en_a2uint8 (a : T_a2uint8) : e_a2uint8.enc a = [.int .u8 (a.x0), .int .u8 (a.x1)] := rfl
theorem mk_a2uint8 (a : T_a2uint8) : T_a2uint8.mk a.x0 a.x1 = a := rfl
theorem de_a2uint8 (l : List Value) : e_a2uint8.dec l = ⟨intOf ((l[0]?).getD undef), intOf ((l[1]?).getD undef)⟩ := rfl
structure T_Fate where
  Copies : Int
  Late : Int
  Second : Int
instance : Inhabited T_Fate := ⟨⟨0, 0, 0⟩⟩
instance : DecidableEq T_Fate := fun a b => decidable_of_iff (a.Copies = b.Copies ∧ a.Late = b.Late ∧ a.Second = b.Second) (by cases a; cases b; simp)
def e_Fate : Enc (T_Fate) := ⟨fun a => [.int .i64 (a.Copies), .int .i64 (a.Late), .int .i64 (a.Second)], fun l => ⟨intOf ((l[0]?).getD undef), intOf ((l[1]?).getD undef), intOf ((l[2]?).getD undef)⟩, 3, fun _ => rfl, fun _ => rfl, fun _ => rfl⟩
instance : e_Fate.Plain := ⟨fun _ _ => rfl⟩
theorem en_Fate (a : T_Fate) : e_Fate.enc a = [.int .i64 (a.Copies), .int .i64 (a.Late), .int .i64 (a.Second)] := rfl
theorem mk_Fate (a : T_Fate) : T_Fate.mk a.Copies a.Late a.Second = a := rfl
theorem de_Fate (l : List Value) : e_Fate.dec l = ⟨intOf ((l[0]?).getD undef), intOf ((l[1]?).getD undef), intOf ((l[2]?).getD undef)⟩ := rfl
structure T_a2int where
  x0 : Int
  x1 : Int
instance : Inhabited T_a2int := ⟨⟨0, 0⟩⟩
instance : DecidableEq T_a2int := fun a b => decidable_of_iff (a.x0 = b.x0 ∧ a.x1 = b.x1) (by cases a; cases b; simp)
def e_a2int : Enc (T_a2int) := ⟨fun a => [.int .i64 (a.x0), .int .i64 (a.x1)], fun l => ⟨intOf ((l[0]?).getD undef), intOf ((l[1]?).getD undef)⟩, 2, fun _ => rfl, fun _ => rfl, fun _ => rfl⟩
instance : e_a2int.Plain := ⟨fun _ _ => rfl⟩
theorem en_a2int (a : T_a2int) : e_a2int.enc a = [.int .i64 (a.x0), .int .i64 (a.x1)] := rfl
theorem mk_a2int (a : T_a2int) : T_a2int.mk a.x0 a.x1 = a := rfl
theorem de_a2int (l : List Value) : e_a2int.dec l = ⟨intOf ((l[0]?).getD undef), intOf ((l[1]?).getD undef)⟩ := rfl
structure T_Turn where
  From : Int
  To : Int
  Nth : Int
  Kind : Int
  By : Int
instance : Inhabited T_Turn := ⟨⟨0, 0, 0, 0, 0⟩⟩
instance : DecidableEq T_Turn := fun a b => decidable_of_iff (a.From = b.From ∧ a.To = b.To ∧ a.Nth = b.Nth ∧ a.Kind = b.Kind ∧ a.By = b.By) (by cases a; cases b; simp)
def e_Turn : Enc (T_Turn) := ⟨fun a => [.int .u8 (a.From), .int .u8 (a.To), .int .u8 (a.Nth), .int .u8 (a.Kind), .int .u8 (a.By)], fun l => ⟨intOf ((l[0]?).getD undef), intOf ((l[1]?).getD undef), intOf ((l[2]?).getD undef), intOf ((l[3]?).getD undef), intOf ((l[4]?).getD undef)⟩, 5, fun _ => rfl, fun _ => rfl, fun _ => rfl⟩
instance : e_Turn.Plain := ⟨fun _ _ => rfl⟩
theorem en_Turn (a : T_Turn) : e_Turn.enc a = [.int .u8 (a.From), .int .u8 (a.To), .int .u8 (a.Nth), .int .u8 (a.Kind), .int .u8 (a.By)] := rfl
theorem mk_Turn (a : T_Turn) : T_Turn.mk a.From a.To a.Nth a.Kind a.By = a := rfl
theorem de_Turn (l : List Value) : e_Turn.dec l = ⟨intOf ((l[0]?).getD undef), intOf ((l[1]?).getD undef), intOf ((l[2]?).getD undef), intOf ((l[3]?).getD undef), intOf ((l[4]?).getD undef)⟩ := rfl
structure T_message where
  from_ : Int
  to : Int
  nth : Int
instance : Inhabited T_message := ⟨⟨0, 0, 0⟩⟩
instance : DecidableEq T_message := fun a b => decidable_of_iff (a.from_ = b.from_ ∧ a.to = b.to ∧ a.nth = b.nth) (by cases a; cases b; simp)
def e_message : Enc (T_message) := ⟨fun a => [.int .i64 (a.from_), .int .i64 (a.to), .int .i64 (a.nth)], fun l => ⟨intOf ((l[0]?).getD undef), intOf ((l[1]?).getD undef), intOf ((l[2]?).getD undef)⟩, 3, fun _ => rfl, fun _ => rfl, fun _ => rfl⟩
instance : e_message.Plain := ⟨fun _ _ => rfl⟩
theorem en_message (a : T_message) : e_message.enc a = [.int .i64 (a.from_), .int .i64 (a.to), .int .i64 (a.nth)] := rfl
theorem mk_message (a : T_message) : T_message.mk a.from_ a.to a.nth = a := rfl
theorem de_message (l : List Value) : e_message.dec l = ⟨intOf ((l[0]?).getD undef), intOf ((l[1]?).getD undef), intOf ((l[2]?).getD undef)⟩ := rfl
structure T_Pair where
  From : Int
  To : Int
instance : Inhabited T_Pair := ⟨⟨0, 0⟩⟩
instance : DecidableEq T_Pair := fun a b => decidable_of_iff (a.From = b.From ∧ a.To = b.To) (by cases a; cases b; simp)
def e_Pair : Enc (T_Pair) := ⟨fun a => [.int .i64 (a.From), .int .i64 (a.To)], fun l => ⟨intOf ((l[0]?).getD undef), intOf ((l[1]?).getD undef)⟩, 2, fun _ => rfl, fun _ => rfl, fun _ => rfl⟩
instance : e_Pair.Plain := ⟨fun _ _ => rfl⟩
theorem en_Pair (a : T_Pair) : e_Pair.enc a = [.int .i64 (a.From), .int .i64 (a.To)] := rfl
theorem mk_Pair (a : T_Pair) : T_Pair.mk a.From a.To = a := rfl
theorem de_Pair (l : List Value) : e_Pair.dec l = ⟨intOf ((l[0]?).getD undef), intOf ((l[1]?).getD undef)⟩ := rfl
section
theorem len_sTurn {hp : Hp} {v : Value} {l : List (T_Turn)} (h : SlT e_Turn hp v l) {hp' : Hp} : slen tt.get hp' 22 v = (.int .i64 (l.length : Int), True) := h.len_any k_sTurn
theorem idx_sTurn {hp : Hp} {v : Value} {l : List (T_Turn)} (h : SlT e_Turn hp v l) {k : IntKind} {n : Int} (h0 : 0 ≤ n) (h1 : n < l.length) : sindexAddr tt.get 22 v (.int k n) = (ptrS v (n.toNat * 5), True) := h.idx k_sTurn t_Turn rfl h0 h1
theorem ld_sTurn {hp : Hp} {v : Value} {l : List (T_Turn)} (h : SlT e_Turn hp v l) {i : Nat} (hi : i < l.length) : sload tt.get hp 57 (ptrS v (i * 5)) = (.agg ⟨e_Turn.enc (at' l i)⟩, True) := h.load t_Turn rfl rfl hi
theorem sf_sTurn_0 {hp : Hp} {v : Value} {l : List (T_Turn)} (h : SlT e_Turn hp v l) {i : Nat} (hi : i < l.length) : sfieldAddr tt.get 57 (ptrS v (i * 5)) 0 = (ptrS v (i * 5), True) := h.field hi (d := 0) (fun b o => (by kernel_rfl : fieldAddrA tt.get 57 (.pointer (some ⟨b, o, none⟩)) 0 = some (.pointer (some ⟨b, o + 0, none⟩))))
theorem sc_sTurn_0 {hp : Hp} {v : Value} {l : List (T_Turn)} (h : SlT e_Turn hp v l) {i : Nat} (hi : i < l.length) : sload tt.get hp 5 (ptrS v (i * 5)) = (.int .u8 ((at' l i).From), True) := h.cell (f := 0) t_uint8 rfl hi (by decide)
theorem sf_sTurn_1 {hp : Hp} {v : Value} {l : List (T_Turn)} (h : SlT e_Turn hp v l) {i : Nat} (hi : i < l.length) : sfieldAddr tt.get 57 (ptrS v (i * 5)) 1 = (ptrS v (i * 5 + 1), True) := h.field hi (d := 1) (fun b o => (by kernel_rfl : fieldAddrA tt.get 57 (.pointer (some ⟨b, o, none⟩)) 1 = some (.pointer (some ⟨b, o + 1, none⟩))))
theorem sc_sTurn_1 {hp : Hp} {v : Value} {l : List (T_Turn)} (h : SlT e_Turn hp v l) {i : Nat} (hi : i < l.length) : sload tt.get hp 5 (ptrS v (i * 5 + 1)) = (.int .u8 ((at' l i).To), True) := h.cell (f := 1) t_uint8 rfl hi (by decide)
theorem sf_sTurn_2 {hp : Hp} {v : Value} {l : List (T_Turn)} (h : SlT e_Turn hp v l) {i : Nat} (hi : i < l.length) : sfieldAddr tt.get 57 (ptrS v (i * 5)) 2 = (ptrS v (i * 5 + 2), True) := h.field hi (d := 2) (fun b o => (by kernel_rfl : fieldAddrA tt.get 57 (.pointer (some ⟨b, o, none⟩)) 2 = some (.pointer (some ⟨b, o + 2, none⟩))))
theorem sc_sTurn_2 {hp : Hp} {v : Value} {l : List (T_Turn)} (h : SlT e_Turn hp v l) {i : Nat} (hi : i < l.length) : sload tt.get hp 5 (ptrS v (i * 5 + 2)) = (.int .u8 ((at' l i).Nth), True) := h.cell (f := 2) t_uint8 rfl hi (by decide)
theorem sf_sTurn_3 {hp : Hp} {v : Value} {l : List (T_Turn)} (h : SlT e_Turn hp v l) {i : Nat} (hi : i < l.length) : sfieldAddr tt.get 57 (ptrS v (i * 5)) 3 = (ptrS v (i * 5 + 3), True) := h.field hi (d := 3) (fun b o => (by kernel_rfl : fieldAddrA tt.get 57 (.pointer (some ⟨b, o, none⟩)) 3 = some (.pointer (some ⟨b, o + 3, none⟩))))
theorem sc_sTurn_3 {hp : Hp} {v : Value} {l : List (T_Turn)} (h : SlT e_Turn hp v l) {i : Nat} (hi : i < l.length) : sload tt.get hp 5 (ptrS v (i * 5 + 3)) = (.int .u8 ((at' l i).Kind), True) := h.cell (f := 3) t_uint8 rfl hi (by decide)
theorem sf_sTurn_4 {hp : Hp} {v : Value} {l : List (T_Turn)} (h : SlT e_Turn hp v l) {i : Nat} (hi : i < l.length) : sfieldAddr tt.get 57 (ptrS v (i * 5)) 4 = (ptrS v (i * 5 + 4), True) := h.field hi (d := 4) (fun b o => (by kernel_rfl : fieldAddrA tt.get 57 (.pointer (some ⟨b, o, none⟩)) 4 = some (.pointer (some ⟨b, o + 4, none⟩))))
theorem sc_sTurn_4 {hp : Hp} {v : Value} {l : List (T_Turn)} (h : SlT e_Turn hp v l) {i : Nat} (hi : i < l.length) : sload tt.get hp 5 (ptrS v (i * 5 + 4)) = (.int .u8 ((at' l i).By), True) := h.cell (f := 4) t_uint8 rfl hi (by decide)
theorem sh_sTurn {hp : Hp} {v : Value} {l : List (T_Turn)} (h : SlT e_Turn hp v l) {k : IntKind} {n : Int} (h0 : 0 ≤ n) (h1 : n ≤ l.length) : sslice tt.get hp 22 v none (some (.int k n)) = (subS 5 v 0 n.toNat, True) := h.slHi k_sTurn t_Turn h0 h1
theorem ap_sTurn {hp : Hp} {x : Value} {b top : Nat} {l : List (T_Turn)} (h : hp b = mkOb e_Turn l) (hx : SlP e_Turn hp x) (hn : l.length + (e_Turn.rd hp x).length ≤ 16777216) : appendA tt.get hp top [22, 22] (mkSl b l) x = some (mkSl top (l ++ e_Turn.rd hp x), appU b l top (mkOb e_Turn (l ++ e_Turn.rd hp x)), top + 1) := appendA_ownP k_sTurn t_sTurn rfl t_Turn rfl rfl h hx hn
theorem apn_sTurn {hp : Hp} {x : Value} {top : Nat} (hx : SlP e_Turn hp x) (hn : (e_Turn.rd hp x).length ≤ 16777216) : appendA tt.get hp top [22, 22] (.slice none 0 0) x = some (mkSl top (e_Turn.rd hp x), [(top, mkOb e_Turn (e_Turn.rd hp x))], top + 1) := appendA_nilP k_sTurn t_sTurn rfl t_Turn rfl rfl hx hn
theorem ap0_sTurn {hp : Hp} {top k : Nat} (hk : hp k = some (.cells true 5 (cellsOf (hp k)))) (hc : e_Turn.enc (e_Turn.dec (cellsOf (hp k))) = cellsOf (hp k)) : appendA tt.get hp top [22, 22] (.slice none 0 0) (.slice (some ⟨k, 0, none⟩) 1 1) = some (mkSl top [e_Turn.dec (cellsOf (hp k))], [(top, mkOb e_Turn [e_Turn.dec (cellsOf (hp k))])], top + 1) := appendA_zeroC k_sTurn t_sTurn rfl t_Turn rfl rfl hk hc
theorem sa_sTurn {hp : Hp} {b top : Nat} {l l2 : List (T_Turn)} (h : hp b = mkOb e_Turn l) : hp.sets (appU b l top (mkOb e_Turn l2)) = (hp.set b none).set top (mkOb e_Turn l2) := sets_appU h
theorem os_sTurn {hp : Hp} {b : Nat} {l : List (T_Turn)} {i : Nat} (h : hp b = mkOb e_Turn l) (hi : i < l.length) {a0 : Int} {a1 : Int} {a2 : Int} {a3 : Int} {a4 : Int} : sstore tt.get hp 57 (ptrS (mkSl b l) (i * 5)) (.agg ⟨[.int .u8 (a0), .int .u8 (a1), .int .u8 (a2), .int .u8 (a3), .int .u8 (a4)]⟩) = ([(b, mkOb e_Turn (l.set i ⟨a0, a1, a2, a3, a4⟩))], True) := own_storeA (E := e_Turn) (cs := e_Turn.enc ⟨a0, a1, a2, a3, a4⟩) t_Turn rfl h hi rfl rfl
theorem of_sTurn_0 {hp : Hp} {b : Nat} {l : List (T_Turn)} {i : Nat} (h : hp b = mkOb e_Turn l) (hi : i < l.length) {x : Int} : sstore tt.get hp 5 (ptrS (mkSl b l) (i * 5)) (.int .u8 (x)) = ([(b, mkOb e_Turn (l.set i { at' l i with From := x }))], True) := own_storeF (f := 0) t_uint8 h hi rfl (by decide) rfl rfl
theorem of_sTurn_1 {hp : Hp} {b : Nat} {l : List (T_Turn)} {i : Nat} (h : hp b = mkOb e_Turn l) (hi : i < l.length) {x : Int} : sstore tt.get hp 5 (ptrS (mkSl b l) (i * 5 + 1)) (.int .u8 (x)) = ([(b, mkOb e_Turn (l.set i { at' l i with To := x }))], True) := own_storeF (f := 1) t_uint8 h hi rfl (by decide) rfl rfl
theorem of_sTurn_2 {hp : Hp} {b : Nat} {l : List (T_Turn)} {i : Nat} (h : hp b = mkOb e_Turn l) (hi : i < l.length) {x : Int} : sstore tt.get hp 5 (ptrS (mkSl b l) (i * 5 + 2)) (.int .u8 (x)) = ([(b, mkOb e_Turn (l.set i { at' l i with Nth := x }))], True) := own_storeF (f := 2) t_uint8 h hi rfl (by decide) rfl rfl
theorem of_sTurn_3 {hp : Hp} {b : Nat} {l : List (T_Turn)} {i : Nat} (h : hp b = mkOb e_Turn l) (hi : i < l.length) {x : Int} : sstore tt.get hp 5 (ptrS (mkSl b l) (i * 5 + 3)) (.int .u8 (x)) = ([(b, mkOb e_Turn (l.set i { at' l i with Kind := x }))], True) := own_storeF (f := 3) t_uint8 h hi rfl (by decide) rfl rfl
theorem of_sTurn_4 {hp : Hp} {b : Nat} {l : List (T_Turn)} {i : Nat} (h : hp b = mkOb e_Turn l) (hi : i < l.length) {x : Int} : sstore tt.get hp 5 (ptrS (mkSl b l) (i * 5 + 4)) (.int .u8 (x)) = ([(b, mkOb e_Turn (l.set i { at' l i with By := x }))], True) := own_storeF (f := 4) t_uint8 h hi rfl (by decide) rfl rfl
theorem ow_sTurn {b : Nat} {l : List (T_Turn)} {hp2 : Hp} : slen tt.get hp2 22 (mkSl b l) = (.int .i64 (l.length : Int), True) := by cases l with | nil => unfold slen mkSl; simp only [k_sTurn, lenA, t_sTurn, ti22]; rfl | cons a l => unfold slen mkSl; simp only [k_sTurn, lenA, t_sTurn, ti22]; rfl
theorem ap1_sTurn {hp : Hp} {b top k : Nat} {l : List (T_Turn)} (h : hp b = mkOb e_Turn l) (hk : hp k = some (.cells true 5 (cellsOf (hp k)))) (hc : e_Turn.enc (e_Turn.dec (cellsOf (hp k))) = cellsOf (hp k)) (hn : l.length < 16777216) : appendA tt.get hp top [22, 22] (mkSl b l) (.slice (some ⟨k, 0, none⟩) 1 1) = some (mkSl top (l ++ [e_Turn.dec (cellsOf (hp k))]), appU b l top (mkOb e_Turn (l ++ [e_Turn.dec (cellsOf (hp k))])), top + 1) := appendA_oneC k_sTurn t_sTurn rfl t_Turn rfl rfl h hk hc hn
end
section
theorem len_sa2uint8 {hp : Hp} {v : Value} {l : List (T_a2uint8)} (h : SlT e_a2uint8 hp v l) {hp' : Hp} : slen tt.get hp' 23 v = (.int .i64 (l.length : Int), True) := h.len_any k_sa2uint8
theorem idx_sa2uint8 {hp : Hp} {v : Value} {l : List (T_a2uint8)} (h : SlT e_a2uint8 hp v l) {k : IntKind} {n : Int} (h0 : 0 ≤ n) (h1 : n < l.length) : sindexAddr tt.get 23 v (.int k n) = (ptrS v (n.toNat * 2), True) := h.idx k_sa2uint8 t_a2uint8 rfl h0 h1
theorem ld_sa2uint8 {hp : Hp} {v : Value} {l : List (T_a2uint8)} (h : SlT e_a2uint8 hp v l) {i : Nat} (hi : i < l.length) : sload tt.get hp 33 (ptrS v (i * 2)) = (.agg ⟨e_a2uint8.enc (at' l i)⟩, True) := h.load t_a2uint8 rfl rfl hi
theorem sf_sa2uint8_0 {hp : Hp} {v : Value} {l : List (T_a2uint8)} (h : SlT e_a2uint8 hp v l) {i : Nat} (hi : i < l.length) : sindexAddr tt.get 33 (ptrS v (i * 2)) (.int .i64 0) = (ptrS v (i * 2), True) := h.aidx hi k_a2uint8 t_uint8 (by decide) (by decide)
theorem sc_sa2uint8_0 {hp : Hp} {v : Value} {l : List (T_a2uint8)} (h : SlT e_a2uint8 hp v l) {i : Nat} (hi : i < l.length) : sload tt.get hp 5 (ptrS v (i * 2)) = (.int .u8 ((at' l i).x0), True) := h.cell (f := 0) t_uint8 rfl hi (by decide)
theorem sf_sa2uint8_1 {hp : Hp} {v : Value} {l : List (T_a2uint8)} (h : SlT e_a2uint8 hp v l) {i : Nat} (hi : i < l.length) : sindexAddr tt.get 33 (ptrS v (i * 2)) (.int .i64 1) = (ptrS v (i * 2 + 1), True) := h.aidx hi k_a2uint8 t_uint8 (by decide) (by decide)
theorem sc_sa2uint8_1 {hp : Hp} {v : Value} {l : List (T_a2uint8)} (h : SlT e_a2uint8 hp v l) {i : Nat} (hi : i < l.length) : sload tt.get hp 5 (ptrS v (i * 2 + 1)) = (.int .u8 ((at' l i).x1), True) := h.cell (f := 1) t_uint8 rfl hi (by decide)
theorem sh_sa2uint8 {hp : Hp} {v : Value} {l : List (T_a2uint8)} (h : SlT e_a2uint8 hp v l) {k : IntKind} {n : Int} (h0 : 0 ≤ n) (h1 : n ≤ l.length) : sslice tt.get hp 23 v none (some (.int k n)) = (subS 2 v 0 n.toNat, True) := h.slHi k_sa2uint8 t_a2uint8 h0 h1
theorem ap_sa2uint8 {hp : Hp} {x : Value} {b top : Nat} {l : List (T_a2uint8)} (h : hp b = mkOb e_a2uint8 l) (hx : SlP e_a2uint8 hp x) (hn : l.length + (e_a2uint8.rd hp x).length ≤ 16777216) : appendA tt.get hp top [23, 23] (mkSl b l) x = some (mkSl top (l ++ e_a2uint8.rd hp x), appU b l top (mkOb e_a2uint8 (l ++ e_a2uint8.rd hp x)), top + 1) := appendA_ownP k_sa2uint8 t_sa2uint8 rfl t_a2uint8 rfl rfl h hx hn
theorem apn_sa2uint8 {hp : Hp} {x : Value} {top : Nat} (hx : SlP e_a2uint8 hp x) (hn : (e_a2uint8.rd hp x).length ≤ 16777216) : appendA tt.get hp top [23, 23] (.slice none 0 0) x = some (mkSl top (e_a2uint8.rd hp x), [(top, mkOb e_a2uint8 (e_a2uint8.rd hp x))], top + 1) := appendA_nilP k_sa2uint8 t_sa2uint8 rfl t_a2uint8 rfl rfl hx hn
theorem ap0_sa2uint8 {hp : Hp} {top k : Nat} (hk : hp k = some (.cells true 2 (cellsOf (hp k)))) (hc : e_a2uint8.enc (e_a2uint8.dec (cellsOf (hp k))) = cellsOf (hp k)) : appendA tt.get hp top [23, 23] (.slice none 0 0) (.slice (some ⟨k, 0, none⟩) 1 1) = some (mkSl top [e_a2uint8.dec (cellsOf (hp k))], [(top, mkOb e_a2uint8 [e_a2uint8.dec (cellsOf (hp k))])], top + 1) := appendA_zeroC k_sa2uint8 t_sa2uint8 rfl t_a2uint8 rfl rfl hk hc
theorem sa_sa2uint8 {hp : Hp} {b top : Nat} {l l2 : List (T_a2uint8)} (h : hp b = mkOb e_a2uint8 l) : hp.sets (appU b l top (mkOb e_a2uint8 l2)) = (hp.set b none).set top (mkOb e_a2uint8 l2) := sets_appU h
theorem os_sa2uint8 {hp : Hp} {b : Nat} {l : List (T_a2uint8)} {i : Nat} (h : hp b = mkOb e_a2uint8 l) (hi : i < l.length) {a0 : Int} {a1 : Int} : sstore tt.get hp 33 (ptrS (mkSl b l) (i * 2)) (.agg ⟨[.int .u8 (a0), .int .u8 (a1)]⟩) = ([(b, mkOb e_a2uint8 (l.set i ⟨a0, a1⟩))], True) := own_storeA (E := e_a2uint8) (cs := e_a2uint8.enc ⟨a0, a1⟩) t_a2uint8 rfl h hi rfl rfl
theorem ow_sa2uint8 {b : Nat} {l : List (T_a2uint8)} {hp2 : Hp} : slen tt.get hp2 23 (mkSl b l) = (.int .i64 (l.length : Int), True) := by cases l with | nil => unfold slen mkSl; simp only [k_sa2uint8, lenA, t_sa2uint8, ti23]; rfl | cons a l => unfold slen mkSl; simp only [k_sa2uint8, lenA, t_sa2uint8, ti23]; rfl
theorem ap1_sa2uint8 {hp : Hp} {b top k : Nat} {l : List (T_a2uint8)} (h : hp b = mkOb e_a2uint8 l) (hk : hp k = some (.cells true 2 (cellsOf (hp k)))) (hc : e_a2uint8.enc (e_a2uint8.dec (cellsOf (hp k))) = cellsOf (hp k)) (hn : l.length < 16777216) : appendA tt.get hp top [23, 23] (mkSl b l) (.slice (some ⟨k, 0, none⟩) 1 1) = some (mkSl top (l ++ [e_a2uint8.dec (cellsOf (hp k))]), appU b l top (mkOb e_a2uint8 (l ++ [e_a2uint8.dec (cellsOf (hp k))])), top + 1) := appendA_oneC k_sa2uint8 t_sa2uint8 rfl t_a2uint8 rfl rfl h hk hc hn
end
section
theorem len_sRule {hp : Hp} {v : Value} {l : List (T_Rule)} (h : SlT e_Rule hp v l) {hp' : Hp} : slen tt.get hp' 24 v = (.int .i64 (l.length : Int), True) := h.len_any k_sRule
theorem idx_sRule {hp : Hp} {v : Value} {l : List (T_Rule)} (h : SlT e_Rule hp v l) {k : IntKind} {n : Int} (h0 : 0 ≤ n) (h1 : n < l.length) : sindexAddr tt.get 24 v (.int k n) = (ptrS v (n.toNat * 5), True) := h.idx k_sRule t_Rule rfl h0 h1
theorem ld_sRule {hp : Hp} {v : Value} {l : List (T_Rule)} (h : SlT e_Rule hp v l) {i : Nat} (hi : i < l.length) : sload tt.get hp 27 (ptrS v (i * 5)) = (.agg ⟨e_Rule.enc (at' l i)⟩, True) := h.load t_Rule rfl rfl hi
theorem sf_sRule_0 {hp : Hp} {v : Value} {l : List (T_Rule)} (h : SlT e_Rule hp v l) {i : Nat} (hi : i < l.length) : sfieldAddr tt.get 27 (ptrS v (i * 5)) 0 = (ptrS v (i * 5), True) := h.field hi (d := 0) (fun b o => (by kernel_rfl : fieldAddrA tt.get 27 (.pointer (some ⟨b, o, none⟩)) 0 = some (.pointer (some ⟨b, o + 0, none⟩))))
theorem sc_sRule_0 {hp : Hp} {v : Value} {l : List (T_Rule)} (h : SlT e_Rule hp v l) {i : Nat} (hi : i < l.length) : sload tt.get hp 3 (ptrS v (i * 5)) = (.int .i64 ((at' l i).From), True) := h.cell (f := 0) t_int rfl hi (by decide)
theorem sf_sRule_1 {hp : Hp} {v : Value} {l : List (T_Rule)} (h : SlT e_Rule hp v l) {i : Nat} (hi : i < l.length) : sfieldAddr tt.get 27 (ptrS v (i * 5)) 1 = (ptrS v (i * 5 + 1), True) := h.field hi (d := 1) (fun b o => (by kernel_rfl : fieldAddrA tt.get 27 (.pointer (some ⟨b, o, none⟩)) 1 = some (.pointer (some ⟨b, o + 1, none⟩))))
theorem sc_sRule_1 {hp : Hp} {v : Value} {l : List (T_Rule)} (h : SlT e_Rule hp v l) {i : Nat} (hi : i < l.length) : sload tt.get hp 3 (ptrS v (i * 5 + 1)) = (.int .i64 ((at' l i).To), True) := h.cell (f := 1) t_int rfl hi (by decide)
theorem sf_sRule_2 {hp : Hp} {v : Value} {l : List (T_Rule)} (h : SlT e_Rule hp v l) {i : Nat} (hi : i < l.length) : sfieldAddr tt.get 27 (ptrS v (i * 5)) 2 = (ptrS v (i * 5 + 2), True) := h.field hi (d := 2) (fun b o => (by kernel_rfl : fieldAddrA tt.get 27 (.pointer (some ⟨b, o, none⟩)) 2 = some (.pointer (some ⟨b, o + 2, none⟩))))
theorem sc_sRule_2 {hp : Hp} {v : Value} {l : List (T_Rule)} (h : SlT e_Rule hp v l) {i : Nat} (hi : i < l.length) : sload tt.get hp 3 (ptrS v (i * 5 + 2)) = (.int .i64 ((at' l i).Nth), True) := h.cell (f := 2) t_int rfl hi (by decide)
theorem sf_sRule_3 {hp : Hp} {v : Value} {l : List (T_Rule)} (h : SlT e_Rule hp v l) {i : Nat} (hi : i < l.length) : sfieldAddr tt.get 27 (ptrS v (i * 5)) 3 = (ptrS v (i * 5 + 3), True) := h.field hi (d := 3) (fun b o => (by kernel_rfl : fieldAddrA tt.get 27 (.pointer (some ⟨b, o, none⟩)) 3 = some (.pointer (some ⟨b, o + 3, none⟩))))
theorem sc_sRule_3 {hp : Hp} {v : Value} {l : List (T_Rule)} (h : SlT e_Rule hp v l) {i : Nat} (hi : i < l.length) : sload tt.get hp 3 (ptrS v (i * 5 + 3)) = (.int .i64 ((at' l i).Kind), True) := h.cell (f := 3) t_int rfl hi (by decide)
theorem sf_sRule_4 {hp : Hp} {v : Value} {l : List (T_Rule)} (h : SlT e_Rule hp v l) {i : Nat} (hi : i < l.length) : sfieldAddr tt.get 27 (ptrS v (i * 5)) 4 = (ptrS v (i * 5 + 4), True) := h.field hi (d := 4) (fun b o => (by kernel_rfl : fieldAddrA tt.get 27 (.pointer (some ⟨b, o, none⟩)) 4 = some (.pointer (some ⟨b, o + 4, none⟩))))
theorem sc_sRule_4 {hp : Hp} {v : Value} {l : List (T_Rule)} (h : SlT e_Rule hp v l) {i : Nat} (hi : i < l.length) : sload tt.get hp 3 (ptrS v (i * 5 + 4)) = (.int .i64 ((at' l i).By), True) := h.cell (f := 4) t_int rfl hi (by decide)
theorem sh_sRule {hp : Hp} {v : Value} {l : List (T_Rule)} (h : SlT e_Rule hp v l) {k : IntKind} {n : Int} (h0 : 0 ≤ n) (h1 : n ≤ l.length) : sslice tt.get hp 24 v none (some (.int k n)) = (subS 5 v 0 n.toNat, True) := h.slHi k_sRule t_Rule h0 h1
theorem ap_sRule {hp : Hp} {x : Value} {b top : Nat} {l : List (T_Rule)} (h : hp b = mkOb e_Rule l) (hx : SlP e_Rule hp x) (hn : l.length + (e_Rule.rd hp x).length ≤ 16777216) : appendA tt.get hp top [24, 24] (mkSl b l) x = some (mkSl top (l ++ e_Rule.rd hp x), appU b l top (mkOb e_Rule (l ++ e_Rule.rd hp x)), top + 1) := appendA_ownP k_sRule t_sRule rfl t_Rule rfl rfl h hx hn
theorem apn_sRule {hp : Hp} {x : Value} {top : Nat} (hx : SlP e_Rule hp x) (hn : (e_Rule.rd hp x).length ≤ 16777216) : appendA tt.get hp top [24, 24] (.slice none 0 0) x = some (mkSl top (e_Rule.rd hp x), [(top, mkOb e_Rule (e_Rule.rd hp x))], top + 1) := appendA_nilP k_sRule t_sRule rfl t_Rule rfl rfl hx hn
theorem ap0_sRule {hp : Hp} {top k : Nat} (hk : hp k = some (.cells true 5 (cellsOf (hp k)))) (hc : e_Rule.enc (e_Rule.dec (cellsOf (hp k))) = cellsOf (hp k)) : appendA tt.get hp top [24, 24] (.slice none 0 0) (.slice (some ⟨k, 0, none⟩) 1 1) = some (mkSl top [e_Rule.dec (cellsOf (hp k))], [(top, mkOb e_Rule [e_Rule.dec (cellsOf (hp k))])], top + 1) := appendA_zeroC k_sRule t_sRule rfl t_Rule rfl rfl hk hc
theorem sa_sRule {hp : Hp} {b top : Nat} {l l2 : List (T_Rule)} (h : hp b = mkOb e_Rule l) : hp.sets (appU b l top (mkOb e_Rule l2)) = (hp.set b none).set top (mkOb e_Rule l2) := sets_appU h
theorem os_sRule {hp : Hp} {b : Nat} {l : List (T_Rule)} {i : Nat} (h : hp b = mkOb e_Rule l) (hi : i < l.length) {a0 : Int} {a1 : Int} {a2 : Int} {a3 : Int} {a4 : Int} : sstore tt.get hp 27 (ptrS (mkSl b l) (i * 5)) (.agg ⟨[.int .i64 (a0), .int .i64 (a1), .int .i64 (a2), .int .i64 (a3), .int .i64 (a4)]⟩) = ([(b, mkOb e_Rule (l.set i ⟨a0, a1, a2, a3, a4⟩))], True) := own_storeA (E := e_Rule) (cs := e_Rule.enc ⟨a0, a1, a2, a3, a4⟩) t_Rule rfl h hi rfl rfl
theorem of_sRule_0 {hp : Hp} {b : Nat} {l : List (T_Rule)} {i : Nat} (h : hp b = mkOb e_Rule l) (hi : i < l.length) {x : Int} : sstore tt.get hp 3 (ptrS (mkSl b l) (i * 5)) (.int .i64 (x)) = ([(b, mkOb e_Rule (l.set i { at' l i with From := x }))], True) := own_storeF (f := 0) t_int h hi rfl (by decide) rfl rfl
theorem of_sRule_1 {hp : Hp} {b : Nat} {l : List (T_Rule)} {i : Nat} (h : hp b = mkOb e_Rule l) (hi : i < l.length) {x : Int} : sstore tt.get hp 3 (ptrS (mkSl b l) (i * 5 + 1)) (.int .i64 (x)) = ([(b, mkOb e_Rule (l.set i { at' l i with To := x }))], True) := own_storeF (f := 1) t_int h hi rfl (by decide) rfl rfl
theorem of_sRule_2 {hp : Hp} {b : Nat} {l : List (T_Rule)} {i : Nat} (h : hp b = mkOb e_Rule l) (hi : i < l.length) {x : Int} : sstore tt.get hp 3 (ptrS (mkSl b l) (i * 5 + 2)) (.int .i64 (x)) = ([(b, mkOb e_Rule (l.set i { at' l i with Nth := x }))], True) := own_storeF (f := 2) t_int h hi rfl (by decide) rfl rfl
theorem of_sRule_3 {hp : Hp} {b : Nat} {l : List (T_Rule)} {i : Nat} (h : hp b = mkOb e_Rule l) (hi : i < l.length) {x : Int} : sstore tt.get hp 3 (ptrS (mkSl b l) (i * 5 + 3)) (.int .i64 (x)) = ([(b, mkOb e_Rule (l.set i { at' l i with Kind := x }))], True) := own_storeF (f := 3) t_int h hi rfl (by decide) rfl rfl
theorem of_sRule_4 {hp : Hp} {b : Nat} {l : List (T_Rule)} {i : Nat} (h : hp b = mkOb e_Rule l) (hi : i < l.length) {x : Int} : sstore tt.get hp 3 (ptrS (mkSl b l) (i * 5 + 4)) (.int .i64 (x)) = ([(b, mkOb e_Rule (l.set i { at' l i with By := x }))], True) := own_storeF (f := 4) t_int h hi rfl (by decide) rfl rfl
theorem ow_sRule {b : Nat} {l : List (T_Rule)} {hp2 : Hp} : slen tt.get hp2 24 (mkSl b l) = (.int .i64 (l.length : Int), True) := by cases l with | nil => unfold slen mkSl; simp only [k_sRule, lenA, t_sRule, ti24]; rfl | cons a l => unfold slen mkSl; simp only [k_sRule, lenA, t_sRule, ti24]; rfl
theorem ap1_sRule {hp : Hp} {b top k : Nat} {l : List (T_Rule)} (h : hp b = mkOb e_Rule l) (hk : hp k = some (.cells true 5 (cellsOf (hp k)))) (hc : e_Rule.enc (e_Rule.dec (cellsOf (hp k))) = cellsOf (hp k)) (hn : l.length < 16777216) : appendA tt.get hp top [24, 24] (mkSl b l) (.slice (some ⟨k, 0, none⟩) 1 1) = some (mkSl top (l ++ [e_Rule.dec (cellsOf (hp k))]), appU b l top (mkOb e_Rule (l ++ [e_Rule.dec (cellsOf (hp k))])), top + 1) := appendA_oneC k_sRule t_sRule rfl t_Rule rfl rfl h hk hc hn
end
section
theorem len_sint {hp : Hp} {v : Value} {l : List (Int)} (h : SlT e_int hp v l) {hp' : Hp} : slen tt.get hp' 32 v = (.int .i64 (l.length : Int), True) := h.len_any k_sint
theorem idx_sint {hp : Hp} {v : Value} {l : List (Int)} (h : SlT e_int hp v l) {k : IntKind} {n : Int} (h0 : 0 ≤ n) (h1 : n < l.length) : sindexAddr tt.get 32 v (.int k n) = (ptrS v (n.toNat * 1), True) := h.idx k_sint t_int rfl h0 h1
theorem ld_sint {hp : Hp} {v : Value} {l : List (Int)} (h : SlT e_int hp v l) {i : Nat} (hi : i < l.length) : sload tt.get hp 3 (ptrS v (i * 1)) = (.int .i64 (at' l i), True) := h.cell (f := 0) t_int rfl hi (by decide)
theorem sh_sint {hp : Hp} {v : Value} {l : List (Int)} (h : SlT e_int hp v l) {k : IntKind} {n : Int} (h0 : 0 ≤ n) (h1 : n ≤ l.length) : sslice tt.get hp 32 v none (some (.int k n)) = (subS 1 v 0 n.toNat, True) := h.slHi k_sint t_int h0 h1
theorem ap_sint {hp : Hp} {x : Value} {b top : Nat} {l : List (Int)} (h : hp b = mkOb e_int l) (hx : SlP e_int hp x) (hn : l.length + (e_int.rd hp x).length ≤ 16777216) : appendA tt.get hp top [32, 32] (mkSl b l) x = some (mkSl top (l ++ e_int.rd hp x), appU b l top (mkOb e_int (l ++ e_int.rd hp x)), top + 1) := appendA_ownP k_sint t_sint rfl t_int rfl rfl h hx hn
theorem apn_sint {hp : Hp} {x : Value} {top : Nat} (hx : SlP e_int hp x) (hn : (e_int.rd hp x).length ≤ 16777216) : appendA tt.get hp top [32, 32] (.slice none 0 0) x = some (mkSl top (e_int.rd hp x), [(top, mkOb e_int (e_int.rd hp x))], top + 1) := appendA_nilP k_sint t_sint rfl t_int rfl rfl hx hn
theorem ap0_sint {hp : Hp} {top k : Nat} (hk : hp k = some (.cells true 1 (cellsOf (hp k)))) (hc : e_int.enc (e_int.dec (cellsOf (hp k))) = cellsOf (hp k)) : appendA tt.get hp top [32, 32] (.slice none 0 0) (.slice (some ⟨k, 0, none⟩) 1 1) = some (mkSl top [e_int.dec (cellsOf (hp k))], [(top, mkOb e_int [e_int.dec (cellsOf (hp k))])], top + 1) := appendA_zeroC k_sint t_sint rfl t_int rfl rfl hk hc
theorem sa_sint {hp : Hp} {b top : Nat} {l l2 : List (Int)} (h : hp b = mkOb e_int l) : hp.sets (appU b l top (mkOb e_int l2)) = (hp.set b none).set top (mkOb e_int l2) := sets_appU h
theorem os_sint {hp : Hp} {b : Nat} {l : List (Int)} {i : Nat} (h : hp b = mkOb e_int l) (hi : i < l.length) {x : Int} : sstore tt.get hp 3 (ptrS (mkSl b l) (i * 1)) (.int .i64 (x)) = ([(b, mkOb e_int (l.set i x))], True) := own_storeF (f := 0) t_int h hi rfl (by decide) rfl rfl
theorem ow_sint {b : Nat} {l : List (Int)} {hp2 : Hp} : slen tt.get hp2 32 (mkSl b l) = (.int .i64 (l.length : Int), True) := by cases l with | nil => unfold slen mkSl; simp only [k_sint, lenA, t_sint, ti32]; rfl | cons a l => unfold slen mkSl; simp only [k_sint, lenA, t_sint, ti32]; rfl
theorem ap1_sint {hp : Hp} {b top k : Nat} {l : List (Int)} (h : hp b = mkOb e_int l) (hk : hp k = some (.cells true 1 (cellsOf (hp k)))) (hc : e_int.enc (e_int.dec (cellsOf (hp k))) = cellsOf (hp k)) (hn : l.length < 16777216) : appendA tt.get hp top [32, 32] (mkSl b l) (.slice (some ⟨k, 0, none⟩) 1 1) = some (mkSl top (l ++ [e_int.dec (cellsOf (hp k))]), appU b l top (mkOb e_int (l ++ [e_int.dec (cellsOf (hp k))])), top + 1) := appendA_oneC k_sint t_sint rfl t_int rfl rfl h hk hc hn
end
section
theorem len_sa2int {hp : Hp} {v : Value} {l : List (T_a2int)} (h : SlT e_a2int hp v l) {hp' : Hp} : slen tt.get hp' 42 v = (.int .i64 (l.length : Int), True) := h.len_any k_sa2int
theorem idx_sa2int {hp : Hp} {v : Value} {l : List (T_a2int)} (h : SlT e_a2int hp v l) {k : IntKind} {n : Int} (h0 : 0 ≤ n) (h1 : n < l.length) : sindexAddr tt.get 42 v (.int k n) = (ptrS v (n.toNat * 2), True) := h.idx k_sa2int t_a2int rfl h0 h1
theorem ld_sa2int {hp : Hp} {v : Value} {l : List (T_a2int)} (h : SlT e_a2int hp v l) {i : Nat} (hi : i < l.length) : sload tt.get hp 48 (ptrS v (i * 2)) = (.agg ⟨e_a2int.enc (at' l i)⟩, True) := h.load t_a2int rfl rfl hi
theorem sf_sa2int_0 {hp : Hp} {v : Value} {l : List (T_a2int)} (h : SlT e_a2int hp v l) {i : Nat} (hi : i < l.length) : sindexAddr tt.get 48 (ptrS v (i * 2)) (.int .i64 0) = (ptrS v (i * 2), True) := h.aidx hi k_a2int t_int (by decide) (by decide)
theorem sc_sa2int_0 {hp : Hp} {v : Value} {l : List (T_a2int)} (h : SlT e_a2int hp v l) {i : Nat} (hi : i < l.length) : sload tt.get hp 3 (ptrS v (i * 2)) = (.int .i64 ((at' l i).x0), True) := h.cell (f := 0) t_int rfl hi (by decide)
theorem sf_sa2int_1 {hp : Hp} {v : Value} {l : List (T_a2int)} (h : SlT e_a2int hp v l) {i : Nat} (hi : i < l.length) : sindexAddr tt.get 48 (ptrS v (i * 2)) (.int .i64 1) = (ptrS v (i * 2 + 1), True) := h.aidx hi k_a2int t_int (by decide) (by decide)
theorem sc_sa2int_1 {hp : Hp} {v : Value} {l : List (T_a2int)} (h : SlT e_a2int hp v l) {i : Nat} (hi : i < l.length) : sload tt.get hp 3 (ptrS v (i * 2 + 1)) = (.int .i64 ((at' l i).x1), True) := h.cell (f := 1) t_int rfl hi (by decide)
theorem sh_sa2int {hp : Hp} {v : Value} {l : List (T_a2int)} (h : SlT e_a2int hp v l) {k : IntKind} {n : Int} (h0 : 0 ≤ n) (h1 : n ≤ l.length) : sslice tt.get hp 42 v none (some (.int k n)) = (subS 2 v 0 n.toNat, True) := h.slHi k_sa2int t_a2int h0 h1
theorem ap_sa2int {hp : Hp} {x : Value} {b top : Nat} {l : List (T_a2int)} (h : hp b = mkOb e_a2int l) (hx : SlP e_a2int hp x) (hn : l.length + (e_a2int.rd hp x).length ≤ 16777216) : appendA tt.get hp top [42, 42] (mkSl b l) x = some (mkSl top (l ++ e_a2int.rd hp x), appU b l top (mkOb e_a2int (l ++ e_a2int.rd hp x)), top + 1) := appendA_ownP k_sa2int t_sa2int rfl t_a2int rfl rfl h hx hn
theorem apn_sa2int {hp : Hp} {x : Value} {top : Nat} (hx : SlP e_a2int hp x) (hn : (e_a2int.rd hp x).length ≤ 16777216) : appendA tt.get hp top [42, 42] (.slice none 0 0) x = some (mkSl top (e_a2int.rd hp x), [(top, mkOb e_a2int (e_a2int.rd hp x))], top + 1) := appendA_nilP k_sa2int t_sa2int rfl t_a2int rfl rfl hx hn
theorem ap0_sa2int {hp : Hp} {top k : Nat} (hk : hp k = some (.cells true 2 (cellsOf (hp k)))) (hc : e_a2int.enc (e_a2int.dec (cellsOf (hp k))) = cellsOf (hp k)) : appendA tt.get hp top [42, 42] (.slice none 0 0) (.slice (some ⟨k, 0, none⟩) 1 1) = some (mkSl top [e_a2int.dec (cellsOf (hp k))], [(top, mkOb e_a2int [e_a2int.dec (cellsOf (hp k))])], top + 1) := appendA_zeroC k_sa2int t_sa2int rfl t_a2int rfl rfl hk hc
theorem sa_sa2int {hp : Hp} {b top : Nat} {l l2 : List (T_a2int)} (h : hp b = mkOb e_a2int l) : hp.sets (appU b l top (mkOb e_a2int l2)) = (hp.set b none).set top (mkOb e_a2int l2) := sets_appU h
theorem os_sa2int {hp : Hp} {b : Nat} {l : List (T_a2int)} {i : Nat} (h : hp b = mkOb e_a2int l) (hi : i < l.length) {a0 : Int} {a1 : Int} : sstore tt.get hp 48 (ptrS (mkSl b l) (i * 2)) (.agg ⟨[.int .i64 (a0), .int .i64 (a1)]⟩) = ([(b, mkOb e_a2int (l.set i ⟨a0, a1⟩))], True) := own_storeA (E := e_a2int) (cs := e_a2int.enc ⟨a0, a1⟩) t_a2int rfl h hi rfl rfl
theorem ow_sa2int {b : Nat} {l : List (T_a2int)} {hp2 : Hp} : slen tt.get hp2 42 (mkSl b l) = (.int .i64 (l.length : Int), True) := by cases l with | nil => unfold slen mkSl; simp only [k_sa2int, lenA, t_sa2int, ti42]; rfl | cons a l => unfold slen mkSl; simp only [k_sa2int, lenA, t_sa2int, ti42]; rfl
theorem ap1_sa2int {hp : Hp} {b top k : Nat} {l : List (T_a2int)} (h : hp b = mkOb e_a2int l) (hk : hp k = some (.cells true 2 (cellsOf (hp k)))) (hc : e_a2int.enc (e_a2int.dec (cellsOf (hp k))) = cellsOf (hp k)) (hn : l.length < 16777216) : appendA tt.get hp top [42, 42] (mkSl b l) (.slice (some ⟨k, 0, none⟩) 1 1) = some (mkSl top (l ++ [e_a2int.dec (cellsOf (hp k))]), appU b l top (mkOb e_a2int (l ++ [e_a2int.dec (cellsOf (hp k))])), top + 1) := appendA_oneC k_sa2int t_sa2int rfl t_a2int rfl rfl h hk hc hn
end
section
theorem len_sPair {hp : Hp} {v : Value} {l : List (T_Pair)} (h : SlT e_Pair hp v l) {hp' : Hp} : slen tt.get hp' 45 v = (.int .i64 (l.length : Int), True) := h.len_any k_sPair
theorem idx_sPair {hp : Hp} {v : Value} {l : List (T_Pair)} (h : SlT e_Pair hp v l) {k : IntKind} {n : Int} (h0 : 0 ≤ n) (h1 : n < l.length) : sindexAddr tt.get 45 v (.int k n) = (ptrS v (n.toNat * 2), True) := h.idx k_sPair t_Pair rfl h0 h1
theorem ld_sPair {hp : Hp} {v : Value} {l : List (T_Pair)} (h : SlT e_Pair hp v l) {i : Nat} (hi : i < l.length) : sload tt.get hp 72 (ptrS v (i * 2)) = (.agg ⟨e_Pair.enc (at' l i)⟩, True) := h.load t_Pair rfl rfl hi
theorem sf_sPair_0 {hp : Hp} {v : Value} {l : List (T_Pair)} (h : SlT e_Pair hp v l) {i : Nat} (hi : i < l.length) : sfieldAddr tt.get 72 (ptrS v (i * 2)) 0 = (ptrS v (i * 2), True) := h.field hi (d := 0) (fun b o => (by kernel_rfl : fieldAddrA tt.get 72 (.pointer (some ⟨b, o, none⟩)) 0 = some (.pointer (some ⟨b, o + 0, none⟩))))
theorem sc_sPair_0 {hp : Hp} {v : Value} {l : List (T_Pair)} (h : SlT e_Pair hp v l) {i : Nat} (hi : i < l.length) : sload tt.get hp 3 (ptrS v (i * 2)) = (.int .i64 ((at' l i).From), True) := h.cell (f := 0) t_int rfl hi (by decide)
theorem sf_sPair_1 {hp : Hp} {v : Value} {l : List (T_Pair)} (h : SlT e_Pair hp v l) {i : Nat} (hi : i < l.length) : sfieldAddr tt.get 72 (ptrS v (i * 2)) 1 = (ptrS v (i * 2 + 1), True) := h.field hi (d := 1) (fun b o => (by kernel_rfl : fieldAddrA tt.get 72 (.pointer (some ⟨b, o, none⟩)) 1 = some (.pointer (some ⟨b, o + 1, none⟩))))
theorem sc_sPair_1 {hp : Hp} {v : Value} {l : List (T_Pair)} (h : SlT e_Pair hp v l) {i : Nat} (hi : i < l.length) : sload tt.get hp 3 (ptrS v (i * 2 + 1)) = (.int .i64 ((at' l i).To), True) := h.cell (f := 1) t_int rfl hi (by decide)
theorem sh_sPair {hp : Hp} {v : Value} {l : List (T_Pair)} (h : SlT e_Pair hp v l) {k : IntKind} {n : Int} (h0 : 0 ≤ n) (h1 : n ≤ l.length) : sslice tt.get hp 45 v none (some (.int k n)) = (subS 2 v 0 n.toNat, True) := h.slHi k_sPair t_Pair h0 h1
theorem ap_sPair {hp : Hp} {x : Value} {b top : Nat} {l : List (T_Pair)} (h : hp b = mkOb e_Pair l) (hx : SlP e_Pair hp x) (hn : l.length + (e_Pair.rd hp x).length ≤ 16777216) : appendA tt.get hp top [45, 45] (mkSl b l) x = some (mkSl top (l ++ e_Pair.rd hp x), appU b l top (mkOb e_Pair (l ++ e_Pair.rd hp x)), top + 1) := appendA_ownP k_sPair t_sPair rfl t_Pair rfl rfl h hx hn
theorem apn_sPair {hp : Hp} {x : Value} {top : Nat} (hx : SlP e_Pair hp x) (hn : (e_Pair.rd hp x).length ≤ 16777216) : appendA tt.get hp top [45, 45] (.slice none 0 0) x = some (mkSl top (e_Pair.rd hp x), [(top, mkOb e_Pair (e_Pair.rd hp x))], top + 1) := appendA_nilP k_sPair t_sPair rfl t_Pair rfl rfl hx hn
theorem ap0_sPair {hp : Hp} {top k : Nat} (hk : hp k = some (.cells true 2 (cellsOf (hp k)))) (hc : e_Pair.enc (e_Pair.dec (cellsOf (hp k))) = cellsOf (hp k)) : appendA tt.get hp top [45, 45] (.slice none 0 0) (.slice (some ⟨k, 0, none⟩) 1 1) = some (mkSl top [e_Pair.dec (cellsOf (hp k))], [(top, mkOb e_Pair [e_Pair.dec (cellsOf (hp k))])], top + 1) := appendA_zeroC k_sPair t_sPair rfl t_Pair rfl rfl hk hc
theorem sa_sPair {hp : Hp} {b top : Nat} {l l2 : List (T_Pair)} (h : hp b = mkOb e_Pair l) : hp.sets (appU b l top (mkOb e_Pair l2)) = (hp.set b none).set top (mkOb e_Pair l2) := sets_appU h
theorem os_sPair {hp : Hp} {b : Nat} {l : List (T_Pair)} {i : Nat} (h : hp b = mkOb e_Pair l) (hi : i < l.length) {a0 : Int} {a1 : Int} : sstore tt.get hp 72 (ptrS (mkSl b l) (i * 2)) (.agg ⟨[.int .i64 (a0), .int .i64 (a1)]⟩) = ([(b, mkOb e_Pair (l.set i ⟨a0, a1⟩))], True) := own_storeA (E := e_Pair) (cs := e_Pair.enc ⟨a0, a1⟩) t_Pair rfl h hi rfl rfl
theorem of_sPair_0 {hp : Hp} {b : Nat} {l : List (T_Pair)} {i : Nat} (h : hp b = mkOb e_Pair l) (hi : i < l.length) {x : Int} : sstore tt.get hp 3 (ptrS (mkSl b l) (i * 2)) (.int .i64 (x)) = ([(b, mkOb e_Pair (l.set i { at' l i with From := x }))], True) := own_storeF (f := 0) t_int h hi rfl (by decide) rfl rfl
theorem of_sPair_1 {hp : Hp} {b : Nat} {l : List (T_Pair)} {i : Nat} (h : hp b = mkOb e_Pair l) (hi : i < l.length) {x : Int} : sstore tt.get hp 3 (ptrS (mkSl b l) (i * 2 + 1)) (.int .i64 (x)) = ([(b, mkOb e_Pair (l.set i { at' l i with To := x }))], True) := own_storeF (f := 1) t_int h hi rfl (by decide) rfl rfl
theorem ow_sPair {b : Nat} {l : List (T_Pair)} {hp2 : Hp} : slen tt.get hp2 45 (mkSl b l) = (.int .i64 (l.length : Int), True) := by cases l with | nil => unfold slen mkSl; simp only [k_sPair, lenA, t_sPair, ti45]; rfl | cons a l => unfold slen mkSl; simp only [k_sPair, lenA, t_sPair, ti45]; rfl
theorem ap1_sPair {hp : Hp} {b top k : Nat} {l : List (T_Pair)} (h : hp b = mkOb e_Pair l) (hk : hp k = some (.cells true 2 (cellsOf (hp k)))) (hc : e_Pair.enc (e_Pair.dec (cellsOf (hp k))) = cellsOf (hp k)) (hn : l.length < 16777216) : appendA tt.get hp top [45, 45] (mkSl b l) (.slice (some ⟨k, 0, none⟩) 1 1) = some (mkSl top (l ++ [e_Pair.dec (cellsOf (hp k))]), appU b l top (mkOb e_Pair (l ++ [e_Pair.dec (cellsOf (hp k))])), top + 1) := appendA_oneC k_sPair t_sPair rfl t_Pair rfl rfl h hk hc hn
end
def kt_message : KT tt.get 67 T_message := ⟨fun a => .agg ⟨e_message.enc a⟩, fun a b => by
    obtain ⟨a0, a1, a2⟩ := a; obtain ⟨b0, b1, b2⟩ := b
    simp only [eqA, t_message, ti67, eqFields, partA, ti3, t_int, ti3, t_int, ti3, t_int, aggD, en_message, eqI_dec, List.drop_zero, List.drop_succ_cons, T_message.mk.injEq, if_true]
    by_cases h0 : a0 = b0 <;> by_cases h1 : a1 = b1 <;> by_cases h2 : a2 = b2 <;> simp [h0, h1, h2], fun a => by
    simp [keyA, keyFields, partA, t_message, ti67, ti3, t_int, ti3, t_int, ti3, t_int, aggD, en_message], fun a => by simp [plain, en_message], fun a => sameBits_of (fun v h => by simp [en_message] at h; rcases h with rfl | rfl | rfl <;> simp [Instr.sameBits]), fun ρ a => rfl⟩
theorem sl_m_message_Rule {hp : Hp} {b : Nat} {k : Value} {ok : Bool} : slookup tt.get hp 58 (.map (some b)) k ok = (match hp b with | some (.map es _) => slookE tt.get 67 ti27.zero k es ok | _ => (undef, False)) := slookup_map k_m_message_Rule t_message t_Rule
theorem su_m_message_Rule {hp : Hp} {b : Nat} {k x : Value} : mapUpdA tt.get hp 58 (.map (some b)) k x = (match hp b with | some (.map es clk) => mapUpdE tt.get 67 b k x es clk | _ => none) := mapUpdA_map k_m_message_Rule t_message
theorem sd_m_message_Rule {hp : Hp} {b : Nat} {k : Value} {ts : List TypeId} : deleteA tt.get hp (58 :: ts) (.map (some b)) k = (match hp b with | some (.map es clk) => deleteE tt.get 67 b k es clk | _ => none) := deleteA_map k_m_message_Rule t_message
def mv_m_message_Rule (a : T_Rule) : Value := .agg ⟨e_Rule.enc a⟩
abbrev M_m_message_Rule := List (T_message × T_Rule × Nat)
def me_m_message_Rule (m : M_m_message_Rule) : List MapEntry := m.map (entT kt_message.ek mv_m_message_Rule)
def dm_m_message_Rule (l : List MapEntry) : M_m_message_Rule := l.map fun e => (⟨intOf (((aggOf e.key)[0]?).getD undef), intOf (((aggOf e.key)[1]?).getD undef), intOf (((aggOf e.key)[2]?).getD undef)⟩, ⟨intOf (((aggOf e.val)[0]?).getD undef), intOf (((aggOf e.val)[1]?).getD undef), intOf (((aggOf e.val)[2]?).getD undef), intOf (((aggOf e.val)[3]?).getD undef), intOf (((aggOf e.val)[4]?).getD undef)⟩, e.born)
theorem dm_me_m_message_Rule (m : M_m_message_Rule) : dm_m_message_Rule (me_m_message_Rule m) = m := by simp only [dm_m_message_Rule, me_m_message_Rule, List.map_map]; exact (List.map_congr_left (fun _ _ => rfl)).trans (List.map_id m)
theorem lo_m_message_Rule {z : Value} {m : M_m_message_Rule} {a0 a1 a2 : Int} : slookE tt.get 67 z (.agg ⟨[.int .i64 (a0), .int .i64 (a1), .int .i64 (a2)]⟩) (me_m_message_Rule m) true = (.tuple ⟨[((mget m ⟨a0, a1, a2⟩).map mv_m_message_Rule).getD z, .bool (mget m ⟨a0, a1, a2⟩).isSome]⟩, True) := slookE_ok_T kt_message mv_m_message_Rule m ⟨a0, a1, a2⟩
theorem lx_m_message_Rule {z : Value} {m : M_m_message_Rule} {a0 a1 a2 : Int} : slookE tt.get 67 z (.agg ⟨[.int .i64 (a0), .int .i64 (a1), .int .i64 (a2)]⟩) (me_m_message_Rule m) false = (((mget m ⟨a0, a1, a2⟩).map mv_m_message_Rule).getD z, True) := slookE_T kt_message mv_m_message_Rule m ⟨a0, a1, a2⟩
theorem gd_m_message_Rule {x : Option (T_Rule)} : (x.map mv_m_message_Rule).getD (.agg ⟨[(.int .i64 (0)), (.int .i64 (0)), (.int .i64 (0)), (.int .i64 (0)), (.int .i64 (0))]⟩) = mv_m_message_Rule (x.getD default) := by cases x <;> rfl
theorem rm_m_message_Rule {ρ : Nat → Nat} {m : M_m_message_Rule} : (me_m_message_Rule m).map (renE ρ) = me_m_message_Rule m := renE_T (fun _ => rfl) (fun _ => rfl) m
theorem mu_m_message_Rule {b clk : Nat} {m : M_m_message_Rule} {a0 a1 a2 : Int} {b0 b1 b2 b3 b4 : Int} : mapUpdE tt.get 67 b (.agg ⟨[.int .i64 (a0), .int .i64 (a1), .int .i64 (a2)]⟩) (.agg ⟨[.int .i64 (b0), .int .i64 (b1), .int .i64 (b2), .int .i64 (b3), .int .i64 (b4)]⟩) (me_m_message_Rule m) clk = some [(b, some (.map (me_m_message_Rule (mput m ⟨a0, a1, a2⟩ ⟨b0, b1, b2, b3, b4⟩ clk)) (mclk m ⟨a0, a1, a2⟩ clk)))] := mapUpdE_T kt_message mv_m_message_Rule b m clk ⟨a0, a1, a2⟩ ⟨b0, b1, b2, b3, b4⟩
theorem md_m_message_Rule {b clk : Nat} {m : M_m_message_Rule} {a0 a1 a2 : Int} : deleteE tt.get 67 b (.agg ⟨[.int .i64 (a0), .int .i64 (a1), .int .i64 (a2)]⟩) (me_m_message_Rule m) clk = some [(b, some (.map (me_m_message_Rule (mdel m ⟨a0, a1, a2⟩)) clk))] := deleteE_T kt_message mv_m_message_Rule b m clk ⟨a0, a1, a2⟩
end Go.Proofs.Ytnlbcaefljaceaa.Dm
