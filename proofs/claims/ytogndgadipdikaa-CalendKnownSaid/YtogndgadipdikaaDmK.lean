/- Facts on the types of this seat; how their data lie in memory. -/
import Derived.Test.YtogndgadipdikaaDmTab
import Derived.Test.YtogndgadipdikaaDmH
namespace Go.Proofs.Ytogndgadipdikaa.Dm
open Go.Dm
attribute [go_sem] ti3 ti4 ti9 ti22 ti23 ti25 ti27 ti29 ti34 ti36 ti41 ti42 ti45 ti46 ti48 ti49 ti51 ti55 ti57 ti63 ti64 ti66 ti67 ti69 ti70 ti72 ti74 ti80 ti83 ti85 ti90 ti93 ti96 ti99 ti102 ti105
@[go_sem] theorem t_int : tt.get 3 = some ti3 := by kernel_rfl
@[go_sem] theorem k_int : kindOf tt.get 3 = some (.int .i64) := by kernel_rfl
@[go_sem] theorem v_int {op : BinOp} {xo yo : Operand} {x y : Value} : sbin2 tt.get op 3 xo yo x y = sbinI op .i64 x y := sbin2_int k_int
@[go_sem] theorem t_bool : tt.get 4 = some ti4 := by kernel_rfl
@[go_sem] theorem k_bool : kindOf tt.get 4 = some (.bool) := by kernel_rfl
@[go_sem] theorem v_bool {op : BinOp} {xo yo : Operand} {x y : Value} : sbin2 tt.get op 4 xo yo x y = sbinB op x y := sbin2_bool k_bool
@[go_sem] theorem t_string : tt.get 9 = some ti9 := by kernel_rfl
@[go_sem] theorem k_string : kindOf tt.get 9 = some (.string) := by kernel_rfl
@[go_sem] theorem v_string {op : BinOp} {xo yo : Operand} {x y : Value} : sbin2 tt.get op 9 xo yo x y = sbinS op x y := sbin2_str k_string
@[go_sem] theorem t_suint64 : tt.get 22 = some ti22 := by kernel_rfl
@[go_sem] theorem k_suint64 : kindOf tt.get 22 = some (.slice 29) := by kernel_rfl
@[go_sem] theorem v_suint64 {op : BinOp} {xo yo : Operand} {x y : Value} : sbin2 tt.get op 22 xo yo x y = sbinX (binA tt.get op 22 xo yo x y) := sbin2_ref (by kernel_rfl)
@[go_sem] theorem n_suint64_eql {xo yo : Operand} {a : Option Addr} {n c : Nat} : binA tt.get .eql 22 xo yo (.slice a n c) (.slice none 0 0) = some (.bool (a.isNone)) := by cases a <;> simp [binA, eqA, t_suint64, ti22]
@[go_sem] theorem n_suint64_neq {xo yo : Operand} {a : Option Addr} {n c : Nat} : binA tt.get .neq 22 xo yo (.slice a n c) (.slice none 0 0) = some (.bool (!a.isNone)) := by cases a <;> simp [binA, eqA, t_suint64, ti22]
@[go_sem] theorem t_pt69 : tt.get 23 = some ti23 := by kernel_rfl
@[go_sem] theorem k_pt69 : kindOf tt.get 23 = some (.pointer 69) := by kernel_rfl
@[go_sem] theorem v_pt69 {op : BinOp} {xo yo : Operand} {x y : Value} : sbin2 tt.get op 23 xo yo x y = sbinX (binA tt.get op 23 xo yo x y) := sbin2_ref (by kernel_rfl)
@[go_sem] theorem n_pt69_eql {xo yo : Operand} {a : Option Addr} : binA tt.get .eql 23 xo yo (.pointer a) (.pointer none) = some (.bool (a.isNone)) := by cases a <;> simp [binA, eqA, t_pt69, ti23]
@[go_sem] theorem n_pt69_neq {xo yo : Operand} {a : Option Addr} : binA tt.get .neq 23 xo yo (.pointer a) (.pointer none) = some (.bool (!a.isNone)) := by cases a <;> simp [binA, eqA, t_pt69, ti23]
@[go_sem] theorem t_pt72 : tt.get 25 = some ti25 := by kernel_rfl
@[go_sem] theorem k_pt72 : kindOf tt.get 25 = some (.pointer 72) := by kernel_rfl
@[go_sem] theorem v_pt72 {op : BinOp} {xo yo : Operand} {x y : Value} : sbin2 tt.get op 25 xo yo x y = sbinX (binA tt.get op 25 xo yo x y) := sbin2_ref (by kernel_rfl)
@[go_sem] theorem n_pt72_eql {xo yo : Operand} {a : Option Addr} : binA tt.get .eql 25 xo yo (.pointer a) (.pointer none) = some (.bool (a.isNone)) := by cases a <;> simp [binA, eqA, t_pt72, ti25]
@[go_sem] theorem n_pt72_neq {xo yo : Operand} {a : Option Addr} : binA tt.get .neq 25 xo yo (.pointer a) (.pointer none) = some (.bool (!a.isNone)) := by cases a <;> simp [binA, eqA, t_pt72, ti25]
@[go_sem] theorem t_a2string : tt.get 27 = some ti27 := by kernel_rfl
@[go_sem] theorem k_a2string : kindOf tt.get 27 = some (.array 2 9) := by kernel_rfl
@[go_sem] theorem t_uint64 : tt.get 29 = some ti29 := by kernel_rfl
@[go_sem] theorem k_uint64 : kindOf tt.get 29 = some (.int .u64) := by kernel_rfl
@[go_sem] theorem v_uint64 {op : BinOp} {xo yo : Operand} {x y : Value} : sbin2 tt.get op 29 xo yo x y = sbinI op .u64 x y := sbin2_int k_uint64
@[go_sem] theorem t_sint : tt.get 34 = some ti34 := by kernel_rfl
@[go_sem] theorem k_sint : kindOf tt.get 34 = some (.slice 3) := by kernel_rfl
@[go_sem] theorem v_sint {op : BinOp} {xo yo : Operand} {x y : Value} : sbin2 tt.get op 34 xo yo x y = sbinX (binA tt.get op 34 xo yo x y) := sbin2_ref (by kernel_rfl)
@[go_sem] theorem n_sint_eql {xo yo : Operand} {a : Option Addr} {n c : Nat} : binA tt.get .eql 34 xo yo (.slice a n c) (.slice none 0 0) = some (.bool (a.isNone)) := by cases a <;> simp [binA, eqA, t_sint, ti34]
@[go_sem] theorem n_sint_neq {xo yo : Operand} {a : Option Addr} {n c : Nat} : binA tt.get .neq 34 xo yo (.slice a n c) (.slice none 0 0) = some (.bool (!a.isNone)) := by cases a <;> simp [binA, eqA, t_sint, ti34]
@[go_sem] theorem t_sa2string : tt.get 36 = some ti36 := by kernel_rfl
@[go_sem] theorem k_sa2string : kindOf tt.get 36 = some (.slice 27) := by kernel_rfl
@[go_sem] theorem v_sa2string {op : BinOp} {xo yo : Operand} {x y : Value} : sbin2 tt.get op 36 xo yo x y = sbinX (binA tt.get op 36 xo yo x y) := sbin2_ref (by kernel_rfl)
@[go_sem] theorem n_sa2string_eql {xo yo : Operand} {a : Option Addr} {n c : Nat} : binA tt.get .eql 36 xo yo (.slice a n c) (.slice none 0 0) = some (.bool (a.isNone)) := by cases a <;> simp [binA, eqA, t_sa2string, ti36]
@[go_sem] theorem n_sa2string_neq {xo yo : Operand} {a : Option Addr} {n c : Nat} : binA tt.get .neq 36 xo yo (.slice a n c) (.slice none 0 0) = some (.bool (!a.isNone)) := by cases a <;> simp [binA, eqA, t_sa2string, ti36]
@[go_sem] theorem t_sbool : tt.get 41 = some ti41 := by kernel_rfl
@[go_sem] theorem k_sbool : kindOf tt.get 41 = some (.slice 4) := by kernel_rfl
@[go_sem] theorem v_sbool {op : BinOp} {xo yo : Operand} {x y : Value} : sbin2 tt.get op 41 xo yo x y = sbinX (binA tt.get op 41 xo yo x y) := sbin2_ref (by kernel_rfl)
@[go_sem] theorem n_sbool_eql {xo yo : Operand} {a : Option Addr} {n c : Nat} : binA tt.get .eql 41 xo yo (.slice a n c) (.slice none 0 0) = some (.bool (a.isNone)) := by cases a <;> simp [binA, eqA, t_sbool, ti41]
@[go_sem] theorem n_sbool_neq {xo yo : Operand} {a : Option Addr} {n c : Nat} : binA tt.get .neq 41 xo yo (.slice a n c) (.slice none 0 0) = some (.bool (!a.isNone)) := by cases a <;> simp [binA, eqA, t_sbool, ti41]
@[go_sem] theorem t_t42 : tt.get 42 = some ti42 := by kernel_rfl
@[go_sem] theorem v_t42 {op : BinOp} {xo yo : Operand} {x y : Value} : sbin2 tt.get op 42 xo yo x y = sbinX (binA tt.get op 42 xo yo x y) := sbin2_ref (by kernel_rfl)
@[go_sem] theorem n_t42_eql {xo yo : Operand} : binA tt.get .eql 42 xo yo .nilFunc .nilFunc = some (.bool true) := by simp [binA, eqA, t_t42, ti42]
@[go_sem] theorem m_t42_eql {xo yo : Operand} {f : Fn} {x y : Array Value} : binA tt.get .eql 42 xo yo (.func f x y) .nilFunc = some (.bool (!true)) := by simp [binA, eqA, t_t42, ti42]
@[go_sem] theorem n_t42_neq {xo yo : Operand} : binA tt.get .neq 42 xo yo .nilFunc .nilFunc = some (.bool false) := by simp [binA, eqA, t_t42, ti42]
@[go_sem] theorem m_t42_neq {xo yo : Operand} {f : Fn} {x y : Array Value} : binA tt.get .neq 42 xo yo (.func f x y) .nilFunc = some (.bool (!false)) := by simp [binA, eqA, t_t42, ti42]
@[go_sem] theorem t_sDo : tt.get 45 = some ti45 := by kernel_rfl
@[go_sem] theorem k_sDo : kindOf tt.get 45 = some (.slice 55) := by kernel_rfl
@[go_sem] theorem v_sDo {op : BinOp} {xo yo : Operand} {x y : Value} : sbin2 tt.get op 45 xo yo x y = sbinX (binA tt.get op 45 xo yo x y) := sbin2_ref (by kernel_rfl)
@[go_sem] theorem n_sDo_eql {xo yo : Operand} {a : Option Addr} {n c : Nat} : binA tt.get .eql 45 xo yo (.slice a n c) (.slice none 0 0) = some (.bool (a.isNone)) := by cases a <;> simp [binA, eqA, t_sDo, ti45]
@[go_sem] theorem n_sDo_neq {xo yo : Operand} {a : Option Addr} {n c : Nat} : binA tt.get .neq 45 xo yo (.slice a n c) (.slice none 0 0) = some (.bool (!a.isNone)) := by cases a <;> simp [binA, eqA, t_sDo, ti45]
@[go_sem] theorem t_pt66 : tt.get 46 = some ti46 := by kernel_rfl
@[go_sem] theorem k_pt66 : kindOf tt.get 46 = some (.pointer 66) := by kernel_rfl
@[go_sem] theorem v_pt66 {op : BinOp} {xo yo : Operand} {x y : Value} : sbin2 tt.get op 46 xo yo x y = sbinX (binA tt.get op 46 xo yo x y) := sbin2_ref (by kernel_rfl)
@[go_sem] theorem n_pt66_eql {xo yo : Operand} {a : Option Addr} : binA tt.get .eql 46 xo yo (.pointer a) (.pointer none) = some (.bool (a.isNone)) := by cases a <;> simp [binA, eqA, t_pt66, ti46]
@[go_sem] theorem n_pt66_neq {xo yo : Operand} {a : Option Addr} : binA tt.get .neq 46 xo yo (.pointer a) (.pointer none) = some (.bool (!a.isNone)) := by cases a <;> simp [binA, eqA, t_pt66, ti46]
@[go_sem] theorem t_pCalendar : tt.get 48 = some ti48 := by kernel_rfl
@[go_sem] theorem k_pCalendar : kindOf tt.get 48 = some (.pointer 51) := by kernel_rfl
@[go_sem] theorem v_pCalendar {op : BinOp} {xo yo : Operand} {x y : Value} : sbin2 tt.get op 48 xo yo x y = sbinX (binA tt.get op 48 xo yo x y) := sbin2_ref (by kernel_rfl)
@[go_sem] theorem n_pCalendar_eql {xo yo : Operand} {a : Option Addr} : binA tt.get .eql 48 xo yo (.pointer a) (.pointer none) = some (.bool (a.isNone)) := by cases a <;> simp [binA, eqA, t_pCalendar, ti48]
@[go_sem] theorem n_pCalendar_neq {xo yo : Operand} {a : Option Addr} : binA tt.get .neq 48 xo yo (.pointer a) (.pointer none) = some (.bool (!a.isNone)) := by cases a <;> simp [binA, eqA, t_pCalendar, ti48]
@[go_sem] theorem t_sThing : tt.get 49 = some ti49 := by kernel_rfl
@[go_sem] theorem k_sThing : kindOf tt.get 49 = some (.slice 93) := by kernel_rfl
@[go_sem] theorem v_sThing {op : BinOp} {xo yo : Operand} {x y : Value} : sbin2 tt.get op 49 xo yo x y = sbinX (binA tt.get op 49 xo yo x y) := sbin2_ref (by kernel_rfl)
@[go_sem] theorem n_sThing_eql {xo yo : Operand} {a : Option Addr} {n c : Nat} : binA tt.get .eql 49 xo yo (.slice a n c) (.slice none 0 0) = some (.bool (a.isNone)) := by cases a <;> simp [binA, eqA, t_sThing, ti49]
@[go_sem] theorem n_sThing_neq {xo yo : Operand} {a : Option Addr} {n c : Nat} : binA tt.get .neq 49 xo yo (.slice a n c) (.slice none 0 0) = some (.bool (!a.isNone)) := by cases a <;> simp [binA, eqA, t_sThing, ti49]
@[go_sem] theorem t_Calendar : tt.get 51 = some ti51 := by kernel_rfl
@[go_sem] theorem fa_Calendar_0 {b o : Nat} : sfieldAddr tt.get 51 (.pointer (some ⟨b, o, none⟩)) 0 = (.pointer (some ⟨b, o, none⟩), True) := by unfold sfieldAddr; rw [show fieldAddrA tt.get 51 (.pointer (some ⟨b, o, none⟩)) 0 = some (.pointer (some ⟨b, o, none⟩)) from by kernel_rfl]
@[go_sem] theorem fa_Calendar_1 {b o : Nat} : sfieldAddr tt.get 51 (.pointer (some ⟨b, o, none⟩)) 1 = (.pointer (some ⟨b, o + 1, none⟩), True) := by unfold sfieldAddr; rw [show fieldAddrA tt.get 51 (.pointer (some ⟨b, o, none⟩)) 1 = some (.pointer (some ⟨b, o + 1, none⟩)) from by kernel_rfl]
@[go_sem] theorem t_Do : tt.get 55 = some ti55 := by kernel_rfl
@[go_sem] theorem fa_Do_0 {b o : Nat} : sfieldAddr tt.get 55 (.pointer (some ⟨b, o, none⟩)) 0 = (.pointer (some ⟨b, o, none⟩), True) := by unfold sfieldAddr; rw [show fieldAddrA tt.get 55 (.pointer (some ⟨b, o, none⟩)) 0 = some (.pointer (some ⟨b, o, none⟩)) from by kernel_rfl]
@[go_sem] theorem fa_Do_1 {b o : Nat} : sfieldAddr tt.get 55 (.pointer (some ⟨b, o, none⟩)) 1 = (.pointer (some ⟨b, o + 1, none⟩), True) := by unfold sfieldAddr; rw [show fieldAddrA tt.get 55 (.pointer (some ⟨b, o, none⟩)) 1 = some (.pointer (some ⟨b, o + 1, none⟩)) from by kernel_rfl]
@[go_sem] theorem fa_Do_2 {b o : Nat} : sfieldAddr tt.get 55 (.pointer (some ⟨b, o, none⟩)) 2 = (.pointer (some ⟨b, o + 2, none⟩), True) := by unfold sfieldAddr; rw [show fieldAddrA tt.get 55 (.pointer (some ⟨b, o, none⟩)) 2 = some (.pointer (some ⟨b, o + 2, none⟩)) from by kernel_rfl]
@[go_sem] theorem fa_Do_3 {b o : Nat} : sfieldAddr tt.get 55 (.pointer (some ⟨b, o, none⟩)) 3 = (.pointer (some ⟨b, o + 3, none⟩), True) := by unfold sfieldAddr; rw [show fieldAddrA tt.get 55 (.pointer (some ⟨b, o, none⟩)) 3 = some (.pointer (some ⟨b, o + 3, none⟩)) from by kernel_rfl]
@[go_sem] theorem t_sstring : tt.get 57 = some ti57 := by kernel_rfl
@[go_sem] theorem k_sstring : kindOf tt.get 57 = some (.slice 9) := by kernel_rfl
@[go_sem] theorem v_sstring {op : BinOp} {xo yo : Operand} {x y : Value} : sbin2 tt.get op 57 xo yo x y = sbinX (binA tt.get op 57 xo yo x y) := sbin2_ref (by kernel_rfl)
@[go_sem] theorem n_sstring_eql {xo yo : Operand} {a : Option Addr} {n c : Nat} : binA tt.get .eql 57 xo yo (.slice a n c) (.slice none 0 0) = some (.bool (a.isNone)) := by cases a <;> simp [binA, eqA, t_sstring, ti57]
@[go_sem] theorem n_sstring_neq {xo yo : Operand} {a : Option Addr} {n c : Nat} : binA tt.get .neq 57 xo yo (.slice a n c) (.slice none 0 0) = some (.bool (!a.isNone)) := by cases a <;> simp [binA, eqA, t_sstring, ti57]
@[go_sem] theorem t_t63 : tt.get 63 = some ti63 := by kernel_rfl
@[go_sem] theorem v_t63 {op : BinOp} {xo yo : Operand} {x y : Value} : sbin2 tt.get op 63 xo yo x y = sbinX (binA tt.get op 63 xo yo x y) := sbin2_ref (by kernel_rfl)
@[go_sem] theorem n_t63_eql {xo yo : Operand} : binA tt.get .eql 63 xo yo .nilFunc .nilFunc = some (.bool true) := by simp [binA, eqA, t_t63, ti63]
@[go_sem] theorem m_t63_eql {xo yo : Operand} {f : Fn} {x y : Array Value} : binA tt.get .eql 63 xo yo (.func f x y) .nilFunc = some (.bool (!true)) := by simp [binA, eqA, t_t63, ti63]
@[go_sem] theorem n_t63_neq {xo yo : Operand} : binA tt.get .neq 63 xo yo .nilFunc .nilFunc = some (.bool false) := by simp [binA, eqA, t_t63, ti63]
@[go_sem] theorem m_t63_neq {xo yo : Operand} {f : Fn} {x y : Array Value} : binA tt.get .neq 63 xo yo (.func f x y) .nilFunc = some (.bool (!false)) := by simp [binA, eqA, t_t63, ti63]
@[go_sem] theorem t_st96 : tt.get 64 = some ti64 := by kernel_rfl
@[go_sem] theorem k_st96 : kindOf tt.get 64 = some (.slice 96) := by kernel_rfl
@[go_sem] theorem v_st96 {op : BinOp} {xo yo : Operand} {x y : Value} : sbin2 tt.get op 64 xo yo x y = sbinX (binA tt.get op 64 xo yo x y) := sbin2_ref (by kernel_rfl)
@[go_sem] theorem n_st96_eql {xo yo : Operand} {a : Option Addr} {n c : Nat} : binA tt.get .eql 64 xo yo (.slice a n c) (.slice none 0 0) = some (.bool (a.isNone)) := by cases a <;> simp [binA, eqA, t_st96, ti64]
@[go_sem] theorem n_st96_neq {xo yo : Operand} {a : Option Addr} {n c : Nat} : binA tt.get .neq 64 xo yo (.slice a n c) (.slice none 0 0) = some (.bool (!a.isNone)) := by cases a <;> simp [binA, eqA, t_st96, ti64]
@[go_sem] theorem t_t66 : tt.get 66 = some ti66 := by kernel_rfl
@[go_sem] theorem fa_t66_0 {b o : Nat} : sfieldAddr tt.get 66 (.pointer (some ⟨b, o, none⟩)) 0 = (.pointer (some ⟨b, o, none⟩), True) := by unfold sfieldAddr; rw [show fieldAddrA tt.get 66 (.pointer (some ⟨b, o, none⟩)) 0 = some (.pointer (some ⟨b, o, none⟩)) from by kernel_rfl]
@[go_sem] theorem fa_t66_1 {b o : Nat} : sfieldAddr tt.get 66 (.pointer (some ⟨b, o, none⟩)) 1 = (.pointer (some ⟨b, o + 1, none⟩), True) := by unfold sfieldAddr; rw [show fieldAddrA tt.get 66 (.pointer (some ⟨b, o, none⟩)) 1 = some (.pointer (some ⟨b, o + 1, none⟩)) from by kernel_rfl]
@[go_sem] theorem fa_t66_2 {b o : Nat} : sfieldAddr tt.get 66 (.pointer (some ⟨b, o, none⟩)) 2 = (.pointer (some ⟨b, o + 2, none⟩), True) := by unfold sfieldAddr; rw [show fieldAddrA tt.get 66 (.pointer (some ⟨b, o, none⟩)) 2 = some (.pointer (some ⟨b, o + 2, none⟩)) from by kernel_rfl]
@[go_sem] theorem t_st74 : tt.get 67 = some ti67 := by kernel_rfl
@[go_sem] theorem k_st74 : kindOf tt.get 67 = some (.slice 74) := by kernel_rfl
@[go_sem] theorem v_st74 {op : BinOp} {xo yo : Operand} {x y : Value} : sbin2 tt.get op 67 xo yo x y = sbinX (binA tt.get op 67 xo yo x y) := sbin2_ref (by kernel_rfl)
@[go_sem] theorem n_st74_eql {xo yo : Operand} {a : Option Addr} {n c : Nat} : binA tt.get .eql 67 xo yo (.slice a n c) (.slice none 0 0) = some (.bool (a.isNone)) := by cases a <;> simp [binA, eqA, t_st74, ti67]
@[go_sem] theorem n_st74_neq {xo yo : Operand} {a : Option Addr} {n c : Nat} : binA tt.get .neq 67 xo yo (.slice a n c) (.slice none 0 0) = some (.bool (!a.isNone)) := by cases a <;> simp [binA, eqA, t_st74, ti67]
@[go_sem] theorem t_t69 : tt.get 69 = some ti69 := by kernel_rfl
@[go_sem] theorem fa_t69_0 {b o : Nat} : sfieldAddr tt.get 69 (.pointer (some ⟨b, o, none⟩)) 0 = (.pointer (some ⟨b, o, none⟩), True) := by unfold sfieldAddr; rw [show fieldAddrA tt.get 69 (.pointer (some ⟨b, o, none⟩)) 0 = some (.pointer (some ⟨b, o, none⟩)) from by kernel_rfl]
@[go_sem] theorem fa_t69_1 {b o : Nat} : sfieldAddr tt.get 69 (.pointer (some ⟨b, o, none⟩)) 1 = (.pointer (some ⟨b, o + 1, none⟩), True) := by unfold sfieldAddr; rw [show fieldAddrA tt.get 69 (.pointer (some ⟨b, o, none⟩)) 1 = some (.pointer (some ⟨b, o + 1, none⟩)) from by kernel_rfl]
@[go_sem] theorem fa_t69_2 {b o : Nat} : sfieldAddr tt.get 69 (.pointer (some ⟨b, o, none⟩)) 2 = (.pointer (some ⟨b, o + 2, none⟩), True) := by unfold sfieldAddr; rw [show fieldAddrA tt.get 69 (.pointer (some ⟨b, o, none⟩)) 2 = some (.pointer (some ⟨b, o + 2, none⟩)) from by kernel_rfl]
@[go_sem] theorem t_st83 : tt.get 70 = some ti70 := by kernel_rfl
@[go_sem] theorem k_st83 : kindOf tt.get 70 = some (.slice 83) := by kernel_rfl
@[go_sem] theorem v_st83 {op : BinOp} {xo yo : Operand} {x y : Value} : sbin2 tt.get op 70 xo yo x y = sbinX (binA tt.get op 70 xo yo x y) := sbin2_ref (by kernel_rfl)
@[go_sem] theorem n_st83_eql {xo yo : Operand} {a : Option Addr} {n c : Nat} : binA tt.get .eql 70 xo yo (.slice a n c) (.slice none 0 0) = some (.bool (a.isNone)) := by cases a <;> simp [binA, eqA, t_st83, ti70]
@[go_sem] theorem n_st83_neq {xo yo : Operand} {a : Option Addr} {n c : Nat} : binA tt.get .neq 70 xo yo (.slice a n c) (.slice none 0 0) = some (.bool (!a.isNone)) := by cases a <;> simp [binA, eqA, t_st83, ti70]
@[go_sem] theorem t_t72 : tt.get 72 = some ti72 := by kernel_rfl
@[go_sem] theorem fa_t72_0 {b o : Nat} : sfieldAddr tt.get 72 (.pointer (some ⟨b, o, none⟩)) 0 = (.pointer (some ⟨b, o, none⟩), True) := by unfold sfieldAddr; rw [show fieldAddrA tt.get 72 (.pointer (some ⟨b, o, none⟩)) 0 = some (.pointer (some ⟨b, o, none⟩)) from by kernel_rfl]
@[go_sem] theorem fa_t72_1 {b o : Nat} : sfieldAddr tt.get 72 (.pointer (some ⟨b, o, none⟩)) 1 = (.pointer (some ⟨b, o + 1, none⟩), True) := by unfold sfieldAddr; rw [show fieldAddrA tt.get 72 (.pointer (some ⟨b, o, none⟩)) 1 = some (.pointer (some ⟨b, o + 1, none⟩)) from by kernel_rfl]
@[go_sem] theorem fa_t72_2 {b o : Nat} : sfieldAddr tt.get 72 (.pointer (some ⟨b, o, none⟩)) 2 = (.pointer (some ⟨b, o + 2, none⟩), True) := by unfold sfieldAddr; rw [show fieldAddrA tt.get 72 (.pointer (some ⟨b, o, none⟩)) 2 = some (.pointer (some ⟨b, o + 2, none⟩)) from by kernel_rfl]
@[go_sem] theorem t_t74 : tt.get 74 = some ti74 := by kernel_rfl
@[go_sem] theorem fa_t74_0 {b o : Nat} : sfieldAddr tt.get 74 (.pointer (some ⟨b, o, none⟩)) 0 = (.pointer (some ⟨b, o, none⟩), True) := by unfold sfieldAddr; rw [show fieldAddrA tt.get 74 (.pointer (some ⟨b, o, none⟩)) 0 = some (.pointer (some ⟨b, o, none⟩)) from by kernel_rfl]
@[go_sem] theorem fa_t74_1 {b o : Nat} : sfieldAddr tt.get 74 (.pointer (some ⟨b, o, none⟩)) 1 = (.pointer (some ⟨b, o + 1, none⟩), True) := by unfold sfieldAddr; rw [show fieldAddrA tt.get 74 (.pointer (some ⟨b, o, none⟩)) 1 = some (.pointer (some ⟨b, o + 1, none⟩)) from by kernel_rfl]
@[go_sem] theorem fa_t74_2 {b o : Nat} : sfieldAddr tt.get 74 (.pointer (some ⟨b, o, none⟩)) 2 = (.pointer (some ⟨b, o + 2, none⟩), True) := by unfold sfieldAddr; rw [show fieldAddrA tt.get 74 (.pointer (some ⟨b, o, none⟩)) 2 = some (.pointer (some ⟨b, o + 2, none⟩)) from by kernel_rfl]
@[go_sem] theorem t_t80 : tt.get 80 = some ti80 := by kernel_rfl
@[go_sem] theorem v_t80 {op : BinOp} {xo yo : Operand} {x y : Value} : sbin2 tt.get op 80 xo yo x y = sbinX (binA tt.get op 80 xo yo x y) := sbin2_ref (by kernel_rfl)
@[go_sem] theorem n_t80_eql {xo yo : Operand} : binA tt.get .eql 80 xo yo .nilFunc .nilFunc = some (.bool true) := by simp [binA, eqA, t_t80, ti80]
@[go_sem] theorem m_t80_eql {xo yo : Operand} {f : Fn} {x y : Array Value} : binA tt.get .eql 80 xo yo (.func f x y) .nilFunc = some (.bool (!true)) := by simp [binA, eqA, t_t80, ti80]
@[go_sem] theorem n_t80_neq {xo yo : Operand} : binA tt.get .neq 80 xo yo .nilFunc .nilFunc = some (.bool false) := by simp [binA, eqA, t_t80, ti80]
@[go_sem] theorem m_t80_neq {xo yo : Operand} {f : Fn} {x y : Array Value} : binA tt.get .neq 80 xo yo (.func f x y) .nilFunc = some (.bool (!false)) := by simp [binA, eqA, t_t80, ti80]
@[go_sem] theorem t_t83 : tt.get 83 = some ti83 := by kernel_rfl
@[go_sem] theorem fa_t83_0 {b o : Nat} : sfieldAddr tt.get 83 (.pointer (some ⟨b, o, none⟩)) 0 = (.pointer (some ⟨b, o, none⟩), True) := by unfold sfieldAddr; rw [show fieldAddrA tt.get 83 (.pointer (some ⟨b, o, none⟩)) 0 = some (.pointer (some ⟨b, o, none⟩)) from by kernel_rfl]
@[go_sem] theorem fa_t83_1 {b o : Nat} : sfieldAddr tt.get 83 (.pointer (some ⟨b, o, none⟩)) 1 = (.pointer (some ⟨b, o + 1, none⟩), True) := by unfold sfieldAddr; rw [show fieldAddrA tt.get 83 (.pointer (some ⟨b, o, none⟩)) 1 = some (.pointer (some ⟨b, o + 1, none⟩)) from by kernel_rfl]
@[go_sem] theorem fa_t83_2 {b o : Nat} : sfieldAddr tt.get 83 (.pointer (some ⟨b, o, none⟩)) 2 = (.pointer (some ⟨b, o + 2, none⟩), True) := by unfold sfieldAddr; rw [show fieldAddrA tt.get 83 (.pointer (some ⟨b, o, none⟩)) 2 = some (.pointer (some ⟨b, o + 2, none⟩)) from by kernel_rfl]
@[go_sem] theorem t_t85 : tt.get 85 = some ti85 := by kernel_rfl
@[go_sem] theorem v_t85 {op : BinOp} {xo yo : Operand} {x y : Value} : sbin2 tt.get op 85 xo yo x y = sbinX (binA tt.get op 85 xo yo x y) := sbin2_ref (by kernel_rfl)
@[go_sem] theorem n_t85_eql {xo yo : Operand} : binA tt.get .eql 85 xo yo .nilFunc .nilFunc = some (.bool true) := by simp [binA, eqA, t_t85, ti85]
@[go_sem] theorem m_t85_eql {xo yo : Operand} {f : Fn} {x y : Array Value} : binA tt.get .eql 85 xo yo (.func f x y) .nilFunc = some (.bool (!true)) := by simp [binA, eqA, t_t85, ti85]
@[go_sem] theorem n_t85_neq {xo yo : Operand} : binA tt.get .neq 85 xo yo .nilFunc .nilFunc = some (.bool false) := by simp [binA, eqA, t_t85, ti85]
@[go_sem] theorem m_t85_neq {xo yo : Operand} {f : Fn} {x y : Array Value} : binA tt.get .neq 85 xo yo (.func f x y) .nilFunc = some (.bool (!false)) := by simp [binA, eqA, t_t85, ti85]
@[go_sem] theorem t_t90 : tt.get 90 = some ti90 := by kernel_rfl
@[go_sem] theorem v_t90 {op : BinOp} {xo yo : Operand} {x y : Value} : sbin2 tt.get op 90 xo yo x y = sbinX (binA tt.get op 90 xo yo x y) := sbin2_ref (by kernel_rfl)
@[go_sem] theorem n_t90_eql {xo yo : Operand} : binA tt.get .eql 90 xo yo .nilFunc .nilFunc = some (.bool true) := by simp [binA, eqA, t_t90, ti90]
@[go_sem] theorem m_t90_eql {xo yo : Operand} {f : Fn} {x y : Array Value} : binA tt.get .eql 90 xo yo (.func f x y) .nilFunc = some (.bool (!true)) := by simp [binA, eqA, t_t90, ti90]
@[go_sem] theorem n_t90_neq {xo yo : Operand} : binA tt.get .neq 90 xo yo .nilFunc .nilFunc = some (.bool false) := by simp [binA, eqA, t_t90, ti90]
@[go_sem] theorem m_t90_neq {xo yo : Operand} {f : Fn} {x y : Array Value} : binA tt.get .neq 90 xo yo (.func f x y) .nilFunc = some (.bool (!false)) := by simp [binA, eqA, t_t90, ti90]
@[go_sem] theorem t_Thing : tt.get 93 = some ti93 := by kernel_rfl
@[go_sem] theorem fa_Thing_0 {b o : Nat} : sfieldAddr tt.get 93 (.pointer (some ⟨b, o, none⟩)) 0 = (.pointer (some ⟨b, o, none⟩), True) := by unfold sfieldAddr; rw [show fieldAddrA tt.get 93 (.pointer (some ⟨b, o, none⟩)) 0 = some (.pointer (some ⟨b, o, none⟩)) from by kernel_rfl]
@[go_sem] theorem fa_Thing_1 {b o : Nat} : sfieldAddr tt.get 93 (.pointer (some ⟨b, o, none⟩)) 1 = (.pointer (some ⟨b, o + 1, none⟩), True) := by unfold sfieldAddr; rw [show fieldAddrA tt.get 93 (.pointer (some ⟨b, o, none⟩)) 1 = some (.pointer (some ⟨b, o + 1, none⟩)) from by kernel_rfl]
@[go_sem] theorem fa_Thing_2 {b o : Nat} : sfieldAddr tt.get 93 (.pointer (some ⟨b, o, none⟩)) 2 = (.pointer (some ⟨b, o + 2, none⟩), True) := by unfold sfieldAddr; rw [show fieldAddrA tt.get 93 (.pointer (some ⟨b, o, none⟩)) 2 = some (.pointer (some ⟨b, o + 2, none⟩)) from by kernel_rfl]
@[go_sem] theorem t_t96 : tt.get 96 = some ti96 := by kernel_rfl
@[go_sem] theorem fa_t96_0 {b o : Nat} : sfieldAddr tt.get 96 (.pointer (some ⟨b, o, none⟩)) 0 = (.pointer (some ⟨b, o, none⟩), True) := by unfold sfieldAddr; rw [show fieldAddrA tt.get 96 (.pointer (some ⟨b, o, none⟩)) 0 = some (.pointer (some ⟨b, o, none⟩)) from by kernel_rfl]
@[go_sem] theorem fa_t96_1 {b o : Nat} : sfieldAddr tt.get 96 (.pointer (some ⟨b, o, none⟩)) 1 = (.pointer (some ⟨b, o + 1, none⟩), True) := by unfold sfieldAddr; rw [show fieldAddrA tt.get 96 (.pointer (some ⟨b, o, none⟩)) 1 = some (.pointer (some ⟨b, o + 1, none⟩)) from by kernel_rfl]
@[go_sem] theorem fa_t96_2 {b o : Nat} : sfieldAddr tt.get 96 (.pointer (some ⟨b, o, none⟩)) 2 = (.pointer (some ⟨b, o + 2, none⟩), True) := by unfold sfieldAddr; rw [show fieldAddrA tt.get 96 (.pointer (some ⟨b, o, none⟩)) 2 = some (.pointer (some ⟨b, o + 2, none⟩)) from by kernel_rfl]
@[go_sem] theorem t_t99 : tt.get 99 = some ti99 := by kernel_rfl
@[go_sem] theorem v_t99 {op : BinOp} {xo yo : Operand} {x y : Value} : sbin2 tt.get op 99 xo yo x y = sbinX (binA tt.get op 99 xo yo x y) := sbin2_ref (by kernel_rfl)
@[go_sem] theorem n_t99_eql {xo yo : Operand} : binA tt.get .eql 99 xo yo .nilFunc .nilFunc = some (.bool true) := by simp [binA, eqA, t_t99, ti99]
@[go_sem] theorem m_t99_eql {xo yo : Operand} {f : Fn} {x y : Array Value} : binA tt.get .eql 99 xo yo (.func f x y) .nilFunc = some (.bool (!true)) := by simp [binA, eqA, t_t99, ti99]
@[go_sem] theorem n_t99_neq {xo yo : Operand} : binA tt.get .neq 99 xo yo .nilFunc .nilFunc = some (.bool false) := by simp [binA, eqA, t_t99, ti99]
@[go_sem] theorem m_t99_neq {xo yo : Operand} {f : Fn} {x y : Array Value} : binA tt.get .neq 99 xo yo (.func f x y) .nilFunc = some (.bool (!false)) := by simp [binA, eqA, t_t99, ti99]
@[go_sem] theorem t_t102 : tt.get 102 = some ti102 := by kernel_rfl
@[go_sem] theorem v_t102 {op : BinOp} {xo yo : Operand} {x y : Value} : sbin2 tt.get op 102 xo yo x y = sbinX (binA tt.get op 102 xo yo x y) := sbin2_ref (by kernel_rfl)
@[go_sem] theorem n_t102_eql {xo yo : Operand} : binA tt.get .eql 102 xo yo .nilFunc .nilFunc = some (.bool true) := by simp [binA, eqA, t_t102, ti102]
@[go_sem] theorem m_t102_eql {xo yo : Operand} {f : Fn} {x y : Array Value} : binA tt.get .eql 102 xo yo (.func f x y) .nilFunc = some (.bool (!true)) := by simp [binA, eqA, t_t102, ti102]
@[go_sem] theorem n_t102_neq {xo yo : Operand} : binA tt.get .neq 102 xo yo .nilFunc .nilFunc = some (.bool false) := by simp [binA, eqA, t_t102, ti102]
@[go_sem] theorem m_t102_neq {xo yo : Operand} {f : Fn} {x y : Array Value} : binA tt.get .neq 102 xo yo (.func f x y) .nilFunc = some (.bool (!false)) := by simp [binA, eqA, t_t102, ti102]
@[go_sem] theorem t_uint : tt.get 105 = some ti105 := by kernel_rfl
@[go_sem] theorem k_uint : kindOf tt.get 105 = some (.int .u64) := by kernel_rfl
@[go_sem] theorem v_uint {op : BinOp} {xo yo : Operand} {x y : Value} : sbin2 tt.get op 105 xo yo x y = sbinI op .u64 x y := sbin2_int k_uint
def e_int : Enc (Int) := ⟨fun a => [.int .i64 (a)], fun l => intOf ((l[0]?).getD undef), 1, fun _ => rfl, fun _ => rfl, fun _ => rfl⟩
instance : e_int.Plain := ⟨fun _ _ => rfl⟩
@[go_sem] theorem en_int (a : Int) : e_int.enc a = [.int .i64 (a)] := rfl
@[go_sem] theorem de_int (l : List Value) : e_int.dec l = intOf ((l[0]?).getD undef) := rfl
def e_bool : Enc (Bool) := ⟨fun a => [.bool (a)], fun l => boolOf ((l[0]?).getD undef), 1, fun _ => rfl, fun _ => rfl, fun _ => rfl⟩
instance : e_bool.Plain := ⟨fun _ _ => rfl⟩
@[go_sem] theorem en_bool (a : Bool) : e_bool.enc a = [.bool (a)] := rfl
@[go_sem] theorem de_bool (l : List Value) : e_bool.dec l = boolOf ((l[0]?).getD undef) := rfl
def e_string : Enc (List UInt8) := ⟨fun a => [.string ⟨⟨a⟩⟩], fun l => strOf ((l[0]?).getD undef), 1, fun _ => rfl, fun _ => rfl, fun _ => rfl⟩
instance : e_string.Plain := ⟨fun _ _ => rfl⟩
@[go_sem] theorem en_string (a : List UInt8) : e_string.enc a = [.string ⟨⟨a⟩⟩] := rfl
@[go_sem] theorem de_string (l : List Value) : e_string.dec l = strOf ((l[0]?).getD undef) := rfl
structure T_a2string where
  x0 : List UInt8
  x1 : List UInt8
instance : Inhabited T_a2string := ⟨⟨[], []⟩⟩
instance : DecidableEq T_a2string := fun a b => decidable_of_iff (a.x0 = b.x0 ∧ a.x1 = b.x1) (by cases a; cases b; simp)
def e_a2string : Enc (T_a2string) := ⟨fun a => [.string ⟨⟨a.x0⟩⟩, .string ⟨⟨a.x1⟩⟩], fun l => ⟨strOf ((l[0]?).getD undef), strOf ((l[1]?).getD undef)⟩, 2, fun _ => rfl, fun _ => rfl, fun _ => rfl⟩
instance : e_a2string.Plain := ⟨fun _ _ => rfl⟩
@[go_sem] theorem en_a2string (a : T_a2string) : e_a2string.enc a = [.string ⟨⟨a.x0⟩⟩, .string ⟨⟨a.x1⟩⟩] := rfl
@[go_sem] theorem mk_a2string (a : T_a2string) : T_a2string.mk a.x0 a.x1 = a := rfl
@[go_sem] theorem de_a2string (l : List Value) : e_a2string.dec l = ⟨strOf ((l[0]?).getD undef), strOf ((l[1]?).getD undef)⟩ := rfl
def e_uint64 : Enc (Int) := ⟨fun a => [.int .u64 (a)], fun l => intOf ((l[0]?).getD undef), 1, fun _ => rfl, fun _ => rfl, fun _ => rfl⟩
instance : e_uint64.Plain := ⟨fun _ _ => rfl⟩
@[go_sem] theorem en_uint64 (a : Int) : e_uint64.enc a = [.int .u64 (a)] := rfl
@[go_sem] theorem de_uint64 (l : List Value) : e_uint64.dec l = intOf ((l[0]?).getD undef) := rfl
structure T_Calendar where
  L : SRef
  Last : Int
instance : Inhabited T_Calendar := ⟨⟨.nil, 0⟩⟩
instance : DecidableEq T_Calendar := fun a b => decidable_of_iff (a.L = b.L ∧ a.Last = b.Last) (by cases a; cases b; simp)
def e_Calendar : Enc (T_Calendar) := ⟨fun a => [(a.L).v, .int .i64 (a.Last)], fun l => ⟨refOf ((l[0]?).getD undef), intOf ((l[1]?).getD undef)⟩, 2, fun a => by cases a; simp [refOf_v], fun _ => rfl, fun _ => by simp [oneCells, SRef.oc, oc_int, oc_bool, oc_str]⟩
instance : e_Calendar.Ra := ⟨fun ρ a => { a with L := a.L.ra ρ }, fun ρ a => by simp [e_Calendar, renL, ren, ren_ref]⟩
theorem ra_Calendar (ρ : Nat → Nat) (a : T_Calendar) : Enc.Ra.ra (E := e_Calendar) ρ a = { a with L := a.L.ra ρ } := rfl
@[go_sem] theorem en_Calendar (a : T_Calendar) : e_Calendar.enc a = [(a.L).v, .int .i64 (a.Last)] := rfl
@[go_sem] theorem mk_Calendar (a : T_Calendar) : T_Calendar.mk a.L a.Last = a := rfl
@[go_sem] theorem de_Calendar (l : List Value) : e_Calendar.dec l = ⟨refOf ((l[0]?).getD undef), intOf ((l[1]?).getD undef)⟩ := rfl
structure T_Do where
  Kind : Int
  At : Int
  Ticket : Int
  Text : List UInt8
instance : Inhabited T_Do := ⟨⟨0, 0, 0, []⟩⟩
instance : DecidableEq T_Do := fun a b => decidable_of_iff (a.Kind = b.Kind ∧ a.At = b.At ∧ a.Ticket = b.Ticket ∧ a.Text = b.Text) (by cases a; cases b; simp)
def e_Do : Enc (T_Do) := ⟨fun a => [.int .i64 (a.Kind), .int .u64 (a.At), .int .i64 (a.Ticket), .string ⟨⟨a.Text⟩⟩], fun l => ⟨intOf ((l[0]?).getD undef), intOf ((l[1]?).getD undef), intOf ((l[2]?).getD undef), strOf ((l[3]?).getD undef)⟩, 4, fun _ => rfl, fun _ => rfl, fun _ => rfl⟩
instance : e_Do.Plain := ⟨fun _ _ => rfl⟩
@[go_sem] theorem en_Do (a : T_Do) : e_Do.enc a = [.int .i64 (a.Kind), .int .u64 (a.At), .int .i64 (a.Ticket), .string ⟨⟨a.Text⟩⟩] := rfl
@[go_sem] theorem mk_Do (a : T_Do) : T_Do.mk a.Kind a.At a.Ticket a.Text = a := rfl
@[go_sem] theorem de_Do (l : List Value) : e_Do.dec l = ⟨intOf ((l[0]?).getD undef), intOf ((l[1]?).getD undef), intOf ((l[2]?).getD undef), strOf ((l[3]?).getD undef)⟩ := rfl
structure T_t66 where
  there : Bool
  last : Int
  l : SRef
instance : Inhabited T_t66 := ⟨⟨false, 0, .nil⟩⟩
instance : DecidableEq T_t66 := fun a b => decidable_of_iff (a.there = b.there ∧ a.last = b.last ∧ a.l = b.l) (by cases a; cases b; simp)
def e_t66 : Enc (T_t66) := ⟨fun a => [.bool (a.there), .int .i64 (a.last), (a.l).v], fun l => ⟨boolOf ((l[0]?).getD undef), intOf ((l[1]?).getD undef), refOf ((l[2]?).getD undef)⟩, 3, fun a => by cases a; simp [refOf_v], fun _ => rfl, fun _ => by simp [oneCells, SRef.oc, oc_int, oc_bool, oc_str]⟩
instance : e_t66.Ra := ⟨fun ρ a => { a with l := a.l.ra ρ }, fun ρ a => by simp [e_t66, renL, ren, ren_ref]⟩
theorem ra_t66 (ρ : Nat → Nat) (a : T_t66) : Enc.Ra.ra (E := e_t66) ρ a = { a with l := a.l.ra ρ } := rfl
@[go_sem] theorem en_t66 (a : T_t66) : e_t66.enc a = [.bool (a.there), .int .i64 (a.last), (a.l).v] := rfl
@[go_sem] theorem mk_t66 (a : T_t66) : T_t66.mk a.there a.last a.l = a := rfl
@[go_sem] theorem de_t66 (l : List Value) : e_t66.dec l = ⟨boolOf ((l[0]?).getD undef), intOf ((l[1]?).getD undef), refOf ((l[2]?).getD undef)⟩ := rfl
structure T_t69 where
  there : Bool
  last : Int
  l : SRef
instance : Inhabited T_t69 := ⟨⟨false, 0, .nil⟩⟩
instance : DecidableEq T_t69 := fun a b => decidable_of_iff (a.there = b.there ∧ a.last = b.last ∧ a.l = b.l) (by cases a; cases b; simp)
def e_t69 : Enc (T_t69) := ⟨fun a => [.bool (a.there), .int .i64 (a.last), (a.l).v], fun l => ⟨boolOf ((l[0]?).getD undef), intOf ((l[1]?).getD undef), refOf ((l[2]?).getD undef)⟩, 3, fun a => by cases a; simp [refOf_v], fun _ => rfl, fun _ => by simp [oneCells, SRef.oc, oc_int, oc_bool, oc_str]⟩
instance : e_t69.Ra := ⟨fun ρ a => { a with l := a.l.ra ρ }, fun ρ a => by simp [e_t69, renL, ren, ren_ref]⟩
theorem ra_t69 (ρ : Nat → Nat) (a : T_t69) : Enc.Ra.ra (E := e_t69) ρ a = { a with l := a.l.ra ρ } := rfl
@[go_sem] theorem en_t69 (a : T_t69) : e_t69.enc a = [.bool (a.there), .int .i64 (a.last), (a.l).v] := rfl
@[go_sem] theorem mk_t69 (a : T_t69) : T_t69.mk a.there a.last a.l = a := rfl
@[go_sem] theorem de_t69 (l : List Value) : e_t69.dec l = ⟨boolOf ((l[0]?).getD undef), intOf ((l[1]?).getD undef), refOf ((l[2]?).getD undef)⟩ := rfl
structure T_t72 where
  there : Bool
  last : Int
  l : SRef
instance : Inhabited T_t72 := ⟨⟨false, 0, .nil⟩⟩
instance : DecidableEq T_t72 := fun a b => decidable_of_iff (a.there = b.there ∧ a.last = b.last ∧ a.l = b.l) (by cases a; cases b; simp)
def e_t72 : Enc (T_t72) := ⟨fun a => [.bool (a.there), .int .i64 (a.last), (a.l).v], fun l => ⟨boolOf ((l[0]?).getD undef), intOf ((l[1]?).getD undef), refOf ((l[2]?).getD undef)⟩, 3, fun a => by cases a; simp [refOf_v], fun _ => rfl, fun _ => by simp [oneCells, SRef.oc, oc_int, oc_bool, oc_str]⟩
instance : e_t72.Ra := ⟨fun ρ a => { a with l := a.l.ra ρ }, fun ρ a => by simp [e_t72, renL, ren, ren_ref]⟩
theorem ra_t72 (ρ : Nat → Nat) (a : T_t72) : Enc.Ra.ra (E := e_t72) ρ a = { a with l := a.l.ra ρ } := rfl
@[go_sem] theorem en_t72 (a : T_t72) : e_t72.enc a = [.bool (a.there), .int .i64 (a.last), (a.l).v] := rfl
@[go_sem] theorem mk_t72 (a : T_t72) : T_t72.mk a.there a.last a.l = a := rfl
@[go_sem] theorem de_t72 (l : List Value) : e_t72.dec l = ⟨boolOf ((l[0]?).getD undef), intOf ((l[1]?).getD undef), refOf ((l[2]?).getD undef)⟩ := rfl
structure T_t74 where
  at_ : Int
  ticket : Int
  v : Int
instance : Inhabited T_t74 := ⟨⟨0, 0, 0⟩⟩
instance : DecidableEq T_t74 := fun a b => decidable_of_iff (a.at_ = b.at_ ∧ a.ticket = b.ticket ∧ a.v = b.v) (by cases a; cases b; simp)
def e_t74 : Enc (T_t74) := ⟨fun a => [.int .u64 (a.at_), .int .i64 (a.ticket), .int .i64 (a.v)], fun l => ⟨intOf ((l[0]?).getD undef), intOf ((l[1]?).getD undef), intOf ((l[2]?).getD undef)⟩, 3, fun _ => rfl, fun _ => rfl, fun _ => rfl⟩
instance : e_t74.Plain := ⟨fun _ _ => rfl⟩
@[go_sem] theorem en_t74 (a : T_t74) : e_t74.enc a = [.int .u64 (a.at_), .int .i64 (a.ticket), .int .i64 (a.v)] := rfl
@[go_sem] theorem mk_t74 (a : T_t74) : T_t74.mk a.at_ a.ticket a.v = a := rfl
@[go_sem] theorem de_t74 (l : List Value) : e_t74.dec l = ⟨intOf ((l[0]?).getD undef), intOf ((l[1]?).getD undef), intOf ((l[2]?).getD undef)⟩ := rfl
structure T_t83 where
  at_ : Int
  ticket : Int
  v_x0 : List UInt8
  v_x1 : List UInt8
instance : Inhabited T_t83 := ⟨⟨0, 0, [], []⟩⟩
instance : DecidableEq T_t83 := fun a b => decidable_of_iff (a.at_ = b.at_ ∧ a.ticket = b.ticket ∧ a.v_x0 = b.v_x0 ∧ a.v_x1 = b.v_x1) (by cases a; cases b; simp)
def e_t83 : Enc (T_t83) := ⟨fun a => [.int .u64 (a.at_), .int .i64 (a.ticket), .string ⟨⟨a.v_x0⟩⟩, .string ⟨⟨a.v_x1⟩⟩], fun l => ⟨intOf ((l[0]?).getD undef), intOf ((l[1]?).getD undef), strOf ((l[2]?).getD undef), strOf ((l[3]?).getD undef)⟩, 4, fun _ => rfl, fun _ => rfl, fun _ => rfl⟩
instance : e_t83.Plain := ⟨fun _ _ => rfl⟩
@[go_sem] theorem en_t83 (a : T_t83) : e_t83.enc a = [.int .u64 (a.at_), .int .i64 (a.ticket), .string ⟨⟨a.v_x0⟩⟩, .string ⟨⟨a.v_x1⟩⟩] := rfl
@[go_sem] theorem mk_t83 (a : T_t83) : T_t83.mk a.at_ a.ticket a.v_x0 a.v_x1 = a := rfl
@[go_sem] theorem de_t83 (l : List Value) : e_t83.dec l = ⟨intOf ((l[0]?).getD undef), intOf ((l[1]?).getD undef), strOf ((l[2]?).getD undef), strOf ((l[3]?).getD undef)⟩ := rfl
structure T_Thing where
  At : Int
  Ticket : Int
  Text : List UInt8
instance : Inhabited T_Thing := ⟨⟨0, 0, []⟩⟩
instance : DecidableEq T_Thing := fun a b => decidable_of_iff (a.At = b.At ∧ a.Ticket = b.Ticket ∧ a.Text = b.Text) (by cases a; cases b; simp)
def e_Thing : Enc (T_Thing) := ⟨fun a => [.int .u64 (a.At), .int .i64 (a.Ticket), .string ⟨⟨a.Text⟩⟩], fun l => ⟨intOf ((l[0]?).getD undef), intOf ((l[1]?).getD undef), strOf ((l[2]?).getD undef)⟩, 3, fun _ => rfl, fun _ => rfl, fun _ => rfl⟩
instance : e_Thing.Plain := ⟨fun _ _ => rfl⟩
@[go_sem] theorem en_Thing (a : T_Thing) : e_Thing.enc a = [.int .u64 (a.At), .int .i64 (a.Ticket), .string ⟨⟨a.Text⟩⟩] := rfl
@[go_sem] theorem mk_Thing (a : T_Thing) : T_Thing.mk a.At a.Ticket a.Text = a := rfl
@[go_sem] theorem de_Thing (l : List Value) : e_Thing.dec l = ⟨intOf ((l[0]?).getD undef), intOf ((l[1]?).getD undef), strOf ((l[2]?).getD undef)⟩ := rfl
structure T_t96 where
  at_ : Int
  ticket : Int
  v : List UInt8
instance : Inhabited T_t96 := ⟨⟨0, 0, []⟩⟩
instance : DecidableEq T_t96 := fun a b => decidable_of_iff (a.at_ = b.at_ ∧ a.ticket = b.ticket ∧ a.v = b.v) (by cases a; cases b; simp)
def e_t96 : Enc (T_t96) := ⟨fun a => [.int .u64 (a.at_), .int .i64 (a.ticket), .string ⟨⟨a.v⟩⟩], fun l => ⟨intOf ((l[0]?).getD undef), intOf ((l[1]?).getD undef), strOf ((l[2]?).getD undef)⟩, 3, fun _ => rfl, fun _ => rfl, fun _ => rfl⟩
instance : e_t96.Plain := ⟨fun _ _ => rfl⟩
@[go_sem] theorem en_t96 (a : T_t96) : e_t96.enc a = [.int .u64 (a.at_), .int .i64 (a.ticket), .string ⟨⟨a.v⟩⟩] := rfl
@[go_sem] theorem mk_t96 (a : T_t96) : T_t96.mk a.at_ a.ticket a.v = a := rfl
@[go_sem] theorem de_t96 (l : List Value) : e_t96.dec l = ⟨intOf ((l[0]?).getD undef), intOf ((l[1]?).getD undef), strOf ((l[2]?).getD undef)⟩ := rfl
def e_uint : Enc (Int) := ⟨fun a => [.int .u64 (a)], fun l => intOf ((l[0]?).getD undef), 1, fun _ => rfl, fun _ => rfl, fun _ => rfl⟩
instance : e_uint.Plain := ⟨fun _ _ => rfl⟩
@[go_sem] theorem en_uint (a : Int) : e_uint.enc a = [.int .u64 (a)] := rfl
@[go_sem] theorem de_uint (l : List Value) : e_uint.dec l = intOf ((l[0]?).getD undef) := rfl
section
theorem len_suint64 {hp : Hp} {v : Value} {l : List (Int)} (h : SlT e_uint64 hp v l) {hp' : Hp} : slen tt.get hp' 22 v = (.int .i64 (l.length : Int), True) := h.len_any k_suint64
theorem idx_suint64 {hp : Hp} {v : Value} {l : List (Int)} (h : SlT e_uint64 hp v l) {k : IntKind} {n : Int} (h0 : 0 ≤ n) (h1 : n < l.length) : sindexAddr tt.get 22 v (.int k n) = (ptrS v (n.toNat * 1), True) := h.idx k_suint64 t_uint64 rfl h0 h1
theorem ld_suint64 {hp : Hp} {v : Value} {l : List (Int)} (h : SlT e_uint64 hp v l) {i : Nat} (hi : i < l.length) : sload tt.get hp 29 (ptrS v (i * 1)) = (.int .u64 (at' l i), True) := h.cell (f := 0) t_uint64 rfl hi (by decide)
theorem sh_suint64 {hp : Hp} {v : Value} {l : List (Int)} (h : SlT e_uint64 hp v l) {k : IntKind} {n : Int} (h0 : 0 ≤ n) (h1 : n ≤ l.length) : sslice tt.get hp 22 v none (some (.int k n)) = (subS 1 v 0 n.toNat, True) := h.slHi k_suint64 t_uint64 h0 h1
theorem sw_suint64 {hp : Hp} {v : Value} {l : List (Int)} (h : SlT e_uint64 hp v l) {k : IntKind} {n : Int} (h0 : 0 ≤ n) (h1 : n ≤ l.length) : sslice tt.get hp 22 v (some (.int k n)) none = (subL 1 v n.toNat, True) := h.slLo k_suint64 t_uint64 rfl h0 h1
@[go_sem] theorem ap_suint64 {hp : Hp} {x : Value} {b top : Nat} {l : List (Int)} (h : hp b = mkOb e_uint64 l) (hx : SlP e_uint64 hp x) (hn : l.length + (e_uint64.rd hp x).length ≤ 16777216) : appendA tt.get hp top [22, 22] (mkSl b l) x = some (mkSl top (l ++ e_uint64.rd hp x), appU b l top (mkOb e_uint64 (l ++ e_uint64.rd hp x)), top + 1) := appendA_ownP k_suint64 t_suint64 rfl t_uint64 rfl rfl h hx hn
@[go_sem] theorem apn_suint64 {hp : Hp} {x : Value} {top : Nat} (hx : SlP e_uint64 hp x) (hn : (e_uint64.rd hp x).length ≤ 16777216) : appendA tt.get hp top [22, 22] (.slice none 0 0) x = some (mkSl top (e_uint64.rd hp x), [(top, mkOb e_uint64 (e_uint64.rd hp x))], top + 1) := appendA_nilP k_suint64 t_suint64 rfl t_uint64 rfl rfl hx hn
@[go_sem] theorem ap1r_suint64 {hp : Hp} {b top k : Nat} {l : List (Int)} (h : hp b = mkOb e_uint64 l) (hk : hp k = some (.cells true 1 (cellsOf (hp k)))) (hc : e_uint64.enc (e_uint64.dec (cellsOf (hp k))) = cellsOf (hp k)) (hn : roomB (l.length + 1) ti29.bytes = true) : appendA tt.get hp top [22, 22] (mkSl b l) (.slice (some ⟨k, 0, none⟩) 1 1) = some (mkSl top (l ++ [e_uint64.dec (cellsOf (hp k))]), appU b l top (mkOb e_uint64 (l ++ [e_uint64.dec (cellsOf (hp k))])), top + 1) := appendA_oneCR k_suint64 t_suint64 rfl t_uint64 rfl rfl h hk hc hn
@[go_sem] theorem apr_suint64 {hp : Hp} {x : Value} {top : Nat} (hx : SlP e_uint64 hp x) (hn : roomB (e_uint64.rd hp x).length ti29.bytes = true) : appendA tt.get hp top [22, 22] (.slice none 0 0) x = some (mkSl top (e_uint64.rd hp x), [(top, mkOb e_uint64 (e_uint64.rd hp x))], top + 1) := appendA_nilPb k_suint64 t_suint64 rfl t_uint64 rfl rfl hx hn
@[go_sem] theorem ap0_suint64 {hp : Hp} {top k : Nat} (hk : hp k = some (.cells true 1 (cellsOf (hp k)))) (hc : e_uint64.enc (e_uint64.dec (cellsOf (hp k))) = cellsOf (hp k)) : appendA tt.get hp top [22, 22] (.slice none 0 0) (.slice (some ⟨k, 0, none⟩) 1 1) = some (mkSl top [e_uint64.dec (cellsOf (hp k))], [(top, mkOb e_uint64 [e_uint64.dec (cellsOf (hp k))])], top + 1) := appendA_zeroC k_suint64 t_suint64 rfl t_uint64 rfl rfl hk hc
@[go_sem] theorem sa_suint64 {hp : Hp} {b top : Nat} {l l2 : List (Int)} (h : hp b = mkOb e_uint64 l) : hp.sets (appU b l top (mkOb e_uint64 l2)) = (hp.set b none).set top (mkOb e_uint64 l2) := sets_appU h
@[go_sem] theorem os_suint64 {hp : Hp} {b : Nat} {l : List (Int)} {i : Nat} (h : hp b = mkOb e_uint64 l) (hi : i < l.length) {x : Int} : sstore tt.get hp 29 (ptrS (mkSl b l) (i * 1)) (.int .u64 (x)) = ([(b, mkOb e_uint64 (l.set i x))], True) := own_storeF (f := 0) t_uint64 h hi rfl (by decide) rfl rfl
@[go_sem] theorem ow_suint64 {b : Nat} {l : List (Int)} {hp2 : Hp} : slen tt.get hp2 22 (mkSl b l) = (.int .i64 (l.length : Int), True) := by cases l with | nil => unfold slen mkSl; simp only [k_suint64, lenA, t_suint64, ti22]; rfl | cons a l => unfold slen mkSl; simp only [k_suint64, lenA, t_suint64, ti22]; rfl
@[go_sem] theorem ap1_suint64 {hp : Hp} {b top k : Nat} {l : List (Int)} (h : hp b = mkOb e_uint64 l) (hk : hp k = some (.cells true 1 (cellsOf (hp k)))) (hc : e_uint64.enc (e_uint64.dec (cellsOf (hp k))) = cellsOf (hp k)) (hn : l.length < 16777216) : appendA tt.get hp top [22, 22] (mkSl b l) (.slice (some ⟨k, 0, none⟩) 1 1) = some (mkSl top (l ++ [e_uint64.dec (cellsOf (hp k))]), appU b l top (mkOb e_uint64 (l ++ [e_uint64.dec (cellsOf (hp k))])), top + 1) := appendA_oneC k_suint64 t_suint64 rfl t_uint64 rfl rfl h hk hc hn
end
section
theorem len_sint {hp : Hp} {v : Value} {l : List (Int)} (h : SlT e_int hp v l) {hp' : Hp} : slen tt.get hp' 34 v = (.int .i64 (l.length : Int), True) := h.len_any k_sint
theorem idx_sint {hp : Hp} {v : Value} {l : List (Int)} (h : SlT e_int hp v l) {k : IntKind} {n : Int} (h0 : 0 ≤ n) (h1 : n < l.length) : sindexAddr tt.get 34 v (.int k n) = (ptrS v (n.toNat * 1), True) := h.idx k_sint t_int rfl h0 h1
theorem ld_sint {hp : Hp} {v : Value} {l : List (Int)} (h : SlT e_int hp v l) {i : Nat} (hi : i < l.length) : sload tt.get hp 3 (ptrS v (i * 1)) = (.int .i64 (at' l i), True) := h.cell (f := 0) t_int rfl hi (by decide)
theorem sh_sint {hp : Hp} {v : Value} {l : List (Int)} (h : SlT e_int hp v l) {k : IntKind} {n : Int} (h0 : 0 ≤ n) (h1 : n ≤ l.length) : sslice tt.get hp 34 v none (some (.int k n)) = (subS 1 v 0 n.toNat, True) := h.slHi k_sint t_int h0 h1
theorem sw_sint {hp : Hp} {v : Value} {l : List (Int)} (h : SlT e_int hp v l) {k : IntKind} {n : Int} (h0 : 0 ≤ n) (h1 : n ≤ l.length) : sslice tt.get hp 34 v (some (.int k n)) none = (subL 1 v n.toNat, True) := h.slLo k_sint t_int rfl h0 h1
@[go_sem] theorem ap_sint {hp : Hp} {x : Value} {b top : Nat} {l : List (Int)} (h : hp b = mkOb e_int l) (hx : SlP e_int hp x) (hn : l.length + (e_int.rd hp x).length ≤ 16777216) : appendA tt.get hp top [34, 34] (mkSl b l) x = some (mkSl top (l ++ e_int.rd hp x), appU b l top (mkOb e_int (l ++ e_int.rd hp x)), top + 1) := appendA_ownP k_sint t_sint rfl t_int rfl rfl h hx hn
@[go_sem] theorem apn_sint {hp : Hp} {x : Value} {top : Nat} (hx : SlP e_int hp x) (hn : (e_int.rd hp x).length ≤ 16777216) : appendA tt.get hp top [34, 34] (.slice none 0 0) x = some (mkSl top (e_int.rd hp x), [(top, mkOb e_int (e_int.rd hp x))], top + 1) := appendA_nilP k_sint t_sint rfl t_int rfl rfl hx hn
@[go_sem] theorem ap1r_sint {hp : Hp} {b top k : Nat} {l : List (Int)} (h : hp b = mkOb e_int l) (hk : hp k = some (.cells true 1 (cellsOf (hp k)))) (hc : e_int.enc (e_int.dec (cellsOf (hp k))) = cellsOf (hp k)) (hn : roomB (l.length + 1) ti3.bytes = true) : appendA tt.get hp top [34, 34] (mkSl b l) (.slice (some ⟨k, 0, none⟩) 1 1) = some (mkSl top (l ++ [e_int.dec (cellsOf (hp k))]), appU b l top (mkOb e_int (l ++ [e_int.dec (cellsOf (hp k))])), top + 1) := appendA_oneCR k_sint t_sint rfl t_int rfl rfl h hk hc hn
@[go_sem] theorem apr_sint {hp : Hp} {x : Value} {top : Nat} (hx : SlP e_int hp x) (hn : roomB (e_int.rd hp x).length ti3.bytes = true) : appendA tt.get hp top [34, 34] (.slice none 0 0) x = some (mkSl top (e_int.rd hp x), [(top, mkOb e_int (e_int.rd hp x))], top + 1) := appendA_nilPb k_sint t_sint rfl t_int rfl rfl hx hn
@[go_sem] theorem ap0_sint {hp : Hp} {top k : Nat} (hk : hp k = some (.cells true 1 (cellsOf (hp k)))) (hc : e_int.enc (e_int.dec (cellsOf (hp k))) = cellsOf (hp k)) : appendA tt.get hp top [34, 34] (.slice none 0 0) (.slice (some ⟨k, 0, none⟩) 1 1) = some (mkSl top [e_int.dec (cellsOf (hp k))], [(top, mkOb e_int [e_int.dec (cellsOf (hp k))])], top + 1) := appendA_zeroC k_sint t_sint rfl t_int rfl rfl hk hc
@[go_sem] theorem sa_sint {hp : Hp} {b top : Nat} {l l2 : List (Int)} (h : hp b = mkOb e_int l) : hp.sets (appU b l top (mkOb e_int l2)) = (hp.set b none).set top (mkOb e_int l2) := sets_appU h
@[go_sem] theorem os_sint {hp : Hp} {b : Nat} {l : List (Int)} {i : Nat} (h : hp b = mkOb e_int l) (hi : i < l.length) {x : Int} : sstore tt.get hp 3 (ptrS (mkSl b l) (i * 1)) (.int .i64 (x)) = ([(b, mkOb e_int (l.set i x))], True) := own_storeF (f := 0) t_int h hi rfl (by decide) rfl rfl
@[go_sem] theorem ow_sint {b : Nat} {l : List (Int)} {hp2 : Hp} : slen tt.get hp2 34 (mkSl b l) = (.int .i64 (l.length : Int), True) := by cases l with | nil => unfold slen mkSl; simp only [k_sint, lenA, t_sint, ti34]; rfl | cons a l => unfold slen mkSl; simp only [k_sint, lenA, t_sint, ti34]; rfl
@[go_sem] theorem ap1_sint {hp : Hp} {b top k : Nat} {l : List (Int)} (h : hp b = mkOb e_int l) (hk : hp k = some (.cells true 1 (cellsOf (hp k)))) (hc : e_int.enc (e_int.dec (cellsOf (hp k))) = cellsOf (hp k)) (hn : l.length < 16777216) : appendA tt.get hp top [34, 34] (mkSl b l) (.slice (some ⟨k, 0, none⟩) 1 1) = some (mkSl top (l ++ [e_int.dec (cellsOf (hp k))]), appU b l top (mkOb e_int (l ++ [e_int.dec (cellsOf (hp k))])), top + 1) := appendA_oneC k_sint t_sint rfl t_int rfl rfl h hk hc hn
end
section
theorem len_sa2string {hp : Hp} {v : Value} {l : List (T_a2string)} (h : SlT e_a2string hp v l) {hp' : Hp} : slen tt.get hp' 36 v = (.int .i64 (l.length : Int), True) := h.len_any k_sa2string
theorem idx_sa2string {hp : Hp} {v : Value} {l : List (T_a2string)} (h : SlT e_a2string hp v l) {k : IntKind} {n : Int} (h0 : 0 ≤ n) (h1 : n < l.length) : sindexAddr tt.get 36 v (.int k n) = (ptrS v (n.toNat * 2), True) := h.idx k_sa2string t_a2string rfl h0 h1
theorem ld_sa2string {hp : Hp} {v : Value} {l : List (T_a2string)} (h : SlT e_a2string hp v l) {i : Nat} (hi : i < l.length) : sload tt.get hp 27 (ptrS v (i * 2)) = (.agg ⟨e_a2string.enc (at' l i)⟩, True) := h.load t_a2string rfl rfl hi
theorem sf_sa2string_0 {hp : Hp} {v : Value} {l : List (T_a2string)} (h : SlT e_a2string hp v l) {i : Nat} (hi : i < l.length) : sindexAddr tt.get 27 (ptrS v (i * 2)) (.int .i64 0) = (ptrS v (i * 2), True) := h.aidx hi k_a2string t_string (by decide) (by decide)
theorem sc_sa2string_0 {hp : Hp} {v : Value} {l : List (T_a2string)} (h : SlT e_a2string hp v l) {i : Nat} (hi : i < l.length) : sload tt.get hp 9 (ptrS v (i * 2)) = (.string ⟨⟨(at' l i).x0⟩⟩, True) := h.cell (f := 0) t_string rfl hi (by decide)
theorem sf_sa2string_1 {hp : Hp} {v : Value} {l : List (T_a2string)} (h : SlT e_a2string hp v l) {i : Nat} (hi : i < l.length) : sindexAddr tt.get 27 (ptrS v (i * 2)) (.int .i64 1) = (ptrS v (i * 2 + 1), True) := h.aidx hi k_a2string t_string (by decide) (by decide)
theorem sc_sa2string_1 {hp : Hp} {v : Value} {l : List (T_a2string)} (h : SlT e_a2string hp v l) {i : Nat} (hi : i < l.length) : sload tt.get hp 9 (ptrS v (i * 2 + 1)) = (.string ⟨⟨(at' l i).x1⟩⟩, True) := h.cell (f := 1) t_string rfl hi (by decide)
theorem sh_sa2string {hp : Hp} {v : Value} {l : List (T_a2string)} (h : SlT e_a2string hp v l) {k : IntKind} {n : Int} (h0 : 0 ≤ n) (h1 : n ≤ l.length) : sslice tt.get hp 36 v none (some (.int k n)) = (subS 2 v 0 n.toNat, True) := h.slHi k_sa2string t_a2string h0 h1
theorem sw_sa2string {hp : Hp} {v : Value} {l : List (T_a2string)} (h : SlT e_a2string hp v l) {k : IntKind} {n : Int} (h0 : 0 ≤ n) (h1 : n ≤ l.length) : sslice tt.get hp 36 v (some (.int k n)) none = (subL 2 v n.toNat, True) := h.slLo k_sa2string t_a2string rfl h0 h1
@[go_sem] theorem ap_sa2string {hp : Hp} {x : Value} {b top : Nat} {l : List (T_a2string)} (h : hp b = mkOb e_a2string l) (hx : SlP e_a2string hp x) (hn : l.length + (e_a2string.rd hp x).length ≤ 16777216) : appendA tt.get hp top [36, 36] (mkSl b l) x = some (mkSl top (l ++ e_a2string.rd hp x), appU b l top (mkOb e_a2string (l ++ e_a2string.rd hp x)), top + 1) := appendA_ownP k_sa2string t_sa2string rfl t_a2string rfl rfl h hx hn
@[go_sem] theorem apn_sa2string {hp : Hp} {x : Value} {top : Nat} (hx : SlP e_a2string hp x) (hn : (e_a2string.rd hp x).length ≤ 16777216) : appendA tt.get hp top [36, 36] (.slice none 0 0) x = some (mkSl top (e_a2string.rd hp x), [(top, mkOb e_a2string (e_a2string.rd hp x))], top + 1) := appendA_nilP k_sa2string t_sa2string rfl t_a2string rfl rfl hx hn
@[go_sem] theorem ap1r_sa2string {hp : Hp} {b top k : Nat} {l : List (T_a2string)} (h : hp b = mkOb e_a2string l) (hk : hp k = some (.cells true 2 (cellsOf (hp k)))) (hc : e_a2string.enc (e_a2string.dec (cellsOf (hp k))) = cellsOf (hp k)) (hn : roomB (l.length + 1) ti27.bytes = true) : appendA tt.get hp top [36, 36] (mkSl b l) (.slice (some ⟨k, 0, none⟩) 1 1) = some (mkSl top (l ++ [e_a2string.dec (cellsOf (hp k))]), appU b l top (mkOb e_a2string (l ++ [e_a2string.dec (cellsOf (hp k))])), top + 1) := appendA_oneCR k_sa2string t_sa2string rfl t_a2string rfl rfl h hk hc hn
@[go_sem] theorem apr_sa2string {hp : Hp} {x : Value} {top : Nat} (hx : SlP e_a2string hp x) (hn : roomB (e_a2string.rd hp x).length ti27.bytes = true) : appendA tt.get hp top [36, 36] (.slice none 0 0) x = some (mkSl top (e_a2string.rd hp x), [(top, mkOb e_a2string (e_a2string.rd hp x))], top + 1) := appendA_nilPb k_sa2string t_sa2string rfl t_a2string rfl rfl hx hn
@[go_sem] theorem ap0_sa2string {hp : Hp} {top k : Nat} (hk : hp k = some (.cells true 2 (cellsOf (hp k)))) (hc : e_a2string.enc (e_a2string.dec (cellsOf (hp k))) = cellsOf (hp k)) : appendA tt.get hp top [36, 36] (.slice none 0 0) (.slice (some ⟨k, 0, none⟩) 1 1) = some (mkSl top [e_a2string.dec (cellsOf (hp k))], [(top, mkOb e_a2string [e_a2string.dec (cellsOf (hp k))])], top + 1) := appendA_zeroC k_sa2string t_sa2string rfl t_a2string rfl rfl hk hc
@[go_sem] theorem sa_sa2string {hp : Hp} {b top : Nat} {l l2 : List (T_a2string)} (h : hp b = mkOb e_a2string l) : hp.sets (appU b l top (mkOb e_a2string l2)) = (hp.set b none).set top (mkOb e_a2string l2) := sets_appU h
@[go_sem] theorem os_sa2string {hp : Hp} {b : Nat} {l : List (T_a2string)} {i : Nat} (h : hp b = mkOb e_a2string l) (hi : i < l.length) {a0 : List UInt8} {a1 : List UInt8} : sstore tt.get hp 27 (ptrS (mkSl b l) (i * 2)) (.agg ⟨[.string ⟨⟨a0⟩⟩, .string ⟨⟨a1⟩⟩]⟩) = ([(b, mkOb e_a2string (l.set i ⟨a0, a1⟩))], True) := own_storeA (E := e_a2string) (cs := e_a2string.enc ⟨a0, a1⟩) t_a2string rfl h hi rfl rfl
@[go_sem] theorem ow_sa2string {b : Nat} {l : List (T_a2string)} {hp2 : Hp} : slen tt.get hp2 36 (mkSl b l) = (.int .i64 (l.length : Int), True) := by cases l with | nil => unfold slen mkSl; simp only [k_sa2string, lenA, t_sa2string, ti36]; rfl | cons a l => unfold slen mkSl; simp only [k_sa2string, lenA, t_sa2string, ti36]; rfl
@[go_sem] theorem ap1_sa2string {hp : Hp} {b top k : Nat} {l : List (T_a2string)} (h : hp b = mkOb e_a2string l) (hk : hp k = some (.cells true 2 (cellsOf (hp k)))) (hc : e_a2string.enc (e_a2string.dec (cellsOf (hp k))) = cellsOf (hp k)) (hn : l.length < 16777216) : appendA tt.get hp top [36, 36] (mkSl b l) (.slice (some ⟨k, 0, none⟩) 1 1) = some (mkSl top (l ++ [e_a2string.dec (cellsOf (hp k))]), appU b l top (mkOb e_a2string (l ++ [e_a2string.dec (cellsOf (hp k))])), top + 1) := appendA_oneC k_sa2string t_sa2string rfl t_a2string rfl rfl h hk hc hn
end
section
theorem len_sbool {hp : Hp} {v : Value} {l : List (Bool)} (h : SlT e_bool hp v l) {hp' : Hp} : slen tt.get hp' 41 v = (.int .i64 (l.length : Int), True) := h.len_any k_sbool
theorem idx_sbool {hp : Hp} {v : Value} {l : List (Bool)} (h : SlT e_bool hp v l) {k : IntKind} {n : Int} (h0 : 0 ≤ n) (h1 : n < l.length) : sindexAddr tt.get 41 v (.int k n) = (ptrS v (n.toNat * 1), True) := h.idx k_sbool t_bool rfl h0 h1
theorem ld_sbool {hp : Hp} {v : Value} {l : List (Bool)} (h : SlT e_bool hp v l) {i : Nat} (hi : i < l.length) : sload tt.get hp 4 (ptrS v (i * 1)) = (.bool (at' l i), True) := h.cell (f := 0) t_bool rfl hi (by decide)
theorem sh_sbool {hp : Hp} {v : Value} {l : List (Bool)} (h : SlT e_bool hp v l) {k : IntKind} {n : Int} (h0 : 0 ≤ n) (h1 : n ≤ l.length) : sslice tt.get hp 41 v none (some (.int k n)) = (subS 1 v 0 n.toNat, True) := h.slHi k_sbool t_bool h0 h1
theorem sw_sbool {hp : Hp} {v : Value} {l : List (Bool)} (h : SlT e_bool hp v l) {k : IntKind} {n : Int} (h0 : 0 ≤ n) (h1 : n ≤ l.length) : sslice tt.get hp 41 v (some (.int k n)) none = (subL 1 v n.toNat, True) := h.slLo k_sbool t_bool rfl h0 h1
@[go_sem] theorem ap_sbool {hp : Hp} {x : Value} {b top : Nat} {l : List (Bool)} (h : hp b = mkOb e_bool l) (hx : SlP e_bool hp x) (hn : l.length + (e_bool.rd hp x).length ≤ 16777216) : appendA tt.get hp top [41, 41] (mkSl b l) x = some (mkSl top (l ++ e_bool.rd hp x), appU b l top (mkOb e_bool (l ++ e_bool.rd hp x)), top + 1) := appendA_ownP k_sbool t_sbool rfl t_bool rfl rfl h hx hn
@[go_sem] theorem apn_sbool {hp : Hp} {x : Value} {top : Nat} (hx : SlP e_bool hp x) (hn : (e_bool.rd hp x).length ≤ 16777216) : appendA tt.get hp top [41, 41] (.slice none 0 0) x = some (mkSl top (e_bool.rd hp x), [(top, mkOb e_bool (e_bool.rd hp x))], top + 1) := appendA_nilP k_sbool t_sbool rfl t_bool rfl rfl hx hn
@[go_sem] theorem ap1r_sbool {hp : Hp} {b top k : Nat} {l : List (Bool)} (h : hp b = mkOb e_bool l) (hk : hp k = some (.cells true 1 (cellsOf (hp k)))) (hc : e_bool.enc (e_bool.dec (cellsOf (hp k))) = cellsOf (hp k)) (hn : roomB (l.length + 1) ti4.bytes = true) : appendA tt.get hp top [41, 41] (mkSl b l) (.slice (some ⟨k, 0, none⟩) 1 1) = some (mkSl top (l ++ [e_bool.dec (cellsOf (hp k))]), appU b l top (mkOb e_bool (l ++ [e_bool.dec (cellsOf (hp k))])), top + 1) := appendA_oneCR k_sbool t_sbool rfl t_bool rfl rfl h hk hc hn
@[go_sem] theorem apr_sbool {hp : Hp} {x : Value} {top : Nat} (hx : SlP e_bool hp x) (hn : roomB (e_bool.rd hp x).length ti4.bytes = true) : appendA tt.get hp top [41, 41] (.slice none 0 0) x = some (mkSl top (e_bool.rd hp x), [(top, mkOb e_bool (e_bool.rd hp x))], top + 1) := appendA_nilPb k_sbool t_sbool rfl t_bool rfl rfl hx hn
@[go_sem] theorem ap0_sbool {hp : Hp} {top k : Nat} (hk : hp k = some (.cells true 1 (cellsOf (hp k)))) (hc : e_bool.enc (e_bool.dec (cellsOf (hp k))) = cellsOf (hp k)) : appendA tt.get hp top [41, 41] (.slice none 0 0) (.slice (some ⟨k, 0, none⟩) 1 1) = some (mkSl top [e_bool.dec (cellsOf (hp k))], [(top, mkOb e_bool [e_bool.dec (cellsOf (hp k))])], top + 1) := appendA_zeroC k_sbool t_sbool rfl t_bool rfl rfl hk hc
@[go_sem] theorem sa_sbool {hp : Hp} {b top : Nat} {l l2 : List (Bool)} (h : hp b = mkOb e_bool l) : hp.sets (appU b l top (mkOb e_bool l2)) = (hp.set b none).set top (mkOb e_bool l2) := sets_appU h
@[go_sem] theorem os_sbool {hp : Hp} {b : Nat} {l : List (Bool)} {i : Nat} (h : hp b = mkOb e_bool l) (hi : i < l.length) {x : Bool} : sstore tt.get hp 4 (ptrS (mkSl b l) (i * 1)) (.bool (x)) = ([(b, mkOb e_bool (l.set i x))], True) := own_storeF (f := 0) t_bool h hi rfl (by decide) rfl rfl
@[go_sem] theorem ow_sbool {b : Nat} {l : List (Bool)} {hp2 : Hp} : slen tt.get hp2 41 (mkSl b l) = (.int .i64 (l.length : Int), True) := by cases l with | nil => unfold slen mkSl; simp only [k_sbool, lenA, t_sbool, ti41]; rfl | cons a l => unfold slen mkSl; simp only [k_sbool, lenA, t_sbool, ti41]; rfl
@[go_sem] theorem ap1_sbool {hp : Hp} {b top k : Nat} {l : List (Bool)} (h : hp b = mkOb e_bool l) (hk : hp k = some (.cells true 1 (cellsOf (hp k)))) (hc : e_bool.enc (e_bool.dec (cellsOf (hp k))) = cellsOf (hp k)) (hn : l.length < 16777216) : appendA tt.get hp top [41, 41] (mkSl b l) (.slice (some ⟨k, 0, none⟩) 1 1) = some (mkSl top (l ++ [e_bool.dec (cellsOf (hp k))]), appU b l top (mkOb e_bool (l ++ [e_bool.dec (cellsOf (hp k))])), top + 1) := appendA_oneC k_sbool t_sbool rfl t_bool rfl rfl h hk hc hn
end
section
theorem len_sDo {hp : Hp} {v : Value} {l : List (T_Do)} (h : SlT e_Do hp v l) {hp' : Hp} : slen tt.get hp' 45 v = (.int .i64 (l.length : Int), True) := h.len_any k_sDo
theorem idx_sDo {hp : Hp} {v : Value} {l : List (T_Do)} (h : SlT e_Do hp v l) {k : IntKind} {n : Int} (h0 : 0 ≤ n) (h1 : n < l.length) : sindexAddr tt.get 45 v (.int k n) = (ptrS v (n.toNat * 4), True) := h.idx k_sDo t_Do rfl h0 h1
theorem ld_sDo {hp : Hp} {v : Value} {l : List (T_Do)} (h : SlT e_Do hp v l) {i : Nat} (hi : i < l.length) : sload tt.get hp 55 (ptrS v (i * 4)) = (.agg ⟨e_Do.enc (at' l i)⟩, True) := h.load t_Do rfl rfl hi
theorem sf_sDo_0 {hp : Hp} {v : Value} {l : List (T_Do)} (h : SlT e_Do hp v l) {i : Nat} (hi : i < l.length) : sfieldAddr tt.get 55 (ptrS v (i * 4)) 0 = (ptrS v (i * 4), True) := h.field hi (d := 0) (fun b o => (by kernel_rfl : fieldAddrA tt.get 55 (.pointer (some ⟨b, o, none⟩)) 0 = some (.pointer (some ⟨b, o + 0, none⟩))))
theorem sc_sDo_0 {hp : Hp} {v : Value} {l : List (T_Do)} (h : SlT e_Do hp v l) {i : Nat} (hi : i < l.length) : sload tt.get hp 3 (ptrS v (i * 4)) = (.int .i64 ((at' l i).Kind), True) := h.cell (f := 0) t_int rfl hi (by decide)
theorem sf_sDo_1 {hp : Hp} {v : Value} {l : List (T_Do)} (h : SlT e_Do hp v l) {i : Nat} (hi : i < l.length) : sfieldAddr tt.get 55 (ptrS v (i * 4)) 1 = (ptrS v (i * 4 + 1), True) := h.field hi (d := 1) (fun b o => (by kernel_rfl : fieldAddrA tt.get 55 (.pointer (some ⟨b, o, none⟩)) 1 = some (.pointer (some ⟨b, o + 1, none⟩))))
theorem sc_sDo_1 {hp : Hp} {v : Value} {l : List (T_Do)} (h : SlT e_Do hp v l) {i : Nat} (hi : i < l.length) : sload tt.get hp 29 (ptrS v (i * 4 + 1)) = (.int .u64 ((at' l i).At), True) := h.cell (f := 1) t_uint64 rfl hi (by decide)
theorem sf_sDo_2 {hp : Hp} {v : Value} {l : List (T_Do)} (h : SlT e_Do hp v l) {i : Nat} (hi : i < l.length) : sfieldAddr tt.get 55 (ptrS v (i * 4)) 2 = (ptrS v (i * 4 + 2), True) := h.field hi (d := 2) (fun b o => (by kernel_rfl : fieldAddrA tt.get 55 (.pointer (some ⟨b, o, none⟩)) 2 = some (.pointer (some ⟨b, o + 2, none⟩))))
theorem sc_sDo_2 {hp : Hp} {v : Value} {l : List (T_Do)} (h : SlT e_Do hp v l) {i : Nat} (hi : i < l.length) : sload tt.get hp 3 (ptrS v (i * 4 + 2)) = (.int .i64 ((at' l i).Ticket), True) := h.cell (f := 2) t_int rfl hi (by decide)
theorem sf_sDo_3 {hp : Hp} {v : Value} {l : List (T_Do)} (h : SlT e_Do hp v l) {i : Nat} (hi : i < l.length) : sfieldAddr tt.get 55 (ptrS v (i * 4)) 3 = (ptrS v (i * 4 + 3), True) := h.field hi (d := 3) (fun b o => (by kernel_rfl : fieldAddrA tt.get 55 (.pointer (some ⟨b, o, none⟩)) 3 = some (.pointer (some ⟨b, o + 3, none⟩))))
theorem sc_sDo_3 {hp : Hp} {v : Value} {l : List (T_Do)} (h : SlT e_Do hp v l) {i : Nat} (hi : i < l.length) : sload tt.get hp 9 (ptrS v (i * 4 + 3)) = (.string ⟨⟨(at' l i).Text⟩⟩, True) := h.cell (f := 3) t_string rfl hi (by decide)
theorem sh_sDo {hp : Hp} {v : Value} {l : List (T_Do)} (h : SlT e_Do hp v l) {k : IntKind} {n : Int} (h0 : 0 ≤ n) (h1 : n ≤ l.length) : sslice tt.get hp 45 v none (some (.int k n)) = (subS 4 v 0 n.toNat, True) := h.slHi k_sDo t_Do h0 h1
theorem sw_sDo {hp : Hp} {v : Value} {l : List (T_Do)} (h : SlT e_Do hp v l) {k : IntKind} {n : Int} (h0 : 0 ≤ n) (h1 : n ≤ l.length) : sslice tt.get hp 45 v (some (.int k n)) none = (subL 4 v n.toNat, True) := h.slLo k_sDo t_Do rfl h0 h1
@[go_sem] theorem ap_sDo {hp : Hp} {x : Value} {b top : Nat} {l : List (T_Do)} (h : hp b = mkOb e_Do l) (hx : SlP e_Do hp x) (hn : l.length + (e_Do.rd hp x).length ≤ 16777216) : appendA tt.get hp top [45, 45] (mkSl b l) x = some (mkSl top (l ++ e_Do.rd hp x), appU b l top (mkOb e_Do (l ++ e_Do.rd hp x)), top + 1) := appendA_ownP k_sDo t_sDo rfl t_Do rfl rfl h hx hn
@[go_sem] theorem apn_sDo {hp : Hp} {x : Value} {top : Nat} (hx : SlP e_Do hp x) (hn : (e_Do.rd hp x).length ≤ 16777216) : appendA tt.get hp top [45, 45] (.slice none 0 0) x = some (mkSl top (e_Do.rd hp x), [(top, mkOb e_Do (e_Do.rd hp x))], top + 1) := appendA_nilP k_sDo t_sDo rfl t_Do rfl rfl hx hn
@[go_sem] theorem ap1r_sDo {hp : Hp} {b top k : Nat} {l : List (T_Do)} (h : hp b = mkOb e_Do l) (hk : hp k = some (.cells true 4 (cellsOf (hp k)))) (hc : e_Do.enc (e_Do.dec (cellsOf (hp k))) = cellsOf (hp k)) (hn : roomB (l.length + 1) ti55.bytes = true) : appendA tt.get hp top [45, 45] (mkSl b l) (.slice (some ⟨k, 0, none⟩) 1 1) = some (mkSl top (l ++ [e_Do.dec (cellsOf (hp k))]), appU b l top (mkOb e_Do (l ++ [e_Do.dec (cellsOf (hp k))])), top + 1) := appendA_oneCR k_sDo t_sDo rfl t_Do rfl rfl h hk hc hn
@[go_sem] theorem apr_sDo {hp : Hp} {x : Value} {top : Nat} (hx : SlP e_Do hp x) (hn : roomB (e_Do.rd hp x).length ti55.bytes = true) : appendA tt.get hp top [45, 45] (.slice none 0 0) x = some (mkSl top (e_Do.rd hp x), [(top, mkOb e_Do (e_Do.rd hp x))], top + 1) := appendA_nilPb k_sDo t_sDo rfl t_Do rfl rfl hx hn
@[go_sem] theorem ap0_sDo {hp : Hp} {top k : Nat} (hk : hp k = some (.cells true 4 (cellsOf (hp k)))) (hc : e_Do.enc (e_Do.dec (cellsOf (hp k))) = cellsOf (hp k)) : appendA tt.get hp top [45, 45] (.slice none 0 0) (.slice (some ⟨k, 0, none⟩) 1 1) = some (mkSl top [e_Do.dec (cellsOf (hp k))], [(top, mkOb e_Do [e_Do.dec (cellsOf (hp k))])], top + 1) := appendA_zeroC k_sDo t_sDo rfl t_Do rfl rfl hk hc
@[go_sem] theorem sa_sDo {hp : Hp} {b top : Nat} {l l2 : List (T_Do)} (h : hp b = mkOb e_Do l) : hp.sets (appU b l top (mkOb e_Do l2)) = (hp.set b none).set top (mkOb e_Do l2) := sets_appU h
@[go_sem] theorem os_sDo {hp : Hp} {b : Nat} {l : List (T_Do)} {i : Nat} (h : hp b = mkOb e_Do l) (hi : i < l.length) {a0 : Int} {a1 : Int} {a2 : Int} {a3 : List UInt8} : sstore tt.get hp 55 (ptrS (mkSl b l) (i * 4)) (.agg ⟨[.int .i64 (a0), .int .u64 (a1), .int .i64 (a2), .string ⟨⟨a3⟩⟩]⟩) = ([(b, mkOb e_Do (l.set i ⟨a0, a1, a2, a3⟩))], True) := own_storeA (E := e_Do) (cs := e_Do.enc ⟨a0, a1, a2, a3⟩) t_Do rfl h hi rfl rfl
@[go_sem] theorem of_sDo_0 {hp : Hp} {b : Nat} {l : List (T_Do)} {i : Nat} (h : hp b = mkOb e_Do l) (hi : i < l.length) {x : Int} : sstore tt.get hp 3 (ptrS (mkSl b l) (i * 4)) (.int .i64 (x)) = ([(b, mkOb e_Do (l.set i { at' l i with Kind := x }))], True) := own_storeF (f := 0) t_int h hi rfl (by decide) rfl rfl
@[go_sem] theorem of_sDo_1 {hp : Hp} {b : Nat} {l : List (T_Do)} {i : Nat} (h : hp b = mkOb e_Do l) (hi : i < l.length) {x : Int} : sstore tt.get hp 29 (ptrS (mkSl b l) (i * 4 + 1)) (.int .u64 (x)) = ([(b, mkOb e_Do (l.set i { at' l i with At := x }))], True) := own_storeF (f := 1) t_uint64 h hi rfl (by decide) rfl rfl
@[go_sem] theorem of_sDo_2 {hp : Hp} {b : Nat} {l : List (T_Do)} {i : Nat} (h : hp b = mkOb e_Do l) (hi : i < l.length) {x : Int} : sstore tt.get hp 3 (ptrS (mkSl b l) (i * 4 + 2)) (.int .i64 (x)) = ([(b, mkOb e_Do (l.set i { at' l i with Ticket := x }))], True) := own_storeF (f := 2) t_int h hi rfl (by decide) rfl rfl
@[go_sem] theorem of_sDo_3 {hp : Hp} {b : Nat} {l : List (T_Do)} {i : Nat} (h : hp b = mkOb e_Do l) (hi : i < l.length) {x : List UInt8} : sstore tt.get hp 9 (ptrS (mkSl b l) (i * 4 + 3)) (.string ⟨⟨x⟩⟩) = ([(b, mkOb e_Do (l.set i { at' l i with Text := x }))], True) := own_storeF (f := 3) t_string h hi rfl (by decide) rfl rfl
@[go_sem] theorem ow_sDo {b : Nat} {l : List (T_Do)} {hp2 : Hp} : slen tt.get hp2 45 (mkSl b l) = (.int .i64 (l.length : Int), True) := by cases l with | nil => unfold slen mkSl; simp only [k_sDo, lenA, t_sDo, ti45]; rfl | cons a l => unfold slen mkSl; simp only [k_sDo, lenA, t_sDo, ti45]; rfl
@[go_sem] theorem ap1_sDo {hp : Hp} {b top k : Nat} {l : List (T_Do)} (h : hp b = mkOb e_Do l) (hk : hp k = some (.cells true 4 (cellsOf (hp k)))) (hc : e_Do.enc (e_Do.dec (cellsOf (hp k))) = cellsOf (hp k)) (hn : l.length < 16777216) : appendA tt.get hp top [45, 45] (mkSl b l) (.slice (some ⟨k, 0, none⟩) 1 1) = some (mkSl top (l ++ [e_Do.dec (cellsOf (hp k))]), appU b l top (mkOb e_Do (l ++ [e_Do.dec (cellsOf (hp k))])), top + 1) := appendA_oneC k_sDo t_sDo rfl t_Do rfl rfl h hk hc hn
end
section
theorem len_sThing {hp : Hp} {v : Value} {l : List (T_Thing)} (h : SlT e_Thing hp v l) {hp' : Hp} : slen tt.get hp' 49 v = (.int .i64 (l.length : Int), True) := h.len_any k_sThing
theorem idx_sThing {hp : Hp} {v : Value} {l : List (T_Thing)} (h : SlT e_Thing hp v l) {k : IntKind} {n : Int} (h0 : 0 ≤ n) (h1 : n < l.length) : sindexAddr tt.get 49 v (.int k n) = (ptrS v (n.toNat * 3), True) := h.idx k_sThing t_Thing rfl h0 h1
theorem ld_sThing {hp : Hp} {v : Value} {l : List (T_Thing)} (h : SlT e_Thing hp v l) {i : Nat} (hi : i < l.length) : sload tt.get hp 93 (ptrS v (i * 3)) = (.agg ⟨e_Thing.enc (at' l i)⟩, True) := h.load t_Thing rfl rfl hi
theorem sf_sThing_0 {hp : Hp} {v : Value} {l : List (T_Thing)} (h : SlT e_Thing hp v l) {i : Nat} (hi : i < l.length) : sfieldAddr tt.get 93 (ptrS v (i * 3)) 0 = (ptrS v (i * 3), True) := h.field hi (d := 0) (fun b o => (by kernel_rfl : fieldAddrA tt.get 93 (.pointer (some ⟨b, o, none⟩)) 0 = some (.pointer (some ⟨b, o + 0, none⟩))))
theorem sc_sThing_0 {hp : Hp} {v : Value} {l : List (T_Thing)} (h : SlT e_Thing hp v l) {i : Nat} (hi : i < l.length) : sload tt.get hp 29 (ptrS v (i * 3)) = (.int .u64 ((at' l i).At), True) := h.cell (f := 0) t_uint64 rfl hi (by decide)
theorem sf_sThing_1 {hp : Hp} {v : Value} {l : List (T_Thing)} (h : SlT e_Thing hp v l) {i : Nat} (hi : i < l.length) : sfieldAddr tt.get 93 (ptrS v (i * 3)) 1 = (ptrS v (i * 3 + 1), True) := h.field hi (d := 1) (fun b o => (by kernel_rfl : fieldAddrA tt.get 93 (.pointer (some ⟨b, o, none⟩)) 1 = some (.pointer (some ⟨b, o + 1, none⟩))))
theorem sc_sThing_1 {hp : Hp} {v : Value} {l : List (T_Thing)} (h : SlT e_Thing hp v l) {i : Nat} (hi : i < l.length) : sload tt.get hp 3 (ptrS v (i * 3 + 1)) = (.int .i64 ((at' l i).Ticket), True) := h.cell (f := 1) t_int rfl hi (by decide)
theorem sf_sThing_2 {hp : Hp} {v : Value} {l : List (T_Thing)} (h : SlT e_Thing hp v l) {i : Nat} (hi : i < l.length) : sfieldAddr tt.get 93 (ptrS v (i * 3)) 2 = (ptrS v (i * 3 + 2), True) := h.field hi (d := 2) (fun b o => (by kernel_rfl : fieldAddrA tt.get 93 (.pointer (some ⟨b, o, none⟩)) 2 = some (.pointer (some ⟨b, o + 2, none⟩))))
theorem sc_sThing_2 {hp : Hp} {v : Value} {l : List (T_Thing)} (h : SlT e_Thing hp v l) {i : Nat} (hi : i < l.length) : sload tt.get hp 9 (ptrS v (i * 3 + 2)) = (.string ⟨⟨(at' l i).Text⟩⟩, True) := h.cell (f := 2) t_string rfl hi (by decide)
theorem sh_sThing {hp : Hp} {v : Value} {l : List (T_Thing)} (h : SlT e_Thing hp v l) {k : IntKind} {n : Int} (h0 : 0 ≤ n) (h1 : n ≤ l.length) : sslice tt.get hp 49 v none (some (.int k n)) = (subS 3 v 0 n.toNat, True) := h.slHi k_sThing t_Thing h0 h1
theorem sw_sThing {hp : Hp} {v : Value} {l : List (T_Thing)} (h : SlT e_Thing hp v l) {k : IntKind} {n : Int} (h0 : 0 ≤ n) (h1 : n ≤ l.length) : sslice tt.get hp 49 v (some (.int k n)) none = (subL 3 v n.toNat, True) := h.slLo k_sThing t_Thing rfl h0 h1
@[go_sem] theorem ap_sThing {hp : Hp} {x : Value} {b top : Nat} {l : List (T_Thing)} (h : hp b = mkOb e_Thing l) (hx : SlP e_Thing hp x) (hn : l.length + (e_Thing.rd hp x).length ≤ 16777216) : appendA tt.get hp top [49, 49] (mkSl b l) x = some (mkSl top (l ++ e_Thing.rd hp x), appU b l top (mkOb e_Thing (l ++ e_Thing.rd hp x)), top + 1) := appendA_ownP k_sThing t_sThing rfl t_Thing rfl rfl h hx hn
@[go_sem] theorem apn_sThing {hp : Hp} {x : Value} {top : Nat} (hx : SlP e_Thing hp x) (hn : (e_Thing.rd hp x).length ≤ 16777216) : appendA tt.get hp top [49, 49] (.slice none 0 0) x = some (mkSl top (e_Thing.rd hp x), [(top, mkOb e_Thing (e_Thing.rd hp x))], top + 1) := appendA_nilP k_sThing t_sThing rfl t_Thing rfl rfl hx hn
@[go_sem] theorem ap1r_sThing {hp : Hp} {b top k : Nat} {l : List (T_Thing)} (h : hp b = mkOb e_Thing l) (hk : hp k = some (.cells true 3 (cellsOf (hp k)))) (hc : e_Thing.enc (e_Thing.dec (cellsOf (hp k))) = cellsOf (hp k)) (hn : roomB (l.length + 1) ti93.bytes = true) : appendA tt.get hp top [49, 49] (mkSl b l) (.slice (some ⟨k, 0, none⟩) 1 1) = some (mkSl top (l ++ [e_Thing.dec (cellsOf (hp k))]), appU b l top (mkOb e_Thing (l ++ [e_Thing.dec (cellsOf (hp k))])), top + 1) := appendA_oneCR k_sThing t_sThing rfl t_Thing rfl rfl h hk hc hn
@[go_sem] theorem apr_sThing {hp : Hp} {x : Value} {top : Nat} (hx : SlP e_Thing hp x) (hn : roomB (e_Thing.rd hp x).length ti93.bytes = true) : appendA tt.get hp top [49, 49] (.slice none 0 0) x = some (mkSl top (e_Thing.rd hp x), [(top, mkOb e_Thing (e_Thing.rd hp x))], top + 1) := appendA_nilPb k_sThing t_sThing rfl t_Thing rfl rfl hx hn
@[go_sem] theorem ap0_sThing {hp : Hp} {top k : Nat} (hk : hp k = some (.cells true 3 (cellsOf (hp k)))) (hc : e_Thing.enc (e_Thing.dec (cellsOf (hp k))) = cellsOf (hp k)) : appendA tt.get hp top [49, 49] (.slice none 0 0) (.slice (some ⟨k, 0, none⟩) 1 1) = some (mkSl top [e_Thing.dec (cellsOf (hp k))], [(top, mkOb e_Thing [e_Thing.dec (cellsOf (hp k))])], top + 1) := appendA_zeroC k_sThing t_sThing rfl t_Thing rfl rfl hk hc
@[go_sem] theorem sa_sThing {hp : Hp} {b top : Nat} {l l2 : List (T_Thing)} (h : hp b = mkOb e_Thing l) : hp.sets (appU b l top (mkOb e_Thing l2)) = (hp.set b none).set top (mkOb e_Thing l2) := sets_appU h
@[go_sem] theorem os_sThing {hp : Hp} {b : Nat} {l : List (T_Thing)} {i : Nat} (h : hp b = mkOb e_Thing l) (hi : i < l.length) {a0 : Int} {a1 : Int} {a2 : List UInt8} : sstore tt.get hp 93 (ptrS (mkSl b l) (i * 3)) (.agg ⟨[.int .u64 (a0), .int .i64 (a1), .string ⟨⟨a2⟩⟩]⟩) = ([(b, mkOb e_Thing (l.set i ⟨a0, a1, a2⟩))], True) := own_storeA (E := e_Thing) (cs := e_Thing.enc ⟨a0, a1, a2⟩) t_Thing rfl h hi rfl rfl
@[go_sem] theorem of_sThing_0 {hp : Hp} {b : Nat} {l : List (T_Thing)} {i : Nat} (h : hp b = mkOb e_Thing l) (hi : i < l.length) {x : Int} : sstore tt.get hp 29 (ptrS (mkSl b l) (i * 3)) (.int .u64 (x)) = ([(b, mkOb e_Thing (l.set i { at' l i with At := x }))], True) := own_storeF (f := 0) t_uint64 h hi rfl (by decide) rfl rfl
@[go_sem] theorem of_sThing_1 {hp : Hp} {b : Nat} {l : List (T_Thing)} {i : Nat} (h : hp b = mkOb e_Thing l) (hi : i < l.length) {x : Int} : sstore tt.get hp 3 (ptrS (mkSl b l) (i * 3 + 1)) (.int .i64 (x)) = ([(b, mkOb e_Thing (l.set i { at' l i with Ticket := x }))], True) := own_storeF (f := 1) t_int h hi rfl (by decide) rfl rfl
@[go_sem] theorem of_sThing_2 {hp : Hp} {b : Nat} {l : List (T_Thing)} {i : Nat} (h : hp b = mkOb e_Thing l) (hi : i < l.length) {x : List UInt8} : sstore tt.get hp 9 (ptrS (mkSl b l) (i * 3 + 2)) (.string ⟨⟨x⟩⟩) = ([(b, mkOb e_Thing (l.set i { at' l i with Text := x }))], True) := own_storeF (f := 2) t_string h hi rfl (by decide) rfl rfl
@[go_sem] theorem ow_sThing {b : Nat} {l : List (T_Thing)} {hp2 : Hp} : slen tt.get hp2 49 (mkSl b l) = (.int .i64 (l.length : Int), True) := by cases l with | nil => unfold slen mkSl; simp only [k_sThing, lenA, t_sThing, ti49]; rfl | cons a l => unfold slen mkSl; simp only [k_sThing, lenA, t_sThing, ti49]; rfl
@[go_sem] theorem ap1_sThing {hp : Hp} {b top k : Nat} {l : List (T_Thing)} (h : hp b = mkOb e_Thing l) (hk : hp k = some (.cells true 3 (cellsOf (hp k)))) (hc : e_Thing.enc (e_Thing.dec (cellsOf (hp k))) = cellsOf (hp k)) (hn : l.length < 16777216) : appendA tt.get hp top [49, 49] (mkSl b l) (.slice (some ⟨k, 0, none⟩) 1 1) = some (mkSl top (l ++ [e_Thing.dec (cellsOf (hp k))]), appU b l top (mkOb e_Thing (l ++ [e_Thing.dec (cellsOf (hp k))])), top + 1) := appendA_oneC k_sThing t_sThing rfl t_Thing rfl rfl h hk hc hn
end
section
theorem len_sstring {hp : Hp} {v : Value} {l : List (List UInt8)} (h : SlT e_string hp v l) {hp' : Hp} : slen tt.get hp' 57 v = (.int .i64 (l.length : Int), True) := h.len_any k_sstring
theorem idx_sstring {hp : Hp} {v : Value} {l : List (List UInt8)} (h : SlT e_string hp v l) {k : IntKind} {n : Int} (h0 : 0 ≤ n) (h1 : n < l.length) : sindexAddr tt.get 57 v (.int k n) = (ptrS v (n.toNat * 1), True) := h.idx k_sstring t_string rfl h0 h1
theorem ld_sstring {hp : Hp} {v : Value} {l : List (List UInt8)} (h : SlT e_string hp v l) {i : Nat} (hi : i < l.length) : sload tt.get hp 9 (ptrS v (i * 1)) = (.string ⟨⟨at' l i⟩⟩, True) := h.cell (f := 0) t_string rfl hi (by decide)
theorem sh_sstring {hp : Hp} {v : Value} {l : List (List UInt8)} (h : SlT e_string hp v l) {k : IntKind} {n : Int} (h0 : 0 ≤ n) (h1 : n ≤ l.length) : sslice tt.get hp 57 v none (some (.int k n)) = (subS 1 v 0 n.toNat, True) := h.slHi k_sstring t_string h0 h1
theorem sw_sstring {hp : Hp} {v : Value} {l : List (List UInt8)} (h : SlT e_string hp v l) {k : IntKind} {n : Int} (h0 : 0 ≤ n) (h1 : n ≤ l.length) : sslice tt.get hp 57 v (some (.int k n)) none = (subL 1 v n.toNat, True) := h.slLo k_sstring t_string rfl h0 h1
@[go_sem] theorem ap_sstring {hp : Hp} {x : Value} {b top : Nat} {l : List (List UInt8)} (h : hp b = mkOb e_string l) (hx : SlP e_string hp x) (hn : l.length + (e_string.rd hp x).length ≤ 16777216) : appendA tt.get hp top [57, 57] (mkSl b l) x = some (mkSl top (l ++ e_string.rd hp x), appU b l top (mkOb e_string (l ++ e_string.rd hp x)), top + 1) := appendA_ownP k_sstring t_sstring rfl t_string rfl rfl h hx hn
@[go_sem] theorem apn_sstring {hp : Hp} {x : Value} {top : Nat} (hx : SlP e_string hp x) (hn : (e_string.rd hp x).length ≤ 16777216) : appendA tt.get hp top [57, 57] (.slice none 0 0) x = some (mkSl top (e_string.rd hp x), [(top, mkOb e_string (e_string.rd hp x))], top + 1) := appendA_nilP k_sstring t_sstring rfl t_string rfl rfl hx hn
@[go_sem] theorem ap1r_sstring {hp : Hp} {b top k : Nat} {l : List (List UInt8)} (h : hp b = mkOb e_string l) (hk : hp k = some (.cells true 1 (cellsOf (hp k)))) (hc : e_string.enc (e_string.dec (cellsOf (hp k))) = cellsOf (hp k)) (hn : roomB (l.length + 1) ti9.bytes = true) : appendA tt.get hp top [57, 57] (mkSl b l) (.slice (some ⟨k, 0, none⟩) 1 1) = some (mkSl top (l ++ [e_string.dec (cellsOf (hp k))]), appU b l top (mkOb e_string (l ++ [e_string.dec (cellsOf (hp k))])), top + 1) := appendA_oneCR k_sstring t_sstring rfl t_string rfl rfl h hk hc hn
@[go_sem] theorem apr_sstring {hp : Hp} {x : Value} {top : Nat} (hx : SlP e_string hp x) (hn : roomB (e_string.rd hp x).length ti9.bytes = true) : appendA tt.get hp top [57, 57] (.slice none 0 0) x = some (mkSl top (e_string.rd hp x), [(top, mkOb e_string (e_string.rd hp x))], top + 1) := appendA_nilPb k_sstring t_sstring rfl t_string rfl rfl hx hn
@[go_sem] theorem ap0_sstring {hp : Hp} {top k : Nat} (hk : hp k = some (.cells true 1 (cellsOf (hp k)))) (hc : e_string.enc (e_string.dec (cellsOf (hp k))) = cellsOf (hp k)) : appendA tt.get hp top [57, 57] (.slice none 0 0) (.slice (some ⟨k, 0, none⟩) 1 1) = some (mkSl top [e_string.dec (cellsOf (hp k))], [(top, mkOb e_string [e_string.dec (cellsOf (hp k))])], top + 1) := appendA_zeroC k_sstring t_sstring rfl t_string rfl rfl hk hc
@[go_sem] theorem sa_sstring {hp : Hp} {b top : Nat} {l l2 : List (List UInt8)} (h : hp b = mkOb e_string l) : hp.sets (appU b l top (mkOb e_string l2)) = (hp.set b none).set top (mkOb e_string l2) := sets_appU h
@[go_sem] theorem os_sstring {hp : Hp} {b : Nat} {l : List (List UInt8)} {i : Nat} (h : hp b = mkOb e_string l) (hi : i < l.length) {x : List UInt8} : sstore tt.get hp 9 (ptrS (mkSl b l) (i * 1)) (.string ⟨⟨x⟩⟩) = ([(b, mkOb e_string (l.set i x))], True) := own_storeF (f := 0) t_string h hi rfl (by decide) rfl rfl
@[go_sem] theorem ow_sstring {b : Nat} {l : List (List UInt8)} {hp2 : Hp} : slen tt.get hp2 57 (mkSl b l) = (.int .i64 (l.length : Int), True) := by cases l with | nil => unfold slen mkSl; simp only [k_sstring, lenA, t_sstring, ti57]; rfl | cons a l => unfold slen mkSl; simp only [k_sstring, lenA, t_sstring, ti57]; rfl
@[go_sem] theorem ap1_sstring {hp : Hp} {b top k : Nat} {l : List (List UInt8)} (h : hp b = mkOb e_string l) (hk : hp k = some (.cells true 1 (cellsOf (hp k)))) (hc : e_string.enc (e_string.dec (cellsOf (hp k))) = cellsOf (hp k)) (hn : l.length < 16777216) : appendA tt.get hp top [57, 57] (mkSl b l) (.slice (some ⟨k, 0, none⟩) 1 1) = some (mkSl top (l ++ [e_string.dec (cellsOf (hp k))]), appU b l top (mkOb e_string (l ++ [e_string.dec (cellsOf (hp k))])), top + 1) := appendA_oneC k_sstring t_sstring rfl t_string rfl rfl h hk hc hn
end
section
theorem len_st96 {hp : Hp} {v : Value} {l : List (T_t96)} (h : SlT e_t96 hp v l) {hp' : Hp} : slen tt.get hp' 64 v = (.int .i64 (l.length : Int), True) := h.len_any k_st96
theorem idx_st96 {hp : Hp} {v : Value} {l : List (T_t96)} (h : SlT e_t96 hp v l) {k : IntKind} {n : Int} (h0 : 0 ≤ n) (h1 : n < l.length) : sindexAddr tt.get 64 v (.int k n) = (ptrS v (n.toNat * 3), True) := h.idx k_st96 t_t96 rfl h0 h1
theorem ld_st96 {hp : Hp} {v : Value} {l : List (T_t96)} (h : SlT e_t96 hp v l) {i : Nat} (hi : i < l.length) : sload tt.get hp 96 (ptrS v (i * 3)) = (.agg ⟨e_t96.enc (at' l i)⟩, True) := h.load t_t96 rfl rfl hi
theorem sf_st96_0 {hp : Hp} {v : Value} {l : List (T_t96)} (h : SlT e_t96 hp v l) {i : Nat} (hi : i < l.length) : sfieldAddr tt.get 96 (ptrS v (i * 3)) 0 = (ptrS v (i * 3), True) := h.field hi (d := 0) (fun b o => (by kernel_rfl : fieldAddrA tt.get 96 (.pointer (some ⟨b, o, none⟩)) 0 = some (.pointer (some ⟨b, o + 0, none⟩))))
theorem sc_st96_0 {hp : Hp} {v : Value} {l : List (T_t96)} (h : SlT e_t96 hp v l) {i : Nat} (hi : i < l.length) : sload tt.get hp 29 (ptrS v (i * 3)) = (.int .u64 ((at' l i).at_), True) := h.cell (f := 0) t_uint64 rfl hi (by decide)
theorem sf_st96_1 {hp : Hp} {v : Value} {l : List (T_t96)} (h : SlT e_t96 hp v l) {i : Nat} (hi : i < l.length) : sfieldAddr tt.get 96 (ptrS v (i * 3)) 1 = (ptrS v (i * 3 + 1), True) := h.field hi (d := 1) (fun b o => (by kernel_rfl : fieldAddrA tt.get 96 (.pointer (some ⟨b, o, none⟩)) 1 = some (.pointer (some ⟨b, o + 1, none⟩))))
theorem sc_st96_1 {hp : Hp} {v : Value} {l : List (T_t96)} (h : SlT e_t96 hp v l) {i : Nat} (hi : i < l.length) : sload tt.get hp 3 (ptrS v (i * 3 + 1)) = (.int .i64 ((at' l i).ticket), True) := h.cell (f := 1) t_int rfl hi (by decide)
theorem sf_st96_2 {hp : Hp} {v : Value} {l : List (T_t96)} (h : SlT e_t96 hp v l) {i : Nat} (hi : i < l.length) : sfieldAddr tt.get 96 (ptrS v (i * 3)) 2 = (ptrS v (i * 3 + 2), True) := h.field hi (d := 2) (fun b o => (by kernel_rfl : fieldAddrA tt.get 96 (.pointer (some ⟨b, o, none⟩)) 2 = some (.pointer (some ⟨b, o + 2, none⟩))))
theorem sc_st96_2 {hp : Hp} {v : Value} {l : List (T_t96)} (h : SlT e_t96 hp v l) {i : Nat} (hi : i < l.length) : sload tt.get hp 9 (ptrS v (i * 3 + 2)) = (.string ⟨⟨(at' l i).v⟩⟩, True) := h.cell (f := 2) t_string rfl hi (by decide)
theorem sh_st96 {hp : Hp} {v : Value} {l : List (T_t96)} (h : SlT e_t96 hp v l) {k : IntKind} {n : Int} (h0 : 0 ≤ n) (h1 : n ≤ l.length) : sslice tt.get hp 64 v none (some (.int k n)) = (subS 3 v 0 n.toNat, True) := h.slHi k_st96 t_t96 h0 h1
theorem sw_st96 {hp : Hp} {v : Value} {l : List (T_t96)} (h : SlT e_t96 hp v l) {k : IntKind} {n : Int} (h0 : 0 ≤ n) (h1 : n ≤ l.length) : sslice tt.get hp 64 v (some (.int k n)) none = (subL 3 v n.toNat, True) := h.slLo k_st96 t_t96 rfl h0 h1
@[go_sem] theorem ap_st96 {hp : Hp} {x : Value} {b top : Nat} {l : List (T_t96)} (h : hp b = mkOb e_t96 l) (hx : SlP e_t96 hp x) (hn : l.length + (e_t96.rd hp x).length ≤ 16777216) : appendA tt.get hp top [64, 64] (mkSl b l) x = some (mkSl top (l ++ e_t96.rd hp x), appU b l top (mkOb e_t96 (l ++ e_t96.rd hp x)), top + 1) := appendA_ownP k_st96 t_st96 rfl t_t96 rfl rfl h hx hn
@[go_sem] theorem apn_st96 {hp : Hp} {x : Value} {top : Nat} (hx : SlP e_t96 hp x) (hn : (e_t96.rd hp x).length ≤ 16777216) : appendA tt.get hp top [64, 64] (.slice none 0 0) x = some (mkSl top (e_t96.rd hp x), [(top, mkOb e_t96 (e_t96.rd hp x))], top + 1) := appendA_nilP k_st96 t_st96 rfl t_t96 rfl rfl hx hn
@[go_sem] theorem ap1r_st96 {hp : Hp} {b top k : Nat} {l : List (T_t96)} (h : hp b = mkOb e_t96 l) (hk : hp k = some (.cells true 3 (cellsOf (hp k)))) (hc : e_t96.enc (e_t96.dec (cellsOf (hp k))) = cellsOf (hp k)) (hn : roomB (l.length + 1) ti96.bytes = true) : appendA tt.get hp top [64, 64] (mkSl b l) (.slice (some ⟨k, 0, none⟩) 1 1) = some (mkSl top (l ++ [e_t96.dec (cellsOf (hp k))]), appU b l top (mkOb e_t96 (l ++ [e_t96.dec (cellsOf (hp k))])), top + 1) := appendA_oneCR k_st96 t_st96 rfl t_t96 rfl rfl h hk hc hn
@[go_sem] theorem apr_st96 {hp : Hp} {x : Value} {top : Nat} (hx : SlP e_t96 hp x) (hn : roomB (e_t96.rd hp x).length ti96.bytes = true) : appendA tt.get hp top [64, 64] (.slice none 0 0) x = some (mkSl top (e_t96.rd hp x), [(top, mkOb e_t96 (e_t96.rd hp x))], top + 1) := appendA_nilPb k_st96 t_st96 rfl t_t96 rfl rfl hx hn
@[go_sem] theorem ap0_st96 {hp : Hp} {top k : Nat} (hk : hp k = some (.cells true 3 (cellsOf (hp k)))) (hc : e_t96.enc (e_t96.dec (cellsOf (hp k))) = cellsOf (hp k)) : appendA tt.get hp top [64, 64] (.slice none 0 0) (.slice (some ⟨k, 0, none⟩) 1 1) = some (mkSl top [e_t96.dec (cellsOf (hp k))], [(top, mkOb e_t96 [e_t96.dec (cellsOf (hp k))])], top + 1) := appendA_zeroC k_st96 t_st96 rfl t_t96 rfl rfl hk hc
@[go_sem] theorem sa_st96 {hp : Hp} {b top : Nat} {l l2 : List (T_t96)} (h : hp b = mkOb e_t96 l) : hp.sets (appU b l top (mkOb e_t96 l2)) = (hp.set b none).set top (mkOb e_t96 l2) := sets_appU h
@[go_sem] theorem os_st96 {hp : Hp} {b : Nat} {l : List (T_t96)} {i : Nat} (h : hp b = mkOb e_t96 l) (hi : i < l.length) {a0 : Int} {a1 : Int} {a2 : List UInt8} : sstore tt.get hp 96 (ptrS (mkSl b l) (i * 3)) (.agg ⟨[.int .u64 (a0), .int .i64 (a1), .string ⟨⟨a2⟩⟩]⟩) = ([(b, mkOb e_t96 (l.set i ⟨a0, a1, a2⟩))], True) := own_storeA (E := e_t96) (cs := e_t96.enc ⟨a0, a1, a2⟩) t_t96 rfl h hi rfl rfl
@[go_sem] theorem of_st96_0 {hp : Hp} {b : Nat} {l : List (T_t96)} {i : Nat} (h : hp b = mkOb e_t96 l) (hi : i < l.length) {x : Int} : sstore tt.get hp 29 (ptrS (mkSl b l) (i * 3)) (.int .u64 (x)) = ([(b, mkOb e_t96 (l.set i { at' l i with at_ := x }))], True) := own_storeF (f := 0) t_uint64 h hi rfl (by decide) rfl rfl
@[go_sem] theorem of_st96_1 {hp : Hp} {b : Nat} {l : List (T_t96)} {i : Nat} (h : hp b = mkOb e_t96 l) (hi : i < l.length) {x : Int} : sstore tt.get hp 3 (ptrS (mkSl b l) (i * 3 + 1)) (.int .i64 (x)) = ([(b, mkOb e_t96 (l.set i { at' l i with ticket := x }))], True) := own_storeF (f := 1) t_int h hi rfl (by decide) rfl rfl
@[go_sem] theorem of_st96_2 {hp : Hp} {b : Nat} {l : List (T_t96)} {i : Nat} (h : hp b = mkOb e_t96 l) (hi : i < l.length) {x : List UInt8} : sstore tt.get hp 9 (ptrS (mkSl b l) (i * 3 + 2)) (.string ⟨⟨x⟩⟩) = ([(b, mkOb e_t96 (l.set i { at' l i with v := x }))], True) := own_storeF (f := 2) t_string h hi rfl (by decide) rfl rfl
@[go_sem] theorem ow_st96 {b : Nat} {l : List (T_t96)} {hp2 : Hp} : slen tt.get hp2 64 (mkSl b l) = (.int .i64 (l.length : Int), True) := by cases l with | nil => unfold slen mkSl; simp only [k_st96, lenA, t_st96, ti64]; rfl | cons a l => unfold slen mkSl; simp only [k_st96, lenA, t_st96, ti64]; rfl
@[go_sem] theorem ap1_st96 {hp : Hp} {b top k : Nat} {l : List (T_t96)} (h : hp b = mkOb e_t96 l) (hk : hp k = some (.cells true 3 (cellsOf (hp k)))) (hc : e_t96.enc (e_t96.dec (cellsOf (hp k))) = cellsOf (hp k)) (hn : l.length < 16777216) : appendA tt.get hp top [64, 64] (mkSl b l) (.slice (some ⟨k, 0, none⟩) 1 1) = some (mkSl top (l ++ [e_t96.dec (cellsOf (hp k))]), appU b l top (mkOb e_t96 (l ++ [e_t96.dec (cellsOf (hp k))])), top + 1) := appendA_oneC k_st96 t_st96 rfl t_t96 rfl rfl h hk hc hn
end
section
theorem len_st74 {hp : Hp} {v : Value} {l : List (T_t74)} (h : SlT e_t74 hp v l) {hp' : Hp} : slen tt.get hp' 67 v = (.int .i64 (l.length : Int), True) := h.len_any k_st74
theorem idx_st74 {hp : Hp} {v : Value} {l : List (T_t74)} (h : SlT e_t74 hp v l) {k : IntKind} {n : Int} (h0 : 0 ≤ n) (h1 : n < l.length) : sindexAddr tt.get 67 v (.int k n) = (ptrS v (n.toNat * 3), True) := h.idx k_st74 t_t74 rfl h0 h1
theorem ld_st74 {hp : Hp} {v : Value} {l : List (T_t74)} (h : SlT e_t74 hp v l) {i : Nat} (hi : i < l.length) : sload tt.get hp 74 (ptrS v (i * 3)) = (.agg ⟨e_t74.enc (at' l i)⟩, True) := h.load t_t74 rfl rfl hi
theorem sf_st74_0 {hp : Hp} {v : Value} {l : List (T_t74)} (h : SlT e_t74 hp v l) {i : Nat} (hi : i < l.length) : sfieldAddr tt.get 74 (ptrS v (i * 3)) 0 = (ptrS v (i * 3), True) := h.field hi (d := 0) (fun b o => (by kernel_rfl : fieldAddrA tt.get 74 (.pointer (some ⟨b, o, none⟩)) 0 = some (.pointer (some ⟨b, o + 0, none⟩))))
theorem sc_st74_0 {hp : Hp} {v : Value} {l : List (T_t74)} (h : SlT e_t74 hp v l) {i : Nat} (hi : i < l.length) : sload tt.get hp 29 (ptrS v (i * 3)) = (.int .u64 ((at' l i).at_), True) := h.cell (f := 0) t_uint64 rfl hi (by decide)
theorem sf_st74_1 {hp : Hp} {v : Value} {l : List (T_t74)} (h : SlT e_t74 hp v l) {i : Nat} (hi : i < l.length) : sfieldAddr tt.get 74 (ptrS v (i * 3)) 1 = (ptrS v (i * 3 + 1), True) := h.field hi (d := 1) (fun b o => (by kernel_rfl : fieldAddrA tt.get 74 (.pointer (some ⟨b, o, none⟩)) 1 = some (.pointer (some ⟨b, o + 1, none⟩))))
theorem sc_st74_1 {hp : Hp} {v : Value} {l : List (T_t74)} (h : SlT e_t74 hp v l) {i : Nat} (hi : i < l.length) : sload tt.get hp 3 (ptrS v (i * 3 + 1)) = (.int .i64 ((at' l i).ticket), True) := h.cell (f := 1) t_int rfl hi (by decide)
theorem sf_st74_2 {hp : Hp} {v : Value} {l : List (T_t74)} (h : SlT e_t74 hp v l) {i : Nat} (hi : i < l.length) : sfieldAddr tt.get 74 (ptrS v (i * 3)) 2 = (ptrS v (i * 3 + 2), True) := h.field hi (d := 2) (fun b o => (by kernel_rfl : fieldAddrA tt.get 74 (.pointer (some ⟨b, o, none⟩)) 2 = some (.pointer (some ⟨b, o + 2, none⟩))))
theorem sc_st74_2 {hp : Hp} {v : Value} {l : List (T_t74)} (h : SlT e_t74 hp v l) {i : Nat} (hi : i < l.length) : sload tt.get hp 3 (ptrS v (i * 3 + 2)) = (.int .i64 ((at' l i).v), True) := h.cell (f := 2) t_int rfl hi (by decide)
theorem sh_st74 {hp : Hp} {v : Value} {l : List (T_t74)} (h : SlT e_t74 hp v l) {k : IntKind} {n : Int} (h0 : 0 ≤ n) (h1 : n ≤ l.length) : sslice tt.get hp 67 v none (some (.int k n)) = (subS 3 v 0 n.toNat, True) := h.slHi k_st74 t_t74 h0 h1
theorem sw_st74 {hp : Hp} {v : Value} {l : List (T_t74)} (h : SlT e_t74 hp v l) {k : IntKind} {n : Int} (h0 : 0 ≤ n) (h1 : n ≤ l.length) : sslice tt.get hp 67 v (some (.int k n)) none = (subL 3 v n.toNat, True) := h.slLo k_st74 t_t74 rfl h0 h1
@[go_sem] theorem ap_st74 {hp : Hp} {x : Value} {b top : Nat} {l : List (T_t74)} (h : hp b = mkOb e_t74 l) (hx : SlP e_t74 hp x) (hn : l.length + (e_t74.rd hp x).length ≤ 16777216) : appendA tt.get hp top [67, 67] (mkSl b l) x = some (mkSl top (l ++ e_t74.rd hp x), appU b l top (mkOb e_t74 (l ++ e_t74.rd hp x)), top + 1) := appendA_ownP k_st74 t_st74 rfl t_t74 rfl rfl h hx hn
@[go_sem] theorem apn_st74 {hp : Hp} {x : Value} {top : Nat} (hx : SlP e_t74 hp x) (hn : (e_t74.rd hp x).length ≤ 16777216) : appendA tt.get hp top [67, 67] (.slice none 0 0) x = some (mkSl top (e_t74.rd hp x), [(top, mkOb e_t74 (e_t74.rd hp x))], top + 1) := appendA_nilP k_st74 t_st74 rfl t_t74 rfl rfl hx hn
@[go_sem] theorem ap1r_st74 {hp : Hp} {b top k : Nat} {l : List (T_t74)} (h : hp b = mkOb e_t74 l) (hk : hp k = some (.cells true 3 (cellsOf (hp k)))) (hc : e_t74.enc (e_t74.dec (cellsOf (hp k))) = cellsOf (hp k)) (hn : roomB (l.length + 1) ti74.bytes = true) : appendA tt.get hp top [67, 67] (mkSl b l) (.slice (some ⟨k, 0, none⟩) 1 1) = some (mkSl top (l ++ [e_t74.dec (cellsOf (hp k))]), appU b l top (mkOb e_t74 (l ++ [e_t74.dec (cellsOf (hp k))])), top + 1) := appendA_oneCR k_st74 t_st74 rfl t_t74 rfl rfl h hk hc hn
@[go_sem] theorem apr_st74 {hp : Hp} {x : Value} {top : Nat} (hx : SlP e_t74 hp x) (hn : roomB (e_t74.rd hp x).length ti74.bytes = true) : appendA tt.get hp top [67, 67] (.slice none 0 0) x = some (mkSl top (e_t74.rd hp x), [(top, mkOb e_t74 (e_t74.rd hp x))], top + 1) := appendA_nilPb k_st74 t_st74 rfl t_t74 rfl rfl hx hn
@[go_sem] theorem ap0_st74 {hp : Hp} {top k : Nat} (hk : hp k = some (.cells true 3 (cellsOf (hp k)))) (hc : e_t74.enc (e_t74.dec (cellsOf (hp k))) = cellsOf (hp k)) : appendA tt.get hp top [67, 67] (.slice none 0 0) (.slice (some ⟨k, 0, none⟩) 1 1) = some (mkSl top [e_t74.dec (cellsOf (hp k))], [(top, mkOb e_t74 [e_t74.dec (cellsOf (hp k))])], top + 1) := appendA_zeroC k_st74 t_st74 rfl t_t74 rfl rfl hk hc
@[go_sem] theorem sa_st74 {hp : Hp} {b top : Nat} {l l2 : List (T_t74)} (h : hp b = mkOb e_t74 l) : hp.sets (appU b l top (mkOb e_t74 l2)) = (hp.set b none).set top (mkOb e_t74 l2) := sets_appU h
@[go_sem] theorem os_st74 {hp : Hp} {b : Nat} {l : List (T_t74)} {i : Nat} (h : hp b = mkOb e_t74 l) (hi : i < l.length) {a0 : Int} {a1 : Int} {a2 : Int} : sstore tt.get hp 74 (ptrS (mkSl b l) (i * 3)) (.agg ⟨[.int .u64 (a0), .int .i64 (a1), .int .i64 (a2)]⟩) = ([(b, mkOb e_t74 (l.set i ⟨a0, a1, a2⟩))], True) := own_storeA (E := e_t74) (cs := e_t74.enc ⟨a0, a1, a2⟩) t_t74 rfl h hi rfl rfl
@[go_sem] theorem of_st74_0 {hp : Hp} {b : Nat} {l : List (T_t74)} {i : Nat} (h : hp b = mkOb e_t74 l) (hi : i < l.length) {x : Int} : sstore tt.get hp 29 (ptrS (mkSl b l) (i * 3)) (.int .u64 (x)) = ([(b, mkOb e_t74 (l.set i { at' l i with at_ := x }))], True) := own_storeF (f := 0) t_uint64 h hi rfl (by decide) rfl rfl
@[go_sem] theorem of_st74_1 {hp : Hp} {b : Nat} {l : List (T_t74)} {i : Nat} (h : hp b = mkOb e_t74 l) (hi : i < l.length) {x : Int} : sstore tt.get hp 3 (ptrS (mkSl b l) (i * 3 + 1)) (.int .i64 (x)) = ([(b, mkOb e_t74 (l.set i { at' l i with ticket := x }))], True) := own_storeF (f := 1) t_int h hi rfl (by decide) rfl rfl
@[go_sem] theorem of_st74_2 {hp : Hp} {b : Nat} {l : List (T_t74)} {i : Nat} (h : hp b = mkOb e_t74 l) (hi : i < l.length) {x : Int} : sstore tt.get hp 3 (ptrS (mkSl b l) (i * 3 + 2)) (.int .i64 (x)) = ([(b, mkOb e_t74 (l.set i { at' l i with v := x }))], True) := own_storeF (f := 2) t_int h hi rfl (by decide) rfl rfl
@[go_sem] theorem ow_st74 {b : Nat} {l : List (T_t74)} {hp2 : Hp} : slen tt.get hp2 67 (mkSl b l) = (.int .i64 (l.length : Int), True) := by cases l with | nil => unfold slen mkSl; simp only [k_st74, lenA, t_st74, ti67]; rfl | cons a l => unfold slen mkSl; simp only [k_st74, lenA, t_st74, ti67]; rfl
@[go_sem] theorem ap1_st74 {hp : Hp} {b top k : Nat} {l : List (T_t74)} (h : hp b = mkOb e_t74 l) (hk : hp k = some (.cells true 3 (cellsOf (hp k)))) (hc : e_t74.enc (e_t74.dec (cellsOf (hp k))) = cellsOf (hp k)) (hn : l.length < 16777216) : appendA tt.get hp top [67, 67] (mkSl b l) (.slice (some ⟨k, 0, none⟩) 1 1) = some (mkSl top (l ++ [e_t74.dec (cellsOf (hp k))]), appU b l top (mkOb e_t74 (l ++ [e_t74.dec (cellsOf (hp k))])), top + 1) := appendA_oneC k_st74 t_st74 rfl t_t74 rfl rfl h hk hc hn
end
section
theorem len_st83 {hp : Hp} {v : Value} {l : List (T_t83)} (h : SlT e_t83 hp v l) {hp' : Hp} : slen tt.get hp' 70 v = (.int .i64 (l.length : Int), True) := h.len_any k_st83
theorem idx_st83 {hp : Hp} {v : Value} {l : List (T_t83)} (h : SlT e_t83 hp v l) {k : IntKind} {n : Int} (h0 : 0 ≤ n) (h1 : n < l.length) : sindexAddr tt.get 70 v (.int k n) = (ptrS v (n.toNat * 4), True) := h.idx k_st83 t_t83 rfl h0 h1
theorem ld_st83 {hp : Hp} {v : Value} {l : List (T_t83)} (h : SlT e_t83 hp v l) {i : Nat} (hi : i < l.length) : sload tt.get hp 83 (ptrS v (i * 4)) = (.agg ⟨e_t83.enc (at' l i)⟩, True) := h.load t_t83 rfl rfl hi
theorem sf_st83_0 {hp : Hp} {v : Value} {l : List (T_t83)} (h : SlT e_t83 hp v l) {i : Nat} (hi : i < l.length) : sfieldAddr tt.get 83 (ptrS v (i * 4)) 0 = (ptrS v (i * 4), True) := h.field hi (d := 0) (fun b o => (by kernel_rfl : fieldAddrA tt.get 83 (.pointer (some ⟨b, o, none⟩)) 0 = some (.pointer (some ⟨b, o + 0, none⟩))))
theorem sc_st83_0 {hp : Hp} {v : Value} {l : List (T_t83)} (h : SlT e_t83 hp v l) {i : Nat} (hi : i < l.length) : sload tt.get hp 29 (ptrS v (i * 4)) = (.int .u64 ((at' l i).at_), True) := h.cell (f := 0) t_uint64 rfl hi (by decide)
theorem sf_st83_1 {hp : Hp} {v : Value} {l : List (T_t83)} (h : SlT e_t83 hp v l) {i : Nat} (hi : i < l.length) : sfieldAddr tt.get 83 (ptrS v (i * 4)) 1 = (ptrS v (i * 4 + 1), True) := h.field hi (d := 1) (fun b o => (by kernel_rfl : fieldAddrA tt.get 83 (.pointer (some ⟨b, o, none⟩)) 1 = some (.pointer (some ⟨b, o + 1, none⟩))))
theorem sc_st83_1 {hp : Hp} {v : Value} {l : List (T_t83)} (h : SlT e_t83 hp v l) {i : Nat} (hi : i < l.length) : sload tt.get hp 3 (ptrS v (i * 4 + 1)) = (.int .i64 ((at' l i).ticket), True) := h.cell (f := 1) t_int rfl hi (by decide)
theorem sf_st83_2 {hp : Hp} {v : Value} {l : List (T_t83)} (h : SlT e_t83 hp v l) {i : Nat} (hi : i < l.length) : sfieldAddr tt.get 83 (ptrS v (i * 4)) 2 = (ptrS v (i * 4 + 2), True) := h.field hi (d := 2) (fun b o => (by kernel_rfl : fieldAddrA tt.get 83 (.pointer (some ⟨b, o, none⟩)) 2 = some (.pointer (some ⟨b, o + 2, none⟩))))
theorem sh_st83 {hp : Hp} {v : Value} {l : List (T_t83)} (h : SlT e_t83 hp v l) {k : IntKind} {n : Int} (h0 : 0 ≤ n) (h1 : n ≤ l.length) : sslice tt.get hp 70 v none (some (.int k n)) = (subS 4 v 0 n.toNat, True) := h.slHi k_st83 t_t83 h0 h1
theorem sw_st83 {hp : Hp} {v : Value} {l : List (T_t83)} (h : SlT e_t83 hp v l) {k : IntKind} {n : Int} (h0 : 0 ≤ n) (h1 : n ≤ l.length) : sslice tt.get hp 70 v (some (.int k n)) none = (subL 4 v n.toNat, True) := h.slLo k_st83 t_t83 rfl h0 h1
@[go_sem] theorem ap_st83 {hp : Hp} {x : Value} {b top : Nat} {l : List (T_t83)} (h : hp b = mkOb e_t83 l) (hx : SlP e_t83 hp x) (hn : l.length + (e_t83.rd hp x).length ≤ 16777216) : appendA tt.get hp top [70, 70] (mkSl b l) x = some (mkSl top (l ++ e_t83.rd hp x), appU b l top (mkOb e_t83 (l ++ e_t83.rd hp x)), top + 1) := appendA_ownP k_st83 t_st83 rfl t_t83 rfl rfl h hx hn
@[go_sem] theorem apn_st83 {hp : Hp} {x : Value} {top : Nat} (hx : SlP e_t83 hp x) (hn : (e_t83.rd hp x).length ≤ 16777216) : appendA tt.get hp top [70, 70] (.slice none 0 0) x = some (mkSl top (e_t83.rd hp x), [(top, mkOb e_t83 (e_t83.rd hp x))], top + 1) := appendA_nilP k_st83 t_st83 rfl t_t83 rfl rfl hx hn
@[go_sem] theorem ap1r_st83 {hp : Hp} {b top k : Nat} {l : List (T_t83)} (h : hp b = mkOb e_t83 l) (hk : hp k = some (.cells true 4 (cellsOf (hp k)))) (hc : e_t83.enc (e_t83.dec (cellsOf (hp k))) = cellsOf (hp k)) (hn : roomB (l.length + 1) ti83.bytes = true) : appendA tt.get hp top [70, 70] (mkSl b l) (.slice (some ⟨k, 0, none⟩) 1 1) = some (mkSl top (l ++ [e_t83.dec (cellsOf (hp k))]), appU b l top (mkOb e_t83 (l ++ [e_t83.dec (cellsOf (hp k))])), top + 1) := appendA_oneCR k_st83 t_st83 rfl t_t83 rfl rfl h hk hc hn
@[go_sem] theorem apr_st83 {hp : Hp} {x : Value} {top : Nat} (hx : SlP e_t83 hp x) (hn : roomB (e_t83.rd hp x).length ti83.bytes = true) : appendA tt.get hp top [70, 70] (.slice none 0 0) x = some (mkSl top (e_t83.rd hp x), [(top, mkOb e_t83 (e_t83.rd hp x))], top + 1) := appendA_nilPb k_st83 t_st83 rfl t_t83 rfl rfl hx hn
@[go_sem] theorem ap0_st83 {hp : Hp} {top k : Nat} (hk : hp k = some (.cells true 4 (cellsOf (hp k)))) (hc : e_t83.enc (e_t83.dec (cellsOf (hp k))) = cellsOf (hp k)) : appendA tt.get hp top [70, 70] (.slice none 0 0) (.slice (some ⟨k, 0, none⟩) 1 1) = some (mkSl top [e_t83.dec (cellsOf (hp k))], [(top, mkOb e_t83 [e_t83.dec (cellsOf (hp k))])], top + 1) := appendA_zeroC k_st83 t_st83 rfl t_t83 rfl rfl hk hc
@[go_sem] theorem sa_st83 {hp : Hp} {b top : Nat} {l l2 : List (T_t83)} (h : hp b = mkOb e_t83 l) : hp.sets (appU b l top (mkOb e_t83 l2)) = (hp.set b none).set top (mkOb e_t83 l2) := sets_appU h
@[go_sem] theorem os_st83 {hp : Hp} {b : Nat} {l : List (T_t83)} {i : Nat} (h : hp b = mkOb e_t83 l) (hi : i < l.length) {a0 : Int} {a1 : Int} {a2 : List UInt8} {a3 : List UInt8} : sstore tt.get hp 83 (ptrS (mkSl b l) (i * 4)) (.agg ⟨[.int .u64 (a0), .int .i64 (a1), .string ⟨⟨a2⟩⟩, .string ⟨⟨a3⟩⟩]⟩) = ([(b, mkOb e_t83 (l.set i ⟨a0, a1, a2, a3⟩))], True) := own_storeA (E := e_t83) (cs := e_t83.enc ⟨a0, a1, a2, a3⟩) t_t83 rfl h hi rfl rfl
@[go_sem] theorem of_st83_0 {hp : Hp} {b : Nat} {l : List (T_t83)} {i : Nat} (h : hp b = mkOb e_t83 l) (hi : i < l.length) {x : Int} : sstore tt.get hp 29 (ptrS (mkSl b l) (i * 4)) (.int .u64 (x)) = ([(b, mkOb e_t83 (l.set i { at' l i with at_ := x }))], True) := own_storeF (f := 0) t_uint64 h hi rfl (by decide) rfl rfl
@[go_sem] theorem of_st83_1 {hp : Hp} {b : Nat} {l : List (T_t83)} {i : Nat} (h : hp b = mkOb e_t83 l) (hi : i < l.length) {x : Int} : sstore tt.get hp 3 (ptrS (mkSl b l) (i * 4 + 1)) (.int .i64 (x)) = ([(b, mkOb e_t83 (l.set i { at' l i with ticket := x }))], True) := own_storeF (f := 1) t_int h hi rfl (by decide) rfl rfl
@[go_sem] theorem ow_st83 {b : Nat} {l : List (T_t83)} {hp2 : Hp} : slen tt.get hp2 70 (mkSl b l) = (.int .i64 (l.length : Int), True) := by cases l with | nil => unfold slen mkSl; simp only [k_st83, lenA, t_st83, ti70]; rfl | cons a l => unfold slen mkSl; simp only [k_st83, lenA, t_st83, ti70]; rfl
@[go_sem] theorem ap1_st83 {hp : Hp} {b top k : Nat} {l : List (T_t83)} (h : hp b = mkOb e_t83 l) (hk : hp k = some (.cells true 4 (cellsOf (hp k)))) (hc : e_t83.enc (e_t83.dec (cellsOf (hp k))) = cellsOf (hp k)) (hn : l.length < 16777216) : appendA tt.get hp top [70, 70] (mkSl b l) (.slice (some ⟨k, 0, none⟩) 1 1) = some (mkSl top (l ++ [e_t83.dec (cellsOf (hp k))]), appU b l top (mkOb e_t83 (l ++ [e_t83.dec (cellsOf (hp k))])), top + 1) := appendA_oneC k_st83 t_st83 rfl t_t83 rfl rfl h hk hc hn
end
end Go.Proofs.Ytogndgadipdikaa.Dm
