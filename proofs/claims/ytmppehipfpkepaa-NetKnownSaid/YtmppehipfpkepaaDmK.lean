/- Facts on the types of this seat; how their data lie in memory. -/
import Derived.Test.YtmppehipfpkepaaDmTab
import Derived.Test.YtmppehipfpkepaaDmH
set_option linter.unusedSimpArgs false
namespace Go.Proofs.Ytmppehipfpkepaa.Dm
open Go.Dm
attribute [go_sem] ti3 ti4 ti5 ti9 ti22 ti24 ti28 ti29 ti32 ti34 ti37 ti39 ti40 ti50 ti61 ti63 ti68 ti69 ti70 ti74 ti76 ti82 ti86 ti90 ti91 ti92 ti93 ti94 ti95 ti97 ti99 ti114 ti116 ti117 ti119 ti121 ti124 ti130 ti134 ti136 ti146 ti151
@[go_sem] theorem t_int : tt.get 3 = some ti3 := by kernel_rfl
@[go_sem] theorem k_int : kindOf tt.get 3 = some (.int .i64) := by kernel_rfl
@[go_sem] theorem v_int {op : BinOp} {xo yo : Operand} {x y : Value} : sbin2 tt.get op 3 xo yo x y = sbinI op .i64 x y := sbin2_int k_int
@[go_sem] theorem t_bool : tt.get 4 = some ti4 := by kernel_rfl
@[go_sem] theorem k_bool : kindOf tt.get 4 = some (.bool) := by kernel_rfl
@[go_sem] theorem v_bool {op : BinOp} {xo yo : Operand} {x y : Value} : sbin2 tt.get op 4 xo yo x y = sbinB op x y := sbin2_bool k_bool
@[go_sem] theorem t_uint8 : tt.get 5 = some ti5 := by kernel_rfl
@[go_sem] theorem k_uint8 : kindOf tt.get 5 = some (.int .u8) := by kernel_rfl
@[go_sem] theorem v_uint8 {op : BinOp} {xo yo : Operand} {x y : Value} : sbin2 tt.get op 5 xo yo x y = sbinI op .u8 x y := sbin2_int k_uint8
@[go_sem] theorem t_string : tt.get 9 = some ti9 := by kernel_rfl
@[go_sem] theorem k_string : kindOf tt.get 9 = some (.string) := by kernel_rfl
@[go_sem] theorem v_string {op : BinOp} {xo yo : Operand} {x y : Value} : sbin2 tt.get op 9 xo yo x y = sbinS op x y := sbin2_str k_string
@[go_sem] theorem t_suint8 : tt.get 22 = some ti22 := by kernel_rfl
@[go_sem] theorem k_suint8 : kindOf tt.get 22 = some (.slice 5) := by kernel_rfl
@[go_sem] theorem v_suint8 {op : BinOp} {xo yo : Operand} {x y : Value} : sbin2 tt.get op 22 xo yo x y = sbinX (binA tt.get op 22 xo yo x y) := sbin2_ref (by kernel_rfl)
@[go_sem] theorem n_suint8_eql {xo yo : Operand} {a : Option Addr} {n c : Nat} : binA tt.get .eql 22 xo yo (.slice a n c) (.slice none 0 0) = some (.bool (a.isNone)) := by cases a <;> simp [binA, eqA, t_suint8, ti22]
@[go_sem] theorem n_suint8_neq {xo yo : Operand} {a : Option Addr} {n c : Nat} : binA tt.get .neq 22 xo yo (.slice a n c) (.slice none 0 0) = some (.bool (!a.isNone)) := by cases a <;> simp [binA, eqA, t_suint8, ti22]
@[go_sem] theorem t_pnet_Net : tt.get 24 = some ti24 := by kernel_rfl
@[go_sem] theorem k_pnet_Net : kindOf tt.get 24 = some (.pointer 97) := by kernel_rfl
@[go_sem] theorem v_pnet_Net {op : BinOp} {xo yo : Operand} {x y : Value} : sbin2 tt.get op 24 xo yo x y = sbinX (binA tt.get op 24 xo yo x y) := sbin2_ref (by kernel_rfl)
@[go_sem] theorem n_pnet_Net_eql {xo yo : Operand} {a : Option Addr} : binA tt.get .eql 24 xo yo (.pointer a) (.pointer none) = some (.bool (a.isNone)) := by cases a <;> simp [binA, eqA, t_pnet_Net, ti24]
@[go_sem] theorem n_pnet_Net_neq {xo yo : Operand} {a : Option Addr} : binA tt.get .neq 24 xo yo (.pointer a) (.pointer none) = some (.bool (!a.isNone)) := by cases a <;> simp [binA, eqA, t_pnet_Net, ti24]
@[go_sem] theorem t_Fate : tt.get 28 = some ti28 := by kernel_rfl
theorem fl_Fate : flatOf tt.get 28 = some [.i64, .i64, .i64] := by kernel_rfl
@[go_sem] theorem v_Fate_eql {xo yo : Operand} {x y : Value} : sbin2 tt.get .eql 28 xo yo x y = (.bool (eqNums (aggOf x) (aggOf y)), x = .agg ⟨aggOf x⟩ ∧ y = .agg ⟨aggOf y⟩ ∧ NumsAs [.i64, .i64, .i64] (aggOf x) ∧ NumsAs [.i64, .i64, .i64] (aggOf y)) := sbin2_flat_eql fl_Fate
@[go_sem] theorem v_Fate_neq {xo yo : Operand} {x y : Value} : sbin2 tt.get .neq 28 xo yo x y = (.bool (!eqNums (aggOf x) (aggOf y)), x = .agg ⟨aggOf x⟩ ∧ y = .agg ⟨aggOf y⟩ ∧ NumsAs [.i64, .i64, .i64] (aggOf x) ∧ NumsAs [.i64, .i64, .i64] (aggOf y)) := sbin2_flat_neq fl_Fate
@[go_sem] theorem fa_Fate_0 {b o : Nat} : sfieldAddr tt.get 28 (.pointer (some ⟨b, o, none⟩)) 0 = (.pointer (some ⟨b, o, none⟩), True) := by unfold sfieldAddr; rw [show fieldAddrA tt.get 28 (.pointer (some ⟨b, o, none⟩)) 0 = some (.pointer (some ⟨b, o, none⟩)) from by kernel_rfl]
@[go_sem] theorem fa_Fate_1 {b o : Nat} : sfieldAddr tt.get 28 (.pointer (some ⟨b, o, none⟩)) 1 = (.pointer (some ⟨b, o + 1, none⟩), True) := by unfold sfieldAddr; rw [show fieldAddrA tt.get 28 (.pointer (some ⟨b, o, none⟩)) 1 = some (.pointer (some ⟨b, o + 1, none⟩)) from by kernel_rfl]
@[go_sem] theorem fa_Fate_2 {b o : Nat} : sfieldAddr tt.get 28 (.pointer (some ⟨b, o, none⟩)) 2 = (.pointer (some ⟨b, o + 2, none⟩), True) := by unfold sfieldAddr; rw [show fieldAddrA tt.get 28 (.pointer (some ⟨b, o, none⟩)) 2 = some (.pointer (some ⟨b, o + 2, none⟩)) from by kernel_rfl]
@[go_sem] theorem t_Errno : tt.get 29 = some ti29 := by kernel_rfl
@[go_sem] theorem k_Errno : kindOf tt.get 29 = some (.int .i64) := by kernel_rfl
@[go_sem] theorem v_Errno {op : BinOp} {xo yo : Operand} {x y : Value} : sbin2 tt.get op 29 xo yo x y = sbinI op .i64 x y := sbin2_int k_Errno
@[go_sem] theorem t_uint64 : tt.get 32 = some ti32 := by kernel_rfl
@[go_sem] theorem k_uint64 : kindOf tt.get 32 = some (.int .u64) := by kernel_rfl
@[go_sem] theorem v_uint64 {op : BinOp} {xo yo : Operand} {x y : Value} : sbin2 tt.get op 32 xo yo x y = sbinI op .u64 x y := sbin2_int k_uint64
@[go_sem] theorem t_sArrive : tt.get 34 = some ti34 := by kernel_rfl
@[go_sem] theorem k_sArrive : kindOf tt.get 34 = some (.slice 37) := by kernel_rfl
@[go_sem] theorem v_sArrive {op : BinOp} {xo yo : Operand} {x y : Value} : sbin2 tt.get op 34 xo yo x y = sbinX (binA tt.get op 34 xo yo x y) := sbin2_ref (by kernel_rfl)
@[go_sem] theorem n_sArrive_eql {xo yo : Operand} {a : Option Addr} {n c : Nat} : binA tt.get .eql 34 xo yo (.slice a n c) (.slice none 0 0) = some (.bool (a.isNone)) := by cases a <;> simp [binA, eqA, t_sArrive, ti34]
@[go_sem] theorem n_sArrive_neq {xo yo : Operand} {a : Option Addr} {n c : Nat} : binA tt.get .neq 34 xo yo (.slice a n c) (.slice none 0 0) = some (.bool (!a.isNone)) := by cases a <;> simp [binA, eqA, t_sArrive, ti34]
@[go_sem] theorem t_Arrive : tt.get 37 = some ti37 := by kernel_rfl
@[go_sem] theorem fa_Arrive_0 {b o : Nat} : sfieldAddr tt.get 37 (.pointer (some ⟨b, o, none⟩)) 0 = (.pointer (some ⟨b, o, none⟩), True) := by unfold sfieldAddr; rw [show fieldAddrA tt.get 37 (.pointer (some ⟨b, o, none⟩)) 0 = some (.pointer (some ⟨b, o, none⟩)) from by kernel_rfl]
@[go_sem] theorem fa_Arrive_1 {b o : Nat} : sfieldAddr tt.get 37 (.pointer (some ⟨b, o, none⟩)) 1 = (.pointer (some ⟨b, o + 1, none⟩), True) := by unfold sfieldAddr; rw [show fieldAddrA tt.get 37 (.pointer (some ⟨b, o, none⟩)) 1 = some (.pointer (some ⟨b, o + 1, none⟩)) from by kernel_rfl]
@[go_sem] theorem fa_Arrive_2 {b o : Nat} : sfieldAddr tt.get 37 (.pointer (some ⟨b, o, none⟩)) 2 = (.pointer (some ⟨b, o + 2, none⟩), True) := by unfold sfieldAddr; rw [show fieldAddrA tt.get 37 (.pointer (some ⟨b, o, none⟩)) 2 = some (.pointer (some ⟨b, o + 2, none⟩)) from by kernel_rfl]
@[go_sem] theorem t_sRule : tt.get 39 = some ti39 := by kernel_rfl
@[go_sem] theorem k_sRule : kindOf tt.get 39 = some (.slice 63) := by kernel_rfl
@[go_sem] theorem v_sRule {op : BinOp} {xo yo : Operand} {x y : Value} : sbin2 tt.get op 39 xo yo x y = sbinX (binA tt.get op 39 xo yo x y) := sbin2_ref (by kernel_rfl)
@[go_sem] theorem n_sRule_eql {xo yo : Operand} {a : Option Addr} {n c : Nat} : binA tt.get .eql 39 xo yo (.slice a n c) (.slice none 0 0) = some (.bool (a.isNone)) := by cases a <;> simp [binA, eqA, t_sRule, ti39]
@[go_sem] theorem n_sRule_neq {xo yo : Operand} {a : Option Addr} {n c : Nat} : binA tt.get .neq 39 xo yo (.slice a n c) (.slice none 0 0) = some (.bool (!a.isNone)) := by cases a <;> simp [binA, eqA, t_sRule, ti39]
@[go_sem] theorem t_sint : tt.get 40 = some ti40 := by kernel_rfl
@[go_sem] theorem k_sint : kindOf tt.get 40 = some (.slice 3) := by kernel_rfl
@[go_sem] theorem v_sint {op : BinOp} {xo yo : Operand} {x y : Value} : sbin2 tt.get op 40 xo yo x y = sbinX (binA tt.get op 40 xo yo x y) := sbin2_ref (by kernel_rfl)
@[go_sem] theorem n_sint_eql {xo yo : Operand} {a : Option Addr} {n c : Nat} : binA tt.get .eql 40 xo yo (.slice a n c) (.slice none 0 0) = some (.bool (a.isNone)) := by cases a <;> simp [binA, eqA, t_sint, ti40]
@[go_sem] theorem n_sint_neq {xo yo : Operand} {a : Option Addr} {n c : Nat} : binA tt.get .neq 40 xo yo (.slice a n c) (.slice none 0 0) = some (.bool (!a.isNone)) := by cases a <;> simp [binA, eqA, t_sint, ti40]
@[go_sem] theorem t_sLink : tt.get 50 = some ti50 := by kernel_rfl
@[go_sem] theorem k_sLink : kindOf tt.get 50 = some (.slice 61) := by kernel_rfl
@[go_sem] theorem v_sLink {op : BinOp} {xo yo : Operand} {x y : Value} : sbin2 tt.get op 50 xo yo x y = sbinX (binA tt.get op 50 xo yo x y) := sbin2_ref (by kernel_rfl)
@[go_sem] theorem n_sLink_eql {xo yo : Operand} {a : Option Addr} {n c : Nat} : binA tt.get .eql 50 xo yo (.slice a n c) (.slice none 0 0) = some (.bool (a.isNone)) := by cases a <;> simp [binA, eqA, t_sLink, ti50]
@[go_sem] theorem n_sLink_neq {xo yo : Operand} {a : Option Addr} {n c : Nat} : binA tt.get .neq 50 xo yo (.slice a n c) (.slice none 0 0) = some (.bool (!a.isNone)) := by cases a <;> simp [binA, eqA, t_sLink, ti50]
@[go_sem] theorem t_Link : tt.get 61 = some ti61 := by kernel_rfl
@[go_sem] theorem fa_Link_0 {b o : Nat} : sfieldAddr tt.get 61 (.pointer (some ⟨b, o, none⟩)) 0 = (.pointer (some ⟨b, o, none⟩), True) := by unfold sfieldAddr; rw [show fieldAddrA tt.get 61 (.pointer (some ⟨b, o, none⟩)) 0 = some (.pointer (some ⟨b, o, none⟩)) from by kernel_rfl]
@[go_sem] theorem fa_Link_1 {b o : Nat} : sfieldAddr tt.get 61 (.pointer (some ⟨b, o, none⟩)) 1 = (.pointer (some ⟨b, o + 1, none⟩), True) := by unfold sfieldAddr; rw [show fieldAddrA tt.get 61 (.pointer (some ⟨b, o, none⟩)) 1 = some (.pointer (some ⟨b, o + 1, none⟩)) from by kernel_rfl]
@[go_sem] theorem fa_Link_2 {b o : Nat} : sfieldAddr tt.get 61 (.pointer (some ⟨b, o, none⟩)) 2 = (.pointer (some ⟨b, o + 2, none⟩), True) := by unfold sfieldAddr; rw [show fieldAddrA tt.get 61 (.pointer (some ⟨b, o, none⟩)) 2 = some (.pointer (some ⟨b, o + 2, none⟩)) from by kernel_rfl]
@[go_sem] theorem t_Rule : tt.get 63 = some ti63 := by kernel_rfl
@[go_sem] theorem fa_Rule_0 {b o : Nat} : sfieldAddr tt.get 63 (.pointer (some ⟨b, o, none⟩)) 0 = (.pointer (some ⟨b, o, none⟩), True) := by unfold sfieldAddr; rw [show fieldAddrA tt.get 63 (.pointer (some ⟨b, o, none⟩)) 0 = some (.pointer (some ⟨b, o, none⟩)) from by kernel_rfl]
@[go_sem] theorem fa_Rule_1 {b o : Nat} : sfieldAddr tt.get 63 (.pointer (some ⟨b, o, none⟩)) 1 = (.pointer (some ⟨b, o + 1, none⟩), True) := by unfold sfieldAddr; rw [show fieldAddrA tt.get 63 (.pointer (some ⟨b, o, none⟩)) 1 = some (.pointer (some ⟨b, o + 1, none⟩)) from by kernel_rfl]
@[go_sem] theorem fa_Rule_2 {b o : Nat} : sfieldAddr tt.get 63 (.pointer (some ⟨b, o, none⟩)) 2 = (.pointer (some ⟨b, o + 2, none⟩), True) := by unfold sfieldAddr; rw [show fieldAddrA tt.get 63 (.pointer (some ⟨b, o, none⟩)) 2 = some (.pointer (some ⟨b, o + 2, none⟩)) from by kernel_rfl]
@[go_sem] theorem fa_Rule_3 {b o : Nat} : sfieldAddr tt.get 63 (.pointer (some ⟨b, o, none⟩)) 3 = (.pointer (some ⟨b, o + 3, none⟩), True) := by unfold sfieldAddr; rw [show fieldAddrA tt.get 63 (.pointer (some ⟨b, o, none⟩)) 3 = some (.pointer (some ⟨b, o + 3, none⟩)) from by kernel_rfl]
@[go_sem] theorem fa_Rule_4 {b o : Nat} : sfieldAddr tt.get 63 (.pointer (some ⟨b, o, none⟩)) 4 = (.pointer (some ⟨b, o + 4, none⟩), True) := by unfold sfieldAddr; rw [show fieldAddrA tt.get 63 (.pointer (some ⟨b, o, none⟩)) 4 = some (.pointer (some ⟨b, o + 4, none⟩)) from by kernel_rfl]
@[go_sem] theorem t_a25bool : tt.get 68 = some ti68 := by kernel_rfl
@[go_sem] theorem k_a25bool : kindOf tt.get 68 = some (.array 25 4) := by kernel_rfl
@[go_sem] theorem t_a25int : tt.get 69 = some ti69 := by kernel_rfl
@[go_sem] theorem k_a25int : kindOf tt.get 69 = some (.array 25 3) := by kernel_rfl
@[go_sem] theorem t_a25a25int : tt.get 70 = some ti70 := by kernel_rfl
@[go_sem] theorem k_a25a25int : kindOf tt.get 70 = some (.array 25 69) := by kernel_rfl
@[go_sem] theorem t_sEdge : tt.get 74 = some ti74 := by kernel_rfl
@[go_sem] theorem k_sEdge : kindOf tt.get 74 = some (.slice 86) := by kernel_rfl
@[go_sem] theorem v_sEdge {op : BinOp} {xo yo : Operand} {x y : Value} : sbin2 tt.get op 74 xo yo x y = sbinX (binA tt.get op 74 xo yo x y) := sbin2_ref (by kernel_rfl)
@[go_sem] theorem n_sEdge_eql {xo yo : Operand} {a : Option Addr} {n c : Nat} : binA tt.get .eql 74 xo yo (.slice a n c) (.slice none 0 0) = some (.bool (a.isNone)) := by cases a <;> simp [binA, eqA, t_sEdge, ti74]
@[go_sem] theorem n_sEdge_neq {xo yo : Operand} {a : Option Addr} {n c : Nat} : binA tt.get .neq 74 xo yo (.slice a n c) (.slice none 0 0) = some (.bool (!a.isNone)) := by cases a <;> simp [binA, eqA, t_sEdge, ti74]
@[go_sem] theorem t_Graph : tt.get 76 = some ti76 := by kernel_rfl
@[go_sem] theorem fa_Graph_0 {b o : Nat} : sfieldAddr tt.get 76 (.pointer (some ⟨b, o, none⟩)) 0 = (.pointer (some ⟨b, o, none⟩), True) := by unfold sfieldAddr; rw [show fieldAddrA tt.get 76 (.pointer (some ⟨b, o, none⟩)) 0 = some (.pointer (some ⟨b, o, none⟩)) from by kernel_rfl]
@[go_sem] theorem fa_Graph_1 {b o : Nat} : sfieldAddr tt.get 76 (.pointer (some ⟨b, o, none⟩)) 1 = (.pointer (some ⟨b, o + 1, none⟩), True) := by unfold sfieldAddr; rw [show fieldAddrA tt.get 76 (.pointer (some ⟨b, o, none⟩)) 1 = some (.pointer (some ⟨b, o + 1, none⟩)) from by kernel_rfl]
@[go_sem] theorem t_sAdj : tt.get 82 = some ti82 := by kernel_rfl
@[go_sem] theorem k_sAdj : kindOf tt.get 82 = some (.slice 90) := by kernel_rfl
@[go_sem] theorem v_sAdj {op : BinOp} {xo yo : Operand} {x y : Value} : sbin2 tt.get op 82 xo yo x y = sbinX (binA tt.get op 82 xo yo x y) := sbin2_ref (by kernel_rfl)
@[go_sem] theorem n_sAdj_eql {xo yo : Operand} {a : Option Addr} {n c : Nat} : binA tt.get .eql 82 xo yo (.slice a n c) (.slice none 0 0) = some (.bool (a.isNone)) := by cases a <;> simp [binA, eqA, t_sAdj, ti82]
@[go_sem] theorem n_sAdj_neq {xo yo : Operand} {a : Option Addr} {n c : Nat} : binA tt.get .neq 82 xo yo (.slice a n c) (.slice none 0 0) = some (.bool (!a.isNone)) := by cases a <;> simp [binA, eqA, t_sAdj, ti82]
@[go_sem] theorem t_Edge : tt.get 86 = some ti86 := by kernel_rfl
theorem fl_Edge : flatOf tt.get 86 = some [.i64, .i64, .i64] := by kernel_rfl
@[go_sem] theorem v_Edge_eql {xo yo : Operand} {x y : Value} : sbin2 tt.get .eql 86 xo yo x y = (.bool (eqNums (aggOf x) (aggOf y)), x = .agg ⟨aggOf x⟩ ∧ y = .agg ⟨aggOf y⟩ ∧ NumsAs [.i64, .i64, .i64] (aggOf x) ∧ NumsAs [.i64, .i64, .i64] (aggOf y)) := sbin2_flat_eql fl_Edge
@[go_sem] theorem v_Edge_neq {xo yo : Operand} {x y : Value} : sbin2 tt.get .neq 86 xo yo x y = (.bool (!eqNums (aggOf x) (aggOf y)), x = .agg ⟨aggOf x⟩ ∧ y = .agg ⟨aggOf y⟩ ∧ NumsAs [.i64, .i64, .i64] (aggOf x) ∧ NumsAs [.i64, .i64, .i64] (aggOf y)) := sbin2_flat_neq fl_Edge
@[go_sem] theorem fa_Edge_0 {b o : Nat} : sfieldAddr tt.get 86 (.pointer (some ⟨b, o, none⟩)) 0 = (.pointer (some ⟨b, o, none⟩), True) := by unfold sfieldAddr; rw [show fieldAddrA tt.get 86 (.pointer (some ⟨b, o, none⟩)) 0 = some (.pointer (some ⟨b, o, none⟩)) from by kernel_rfl]
@[go_sem] theorem fa_Edge_1 {b o : Nat} : sfieldAddr tt.get 86 (.pointer (some ⟨b, o, none⟩)) 1 = (.pointer (some ⟨b, o + 1, none⟩), True) := by unfold sfieldAddr; rw [show fieldAddrA tt.get 86 (.pointer (some ⟨b, o, none⟩)) 1 = some (.pointer (some ⟨b, o + 1, none⟩)) from by kernel_rfl]
@[go_sem] theorem fa_Edge_2 {b o : Nat} : sfieldAddr tt.get 86 (.pointer (some ⟨b, o, none⟩)) 2 = (.pointer (some ⟨b, o + 2, none⟩), True) := by unfold sfieldAddr; rw [show fieldAddrA tt.get 86 (.pointer (some ⟨b, o, none⟩)) 2 = some (.pointer (some ⟨b, o + 2, none⟩)) from by kernel_rfl]
@[go_sem] theorem t_Adj : tt.get 90 = some ti90 := by kernel_rfl
theorem fl_Adj : flatOf tt.get 90 = some [.i64, .i64] := by kernel_rfl
@[go_sem] theorem v_Adj_eql {xo yo : Operand} {x y : Value} : sbin2 tt.get .eql 90 xo yo x y = (.bool (eqNums (aggOf x) (aggOf y)), x = .agg ⟨aggOf x⟩ ∧ y = .agg ⟨aggOf y⟩ ∧ NumsAs [.i64, .i64] (aggOf x) ∧ NumsAs [.i64, .i64] (aggOf y)) := sbin2_flat_eql fl_Adj
@[go_sem] theorem v_Adj_neq {xo yo : Operand} {x y : Value} : sbin2 tt.get .neq 90 xo yo x y = (.bool (!eqNums (aggOf x) (aggOf y)), x = .agg ⟨aggOf x⟩ ∧ y = .agg ⟨aggOf y⟩ ∧ NumsAs [.i64, .i64] (aggOf x) ∧ NumsAs [.i64, .i64] (aggOf y)) := sbin2_flat_neq fl_Adj
@[go_sem] theorem fa_Adj_0 {b o : Nat} : sfieldAddr tt.get 90 (.pointer (some ⟨b, o, none⟩)) 0 = (.pointer (some ⟨b, o, none⟩), True) := by unfold sfieldAddr; rw [show fieldAddrA tt.get 90 (.pointer (some ⟨b, o, none⟩)) 0 = some (.pointer (some ⟨b, o, none⟩)) from by kernel_rfl]
@[go_sem] theorem fa_Adj_1 {b o : Nat} : sfieldAddr tt.get 90 (.pointer (some ⟨b, o, none⟩)) 1 = (.pointer (some ⟨b, o + 1, none⟩), True) := by unfold sfieldAddr; rw [show fieldAddrA tt.get 90 (.pointer (some ⟨b, o, none⟩)) 1 = some (.pointer (some ⟨b, o + 1, none⟩)) from by kernel_rfl]
@[go_sem] theorem t_m_pair_int : tt.get 91 = some ti91 := by kernel_rfl
@[go_sem] theorem k_m_pair_int : kindOf tt.get 91 = some (.map 99 3) := by kernel_rfl
@[go_sem] theorem v_m_pair_int {op : BinOp} {xo yo : Operand} {x y : Value} : sbin2 tt.get op 91 xo yo x y = sbinX (binA tt.get op 91 xo yo x y) := sbin2_ref (by kernel_rfl)
@[go_sem] theorem n_m_pair_int_eql {xo yo : Operand} {a : Option Nat} : binA tt.get .eql 91 xo yo (.map a) (.map none) = some (.bool (a.isNone)) := by cases a <;> simp [binA, eqA, t_m_pair_int, ti91]
@[go_sem] theorem n_m_pair_int_neq {xo yo : Operand} {a : Option Nat} : binA tt.get .neq 91 xo yo (.map a) (.map none) = some (.bool (!a.isNone)) := by cases a <;> simp [binA, eqA, t_m_pair_int, ti91]
@[go_sem] theorem le_m_pair_int {hp : Hp} {b : Nat} : slen tt.get hp 91 (.map (some b)) = (match hp b with | some (.map es _) => (.int .i64 (Int.ofNat es.length), True) | _ => (undef, False)) := by unfold slen; simp only [k_m_pair_int, lenA, t_m_pair_int, ti91]; cases hp b with | none => rfl | some o => cases o <;> rfl
@[go_sem] theorem ln_m_pair_int {hp : Hp} : slen tt.get hp 91 (.map none) = (.int .i64 0, True) := by unfold slen; simp only [k_m_pair_int, lenA, t_m_pair_int, ti91]
@[go_sem] theorem t_m_pair_bool : tt.get 92 = some ti92 := by kernel_rfl
@[go_sem] theorem k_m_pair_bool : kindOf tt.get 92 = some (.map 99 4) := by kernel_rfl
@[go_sem] theorem v_m_pair_bool {op : BinOp} {xo yo : Operand} {x y : Value} : sbin2 tt.get op 92 xo yo x y = sbinX (binA tt.get op 92 xo yo x y) := sbin2_ref (by kernel_rfl)
@[go_sem] theorem n_m_pair_bool_eql {xo yo : Operand} {a : Option Nat} : binA tt.get .eql 92 xo yo (.map a) (.map none) = some (.bool (a.isNone)) := by cases a <;> simp [binA, eqA, t_m_pair_bool, ti92]
@[go_sem] theorem n_m_pair_bool_neq {xo yo : Operand} {a : Option Nat} : binA tt.get .neq 92 xo yo (.map a) (.map none) = some (.bool (!a.isNone)) := by cases a <;> simp [binA, eqA, t_m_pair_bool, ti92]
@[go_sem] theorem le_m_pair_bool {hp : Hp} {b : Nat} : slen tt.get hp 92 (.map (some b)) = (match hp b with | some (.map es _) => (.int .i64 (Int.ofNat es.length), True) | _ => (undef, False)) := by unfold slen; simp only [k_m_pair_bool, lenA, t_m_pair_bool, ti92]; cases hp b with | none => rfl | some o => cases o <;> rfl
@[go_sem] theorem ln_m_pair_bool {hp : Hp} : slen tt.get hp 92 (.map none) = (.int .i64 0, True) := by unfold slen; simp only [k_m_pair_bool, lenA, t_m_pair_bool, ti92]
@[go_sem] theorem t_m_int_bool : tt.get 93 = some ti93 := by kernel_rfl
@[go_sem] theorem k_m_int_bool : kindOf tt.get 93 = some (.map 3 4) := by kernel_rfl
@[go_sem] theorem v_m_int_bool {op : BinOp} {xo yo : Operand} {x y : Value} : sbin2 tt.get op 93 xo yo x y = sbinX (binA tt.get op 93 xo yo x y) := sbin2_ref (by kernel_rfl)
@[go_sem] theorem n_m_int_bool_eql {xo yo : Operand} {a : Option Nat} : binA tt.get .eql 93 xo yo (.map a) (.map none) = some (.bool (a.isNone)) := by cases a <;> simp [binA, eqA, t_m_int_bool, ti93]
@[go_sem] theorem n_m_int_bool_neq {xo yo : Operand} {a : Option Nat} : binA tt.get .neq 93 xo yo (.map a) (.map none) = some (.bool (!a.isNone)) := by cases a <;> simp [binA, eqA, t_m_int_bool, ti93]
@[go_sem] theorem le_m_int_bool {hp : Hp} {b : Nat} : slen tt.get hp 93 (.map (some b)) = (match hp b with | some (.map es _) => (.int .i64 (Int.ofNat es.length), True) | _ => (undef, False)) := by unfold slen; simp only [k_m_int_bool, lenA, t_m_int_bool, ti93]; cases hp b with | none => rfl | some o => cases o <;> rfl
@[go_sem] theorem ln_m_int_bool {hp : Hp} : slen tt.get hp 93 (.map none) = (.int .i64 0, True) := by unfold slen; simp only [k_m_int_bool, lenA, t_m_int_bool, ti93]
@[go_sem] theorem t_pPlan : tt.get 94 = some ti94 := by kernel_rfl
@[go_sem] theorem k_pPlan : kindOf tt.get 94 = some (.pointer 119) := by kernel_rfl
@[go_sem] theorem v_pPlan {op : BinOp} {xo yo : Operand} {x y : Value} : sbin2 tt.get op 94 xo yo x y = sbinX (binA tt.get op 94 xo yo x y) := sbin2_ref (by kernel_rfl)
@[go_sem] theorem n_pPlan_eql {xo yo : Operand} {a : Option Addr} : binA tt.get .eql 94 xo yo (.pointer a) (.pointer none) = some (.bool (a.isNone)) := by cases a <;> simp [binA, eqA, t_pPlan, ti94]
@[go_sem] theorem n_pPlan_neq {xo yo : Operand} {a : Option Addr} : binA tt.get .neq 94 xo yo (.pointer a) (.pointer none) = some (.bool (!a.isNone)) := by cases a <;> simp [binA, eqA, t_pPlan, ti94]
@[go_sem] theorem t_pt116 : tt.get 95 = some ti95 := by kernel_rfl
@[go_sem] theorem k_pt116 : kindOf tt.get 95 = some (.pointer 116) := by kernel_rfl
@[go_sem] theorem v_pt116 {op : BinOp} {xo yo : Operand} {x y : Value} : sbin2 tt.get op 95 xo yo x y = sbinX (binA tt.get op 95 xo yo x y) := sbin2_ref (by kernel_rfl)
@[go_sem] theorem n_pt116_eql {xo yo : Operand} {a : Option Addr} : binA tt.get .eql 95 xo yo (.pointer a) (.pointer none) = some (.bool (a.isNone)) := by cases a <;> simp [binA, eqA, t_pt116, ti95]
@[go_sem] theorem n_pt116_neq {xo yo : Operand} {a : Option Addr} : binA tt.get .neq 95 xo yo (.pointer a) (.pointer none) = some (.bool (!a.isNone)) := by cases a <;> simp [binA, eqA, t_pt116, ti95]
@[go_sem] theorem t_net_Net : tt.get 97 = some ti97 := by kernel_rfl
@[go_sem] theorem fa_net_Net_0 {b o : Nat} : sfieldAddr tt.get 97 (.pointer (some ⟨b, o, none⟩)) 0 = (.pointer (some ⟨b, o, none⟩), True) := by unfold sfieldAddr; rw [show fieldAddrA tt.get 97 (.pointer (some ⟨b, o, none⟩)) 0 = some (.pointer (some ⟨b, o, none⟩)) from by kernel_rfl]
@[go_sem] theorem fa_net_Net_1 {b o : Nat} : sfieldAddr tt.get 97 (.pointer (some ⟨b, o, none⟩)) 1 = (.pointer (some ⟨b, o + 1, none⟩), True) := by unfold sfieldAddr; rw [show fieldAddrA tt.get 97 (.pointer (some ⟨b, o, none⟩)) 1 = some (.pointer (some ⟨b, o + 1, none⟩)) from by kernel_rfl]
@[go_sem] theorem fa_net_Net_2 {b o : Nat} : sfieldAddr tt.get 97 (.pointer (some ⟨b, o, none⟩)) 2 = (.pointer (some ⟨b, o + 2, none⟩), True) := by unfold sfieldAddr; rw [show fieldAddrA tt.get 97 (.pointer (some ⟨b, o, none⟩)) 2 = some (.pointer (some ⟨b, o + 2, none⟩)) from by kernel_rfl]
@[go_sem] theorem fa_net_Net_3 {b o : Nat} : sfieldAddr tt.get 97 (.pointer (some ⟨b, o, none⟩)) 3 = (.pointer (some ⟨b, o + 3, none⟩), True) := by unfold sfieldAddr; rw [show fieldAddrA tt.get 97 (.pointer (some ⟨b, o, none⟩)) 3 = some (.pointer (some ⟨b, o + 3, none⟩)) from by kernel_rfl]
@[go_sem] theorem fa_net_Net_4 {b o : Nat} : sfieldAddr tt.get 97 (.pointer (some ⟨b, o, none⟩)) 4 = (.pointer (some ⟨b, o + 4, none⟩), True) := by unfold sfieldAddr; rw [show fieldAddrA tt.get 97 (.pointer (some ⟨b, o, none⟩)) 4 = some (.pointer (some ⟨b, o + 4, none⟩)) from by kernel_rfl]
@[go_sem] theorem fa_net_Net_5 {b o : Nat} : sfieldAddr tt.get 97 (.pointer (some ⟨b, o, none⟩)) 5 = (.pointer (some ⟨b, o + 5, none⟩), True) := by unfold sfieldAddr; rw [show fieldAddrA tt.get 97 (.pointer (some ⟨b, o, none⟩)) 5 = some (.pointer (some ⟨b, o + 5, none⟩)) from by kernel_rfl]
@[go_sem] theorem fa_net_Net_6 {b o : Nat} : sfieldAddr tt.get 97 (.pointer (some ⟨b, o, none⟩)) 6 = (.pointer (some ⟨b, o + 6, none⟩), True) := by unfold sfieldAddr; rw [show fieldAddrA tt.get 97 (.pointer (some ⟨b, o, none⟩)) 6 = some (.pointer (some ⟨b, o + 6, none⟩)) from by kernel_rfl]
@[go_sem] theorem fa_net_Net_7 {b o : Nat} : sfieldAddr tt.get 97 (.pointer (some ⟨b, o, none⟩)) 7 = (.pointer (some ⟨b, o + 7, none⟩), True) := by unfold sfieldAddr; rw [show fieldAddrA tt.get 97 (.pointer (some ⟨b, o, none⟩)) 7 = some (.pointer (some ⟨b, o + 7, none⟩)) from by kernel_rfl]
@[go_sem] theorem t_pair : tt.get 99 = some ti99 := by kernel_rfl
theorem fl_pair : flatOf tt.get 99 = some [.i64, .i64] := by kernel_rfl
@[go_sem] theorem v_pair_eql {xo yo : Operand} {x y : Value} : sbin2 tt.get .eql 99 xo yo x y = (.bool (eqNums (aggOf x) (aggOf y)), x = .agg ⟨aggOf x⟩ ∧ y = .agg ⟨aggOf y⟩ ∧ NumsAs [.i64, .i64] (aggOf x) ∧ NumsAs [.i64, .i64] (aggOf y)) := sbin2_flat_eql fl_pair
@[go_sem] theorem v_pair_neq {xo yo : Operand} {x y : Value} : sbin2 tt.get .neq 99 xo yo x y = (.bool (!eqNums (aggOf x) (aggOf y)), x = .agg ⟨aggOf x⟩ ∧ y = .agg ⟨aggOf y⟩ ∧ NumsAs [.i64, .i64] (aggOf x) ∧ NumsAs [.i64, .i64] (aggOf y)) := sbin2_flat_neq fl_pair
@[go_sem] theorem fa_pair_0 {b o : Nat} : sfieldAddr tt.get 99 (.pointer (some ⟨b, o, none⟩)) 0 = (.pointer (some ⟨b, o, none⟩), True) := by unfold sfieldAddr; rw [show fieldAddrA tt.get 99 (.pointer (some ⟨b, o, none⟩)) 0 = some (.pointer (some ⟨b, o, none⟩)) from by kernel_rfl]
@[go_sem] theorem fa_pair_1 {b o : Nat} : sfieldAddr tt.get 99 (.pointer (some ⟨b, o, none⟩)) 1 = (.pointer (some ⟨b, o + 1, none⟩), True) := by unfold sfieldAddr; rw [show fieldAddrA tt.get 99 (.pointer (some ⟨b, o, none⟩)) 1 = some (.pointer (some ⟨b, o + 1, none⟩)) from by kernel_rfl]
@[go_sem] theorem t_st124 : tt.get 114 = some ti114 := by kernel_rfl
@[go_sem] theorem k_st124 : kindOf tt.get 114 = some (.slice 124) := by kernel_rfl
@[go_sem] theorem v_st124 {op : BinOp} {xo yo : Operand} {x y : Value} : sbin2 tt.get op 114 xo yo x y = sbinX (binA tt.get op 114 xo yo x y) := sbin2_ref (by kernel_rfl)
@[go_sem] theorem n_st124_eql {xo yo : Operand} {a : Option Addr} {n c : Nat} : binA tt.get .eql 114 xo yo (.slice a n c) (.slice none 0 0) = some (.bool (a.isNone)) := by cases a <;> simp [binA, eqA, t_st124, ti114]
@[go_sem] theorem n_st124_neq {xo yo : Operand} {a : Option Addr} {n c : Nat} : binA tt.get .neq 114 xo yo (.slice a n c) (.slice none 0 0) = some (.bool (!a.isNone)) := by cases a <;> simp [binA, eqA, t_st124, ti114]
@[go_sem] theorem t_t116 : tt.get 116 = some ti116 := by kernel_rfl
@[go_sem] theorem fa_t116_0 {b o : Nat} : sfieldAddr tt.get 116 (.pointer (some ⟨b, o, none⟩)) 0 = (.pointer (some ⟨b, o, none⟩), True) := by unfold sfieldAddr; rw [show fieldAddrA tt.get 116 (.pointer (some ⟨b, o, none⟩)) 0 = some (.pointer (some ⟨b, o, none⟩)) from by kernel_rfl]
@[go_sem] theorem fa_t116_1 {b o : Nat} : sfieldAddr tt.get 116 (.pointer (some ⟨b, o, none⟩)) 1 = (.pointer (some ⟨b, o + 1, none⟩), True) := by unfold sfieldAddr; rw [show fieldAddrA tt.get 116 (.pointer (some ⟨b, o, none⟩)) 1 = some (.pointer (some ⟨b, o + 1, none⟩)) from by kernel_rfl]
@[go_sem] theorem fa_t116_2 {b o : Nat} : sfieldAddr tt.get 116 (.pointer (some ⟨b, o, none⟩)) 2 = (.pointer (some ⟨b, o + 2, none⟩), True) := by unfold sfieldAddr; rw [show fieldAddrA tt.get 116 (.pointer (some ⟨b, o, none⟩)) 2 = some (.pointer (some ⟨b, o + 2, none⟩)) from by kernel_rfl]
@[go_sem] theorem t_m_message_Rule : tt.get 117 = some ti117 := by kernel_rfl
@[go_sem] theorem k_m_message_Rule : kindOf tt.get 117 = some (.map 121 63) := by kernel_rfl
@[go_sem] theorem v_m_message_Rule {op : BinOp} {xo yo : Operand} {x y : Value} : sbin2 tt.get op 117 xo yo x y = sbinX (binA tt.get op 117 xo yo x y) := sbin2_ref (by kernel_rfl)
@[go_sem] theorem n_m_message_Rule_eql {xo yo : Operand} {a : Option Nat} : binA tt.get .eql 117 xo yo (.map a) (.map none) = some (.bool (a.isNone)) := by cases a <;> simp [binA, eqA, t_m_message_Rule, ti117]
@[go_sem] theorem n_m_message_Rule_neq {xo yo : Operand} {a : Option Nat} : binA tt.get .neq 117 xo yo (.map a) (.map none) = some (.bool (!a.isNone)) := by cases a <;> simp [binA, eqA, t_m_message_Rule, ti117]
@[go_sem] theorem le_m_message_Rule {hp : Hp} {b : Nat} : slen tt.get hp 117 (.map (some b)) = (match hp b with | some (.map es _) => (.int .i64 (Int.ofNat es.length), True) | _ => (undef, False)) := by unfold slen; simp only [k_m_message_Rule, lenA, t_m_message_Rule, ti117]; cases hp b with | none => rfl | some o => cases o <;> rfl
@[go_sem] theorem ln_m_message_Rule {hp : Hp} : slen tt.get hp 117 (.map none) = (.int .i64 0, True) := by unfold slen; simp only [k_m_message_Rule, lenA, t_m_message_Rule, ti117]
@[go_sem] theorem t_Plan : tt.get 119 = some ti119 := by kernel_rfl
@[go_sem] theorem fa_Plan_0 {b o : Nat} : sfieldAddr tt.get 119 (.pointer (some ⟨b, o, none⟩)) 0 = (.pointer (some ⟨b, o, none⟩), True) := by unfold sfieldAddr; rw [show fieldAddrA tt.get 119 (.pointer (some ⟨b, o, none⟩)) 0 = some (.pointer (some ⟨b, o, none⟩)) from by kernel_rfl]
@[go_sem] theorem fa_Plan_1 {b o : Nat} : sfieldAddr tt.get 119 (.pointer (some ⟨b, o, none⟩)) 1 = (.pointer (some ⟨b, o + 1, none⟩), True) := by unfold sfieldAddr; rw [show fieldAddrA tt.get 119 (.pointer (some ⟨b, o, none⟩)) 1 = some (.pointer (some ⟨b, o + 1, none⟩)) from by kernel_rfl]
@[go_sem] theorem t_message : tt.get 121 = some ti121 := by kernel_rfl
theorem fl_message : flatOf tt.get 121 = some [.i64, .i64, .i64] := by kernel_rfl
@[go_sem] theorem v_message_eql {xo yo : Operand} {x y : Value} : sbin2 tt.get .eql 121 xo yo x y = (.bool (eqNums (aggOf x) (aggOf y)), x = .agg ⟨aggOf x⟩ ∧ y = .agg ⟨aggOf y⟩ ∧ NumsAs [.i64, .i64, .i64] (aggOf x) ∧ NumsAs [.i64, .i64, .i64] (aggOf y)) := sbin2_flat_eql fl_message
@[go_sem] theorem v_message_neq {xo yo : Operand} {x y : Value} : sbin2 tt.get .neq 121 xo yo x y = (.bool (!eqNums (aggOf x) (aggOf y)), x = .agg ⟨aggOf x⟩ ∧ y = .agg ⟨aggOf y⟩ ∧ NumsAs [.i64, .i64, .i64] (aggOf x) ∧ NumsAs [.i64, .i64, .i64] (aggOf y)) := sbin2_flat_neq fl_message
@[go_sem] theorem fa_message_0 {b o : Nat} : sfieldAddr tt.get 121 (.pointer (some ⟨b, o, none⟩)) 0 = (.pointer (some ⟨b, o, none⟩), True) := by unfold sfieldAddr; rw [show fieldAddrA tt.get 121 (.pointer (some ⟨b, o, none⟩)) 0 = some (.pointer (some ⟨b, o, none⟩)) from by kernel_rfl]
@[go_sem] theorem fa_message_1 {b o : Nat} : sfieldAddr tt.get 121 (.pointer (some ⟨b, o, none⟩)) 1 = (.pointer (some ⟨b, o + 1, none⟩), True) := by unfold sfieldAddr; rw [show fieldAddrA tt.get 121 (.pointer (some ⟨b, o, none⟩)) 1 = some (.pointer (some ⟨b, o + 1, none⟩)) from by kernel_rfl]
@[go_sem] theorem fa_message_2 {b o : Nat} : sfieldAddr tt.get 121 (.pointer (some ⟨b, o, none⟩)) 2 = (.pointer (some ⟨b, o + 2, none⟩), True) := by unfold sfieldAddr; rw [show fieldAddrA tt.get 121 (.pointer (some ⟨b, o, none⟩)) 2 = some (.pointer (some ⟨b, o + 2, none⟩)) from by kernel_rfl]
@[go_sem] theorem t_t124 : tt.get 124 = some ti124 := by kernel_rfl
@[go_sem] theorem fa_t124_0 {b o : Nat} : sfieldAddr tt.get 124 (.pointer (some ⟨b, o, none⟩)) 0 = (.pointer (some ⟨b, o, none⟩), True) := by unfold sfieldAddr; rw [show fieldAddrA tt.get 124 (.pointer (some ⟨b, o, none⟩)) 0 = some (.pointer (some ⟨b, o, none⟩)) from by kernel_rfl]
@[go_sem] theorem fa_t124_1 {b o : Nat} : sfieldAddr tt.get 124 (.pointer (some ⟨b, o, none⟩)) 1 = (.pointer (some ⟨b, o + 1, none⟩), True) := by unfold sfieldAddr; rw [show fieldAddrA tt.get 124 (.pointer (some ⟨b, o, none⟩)) 1 = some (.pointer (some ⟨b, o + 1, none⟩)) from by kernel_rfl]
@[go_sem] theorem fa_t124_2 {b o : Nat} : sfieldAddr tt.get 124 (.pointer (some ⟨b, o, none⟩)) 2 = (.pointer (some ⟨b, o + 2, none⟩), True) := by unfold sfieldAddr; rw [show fieldAddrA tt.get 124 (.pointer (some ⟨b, o, none⟩)) 2 = some (.pointer (some ⟨b, o + 2, none⟩)) from by kernel_rfl]
@[go_sem] theorem t_t130 : tt.get 130 = some ti130 := by kernel_rfl
@[go_sem] theorem v_t130 {op : BinOp} {xo yo : Operand} {x y : Value} : sbin2 tt.get op 130 xo yo x y = sbinX (binA tt.get op 130 xo yo x y) := sbin2_ref (by kernel_rfl)
@[go_sem] theorem n_t130_eql {xo yo : Operand} : binA tt.get .eql 130 xo yo .nilFunc .nilFunc = some (.bool true) := by simp [binA, eqA, t_t130, ti130]
@[go_sem] theorem m_t130_eql {xo yo : Operand} {f : Fn} {x y : Array Value} : binA tt.get .eql 130 xo yo (.func f x y) .nilFunc = some (.bool (!true)) := by simp [binA, eqA, t_t130, ti130]
@[go_sem] theorem n_t130_neq {xo yo : Operand} : binA tt.get .neq 130 xo yo .nilFunc .nilFunc = some (.bool false) := by simp [binA, eqA, t_t130, ti130]
@[go_sem] theorem m_t130_neq {xo yo : Operand} {f : Fn} {x y : Array Value} : binA tt.get .neq 130 xo yo (.func f x y) .nilFunc = some (.bool (!false)) := by simp [binA, eqA, t_t130, ti130]
@[go_sem] theorem t_t134 : tt.get 134 = some ti134 := by kernel_rfl
@[go_sem] theorem v_t134 {op : BinOp} {xo yo : Operand} {x y : Value} : sbin2 tt.get op 134 xo yo x y = sbinX (binA tt.get op 134 xo yo x y) := sbin2_ref (by kernel_rfl)
@[go_sem] theorem n_t134_eql {xo yo : Operand} : binA tt.get .eql 134 xo yo .nilFunc .nilFunc = some (.bool true) := by simp [binA, eqA, t_t134, ti134]
@[go_sem] theorem m_t134_eql {xo yo : Operand} {f : Fn} {x y : Array Value} : binA tt.get .eql 134 xo yo (.func f x y) .nilFunc = some (.bool (!true)) := by simp [binA, eqA, t_t134, ti134]
@[go_sem] theorem n_t134_neq {xo yo : Operand} : binA tt.get .neq 134 xo yo .nilFunc .nilFunc = some (.bool false) := by simp [binA, eqA, t_t134, ti134]
@[go_sem] theorem m_t134_neq {xo yo : Operand} {f : Fn} {x y : Array Value} : binA tt.get .neq 134 xo yo (.func f x y) .nilFunc = some (.bool (!false)) := by simp [binA, eqA, t_t134, ti134]
@[go_sem] theorem t_square : tt.get 136 = some ti136 := by kernel_rfl
@[go_sem] theorem k_square : kindOf tt.get 136 = some (.array 25 69) := by kernel_rfl
@[go_sem] theorem t_uint : tt.get 146 = some ti146 := by kernel_rfl
@[go_sem] theorem k_uint : kindOf tt.get 146 = some (.int .u64) := by kernel_rfl
@[go_sem] theorem v_uint {op : BinOp} {xo yo : Operand} {x y : Value} : sbin2 tt.get op 146 xo yo x y = sbinI op .u64 x y := sbin2_int k_uint
@[go_sem] theorem t_t151 : tt.get 151 = some ti151 := by kernel_rfl
@[go_sem] theorem v_t151 {op : BinOp} {xo yo : Operand} {x y : Value} : sbin2 tt.get op 151 xo yo x y = sbinX (binA tt.get op 151 xo yo x y) := sbin2_ref (by kernel_rfl)
@[go_sem] theorem n_t151_eql {xo yo : Operand} : binA tt.get .eql 151 xo yo .nilFunc .nilFunc = some (.bool true) := by simp [binA, eqA, t_t151, ti151]
@[go_sem] theorem m_t151_eql {xo yo : Operand} {f : Fn} {x y : Array Value} : binA tt.get .eql 151 xo yo (.func f x y) .nilFunc = some (.bool (!true)) := by simp [binA, eqA, t_t151, ti151]
@[go_sem] theorem n_t151_neq {xo yo : Operand} : binA tt.get .neq 151 xo yo .nilFunc .nilFunc = some (.bool false) := by simp [binA, eqA, t_t151, ti151]
@[go_sem] theorem m_t151_neq {xo yo : Operand} {f : Fn} {x y : Array Value} : binA tt.get .neq 151 xo yo (.func f x y) .nilFunc = some (.bool (!false)) := by simp [binA, eqA, t_t151, ti151]
def e_int : Enc (Int) := ⟨fun a => [.int .i64 (a)], fun l => intOf ((l[0]?).getD undef), 1, fun _ => rfl, fun _ => rfl, fun _ => rfl⟩
instance : e_int.Plain := ⟨fun _ _ => rfl⟩
@[go_sem] theorem en_int (a : Int) : e_int.enc a = [.int .i64 (a)] := rfl
@[go_sem] theorem de_int (l : List Value) : e_int.dec l = intOf ((l[0]?).getD undef) := rfl
def e_bool : Enc (Bool) := ⟨fun a => [.bool (a)], fun l => boolOf ((l[0]?).getD undef), 1, fun _ => rfl, fun _ => rfl, fun _ => rfl⟩
instance : e_bool.Plain := ⟨fun _ _ => rfl⟩
@[go_sem] theorem en_bool (a : Bool) : e_bool.enc a = [.bool (a)] := rfl
@[go_sem] theorem de_bool (l : List Value) : e_bool.dec l = boolOf ((l[0]?).getD undef) := rfl
def e_uint8 : Enc (Int) := ⟨fun a => [.int .u8 (a)], fun l => intOf ((l[0]?).getD undef), 1, fun _ => rfl, fun _ => rfl, fun _ => rfl⟩
instance : e_uint8.Plain := ⟨fun _ _ => rfl⟩
@[go_sem] theorem en_uint8 (a : Int) : e_uint8.enc a = [.int .u8 (a)] := rfl
@[go_sem] theorem de_uint8 (l : List Value) : e_uint8.dec l = intOf ((l[0]?).getD undef) := rfl
def e_string : Enc (List UInt8) := ⟨fun a => [.string ⟨⟨a⟩⟩], fun l => strOf ((l[0]?).getD undef), 1, fun _ => rfl, fun _ => rfl, fun _ => rfl⟩
instance : e_string.Plain := ⟨fun _ _ => rfl⟩
@[go_sem] theorem en_string (a : List UInt8) : e_string.enc a = [.string ⟨⟨a⟩⟩] := rfl
@[go_sem] theorem de_string (l : List Value) : e_string.dec l = strOf ((l[0]?).getD undef) := rfl
structure T_Fate where
  Copies : Int
  Late : Int
  Second : Int
instance : Inhabited T_Fate := ⟨⟨0, 0, 0⟩⟩
instance : DecidableEq T_Fate := fun a b => decidable_of_iff (a.Copies = b.Copies ∧ a.Late = b.Late ∧ a.Second = b.Second) (by cases a; cases b; simp)
def e_Fate : Enc (T_Fate) := ⟨fun a => [.int .i64 (a.Copies), .int .i64 (a.Late), .int .i64 (a.Second)], fun l => ⟨intOf ((l[0]?).getD undef), intOf ((l[1]?).getD undef), intOf ((l[2]?).getD undef)⟩, 3, fun _ => rfl, fun _ => rfl, fun _ => rfl⟩
instance : e_Fate.Plain := ⟨fun _ _ => rfl⟩
@[go_sem] theorem en_Fate (a : T_Fate) : e_Fate.enc a = [.int .i64 (a.Copies), .int .i64 (a.Late), .int .i64 (a.Second)] := rfl
@[go_sem] theorem mk_Fate (a : T_Fate) : T_Fate.mk a.Copies a.Late a.Second = a := rfl
@[go_sem] theorem de_Fate (l : List Value) : e_Fate.dec l = ⟨intOf ((l[0]?).getD undef), intOf ((l[1]?).getD undef), intOf ((l[2]?).getD undef)⟩ := rfl
def e_Errno : Enc (Int) := ⟨fun a => [.int .i64 (a)], fun l => intOf ((l[0]?).getD undef), 1, fun _ => rfl, fun _ => rfl, fun _ => rfl⟩
instance : e_Errno.Plain := ⟨fun _ _ => rfl⟩
@[go_sem] theorem en_Errno (a : Int) : e_Errno.enc a = [.int .i64 (a)] := rfl
@[go_sem] theorem de_Errno (l : List Value) : e_Errno.dec l = intOf ((l[0]?).getD undef) := rfl
def e_uint64 : Enc (Int) := ⟨fun a => [.int .u64 (a)], fun l => intOf ((l[0]?).getD undef), 1, fun _ => rfl, fun _ => rfl, fun _ => rfl⟩
instance : e_uint64.Plain := ⟨fun _ _ => rfl⟩
@[go_sem] theorem en_uint64 (a : Int) : e_uint64.enc a = [.int .u64 (a)] := rfl
@[go_sem] theorem de_uint64 (l : List Value) : e_uint64.dec l = intOf ((l[0]?).getD undef) := rfl
structure T_Arrive where
  From : Int
  To : Int
  Bytes : List UInt8
instance : Inhabited T_Arrive := ⟨⟨0, 0, []⟩⟩
instance : DecidableEq T_Arrive := fun a b => decidable_of_iff (a.From = b.From ∧ a.To = b.To ∧ a.Bytes = b.Bytes) (by cases a; cases b; simp)
def e_Arrive : Enc (T_Arrive) := ⟨fun a => [.int .i64 (a.From), .int .i64 (a.To), .string ⟨⟨a.Bytes⟩⟩], fun l => ⟨intOf ((l[0]?).getD undef), intOf ((l[1]?).getD undef), strOf ((l[2]?).getD undef)⟩, 3, fun _ => rfl, fun _ => rfl, fun _ => rfl⟩
instance : e_Arrive.Plain := ⟨fun _ _ => rfl⟩
@[go_sem] theorem en_Arrive (a : T_Arrive) : e_Arrive.enc a = [.int .i64 (a.From), .int .i64 (a.To), .string ⟨⟨a.Bytes⟩⟩] := rfl
@[go_sem] theorem mk_Arrive (a : T_Arrive) : T_Arrive.mk a.From a.To a.Bytes = a := rfl
@[go_sem] theorem de_Arrive (l : List Value) : e_Arrive.dec l = ⟨intOf ((l[0]?).getD undef), intOf ((l[1]?).getD undef), strOf ((l[2]?).getD undef)⟩ := rfl
structure T_Link where
  A : Int
  B : Int
  Cost : Int
instance : Inhabited T_Link := ⟨⟨0, 0, 0⟩⟩
instance : DecidableEq T_Link := fun a b => decidable_of_iff (a.A = b.A ∧ a.B = b.B ∧ a.Cost = b.Cost) (by cases a; cases b; simp)
def e_Link : Enc (T_Link) := ⟨fun a => [.int .i64 (a.A), .int .i64 (a.B), .int .i64 (a.Cost)], fun l => ⟨intOf ((l[0]?).getD undef), intOf ((l[1]?).getD undef), intOf ((l[2]?).getD undef)⟩, 3, fun _ => rfl, fun _ => rfl, fun _ => rfl⟩
instance : e_Link.Plain := ⟨fun _ _ => rfl⟩
@[go_sem] theorem en_Link (a : T_Link) : e_Link.enc a = [.int .i64 (a.A), .int .i64 (a.B), .int .i64 (a.Cost)] := rfl
@[go_sem] theorem mk_Link (a : T_Link) : T_Link.mk a.A a.B a.Cost = a := rfl
@[go_sem] theorem de_Link (l : List Value) : e_Link.dec l = ⟨intOf ((l[0]?).getD undef), intOf ((l[1]?).getD undef), intOf ((l[2]?).getD undef)⟩ := rfl
structure T_Rule where
  From : Int
  To : Int
  Nth : Int
  Kind : Int
  By : Int
instance : Inhabited T_Rule := ⟨⟨0, 0, 0, 0, 0⟩⟩
instance : DecidableEq T_Rule := fun a b => decidable_of_iff (a.From = b.From ∧ a.To = b.To ∧ a.Nth = b.Nth ∧ a.Kind = b.Kind ∧ a.By = b.By) (by cases a; cases b; simp)
def e_Rule : Enc (T_Rule) := ⟨fun a => [.int .i64 (a.From), .int .i64 (a.To), .int .i64 (a.Nth), .int .i64 (a.Kind), .int .i64 (a.By)], fun l => ⟨intOf ((l[0]?).getD undef), intOf ((l[1]?).getD undef), intOf ((l[2]?).getD undef), intOf ((l[3]?).getD undef), intOf ((l[4]?).getD undef)⟩, 5, fun _ => rfl, fun _ => rfl, fun _ => rfl⟩
instance : e_Rule.Plain := ⟨fun _ _ => rfl⟩
@[go_sem] theorem en_Rule (a : T_Rule) : e_Rule.enc a = [.int .i64 (a.From), .int .i64 (a.To), .int .i64 (a.Nth), .int .i64 (a.Kind), .int .i64 (a.By)] := rfl
@[go_sem] theorem mk_Rule (a : T_Rule) : T_Rule.mk a.From a.To a.Nth a.Kind a.By = a := rfl
@[go_sem] theorem de_Rule (l : List Value) : e_Rule.dec l = ⟨intOf ((l[0]?).getD undef), intOf ((l[1]?).getD undef), intOf ((l[2]?).getD undef), intOf ((l[3]?).getD undef), intOf ((l[4]?).getD undef)⟩ := rfl
structure T_Graph where
  Nodes : SRef
  Edges : SRef
instance : Inhabited T_Graph := ⟨⟨.nil, .nil⟩⟩
instance : DecidableEq T_Graph := fun a b => decidable_of_iff (a.Nodes = b.Nodes ∧ a.Edges = b.Edges) (by cases a; cases b; simp)
def e_Graph : Enc (T_Graph) := ⟨fun a => [(a.Nodes).v, (a.Edges).v], fun l => ⟨refOf ((l[0]?).getD undef), refOf ((l[1]?).getD undef)⟩, 2, fun a => by cases a; simp [refOf_v], fun _ => rfl, fun _ => by simp [oneCells, SRef.oc, oc_int, oc_bool, oc_str]⟩
instance : e_Graph.Ra := ⟨fun ρ a => { a with Nodes := a.Nodes.ra ρ, Edges := a.Edges.ra ρ }, fun ρ a => by simp [e_Graph, renL, ren, ren_ref]⟩
@[go_sem] theorem en_Graph (a : T_Graph) : e_Graph.enc a = [(a.Nodes).v, (a.Edges).v] := rfl
@[go_sem] theorem mk_Graph (a : T_Graph) : T_Graph.mk a.Nodes a.Edges = a := rfl
@[go_sem] theorem de_Graph (l : List Value) : e_Graph.dec l = ⟨refOf ((l[0]?).getD undef), refOf ((l[1]?).getD undef)⟩ := rfl
structure T_Edge where
  From : Int
  To : Int
  Cost : Int
instance : Inhabited T_Edge := ⟨⟨0, 0, 0⟩⟩
instance : DecidableEq T_Edge := fun a b => decidable_of_iff (a.From = b.From ∧ a.To = b.To ∧ a.Cost = b.Cost) (by cases a; cases b; simp)
def e_Edge : Enc (T_Edge) := ⟨fun a => [.int .i64 (a.From), .int .i64 (a.To), .int .i64 (a.Cost)], fun l => ⟨intOf ((l[0]?).getD undef), intOf ((l[1]?).getD undef), intOf ((l[2]?).getD undef)⟩, 3, fun _ => rfl, fun _ => rfl, fun _ => rfl⟩
instance : e_Edge.Plain := ⟨fun _ _ => rfl⟩
@[go_sem] theorem en_Edge (a : T_Edge) : e_Edge.enc a = [.int .i64 (a.From), .int .i64 (a.To), .int .i64 (a.Cost)] := rfl
@[go_sem] theorem mk_Edge (a : T_Edge) : T_Edge.mk a.From a.To a.Cost = a := rfl
@[go_sem] theorem de_Edge (l : List Value) : e_Edge.dec l = ⟨intOf ((l[0]?).getD undef), intOf ((l[1]?).getD undef), intOf ((l[2]?).getD undef)⟩ := rfl
structure T_Adj where
  To : Int
  Cost : Int
instance : Inhabited T_Adj := ⟨⟨0, 0⟩⟩
instance : DecidableEq T_Adj := fun a b => decidable_of_iff (a.To = b.To ∧ a.Cost = b.Cost) (by cases a; cases b; simp)
def e_Adj : Enc (T_Adj) := ⟨fun a => [.int .i64 (a.To), .int .i64 (a.Cost)], fun l => ⟨intOf ((l[0]?).getD undef), intOf ((l[1]?).getD undef)⟩, 2, fun _ => rfl, fun _ => rfl, fun _ => rfl⟩
instance : e_Adj.Plain := ⟨fun _ _ => rfl⟩
@[go_sem] theorem en_Adj (a : T_Adj) : e_Adj.enc a = [.int .i64 (a.To), .int .i64 (a.Cost)] := rfl
@[go_sem] theorem mk_Adj (a : T_Adj) : T_Adj.mk a.To a.Cost = a := rfl
@[go_sem] theorem de_Adj (l : List Value) : e_Adj.dec l = ⟨intOf ((l[0]?).getD undef), intOf ((l[1]?).getD undef)⟩ := rfl
structure T_pair where
  a : Int
  b : Int
instance : Inhabited T_pair := ⟨⟨0, 0⟩⟩
instance : DecidableEq T_pair := fun a b => decidable_of_iff (a.a = b.a ∧ a.b = b.b) (by cases a; cases b; simp)
def e_pair : Enc (T_pair) := ⟨fun a => [.int .i64 (a.a), .int .i64 (a.b)], fun l => ⟨intOf ((l[0]?).getD undef), intOf ((l[1]?).getD undef)⟩, 2, fun _ => rfl, fun _ => rfl, fun _ => rfl⟩
instance : e_pair.Plain := ⟨fun _ _ => rfl⟩
@[go_sem] theorem en_pair (a : T_pair) : e_pair.enc a = [.int .i64 (a.a), .int .i64 (a.b)] := rfl
@[go_sem] theorem mk_pair (a : T_pair) : T_pair.mk a.a a.b = a := rfl
@[go_sem] theorem de_pair (l : List Value) : e_pair.dec l = ⟨intOf ((l[0]?).getD undef), intOf ((l[1]?).getD undef)⟩ := rfl
structure T_t116 where
  there : Bool
  last : Int
  l : SRef
instance : Inhabited T_t116 := ⟨⟨false, 0, .nil⟩⟩
instance : DecidableEq T_t116 := fun a b => decidable_of_iff (a.there = b.there ∧ a.last = b.last ∧ a.l = b.l) (by cases a; cases b; simp)
def e_t116 : Enc (T_t116) := ⟨fun a => [.bool (a.there), .int .i64 (a.last), (a.l).v], fun l => ⟨boolOf ((l[0]?).getD undef), intOf ((l[1]?).getD undef), refOf ((l[2]?).getD undef)⟩, 3, fun a => by cases a; simp [refOf_v], fun _ => rfl, fun _ => by simp [oneCells, SRef.oc, oc_int, oc_bool, oc_str]⟩
instance : e_t116.Ra := ⟨fun ρ a => { a with l := a.l.ra ρ }, fun ρ a => by simp [e_t116, renL, ren, ren_ref]⟩
@[go_sem] theorem en_t116 (a : T_t116) : e_t116.enc a = [.bool (a.there), .int .i64 (a.last), (a.l).v] := rfl
@[go_sem] theorem mk_t116 (a : T_t116) : T_t116.mk a.there a.last a.l = a := rfl
@[go_sem] theorem de_t116 (l : List Value) : e_t116.dec l = ⟨boolOf ((l[0]?).getD undef), intOf ((l[1]?).getD undef), refOf ((l[2]?).getD undef)⟩ := rfl
structure T_message where
  from_ : Int
  to : Int
  nth : Int
instance : Inhabited T_message := ⟨⟨0, 0, 0⟩⟩
instance : DecidableEq T_message := fun a b => decidable_of_iff (a.from_ = b.from_ ∧ a.to = b.to ∧ a.nth = b.nth) (by cases a; cases b; simp)
def e_message : Enc (T_message) := ⟨fun a => [.int .i64 (a.from_), .int .i64 (a.to), .int .i64 (a.nth)], fun l => ⟨intOf ((l[0]?).getD undef), intOf ((l[1]?).getD undef), intOf ((l[2]?).getD undef)⟩, 3, fun _ => rfl, fun _ => rfl, fun _ => rfl⟩
instance : e_message.Plain := ⟨fun _ _ => rfl⟩
@[go_sem] theorem en_message (a : T_message) : e_message.enc a = [.int .i64 (a.from_), .int .i64 (a.to), .int .i64 (a.nth)] := rfl
@[go_sem] theorem mk_message (a : T_message) : T_message.mk a.from_ a.to a.nth = a := rfl
@[go_sem] theorem de_message (l : List Value) : e_message.dec l = ⟨intOf ((l[0]?).getD undef), intOf ((l[1]?).getD undef), intOf ((l[2]?).getD undef)⟩ := rfl
structure T_t124 where
  at_ : Int
  ticket : Int
  v_From : Int
  v_To : Int
  v_Bytes : List UInt8
instance : Inhabited T_t124 := ⟨⟨0, 0, 0, 0, []⟩⟩
instance : DecidableEq T_t124 := fun a b => decidable_of_iff (a.at_ = b.at_ ∧ a.ticket = b.ticket ∧ a.v_From = b.v_From ∧ a.v_To = b.v_To ∧ a.v_Bytes = b.v_Bytes) (by cases a; cases b; simp)
def e_t124 : Enc (T_t124) := ⟨fun a => [.int .u64 (a.at_), .int .i64 (a.ticket), .int .i64 (a.v_From), .int .i64 (a.v_To), .string ⟨⟨a.v_Bytes⟩⟩], fun l => ⟨intOf ((l[0]?).getD undef), intOf ((l[1]?).getD undef), intOf ((l[2]?).getD undef), intOf ((l[3]?).getD undef), strOf ((l[4]?).getD undef)⟩, 5, fun _ => rfl, fun _ => rfl, fun _ => rfl⟩
instance : e_t124.Plain := ⟨fun _ _ => rfl⟩
@[go_sem] theorem en_t124 (a : T_t124) : e_t124.enc a = [.int .u64 (a.at_), .int .i64 (a.ticket), .int .i64 (a.v_From), .int .i64 (a.v_To), .string ⟨⟨a.v_Bytes⟩⟩] := rfl
@[go_sem] theorem mk_t124 (a : T_t124) : T_t124.mk a.at_ a.ticket a.v_From a.v_To a.v_Bytes = a := rfl
@[go_sem] theorem de_t124 (l : List Value) : e_t124.dec l = ⟨intOf ((l[0]?).getD undef), intOf ((l[1]?).getD undef), intOf ((l[2]?).getD undef), intOf ((l[3]?).getD undef), strOf ((l[4]?).getD undef)⟩ := rfl
def e_uint : Enc (Int) := ⟨fun a => [.int .u64 (a)], fun l => intOf ((l[0]?).getD undef), 1, fun _ => rfl, fun _ => rfl, fun _ => rfl⟩
instance : e_uint.Plain := ⟨fun _ _ => rfl⟩
@[go_sem] theorem en_uint (a : Int) : e_uint.enc a = [.int .u64 (a)] := rfl
@[go_sem] theorem de_uint (l : List Value) : e_uint.dec l = intOf ((l[0]?).getD undef) := rfl
section
@[go_sem] theorem ap_suint8 {hp : Hp} {x : Value} {b top : Nat} {l : List (Int)} (h : hp b = mkOb e_uint8 l) (hx : SlP e_uint8 hp x) (hn : l.length + (e_uint8.rd hp x).length ≤ 16777216) : appendA tt.get hp top [22, 22] (mkSl b l) x = some (mkSl top (l ++ e_uint8.rd hp x), appU b l top (mkOb e_uint8 (l ++ e_uint8.rd hp x)), top + 1) := appendA_ownP k_suint8 t_suint8 rfl t_uint8 rfl rfl h hx hn
@[go_sem] theorem apn_suint8 {hp : Hp} {x : Value} {top : Nat} (hx : SlP e_uint8 hp x) (hn : (e_uint8.rd hp x).length ≤ 16777216) : appendA tt.get hp top [22, 22] (.slice none 0 0) x = some (mkSl top (e_uint8.rd hp x), [(top, mkOb e_uint8 (e_uint8.rd hp x))], top + 1) := appendA_nilP k_suint8 t_suint8 rfl t_uint8 rfl rfl hx hn
@[go_sem] theorem ap1r_suint8 {hp : Hp} {b top k : Nat} {l : List (Int)} (h : hp b = mkOb e_uint8 l) (hk : hp k = some (.cells true 1 (cellsOf (hp k)))) (hc : e_uint8.enc (e_uint8.dec (cellsOf (hp k))) = cellsOf (hp k)) (hn : roomB (l.length + 1) ti5.bytes = true) : appendA tt.get hp top [22, 22] (mkSl b l) (.slice (some ⟨k, 0, none⟩) 1 1) = some (mkSl top (l ++ [e_uint8.dec (cellsOf (hp k))]), appU b l top (mkOb e_uint8 (l ++ [e_uint8.dec (cellsOf (hp k))])), top + 1) := appendA_oneCR k_suint8 t_suint8 rfl t_uint8 rfl rfl h hk hc hn
@[go_sem] theorem apr_suint8 {hp : Hp} {x : Value} {top : Nat} (hx : SlP e_uint8 hp x) (hn : roomB (e_uint8.rd hp x).length ti5.bytes = true) : appendA tt.get hp top [22, 22] (.slice none 0 0) x = some (mkSl top (e_uint8.rd hp x), [(top, mkOb e_uint8 (e_uint8.rd hp x))], top + 1) := appendA_nilPb k_suint8 t_suint8 rfl t_uint8 rfl rfl hx hn
@[go_sem] theorem ap0_suint8 {hp : Hp} {top k : Nat} (hk : hp k = some (.cells true 1 (cellsOf (hp k)))) (hc : e_uint8.enc (e_uint8.dec (cellsOf (hp k))) = cellsOf (hp k)) : appendA tt.get hp top [22, 22] (.slice none 0 0) (.slice (some ⟨k, 0, none⟩) 1 1) = some (mkSl top [e_uint8.dec (cellsOf (hp k))], [(top, mkOb e_uint8 [e_uint8.dec (cellsOf (hp k))])], top + 1) := appendA_zeroC k_suint8 t_suint8 rfl t_uint8 rfl rfl hk hc
@[go_sem] theorem sa_suint8 {hp : Hp} {b top : Nat} {l l2 : List (Int)} (h : hp b = mkOb e_uint8 l) : hp.sets (appU b l top (mkOb e_uint8 l2)) = (hp.set b none).set top (mkOb e_uint8 l2) := sets_appU h
@[go_sem] theorem os_suint8 {hp : Hp} {b : Nat} {l : List (Int)} {i : Nat} (h : hp b = mkOb e_uint8 l) (hi : i < l.length) {x : Int} : sstore tt.get hp 5 (ptrS (mkSl b l) (i * 1)) (.int .u8 (x)) = ([(b, mkOb e_uint8 (l.set i x))], True) := own_storeF (f := 0) t_uint8 h hi rfl (by decide) rfl rfl
@[go_sem] theorem ow_suint8 {b : Nat} {l : List (Int)} {hp2 : Hp} : slen tt.get hp2 22 (mkSl b l) = (.int .i64 (l.length : Int), True) := by cases l with | nil => unfold slen mkSl; simp only [k_suint8, lenA, t_suint8, ti22]; rfl | cons a l => unfold slen mkSl; simp only [k_suint8, lenA, t_suint8, ti22]; rfl
@[go_sem] theorem ap1_suint8 {hp : Hp} {b top k : Nat} {l : List (Int)} (h : hp b = mkOb e_uint8 l) (hk : hp k = some (.cells true 1 (cellsOf (hp k)))) (hc : e_uint8.enc (e_uint8.dec (cellsOf (hp k))) = cellsOf (hp k)) (hn : l.length < 16777216) : appendA tt.get hp top [22, 22] (mkSl b l) (.slice (some ⟨k, 0, none⟩) 1 1) = some (mkSl top (l ++ [e_uint8.dec (cellsOf (hp k))]), appU b l top (mkOb e_uint8 (l ++ [e_uint8.dec (cellsOf (hp k))])), top + 1) := appendA_oneC k_suint8 t_suint8 rfl t_uint8 rfl rfl h hk hc hn
end
section
@[go_sem] theorem ap_sArrive {hp : Hp} {x : Value} {b top : Nat} {l : List (T_Arrive)} (h : hp b = mkOb e_Arrive l) (hx : SlP e_Arrive hp x) (hn : l.length + (e_Arrive.rd hp x).length ≤ 16777216) : appendA tt.get hp top [34, 34] (mkSl b l) x = some (mkSl top (l ++ e_Arrive.rd hp x), appU b l top (mkOb e_Arrive (l ++ e_Arrive.rd hp x)), top + 1) := appendA_ownP k_sArrive t_sArrive rfl t_Arrive rfl rfl h hx hn
@[go_sem] theorem apn_sArrive {hp : Hp} {x : Value} {top : Nat} (hx : SlP e_Arrive hp x) (hn : (e_Arrive.rd hp x).length ≤ 16777216) : appendA tt.get hp top [34, 34] (.slice none 0 0) x = some (mkSl top (e_Arrive.rd hp x), [(top, mkOb e_Arrive (e_Arrive.rd hp x))], top + 1) := appendA_nilP k_sArrive t_sArrive rfl t_Arrive rfl rfl hx hn
@[go_sem] theorem ap1r_sArrive {hp : Hp} {b top k : Nat} {l : List (T_Arrive)} (h : hp b = mkOb e_Arrive l) (hk : hp k = some (.cells true 3 (cellsOf (hp k)))) (hc : e_Arrive.enc (e_Arrive.dec (cellsOf (hp k))) = cellsOf (hp k)) (hn : roomB (l.length + 1) ti37.bytes = true) : appendA tt.get hp top [34, 34] (mkSl b l) (.slice (some ⟨k, 0, none⟩) 1 1) = some (mkSl top (l ++ [e_Arrive.dec (cellsOf (hp k))]), appU b l top (mkOb e_Arrive (l ++ [e_Arrive.dec (cellsOf (hp k))])), top + 1) := appendA_oneCR k_sArrive t_sArrive rfl t_Arrive rfl rfl h hk hc hn
@[go_sem] theorem apr_sArrive {hp : Hp} {x : Value} {top : Nat} (hx : SlP e_Arrive hp x) (hn : roomB (e_Arrive.rd hp x).length ti37.bytes = true) : appendA tt.get hp top [34, 34] (.slice none 0 0) x = some (mkSl top (e_Arrive.rd hp x), [(top, mkOb e_Arrive (e_Arrive.rd hp x))], top + 1) := appendA_nilPb k_sArrive t_sArrive rfl t_Arrive rfl rfl hx hn
@[go_sem] theorem ap0_sArrive {hp : Hp} {top k : Nat} (hk : hp k = some (.cells true 3 (cellsOf (hp k)))) (hc : e_Arrive.enc (e_Arrive.dec (cellsOf (hp k))) = cellsOf (hp k)) : appendA tt.get hp top [34, 34] (.slice none 0 0) (.slice (some ⟨k, 0, none⟩) 1 1) = some (mkSl top [e_Arrive.dec (cellsOf (hp k))], [(top, mkOb e_Arrive [e_Arrive.dec (cellsOf (hp k))])], top + 1) := appendA_zeroC k_sArrive t_sArrive rfl t_Arrive rfl rfl hk hc
@[go_sem] theorem sa_sArrive {hp : Hp} {b top : Nat} {l l2 : List (T_Arrive)} (h : hp b = mkOb e_Arrive l) : hp.sets (appU b l top (mkOb e_Arrive l2)) = (hp.set b none).set top (mkOb e_Arrive l2) := sets_appU h
@[go_sem] theorem os_sArrive {hp : Hp} {b : Nat} {l : List (T_Arrive)} {i : Nat} (h : hp b = mkOb e_Arrive l) (hi : i < l.length) {a0 : Int} {a1 : Int} {a2 : List UInt8} : sstore tt.get hp 37 (ptrS (mkSl b l) (i * 3)) (.agg ⟨[.int .i64 (a0), .int .i64 (a1), .string ⟨⟨a2⟩⟩]⟩) = ([(b, mkOb e_Arrive (l.set i ⟨a0, a1, a2⟩))], True) := own_storeA (E := e_Arrive) (cs := e_Arrive.enc ⟨a0, a1, a2⟩) t_Arrive rfl h hi rfl rfl
@[go_sem] theorem of_sArrive_0 {hp : Hp} {b : Nat} {l : List (T_Arrive)} {i : Nat} (h : hp b = mkOb e_Arrive l) (hi : i < l.length) {x : Int} : sstore tt.get hp 3 (ptrS (mkSl b l) (i * 3)) (.int .i64 (x)) = ([(b, mkOb e_Arrive (l.set i { at' l i with From := x }))], True) := own_storeF (f := 0) t_int h hi rfl (by decide) rfl rfl
@[go_sem] theorem of_sArrive_1 {hp : Hp} {b : Nat} {l : List (T_Arrive)} {i : Nat} (h : hp b = mkOb e_Arrive l) (hi : i < l.length) {x : Int} : sstore tt.get hp 3 (ptrS (mkSl b l) (i * 3 + 1)) (.int .i64 (x)) = ([(b, mkOb e_Arrive (l.set i { at' l i with To := x }))], True) := own_storeF (f := 1) t_int h hi rfl (by decide) rfl rfl
@[go_sem] theorem of_sArrive_2 {hp : Hp} {b : Nat} {l : List (T_Arrive)} {i : Nat} (h : hp b = mkOb e_Arrive l) (hi : i < l.length) {x : List UInt8} : sstore tt.get hp 9 (ptrS (mkSl b l) (i * 3 + 2)) (.string ⟨⟨x⟩⟩) = ([(b, mkOb e_Arrive (l.set i { at' l i with Bytes := x }))], True) := own_storeF (f := 2) t_string h hi rfl (by decide) rfl rfl
@[go_sem] theorem ow_sArrive {b : Nat} {l : List (T_Arrive)} {hp2 : Hp} : slen tt.get hp2 34 (mkSl b l) = (.int .i64 (l.length : Int), True) := by cases l with | nil => unfold slen mkSl; simp only [k_sArrive, lenA, t_sArrive, ti34]; rfl | cons a l => unfold slen mkSl; simp only [k_sArrive, lenA, t_sArrive, ti34]; rfl
@[go_sem] theorem ap1_sArrive {hp : Hp} {b top k : Nat} {l : List (T_Arrive)} (h : hp b = mkOb e_Arrive l) (hk : hp k = some (.cells true 3 (cellsOf (hp k)))) (hc : e_Arrive.enc (e_Arrive.dec (cellsOf (hp k))) = cellsOf (hp k)) (hn : l.length < 16777216) : appendA tt.get hp top [34, 34] (mkSl b l) (.slice (some ⟨k, 0, none⟩) 1 1) = some (mkSl top (l ++ [e_Arrive.dec (cellsOf (hp k))]), appU b l top (mkOb e_Arrive (l ++ [e_Arrive.dec (cellsOf (hp k))])), top + 1) := appendA_oneC k_sArrive t_sArrive rfl t_Arrive rfl rfl h hk hc hn
end
section
@[go_sem] theorem ap_sRule {hp : Hp} {x : Value} {b top : Nat} {l : List (T_Rule)} (h : hp b = mkOb e_Rule l) (hx : SlP e_Rule hp x) (hn : l.length + (e_Rule.rd hp x).length ≤ 16777216) : appendA tt.get hp top [39, 39] (mkSl b l) x = some (mkSl top (l ++ e_Rule.rd hp x), appU b l top (mkOb e_Rule (l ++ e_Rule.rd hp x)), top + 1) := appendA_ownP k_sRule t_sRule rfl t_Rule rfl rfl h hx hn
@[go_sem] theorem apn_sRule {hp : Hp} {x : Value} {top : Nat} (hx : SlP e_Rule hp x) (hn : (e_Rule.rd hp x).length ≤ 16777216) : appendA tt.get hp top [39, 39] (.slice none 0 0) x = some (mkSl top (e_Rule.rd hp x), [(top, mkOb e_Rule (e_Rule.rd hp x))], top + 1) := appendA_nilP k_sRule t_sRule rfl t_Rule rfl rfl hx hn
@[go_sem] theorem ap1r_sRule {hp : Hp} {b top k : Nat} {l : List (T_Rule)} (h : hp b = mkOb e_Rule l) (hk : hp k = some (.cells true 5 (cellsOf (hp k)))) (hc : e_Rule.enc (e_Rule.dec (cellsOf (hp k))) = cellsOf (hp k)) (hn : roomB (l.length + 1) ti63.bytes = true) : appendA tt.get hp top [39, 39] (mkSl b l) (.slice (some ⟨k, 0, none⟩) 1 1) = some (mkSl top (l ++ [e_Rule.dec (cellsOf (hp k))]), appU b l top (mkOb e_Rule (l ++ [e_Rule.dec (cellsOf (hp k))])), top + 1) := appendA_oneCR k_sRule t_sRule rfl t_Rule rfl rfl h hk hc hn
@[go_sem] theorem apr_sRule {hp : Hp} {x : Value} {top : Nat} (hx : SlP e_Rule hp x) (hn : roomB (e_Rule.rd hp x).length ti63.bytes = true) : appendA tt.get hp top [39, 39] (.slice none 0 0) x = some (mkSl top (e_Rule.rd hp x), [(top, mkOb e_Rule (e_Rule.rd hp x))], top + 1) := appendA_nilPb k_sRule t_sRule rfl t_Rule rfl rfl hx hn
@[go_sem] theorem ap0_sRule {hp : Hp} {top k : Nat} (hk : hp k = some (.cells true 5 (cellsOf (hp k)))) (hc : e_Rule.enc (e_Rule.dec (cellsOf (hp k))) = cellsOf (hp k)) : appendA tt.get hp top [39, 39] (.slice none 0 0) (.slice (some ⟨k, 0, none⟩) 1 1) = some (mkSl top [e_Rule.dec (cellsOf (hp k))], [(top, mkOb e_Rule [e_Rule.dec (cellsOf (hp k))])], top + 1) := appendA_zeroC k_sRule t_sRule rfl t_Rule rfl rfl hk hc
@[go_sem] theorem sa_sRule {hp : Hp} {b top : Nat} {l l2 : List (T_Rule)} (h : hp b = mkOb e_Rule l) : hp.sets (appU b l top (mkOb e_Rule l2)) = (hp.set b none).set top (mkOb e_Rule l2) := sets_appU h
@[go_sem] theorem os_sRule {hp : Hp} {b : Nat} {l : List (T_Rule)} {i : Nat} (h : hp b = mkOb e_Rule l) (hi : i < l.length) {a0 : Int} {a1 : Int} {a2 : Int} {a3 : Int} {a4 : Int} : sstore tt.get hp 63 (ptrS (mkSl b l) (i * 5)) (.agg ⟨[.int .i64 (a0), .int .i64 (a1), .int .i64 (a2), .int .i64 (a3), .int .i64 (a4)]⟩) = ([(b, mkOb e_Rule (l.set i ⟨a0, a1, a2, a3, a4⟩))], True) := own_storeA (E := e_Rule) (cs := e_Rule.enc ⟨a0, a1, a2, a3, a4⟩) t_Rule rfl h hi rfl rfl
@[go_sem] theorem of_sRule_0 {hp : Hp} {b : Nat} {l : List (T_Rule)} {i : Nat} (h : hp b = mkOb e_Rule l) (hi : i < l.length) {x : Int} : sstore tt.get hp 3 (ptrS (mkSl b l) (i * 5)) (.int .i64 (x)) = ([(b, mkOb e_Rule (l.set i { at' l i with From := x }))], True) := own_storeF (f := 0) t_int h hi rfl (by decide) rfl rfl
@[go_sem] theorem of_sRule_1 {hp : Hp} {b : Nat} {l : List (T_Rule)} {i : Nat} (h : hp b = mkOb e_Rule l) (hi : i < l.length) {x : Int} : sstore tt.get hp 3 (ptrS (mkSl b l) (i * 5 + 1)) (.int .i64 (x)) = ([(b, mkOb e_Rule (l.set i { at' l i with To := x }))], True) := own_storeF (f := 1) t_int h hi rfl (by decide) rfl rfl
@[go_sem] theorem of_sRule_2 {hp : Hp} {b : Nat} {l : List (T_Rule)} {i : Nat} (h : hp b = mkOb e_Rule l) (hi : i < l.length) {x : Int} : sstore tt.get hp 3 (ptrS (mkSl b l) (i * 5 + 2)) (.int .i64 (x)) = ([(b, mkOb e_Rule (l.set i { at' l i with Nth := x }))], True) := own_storeF (f := 2) t_int h hi rfl (by decide) rfl rfl
@[go_sem] theorem of_sRule_3 {hp : Hp} {b : Nat} {l : List (T_Rule)} {i : Nat} (h : hp b = mkOb e_Rule l) (hi : i < l.length) {x : Int} : sstore tt.get hp 3 (ptrS (mkSl b l) (i * 5 + 3)) (.int .i64 (x)) = ([(b, mkOb e_Rule (l.set i { at' l i with Kind := x }))], True) := own_storeF (f := 3) t_int h hi rfl (by decide) rfl rfl
@[go_sem] theorem of_sRule_4 {hp : Hp} {b : Nat} {l : List (T_Rule)} {i : Nat} (h : hp b = mkOb e_Rule l) (hi : i < l.length) {x : Int} : sstore tt.get hp 3 (ptrS (mkSl b l) (i * 5 + 4)) (.int .i64 (x)) = ([(b, mkOb e_Rule (l.set i { at' l i with By := x }))], True) := own_storeF (f := 4) t_int h hi rfl (by decide) rfl rfl
@[go_sem] theorem ow_sRule {b : Nat} {l : List (T_Rule)} {hp2 : Hp} : slen tt.get hp2 39 (mkSl b l) = (.int .i64 (l.length : Int), True) := by cases l with | nil => unfold slen mkSl; simp only [k_sRule, lenA, t_sRule, ti39]; rfl | cons a l => unfold slen mkSl; simp only [k_sRule, lenA, t_sRule, ti39]; rfl
@[go_sem] theorem ap1_sRule {hp : Hp} {b top k : Nat} {l : List (T_Rule)} (h : hp b = mkOb e_Rule l) (hk : hp k = some (.cells true 5 (cellsOf (hp k)))) (hc : e_Rule.enc (e_Rule.dec (cellsOf (hp k))) = cellsOf (hp k)) (hn : l.length < 16777216) : appendA tt.get hp top [39, 39] (mkSl b l) (.slice (some ⟨k, 0, none⟩) 1 1) = some (mkSl top (l ++ [e_Rule.dec (cellsOf (hp k))]), appU b l top (mkOb e_Rule (l ++ [e_Rule.dec (cellsOf (hp k))])), top + 1) := appendA_oneC k_sRule t_sRule rfl t_Rule rfl rfl h hk hc hn
end
section
theorem len_sint {hp : Hp} {v : Value} {l : List (Int)} (h : SlT e_int hp v l) {hp' : Hp} : slen tt.get hp' 40 v = (.int .i64 (l.length : Int), True) := h.len_any k_sint
theorem idx_sint {hp : Hp} {v : Value} {l : List (Int)} (h : SlT e_int hp v l) {k : IntKind} {n : Int} (h0 : 0 ≤ n) (h1 : n < l.length) : sindexAddr tt.get 40 v (.int k n) = (ptrS v (n.toNat * 1), True) := h.idx k_sint t_int rfl h0 h1
theorem ld_sint {hp : Hp} {v : Value} {l : List (Int)} (h : SlT e_int hp v l) {i : Nat} (hi : i < l.length) : sload tt.get hp 3 (ptrS v (i * 1)) = (.int .i64 (at' l i), True) := h.cell (f := 0) t_int rfl hi (by decide)
theorem sh_sint {hp : Hp} {v : Value} {l : List (Int)} (h : SlT e_int hp v l) {k : IntKind} {n : Int} (h0 : 0 ≤ n) (h1 : n ≤ l.length) : sslice tt.get hp 40 v none (some (.int k n)) = (subS 1 v 0 n.toNat, True) := h.slHi k_sint t_int h0 h1
theorem sw_sint {hp : Hp} {v : Value} {l : List (Int)} (h : SlT e_int hp v l) {k : IntKind} {n : Int} (h0 : 0 ≤ n) (h1 : n ≤ l.length) : sslice tt.get hp 40 v (some (.int k n)) none = (subL 1 v n.toNat, True) := h.slLo k_sint t_int rfl h0 h1
@[go_sem] theorem ap_sint {hp : Hp} {x : Value} {b top : Nat} {l : List (Int)} (h : hp b = mkOb e_int l) (hx : SlP e_int hp x) (hn : l.length + (e_int.rd hp x).length ≤ 16777216) : appendA tt.get hp top [40, 40] (mkSl b l) x = some (mkSl top (l ++ e_int.rd hp x), appU b l top (mkOb e_int (l ++ e_int.rd hp x)), top + 1) := appendA_ownP k_sint t_sint rfl t_int rfl rfl h hx hn
@[go_sem] theorem apn_sint {hp : Hp} {x : Value} {top : Nat} (hx : SlP e_int hp x) (hn : (e_int.rd hp x).length ≤ 16777216) : appendA tt.get hp top [40, 40] (.slice none 0 0) x = some (mkSl top (e_int.rd hp x), [(top, mkOb e_int (e_int.rd hp x))], top + 1) := appendA_nilP k_sint t_sint rfl t_int rfl rfl hx hn
@[go_sem] theorem ap1r_sint {hp : Hp} {b top k : Nat} {l : List (Int)} (h : hp b = mkOb e_int l) (hk : hp k = some (.cells true 1 (cellsOf (hp k)))) (hc : e_int.enc (e_int.dec (cellsOf (hp k))) = cellsOf (hp k)) (hn : roomB (l.length + 1) ti3.bytes = true) : appendA tt.get hp top [40, 40] (mkSl b l) (.slice (some ⟨k, 0, none⟩) 1 1) = some (mkSl top (l ++ [e_int.dec (cellsOf (hp k))]), appU b l top (mkOb e_int (l ++ [e_int.dec (cellsOf (hp k))])), top + 1) := appendA_oneCR k_sint t_sint rfl t_int rfl rfl h hk hc hn
@[go_sem] theorem apr_sint {hp : Hp} {x : Value} {top : Nat} (hx : SlP e_int hp x) (hn : roomB (e_int.rd hp x).length ti3.bytes = true) : appendA tt.get hp top [40, 40] (.slice none 0 0) x = some (mkSl top (e_int.rd hp x), [(top, mkOb e_int (e_int.rd hp x))], top + 1) := appendA_nilPb k_sint t_sint rfl t_int rfl rfl hx hn
@[go_sem] theorem ap0_sint {hp : Hp} {top k : Nat} (hk : hp k = some (.cells true 1 (cellsOf (hp k)))) (hc : e_int.enc (e_int.dec (cellsOf (hp k))) = cellsOf (hp k)) : appendA tt.get hp top [40, 40] (.slice none 0 0) (.slice (some ⟨k, 0, none⟩) 1 1) = some (mkSl top [e_int.dec (cellsOf (hp k))], [(top, mkOb e_int [e_int.dec (cellsOf (hp k))])], top + 1) := appendA_zeroC k_sint t_sint rfl t_int rfl rfl hk hc
@[go_sem] theorem sa_sint {hp : Hp} {b top : Nat} {l l2 : List (Int)} (h : hp b = mkOb e_int l) : hp.sets (appU b l top (mkOb e_int l2)) = (hp.set b none).set top (mkOb e_int l2) := sets_appU h
@[go_sem] theorem os_sint {hp : Hp} {b : Nat} {l : List (Int)} {i : Nat} (h : hp b = mkOb e_int l) (hi : i < l.length) {x : Int} : sstore tt.get hp 3 (ptrS (mkSl b l) (i * 1)) (.int .i64 (x)) = ([(b, mkOb e_int (l.set i x))], True) := own_storeF (f := 0) t_int h hi rfl (by decide) rfl rfl
@[go_sem] theorem ow_sint {b : Nat} {l : List (Int)} {hp2 : Hp} : slen tt.get hp2 40 (mkSl b l) = (.int .i64 (l.length : Int), True) := by cases l with | nil => unfold slen mkSl; simp only [k_sint, lenA, t_sint, ti40]; rfl | cons a l => unfold slen mkSl; simp only [k_sint, lenA, t_sint, ti40]; rfl
@[go_sem] theorem ap1_sint {hp : Hp} {b top k : Nat} {l : List (Int)} (h : hp b = mkOb e_int l) (hk : hp k = some (.cells true 1 (cellsOf (hp k)))) (hc : e_int.enc (e_int.dec (cellsOf (hp k))) = cellsOf (hp k)) (hn : l.length < 16777216) : appendA tt.get hp top [40, 40] (mkSl b l) (.slice (some ⟨k, 0, none⟩) 1 1) = some (mkSl top (l ++ [e_int.dec (cellsOf (hp k))]), appU b l top (mkOb e_int (l ++ [e_int.dec (cellsOf (hp k))])), top + 1) := appendA_oneC k_sint t_sint rfl t_int rfl rfl h hk hc hn
end
section
@[go_sem] theorem ap_sLink {hp : Hp} {x : Value} {b top : Nat} {l : List (T_Link)} (h : hp b = mkOb e_Link l) (hx : SlP e_Link hp x) (hn : l.length + (e_Link.rd hp x).length ≤ 16777216) : appendA tt.get hp top [50, 50] (mkSl b l) x = some (mkSl top (l ++ e_Link.rd hp x), appU b l top (mkOb e_Link (l ++ e_Link.rd hp x)), top + 1) := appendA_ownP k_sLink t_sLink rfl t_Link rfl rfl h hx hn
@[go_sem] theorem apn_sLink {hp : Hp} {x : Value} {top : Nat} (hx : SlP e_Link hp x) (hn : (e_Link.rd hp x).length ≤ 16777216) : appendA tt.get hp top [50, 50] (.slice none 0 0) x = some (mkSl top (e_Link.rd hp x), [(top, mkOb e_Link (e_Link.rd hp x))], top + 1) := appendA_nilP k_sLink t_sLink rfl t_Link rfl rfl hx hn
@[go_sem] theorem ap1r_sLink {hp : Hp} {b top k : Nat} {l : List (T_Link)} (h : hp b = mkOb e_Link l) (hk : hp k = some (.cells true 3 (cellsOf (hp k)))) (hc : e_Link.enc (e_Link.dec (cellsOf (hp k))) = cellsOf (hp k)) (hn : roomB (l.length + 1) ti61.bytes = true) : appendA tt.get hp top [50, 50] (mkSl b l) (.slice (some ⟨k, 0, none⟩) 1 1) = some (mkSl top (l ++ [e_Link.dec (cellsOf (hp k))]), appU b l top (mkOb e_Link (l ++ [e_Link.dec (cellsOf (hp k))])), top + 1) := appendA_oneCR k_sLink t_sLink rfl t_Link rfl rfl h hk hc hn
@[go_sem] theorem apr_sLink {hp : Hp} {x : Value} {top : Nat} (hx : SlP e_Link hp x) (hn : roomB (e_Link.rd hp x).length ti61.bytes = true) : appendA tt.get hp top [50, 50] (.slice none 0 0) x = some (mkSl top (e_Link.rd hp x), [(top, mkOb e_Link (e_Link.rd hp x))], top + 1) := appendA_nilPb k_sLink t_sLink rfl t_Link rfl rfl hx hn
@[go_sem] theorem ap0_sLink {hp : Hp} {top k : Nat} (hk : hp k = some (.cells true 3 (cellsOf (hp k)))) (hc : e_Link.enc (e_Link.dec (cellsOf (hp k))) = cellsOf (hp k)) : appendA tt.get hp top [50, 50] (.slice none 0 0) (.slice (some ⟨k, 0, none⟩) 1 1) = some (mkSl top [e_Link.dec (cellsOf (hp k))], [(top, mkOb e_Link [e_Link.dec (cellsOf (hp k))])], top + 1) := appendA_zeroC k_sLink t_sLink rfl t_Link rfl rfl hk hc
@[go_sem] theorem sa_sLink {hp : Hp} {b top : Nat} {l l2 : List (T_Link)} (h : hp b = mkOb e_Link l) : hp.sets (appU b l top (mkOb e_Link l2)) = (hp.set b none).set top (mkOb e_Link l2) := sets_appU h
@[go_sem] theorem os_sLink {hp : Hp} {b : Nat} {l : List (T_Link)} {i : Nat} (h : hp b = mkOb e_Link l) (hi : i < l.length) {a0 : Int} {a1 : Int} {a2 : Int} : sstore tt.get hp 61 (ptrS (mkSl b l) (i * 3)) (.agg ⟨[.int .i64 (a0), .int .i64 (a1), .int .i64 (a2)]⟩) = ([(b, mkOb e_Link (l.set i ⟨a0, a1, a2⟩))], True) := own_storeA (E := e_Link) (cs := e_Link.enc ⟨a0, a1, a2⟩) t_Link rfl h hi rfl rfl
@[go_sem] theorem of_sLink_0 {hp : Hp} {b : Nat} {l : List (T_Link)} {i : Nat} (h : hp b = mkOb e_Link l) (hi : i < l.length) {x : Int} : sstore tt.get hp 3 (ptrS (mkSl b l) (i * 3)) (.int .i64 (x)) = ([(b, mkOb e_Link (l.set i { at' l i with A := x }))], True) := own_storeF (f := 0) t_int h hi rfl (by decide) rfl rfl
@[go_sem] theorem of_sLink_1 {hp : Hp} {b : Nat} {l : List (T_Link)} {i : Nat} (h : hp b = mkOb e_Link l) (hi : i < l.length) {x : Int} : sstore tt.get hp 3 (ptrS (mkSl b l) (i * 3 + 1)) (.int .i64 (x)) = ([(b, mkOb e_Link (l.set i { at' l i with B := x }))], True) := own_storeF (f := 1) t_int h hi rfl (by decide) rfl rfl
@[go_sem] theorem of_sLink_2 {hp : Hp} {b : Nat} {l : List (T_Link)} {i : Nat} (h : hp b = mkOb e_Link l) (hi : i < l.length) {x : Int} : sstore tt.get hp 3 (ptrS (mkSl b l) (i * 3 + 2)) (.int .i64 (x)) = ([(b, mkOb e_Link (l.set i { at' l i with Cost := x }))], True) := own_storeF (f := 2) t_int h hi rfl (by decide) rfl rfl
@[go_sem] theorem ow_sLink {b : Nat} {l : List (T_Link)} {hp2 : Hp} : slen tt.get hp2 50 (mkSl b l) = (.int .i64 (l.length : Int), True) := by cases l with | nil => unfold slen mkSl; simp only [k_sLink, lenA, t_sLink, ti50]; rfl | cons a l => unfold slen mkSl; simp only [k_sLink, lenA, t_sLink, ti50]; rfl
@[go_sem] theorem ap1_sLink {hp : Hp} {b top k : Nat} {l : List (T_Link)} (h : hp b = mkOb e_Link l) (hk : hp k = some (.cells true 3 (cellsOf (hp k)))) (hc : e_Link.enc (e_Link.dec (cellsOf (hp k))) = cellsOf (hp k)) (hn : l.length < 16777216) : appendA tt.get hp top [50, 50] (mkSl b l) (.slice (some ⟨k, 0, none⟩) 1 1) = some (mkSl top (l ++ [e_Link.dec (cellsOf (hp k))]), appU b l top (mkOb e_Link (l ++ [e_Link.dec (cellsOf (hp k))])), top + 1) := appendA_oneC k_sLink t_sLink rfl t_Link rfl rfl h hk hc hn
end
section
@[go_sem] theorem ap_sEdge {hp : Hp} {x : Value} {b top : Nat} {l : List (T_Edge)} (h : hp b = mkOb e_Edge l) (hx : SlP e_Edge hp x) (hn : l.length + (e_Edge.rd hp x).length ≤ 16777216) : appendA tt.get hp top [74, 74] (mkSl b l) x = some (mkSl top (l ++ e_Edge.rd hp x), appU b l top (mkOb e_Edge (l ++ e_Edge.rd hp x)), top + 1) := appendA_ownP k_sEdge t_sEdge rfl t_Edge rfl rfl h hx hn
@[go_sem] theorem apn_sEdge {hp : Hp} {x : Value} {top : Nat} (hx : SlP e_Edge hp x) (hn : (e_Edge.rd hp x).length ≤ 16777216) : appendA tt.get hp top [74, 74] (.slice none 0 0) x = some (mkSl top (e_Edge.rd hp x), [(top, mkOb e_Edge (e_Edge.rd hp x))], top + 1) := appendA_nilP k_sEdge t_sEdge rfl t_Edge rfl rfl hx hn
@[go_sem] theorem ap1r_sEdge {hp : Hp} {b top k : Nat} {l : List (T_Edge)} (h : hp b = mkOb e_Edge l) (hk : hp k = some (.cells true 3 (cellsOf (hp k)))) (hc : e_Edge.enc (e_Edge.dec (cellsOf (hp k))) = cellsOf (hp k)) (hn : roomB (l.length + 1) ti86.bytes = true) : appendA tt.get hp top [74, 74] (mkSl b l) (.slice (some ⟨k, 0, none⟩) 1 1) = some (mkSl top (l ++ [e_Edge.dec (cellsOf (hp k))]), appU b l top (mkOb e_Edge (l ++ [e_Edge.dec (cellsOf (hp k))])), top + 1) := appendA_oneCR k_sEdge t_sEdge rfl t_Edge rfl rfl h hk hc hn
@[go_sem] theorem apr_sEdge {hp : Hp} {x : Value} {top : Nat} (hx : SlP e_Edge hp x) (hn : roomB (e_Edge.rd hp x).length ti86.bytes = true) : appendA tt.get hp top [74, 74] (.slice none 0 0) x = some (mkSl top (e_Edge.rd hp x), [(top, mkOb e_Edge (e_Edge.rd hp x))], top + 1) := appendA_nilPb k_sEdge t_sEdge rfl t_Edge rfl rfl hx hn
@[go_sem] theorem ap0_sEdge {hp : Hp} {top k : Nat} (hk : hp k = some (.cells true 3 (cellsOf (hp k)))) (hc : e_Edge.enc (e_Edge.dec (cellsOf (hp k))) = cellsOf (hp k)) : appendA tt.get hp top [74, 74] (.slice none 0 0) (.slice (some ⟨k, 0, none⟩) 1 1) = some (mkSl top [e_Edge.dec (cellsOf (hp k))], [(top, mkOb e_Edge [e_Edge.dec (cellsOf (hp k))])], top + 1) := appendA_zeroC k_sEdge t_sEdge rfl t_Edge rfl rfl hk hc
@[go_sem] theorem sa_sEdge {hp : Hp} {b top : Nat} {l l2 : List (T_Edge)} (h : hp b = mkOb e_Edge l) : hp.sets (appU b l top (mkOb e_Edge l2)) = (hp.set b none).set top (mkOb e_Edge l2) := sets_appU h
@[go_sem] theorem os_sEdge {hp : Hp} {b : Nat} {l : List (T_Edge)} {i : Nat} (h : hp b = mkOb e_Edge l) (hi : i < l.length) {a0 : Int} {a1 : Int} {a2 : Int} : sstore tt.get hp 86 (ptrS (mkSl b l) (i * 3)) (.agg ⟨[.int .i64 (a0), .int .i64 (a1), .int .i64 (a2)]⟩) = ([(b, mkOb e_Edge (l.set i ⟨a0, a1, a2⟩))], True) := own_storeA (E := e_Edge) (cs := e_Edge.enc ⟨a0, a1, a2⟩) t_Edge rfl h hi rfl rfl
@[go_sem] theorem of_sEdge_0 {hp : Hp} {b : Nat} {l : List (T_Edge)} {i : Nat} (h : hp b = mkOb e_Edge l) (hi : i < l.length) {x : Int} : sstore tt.get hp 3 (ptrS (mkSl b l) (i * 3)) (.int .i64 (x)) = ([(b, mkOb e_Edge (l.set i { at' l i with From := x }))], True) := own_storeF (f := 0) t_int h hi rfl (by decide) rfl rfl
@[go_sem] theorem of_sEdge_1 {hp : Hp} {b : Nat} {l : List (T_Edge)} {i : Nat} (h : hp b = mkOb e_Edge l) (hi : i < l.length) {x : Int} : sstore tt.get hp 3 (ptrS (mkSl b l) (i * 3 + 1)) (.int .i64 (x)) = ([(b, mkOb e_Edge (l.set i { at' l i with To := x }))], True) := own_storeF (f := 1) t_int h hi rfl (by decide) rfl rfl
@[go_sem] theorem of_sEdge_2 {hp : Hp} {b : Nat} {l : List (T_Edge)} {i : Nat} (h : hp b = mkOb e_Edge l) (hi : i < l.length) {x : Int} : sstore tt.get hp 3 (ptrS (mkSl b l) (i * 3 + 2)) (.int .i64 (x)) = ([(b, mkOb e_Edge (l.set i { at' l i with Cost := x }))], True) := own_storeF (f := 2) t_int h hi rfl (by decide) rfl rfl
@[go_sem] theorem ow_sEdge {b : Nat} {l : List (T_Edge)} {hp2 : Hp} : slen tt.get hp2 74 (mkSl b l) = (.int .i64 (l.length : Int), True) := by cases l with | nil => unfold slen mkSl; simp only [k_sEdge, lenA, t_sEdge, ti74]; rfl | cons a l => unfold slen mkSl; simp only [k_sEdge, lenA, t_sEdge, ti74]; rfl
@[go_sem] theorem ap1_sEdge {hp : Hp} {b top k : Nat} {l : List (T_Edge)} (h : hp b = mkOb e_Edge l) (hk : hp k = some (.cells true 3 (cellsOf (hp k)))) (hc : e_Edge.enc (e_Edge.dec (cellsOf (hp k))) = cellsOf (hp k)) (hn : l.length < 16777216) : appendA tt.get hp top [74, 74] (mkSl b l) (.slice (some ⟨k, 0, none⟩) 1 1) = some (mkSl top (l ++ [e_Edge.dec (cellsOf (hp k))]), appU b l top (mkOb e_Edge (l ++ [e_Edge.dec (cellsOf (hp k))])), top + 1) := appendA_oneC k_sEdge t_sEdge rfl t_Edge rfl rfl h hk hc hn
end
section
@[go_sem] theorem ap_sAdj {hp : Hp} {x : Value} {b top : Nat} {l : List (T_Adj)} (h : hp b = mkOb e_Adj l) (hx : SlP e_Adj hp x) (hn : l.length + (e_Adj.rd hp x).length ≤ 16777216) : appendA tt.get hp top [82, 82] (mkSl b l) x = some (mkSl top (l ++ e_Adj.rd hp x), appU b l top (mkOb e_Adj (l ++ e_Adj.rd hp x)), top + 1) := appendA_ownP k_sAdj t_sAdj rfl t_Adj rfl rfl h hx hn
@[go_sem] theorem apn_sAdj {hp : Hp} {x : Value} {top : Nat} (hx : SlP e_Adj hp x) (hn : (e_Adj.rd hp x).length ≤ 16777216) : appendA tt.get hp top [82, 82] (.slice none 0 0) x = some (mkSl top (e_Adj.rd hp x), [(top, mkOb e_Adj (e_Adj.rd hp x))], top + 1) := appendA_nilP k_sAdj t_sAdj rfl t_Adj rfl rfl hx hn
@[go_sem] theorem ap1r_sAdj {hp : Hp} {b top k : Nat} {l : List (T_Adj)} (h : hp b = mkOb e_Adj l) (hk : hp k = some (.cells true 2 (cellsOf (hp k)))) (hc : e_Adj.enc (e_Adj.dec (cellsOf (hp k))) = cellsOf (hp k)) (hn : roomB (l.length + 1) ti90.bytes = true) : appendA tt.get hp top [82, 82] (mkSl b l) (.slice (some ⟨k, 0, none⟩) 1 1) = some (mkSl top (l ++ [e_Adj.dec (cellsOf (hp k))]), appU b l top (mkOb e_Adj (l ++ [e_Adj.dec (cellsOf (hp k))])), top + 1) := appendA_oneCR k_sAdj t_sAdj rfl t_Adj rfl rfl h hk hc hn
@[go_sem] theorem apr_sAdj {hp : Hp} {x : Value} {top : Nat} (hx : SlP e_Adj hp x) (hn : roomB (e_Adj.rd hp x).length ti90.bytes = true) : appendA tt.get hp top [82, 82] (.slice none 0 0) x = some (mkSl top (e_Adj.rd hp x), [(top, mkOb e_Adj (e_Adj.rd hp x))], top + 1) := appendA_nilPb k_sAdj t_sAdj rfl t_Adj rfl rfl hx hn
@[go_sem] theorem ap0_sAdj {hp : Hp} {top k : Nat} (hk : hp k = some (.cells true 2 (cellsOf (hp k)))) (hc : e_Adj.enc (e_Adj.dec (cellsOf (hp k))) = cellsOf (hp k)) : appendA tt.get hp top [82, 82] (.slice none 0 0) (.slice (some ⟨k, 0, none⟩) 1 1) = some (mkSl top [e_Adj.dec (cellsOf (hp k))], [(top, mkOb e_Adj [e_Adj.dec (cellsOf (hp k))])], top + 1) := appendA_zeroC k_sAdj t_sAdj rfl t_Adj rfl rfl hk hc
@[go_sem] theorem sa_sAdj {hp : Hp} {b top : Nat} {l l2 : List (T_Adj)} (h : hp b = mkOb e_Adj l) : hp.sets (appU b l top (mkOb e_Adj l2)) = (hp.set b none).set top (mkOb e_Adj l2) := sets_appU h
@[go_sem] theorem os_sAdj {hp : Hp} {b : Nat} {l : List (T_Adj)} {i : Nat} (h : hp b = mkOb e_Adj l) (hi : i < l.length) {a0 : Int} {a1 : Int} : sstore tt.get hp 90 (ptrS (mkSl b l) (i * 2)) (.agg ⟨[.int .i64 (a0), .int .i64 (a1)]⟩) = ([(b, mkOb e_Adj (l.set i ⟨a0, a1⟩))], True) := own_storeA (E := e_Adj) (cs := e_Adj.enc ⟨a0, a1⟩) t_Adj rfl h hi rfl rfl
@[go_sem] theorem of_sAdj_0 {hp : Hp} {b : Nat} {l : List (T_Adj)} {i : Nat} (h : hp b = mkOb e_Adj l) (hi : i < l.length) {x : Int} : sstore tt.get hp 3 (ptrS (mkSl b l) (i * 2)) (.int .i64 (x)) = ([(b, mkOb e_Adj (l.set i { at' l i with To := x }))], True) := own_storeF (f := 0) t_int h hi rfl (by decide) rfl rfl
@[go_sem] theorem of_sAdj_1 {hp : Hp} {b : Nat} {l : List (T_Adj)} {i : Nat} (h : hp b = mkOb e_Adj l) (hi : i < l.length) {x : Int} : sstore tt.get hp 3 (ptrS (mkSl b l) (i * 2 + 1)) (.int .i64 (x)) = ([(b, mkOb e_Adj (l.set i { at' l i with Cost := x }))], True) := own_storeF (f := 1) t_int h hi rfl (by decide) rfl rfl
@[go_sem] theorem ow_sAdj {b : Nat} {l : List (T_Adj)} {hp2 : Hp} : slen tt.get hp2 82 (mkSl b l) = (.int .i64 (l.length : Int), True) := by cases l with | nil => unfold slen mkSl; simp only [k_sAdj, lenA, t_sAdj, ti82]; rfl | cons a l => unfold slen mkSl; simp only [k_sAdj, lenA, t_sAdj, ti82]; rfl
@[go_sem] theorem ap1_sAdj {hp : Hp} {b top k : Nat} {l : List (T_Adj)} (h : hp b = mkOb e_Adj l) (hk : hp k = some (.cells true 2 (cellsOf (hp k)))) (hc : e_Adj.enc (e_Adj.dec (cellsOf (hp k))) = cellsOf (hp k)) (hn : l.length < 16777216) : appendA tt.get hp top [82, 82] (mkSl b l) (.slice (some ⟨k, 0, none⟩) 1 1) = some (mkSl top (l ++ [e_Adj.dec (cellsOf (hp k))]), appU b l top (mkOb e_Adj (l ++ [e_Adj.dec (cellsOf (hp k))])), top + 1) := appendA_oneC k_sAdj t_sAdj rfl t_Adj rfl rfl h hk hc hn
end
section
theorem len_st124 {hp : Hp} {v : Value} {l : List (T_t124)} (h : SlT e_t124 hp v l) {hp' : Hp} : slen tt.get hp' 114 v = (.int .i64 (l.length : Int), True) := h.len_any k_st124
theorem idx_st124 {hp : Hp} {v : Value} {l : List (T_t124)} (h : SlT e_t124 hp v l) {k : IntKind} {n : Int} (h0 : 0 ≤ n) (h1 : n < l.length) : sindexAddr tt.get 114 v (.int k n) = (ptrS v (n.toNat * 5), True) := h.idx k_st124 t_t124 rfl h0 h1
theorem ld_st124 {hp : Hp} {v : Value} {l : List (T_t124)} (h : SlT e_t124 hp v l) {i : Nat} (hi : i < l.length) : sload tt.get hp 124 (ptrS v (i * 5)) = (.agg ⟨e_t124.enc (at' l i)⟩, True) := h.load t_t124 rfl rfl hi
theorem sf_st124_0 {hp : Hp} {v : Value} {l : List (T_t124)} (h : SlT e_t124 hp v l) {i : Nat} (hi : i < l.length) : sfieldAddr tt.get 124 (ptrS v (i * 5)) 0 = (ptrS v (i * 5), True) := h.field hi (d := 0) (fun b o => (by kernel_rfl : fieldAddrA tt.get 124 (.pointer (some ⟨b, o, none⟩)) 0 = some (.pointer (some ⟨b, o + 0, none⟩))))
theorem sc_st124_0 {hp : Hp} {v : Value} {l : List (T_t124)} (h : SlT e_t124 hp v l) {i : Nat} (hi : i < l.length) : sload tt.get hp 32 (ptrS v (i * 5)) = (.int .u64 ((at' l i).at_), True) := h.cell (f := 0) t_uint64 rfl hi (by decide)
theorem sf_st124_1 {hp : Hp} {v : Value} {l : List (T_t124)} (h : SlT e_t124 hp v l) {i : Nat} (hi : i < l.length) : sfieldAddr tt.get 124 (ptrS v (i * 5)) 1 = (ptrS v (i * 5 + 1), True) := h.field hi (d := 1) (fun b o => (by kernel_rfl : fieldAddrA tt.get 124 (.pointer (some ⟨b, o, none⟩)) 1 = some (.pointer (some ⟨b, o + 1, none⟩))))
theorem sc_st124_1 {hp : Hp} {v : Value} {l : List (T_t124)} (h : SlT e_t124 hp v l) {i : Nat} (hi : i < l.length) : sload tt.get hp 3 (ptrS v (i * 5 + 1)) = (.int .i64 ((at' l i).ticket), True) := h.cell (f := 1) t_int rfl hi (by decide)
theorem sf_st124_2 {hp : Hp} {v : Value} {l : List (T_t124)} (h : SlT e_t124 hp v l) {i : Nat} (hi : i < l.length) : sfieldAddr tt.get 124 (ptrS v (i * 5)) 2 = (ptrS v (i * 5 + 2), True) := h.field hi (d := 2) (fun b o => (by kernel_rfl : fieldAddrA tt.get 124 (.pointer (some ⟨b, o, none⟩)) 2 = some (.pointer (some ⟨b, o + 2, none⟩))))
theorem sh_st124 {hp : Hp} {v : Value} {l : List (T_t124)} (h : SlT e_t124 hp v l) {k : IntKind} {n : Int} (h0 : 0 ≤ n) (h1 : n ≤ l.length) : sslice tt.get hp 114 v none (some (.int k n)) = (subS 5 v 0 n.toNat, True) := h.slHi k_st124 t_t124 h0 h1
theorem sw_st124 {hp : Hp} {v : Value} {l : List (T_t124)} (h : SlT e_t124 hp v l) {k : IntKind} {n : Int} (h0 : 0 ≤ n) (h1 : n ≤ l.length) : sslice tt.get hp 114 v (some (.int k n)) none = (subL 5 v n.toNat, True) := h.slLo k_st124 t_t124 rfl h0 h1
@[go_sem] theorem ap_st124 {hp : Hp} {x : Value} {b top : Nat} {l : List (T_t124)} (h : hp b = mkOb e_t124 l) (hx : SlP e_t124 hp x) (hn : l.length + (e_t124.rd hp x).length ≤ 16777216) : appendA tt.get hp top [114, 114] (mkSl b l) x = some (mkSl top (l ++ e_t124.rd hp x), appU b l top (mkOb e_t124 (l ++ e_t124.rd hp x)), top + 1) := appendA_ownP k_st124 t_st124 rfl t_t124 rfl rfl h hx hn
@[go_sem] theorem apn_st124 {hp : Hp} {x : Value} {top : Nat} (hx : SlP e_t124 hp x) (hn : (e_t124.rd hp x).length ≤ 16777216) : appendA tt.get hp top [114, 114] (.slice none 0 0) x = some (mkSl top (e_t124.rd hp x), [(top, mkOb e_t124 (e_t124.rd hp x))], top + 1) := appendA_nilP k_st124 t_st124 rfl t_t124 rfl rfl hx hn
@[go_sem] theorem ap1r_st124 {hp : Hp} {b top k : Nat} {l : List (T_t124)} (h : hp b = mkOb e_t124 l) (hk : hp k = some (.cells true 5 (cellsOf (hp k)))) (hc : e_t124.enc (e_t124.dec (cellsOf (hp k))) = cellsOf (hp k)) (hn : roomB (l.length + 1) ti124.bytes = true) : appendA tt.get hp top [114, 114] (mkSl b l) (.slice (some ⟨k, 0, none⟩) 1 1) = some (mkSl top (l ++ [e_t124.dec (cellsOf (hp k))]), appU b l top (mkOb e_t124 (l ++ [e_t124.dec (cellsOf (hp k))])), top + 1) := appendA_oneCR k_st124 t_st124 rfl t_t124 rfl rfl h hk hc hn
@[go_sem] theorem apr_st124 {hp : Hp} {x : Value} {top : Nat} (hx : SlP e_t124 hp x) (hn : roomB (e_t124.rd hp x).length ti124.bytes = true) : appendA tt.get hp top [114, 114] (.slice none 0 0) x = some (mkSl top (e_t124.rd hp x), [(top, mkOb e_t124 (e_t124.rd hp x))], top + 1) := appendA_nilPb k_st124 t_st124 rfl t_t124 rfl rfl hx hn
@[go_sem] theorem ap0_st124 {hp : Hp} {top k : Nat} (hk : hp k = some (.cells true 5 (cellsOf (hp k)))) (hc : e_t124.enc (e_t124.dec (cellsOf (hp k))) = cellsOf (hp k)) : appendA tt.get hp top [114, 114] (.slice none 0 0) (.slice (some ⟨k, 0, none⟩) 1 1) = some (mkSl top [e_t124.dec (cellsOf (hp k))], [(top, mkOb e_t124 [e_t124.dec (cellsOf (hp k))])], top + 1) := appendA_zeroC k_st124 t_st124 rfl t_t124 rfl rfl hk hc
@[go_sem] theorem sa_st124 {hp : Hp} {b top : Nat} {l l2 : List (T_t124)} (h : hp b = mkOb e_t124 l) : hp.sets (appU b l top (mkOb e_t124 l2)) = (hp.set b none).set top (mkOb e_t124 l2) := sets_appU h
@[go_sem] theorem os_st124 {hp : Hp} {b : Nat} {l : List (T_t124)} {i : Nat} (h : hp b = mkOb e_t124 l) (hi : i < l.length) {a0 : Int} {a1 : Int} {a2 : Int} {a3 : Int} {a4 : List UInt8} : sstore tt.get hp 124 (ptrS (mkSl b l) (i * 5)) (.agg ⟨[.int .u64 (a0), .int .i64 (a1), .int .i64 (a2), .int .i64 (a3), .string ⟨⟨a4⟩⟩]⟩) = ([(b, mkOb e_t124 (l.set i ⟨a0, a1, a2, a3, a4⟩))], True) := own_storeA (E := e_t124) (cs := e_t124.enc ⟨a0, a1, a2, a3, a4⟩) t_t124 rfl h hi rfl rfl
@[go_sem] theorem of_st124_0 {hp : Hp} {b : Nat} {l : List (T_t124)} {i : Nat} (h : hp b = mkOb e_t124 l) (hi : i < l.length) {x : Int} : sstore tt.get hp 32 (ptrS (mkSl b l) (i * 5)) (.int .u64 (x)) = ([(b, mkOb e_t124 (l.set i { at' l i with at_ := x }))], True) := own_storeF (f := 0) t_uint64 h hi rfl (by decide) rfl rfl
@[go_sem] theorem of_st124_1 {hp : Hp} {b : Nat} {l : List (T_t124)} {i : Nat} (h : hp b = mkOb e_t124 l) (hi : i < l.length) {x : Int} : sstore tt.get hp 3 (ptrS (mkSl b l) (i * 5 + 1)) (.int .i64 (x)) = ([(b, mkOb e_t124 (l.set i { at' l i with ticket := x }))], True) := own_storeF (f := 1) t_int h hi rfl (by decide) rfl rfl
@[go_sem] theorem ow_st124 {b : Nat} {l : List (T_t124)} {hp2 : Hp} : slen tt.get hp2 114 (mkSl b l) = (.int .i64 (l.length : Int), True) := by cases l with | nil => unfold slen mkSl; simp only [k_st124, lenA, t_st124, ti114]; rfl | cons a l => unfold slen mkSl; simp only [k_st124, lenA, t_st124, ti114]; rfl
@[go_sem] theorem ap1_st124 {hp : Hp} {b top k : Nat} {l : List (T_t124)} (h : hp b = mkOb e_t124 l) (hk : hp k = some (.cells true 5 (cellsOf (hp k)))) (hc : e_t124.enc (e_t124.dec (cellsOf (hp k))) = cellsOf (hp k)) (hn : l.length < 16777216) : appendA tt.get hp top [114, 114] (mkSl b l) (.slice (some ⟨k, 0, none⟩) 1 1) = some (mkSl top (l ++ [e_t124.dec (cellsOf (hp k))]), appU b l top (mkOb e_t124 (l ++ [e_t124.dec (cellsOf (hp k))])), top + 1) := appendA_oneC k_st124 t_st124 rfl t_t124 rfl rfl h hk hc hn
end
def kt_pair : KT tt.get 99 T_pair := ⟨fun a => .agg ⟨e_pair.enc a⟩, fun a b => by
    obtain ⟨a0, a1⟩ := a; obtain ⟨b0, b1⟩ := b
    simp only [eqA, t_pair, ti99, eqFields, partA, ti3, t_int, ti3, t_int, aggD, en_pair, eqI_dec, List.drop_zero, List.drop_succ_cons, T_pair.mk.injEq, if_true]
    by_cases h0 : a0 = b0 <;> by_cases h1 : a1 = b1 <;> simp [h0, h1], fun a => by
    simp [keyA, keyFields, partA, t_pair, ti99, ti3, t_int, ti3, t_int, aggD, en_pair], fun a => by simp [plain, en_pair], fun a => sameBits_of (fun v h => by simp [en_pair] at h; rcases h with rfl | rfl <;> simp [Instr.sameBits]), fun ρ a => rfl⟩
@[go_sem] theorem sl_m_pair_int {hp : Hp} {b : Nat} {k : Value} {ok : Bool} : slookup tt.get hp 91 (.map (some b)) k ok = (match hp b with | some (.map es _) => slookE tt.get 99 ti3.zero k es ok | _ => (undef, False)) := slookup_map k_m_pair_int t_pair t_int
@[go_sem] theorem su_m_pair_int {hp : Hp} {b : Nat} {k x : Value} : mapUpdA tt.get hp 91 (.map (some b)) k x = (match hp b with | some (.map es clk) => mapUpdE tt.get 99 b k x es clk | _ => none) := mapUpdA_map k_m_pair_int t_pair
@[go_sem] theorem sd_m_pair_int {hp : Hp} {b : Nat} {k : Value} {ts : List TypeId} : deleteA tt.get hp (91 :: ts) (.map (some b)) k = (match hp b with | some (.map es clk) => deleteE tt.get 99 b k es clk | _ => none) := deleteA_map k_m_pair_int t_pair
def mv_m_pair_int (a : Int) : Value := .int .i64 (a)
abbrev M_m_pair_int := List (T_pair × Int × Nat)
def me_m_pair_int (m : M_m_pair_int) : List MapEntry := m.map (entT kt_pair.ek mv_m_pair_int)
def dm_m_pair_int (l : List MapEntry) : M_m_pair_int := l.map fun e => (⟨intOf (((aggOf e.key)[0]?).getD undef), intOf (((aggOf e.key)[1]?).getD undef)⟩, intOf (e.val), e.born)
@[go_sem] theorem dm_me_m_pair_int (m : M_m_pair_int) : dm_m_pair_int (me_m_pair_int m) = m := by simp only [dm_m_pair_int, me_m_pair_int, List.map_map]; exact (List.map_congr_left (fun _ _ => rfl)).trans (List.map_id m)
@[go_sem] theorem lo_m_pair_int {z : Value} {m : M_m_pair_int} {a0 a1 : Int} : slookE tt.get 99 z (.agg ⟨[.int .i64 (a0), .int .i64 (a1)]⟩) (me_m_pair_int m) true = (.tuple ⟨[((mget m ⟨a0, a1⟩).map mv_m_pair_int).getD z, .bool (mget m ⟨a0, a1⟩).isSome]⟩, True) := slookE_ok_T kt_pair mv_m_pair_int m ⟨a0, a1⟩
@[go_sem] theorem lx_m_pair_int {z : Value} {m : M_m_pair_int} {a0 a1 : Int} : slookE tt.get 99 z (.agg ⟨[.int .i64 (a0), .int .i64 (a1)]⟩) (me_m_pair_int m) false = (((mget m ⟨a0, a1⟩).map mv_m_pair_int).getD z, True) := slookE_T kt_pair mv_m_pair_int m ⟨a0, a1⟩
@[go_sem] theorem gd_m_pair_int {x : Option (Int)} : (x.map mv_m_pair_int).getD (.int .i64 (0)) = mv_m_pair_int (x.getD default) := by cases x <;> rfl
theorem rm_m_pair_int {ρ : Nat → Nat} {m : M_m_pair_int} : (me_m_pair_int m).map (renE ρ) = me_m_pair_int m := renE_T (fun _ => rfl) (fun _ => rfl) m
@[go_sem] theorem mu_m_pair_int {b clk : Nat} {m : M_m_pair_int} {a0 a1 : Int} {b0 : Int} : mapUpdE tt.get 99 b (.agg ⟨[.int .i64 (a0), .int .i64 (a1)]⟩) (.int .i64 (b0)) (me_m_pair_int m) clk = some [(b, some (.map (me_m_pair_int (mput m ⟨a0, a1⟩ b0 clk)) (mclk m ⟨a0, a1⟩ clk)))] := mapUpdE_T kt_pair mv_m_pair_int b m clk ⟨a0, a1⟩ b0
@[go_sem] theorem md_m_pair_int {b clk : Nat} {m : M_m_pair_int} {a0 a1 : Int} : deleteE tt.get 99 b (.agg ⟨[.int .i64 (a0), .int .i64 (a1)]⟩) (me_m_pair_int m) clk = some [(b, some (.map (me_m_pair_int (mdel m ⟨a0, a1⟩)) clk))] := deleteE_T kt_pair mv_m_pair_int b m clk ⟨a0, a1⟩
@[go_sem] theorem sl_m_pair_bool {hp : Hp} {b : Nat} {k : Value} {ok : Bool} : slookup tt.get hp 92 (.map (some b)) k ok = (match hp b with | some (.map es _) => slookE tt.get 99 ti4.zero k es ok | _ => (undef, False)) := slookup_map k_m_pair_bool t_pair t_bool
@[go_sem] theorem su_m_pair_bool {hp : Hp} {b : Nat} {k x : Value} : mapUpdA tt.get hp 92 (.map (some b)) k x = (match hp b with | some (.map es clk) => mapUpdE tt.get 99 b k x es clk | _ => none) := mapUpdA_map k_m_pair_bool t_pair
@[go_sem] theorem sd_m_pair_bool {hp : Hp} {b : Nat} {k : Value} {ts : List TypeId} : deleteA tt.get hp (92 :: ts) (.map (some b)) k = (match hp b with | some (.map es clk) => deleteE tt.get 99 b k es clk | _ => none) := deleteA_map k_m_pair_bool t_pair
def mv_m_pair_bool (a : Bool) : Value := .bool (a)
abbrev M_m_pair_bool := List (T_pair × Bool × Nat)
def me_m_pair_bool (m : M_m_pair_bool) : List MapEntry := m.map (entT kt_pair.ek mv_m_pair_bool)
def dm_m_pair_bool (l : List MapEntry) : M_m_pair_bool := l.map fun e => (⟨intOf (((aggOf e.key)[0]?).getD undef), intOf (((aggOf e.key)[1]?).getD undef)⟩, boolOf (e.val), e.born)
@[go_sem] theorem dm_me_m_pair_bool (m : M_m_pair_bool) : dm_m_pair_bool (me_m_pair_bool m) = m := by simp only [dm_m_pair_bool, me_m_pair_bool, List.map_map]; exact (List.map_congr_left (fun _ _ => rfl)).trans (List.map_id m)
@[go_sem] theorem lo_m_pair_bool {z : Value} {m : M_m_pair_bool} {a0 a1 : Int} : slookE tt.get 99 z (.agg ⟨[.int .i64 (a0), .int .i64 (a1)]⟩) (me_m_pair_bool m) true = (.tuple ⟨[((mget m ⟨a0, a1⟩).map mv_m_pair_bool).getD z, .bool (mget m ⟨a0, a1⟩).isSome]⟩, True) := slookE_ok_T kt_pair mv_m_pair_bool m ⟨a0, a1⟩
@[go_sem] theorem lx_m_pair_bool {z : Value} {m : M_m_pair_bool} {a0 a1 : Int} : slookE tt.get 99 z (.agg ⟨[.int .i64 (a0), .int .i64 (a1)]⟩) (me_m_pair_bool m) false = (((mget m ⟨a0, a1⟩).map mv_m_pair_bool).getD z, True) := slookE_T kt_pair mv_m_pair_bool m ⟨a0, a1⟩
@[go_sem] theorem gd_m_pair_bool {x : Option (Bool)} : (x.map mv_m_pair_bool).getD (.bool (false)) = mv_m_pair_bool (x.getD default) := by cases x <;> rfl
theorem rm_m_pair_bool {ρ : Nat → Nat} {m : M_m_pair_bool} : (me_m_pair_bool m).map (renE ρ) = me_m_pair_bool m := renE_T (fun _ => rfl) (fun _ => rfl) m
@[go_sem] theorem mu_m_pair_bool {b clk : Nat} {m : M_m_pair_bool} {a0 a1 : Int} {b0 : Bool} : mapUpdE tt.get 99 b (.agg ⟨[.int .i64 (a0), .int .i64 (a1)]⟩) (.bool (b0)) (me_m_pair_bool m) clk = some [(b, some (.map (me_m_pair_bool (mput m ⟨a0, a1⟩ b0 clk)) (mclk m ⟨a0, a1⟩ clk)))] := mapUpdE_T kt_pair mv_m_pair_bool b m clk ⟨a0, a1⟩ b0
@[go_sem] theorem md_m_pair_bool {b clk : Nat} {m : M_m_pair_bool} {a0 a1 : Int} : deleteE tt.get 99 b (.agg ⟨[.int .i64 (a0), .int .i64 (a1)]⟩) (me_m_pair_bool m) clk = some [(b, some (.map (me_m_pair_bool (mdel m ⟨a0, a1⟩)) clk))] := deleteE_T kt_pair mv_m_pair_bool b m clk ⟨a0, a1⟩
def kt_int : KT tt.get 3 Int := ⟨fun a => .int .i64 (a), fun a b => by simp [eqA, t_int, ti3, eqI_dec], fun a => by simp [keyA, t_int, ti3], fun a => rfl, fun a => by simp [Instr.sameBits], fun ρ a => rfl⟩
@[go_sem] theorem sl_m_int_bool {hp : Hp} {b : Nat} {k : Value} {ok : Bool} : slookup tt.get hp 93 (.map (some b)) k ok = (match hp b with | some (.map es _) => slookE tt.get 3 ti4.zero k es ok | _ => (undef, False)) := slookup_map k_m_int_bool t_int t_bool
@[go_sem] theorem su_m_int_bool {hp : Hp} {b : Nat} {k x : Value} : mapUpdA tt.get hp 93 (.map (some b)) k x = (match hp b with | some (.map es clk) => mapUpdE tt.get 3 b k x es clk | _ => none) := mapUpdA_map k_m_int_bool t_int
@[go_sem] theorem sd_m_int_bool {hp : Hp} {b : Nat} {k : Value} {ts : List TypeId} : deleteA tt.get hp (93 :: ts) (.map (some b)) k = (match hp b with | some (.map es clk) => deleteE tt.get 3 b k es clk | _ => none) := deleteA_map k_m_int_bool t_int
def mv_m_int_bool (a : Bool) : Value := .bool (a)
abbrev M_m_int_bool := List (Int × Bool × Nat)
def me_m_int_bool (m : M_m_int_bool) : List MapEntry := m.map (entT kt_int.ek mv_m_int_bool)
def dm_m_int_bool (l : List MapEntry) : M_m_int_bool := l.map fun e => (intOf (e.key), boolOf (e.val), e.born)
@[go_sem] theorem dm_me_m_int_bool (m : M_m_int_bool) : dm_m_int_bool (me_m_int_bool m) = m := by simp only [dm_m_int_bool, me_m_int_bool, List.map_map]; exact (List.map_congr_left (fun _ _ => rfl)).trans (List.map_id m)
@[go_sem] theorem lo_m_int_bool {z : Value} {m : M_m_int_bool} {a0 : Int} : slookE tt.get 3 z (.int .i64 (a0)) (me_m_int_bool m) true = (.tuple ⟨[((mget m a0).map mv_m_int_bool).getD z, .bool (mget m a0).isSome]⟩, True) := slookE_ok_T kt_int mv_m_int_bool m a0
@[go_sem] theorem lx_m_int_bool {z : Value} {m : M_m_int_bool} {a0 : Int} : slookE tt.get 3 z (.int .i64 (a0)) (me_m_int_bool m) false = (((mget m a0).map mv_m_int_bool).getD z, True) := slookE_T kt_int mv_m_int_bool m a0
@[go_sem] theorem gd_m_int_bool {x : Option (Bool)} : (x.map mv_m_int_bool).getD (.bool (false)) = mv_m_int_bool (x.getD default) := by cases x <;> rfl
theorem rm_m_int_bool {ρ : Nat → Nat} {m : M_m_int_bool} : (me_m_int_bool m).map (renE ρ) = me_m_int_bool m := renE_T (fun _ => rfl) (fun _ => rfl) m
@[go_sem] theorem mu_m_int_bool {b clk : Nat} {m : M_m_int_bool} {a0 : Int} {b0 : Bool} : mapUpdE tt.get 3 b (.int .i64 (a0)) (.bool (b0)) (me_m_int_bool m) clk = some [(b, some (.map (me_m_int_bool (mput m a0 b0 clk)) (mclk m a0 clk)))] := mapUpdE_T kt_int mv_m_int_bool b m clk a0 b0
@[go_sem] theorem md_m_int_bool {b clk : Nat} {m : M_m_int_bool} {a0 : Int} : deleteE tt.get 3 b (.int .i64 (a0)) (me_m_int_bool m) clk = some [(b, some (.map (me_m_int_bool (mdel m a0)) clk))] := deleteE_T kt_int mv_m_int_bool b m clk a0
def kt_message : KT tt.get 121 T_message := ⟨fun a => .agg ⟨e_message.enc a⟩, fun a b => by
    obtain ⟨a0, a1, a2⟩ := a; obtain ⟨b0, b1, b2⟩ := b
    simp only [eqA, t_message, ti121, eqFields, partA, ti3, t_int, ti3, t_int, ti3, t_int, aggD, en_message, eqI_dec, List.drop_zero, List.drop_succ_cons, T_message.mk.injEq, if_true]
    by_cases h0 : a0 = b0 <;> by_cases h1 : a1 = b1 <;> by_cases h2 : a2 = b2 <;> simp [h0, h1, h2], fun a => by
    simp [keyA, keyFields, partA, t_message, ti121, ti3, t_int, ti3, t_int, ti3, t_int, aggD, en_message], fun a => by simp [plain, en_message], fun a => sameBits_of (fun v h => by simp [en_message] at h; rcases h with rfl | rfl | rfl <;> simp [Instr.sameBits]), fun ρ a => rfl⟩
@[go_sem] theorem sl_m_message_Rule {hp : Hp} {b : Nat} {k : Value} {ok : Bool} : slookup tt.get hp 117 (.map (some b)) k ok = (match hp b with | some (.map es _) => slookE tt.get 121 ti63.zero k es ok | _ => (undef, False)) := slookup_map k_m_message_Rule t_message t_Rule
@[go_sem] theorem su_m_message_Rule {hp : Hp} {b : Nat} {k x : Value} : mapUpdA tt.get hp 117 (.map (some b)) k x = (match hp b with | some (.map es clk) => mapUpdE tt.get 121 b k x es clk | _ => none) := mapUpdA_map k_m_message_Rule t_message
@[go_sem] theorem sd_m_message_Rule {hp : Hp} {b : Nat} {k : Value} {ts : List TypeId} : deleteA tt.get hp (117 :: ts) (.map (some b)) k = (match hp b with | some (.map es clk) => deleteE tt.get 121 b k es clk | _ => none) := deleteA_map k_m_message_Rule t_message
def mv_m_message_Rule (a : T_Rule) : Value := .agg ⟨e_Rule.enc a⟩
abbrev M_m_message_Rule := List (T_message × T_Rule × Nat)
def me_m_message_Rule (m : M_m_message_Rule) : List MapEntry := m.map (entT kt_message.ek mv_m_message_Rule)
def dm_m_message_Rule (l : List MapEntry) : M_m_message_Rule := l.map fun e => (⟨intOf (((aggOf e.key)[0]?).getD undef), intOf (((aggOf e.key)[1]?).getD undef), intOf (((aggOf e.key)[2]?).getD undef)⟩, ⟨intOf (((aggOf e.val)[0]?).getD undef), intOf (((aggOf e.val)[1]?).getD undef), intOf (((aggOf e.val)[2]?).getD undef), intOf (((aggOf e.val)[3]?).getD undef), intOf (((aggOf e.val)[4]?).getD undef)⟩, e.born)
@[go_sem] theorem dm_me_m_message_Rule (m : M_m_message_Rule) : dm_m_message_Rule (me_m_message_Rule m) = m := by simp only [dm_m_message_Rule, me_m_message_Rule, List.map_map]; exact (List.map_congr_left (fun _ _ => rfl)).trans (List.map_id m)
@[go_sem] theorem lo_m_message_Rule {z : Value} {m : M_m_message_Rule} {a0 a1 a2 : Int} : slookE tt.get 121 z (.agg ⟨[.int .i64 (a0), .int .i64 (a1), .int .i64 (a2)]⟩) (me_m_message_Rule m) true = (.tuple ⟨[((mget m ⟨a0, a1, a2⟩).map mv_m_message_Rule).getD z, .bool (mget m ⟨a0, a1, a2⟩).isSome]⟩, True) := slookE_ok_T kt_message mv_m_message_Rule m ⟨a0, a1, a2⟩
@[go_sem] theorem lx_m_message_Rule {z : Value} {m : M_m_message_Rule} {a0 a1 a2 : Int} : slookE tt.get 121 z (.agg ⟨[.int .i64 (a0), .int .i64 (a1), .int .i64 (a2)]⟩) (me_m_message_Rule m) false = (((mget m ⟨a0, a1, a2⟩).map mv_m_message_Rule).getD z, True) := slookE_T kt_message mv_m_message_Rule m ⟨a0, a1, a2⟩
@[go_sem] theorem gd_m_message_Rule {x : Option (T_Rule)} : (x.map mv_m_message_Rule).getD (.agg ⟨[(.int .i64 (0)), (.int .i64 (0)), (.int .i64 (0)), (.int .i64 (0)), (.int .i64 (0))]⟩) = mv_m_message_Rule (x.getD default) := by cases x <;> rfl
theorem rm_m_message_Rule {ρ : Nat → Nat} {m : M_m_message_Rule} : (me_m_message_Rule m).map (renE ρ) = me_m_message_Rule m := renE_T (fun _ => rfl) (fun _ => rfl) m
@[go_sem] theorem mu_m_message_Rule {b clk : Nat} {m : M_m_message_Rule} {a0 a1 a2 : Int} {b0 b1 b2 b3 b4 : Int} : mapUpdE tt.get 121 b (.agg ⟨[.int .i64 (a0), .int .i64 (a1), .int .i64 (a2)]⟩) (.agg ⟨[.int .i64 (b0), .int .i64 (b1), .int .i64 (b2), .int .i64 (b3), .int .i64 (b4)]⟩) (me_m_message_Rule m) clk = some [(b, some (.map (me_m_message_Rule (mput m ⟨a0, a1, a2⟩ ⟨b0, b1, b2, b3, b4⟩ clk)) (mclk m ⟨a0, a1, a2⟩ clk)))] := mapUpdE_T kt_message mv_m_message_Rule b m clk ⟨a0, a1, a2⟩ ⟨b0, b1, b2, b3, b4⟩
@[go_sem] theorem md_m_message_Rule {b clk : Nat} {m : M_m_message_Rule} {a0 a1 a2 : Int} : deleteE tt.get 121 b (.agg ⟨[.int .i64 (a0), .int .i64 (a1), .int .i64 (a2)]⟩) (me_m_message_Rule m) clk = some [(b, some (.map (me_m_message_Rule (mdel m ⟨a0, a1, a2⟩)) clk))] := deleteE_T kt_message mv_m_message_Rule b m clk ⟨a0, a1, a2⟩
theorem sconvHI {s d : TypeId} {k1 k2 : IntKind} {hp : Hp} {x : Value} (h1 : kindOf tt.get s = some (.int k1)) (h2 : kindOf tt.get d = some (.int k2)) : sconvH tt.get hp s d x = (.int k2 (wrapA k2 (intOf x)), IsN x) := by
  unfold sconvH
  simp only [h1, h2, sconv]
@[go_sem] theorem cv_3_5 {hp : Hp} {x : Value} : sconvH tt.get hp 3 5 x = (.int .u8 (wrapA .u8 (intOf x)), IsN x) := sconvHI k_int k_uint8
@[go_sem] theorem cv_3_32 {hp : Hp} {x : Value} : sconvH tt.get hp 3 32 x = (.int .u64 (wrapA .u64 (intOf x)), IsN x) := sconvHI k_int k_uint64
@[go_sem] theorem cv_3_146 {hp : Hp} {x : Value} : sconvH tt.get hp 3 146 x = (.int .u64 (wrapA .u64 (intOf x)), IsN x) := sconvHI k_int k_uint
@[go_sem] theorem cv_5_3 {hp : Hp} {x : Value} : sconvH tt.get hp 5 3 x = (.int .i64 (wrapA .i64 (intOf x)), IsN x) := sconvHI k_uint8 k_int
@[go_sem] theorem cv_146_3 {hp : Hp} {x : Value} : sconvH tt.get hp 146 3 x = (.int .i64 (wrapA .i64 (intOf x)), IsN x) := sconvHI k_uint k_int
attribute [go_sem] mv_m_pair_int
attribute [go_sem] mv_m_pair_bool
attribute [go_sem] mv_m_int_bool
attribute [go_sem] mv_m_message_Rule
end Go.Proofs.Ytmppehipfpkepaa.Dm
