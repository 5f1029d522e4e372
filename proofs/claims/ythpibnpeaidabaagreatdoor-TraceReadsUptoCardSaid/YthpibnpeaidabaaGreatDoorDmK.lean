/- Facts on the types of this seat; how their data lie in memory. -/
import Derived.Test.YthpibnpeaidabaaGreatDoorDmTab
import Derived.Test.YthpibnpeaidabaaGreatDoorDmH
set_option linter.unusedSimpArgs false
namespace Go.Proofs.YthpibnpeaidabaaGreatDoor.Dm
open Go.Dm
attribute [go_sem] ti2 ti3 ti4 ti5 ti9 ti17 ti20 ti21 ti22 ti24 ti28 ti29 ti31 ti33 ti35 ti46 ti58 ti60 ti63 ti65 ti71 ti84 ti85 ti89 ti97 ti102 ti111 ti113 ti116 ti121 ti122 ti129 ti132 ti134 ti135 ti139 ti150 ti153 ti155 ti173 ti174 ti175 ti183 ti194 ti196 ti200 ti201 ti203 ti204
@[go_sem] theorem t_int64 : tt.get 2 = some ti2 := by kernel_rfl
@[go_sem] theorem ae_int64 : allocEsz tt.get 2 = 0 := by kernel_rfl
@[go_sem] theorem k_int64 : kindOf tt.get 2 = some (.int .i64) := by kernel_rfl
@[go_sem] theorem v_int64 {op : BinOp} {xo yo : Operand} {x y : Value} : sbin2 tt.get op 2 xo yo x y = sbinI op .i64 x y := sbin2_int k_int64
@[go_sem] theorem t_int : tt.get 3 = some ti3 := by kernel_rfl
@[go_sem] theorem ae_int : allocEsz tt.get 3 = 0 := by kernel_rfl
@[go_sem] theorem k_int : kindOf tt.get 3 = some (.int .i64) := by kernel_rfl
@[go_sem] theorem v_int {op : BinOp} {xo yo : Operand} {x y : Value} : sbin2 tt.get op 3 xo yo x y = sbinI op .i64 x y := sbin2_int k_int
@[go_sem] theorem t_bool : tt.get 4 = some ti4 := by kernel_rfl
@[go_sem] theorem ae_bool : allocEsz tt.get 4 = 0 := by kernel_rfl
@[go_sem] theorem k_bool : kindOf tt.get 4 = some (.bool) := by kernel_rfl
@[go_sem] theorem v_bool {op : BinOp} {xo yo : Operand} {x y : Value} : sbin2 tt.get op 4 xo yo x y = sbinB op x y := sbin2_bool k_bool
@[go_sem] theorem t_uint8 : tt.get 5 = some ti5 := by kernel_rfl
@[go_sem] theorem ae_uint8 : allocEsz tt.get 5 = 0 := by kernel_rfl
@[go_sem] theorem k_uint8 : kindOf tt.get 5 = some (.int .u8) := by kernel_rfl
@[go_sem] theorem v_uint8 {op : BinOp} {xo yo : Operand} {x y : Value} : sbin2 tt.get op 5 xo yo x y = sbinI op .u8 x y := sbin2_int k_uint8
@[go_sem] theorem t_string : tt.get 9 = some ti9 := by kernel_rfl
@[go_sem] theorem ae_string : allocEsz tt.get 9 = 0 := by kernel_rfl
@[go_sem] theorem k_string : kindOf tt.get 9 = some (.string) := by kernel_rfl
@[go_sem] theorem v_string {op : BinOp} {xo yo : Operand} {x y : Value} : sbin2 tt.get op 9 xo yo x y = sbinS op x y := sbin2_str k_string
@[go_sem] theorem t_pabi_Type : tt.get 17 = some ti17 := by kernel_rfl
@[go_sem] theorem ae_pabi_Type : allocEsz tt.get 17 = 0 := by kernel_rfl
@[go_sem] theorem k_pabi_Type : kindOf tt.get 17 = some (.pointer 216) := by kernel_rfl
@[go_sem] theorem v_pabi_Type {op : BinOp} {xo yo : Operand} {x y : Value} : sbin2 tt.get op 17 xo yo x y = sbinX (binA tt.get op 17 xo yo x y) := sbin2_ref (by kernel_rfl)
@[go_sem] theorem n_pabi_Type_eql {xo yo : Operand} {a : Option Addr} : binA tt.get .eql 17 xo yo (.pointer a) (.pointer none) = some (.bool (a.isNone)) := by cases a <;> simp [binA, eqA, t_pabi_Type, ti17]
@[go_sem] theorem n_pabi_Type_neq {xo yo : Operand} {a : Option Addr} : binA tt.get .neq 17 xo yo (.pointer a) (.pointer none) = some (.bool (!a.isNone)) := by cases a <;> simp [binA, eqA, t_pabi_Type, ti17]
@[go_sem] theorem t_t20 : tt.get 20 = some ti20 := by kernel_rfl
@[go_sem] theorem ae_t20 : allocEsz tt.get 20 = 0 := by kernel_rfl
@[go_sem] theorem v_t20 {op : BinOp} {xo yo : Operand} {x y : Value} : sbin2 tt.get op 20 xo yo x y = sbinX (binA tt.get op 20 xo yo x y) := sbin2_ref (by kernel_rfl)
@[go_sem] theorem t_int32 : tt.get 21 = some ti21 := by kernel_rfl
@[go_sem] theorem ae_int32 : allocEsz tt.get 21 = 0 := by kernel_rfl
@[go_sem] theorem k_int32 : kindOf tt.get 21 = some (.int .i32) := by kernel_rfl
@[go_sem] theorem v_int32 {op : BinOp} {xo yo : Operand} {x y : Value} : sbin2 tt.get op 21 xo yo x y = sbinI op .i32 x y := sbin2_int k_int32
@[go_sem] theorem t_sEvent : tt.get 22 = some ti22 := by kernel_rfl
@[go_sem] theorem ae_sEvent : allocEsz tt.get 22 = 0 := by kernel_rfl
@[go_sem] theorem k_sEvent : kindOf tt.get 22 = some (.slice 33) := by kernel_rfl
@[go_sem] theorem v_sEvent {op : BinOp} {xo yo : Operand} {x y : Value} : sbin2 tt.get op 22 xo yo x y = sbinX (binA tt.get op 22 xo yo x y) := sbin2_ref (by kernel_rfl)
@[go_sem] theorem n_sEvent_eql {xo yo : Operand} {a : Option Addr} {n c : Nat} : binA tt.get .eql 22 xo yo (.slice a n c) (.slice none 0 0) = some (.bool (a.isNone)) := by cases a <;> simp [binA, eqA, t_sEvent, ti22]
@[go_sem] theorem n_sEvent_neq {xo yo : Operand} {a : Option Addr} {n c : Nat} : binA tt.get .neq 22 xo yo (.slice a n c) (.slice none 0 0) = some (.bool (!a.isNone)) := by cases a <;> simp [binA, eqA, t_sEvent, ti22]
@[go_sem] theorem t_Errno : tt.get 24 = some ti24 := by kernel_rfl
@[go_sem] theorem ae_Errno : allocEsz tt.get 24 = 0 := by kernel_rfl
@[go_sem] theorem k_Errno : kindOf tt.get 24 = some (.int .i64) := by kernel_rfl
@[go_sem] theorem v_Errno {op : BinOp} {xo yo : Operand} {x y : Value} : sbin2 tt.get op 24 xo yo x y = sbinI op .i64 x y := sbin2_int k_Errno
@[go_sem] theorem t_uint64 : tt.get 28 = some ti28 := by kernel_rfl
@[go_sem] theorem ae_uint64 : allocEsz tt.get 28 = 0 := by kernel_rfl
@[go_sem] theorem k_uint64 : kindOf tt.get 28 = some (.int .u64) := by kernel_rfl
@[go_sem] theorem v_uint64 {op : BinOp} {xo yo : Operand} {x y : Value} : sbin2 tt.get op 28 xo yo x y = sbinI op .u64 x y := sbin2_int k_uint64
@[go_sem] theorem t_uint32 : tt.get 29 = some ti29 := by kernel_rfl
@[go_sem] theorem ae_uint32 : allocEsz tt.get 29 = 0 := by kernel_rfl
@[go_sem] theorem k_uint32 : kindOf tt.get 29 = some (.int .u32) := by kernel_rfl
@[go_sem] theorem v_uint32 {op : BinOp} {xo yo : Operand} {x y : Value} : sbin2 tt.get op 29 xo yo x y = sbinI op .u32 x y := sbin2_int k_uint32
@[go_sem] theorem t_Bits : tt.get 31 = some ti31 := by kernel_rfl
@[go_sem] theorem ae_Bits : allocEsz tt.get 31 = 0 := by kernel_rfl
@[go_sem] theorem k_Bits : kindOf tt.get 31 = some (.array 4 28) := by kernel_rfl
@[go_sem] theorem t_Event : tt.get 33 = some ti33 := by kernel_rfl
@[go_sem] theorem ae_Event : allocEsz tt.get 33 = 0 := by kernel_rfl
@[go_sem] theorem fa_Event_0 {b o : Nat} : sfieldAddr tt.get 33 (.pointer (some ⟨b, o, none⟩)) 0 = (.pointer (some ⟨b, o, none⟩), True) := by unfold sfieldAddr; rw [show fieldAddrA tt.get 33 (.pointer (some ⟨b, o, none⟩)) 0 = some (.pointer (some ⟨b, o, none⟩)) from by kernel_rfl]
@[go_sem] theorem fa_Event_1 {b o : Nat} : sfieldAddr tt.get 33 (.pointer (some ⟨b, o, none⟩)) 1 = (.pointer (some ⟨b, o + 1, none⟩), True) := by unfold sfieldAddr; rw [show fieldAddrA tt.get 33 (.pointer (some ⟨b, o, none⟩)) 1 = some (.pointer (some ⟨b, o + 1, none⟩)) from by kernel_rfl]
@[go_sem] theorem fa_Event_2 {b o : Nat} : sfieldAddr tt.get 33 (.pointer (some ⟨b, o, none⟩)) 2 = (.pointer (some ⟨b, o + 2, none⟩), True) := by unfold sfieldAddr; rw [show fieldAddrA tt.get 33 (.pointer (some ⟨b, o, none⟩)) 2 = some (.pointer (some ⟨b, o + 2, none⟩)) from by kernel_rfl]
@[go_sem] theorem fa_Event_3 {b o : Nat} : sfieldAddr tt.get 33 (.pointer (some ⟨b, o, none⟩)) 3 = (.pointer (some ⟨b, o + 3, none⟩), True) := by unfold sfieldAddr; rw [show fieldAddrA tt.get 33 (.pointer (some ⟨b, o, none⟩)) 3 = some (.pointer (some ⟨b, o + 3, none⟩)) from by kernel_rfl]
@[go_sem] theorem fa_Event_4 {b o : Nat} : sfieldAddr tt.get 33 (.pointer (some ⟨b, o, none⟩)) 4 = (.pointer (some ⟨b, o + 4, none⟩), True) := by unfold sfieldAddr; rw [show fieldAddrA tt.get 33 (.pointer (some ⟨b, o, none⟩)) 4 = some (.pointer (some ⟨b, o + 4, none⟩)) from by kernel_rfl]
@[go_sem] theorem fa_Event_5 {b o : Nat} : sfieldAddr tt.get 33 (.pointer (some ⟨b, o, none⟩)) 5 = (.pointer (some ⟨b, o + 5, none⟩), True) := by unfold sfieldAddr; rw [show fieldAddrA tt.get 33 (.pointer (some ⟨b, o, none⟩)) 5 = some (.pointer (some ⟨b, o + 5, none⟩)) from by kernel_rfl]
@[go_sem] theorem fa_Event_6 {b o : Nat} : sfieldAddr tt.get 33 (.pointer (some ⟨b, o, none⟩)) 6 = (.pointer (some ⟨b, o + 6, none⟩), True) := by unfold sfieldAddr; rw [show fieldAddrA tt.get 33 (.pointer (some ⟨b, o, none⟩)) 6 = some (.pointer (some ⟨b, o + 6, none⟩)) from by kernel_rfl]
@[go_sem] theorem t_error : tt.get 35 = some ti35 := by kernel_rfl
@[go_sem] theorem ae_error : allocEsz tt.get 35 = 0 := by kernel_rfl
@[go_sem] theorem v_error {op : BinOp} {xo yo : Operand} {x y : Value} : sbin2 tt.get op 35 xo yo x y = sbinX (binA tt.get op 35 xo yo x y) := sbin2_ref (by kernel_rfl)
@[go_sem] theorem t_dandelionref26_Fault : tt.get 46 = some ti46 := by kernel_rfl
@[go_sem] theorem ae_dandelionref26_Fault : allocEsz tt.get 46 = 0 := by kernel_rfl
@[go_sem] theorem fa_dandelionref26_Fault_0 {b o : Nat} : sfieldAddr tt.get 46 (.pointer (some ⟨b, o, none⟩)) 0 = (.pointer (some ⟨b, o, none⟩), True) := by unfold sfieldAddr; rw [show fieldAddrA tt.get 46 (.pointer (some ⟨b, o, none⟩)) 0 = some (.pointer (some ⟨b, o, none⟩)) from by kernel_rfl]
@[go_sem] theorem fa_dandelionref26_Fault_1 {b o : Nat} : sfieldAddr tt.get 46 (.pointer (some ⟨b, o, none⟩)) 1 = (.pointer (some ⟨b, o + 1, none⟩), True) := by unfold sfieldAddr; rw [show fieldAddrA tt.get 46 (.pointer (some ⟨b, o, none⟩)) 1 = some (.pointer (some ⟨b, o + 1, none⟩)) from by kernel_rfl]
@[go_sem] theorem t_sstring : tt.get 58 = some ti58 := by kernel_rfl
@[go_sem] theorem ae_sstring : allocEsz tt.get 58 = 0 := by kernel_rfl
@[go_sem] theorem k_sstring : kindOf tt.get 58 = some (.slice 9) := by kernel_rfl
@[go_sem] theorem v_sstring {op : BinOp} {xo yo : Operand} {x y : Value} : sbin2 tt.get op 58 xo yo x y = sbinX (binA tt.get op 58 xo yo x y) := sbin2_ref (by kernel_rfl)
@[go_sem] theorem n_sstring_eql {xo yo : Operand} {a : Option Addr} {n c : Nat} : binA tt.get .eql 58 xo yo (.slice a n c) (.slice none 0 0) = some (.bool (a.isNone)) := by cases a <;> simp [binA, eqA, t_sstring, ti58]
@[go_sem] theorem n_sstring_neq {xo yo : Operand} {a : Option Addr} {n c : Nat} : binA tt.get .neq 58 xo yo (.slice a n c) (.slice none 0 0) = some (.bool (!a.isNone)) := by cases a <;> simp [binA, eqA, t_sstring, ti58]
@[go_sem] theorem t_suint8 : tt.get 60 = some ti60 := by kernel_rfl
@[go_sem] theorem ae_suint8 : allocEsz tt.get 60 = 0 := by kernel_rfl
@[go_sem] theorem k_suint8 : kindOf tt.get 60 = some (.slice 5) := by kernel_rfl
@[go_sem] theorem v_suint8 {op : BinOp} {xo yo : Operand} {x y : Value} : sbin2 tt.get op 60 xo yo x y = sbinX (binA tt.get op 60 xo yo x y) := sbin2_ref (by kernel_rfl)
@[go_sem] theorem n_suint8_eql {xo yo : Operand} {a : Option Addr} {n c : Nat} : binA tt.get .eql 60 xo yo (.slice a n c) (.slice none 0 0) = some (.bool (a.isNone)) := by cases a <;> simp [binA, eqA, t_suint8, ti60]
@[go_sem] theorem n_suint8_neq {xo yo : Operand} {a : Option Addr} {n c : Nat} : binA tt.get .neq 60 xo yo (.slice a n c) (.slice none 0 0) = some (.bool (!a.isNone)) := by cases a <;> simp [binA, eqA, t_suint8, ti60]
@[go_sem] theorem t_pBuilder : tt.get 63 = some ti63 := by kernel_rfl
@[go_sem] theorem ae_pBuilder : allocEsz tt.get 63 = 0 := by kernel_rfl
@[go_sem] theorem k_pBuilder : kindOf tt.get 63 = some (.pointer 65) := by kernel_rfl
@[go_sem] theorem v_pBuilder {op : BinOp} {xo yo : Operand} {x y : Value} : sbin2 tt.get op 63 xo yo x y = sbinX (binA tt.get op 63 xo yo x y) := sbin2_ref (by kernel_rfl)
@[go_sem] theorem n_pBuilder_eql {xo yo : Operand} {a : Option Addr} : binA tt.get .eql 63 xo yo (.pointer a) (.pointer none) = some (.bool (a.isNone)) := by cases a <;> simp [binA, eqA, t_pBuilder, ti63]
@[go_sem] theorem n_pBuilder_neq {xo yo : Operand} {a : Option Addr} : binA tt.get .neq 63 xo yo (.pointer a) (.pointer none) = some (.bool (!a.isNone)) := by cases a <;> simp [binA, eqA, t_pBuilder, ti63]
@[go_sem] theorem t_Builder : tt.get 65 = some ti65 := by kernel_rfl
def esz_Builder : Nat := tabMark * (1 + 65 + 4096 * 2)
@[go_sem] theorem ae_Builder : allocEsz tt.get 65 = esz_Builder := by kernel_rfl
@[go_sem] theorem fa_Builder_0 {b o : Nat} : sfieldAddr tt.get 65 (.pointer (some ⟨b, o, none⟩)) 0 = (.pointer (some ⟨b, o, none⟩), True) := by unfold sfieldAddr; rw [show fieldAddrA tt.get 65 (.pointer (some ⟨b, o, none⟩)) 0 = some (.pointer (some ⟨b, o, none⟩)) from by kernel_rfl]
@[go_sem] theorem fa_Builder_1 {b o : Nat} : sfieldAddr tt.get 65 (.pointer (some ⟨b, o, none⟩)) 1 = (.pointer (some ⟨b, o + 1, none⟩), True) := by unfold sfieldAddr; rw [show fieldAddrA tt.get 65 (.pointer (some ⟨b, o, none⟩)) 1 = some (.pointer (some ⟨b, o + 1, none⟩)) from by kernel_rfl]
@[go_sem] theorem t_a9string : tt.get 71 = some ti71 := by kernel_rfl
@[go_sem] theorem ae_a9string : allocEsz tt.get 71 = 0 := by kernel_rfl
@[go_sem] theorem k_a9string : kindOf tt.get 71 = some (.array 9 9) := by kernel_rfl
@[go_sem] theorem t_papi_Fault : tt.get 84 = some ti84 := by kernel_rfl
@[go_sem] theorem ae_papi_Fault : allocEsz tt.get 84 = 0 := by kernel_rfl
@[go_sem] theorem k_papi_Fault : kindOf tt.get 84 = some (.pointer 85) := by kernel_rfl
@[go_sem] theorem v_papi_Fault {op : BinOp} {xo yo : Operand} {x y : Value} : sbin2 tt.get op 84 xo yo x y = sbinX (binA tt.get op 84 xo yo x y) := sbin2_ref (by kernel_rfl)
@[go_sem] theorem n_papi_Fault_eql {xo yo : Operand} {a : Option Addr} : binA tt.get .eql 84 xo yo (.pointer a) (.pointer none) = some (.bool (a.isNone)) := by cases a <;> simp [binA, eqA, t_papi_Fault, ti84]
@[go_sem] theorem n_papi_Fault_neq {xo yo : Operand} {a : Option Addr} : binA tt.get .neq 84 xo yo (.pointer a) (.pointer none) = some (.bool (!a.isNone)) := by cases a <;> simp [binA, eqA, t_papi_Fault, ti84]
@[go_sem] theorem t_api_Fault : tt.get 85 = some ti85 := by kernel_rfl
@[go_sem] theorem ae_api_Fault : allocEsz tt.get 85 = 0 := by kernel_rfl
@[go_sem] theorem fa_api_Fault_0 {b o : Nat} : sfieldAddr tt.get 85 (.pointer (some ⟨b, o, none⟩)) 0 = (.pointer (some ⟨b, o, none⟩), True) := by unfold sfieldAddr; rw [show fieldAddrA tt.get 85 (.pointer (some ⟨b, o, none⟩)) 0 = some (.pointer (some ⟨b, o, none⟩)) from by kernel_rfl]
@[go_sem] theorem fa_api_Fault_1 {b o : Nat} : sfieldAddr tt.get 85 (.pointer (some ⟨b, o, none⟩)) 1 = (.pointer (some ⟨b, o + 1, none⟩), True) := by unfold sfieldAddr; rw [show fieldAddrA tt.get 85 (.pointer (some ⟨b, o, none⟩)) 1 = some (.pointer (some ⟨b, o + 1, none⟩)) from by kernel_rfl]
@[go_sem] theorem t_ppapi_Fault : tt.get 89 = some ti89 := by kernel_rfl
@[go_sem] theorem ae_ppapi_Fault : allocEsz tt.get 89 = 0 := by kernel_rfl
@[go_sem] theorem k_ppapi_Fault : kindOf tt.get 89 = some (.pointer 84) := by kernel_rfl
@[go_sem] theorem v_ppapi_Fault {op : BinOp} {xo yo : Operand} {x y : Value} : sbin2 tt.get op 89 xo yo x y = sbinX (binA tt.get op 89 xo yo x y) := sbin2_ref (by kernel_rfl)
@[go_sem] theorem n_ppapi_Fault_eql {xo yo : Operand} {a : Option Addr} : binA tt.get .eql 89 xo yo (.pointer a) (.pointer none) = some (.bool (a.isNone)) := by cases a <;> simp [binA, eqA, t_ppapi_Fault, ti89]
@[go_sem] theorem n_ppapi_Fault_neq {xo yo : Operand} {a : Option Addr} : binA tt.get .neq 89 xo yo (.pointer a) (.pointer none) = some (.bool (!a.isNone)) := by cases a <;> simp [binA, eqA, t_ppapi_Fault, ti89]
@[go_sem] theorem t_reflectlite_Type : tt.get 97 = some ti97 := by kernel_rfl
@[go_sem] theorem ae_reflectlite_Type : allocEsz tt.get 97 = 0 := by kernel_rfl
@[go_sem] theorem v_reflectlite_Type {op : BinOp} {xo yo : Operand} {x y : Value} : sbin2 tt.get op 97 xo yo x y = sbinX (binA tt.get op 97 xo yo x y) := sbin2_ref (by kernel_rfl)
@[go_sem] theorem t_puint8 : tt.get 102 = some ti102 := by kernel_rfl
@[go_sem] theorem ae_puint8 : allocEsz tt.get 102 = 0 := by kernel_rfl
@[go_sem] theorem k_puint8 : kindOf tt.get 102 = some (.pointer 5) := by kernel_rfl
@[go_sem] theorem v_puint8 {op : BinOp} {xo yo : Operand} {x y : Value} : sbin2 tt.get op 102 xo yo x y = sbinX (binA tt.get op 102 xo yo x y) := sbin2_ref (by kernel_rfl)
@[go_sem] theorem n_puint8_eql {xo yo : Operand} {a : Option Addr} : binA tt.get .eql 102 xo yo (.pointer a) (.pointer none) = some (.bool (a.isNone)) := by cases a <;> simp [binA, eqA, t_puint8, ti102]
@[go_sem] theorem n_puint8_neq {xo yo : Operand} {a : Option Addr} : binA tt.get .neq 102 xo yo (.pointer a) (.pointer none) = some (.bool (!a.isNone)) := by cases a <;> simp [binA, eqA, t_puint8, ti102]
@[go_sem] theorem t_flag : tt.get 111 = some ti111 := by kernel_rfl
@[go_sem] theorem ae_flag : allocEsz tt.get 111 = 0 := by kernel_rfl
@[go_sem] theorem k_flag : kindOf tt.get 111 = some (.int .u64) := by kernel_rfl
@[go_sem] theorem v_flag {op : BinOp} {xo yo : Operand} {x y : Value} : sbin2 tt.get op 111 xo yo x y = sbinI op .u64 x y := sbin2_int k_flag
@[go_sem] theorem t_Value : tt.get 113 = some ti113 := by kernel_rfl
@[go_sem] theorem ae_Value : allocEsz tt.get 113 = 0 := by kernel_rfl
@[go_sem] theorem fa_Value_0 {b o : Nat} : sfieldAddr tt.get 113 (.pointer (some ⟨b, o, none⟩)) 0 = (.pointer (some ⟨b, o, none⟩), True) := by unfold sfieldAddr; rw [show fieldAddrA tt.get 113 (.pointer (some ⟨b, o, none⟩)) 0 = some (.pointer (some ⟨b, o, none⟩)) from by kernel_rfl]
@[go_sem] theorem fa_Value_2 {b o : Nat} : sfieldAddr tt.get 113 (.pointer (some ⟨b, o, none⟩)) 2 = (.pointer (some ⟨b, o + 2, none⟩), True) := by unfold sfieldAddr; rw [show fieldAddrA tt.get 113 (.pointer (some ⟨b, o, none⟩)) 2 = some (.pointer (some ⟨b, o + 2, none⟩)) from by kernel_rfl]
@[go_sem] theorem t_Kind : tt.get 116 = some ti116 := by kernel_rfl
@[go_sem] theorem ae_Kind : allocEsz tt.get 116 = 0 := by kernel_rfl
@[go_sem] theorem k_Kind : kindOf tt.get 116 = some (.int .u8) := by kernel_rfl
@[go_sem] theorem v_Kind {op : BinOp} {xo yo : Operand} {x y : Value} : sbin2 tt.get op 116 xo yo x y = sbinI op .u8 x y := sbin2_int k_Kind
@[go_sem] theorem t_uint : tt.get 121 = some ti121 := by kernel_rfl
@[go_sem] theorem ae_uint : allocEsz tt.get 121 = 0 := by kernel_rfl
@[go_sem] theorem k_uint : kindOf tt.get 121 = some (.int .u64) := by kernel_rfl
@[go_sem] theorem v_uint {op : BinOp} {xo yo : Operand} {x y : Value} : sbin2 tt.get op 121 xo yo x y = sbinI op .u64 x y := sbin2_int k_uint
@[go_sem] theorem t_sint : tt.get 122 = some ti122 := by kernel_rfl
@[go_sem] theorem ae_sint : allocEsz tt.get 122 = 0 := by kernel_rfl
@[go_sem] theorem k_sint : kindOf tt.get 122 = some (.slice 3) := by kernel_rfl
@[go_sem] theorem v_sint {op : BinOp} {xo yo : Operand} {x y : Value} : sbin2 tt.get op 122 xo yo x y = sbinX (binA tt.get op 122 xo yo x y) := sbin2_ref (by kernel_rfl)
@[go_sem] theorem n_sint_eql {xo yo : Operand} {a : Option Addr} {n c : Nat} : binA tt.get .eql 122 xo yo (.slice a n c) (.slice none 0 0) = some (.bool (a.isNone)) := by cases a <;> simp [binA, eqA, t_sint, ti122]
@[go_sem] theorem n_sint_neq {xo yo : Operand} {a : Option Addr} {n c : Nat} : binA tt.get .neq 122 xo yo (.slice a n c) (.slice none 0 0) = some (.bool (!a.isNone)) := by cases a <;> simp [binA, eqA, t_sint, ti122]
@[go_sem] theorem t_t129 : tt.get 129 = some ti129 := by kernel_rfl
@[go_sem] theorem ae_t129 : allocEsz tt.get 129 = 0 := by kernel_rfl
@[go_sem] theorem v_t129 {op : BinOp} {xo yo : Operand} {x y : Value} : sbin2 tt.get op 129 xo yo x y = sbinX (binA tt.get op 129 xo yo x y) := sbin2_ref (by kernel_rfl)
@[go_sem] theorem t_t132 : tt.get 132 = some ti132 := by kernel_rfl
@[go_sem] theorem ae_t132 : allocEsz tt.get 132 = 0 := by kernel_rfl
@[go_sem] theorem v_t132 {op : BinOp} {xo yo : Operand} {x y : Value} : sbin2 tt.get op 132 xo yo x y = sbinX (binA tt.get op 132 xo yo x y) := sbin2_ref (by kernel_rfl)
@[go_sem] theorem t_t134 : tt.get 134 = some ti134 := by kernel_rfl
@[go_sem] theorem ae_t134 : allocEsz tt.get 134 = 0 := by kernel_rfl
@[go_sem] theorem v_t134 {op : BinOp} {xo yo : Operand} {x y : Value} : sbin2 tt.get op 134 xo yo x y = sbinX (binA tt.get op 134 xo yo x y) := sbin2_ref (by kernel_rfl)
@[go_sem] theorem t_serror : tt.get 135 = some ti135 := by kernel_rfl
@[go_sem] theorem ae_serror : allocEsz tt.get 135 = 0 := by kernel_rfl
@[go_sem] theorem k_serror : kindOf tt.get 135 = some (.slice 35) := by kernel_rfl
@[go_sem] theorem v_serror {op : BinOp} {xo yo : Operand} {x y : Value} : sbin2 tt.get op 135 xo yo x y = sbinX (binA tt.get op 135 xo yo x y) := sbin2_ref (by kernel_rfl)
@[go_sem] theorem n_serror_eql {xo yo : Operand} {a : Option Addr} {n c : Nat} : binA tt.get .eql 135 xo yo (.slice a n c) (.slice none 0 0) = some (.bool (a.isNone)) := by cases a <;> simp [binA, eqA, t_serror, ti135]
@[go_sem] theorem n_serror_neq {xo yo : Operand} {a : Option Addr} {n c : Nat} : binA tt.get .neq 135 xo yo (.slice a n c) (.slice none 0 0) = some (.bool (!a.isNone)) := by cases a <;> simp [binA, eqA, t_serror, ti135]
@[go_sem] theorem t_a24uint8 : tt.get 139 = some ti139 := by kernel_rfl
@[go_sem] theorem ae_a24uint8 : allocEsz tt.get 139 = 0 := by kernel_rfl
@[go_sem] theorem k_a24uint8 : kindOf tt.get 139 = some (.array 24 5) := by kernel_rfl
@[go_sem] theorem t_t150 : tt.get 150 = some ti150 := by kernel_rfl
@[go_sem] theorem ae_t150 : allocEsz tt.get 150 = 0 := by kernel_rfl
@[go_sem] theorem v_t150 {op : BinOp} {xo yo : Operand} {x y : Value} : sbin2 tt.get op 150 xo yo x y = sbinX (binA tt.get op 150 xo yo x y) := sbin2_ref (by kernel_rfl)
@[go_sem] theorem t_Error : tt.get 153 = some ti153 := by kernel_rfl
@[go_sem] theorem ae_Error : allocEsz tt.get 153 = 0 := by kernel_rfl
@[go_sem] theorem k_Error : kindOf tt.get 153 = some (.int .i64) := by kernel_rfl
@[go_sem] theorem v_Error {op : BinOp} {xo yo : Operand} {x y : Value} : sbin2 tt.get op 153 xo yo x y = sbinI op .i64 x y := sbin2_int k_Error
@[go_sem] theorem t_pNumError : tt.get 155 = some ti155 := by kernel_rfl
@[go_sem] theorem ae_pNumError : allocEsz tt.get 155 = 0 := by kernel_rfl
@[go_sem] theorem k_pNumError : kindOf tt.get 155 = some (.pointer 183) := by kernel_rfl
@[go_sem] theorem v_pNumError {op : BinOp} {xo yo : Operand} {x y : Value} : sbin2 tt.get op 155 xo yo x y = sbinX (binA tt.get op 155 xo yo x y) := sbin2_ref (by kernel_rfl)
@[go_sem] theorem n_pNumError_eql {xo yo : Operand} {a : Option Addr} : binA tt.get .eql 155 xo yo (.pointer a) (.pointer none) = some (.bool (a.isNone)) := by cases a <;> simp [binA, eqA, t_pNumError, ti155]
@[go_sem] theorem n_pNumError_neq {xo yo : Operand} {a : Option Addr} : binA tt.get .neq 155 xo yo (.pointer a) (.pointer none) = some (.bool (!a.isNone)) := by cases a <;> simp [binA, eqA, t_pNumError, ti155]
@[go_sem] theorem t_a20uint64 : tt.get 173 = some ti173 := by kernel_rfl
@[go_sem] theorem ae_a20uint64 : allocEsz tt.get 173 = 0 := by kernel_rfl
@[go_sem] theorem k_a20uint64 : kindOf tt.get 173 = some (.array 20 28) := by kernel_rfl
@[go_sem] theorem t_a65uint8 : tt.get 174 = some ti174 := by kernel_rfl
@[go_sem] theorem ae_a65uint8 : allocEsz tt.get 174 = 0 := by kernel_rfl
@[go_sem] theorem k_a65uint8 : kindOf tt.get 174 = some (.array 65 5) := by kernel_rfl
@[go_sem] theorem t_a64uint8 : tt.get 175 = some ti175 := by kernel_rfl
@[go_sem] theorem ae_a64uint8 : allocEsz tt.get 175 = 0 := by kernel_rfl
@[go_sem] theorem k_a64uint8 : kindOf tt.get 175 = some (.array 64 5) := by kernel_rfl
@[go_sem] theorem t_NumError : tt.get 183 = some ti183 := by kernel_rfl
@[go_sem] theorem ae_NumError : allocEsz tt.get 183 = 0 := by kernel_rfl
@[go_sem] theorem fa_NumError_0 {b o : Nat} : sfieldAddr tt.get 183 (.pointer (some ⟨b, o, none⟩)) 0 = (.pointer (some ⟨b, o, none⟩), True) := by unfold sfieldAddr; rw [show fieldAddrA tt.get 183 (.pointer (some ⟨b, o, none⟩)) 0 = some (.pointer (some ⟨b, o, none⟩)) from by kernel_rfl]
@[go_sem] theorem fa_NumError_1 {b o : Nat} : sfieldAddr tt.get 183 (.pointer (some ⟨b, o, none⟩)) 1 = (.pointer (some ⟨b, o + 1, none⟩), True) := by unfold sfieldAddr; rw [show fieldAddrA tt.get 183 (.pointer (some ⟨b, o, none⟩)) 1 = some (.pointer (some ⟨b, o + 1, none⟩)) from by kernel_rfl]
@[go_sem] theorem fa_NumError_2 {b o : Nat} : sfieldAddr tt.get 183 (.pointer (some ⟨b, o, none⟩)) 2 = (.pointer (some ⟨b, o + 2, none⟩), True) := by unfold sfieldAddr; rw [show fieldAddrA tt.get 183 (.pointer (some ⟨b, o, none⟩)) 2 = some (.pointer (some ⟨b, o + 2, none⟩)) from by kernel_rfl]
@[go_sem] theorem t_perrors_errorString : tt.get 194 = some ti194 := by kernel_rfl
@[go_sem] theorem ae_perrors_errorString : allocEsz tt.get 194 = 0 := by kernel_rfl
@[go_sem] theorem k_perrors_errorString : kindOf tt.get 194 = some (.pointer 196) := by kernel_rfl
@[go_sem] theorem v_perrors_errorString {op : BinOp} {xo yo : Operand} {x y : Value} : sbin2 tt.get op 194 xo yo x y = sbinX (binA tt.get op 194 xo yo x y) := sbin2_ref (by kernel_rfl)
@[go_sem] theorem n_perrors_errorString_eql {xo yo : Operand} {a : Option Addr} : binA tt.get .eql 194 xo yo (.pointer a) (.pointer none) = some (.bool (a.isNone)) := by cases a <;> simp [binA, eqA, t_perrors_errorString, ti194]
@[go_sem] theorem n_perrors_errorString_neq {xo yo : Operand} {a : Option Addr} : binA tt.get .neq 194 xo yo (.pointer a) (.pointer none) = some (.bool (!a.isNone)) := by cases a <;> simp [binA, eqA, t_perrors_errorString, ti194]
@[go_sem] theorem t_errors_errorString : tt.get 196 = some ti196 := by kernel_rfl
@[go_sem] theorem ae_errors_errorString : allocEsz tt.get 196 = 0 := by kernel_rfl
@[go_sem] theorem fa_errors_errorString_0 {b o : Nat} : sfieldAddr tt.get 196 (.pointer (some ⟨b, o, none⟩)) 0 = (.pointer (some ⟨b, o, none⟩), True) := by unfold sfieldAddr; rw [show fieldAddrA tt.get 196 (.pointer (some ⟨b, o, none⟩)) 0 = some (.pointer (some ⟨b, o, none⟩)) from by kernel_rfl]
@[go_sem] theorem t_a32uint8 : tt.get 200 = some ti200 := by kernel_rfl
@[go_sem] theorem ae_a32uint8 : allocEsz tt.get 200 = 0 := by kernel_rfl
@[go_sem] theorem k_a32uint8 : kindOf tt.get 200 = some (.array 32 5) := by kernel_rfl
@[go_sem] theorem t_a256uint8 : tt.get 201 = some ti201 := by kernel_rfl
@[go_sem] theorem ae_a256uint8 : allocEsz tt.get 201 = 0 := by kernel_rfl
@[go_sem] theorem k_a256uint8 : kindOf tt.get 201 = some (.array 256 5) := by kernel_rfl
@[go_sem] theorem t_acceptRange : tt.get 203 = some ti203 := by kernel_rfl
@[go_sem] theorem ae_acceptRange : allocEsz tt.get 203 = 0 := by kernel_rfl
@[go_sem] theorem fa_acceptRange_0 {b o : Nat} : sfieldAddr tt.get 203 (.pointer (some ⟨b, o, none⟩)) 0 = (.pointer (some ⟨b, o, none⟩), True) := by unfold sfieldAddr; rw [show fieldAddrA tt.get 203 (.pointer (some ⟨b, o, none⟩)) 0 = some (.pointer (some ⟨b, o, none⟩)) from by kernel_rfl]
@[go_sem] theorem fa_acceptRange_1 {b o : Nat} : sfieldAddr tt.get 203 (.pointer (some ⟨b, o, none⟩)) 1 = (.pointer (some ⟨b, o + 1, none⟩), True) := by unfold sfieldAddr; rw [show fieldAddrA tt.get 203 (.pointer (some ⟨b, o, none⟩)) 1 = some (.pointer (some ⟨b, o + 1, none⟩)) from by kernel_rfl]
@[go_sem] theorem t_a16acceptRange : tt.get 204 = some ti204 := by kernel_rfl
@[go_sem] theorem ae_a16acceptRange : allocEsz tt.get 204 = 0 := by kernel_rfl
@[go_sem] theorem k_a16acceptRange : kindOf tt.get 204 = some (.array 16 203) := by kernel_rfl
def e_int64 : Enc (Int) := ⟨fun a => [.int .i64 (a)], fun l => intOf ((l[0]?).getD undef), 1, fun _ => rfl, fun _ => rfl, fun _ => rfl⟩
instance : e_int64.Plain := ⟨fun _ _ => rfl⟩
@[go_sem] theorem en_int64 (a : Int) : e_int64.enc a = [.int .i64 (a)] := rfl
@[go_sem] theorem de_int64 (l : List Value) : e_int64.dec l = intOf ((l[0]?).getD undef) := rfl
def e_int : Enc (Int) := ⟨fun a => [.int .i64 (a)], fun l => intOf ((l[0]?).getD undef), 1, fun _ => rfl, fun _ => rfl, fun _ => rfl⟩
instance : e_int.Plain := ⟨fun _ _ => rfl⟩
@[go_sem] theorem en_int (a : Int) : e_int.enc a = [.int .i64 (a)] := rfl
@[go_sem] theorem de_int (l : List Value) : e_int.dec l = intOf ((l[0]?).getD undef) := rfl
def e_bool : Enc (Bool) := ⟨fun a => [.bool (a)], fun l => boolOf ((l[0]?).getD undef), 1, fun _ => rfl, fun _ => rfl, fun _ => rfl⟩
instance : e_bool.Plain := ⟨fun _ _ => rfl⟩
@[go_sem] theorem en_bool (a : Bool) : e_bool.enc a = [.bool (a)] := rfl
@[go_sem] theorem de_bool (l : List Value) : e_bool.dec l = boolOf ((l[0]?).getD undef) := rfl
def e_uint8 : Enc (Int) := ⟨fun a => [.int .u8 (a)], fun l => intOf ((l[0]?).getD undef), 1, fun _ => rfl, fun _ => rfl, fun _ => rfl⟩
instance : e_uint8.Plain := ⟨fun _ _ => rfl⟩
@[go_sem] theorem en_uint8 (a : Int) : e_uint8.enc a = [.int .u8 (a)] := rfl
@[go_sem] theorem de_uint8 (l : List Value) : e_uint8.dec l = intOf ((l[0]?).getD undef) := rfl
def e_string : Enc (List UInt8) := ⟨fun a => [.string ⟨⟨a⟩⟩], fun l => strOf ((l[0]?).getD undef), 1, fun _ => rfl, fun _ => rfl, fun _ => rfl⟩
instance : e_string.Plain := ⟨fun _ _ => rfl⟩
@[go_sem] theorem en_string (a : List UInt8) : e_string.enc a = [.string ⟨⟨a⟩⟩] := rfl
@[go_sem] theorem de_string (l : List Value) : e_string.dec l = strOf ((l[0]?).getD undef) := rfl
def e_int32 : Enc (Int) := ⟨fun a => [.int .i32 (a)], fun l => intOf ((l[0]?).getD undef), 1, fun _ => rfl, fun _ => rfl, fun _ => rfl⟩
instance : e_int32.Plain := ⟨fun _ _ => rfl⟩
@[go_sem] theorem en_int32 (a : Int) : e_int32.enc a = [.int .i32 (a)] := rfl
@[go_sem] theorem de_int32 (l : List Value) : e_int32.dec l = intOf ((l[0]?).getD undef) := rfl
def e_Errno : Enc (Int) := ⟨fun a => [.int .i64 (a)], fun l => intOf ((l[0]?).getD undef), 1, fun _ => rfl, fun _ => rfl, fun _ => rfl⟩
instance : e_Errno.Plain := ⟨fun _ _ => rfl⟩
@[go_sem] theorem en_Errno (a : Int) : e_Errno.enc a = [.int .i64 (a)] := rfl
@[go_sem] theorem de_Errno (l : List Value) : e_Errno.dec l = intOf ((l[0]?).getD undef) := rfl
def e_uint64 : Enc (Int) := ⟨fun a => [.int .u64 (a)], fun l => intOf ((l[0]?).getD undef), 1, fun _ => rfl, fun _ => rfl, fun _ => rfl⟩
instance : e_uint64.Plain := ⟨fun _ _ => rfl⟩
@[go_sem] theorem en_uint64 (a : Int) : e_uint64.enc a = [.int .u64 (a)] := rfl
@[go_sem] theorem de_uint64 (l : List Value) : e_uint64.dec l = intOf ((l[0]?).getD undef) := rfl
def e_uint32 : Enc (Int) := ⟨fun a => [.int .u32 (a)], fun l => intOf ((l[0]?).getD undef), 1, fun _ => rfl, fun _ => rfl, fun _ => rfl⟩
instance : e_uint32.Plain := ⟨fun _ _ => rfl⟩
@[go_sem] theorem en_uint32 (a : Int) : e_uint32.enc a = [.int .u32 (a)] := rfl
@[go_sem] theorem de_uint32 (l : List Value) : e_uint32.dec l = intOf ((l[0]?).getD undef) := rfl
structure T_Bits where
  x0 : Int
  x1 : Int
  x2 : Int
  x3 : Int
instance : Inhabited T_Bits := ⟨⟨0, 0, 0, 0⟩⟩
instance : DecidableEq T_Bits := fun a b => decidable_of_iff (a.x0 = b.x0 ∧ a.x1 = b.x1 ∧ a.x2 = b.x2 ∧ a.x3 = b.x3) (by cases a; cases b; simp)
def e_Bits : Enc (T_Bits) := ⟨fun a => [.int .u64 (a.x0), .int .u64 (a.x1), .int .u64 (a.x2), .int .u64 (a.x3)], fun l => ⟨intOf ((l[0]?).getD undef), intOf ((l[1]?).getD undef), intOf ((l[2]?).getD undef), intOf ((l[3]?).getD undef)⟩, 4, fun _ => rfl, fun _ => rfl, fun _ => rfl⟩
instance : e_Bits.Plain := ⟨fun _ _ => rfl⟩
@[go_sem] theorem en_Bits (a : T_Bits) : e_Bits.enc a = [.int .u64 (a.x0), .int .u64 (a.x1), .int .u64 (a.x2), .int .u64 (a.x3)] := rfl
@[go_sem] theorem mk_Bits (a : T_Bits) : T_Bits.mk a.x0 a.x1 a.x2 a.x3 = a := rfl
@[go_sem] theorem de_Bits (l : List Value) : e_Bits.dec l = ⟨intOf ((l[0]?).getD undef), intOf ((l[1]?).getD undef), intOf ((l[2]?).getD undef), intOf ((l[3]?).getD undef)⟩ := rfl
structure T_Event where
  At : Int
  Kind : Int
  Router : Int
  Peer : Int
  Id : Int
  Set : Int
  Bits_x0 : Int
  Bits_x1 : Int
  Bits_x2 : Int
  Bits_x3 : Int
instance : Inhabited T_Event := ⟨⟨0, 0, 0, 0, 0, 0, 0, 0, 0, 0⟩⟩
instance : DecidableEq T_Event := fun a b => decidable_of_iff (a.At = b.At ∧ a.Kind = b.Kind ∧ a.Router = b.Router ∧ a.Peer = b.Peer ∧ a.Id = b.Id ∧ a.Set = b.Set ∧ a.Bits_x0 = b.Bits_x0 ∧ a.Bits_x1 = b.Bits_x1 ∧ a.Bits_x2 = b.Bits_x2 ∧ a.Bits_x3 = b.Bits_x3) (by cases a; cases b; simp)
def e_Event : Enc (T_Event) := ⟨fun a => [.int .u64 (a.At), .int .i64 (a.Kind), .int .i64 (a.Router), .int .i64 (a.Peer), .int .u32 (a.Id), .int .i64 (a.Set), .int .u64 (a.Bits_x0), .int .u64 (a.Bits_x1), .int .u64 (a.Bits_x2), .int .u64 (a.Bits_x3)], fun l => ⟨intOf ((l[0]?).getD undef), intOf ((l[1]?).getD undef), intOf ((l[2]?).getD undef), intOf ((l[3]?).getD undef), intOf ((l[4]?).getD undef), intOf ((l[5]?).getD undef), intOf ((l[6]?).getD undef), intOf ((l[7]?).getD undef), intOf ((l[8]?).getD undef), intOf ((l[9]?).getD undef)⟩, 10, fun _ => rfl, fun _ => rfl, fun _ => rfl⟩
instance : e_Event.Plain := ⟨fun _ _ => rfl⟩
@[go_sem] theorem en_Event (a : T_Event) : e_Event.enc a = [.int .u64 (a.At), .int .i64 (a.Kind), .int .i64 (a.Router), .int .i64 (a.Peer), .int .u32 (a.Id), .int .i64 (a.Set), .int .u64 (a.Bits_x0), .int .u64 (a.Bits_x1), .int .u64 (a.Bits_x2), .int .u64 (a.Bits_x3)] := rfl
@[go_sem] theorem mk_Event (a : T_Event) : T_Event.mk a.At a.Kind a.Router a.Peer a.Id a.Set a.Bits_x0 a.Bits_x1 a.Bits_x2 a.Bits_x3 = a := rfl
@[go_sem] theorem de_Event (l : List Value) : e_Event.dec l = ⟨intOf ((l[0]?).getD undef), intOf ((l[1]?).getD undef), intOf ((l[2]?).getD undef), intOf ((l[3]?).getD undef), intOf ((l[4]?).getD undef), intOf ((l[5]?).getD undef), intOf ((l[6]?).getD undef), intOf ((l[7]?).getD undef), intOf ((l[8]?).getD undef), intOf ((l[9]?).getD undef)⟩ := rfl
structure T_dandelionref26_Fault where
  Code : Int
  At : Int
instance : Inhabited T_dandelionref26_Fault := ⟨⟨0, 0⟩⟩
instance : DecidableEq T_dandelionref26_Fault := fun a b => decidable_of_iff (a.Code = b.Code ∧ a.At = b.At) (by cases a; cases b; simp)
def e_dandelionref26_Fault : Enc (T_dandelionref26_Fault) := ⟨fun a => [.int .i64 (a.Code), .int .i64 (a.At)], fun l => ⟨intOf ((l[0]?).getD undef), intOf ((l[1]?).getD undef)⟩, 2, fun _ => rfl, fun _ => rfl, fun _ => rfl⟩
instance : e_dandelionref26_Fault.Plain := ⟨fun _ _ => rfl⟩
@[go_sem] theorem en_dandelionref26_Fault (a : T_dandelionref26_Fault) : e_dandelionref26_Fault.enc a = [.int .i64 (a.Code), .int .i64 (a.At)] := rfl
@[go_sem] theorem mk_dandelionref26_Fault (a : T_dandelionref26_Fault) : T_dandelionref26_Fault.mk a.Code a.At = a := rfl
@[go_sem] theorem de_dandelionref26_Fault (l : List Value) : e_dandelionref26_Fault.dec l = ⟨intOf ((l[0]?).getD undef), intOf ((l[1]?).getD undef)⟩ := rfl
structure T_api_Fault where
  Code : Int
  At : Int
instance : Inhabited T_api_Fault := ⟨⟨0, 0⟩⟩
instance : DecidableEq T_api_Fault := fun a b => decidable_of_iff (a.Code = b.Code ∧ a.At = b.At) (by cases a; cases b; simp)
def e_api_Fault : Enc (T_api_Fault) := ⟨fun a => [.int .i64 (a.Code), .int .i64 (a.At)], fun l => ⟨intOf ((l[0]?).getD undef), intOf ((l[1]?).getD undef)⟩, 2, fun _ => rfl, fun _ => rfl, fun _ => rfl⟩
instance : e_api_Fault.Plain := ⟨fun _ _ => rfl⟩
@[go_sem] theorem en_api_Fault (a : T_api_Fault) : e_api_Fault.enc a = [.int .i64 (a.Code), .int .i64 (a.At)] := rfl
@[go_sem] theorem mk_api_Fault (a : T_api_Fault) : T_api_Fault.mk a.Code a.At = a := rfl
@[go_sem] theorem de_api_Fault (l : List Value) : e_api_Fault.dec l = ⟨intOf ((l[0]?).getD undef), intOf ((l[1]?).getD undef)⟩ := rfl
def e_flag : Enc (Int) := ⟨fun a => [.int .u64 (a)], fun l => intOf ((l[0]?).getD undef), 1, fun _ => rfl, fun _ => rfl, fun _ => rfl⟩
instance : e_flag.Plain := ⟨fun _ _ => rfl⟩
@[go_sem] theorem en_flag (a : Int) : e_flag.enc a = [.int .u64 (a)] := rfl
@[go_sem] theorem de_flag (l : List Value) : e_flag.dec l = intOf ((l[0]?).getD undef) := rfl
def e_Kind : Enc (Int) := ⟨fun a => [.int .u8 (a)], fun l => intOf ((l[0]?).getD undef), 1, fun _ => rfl, fun _ => rfl, fun _ => rfl⟩
instance : e_Kind.Plain := ⟨fun _ _ => rfl⟩
@[go_sem] theorem en_Kind (a : Int) : e_Kind.enc a = [.int .u8 (a)] := rfl
@[go_sem] theorem de_Kind (l : List Value) : e_Kind.dec l = intOf ((l[0]?).getD undef) := rfl
def e_uint : Enc (Int) := ⟨fun a => [.int .u64 (a)], fun l => intOf ((l[0]?).getD undef), 1, fun _ => rfl, fun _ => rfl, fun _ => rfl⟩
instance : e_uint.Plain := ⟨fun _ _ => rfl⟩
@[go_sem] theorem en_uint (a : Int) : e_uint.enc a = [.int .u64 (a)] := rfl
@[go_sem] theorem de_uint (l : List Value) : e_uint.dec l = intOf ((l[0]?).getD undef) := rfl
def e_Error : Enc (Int) := ⟨fun a => [.int .i64 (a)], fun l => intOf ((l[0]?).getD undef), 1, fun _ => rfl, fun _ => rfl, fun _ => rfl⟩
instance : e_Error.Plain := ⟨fun _ _ => rfl⟩
@[go_sem] theorem en_Error (a : Int) : e_Error.enc a = [.int .i64 (a)] := rfl
@[go_sem] theorem de_Error (l : List Value) : e_Error.dec l = intOf ((l[0]?).getD undef) := rfl
structure T_errors_errorString where
  s : List UInt8
instance : Inhabited T_errors_errorString := ⟨⟨[]⟩⟩
instance : DecidableEq T_errors_errorString := fun a b => decidable_of_iff (a.s = b.s) (by cases a; cases b; simp)
def e_errors_errorString : Enc (T_errors_errorString) := ⟨fun a => [.string ⟨⟨a.s⟩⟩], fun l => ⟨strOf ((l[0]?).getD undef)⟩, 1, fun _ => rfl, fun _ => rfl, fun _ => rfl⟩
instance : e_errors_errorString.Plain := ⟨fun _ _ => rfl⟩
@[go_sem] theorem en_errors_errorString (a : T_errors_errorString) : e_errors_errorString.enc a = [.string ⟨⟨a.s⟩⟩] := rfl
@[go_sem] theorem mk_errors_errorString (a : T_errors_errorString) : T_errors_errorString.mk a.s = a := rfl
@[go_sem] theorem de_errors_errorString (l : List Value) : e_errors_errorString.dec l = ⟨strOf ((l[0]?).getD undef)⟩ := rfl
structure T_acceptRange where
  lo : Int
  hi : Int
instance : Inhabited T_acceptRange := ⟨⟨0, 0⟩⟩
instance : DecidableEq T_acceptRange := fun a b => decidable_of_iff (a.lo = b.lo ∧ a.hi = b.hi) (by cases a; cases b; simp)
def e_acceptRange : Enc (T_acceptRange) := ⟨fun a => [.int .u8 (a.lo), .int .u8 (a.hi)], fun l => ⟨intOf ((l[0]?).getD undef), intOf ((l[1]?).getD undef)⟩, 2, fun _ => rfl, fun _ => rfl, fun _ => rfl⟩
instance : e_acceptRange.Plain := ⟨fun _ _ => rfl⟩
@[go_sem] theorem en_acceptRange (a : T_acceptRange) : e_acceptRange.enc a = [.int .u8 (a.lo), .int .u8 (a.hi)] := rfl
@[go_sem] theorem mk_acceptRange (a : T_acceptRange) : T_acceptRange.mk a.lo a.hi = a := rfl
@[go_sem] theorem de_acceptRange (l : List Value) : e_acceptRange.dec l = ⟨intOf ((l[0]?).getD undef), intOf ((l[1]?).getD undef)⟩ := rfl
section
theorem len_sEvent {hp : Hp} {v : Value} {l : List (T_Event)} (h : SlT e_Event hp v l) {hp' : Hp} : slen tt.get hp' 22 v = (.int .i64 (l.length : Int), True) := h.len_any k_sEvent
theorem idx_sEvent {hp : Hp} {v : Value} {l : List (T_Event)} (h : SlT e_Event hp v l) {k : IntKind} {n : Int} (h0 : 0 ≤ n) (h1 : n < l.length) : sindexAddr tt.get 22 v (.int k n) = (ptrS v (n.toNat * 10), True) := h.idx k_sEvent t_Event rfl h0 h1
theorem ld_sEvent {hp : Hp} {v : Value} {l : List (T_Event)} (h : SlT e_Event hp v l) {i : Nat} (hi : i < l.length) : sload tt.get hp 33 (ptrS v (i * 10)) = (.agg ⟨e_Event.enc (at' l i)⟩, True) := h.load t_Event rfl rfl hi
theorem sf_sEvent_0 {hp : Hp} {v : Value} {l : List (T_Event)} (h : SlT e_Event hp v l) {i : Nat} (hi : i < l.length) : sfieldAddr tt.get 33 (ptrS v (i * 10)) 0 = (ptrS v (i * 10), True) := h.field hi (d := 0) (fun b o => (by kernel_rfl : fieldAddrA tt.get 33 (.pointer (some ⟨b, o, none⟩)) 0 = some (.pointer (some ⟨b, o + 0, none⟩))))
theorem sc_sEvent_0 {hp : Hp} {v : Value} {l : List (T_Event)} (h : SlT e_Event hp v l) {i : Nat} (hi : i < l.length) : sload tt.get hp 28 (ptrS v (i * 10)) = (.int .u64 ((at' l i).At), True) := h.cell (f := 0) t_uint64 rfl hi (by decide)
theorem sf_sEvent_1 {hp : Hp} {v : Value} {l : List (T_Event)} (h : SlT e_Event hp v l) {i : Nat} (hi : i < l.length) : sfieldAddr tt.get 33 (ptrS v (i * 10)) 1 = (ptrS v (i * 10 + 1), True) := h.field hi (d := 1) (fun b o => (by kernel_rfl : fieldAddrA tt.get 33 (.pointer (some ⟨b, o, none⟩)) 1 = some (.pointer (some ⟨b, o + 1, none⟩))))
theorem sc_sEvent_1 {hp : Hp} {v : Value} {l : List (T_Event)} (h : SlT e_Event hp v l) {i : Nat} (hi : i < l.length) : sload tt.get hp 3 (ptrS v (i * 10 + 1)) = (.int .i64 ((at' l i).Kind), True) := h.cell (f := 1) t_int rfl hi (by decide)
theorem sf_sEvent_2 {hp : Hp} {v : Value} {l : List (T_Event)} (h : SlT e_Event hp v l) {i : Nat} (hi : i < l.length) : sfieldAddr tt.get 33 (ptrS v (i * 10)) 2 = (ptrS v (i * 10 + 2), True) := h.field hi (d := 2) (fun b o => (by kernel_rfl : fieldAddrA tt.get 33 (.pointer (some ⟨b, o, none⟩)) 2 = some (.pointer (some ⟨b, o + 2, none⟩))))
theorem sc_sEvent_2 {hp : Hp} {v : Value} {l : List (T_Event)} (h : SlT e_Event hp v l) {i : Nat} (hi : i < l.length) : sload tt.get hp 3 (ptrS v (i * 10 + 2)) = (.int .i64 ((at' l i).Router), True) := h.cell (f := 2) t_int rfl hi (by decide)
theorem sf_sEvent_3 {hp : Hp} {v : Value} {l : List (T_Event)} (h : SlT e_Event hp v l) {i : Nat} (hi : i < l.length) : sfieldAddr tt.get 33 (ptrS v (i * 10)) 3 = (ptrS v (i * 10 + 3), True) := h.field hi (d := 3) (fun b o => (by kernel_rfl : fieldAddrA tt.get 33 (.pointer (some ⟨b, o, none⟩)) 3 = some (.pointer (some ⟨b, o + 3, none⟩))))
theorem sc_sEvent_3 {hp : Hp} {v : Value} {l : List (T_Event)} (h : SlT e_Event hp v l) {i : Nat} (hi : i < l.length) : sload tt.get hp 3 (ptrS v (i * 10 + 3)) = (.int .i64 ((at' l i).Peer), True) := h.cell (f := 3) t_int rfl hi (by decide)
theorem sf_sEvent_4 {hp : Hp} {v : Value} {l : List (T_Event)} (h : SlT e_Event hp v l) {i : Nat} (hi : i < l.length) : sfieldAddr tt.get 33 (ptrS v (i * 10)) 4 = (ptrS v (i * 10 + 4), True) := h.field hi (d := 4) (fun b o => (by kernel_rfl : fieldAddrA tt.get 33 (.pointer (some ⟨b, o, none⟩)) 4 = some (.pointer (some ⟨b, o + 4, none⟩))))
theorem sc_sEvent_4 {hp : Hp} {v : Value} {l : List (T_Event)} (h : SlT e_Event hp v l) {i : Nat} (hi : i < l.length) : sload tt.get hp 29 (ptrS v (i * 10 + 4)) = (.int .u32 ((at' l i).Id), True) := h.cell (f := 4) t_uint32 rfl hi (by decide)
theorem sf_sEvent_5 {hp : Hp} {v : Value} {l : List (T_Event)} (h : SlT e_Event hp v l) {i : Nat} (hi : i < l.length) : sfieldAddr tt.get 33 (ptrS v (i * 10)) 5 = (ptrS v (i * 10 + 5), True) := h.field hi (d := 5) (fun b o => (by kernel_rfl : fieldAddrA tt.get 33 (.pointer (some ⟨b, o, none⟩)) 5 = some (.pointer (some ⟨b, o + 5, none⟩))))
theorem sc_sEvent_5 {hp : Hp} {v : Value} {l : List (T_Event)} (h : SlT e_Event hp v l) {i : Nat} (hi : i < l.length) : sload tt.get hp 3 (ptrS v (i * 10 + 5)) = (.int .i64 ((at' l i).Set), True) := h.cell (f := 5) t_int rfl hi (by decide)
theorem sf_sEvent_6 {hp : Hp} {v : Value} {l : List (T_Event)} (h : SlT e_Event hp v l) {i : Nat} (hi : i < l.length) : sfieldAddr tt.get 33 (ptrS v (i * 10)) 6 = (ptrS v (i * 10 + 6), True) := h.field hi (d := 6) (fun b o => (by kernel_rfl : fieldAddrA tt.get 33 (.pointer (some ⟨b, o, none⟩)) 6 = some (.pointer (some ⟨b, o + 6, none⟩))))
theorem sh_sEvent {hp : Hp} {v : Value} {l : List (T_Event)} (h : SlT e_Event hp v l) {k : IntKind} {n : Int} (h0 : 0 ≤ n) (h1 : n ≤ l.length) : sslice tt.get hp 22 v none (some (.int k n)) = (subS 10 v 0 n.toNat, True) := h.slHi k_sEvent t_Event h0 h1
theorem sw_sEvent {hp : Hp} {v : Value} {l : List (T_Event)} (h : SlT e_Event hp v l) {k : IntKind} {n : Int} (h0 : 0 ≤ n) (h1 : n ≤ l.length) : sslice tt.get hp 22 v (some (.int k n)) none = (subL 10 v n.toNat, True) := h.slLo k_sEvent t_Event rfl h0 h1
@[go_sem] theorem ap_sEvent {hp : Hp} {x : Value} {b top : Nat} {l : List (T_Event)} (h : hp b = mkOb e_Event l) (hx : SlP e_Event hp x) (hn : l.length + (e_Event.rd hp x).length ≤ 16777216) : appendA tt.get hp top [22, 22] (mkSl b l) x = some (mkSl top (l ++ e_Event.rd hp x), appU b l top (mkOb e_Event (l ++ e_Event.rd hp x)), top + 1) := appendA_ownP k_sEvent t_sEvent rfl t_Event rfl rfl h hx hn
@[go_sem] theorem apn_sEvent {hp : Hp} {x : Value} {top : Nat} (hx : SlP e_Event hp x) (hn : (e_Event.rd hp x).length ≤ 16777216) : appendA tt.get hp top [22, 22] (.slice none 0 0) x = some (mkSl top (e_Event.rd hp x), [(top, mkOb e_Event (e_Event.rd hp x))], top + 1) := appendA_nilP k_sEvent t_sEvent rfl t_Event rfl rfl hx hn
@[go_sem] theorem ap1r_sEvent {hp : Hp} {b top k : Nat} {l : List (T_Event)} (h : hp b = mkOb e_Event l) (hk : hp k = some (.cells true 10 (cellsOf (hp k)))) (hc : e_Event.enc (e_Event.dec (cellsOf (hp k))) = cellsOf (hp k)) (hn : roomB (l.length + 1) ti33.bytes = true) : appendA tt.get hp top [22, 22] (mkSl b l) (.slice (some ⟨k, 0, none⟩) 1 1) = some (mkSl top (l ++ [e_Event.dec (cellsOf (hp k))]), appU b l top (mkOb e_Event (l ++ [e_Event.dec (cellsOf (hp k))])), top + 1) := appendA_oneCR k_sEvent t_sEvent rfl t_Event rfl rfl h hk hc hn
@[go_sem] theorem apr_sEvent {hp : Hp} {x : Value} {top : Nat} (hx : SlP e_Event hp x) (hn : roomB (e_Event.rd hp x).length ti33.bytes = true) : appendA tt.get hp top [22, 22] (.slice none 0 0) x = some (mkSl top (e_Event.rd hp x), [(top, mkOb e_Event (e_Event.rd hp x))], top + 1) := appendA_nilPb k_sEvent t_sEvent rfl t_Event rfl rfl hx hn
@[go_sem] theorem ap0_sEvent {hp : Hp} {top k : Nat} (hk : hp k = some (.cells true 10 (cellsOf (hp k)))) (hc : e_Event.enc (e_Event.dec (cellsOf (hp k))) = cellsOf (hp k)) : appendA tt.get hp top [22, 22] (.slice none 0 0) (.slice (some ⟨k, 0, none⟩) 1 1) = some (mkSl top [e_Event.dec (cellsOf (hp k))], [(top, mkOb e_Event [e_Event.dec (cellsOf (hp k))])], top + 1) := appendA_zeroC k_sEvent t_sEvent rfl t_Event rfl rfl hk hc
@[go_sem] theorem sa_sEvent {hp : Hp} {b top : Nat} {l l2 : List (T_Event)} (h : hp b = mkOb e_Event l) : hp.sets (appU b l top (mkOb e_Event l2)) = (hp.set b none).set top (mkOb e_Event l2) := sets_appU h
@[go_sem] theorem os_sEvent {hp : Hp} {b : Nat} {l : List (T_Event)} {i : Nat} (h : hp b = mkOb e_Event l) (hi : i < l.length) {a0 : Int} {a1 : Int} {a2 : Int} {a3 : Int} {a4 : Int} {a5 : Int} {a6 : Int} {a7 : Int} {a8 : Int} {a9 : Int} : sstore tt.get hp 33 (ptrS (mkSl b l) (i * 10)) (.agg ⟨[.int .u64 (a0), .int .i64 (a1), .int .i64 (a2), .int .i64 (a3), .int .u32 (a4), .int .i64 (a5), .int .u64 (a6), .int .u64 (a7), .int .u64 (a8), .int .u64 (a9)]⟩) = ([(b, mkOb e_Event (l.set i ⟨a0, a1, a2, a3, a4, a5, a6, a7, a8, a9⟩))], True) := own_storeA (E := e_Event) (cs := e_Event.enc ⟨a0, a1, a2, a3, a4, a5, a6, a7, a8, a9⟩) t_Event rfl h hi rfl rfl
@[go_sem] theorem of_sEvent_0 {hp : Hp} {b : Nat} {l : List (T_Event)} {i : Nat} (h : hp b = mkOb e_Event l) (hi : i < l.length) {x : Int} : sstore tt.get hp 28 (ptrS (mkSl b l) (i * 10)) (.int .u64 (x)) = ([(b, mkOb e_Event (l.set i { at' l i with At := x }))], True) := own_storeF (f := 0) t_uint64 h hi rfl (by decide) rfl rfl
@[go_sem] theorem of_sEvent_1 {hp : Hp} {b : Nat} {l : List (T_Event)} {i : Nat} (h : hp b = mkOb e_Event l) (hi : i < l.length) {x : Int} : sstore tt.get hp 3 (ptrS (mkSl b l) (i * 10 + 1)) (.int .i64 (x)) = ([(b, mkOb e_Event (l.set i { at' l i with Kind := x }))], True) := own_storeF (f := 1) t_int h hi rfl (by decide) rfl rfl
@[go_sem] theorem of_sEvent_2 {hp : Hp} {b : Nat} {l : List (T_Event)} {i : Nat} (h : hp b = mkOb e_Event l) (hi : i < l.length) {x : Int} : sstore tt.get hp 3 (ptrS (mkSl b l) (i * 10 + 2)) (.int .i64 (x)) = ([(b, mkOb e_Event (l.set i { at' l i with Router := x }))], True) := own_storeF (f := 2) t_int h hi rfl (by decide) rfl rfl
@[go_sem] theorem of_sEvent_3 {hp : Hp} {b : Nat} {l : List (T_Event)} {i : Nat} (h : hp b = mkOb e_Event l) (hi : i < l.length) {x : Int} : sstore tt.get hp 3 (ptrS (mkSl b l) (i * 10 + 3)) (.int .i64 (x)) = ([(b, mkOb e_Event (l.set i { at' l i with Peer := x }))], True) := own_storeF (f := 3) t_int h hi rfl (by decide) rfl rfl
@[go_sem] theorem of_sEvent_4 {hp : Hp} {b : Nat} {l : List (T_Event)} {i : Nat} (h : hp b = mkOb e_Event l) (hi : i < l.length) {x : Int} : sstore tt.get hp 29 (ptrS (mkSl b l) (i * 10 + 4)) (.int .u32 (x)) = ([(b, mkOb e_Event (l.set i { at' l i with Id := x }))], True) := own_storeF (f := 4) t_uint32 h hi rfl (by decide) rfl rfl
@[go_sem] theorem of_sEvent_5 {hp : Hp} {b : Nat} {l : List (T_Event)} {i : Nat} (h : hp b = mkOb e_Event l) (hi : i < l.length) {x : Int} : sstore tt.get hp 3 (ptrS (mkSl b l) (i * 10 + 5)) (.int .i64 (x)) = ([(b, mkOb e_Event (l.set i { at' l i with Set := x }))], True) := own_storeF (f := 5) t_int h hi rfl (by decide) rfl rfl
@[go_sem] theorem ow_sEvent {b : Nat} {l : List (T_Event)} {hp2 : Hp} : slen tt.get hp2 22 (mkSl b l) = (.int .i64 (l.length : Int), True) := by cases l with | nil => unfold slen mkSl; simp only [k_sEvent, lenA, t_sEvent, ti22]; rfl | cons a l => unfold slen mkSl; simp only [k_sEvent, lenA, t_sEvent, ti22]; rfl
@[go_sem] theorem ap1_sEvent {hp : Hp} {b top k : Nat} {l : List (T_Event)} (h : hp b = mkOb e_Event l) (hk : hp k = some (.cells true 10 (cellsOf (hp k)))) (hc : e_Event.enc (e_Event.dec (cellsOf (hp k))) = cellsOf (hp k)) (hn : l.length < 16777216) : appendA tt.get hp top [22, 22] (mkSl b l) (.slice (some ⟨k, 0, none⟩) 1 1) = some (mkSl top (l ++ [e_Event.dec (cellsOf (hp k))]), appU b l top (mkOb e_Event (l ++ [e_Event.dec (cellsOf (hp k))])), top + 1) := appendA_oneC k_sEvent t_sEvent rfl t_Event rfl rfl h hk hc hn
end
section
theorem len_sstring {hp : Hp} {v : Value} {l : List (List UInt8)} (h : SlT e_string hp v l) {hp' : Hp} : slen tt.get hp' 58 v = (.int .i64 (l.length : Int), True) := h.len_any k_sstring
theorem idx_sstring {hp : Hp} {v : Value} {l : List (List UInt8)} (h : SlT e_string hp v l) {k : IntKind} {n : Int} (h0 : 0 ≤ n) (h1 : n < l.length) : sindexAddr tt.get 58 v (.int k n) = (ptrS v (n.toNat * 1), True) := h.idx k_sstring t_string rfl h0 h1
theorem ld_sstring {hp : Hp} {v : Value} {l : List (List UInt8)} (h : SlT e_string hp v l) {i : Nat} (hi : i < l.length) : sload tt.get hp 9 (ptrS v (i * 1)) = (.string ⟨⟨at' l i⟩⟩, True) := h.cell (f := 0) t_string rfl hi (by decide)
theorem sh_sstring {hp : Hp} {v : Value} {l : List (List UInt8)} (h : SlT e_string hp v l) {k : IntKind} {n : Int} (h0 : 0 ≤ n) (h1 : n ≤ l.length) : sslice tt.get hp 58 v none (some (.int k n)) = (subS 1 v 0 n.toNat, True) := h.slHi k_sstring t_string h0 h1
theorem sw_sstring {hp : Hp} {v : Value} {l : List (List UInt8)} (h : SlT e_string hp v l) {k : IntKind} {n : Int} (h0 : 0 ≤ n) (h1 : n ≤ l.length) : sslice tt.get hp 58 v (some (.int k n)) none = (subL 1 v n.toNat, True) := h.slLo k_sstring t_string rfl h0 h1
@[go_sem] theorem ap_sstring {hp : Hp} {x : Value} {b top : Nat} {l : List (List UInt8)} (h : hp b = mkOb e_string l) (hx : SlP e_string hp x) (hn : l.length + (e_string.rd hp x).length ≤ 16777216) : appendA tt.get hp top [58, 58] (mkSl b l) x = some (mkSl top (l ++ e_string.rd hp x), appU b l top (mkOb e_string (l ++ e_string.rd hp x)), top + 1) := appendA_ownP k_sstring t_sstring rfl t_string rfl rfl h hx hn
@[go_sem] theorem apn_sstring {hp : Hp} {x : Value} {top : Nat} (hx : SlP e_string hp x) (hn : (e_string.rd hp x).length ≤ 16777216) : appendA tt.get hp top [58, 58] (.slice none 0 0) x = some (mkSl top (e_string.rd hp x), [(top, mkOb e_string (e_string.rd hp x))], top + 1) := appendA_nilP k_sstring t_sstring rfl t_string rfl rfl hx hn
@[go_sem] theorem ap1r_sstring {hp : Hp} {b top k : Nat} {l : List (List UInt8)} (h : hp b = mkOb e_string l) (hk : hp k = some (.cells true 1 (cellsOf (hp k)))) (hc : e_string.enc (e_string.dec (cellsOf (hp k))) = cellsOf (hp k)) (hn : roomB (l.length + 1) ti9.bytes = true) : appendA tt.get hp top [58, 58] (mkSl b l) (.slice (some ⟨k, 0, none⟩) 1 1) = some (mkSl top (l ++ [e_string.dec (cellsOf (hp k))]), appU b l top (mkOb e_string (l ++ [e_string.dec (cellsOf (hp k))])), top + 1) := appendA_oneCR k_sstring t_sstring rfl t_string rfl rfl h hk hc hn
@[go_sem] theorem apr_sstring {hp : Hp} {x : Value} {top : Nat} (hx : SlP e_string hp x) (hn : roomB (e_string.rd hp x).length ti9.bytes = true) : appendA tt.get hp top [58, 58] (.slice none 0 0) x = some (mkSl top (e_string.rd hp x), [(top, mkOb e_string (e_string.rd hp x))], top + 1) := appendA_nilPb k_sstring t_sstring rfl t_string rfl rfl hx hn
@[go_sem] theorem ap0_sstring {hp : Hp} {top k : Nat} (hk : hp k = some (.cells true 1 (cellsOf (hp k)))) (hc : e_string.enc (e_string.dec (cellsOf (hp k))) = cellsOf (hp k)) : appendA tt.get hp top [58, 58] (.slice none 0 0) (.slice (some ⟨k, 0, none⟩) 1 1) = some (mkSl top [e_string.dec (cellsOf (hp k))], [(top, mkOb e_string [e_string.dec (cellsOf (hp k))])], top + 1) := appendA_zeroC k_sstring t_sstring rfl t_string rfl rfl hk hc
@[go_sem] theorem sa_sstring {hp : Hp} {b top : Nat} {l l2 : List (List UInt8)} (h : hp b = mkOb e_string l) : hp.sets (appU b l top (mkOb e_string l2)) = (hp.set b none).set top (mkOb e_string l2) := sets_appU h
@[go_sem] theorem os_sstring {hp : Hp} {b : Nat} {l : List (List UInt8)} {i : Nat} (h : hp b = mkOb e_string l) (hi : i < l.length) {x : List UInt8} : sstore tt.get hp 9 (ptrS (mkSl b l) (i * 1)) (.string ⟨⟨x⟩⟩) = ([(b, mkOb e_string (l.set i x))], True) := own_storeF (f := 0) t_string h hi rfl (by decide) rfl rfl
@[go_sem] theorem ow_sstring {b : Nat} {l : List (List UInt8)} {hp2 : Hp} : slen tt.get hp2 58 (mkSl b l) = (.int .i64 (l.length : Int), True) := by cases l with | nil => unfold slen mkSl; simp only [k_sstring, lenA, t_sstring, ti58]; rfl | cons a l => unfold slen mkSl; simp only [k_sstring, lenA, t_sstring, ti58]; rfl
@[go_sem] theorem ap1_sstring {hp : Hp} {b top k : Nat} {l : List (List UInt8)} (h : hp b = mkOb e_string l) (hk : hp k = some (.cells true 1 (cellsOf (hp k)))) (hc : e_string.enc (e_string.dec (cellsOf (hp k))) = cellsOf (hp k)) (hn : l.length < 16777216) : appendA tt.get hp top [58, 58] (mkSl b l) (.slice (some ⟨k, 0, none⟩) 1 1) = some (mkSl top (l ++ [e_string.dec (cellsOf (hp k))]), appU b l top (mkOb e_string (l ++ [e_string.dec (cellsOf (hp k))])), top + 1) := appendA_oneC k_sstring t_sstring rfl t_string rfl rfl h hk hc hn
end
section
@[go_sem] theorem ap_suint8 {hp : Hp} {x : Value} {b top : Nat} {l : List (Int)} (h : hp b = mkOb e_uint8 l) (hx : SlP e_uint8 hp x) (hn : l.length + (e_uint8.rd hp x).length ≤ 16777216) : appendA tt.get hp top [60, 60] (mkSl b l) x = some (mkSl top (l ++ e_uint8.rd hp x), appU b l top (mkOb e_uint8 (l ++ e_uint8.rd hp x)), top + 1) := appendA_ownP k_suint8 t_suint8 rfl t_uint8 rfl rfl h hx hn
@[go_sem] theorem apn_suint8 {hp : Hp} {x : Value} {top : Nat} (hx : SlP e_uint8 hp x) (hn : (e_uint8.rd hp x).length ≤ 16777216) : appendA tt.get hp top [60, 60] (.slice none 0 0) x = some (mkSl top (e_uint8.rd hp x), [(top, mkOb e_uint8 (e_uint8.rd hp x))], top + 1) := appendA_nilP k_suint8 t_suint8 rfl t_uint8 rfl rfl hx hn
@[go_sem] theorem ap1r_suint8 {hp : Hp} {b top k : Nat} {l : List (Int)} (h : hp b = mkOb e_uint8 l) (hk : hp k = some (.cells true 1 (cellsOf (hp k)))) (hc : e_uint8.enc (e_uint8.dec (cellsOf (hp k))) = cellsOf (hp k)) (hn : roomB (l.length + 1) ti5.bytes = true) : appendA tt.get hp top [60, 60] (mkSl b l) (.slice (some ⟨k, 0, none⟩) 1 1) = some (mkSl top (l ++ [e_uint8.dec (cellsOf (hp k))]), appU b l top (mkOb e_uint8 (l ++ [e_uint8.dec (cellsOf (hp k))])), top + 1) := appendA_oneCR k_suint8 t_suint8 rfl t_uint8 rfl rfl h hk hc hn
@[go_sem] theorem apr_suint8 {hp : Hp} {x : Value} {top : Nat} (hx : SlP e_uint8 hp x) (hn : roomB (e_uint8.rd hp x).length ti5.bytes = true) : appendA tt.get hp top [60, 60] (.slice none 0 0) x = some (mkSl top (e_uint8.rd hp x), [(top, mkOb e_uint8 (e_uint8.rd hp x))], top + 1) := appendA_nilPb k_suint8 t_suint8 rfl t_uint8 rfl rfl hx hn
@[go_sem] theorem ap0_suint8 {hp : Hp} {top k : Nat} (hk : hp k = some (.cells true 1 (cellsOf (hp k)))) (hc : e_uint8.enc (e_uint8.dec (cellsOf (hp k))) = cellsOf (hp k)) : appendA tt.get hp top [60, 60] (.slice none 0 0) (.slice (some ⟨k, 0, none⟩) 1 1) = some (mkSl top [e_uint8.dec (cellsOf (hp k))], [(top, mkOb e_uint8 [e_uint8.dec (cellsOf (hp k))])], top + 1) := appendA_zeroC k_suint8 t_suint8 rfl t_uint8 rfl rfl hk hc
@[go_sem] theorem sa_suint8 {hp : Hp} {b top : Nat} {l l2 : List (Int)} (h : hp b = mkOb e_uint8 l) : hp.sets (appU b l top (mkOb e_uint8 l2)) = (hp.set b none).set top (mkOb e_uint8 l2) := sets_appU h
@[go_sem] theorem os_suint8 {hp : Hp} {b : Nat} {l : List (Int)} {i : Nat} (h : hp b = mkOb e_uint8 l) (hi : i < l.length) {x : Int} : sstore tt.get hp 5 (ptrS (mkSl b l) (i * 1)) (.int .u8 (x)) = ([(b, mkOb e_uint8 (l.set i x))], True) := own_storeF (f := 0) t_uint8 h hi rfl (by decide) rfl rfl
@[go_sem] theorem ow_suint8 {b : Nat} {l : List (Int)} {hp2 : Hp} : slen tt.get hp2 60 (mkSl b l) = (.int .i64 (l.length : Int), True) := by cases l with | nil => unfold slen mkSl; simp only [k_suint8, lenA, t_suint8, ti60]; rfl | cons a l => unfold slen mkSl; simp only [k_suint8, lenA, t_suint8, ti60]; rfl
@[go_sem] theorem ap1_suint8 {hp : Hp} {b top k : Nat} {l : List (Int)} (h : hp b = mkOb e_uint8 l) (hk : hp k = some (.cells true 1 (cellsOf (hp k)))) (hc : e_uint8.enc (e_uint8.dec (cellsOf (hp k))) = cellsOf (hp k)) (hn : l.length < 16777216) : appendA tt.get hp top [60, 60] (mkSl b l) (.slice (some ⟨k, 0, none⟩) 1 1) = some (mkSl top (l ++ [e_uint8.dec (cellsOf (hp k))]), appU b l top (mkOb e_uint8 (l ++ [e_uint8.dec (cellsOf (hp k))])), top + 1) := appendA_oneC k_suint8 t_suint8 rfl t_uint8 rfl rfl h hk hc hn
end
section
theorem idx_sint {hp : Hp} {v : Value} {l : List (Int)} (h : SlT e_int hp v l) {k : IntKind} {n : Int} (h0 : 0 ≤ n) (h1 : n < l.length) : sindexAddr tt.get 122 v (.int k n) = (ptrS v (n.toNat * 1), True) := h.idx k_sint t_int rfl h0 h1
theorem ld_sint {hp : Hp} {v : Value} {l : List (Int)} (h : SlT e_int hp v l) {i : Nat} (hi : i < l.length) : sload tt.get hp 3 (ptrS v (i * 1)) = (.int .i64 (at' l i), True) := h.cell (f := 0) t_int rfl hi (by decide)
@[go_sem] theorem ap_sint {hp : Hp} {x : Value} {b top : Nat} {l : List (Int)} (h : hp b = mkOb e_int l) (hx : SlP e_int hp x) (hn : l.length + (e_int.rd hp x).length ≤ 16777216) : appendA tt.get hp top [122, 122] (mkSl b l) x = some (mkSl top (l ++ e_int.rd hp x), appU b l top (mkOb e_int (l ++ e_int.rd hp x)), top + 1) := appendA_ownP k_sint t_sint rfl t_int rfl rfl h hx hn
@[go_sem] theorem apn_sint {hp : Hp} {x : Value} {top : Nat} (hx : SlP e_int hp x) (hn : (e_int.rd hp x).length ≤ 16777216) : appendA tt.get hp top [122, 122] (.slice none 0 0) x = some (mkSl top (e_int.rd hp x), [(top, mkOb e_int (e_int.rd hp x))], top + 1) := appendA_nilP k_sint t_sint rfl t_int rfl rfl hx hn
@[go_sem] theorem ap1r_sint {hp : Hp} {b top k : Nat} {l : List (Int)} (h : hp b = mkOb e_int l) (hk : hp k = some (.cells true 1 (cellsOf (hp k)))) (hc : e_int.enc (e_int.dec (cellsOf (hp k))) = cellsOf (hp k)) (hn : roomB (l.length + 1) ti3.bytes = true) : appendA tt.get hp top [122, 122] (mkSl b l) (.slice (some ⟨k, 0, none⟩) 1 1) = some (mkSl top (l ++ [e_int.dec (cellsOf (hp k))]), appU b l top (mkOb e_int (l ++ [e_int.dec (cellsOf (hp k))])), top + 1) := appendA_oneCR k_sint t_sint rfl t_int rfl rfl h hk hc hn
@[go_sem] theorem apr_sint {hp : Hp} {x : Value} {top : Nat} (hx : SlP e_int hp x) (hn : roomB (e_int.rd hp x).length ti3.bytes = true) : appendA tt.get hp top [122, 122] (.slice none 0 0) x = some (mkSl top (e_int.rd hp x), [(top, mkOb e_int (e_int.rd hp x))], top + 1) := appendA_nilPb k_sint t_sint rfl t_int rfl rfl hx hn
@[go_sem] theorem ap0_sint {hp : Hp} {top k : Nat} (hk : hp k = some (.cells true 1 (cellsOf (hp k)))) (hc : e_int.enc (e_int.dec (cellsOf (hp k))) = cellsOf (hp k)) : appendA tt.get hp top [122, 122] (.slice none 0 0) (.slice (some ⟨k, 0, none⟩) 1 1) = some (mkSl top [e_int.dec (cellsOf (hp k))], [(top, mkOb e_int [e_int.dec (cellsOf (hp k))])], top + 1) := appendA_zeroC k_sint t_sint rfl t_int rfl rfl hk hc
@[go_sem] theorem sa_sint {hp : Hp} {b top : Nat} {l l2 : List (Int)} (h : hp b = mkOb e_int l) : hp.sets (appU b l top (mkOb e_int l2)) = (hp.set b none).set top (mkOb e_int l2) := sets_appU h
@[go_sem] theorem os_sint {hp : Hp} {b : Nat} {l : List (Int)} {i : Nat} (h : hp b = mkOb e_int l) (hi : i < l.length) {x : Int} : sstore tt.get hp 3 (ptrS (mkSl b l) (i * 1)) (.int .i64 (x)) = ([(b, mkOb e_int (l.set i x))], True) := own_storeF (f := 0) t_int h hi rfl (by decide) rfl rfl
@[go_sem] theorem ow_sint {b : Nat} {l : List (Int)} {hp2 : Hp} : slen tt.get hp2 122 (mkSl b l) = (.int .i64 (l.length : Int), True) := by cases l with | nil => unfold slen mkSl; simp only [k_sint, lenA, t_sint, ti122]; rfl | cons a l => unfold slen mkSl; simp only [k_sint, lenA, t_sint, ti122]; rfl
@[go_sem] theorem ap1_sint {hp : Hp} {b top k : Nat} {l : List (Int)} (h : hp b = mkOb e_int l) (hk : hp k = some (.cells true 1 (cellsOf (hp k)))) (hc : e_int.enc (e_int.dec (cellsOf (hp k))) = cellsOf (hp k)) (hn : l.length < 16777216) : appendA tt.get hp top [122, 122] (mkSl b l) (.slice (some ⟨k, 0, none⟩) 1 1) = some (mkSl top (l ++ [e_int.dec (cellsOf (hp k))]), appU b l top (mkOb e_int (l ++ [e_int.dec (cellsOf (hp k))])), top + 1) := appendA_oneC k_sint t_sint rfl t_int rfl rfl h hk hc hn
end
theorem sconvHI {s d : TypeId} {k1 k2 : IntKind} {hp : Hp} {x : Value} (h1 : kindOf tt.get s = some (.int k1)) (h2 : kindOf tt.get d = some (.int k2)) : sconvH tt.get hp s d x = (.int k2 (wrapA k2 (intOf x)), IsN x) := by
  unfold sconvH
  simp only [h1, h2, sconv]
@[go_sem] theorem cv_2_28 {hp : Hp} {x : Value} : sconvH tt.get hp 2 28 x = (.int .u64 (wrapA .u64 (intOf x)), IsN x) := sconvHI k_int64 k_uint64
@[go_sem] theorem cv_3_5 {hp : Hp} {x : Value} : sconvH tt.get hp 3 5 x = (.int .u8 (wrapA .u8 (intOf x)), IsN x) := sconvHI k_int k_uint8
@[go_sem] theorem cv_3_28 {hp : Hp} {x : Value} : sconvH tt.get hp 3 28 x = (.int .u64 (wrapA .u64 (intOf x)), IsN x) := sconvHI k_int k_uint64
@[go_sem] theorem cv_3_121 {hp : Hp} {x : Value} : sconvH tt.get hp 3 121 x = (.int .u64 (wrapA .u64 (intOf x)), IsN x) := sconvHI k_int k_uint
@[go_sem] theorem cv_5_3 {hp : Hp} {x : Value} : sconvH tt.get hp 5 3 x = (.int .i64 (wrapA .i64 (intOf x)), IsN x) := sconvHI k_uint8 k_int
@[go_sem] theorem cv_5_21 {hp : Hp} {x : Value} : sconvH tt.get hp 5 21 x = (.int .i32 (wrapA .i32 (intOf x)), IsN x) := sconvHI k_uint8 k_int32
@[go_sem] theorem cv_5_28 {hp : Hp} {x : Value} : sconvH tt.get hp 5 28 x = (.int .u64 (wrapA .u64 (intOf x)), IsN x) := sconvHI k_uint8 k_uint64
@[go_sem] theorem cv_5_29 {hp : Hp} {x : Value} : sconvH tt.get hp 5 29 x = (.int .u32 (wrapA .u32 (intOf x)), IsN x) := sconvHI k_uint8 k_uint32
@[go_sem] theorem cv_28_2 {hp : Hp} {x : Value} : sconvH tt.get hp 28 2 x = (.int .i64 (wrapA .i64 (intOf x)), IsN x) := sconvHI k_uint64 k_int64
@[go_sem] theorem cv_28_3 {hp : Hp} {x : Value} : sconvH tt.get hp 28 3 x = (.int .i64 (wrapA .i64 (intOf x)), IsN x) := sconvHI k_uint64 k_int
@[go_sem] theorem cv_28_5 {hp : Hp} {x : Value} : sconvH tt.get hp 28 5 x = (.int .u8 (wrapA .u8 (intOf x)), IsN x) := sconvHI k_uint64 k_uint8
@[go_sem] theorem cv_28_29 {hp : Hp} {x : Value} : sconvH tt.get hp 28 29 x = (.int .u32 (wrapA .u32 (intOf x)), IsN x) := sconvHI k_uint64 k_uint32
@[go_sem] theorem cv_29_5 {hp : Hp} {x : Value} : sconvH tt.get hp 29 5 x = (.int .u8 (wrapA .u8 (intOf x)), IsN x) := sconvHI k_uint32 k_uint8
@[go_sem] theorem cv_29_28 {hp : Hp} {x : Value} : sconvH tt.get hp 29 28 x = (.int .u64 (wrapA .u64 (intOf x)), IsN x) := sconvHI k_uint32 k_uint64
@[go_sem] theorem cv_121_3 {hp : Hp} {x : Value} : sconvH tt.get hp 121 3 x = (.int .i64 (wrapA .i64 (intOf x)), IsN x) := sconvHI k_uint k_int
@[go_sem] theorem cv_121_29 {hp : Hp} {x : Value} : sconvH tt.get hp 121 29 x = (.int .u32 (wrapA .u32 (intOf x)), IsN x) := sconvHI k_uint k_uint32
end Go.Proofs.YthpibnpeaidabaaGreatDoor.Dm
