/- Facts on the types of this seat; how their data lie in memory. -/
import Derived.Test.YthpibnpeaidabaaDoorDmTab
import Derived.Test.YthpibnpeaidabaaDoorDmH
set_option linter.unusedSimpArgs false
namespace Go.Proofs.YthpibnpeaidabaaDoor.Dm
open Go.Dm
attribute [go_sem] ti2 ti3 ti4 ti5 ti9 ti21 ti22 ti23 ti25 ti27 ti28 ti35 ti39 ti41 ti47 ti53 ti54 ti56 ti71 ti76 ti77 ti79 ti81 ti88 ti89 ti91 ti105 ti108 ti113 ti116 ti118 ti120 ti121 ti124 ti126
@[go_sem] theorem t_int64 : tt.get 2 = some ti2 := by kernel_rfl
@[go_sem] theorem k_int64 : kindOf tt.get 2 = some (.int .i64) := by kernel_rfl
@[go_sem] theorem v_int64 {op : BinOp} {xo yo : Operand} {x y : Value} : sbin2 tt.get op 2 xo yo x y = sbinI op .i64 x y := sbin2_int k_int64
@[go_sem] theorem t_int : tt.get 3 = some ti3 := by kernel_rfl
@[go_sem] theorem k_int : kindOf tt.get 3 = some (.int .i64) := by kernel_rfl
@[go_sem] theorem v_int {op : BinOp} {xo yo : Operand} {x y : Value} : sbin2 tt.get op 3 xo yo x y = sbinI op .i64 x y := sbin2_int k_int
@[go_sem] theorem t_bool : tt.get 4 = some ti4 := by kernel_rfl
@[go_sem] theorem k_bool : kindOf tt.get 4 = some (.bool) := by kernel_rfl
@[go_sem] theorem v_bool {op : BinOp} {xo yo : Operand} {x y : Value} : sbin2 tt.get op 4 xo yo x y = sbinB op x y := sbin2_bool k_bool
@[go_sem] theorem t_uint8 : tt.get 5 = some ti5 := by kernel_rfl
@[go_sem] theorem k_uint8 : kindOf tt.get 5 = some (.int .u8) := by kernel_rfl
@[go_sem] theorem v_uint8 {op : BinOp} {xo yo : Operand} {x y : Value} : sbin2 tt.get op 5 xo yo x y = sbinI op .u8 x y := sbin2_int k_uint8
@[go_sem] theorem t_string : tt.get 9 = some ti9 := by kernel_rfl
@[go_sem] theorem k_string : kindOf tt.get 9 = some (.string) := by kernel_rfl
@[go_sem] theorem v_string {op : BinOp} {xo yo : Operand} {x y : Value} : sbin2 tt.get op 9 xo yo x y = sbinS op x y := sbin2_str k_string
@[go_sem] theorem t_int32 : tt.get 21 = some ti21 := by kernel_rfl
@[go_sem] theorem k_int32 : kindOf tt.get 21 = some (.int .i32) := by kernel_rfl
@[go_sem] theorem v_int32 {op : BinOp} {xo yo : Operand} {x y : Value} : sbin2 tt.get op 21 xo yo x y = sbinI op .i32 x y := sbin2_int k_int32
@[go_sem] theorem t_uint64 : tt.get 22 = some ti22 := by kernel_rfl
@[go_sem] theorem k_uint64 : kindOf tt.get 22 = some (.int .u64) := by kernel_rfl
@[go_sem] theorem v_uint64 {op : BinOp} {xo yo : Operand} {x y : Value} : sbin2 tt.get op 22 xo yo x y = sbinI op .u64 x y := sbin2_int k_uint64
@[go_sem] theorem t_uint32 : tt.get 23 = some ti23 := by kernel_rfl
@[go_sem] theorem k_uint32 : kindOf tt.get 23 = some (.int .u32) := by kernel_rfl
@[go_sem] theorem v_uint32 {op : BinOp} {xo yo : Operand} {x y : Value} : sbin2 tt.get op 23 xo yo x y = sbinI op .u32 x y := sbin2_int k_uint32
@[go_sem] theorem t_Bits : tt.get 25 = some ti25 := by kernel_rfl
@[go_sem] theorem k_Bits : kindOf tt.get 25 = some (.array 4 22) := by kernel_rfl
@[go_sem] theorem t_Event : tt.get 27 = some ti27 := by kernel_rfl
@[go_sem] theorem fa_Event_0 {b o : Nat} : sfieldAddr tt.get 27 (.pointer (some ⟨b, o, none⟩)) 0 = (.pointer (some ⟨b, o, none⟩), True) := by unfold sfieldAddr; rw [show fieldAddrA tt.get 27 (.pointer (some ⟨b, o, none⟩)) 0 = some (.pointer (some ⟨b, o, none⟩)) from by kernel_rfl]
@[go_sem] theorem fa_Event_1 {b o : Nat} : sfieldAddr tt.get 27 (.pointer (some ⟨b, o, none⟩)) 1 = (.pointer (some ⟨b, o + 1, none⟩), True) := by unfold sfieldAddr; rw [show fieldAddrA tt.get 27 (.pointer (some ⟨b, o, none⟩)) 1 = some (.pointer (some ⟨b, o + 1, none⟩)) from by kernel_rfl]
@[go_sem] theorem fa_Event_2 {b o : Nat} : sfieldAddr tt.get 27 (.pointer (some ⟨b, o, none⟩)) 2 = (.pointer (some ⟨b, o + 2, none⟩), True) := by unfold sfieldAddr; rw [show fieldAddrA tt.get 27 (.pointer (some ⟨b, o, none⟩)) 2 = some (.pointer (some ⟨b, o + 2, none⟩)) from by kernel_rfl]
@[go_sem] theorem fa_Event_3 {b o : Nat} : sfieldAddr tt.get 27 (.pointer (some ⟨b, o, none⟩)) 3 = (.pointer (some ⟨b, o + 3, none⟩), True) := by unfold sfieldAddr; rw [show fieldAddrA tt.get 27 (.pointer (some ⟨b, o, none⟩)) 3 = some (.pointer (some ⟨b, o + 3, none⟩)) from by kernel_rfl]
@[go_sem] theorem fa_Event_4 {b o : Nat} : sfieldAddr tt.get 27 (.pointer (some ⟨b, o, none⟩)) 4 = (.pointer (some ⟨b, o + 4, none⟩), True) := by unfold sfieldAddr; rw [show fieldAddrA tt.get 27 (.pointer (some ⟨b, o, none⟩)) 4 = some (.pointer (some ⟨b, o + 4, none⟩)) from by kernel_rfl]
@[go_sem] theorem fa_Event_5 {b o : Nat} : sfieldAddr tt.get 27 (.pointer (some ⟨b, o, none⟩)) 5 = (.pointer (some ⟨b, o + 5, none⟩), True) := by unfold sfieldAddr; rw [show fieldAddrA tt.get 27 (.pointer (some ⟨b, o, none⟩)) 5 = some (.pointer (some ⟨b, o + 5, none⟩)) from by kernel_rfl]
@[go_sem] theorem fa_Event_6 {b o : Nat} : sfieldAddr tt.get 27 (.pointer (some ⟨b, o, none⟩)) 6 = (.pointer (some ⟨b, o + 6, none⟩), True) := by unfold sfieldAddr; rw [show fieldAddrA tt.get 27 (.pointer (some ⟨b, o, none⟩)) 6 = some (.pointer (some ⟨b, o + 6, none⟩)) from by kernel_rfl]
@[go_sem] theorem t_Errno : tt.get 28 = some ti28 := by kernel_rfl
@[go_sem] theorem k_Errno : kindOf tt.get 28 = some (.int .i64) := by kernel_rfl
@[go_sem] theorem v_Errno {op : BinOp} {xo yo : Operand} {x y : Value} : sbin2 tt.get op 28 xo yo x y = sbinI op .i64 x y := sbin2_int k_Errno
@[go_sem] theorem t_a9string : tt.get 35 = some ti35 := by kernel_rfl
@[go_sem] theorem k_a9string : kindOf tt.get 35 = some (.array 9 9) := by kernel_rfl
@[go_sem] theorem t_sstring : tt.get 39 = some ti39 := by kernel_rfl
@[go_sem] theorem k_sstring : kindOf tt.get 39 = some (.slice 9) := by kernel_rfl
@[go_sem] theorem v_sstring {op : BinOp} {xo yo : Operand} {x y : Value} : sbin2 tt.get op 39 xo yo x y = sbinX (binA tt.get op 39 xo yo x y) := sbin2_ref (by kernel_rfl)
@[go_sem] theorem n_sstring_eql {xo yo : Operand} {a : Option Addr} {n c : Nat} : binA tt.get .eql 39 xo yo (.slice a n c) (.slice none 0 0) = some (.bool (a.isNone)) := by cases a <;> simp [binA, eqA, t_sstring, ti39]
@[go_sem] theorem n_sstring_neq {xo yo : Operand} {a : Option Addr} {n c : Nat} : binA tt.get .neq 39 xo yo (.slice a n c) (.slice none 0 0) = some (.bool (!a.isNone)) := by cases a <;> simp [binA, eqA, t_sstring, ti39]
@[go_sem] theorem t_sint : tt.get 41 = some ti41 := by kernel_rfl
@[go_sem] theorem k_sint : kindOf tt.get 41 = some (.slice 3) := by kernel_rfl
@[go_sem] theorem v_sint {op : BinOp} {xo yo : Operand} {x y : Value} : sbin2 tt.get op 41 xo yo x y = sbinX (binA tt.get op 41 xo yo x y) := sbin2_ref (by kernel_rfl)
@[go_sem] theorem n_sint_eql {xo yo : Operand} {a : Option Addr} {n c : Nat} : binA tt.get .eql 41 xo yo (.slice a n c) (.slice none 0 0) = some (.bool (a.isNone)) := by cases a <;> simp [binA, eqA, t_sint, ti41]
@[go_sem] theorem n_sint_neq {xo yo : Operand} {a : Option Addr} {n c : Nat} : binA tt.get .neq 41 xo yo (.slice a n c) (.slice none 0 0) = some (.bool (!a.isNone)) := by cases a <;> simp [binA, eqA, t_sint, ti41]
@[go_sem] theorem t_error : tt.get 47 = some ti47 := by kernel_rfl
@[go_sem] theorem v_error {op : BinOp} {xo yo : Operand} {x y : Value} : sbin2 tt.get op 47 xo yo x y = sbinX (binA tt.get op 47 xo yo x y) := sbin2_ref (by kernel_rfl)
@[go_sem] theorem t_pBuilder : tt.get 53 = some ti53 := by kernel_rfl
@[go_sem] theorem k_pBuilder : kindOf tt.get 53 = some (.pointer 56) := by kernel_rfl
@[go_sem] theorem v_pBuilder {op : BinOp} {xo yo : Operand} {x y : Value} : sbin2 tt.get op 53 xo yo x y = sbinX (binA tt.get op 53 xo yo x y) := sbin2_ref (by kernel_rfl)
@[go_sem] theorem n_pBuilder_eql {xo yo : Operand} {a : Option Addr} : binA tt.get .eql 53 xo yo (.pointer a) (.pointer none) = some (.bool (a.isNone)) := by cases a <;> simp [binA, eqA, t_pBuilder, ti53]
@[go_sem] theorem n_pBuilder_neq {xo yo : Operand} {a : Option Addr} : binA tt.get .neq 53 xo yo (.pointer a) (.pointer none) = some (.bool (!a.isNone)) := by cases a <;> simp [binA, eqA, t_pBuilder, ti53]
@[go_sem] theorem t_suint8 : tt.get 54 = some ti54 := by kernel_rfl
@[go_sem] theorem k_suint8 : kindOf tt.get 54 = some (.slice 5) := by kernel_rfl
@[go_sem] theorem v_suint8 {op : BinOp} {xo yo : Operand} {x y : Value} : sbin2 tt.get op 54 xo yo x y = sbinX (binA tt.get op 54 xo yo x y) := sbin2_ref (by kernel_rfl)
@[go_sem] theorem n_suint8_eql {xo yo : Operand} {a : Option Addr} {n c : Nat} : binA tt.get .eql 54 xo yo (.slice a n c) (.slice none 0 0) = some (.bool (a.isNone)) := by cases a <;> simp [binA, eqA, t_suint8, ti54]
@[go_sem] theorem n_suint8_neq {xo yo : Operand} {a : Option Addr} {n c : Nat} : binA tt.get .neq 54 xo yo (.slice a n c) (.slice none 0 0) = some (.bool (!a.isNone)) := by cases a <;> simp [binA, eqA, t_suint8, ti54]
@[go_sem] theorem t_Builder : tt.get 56 = some ti56 := by kernel_rfl
@[go_sem] theorem fa_Builder_0 {b o : Nat} : sfieldAddr tt.get 56 (.pointer (some ⟨b, o, none⟩)) 0 = (.pointer (some ⟨b, o, none⟩), True) := by unfold sfieldAddr; rw [show fieldAddrA tt.get 56 (.pointer (some ⟨b, o, none⟩)) 0 = some (.pointer (some ⟨b, o, none⟩)) from by kernel_rfl]
@[go_sem] theorem fa_Builder_1 {b o : Nat} : sfieldAddr tt.get 56 (.pointer (some ⟨b, o, none⟩)) 1 = (.pointer (some ⟨b, o + 1, none⟩), True) := by unfold sfieldAddr; rw [show fieldAddrA tt.get 56 (.pointer (some ⟨b, o, none⟩)) 1 = some (.pointer (some ⟨b, o + 1, none⟩)) from by kernel_rfl]
@[go_sem] theorem t_a24uint8 : tt.get 71 = some ti71 := by kernel_rfl
@[go_sem] theorem k_a24uint8 : kindOf tt.get 71 = some (.array 24 5) := by kernel_rfl
@[go_sem] theorem t_puint8 : tt.get 76 = some ti76 := by kernel_rfl
@[go_sem] theorem k_puint8 : kindOf tt.get 76 = some (.pointer 5) := by kernel_rfl
@[go_sem] theorem v_puint8 {op : BinOp} {xo yo : Operand} {x y : Value} : sbin2 tt.get op 76 xo yo x y = sbinX (binA tt.get op 76 xo yo x y) := sbin2_ref (by kernel_rfl)
@[go_sem] theorem n_puint8_eql {xo yo : Operand} {a : Option Addr} : binA tt.get .eql 76 xo yo (.pointer a) (.pointer none) = some (.bool (a.isNone)) := by cases a <;> simp [binA, eqA, t_puint8, ti76]
@[go_sem] theorem n_puint8_neq {xo yo : Operand} {a : Option Addr} : binA tt.get .neq 76 xo yo (.pointer a) (.pointer none) = some (.bool (!a.isNone)) := by cases a <;> simp [binA, eqA, t_puint8, ti76]
@[go_sem] theorem t_uint : tt.get 77 = some ti77 := by kernel_rfl
@[go_sem] theorem k_uint : kindOf tt.get 77 = some (.int .u64) := by kernel_rfl
@[go_sem] theorem v_uint {op : BinOp} {xo yo : Operand} {x y : Value} : sbin2 tt.get op 77 xo yo x y = sbinI op .u64 x y := sbin2_int k_uint
@[go_sem] theorem t_pFault : tt.get 79 = some ti79 := by kernel_rfl
@[go_sem] theorem k_pFault : kindOf tt.get 79 = some (.pointer 81) := by kernel_rfl
@[go_sem] theorem v_pFault {op : BinOp} {xo yo : Operand} {x y : Value} : sbin2 tt.get op 79 xo yo x y = sbinX (binA tt.get op 79 xo yo x y) := sbin2_ref (by kernel_rfl)
@[go_sem] theorem n_pFault_eql {xo yo : Operand} {a : Option Addr} : binA tt.get .eql 79 xo yo (.pointer a) (.pointer none) = some (.bool (a.isNone)) := by cases a <;> simp [binA, eqA, t_pFault, ti79]
@[go_sem] theorem n_pFault_neq {xo yo : Operand} {a : Option Addr} : binA tt.get .neq 79 xo yo (.pointer a) (.pointer none) = some (.bool (!a.isNone)) := by cases a <;> simp [binA, eqA, t_pFault, ti79]
@[go_sem] theorem t_Fault : tt.get 81 = some ti81 := by kernel_rfl
@[go_sem] theorem fa_Fault_0 {b o : Nat} : sfieldAddr tt.get 81 (.pointer (some ⟨b, o, none⟩)) 0 = (.pointer (some ⟨b, o, none⟩), True) := by unfold sfieldAddr; rw [show fieldAddrA tt.get 81 (.pointer (some ⟨b, o, none⟩)) 0 = some (.pointer (some ⟨b, o, none⟩)) from by kernel_rfl]
@[go_sem] theorem fa_Fault_1 {b o : Nat} : sfieldAddr tt.get 81 (.pointer (some ⟨b, o, none⟩)) 1 = (.pointer (some ⟨b, o + 1, none⟩), True) := by unfold sfieldAddr; rw [show fieldAddrA tt.get 81 (.pointer (some ⟨b, o, none⟩)) 1 = some (.pointer (some ⟨b, o + 1, none⟩)) from by kernel_rfl]
@[go_sem] theorem t_a20uint64 : tt.get 88 = some ti88 := by kernel_rfl
@[go_sem] theorem k_a20uint64 : kindOf tt.get 88 = some (.array 20 22) := by kernel_rfl
@[go_sem] theorem t_a65uint8 : tt.get 89 = some ti89 := by kernel_rfl
@[go_sem] theorem k_a65uint8 : kindOf tt.get 89 = some (.array 65 5) := by kernel_rfl
@[go_sem] theorem t_a64uint8 : tt.get 91 = some ti91 := by kernel_rfl
@[go_sem] theorem k_a64uint8 : kindOf tt.get 91 = some (.array 64 5) := by kernel_rfl
@[go_sem] theorem t_Error : tt.get 105 = some ti105 := by kernel_rfl
@[go_sem] theorem k_Error : kindOf tt.get 105 = some (.int .i64) := by kernel_rfl
@[go_sem] theorem v_Error {op : BinOp} {xo yo : Operand} {x y : Value} : sbin2 tt.get op 105 xo yo x y = sbinI op .i64 x y := sbin2_int k_Error
@[go_sem] theorem t_pNumError : tt.get 108 = some ti108 := by kernel_rfl
@[go_sem] theorem k_pNumError : kindOf tt.get 108 = some (.pointer 116) := by kernel_rfl
@[go_sem] theorem v_pNumError {op : BinOp} {xo yo : Operand} {x y : Value} : sbin2 tt.get op 108 xo yo x y = sbinX (binA tt.get op 108 xo yo x y) := sbin2_ref (by kernel_rfl)
@[go_sem] theorem n_pNumError_eql {xo yo : Operand} {a : Option Addr} : binA tt.get .eql 108 xo yo (.pointer a) (.pointer none) = some (.bool (a.isNone)) := by cases a <;> simp [binA, eqA, t_pNumError, ti108]
@[go_sem] theorem n_pNumError_neq {xo yo : Operand} {a : Option Addr} : binA tt.get .neq 108 xo yo (.pointer a) (.pointer none) = some (.bool (!a.isNone)) := by cases a <;> simp [binA, eqA, t_pNumError, ti108]
@[go_sem] theorem t_a32uint8 : tt.get 113 = some ti113 := by kernel_rfl
@[go_sem] theorem k_a32uint8 : kindOf tt.get 113 = some (.array 32 5) := by kernel_rfl
@[go_sem] theorem t_NumError : tt.get 116 = some ti116 := by kernel_rfl
@[go_sem] theorem fa_NumError_0 {b o : Nat} : sfieldAddr tt.get 116 (.pointer (some ⟨b, o, none⟩)) 0 = (.pointer (some ⟨b, o, none⟩), True) := by unfold sfieldAddr; rw [show fieldAddrA tt.get 116 (.pointer (some ⟨b, o, none⟩)) 0 = some (.pointer (some ⟨b, o, none⟩)) from by kernel_rfl]
@[go_sem] theorem fa_NumError_1 {b o : Nat} : sfieldAddr tt.get 116 (.pointer (some ⟨b, o, none⟩)) 1 = (.pointer (some ⟨b, o + 1, none⟩), True) := by unfold sfieldAddr; rw [show fieldAddrA tt.get 116 (.pointer (some ⟨b, o, none⟩)) 1 = some (.pointer (some ⟨b, o + 1, none⟩)) from by kernel_rfl]
@[go_sem] theorem fa_NumError_2 {b o : Nat} : sfieldAddr tt.get 116 (.pointer (some ⟨b, o, none⟩)) 2 = (.pointer (some ⟨b, o + 2, none⟩), True) := by unfold sfieldAddr; rw [show fieldAddrA tt.get 116 (.pointer (some ⟨b, o, none⟩)) 2 = some (.pointer (some ⟨b, o + 2, none⟩)) from by kernel_rfl]
@[go_sem] theorem t_a256uint8 : tt.get 118 = some ti118 := by kernel_rfl
@[go_sem] theorem k_a256uint8 : kindOf tt.get 118 = some (.array 256 5) := by kernel_rfl
@[go_sem] theorem t_acceptRange : tt.get 120 = some ti120 := by kernel_rfl
@[go_sem] theorem fa_acceptRange_0 {b o : Nat} : sfieldAddr tt.get 120 (.pointer (some ⟨b, o, none⟩)) 0 = (.pointer (some ⟨b, o, none⟩), True) := by unfold sfieldAddr; rw [show fieldAddrA tt.get 120 (.pointer (some ⟨b, o, none⟩)) 0 = some (.pointer (some ⟨b, o, none⟩)) from by kernel_rfl]
@[go_sem] theorem fa_acceptRange_1 {b o : Nat} : sfieldAddr tt.get 120 (.pointer (some ⟨b, o, none⟩)) 1 = (.pointer (some ⟨b, o + 1, none⟩), True) := by unfold sfieldAddr; rw [show fieldAddrA tt.get 120 (.pointer (some ⟨b, o, none⟩)) 1 = some (.pointer (some ⟨b, o + 1, none⟩)) from by kernel_rfl]
@[go_sem] theorem t_a16acceptRange : tt.get 121 = some ti121 := by kernel_rfl
@[go_sem] theorem k_a16acceptRange : kindOf tt.get 121 = some (.array 16 120) := by kernel_rfl
@[go_sem] theorem t_perrors_errorString : tt.get 124 = some ti124 := by kernel_rfl
@[go_sem] theorem k_perrors_errorString : kindOf tt.get 124 = some (.pointer 126) := by kernel_rfl
@[go_sem] theorem v_perrors_errorString {op : BinOp} {xo yo : Operand} {x y : Value} : sbin2 tt.get op 124 xo yo x y = sbinX (binA tt.get op 124 xo yo x y) := sbin2_ref (by kernel_rfl)
@[go_sem] theorem n_perrors_errorString_eql {xo yo : Operand} {a : Option Addr} : binA tt.get .eql 124 xo yo (.pointer a) (.pointer none) = some (.bool (a.isNone)) := by cases a <;> simp [binA, eqA, t_perrors_errorString, ti124]
@[go_sem] theorem n_perrors_errorString_neq {xo yo : Operand} {a : Option Addr} : binA tt.get .neq 124 xo yo (.pointer a) (.pointer none) = some (.bool (!a.isNone)) := by cases a <;> simp [binA, eqA, t_perrors_errorString, ti124]
@[go_sem] theorem t_errors_errorString : tt.get 126 = some ti126 := by kernel_rfl
@[go_sem] theorem fa_errors_errorString_0 {b o : Nat} : sfieldAddr tt.get 126 (.pointer (some ⟨b, o, none⟩)) 0 = (.pointer (some ⟨b, o, none⟩), True) := by unfold sfieldAddr; rw [show fieldAddrA tt.get 126 (.pointer (some ⟨b, o, none⟩)) 0 = some (.pointer (some ⟨b, o, none⟩)) from by kernel_rfl]
def e_int64 : Enc (Int) := ⟨fun a => [.int .i64 (a)], fun l => intOf ((l[0]?).getD undef), 1, fun _ => rfl, fun _ => rfl, fun _ => rfl⟩
instance : e_int64.Plain := ⟨fun _ _ => rfl⟩
@[go_sem] theorem en_int64 (a : Int) : e_int64.enc a = [.int .i64 (a)] := rfl
@[go_sem] theorem de_int64 (l : List Value) : e_int64.dec l = intOf ((l[0]?).getD undef) := rfl
def e_int : Enc (Int) := ⟨fun a => [.int .i64 (a)], fun l => intOf ((l[0]?).getD undef), 1, fun _ => rfl, fun _ => rfl, fun _ => rfl⟩
instance : e_int.Plain := ⟨fun _ _ => rfl⟩
@[go_sem] theorem en_int (a : Int) : e_int.enc a = [.int .i64 (a)] := rfl
@[go_sem] theorem de_int (l : List Value) : e_int.dec l = intOf ((l[0]?).getD undef) := rfl
def e_bool : Enc (Bool) := ⟨fun a => [.bool (a)], fun l => boolOf ((l[0]?).getD undef), 1, fun _ => rfl, fun _ => rfl, fun _ => rfl⟩
instance : e_bool.Plain := ⟨fun _ _ => rfl⟩
@[go_sem] theorem en_bool (a : Bool) : e_bool.enc a = [.bool (a)] := rfl
@[go_sem] theorem de_bool (l : List Value) : e_bool.dec l = boolOf ((l[0]?).getD undef) := rfl
def e_uint8 : Enc (Int) := ⟨fun a => [.int .u8 (a)], fun l => intOf ((l[0]?).getD undef), 1, fun _ => rfl, fun _ => rfl, fun _ => rfl⟩
instance : e_uint8.Plain := ⟨fun _ _ => rfl⟩
@[go_sem] theorem en_uint8 (a : Int) : e_uint8.enc a = [.int .u8 (a)] := rfl
@[go_sem] theorem de_uint8 (l : List Value) : e_uint8.dec l = intOf ((l[0]?).getD undef) := rfl
def e_string : Enc (List UInt8) := ⟨fun a => [.string ⟨⟨a⟩⟩], fun l => strOf ((l[0]?).getD undef), 1, fun _ => rfl, fun _ => rfl, fun _ => rfl⟩
instance : e_string.Plain := ⟨fun _ _ => rfl⟩
@[go_sem] theorem en_string (a : List UInt8) : e_string.enc a = [.string ⟨⟨a⟩⟩] := rfl
@[go_sem] theorem de_string (l : List Value) : e_string.dec l = strOf ((l[0]?).getD undef) := rfl
def e_int32 : Enc (Int) := ⟨fun a => [.int .i32 (a)], fun l => intOf ((l[0]?).getD undef), 1, fun _ => rfl, fun _ => rfl, fun _ => rfl⟩
instance : e_int32.Plain := ⟨fun _ _ => rfl⟩
@[go_sem] theorem en_int32 (a : Int) : e_int32.enc a = [.int .i32 (a)] := rfl
@[go_sem] theorem de_int32 (l : List Value) : e_int32.dec l = intOf ((l[0]?).getD undef) := rfl
def e_uint64 : Enc (Int) := ⟨fun a => [.int .u64 (a)], fun l => intOf ((l[0]?).getD undef), 1, fun _ => rfl, fun _ => rfl, fun _ => rfl⟩
instance : e_uint64.Plain := ⟨fun _ _ => rfl⟩
@[go_sem] theorem en_uint64 (a : Int) : e_uint64.enc a = [.int .u64 (a)] := rfl
@[go_sem] theorem de_uint64 (l : List Value) : e_uint64.dec l = intOf ((l[0]?).getD undef) := rfl
def e_uint32 : Enc (Int) := ⟨fun a => [.int .u32 (a)], fun l => intOf ((l[0]?).getD undef), 1, fun _ => rfl, fun _ => rfl, fun _ => rfl⟩
instance : e_uint32.Plain := ⟨fun _ _ => rfl⟩
@[go_sem] theorem en_uint32 (a : Int) : e_uint32.enc a = [.int .u32 (a)] := rfl
@[go_sem] theorem de_uint32 (l : List Value) : e_uint32.dec l = intOf ((l[0]?).getD undef) := rfl
structure T_Bits where
  x0 : Int
  x1 : Int
  x2 : Int
  x3 : Int
instance : Inhabited T_Bits := ⟨⟨0, 0, 0, 0⟩⟩
instance : DecidableEq T_Bits := fun a b => decidable_of_iff (a.x0 = b.x0 ∧ a.x1 = b.x1 ∧ a.x2 = b.x2 ∧ a.x3 = b.x3) (by cases a; cases b; simp)
def e_Bits : Enc (T_Bits) := ⟨fun a => [.int .u64 (a.x0), .int .u64 (a.x1), .int .u64 (a.x2), .int .u64 (a.x3)], fun l => ⟨intOf ((l[0]?).getD undef), intOf ((l[1]?).getD undef), intOf ((l[2]?).getD undef), intOf ((l[3]?).getD undef)⟩, 4, fun _ => rfl, fun _ => rfl, fun _ => rfl⟩
instance : e_Bits.Plain := ⟨fun _ _ => rfl⟩
@[go_sem] theorem en_Bits (a : T_Bits) : e_Bits.enc a = [.int .u64 (a.x0), .int .u64 (a.x1), .int .u64 (a.x2), .int .u64 (a.x3)] := rfl
@[go_sem] theorem mk_Bits (a : T_Bits) : T_Bits.mk a.x0 a.x1 a.x2 a.x3 = a := rfl
@[go_sem] theorem de_Bits (l : List Value) : e_Bits.dec l = ⟨intOf ((l[0]?).getD undef), intOf ((l[1]?).getD undef), intOf ((l[2]?).getD undef), intOf ((l[3]?).getD undef)⟩ := rfl
structure T_Event where
  At : Int
  Kind : Int
  Router : Int
  Peer : Int
  Id : Int
  Set : Int
  Bits_x0 : Int
  Bits_x1 : Int
  Bits_x2 : Int
  Bits_x3 : Int
instance : Inhabited T_Event := ⟨⟨0, 0, 0, 0, 0, 0, 0, 0, 0, 0⟩⟩
instance : DecidableEq T_Event := fun a b => decidable_of_iff (a.At = b.At ∧ a.Kind = b.Kind ∧ a.Router = b.Router ∧ a.Peer = b.Peer ∧ a.Id = b.Id ∧ a.Set = b.Set ∧ a.Bits_x0 = b.Bits_x0 ∧ a.Bits_x1 = b.Bits_x1 ∧ a.Bits_x2 = b.Bits_x2 ∧ a.Bits_x3 = b.Bits_x3) (by cases a; cases b; simp)
def e_Event : Enc (T_Event) := ⟨fun a => [.int .u64 (a.At), .int .i64 (a.Kind), .int .i64 (a.Router), .int .i64 (a.Peer), .int .u32 (a.Id), .int .i64 (a.Set), .int .u64 (a.Bits_x0), .int .u64 (a.Bits_x1), .int .u64 (a.Bits_x2), .int .u64 (a.Bits_x3)], fun l => ⟨intOf ((l[0]?).getD undef), intOf ((l[1]?).getD undef), intOf ((l[2]?).getD undef), intOf ((l[3]?).getD undef), intOf ((l[4]?).getD undef), intOf ((l[5]?).getD undef), intOf ((l[6]?).getD undef), intOf ((l[7]?).getD undef), intOf ((l[8]?).getD undef), intOf ((l[9]?).getD undef)⟩, 10, fun _ => rfl, fun _ => rfl, fun _ => rfl⟩
instance : e_Event.Plain := ⟨fun _ _ => rfl⟩
@[go_sem] theorem en_Event (a : T_Event) : e_Event.enc a = [.int .u64 (a.At), .int .i64 (a.Kind), .int .i64 (a.Router), .int .i64 (a.Peer), .int .u32 (a.Id), .int .i64 (a.Set), .int .u64 (a.Bits_x0), .int .u64 (a.Bits_x1), .int .u64 (a.Bits_x2), .int .u64 (a.Bits_x3)] := rfl
@[go_sem] theorem mk_Event (a : T_Event) : T_Event.mk a.At a.Kind a.Router a.Peer a.Id a.Set a.Bits_x0 a.Bits_x1 a.Bits_x2 a.Bits_x3 = a := rfl
@[go_sem] theorem de_Event (l : List Value) : e_Event.dec l = ⟨intOf ((l[0]?).getD undef), intOf ((l[1]?).getD undef), intOf ((l[2]?).getD undef), intOf ((l[3]?).getD undef), intOf ((l[4]?).getD undef), intOf ((l[5]?).getD undef), intOf ((l[6]?).getD undef), intOf ((l[7]?).getD undef), intOf ((l[8]?).getD undef), intOf ((l[9]?).getD undef)⟩ := rfl
def e_Errno : Enc (Int) := ⟨fun a => [.int .i64 (a)], fun l => intOf ((l[0]?).getD undef), 1, fun _ => rfl, fun _ => rfl, fun _ => rfl⟩
instance : e_Errno.Plain := ⟨fun _ _ => rfl⟩
@[go_sem] theorem en_Errno (a : Int) : e_Errno.enc a = [.int .i64 (a)] := rfl
@[go_sem] theorem de_Errno (l : List Value) : e_Errno.dec l = intOf ((l[0]?).getD undef) := rfl
def e_uint : Enc (Int) := ⟨fun a => [.int .u64 (a)], fun l => intOf ((l[0]?).getD undef), 1, fun _ => rfl, fun _ => rfl, fun _ => rfl⟩
instance : e_uint.Plain := ⟨fun _ _ => rfl⟩
@[go_sem] theorem en_uint (a : Int) : e_uint.enc a = [.int .u64 (a)] := rfl
@[go_sem] theorem de_uint (l : List Value) : e_uint.dec l = intOf ((l[0]?).getD undef) := rfl
structure T_Fault where
  Code : Int
  At : Int
instance : Inhabited T_Fault := ⟨⟨0, 0⟩⟩
instance : DecidableEq T_Fault := fun a b => decidable_of_iff (a.Code = b.Code ∧ a.At = b.At) (by cases a; cases b; simp)
def e_Fault : Enc (T_Fault) := ⟨fun a => [.int .i64 (a.Code), .int .i64 (a.At)], fun l => ⟨intOf ((l[0]?).getD undef), intOf ((l[1]?).getD undef)⟩, 2, fun _ => rfl, fun _ => rfl, fun _ => rfl⟩
instance : e_Fault.Plain := ⟨fun _ _ => rfl⟩
@[go_sem] theorem en_Fault (a : T_Fault) : e_Fault.enc a = [.int .i64 (a.Code), .int .i64 (a.At)] := rfl
@[go_sem] theorem mk_Fault (a : T_Fault) : T_Fault.mk a.Code a.At = a := rfl
@[go_sem] theorem de_Fault (l : List Value) : e_Fault.dec l = ⟨intOf ((l[0]?).getD undef), intOf ((l[1]?).getD undef)⟩ := rfl
def e_Error : Enc (Int) := ⟨fun a => [.int .i64 (a)], fun l => intOf ((l[0]?).getD undef), 1, fun _ => rfl, fun _ => rfl, fun _ => rfl⟩
instance : e_Error.Plain := ⟨fun _ _ => rfl⟩
@[go_sem] theorem en_Error (a : Int) : e_Error.enc a = [.int .i64 (a)] := rfl
@[go_sem] theorem de_Error (l : List Value) : e_Error.dec l = intOf ((l[0]?).getD undef) := rfl
structure T_acceptRange where
  lo : Int
  hi : Int
instance : Inhabited T_acceptRange := ⟨⟨0, 0⟩⟩
instance : DecidableEq T_acceptRange := fun a b => decidable_of_iff (a.lo = b.lo ∧ a.hi = b.hi) (by cases a; cases b; simp)
def e_acceptRange : Enc (T_acceptRange) := ⟨fun a => [.int .u8 (a.lo), .int .u8 (a.hi)], fun l => ⟨intOf ((l[0]?).getD undef), intOf ((l[1]?).getD undef)⟩, 2, fun _ => rfl, fun _ => rfl, fun _ => rfl⟩
instance : e_acceptRange.Plain := ⟨fun _ _ => rfl⟩
@[go_sem] theorem en_acceptRange (a : T_acceptRange) : e_acceptRange.enc a = [.int .u8 (a.lo), .int .u8 (a.hi)] := rfl
@[go_sem] theorem mk_acceptRange (a : T_acceptRange) : T_acceptRange.mk a.lo a.hi = a := rfl
@[go_sem] theorem de_acceptRange (l : List Value) : e_acceptRange.dec l = ⟨intOf ((l[0]?).getD undef), intOf ((l[1]?).getD undef)⟩ := rfl
structure T_errors_errorString where
  s : List UInt8
instance : Inhabited T_errors_errorString := ⟨⟨[]⟩⟩
instance : DecidableEq T_errors_errorString := fun a b => decidable_of_iff (a.s = b.s) (by cases a; cases b; simp)
def e_errors_errorString : Enc (T_errors_errorString) := ⟨fun a => [.string ⟨⟨a.s⟩⟩], fun l => ⟨strOf ((l[0]?).getD undef)⟩, 1, fun _ => rfl, fun _ => rfl, fun _ => rfl⟩
instance : e_errors_errorString.Plain := ⟨fun _ _ => rfl⟩
@[go_sem] theorem en_errors_errorString (a : T_errors_errorString) : e_errors_errorString.enc a = [.string ⟨⟨a.s⟩⟩] := rfl
@[go_sem] theorem mk_errors_errorString (a : T_errors_errorString) : T_errors_errorString.mk a.s = a := rfl
@[go_sem] theorem de_errors_errorString (l : List Value) : e_errors_errorString.dec l = ⟨strOf ((l[0]?).getD undef)⟩ := rfl
section
theorem len_sstring {hp : Hp} {v : Value} {l : List (List UInt8)} (h : SlT e_string hp v l) {hp' : Hp} : slen tt.get hp' 39 v = (.int .i64 (l.length : Int), True) := h.len_any k_sstring
theorem idx_sstring {hp : Hp} {v : Value} {l : List (List UInt8)} (h : SlT e_string hp v l) {k : IntKind} {n : Int} (h0 : 0 ≤ n) (h1 : n < l.length) : sindexAddr tt.get 39 v (.int k n) = (ptrS v (n.toNat * 1), True) := h.idx k_sstring t_string rfl h0 h1
theorem ld_sstring {hp : Hp} {v : Value} {l : List (List UInt8)} (h : SlT e_string hp v l) {i : Nat} (hi : i < l.length) : sload tt.get hp 9 (ptrS v (i * 1)) = (.string ⟨⟨at' l i⟩⟩, True) := h.cell (f := 0) t_string rfl hi (by decide)
theorem sh_sstring {hp : Hp} {v : Value} {l : List (List UInt8)} (h : SlT e_string hp v l) {k : IntKind} {n : Int} (h0 : 0 ≤ n) (h1 : n ≤ l.length) : sslice tt.get hp 39 v none (some (.int k n)) = (subS 1 v 0 n.toNat, True) := h.slHi k_sstring t_string h0 h1
theorem sw_sstring {hp : Hp} {v : Value} {l : List (List UInt8)} (h : SlT e_string hp v l) {k : IntKind} {n : Int} (h0 : 0 ≤ n) (h1 : n ≤ l.length) : sslice tt.get hp 39 v (some (.int k n)) none = (subL 1 v n.toNat, True) := h.slLo k_sstring t_string rfl h0 h1
@[go_sem] theorem ap_sstring {hp : Hp} {x : Value} {b top : Nat} {l : List (List UInt8)} (h : hp b = mkOb e_string l) (hx : SlP e_string hp x) (hn : l.length + (e_string.rd hp x).length ≤ 16777216) : appendA tt.get hp top [39, 39] (mkSl b l) x = some (mkSl top (l ++ e_string.rd hp x), appU b l top (mkOb e_string (l ++ e_string.rd hp x)), top + 1) := appendA_ownP k_sstring t_sstring rfl t_string rfl rfl h hx hn
@[go_sem] theorem apn_sstring {hp : Hp} {x : Value} {top : Nat} (hx : SlP e_string hp x) (hn : (e_string.rd hp x).length ≤ 16777216) : appendA tt.get hp top [39, 39] (.slice none 0 0) x = some (mkSl top (e_string.rd hp x), [(top, mkOb e_string (e_string.rd hp x))], top + 1) := appendA_nilP k_sstring t_sstring rfl t_string rfl rfl hx hn
@[go_sem] theorem ap1r_sstring {hp : Hp} {b top k : Nat} {l : List (List UInt8)} (h : hp b = mkOb e_string l) (hk : hp k = some (.cells true 1 (cellsOf (hp k)))) (hc : e_string.enc (e_string.dec (cellsOf (hp k))) = cellsOf (hp k)) (hn : roomB (l.length + 1) ti9.bytes = true) : appendA tt.get hp top [39, 39] (mkSl b l) (.slice (some ⟨k, 0, none⟩) 1 1) = some (mkSl top (l ++ [e_string.dec (cellsOf (hp k))]), appU b l top (mkOb e_string (l ++ [e_string.dec (cellsOf (hp k))])), top + 1) := appendA_oneCR k_sstring t_sstring rfl t_string rfl rfl h hk hc hn
@[go_sem] theorem apr_sstring {hp : Hp} {x : Value} {top : Nat} (hx : SlP e_string hp x) (hn : roomB (e_string.rd hp x).length ti9.bytes = true) : appendA tt.get hp top [39, 39] (.slice none 0 0) x = some (mkSl top (e_string.rd hp x), [(top, mkOb e_string (e_string.rd hp x))], top + 1) := appendA_nilPb k_sstring t_sstring rfl t_string rfl rfl hx hn
@[go_sem] theorem ap0_sstring {hp : Hp} {top k : Nat} (hk : hp k = some (.cells true 1 (cellsOf (hp k)))) (hc : e_string.enc (e_string.dec (cellsOf (hp k))) = cellsOf (hp k)) : appendA tt.get hp top [39, 39] (.slice none 0 0) (.slice (some ⟨k, 0, none⟩) 1 1) = some (mkSl top [e_string.dec (cellsOf (hp k))], [(top, mkOb e_string [e_string.dec (cellsOf (hp k))])], top + 1) := appendA_zeroC k_sstring t_sstring rfl t_string rfl rfl hk hc
@[go_sem] theorem sa_sstring {hp : Hp} {b top : Nat} {l l2 : List (List UInt8)} (h : hp b = mkOb e_string l) : hp.sets (appU b l top (mkOb e_string l2)) = (hp.set b none).set top (mkOb e_string l2) := sets_appU h
@[go_sem] theorem os_sstring {hp : Hp} {b : Nat} {l : List (List UInt8)} {i : Nat} (h : hp b = mkOb e_string l) (hi : i < l.length) {x : List UInt8} : sstore tt.get hp 9 (ptrS (mkSl b l) (i * 1)) (.string ⟨⟨x⟩⟩) = ([(b, mkOb e_string (l.set i x))], True) := own_storeF (f := 0) t_string h hi rfl (by decide) rfl rfl
@[go_sem] theorem ow_sstring {b : Nat} {l : List (List UInt8)} {hp2 : Hp} : slen tt.get hp2 39 (mkSl b l) = (.int .i64 (l.length : Int), True) := by cases l with | nil => unfold slen mkSl; simp only [k_sstring, lenA, t_sstring, ti39]; rfl | cons a l => unfold slen mkSl; simp only [k_sstring, lenA, t_sstring, ti39]; rfl
@[go_sem] theorem ap1_sstring {hp : Hp} {b top k : Nat} {l : List (List UInt8)} (h : hp b = mkOb e_string l) (hk : hp k = some (.cells true 1 (cellsOf (hp k)))) (hc : e_string.enc (e_string.dec (cellsOf (hp k))) = cellsOf (hp k)) (hn : l.length < 16777216) : appendA tt.get hp top [39, 39] (mkSl b l) (.slice (some ⟨k, 0, none⟩) 1 1) = some (mkSl top (l ++ [e_string.dec (cellsOf (hp k))]), appU b l top (mkOb e_string (l ++ [e_string.dec (cellsOf (hp k))])), top + 1) := appendA_oneC k_sstring t_sstring rfl t_string rfl rfl h hk hc hn
end
section
theorem len_sint {hp : Hp} {v : Value} {l : List (Int)} (h : SlT e_int hp v l) {hp' : Hp} : slen tt.get hp' 41 v = (.int .i64 (l.length : Int), True) := h.len_any k_sint
theorem idx_sint {hp : Hp} {v : Value} {l : List (Int)} (h : SlT e_int hp v l) {k : IntKind} {n : Int} (h0 : 0 ≤ n) (h1 : n < l.length) : sindexAddr tt.get 41 v (.int k n) = (ptrS v (n.toNat * 1), True) := h.idx k_sint t_int rfl h0 h1
theorem ld_sint {hp : Hp} {v : Value} {l : List (Int)} (h : SlT e_int hp v l) {i : Nat} (hi : i < l.length) : sload tt.get hp 3 (ptrS v (i * 1)) = (.int .i64 (at' l i), True) := h.cell (f := 0) t_int rfl hi (by decide)
theorem sh_sint {hp : Hp} {v : Value} {l : List (Int)} (h : SlT e_int hp v l) {k : IntKind} {n : Int} (h0 : 0 ≤ n) (h1 : n ≤ l.length) : sslice tt.get hp 41 v none (some (.int k n)) = (subS 1 v 0 n.toNat, True) := h.slHi k_sint t_int h0 h1
theorem sw_sint {hp : Hp} {v : Value} {l : List (Int)} (h : SlT e_int hp v l) {k : IntKind} {n : Int} (h0 : 0 ≤ n) (h1 : n ≤ l.length) : sslice tt.get hp 41 v (some (.int k n)) none = (subL 1 v n.toNat, True) := h.slLo k_sint t_int rfl h0 h1
@[go_sem] theorem ap_sint {hp : Hp} {x : Value} {b top : Nat} {l : List (Int)} (h : hp b = mkOb e_int l) (hx : SlP e_int hp x) (hn : l.length + (e_int.rd hp x).length ≤ 16777216) : appendA tt.get hp top [41, 41] (mkSl b l) x = some (mkSl top (l ++ e_int.rd hp x), appU b l top (mkOb e_int (l ++ e_int.rd hp x)), top + 1) := appendA_ownP k_sint t_sint rfl t_int rfl rfl h hx hn
@[go_sem] theorem apn_sint {hp : Hp} {x : Value} {top : Nat} (hx : SlP e_int hp x) (hn : (e_int.rd hp x).length ≤ 16777216) : appendA tt.get hp top [41, 41] (.slice none 0 0) x = some (mkSl top (e_int.rd hp x), [(top, mkOb e_int (e_int.rd hp x))], top + 1) := appendA_nilP k_sint t_sint rfl t_int rfl rfl hx hn
@[go_sem] theorem ap1r_sint {hp : Hp} {b top k : Nat} {l : List (Int)} (h : hp b = mkOb e_int l) (hk : hp k = some (.cells true 1 (cellsOf (hp k)))) (hc : e_int.enc (e_int.dec (cellsOf (hp k))) = cellsOf (hp k)) (hn : roomB (l.length + 1) ti3.bytes = true) : appendA tt.get hp top [41, 41] (mkSl b l) (.slice (some ⟨k, 0, none⟩) 1 1) = some (mkSl top (l ++ [e_int.dec (cellsOf (hp k))]), appU b l top (mkOb e_int (l ++ [e_int.dec (cellsOf (hp k))])), top + 1) := appendA_oneCR k_sint t_sint rfl t_int rfl rfl h hk hc hn
@[go_sem] theorem apr_sint {hp : Hp} {x : Value} {top : Nat} (hx : SlP e_int hp x) (hn : roomB (e_int.rd hp x).length ti3.bytes = true) : appendA tt.get hp top [41, 41] (.slice none 0 0) x = some (mkSl top (e_int.rd hp x), [(top, mkOb e_int (e_int.rd hp x))], top + 1) := appendA_nilPb k_sint t_sint rfl t_int rfl rfl hx hn
@[go_sem] theorem ap0_sint {hp : Hp} {top k : Nat} (hk : hp k = some (.cells true 1 (cellsOf (hp k)))) (hc : e_int.enc (e_int.dec (cellsOf (hp k))) = cellsOf (hp k)) : appendA tt.get hp top [41, 41] (.slice none 0 0) (.slice (some ⟨k, 0, none⟩) 1 1) = some (mkSl top [e_int.dec (cellsOf (hp k))], [(top, mkOb e_int [e_int.dec (cellsOf (hp k))])], top + 1) := appendA_zeroC k_sint t_sint rfl t_int rfl rfl hk hc
@[go_sem] theorem sa_sint {hp : Hp} {b top : Nat} {l l2 : List (Int)} (h : hp b = mkOb e_int l) : hp.sets (appU b l top (mkOb e_int l2)) = (hp.set b none).set top (mkOb e_int l2) := sets_appU h
@[go_sem] theorem os_sint {hp : Hp} {b : Nat} {l : List (Int)} {i : Nat} (h : hp b = mkOb e_int l) (hi : i < l.length) {x : Int} : sstore tt.get hp 3 (ptrS (mkSl b l) (i * 1)) (.int .i64 (x)) = ([(b, mkOb e_int (l.set i x))], True) := own_storeF (f := 0) t_int h hi rfl (by decide) rfl rfl
@[go_sem] theorem ow_sint {b : Nat} {l : List (Int)} {hp2 : Hp} : slen tt.get hp2 41 (mkSl b l) = (.int .i64 (l.length : Int), True) := by cases l with | nil => unfold slen mkSl; simp only [k_sint, lenA, t_sint, ti41]; rfl | cons a l => unfold slen mkSl; simp only [k_sint, lenA, t_sint, ti41]; rfl
@[go_sem] theorem ap1_sint {hp : Hp} {b top k : Nat} {l : List (Int)} (h : hp b = mkOb e_int l) (hk : hp k = some (.cells true 1 (cellsOf (hp k)))) (hc : e_int.enc (e_int.dec (cellsOf (hp k))) = cellsOf (hp k)) (hn : l.length < 16777216) : appendA tt.get hp top [41, 41] (mkSl b l) (.slice (some ⟨k, 0, none⟩) 1 1) = some (mkSl top (l ++ [e_int.dec (cellsOf (hp k))]), appU b l top (mkOb e_int (l ++ [e_int.dec (cellsOf (hp k))])), top + 1) := appendA_oneC k_sint t_sint rfl t_int rfl rfl h hk hc hn
end
section
theorem len_suint8 {hp : Hp} {v : Value} {l : List (Int)} (h : SlT e_uint8 hp v l) {hp' : Hp} : slen tt.get hp' 54 v = (.int .i64 (l.length : Int), True) := h.len_any k_suint8
theorem idx_suint8 {hp : Hp} {v : Value} {l : List (Int)} (h : SlT e_uint8 hp v l) {k : IntKind} {n : Int} (h0 : 0 ≤ n) (h1 : n < l.length) : sindexAddr tt.get 54 v (.int k n) = (ptrS v (n.toNat * 1), True) := h.idx k_suint8 t_uint8 rfl h0 h1
theorem ld_suint8 {hp : Hp} {v : Value} {l : List (Int)} (h : SlT e_uint8 hp v l) {i : Nat} (hi : i < l.length) : sload tt.get hp 5 (ptrS v (i * 1)) = (.int .u8 (at' l i), True) := h.cell (f := 0) t_uint8 rfl hi (by decide)
theorem sh_suint8 {hp : Hp} {v : Value} {l : List (Int)} (h : SlT e_uint8 hp v l) {k : IntKind} {n : Int} (h0 : 0 ≤ n) (h1 : n ≤ l.length) : sslice tt.get hp 54 v none (some (.int k n)) = (subS 1 v 0 n.toNat, True) := h.slHi k_suint8 t_uint8 h0 h1
theorem sw_suint8 {hp : Hp} {v : Value} {l : List (Int)} (h : SlT e_uint8 hp v l) {k : IntKind} {n : Int} (h0 : 0 ≤ n) (h1 : n ≤ l.length) : sslice tt.get hp 54 v (some (.int k n)) none = (subL 1 v n.toNat, True) := h.slLo k_suint8 t_uint8 rfl h0 h1
@[go_sem] theorem ap_suint8 {hp : Hp} {x : Value} {b top : Nat} {l : List (Int)} (h : hp b = mkOb e_uint8 l) (hx : SlP e_uint8 hp x) (hn : l.length + (e_uint8.rd hp x).length ≤ 16777216) : appendA tt.get hp top [54, 54] (mkSl b l) x = some (mkSl top (l ++ e_uint8.rd hp x), appU b l top (mkOb e_uint8 (l ++ e_uint8.rd hp x)), top + 1) := appendA_ownP k_suint8 t_suint8 rfl t_uint8 rfl rfl h hx hn
@[go_sem] theorem apn_suint8 {hp : Hp} {x : Value} {top : Nat} (hx : SlP e_uint8 hp x) (hn : (e_uint8.rd hp x).length ≤ 16777216) : appendA tt.get hp top [54, 54] (.slice none 0 0) x = some (mkSl top (e_uint8.rd hp x), [(top, mkOb e_uint8 (e_uint8.rd hp x))], top + 1) := appendA_nilP k_suint8 t_suint8 rfl t_uint8 rfl rfl hx hn
@[go_sem] theorem ap1r_suint8 {hp : Hp} {b top k : Nat} {l : List (Int)} (h : hp b = mkOb e_uint8 l) (hk : hp k = some (.cells true 1 (cellsOf (hp k)))) (hc : e_uint8.enc (e_uint8.dec (cellsOf (hp k))) = cellsOf (hp k)) (hn : roomB (l.length + 1) ti5.bytes = true) : appendA tt.get hp top [54, 54] (mkSl b l) (.slice (some ⟨k, 0, none⟩) 1 1) = some (mkSl top (l ++ [e_uint8.dec (cellsOf (hp k))]), appU b l top (mkOb e_uint8 (l ++ [e_uint8.dec (cellsOf (hp k))])), top + 1) := appendA_oneCR k_suint8 t_suint8 rfl t_uint8 rfl rfl h hk hc hn
@[go_sem] theorem apr_suint8 {hp : Hp} {x : Value} {top : Nat} (hx : SlP e_uint8 hp x) (hn : roomB (e_uint8.rd hp x).length ti5.bytes = true) : appendA tt.get hp top [54, 54] (.slice none 0 0) x = some (mkSl top (e_uint8.rd hp x), [(top, mkOb e_uint8 (e_uint8.rd hp x))], top + 1) := appendA_nilPb k_suint8 t_suint8 rfl t_uint8 rfl rfl hx hn
@[go_sem] theorem ap0_suint8 {hp : Hp} {top k : Nat} (hk : hp k = some (.cells true 1 (cellsOf (hp k)))) (hc : e_uint8.enc (e_uint8.dec (cellsOf (hp k))) = cellsOf (hp k)) : appendA tt.get hp top [54, 54] (.slice none 0 0) (.slice (some ⟨k, 0, none⟩) 1 1) = some (mkSl top [e_uint8.dec (cellsOf (hp k))], [(top, mkOb e_uint8 [e_uint8.dec (cellsOf (hp k))])], top + 1) := appendA_zeroC k_suint8 t_suint8 rfl t_uint8 rfl rfl hk hc
@[go_sem] theorem sa_suint8 {hp : Hp} {b top : Nat} {l l2 : List (Int)} (h : hp b = mkOb e_uint8 l) : hp.sets (appU b l top (mkOb e_uint8 l2)) = (hp.set b none).set top (mkOb e_uint8 l2) := sets_appU h
@[go_sem] theorem os_suint8 {hp : Hp} {b : Nat} {l : List (Int)} {i : Nat} (h : hp b = mkOb e_uint8 l) (hi : i < l.length) {x : Int} : sstore tt.get hp 5 (ptrS (mkSl b l) (i * 1)) (.int .u8 (x)) = ([(b, mkOb e_uint8 (l.set i x))], True) := own_storeF (f := 0) t_uint8 h hi rfl (by decide) rfl rfl
@[go_sem] theorem ow_suint8 {b : Nat} {l : List (Int)} {hp2 : Hp} : slen tt.get hp2 54 (mkSl b l) = (.int .i64 (l.length : Int), True) := by cases l with | nil => unfold slen mkSl; simp only [k_suint8, lenA, t_suint8, ti54]; rfl | cons a l => unfold slen mkSl; simp only [k_suint8, lenA, t_suint8, ti54]; rfl
@[go_sem] theorem ap1_suint8 {hp : Hp} {b top k : Nat} {l : List (Int)} (h : hp b = mkOb e_uint8 l) (hk : hp k = some (.cells true 1 (cellsOf (hp k)))) (hc : e_uint8.enc (e_uint8.dec (cellsOf (hp k))) = cellsOf (hp k)) (hn : l.length < 16777216) : appendA tt.get hp top [54, 54] (mkSl b l) (.slice (some ⟨k, 0, none⟩) 1 1) = some (mkSl top (l ++ [e_uint8.dec (cellsOf (hp k))]), appU b l top (mkOb e_uint8 (l ++ [e_uint8.dec (cellsOf (hp k))])), top + 1) := appendA_oneC k_suint8 t_suint8 rfl t_uint8 rfl rfl h hk hc hn
end
theorem sconvHI {s d : TypeId} {k1 k2 : IntKind} {hp : Hp} {x : Value} (h1 : kindOf tt.get s = some (.int k1)) (h2 : kindOf tt.get d = some (.int k2)) : sconvH tt.get hp s d x = (.int k2 (wrapA k2 (intOf x)), IsN x) := by
  unfold sconvH
  simp only [h1, h2, sconv]
@[go_sem] theorem cv_2_22 {hp : Hp} {x : Value} : sconvH tt.get hp 2 22 x = (.int .u64 (wrapA .u64 (intOf x)), IsN x) := sconvHI k_int64 k_uint64
@[go_sem] theorem cv_3_5 {hp : Hp} {x : Value} : sconvH tt.get hp 3 5 x = (.int .u8 (wrapA .u8 (intOf x)), IsN x) := sconvHI k_int k_uint8
@[go_sem] theorem cv_3_22 {hp : Hp} {x : Value} : sconvH tt.get hp 3 22 x = (.int .u64 (wrapA .u64 (intOf x)), IsN x) := sconvHI k_int k_uint64
@[go_sem] theorem cv_3_77 {hp : Hp} {x : Value} : sconvH tt.get hp 3 77 x = (.int .u64 (wrapA .u64 (intOf x)), IsN x) := sconvHI k_int k_uint
@[go_sem] theorem cv_5_3 {hp : Hp} {x : Value} : sconvH tt.get hp 5 3 x = (.int .i64 (wrapA .i64 (intOf x)), IsN x) := sconvHI k_uint8 k_int
@[go_sem] theorem cv_5_21 {hp : Hp} {x : Value} : sconvH tt.get hp 5 21 x = (.int .i32 (wrapA .i32 (intOf x)), IsN x) := sconvHI k_uint8 k_int32
@[go_sem] theorem cv_5_22 {hp : Hp} {x : Value} : sconvH tt.get hp 5 22 x = (.int .u64 (wrapA .u64 (intOf x)), IsN x) := sconvHI k_uint8 k_uint64
@[go_sem] theorem cv_5_23 {hp : Hp} {x : Value} : sconvH tt.get hp 5 23 x = (.int .u32 (wrapA .u32 (intOf x)), IsN x) := sconvHI k_uint8 k_uint32
@[go_sem] theorem cv_22_2 {hp : Hp} {x : Value} : sconvH tt.get hp 22 2 x = (.int .i64 (wrapA .i64 (intOf x)), IsN x) := sconvHI k_uint64 k_int64
@[go_sem] theorem cv_22_3 {hp : Hp} {x : Value} : sconvH tt.get hp 22 3 x = (.int .i64 (wrapA .i64 (intOf x)), IsN x) := sconvHI k_uint64 k_int
@[go_sem] theorem cv_22_5 {hp : Hp} {x : Value} : sconvH tt.get hp 22 5 x = (.int .u8 (wrapA .u8 (intOf x)), IsN x) := sconvHI k_uint64 k_uint8
@[go_sem] theorem cv_22_23 {hp : Hp} {x : Value} : sconvH tt.get hp 22 23 x = (.int .u32 (wrapA .u32 (intOf x)), IsN x) := sconvHI k_uint64 k_uint32
@[go_sem] theorem cv_23_5 {hp : Hp} {x : Value} : sconvH tt.get hp 23 5 x = (.int .u8 (wrapA .u8 (intOf x)), IsN x) := sconvHI k_uint32 k_uint8
@[go_sem] theorem cv_23_22 {hp : Hp} {x : Value} : sconvH tt.get hp 23 22 x = (.int .u64 (wrapA .u64 (intOf x)), IsN x) := sconvHI k_uint32 k_uint64
@[go_sem] theorem cv_77_23 {hp : Hp} {x : Value} : sconvH tt.get hp 77 23 x = (.int .u32 (wrapA .u32 (intOf x)), IsN x) := sconvHI k_uint k_uint32
end Go.Proofs.YthpibnpeaidabaaDoor.Dm
