/- Facts on the types of this seat; how their data lie in memory. -/
import Derived.Test.YtaenmabpekbjoaaDmTab
import Derived.Test.YtaenmabpekbjoaaDmH
namespace Go.Proofs.Ytaenmabpekbjoaa.Dm
open Go.Dm
attribute [go_sem] ti3 ti4 ti22 ti23 ti24 ti26 ti27 ti32 ti36 ti37 ti39 ti41 ti53 ti56 ti60 ti61 ti63 ti64 ti69 ti70
@[go_sem] theorem t_int : tt.get 3 = some ti3 := by kernel_rfl
@[go_sem] theorem k_int : kindOf tt.get 3 = some (.int .i64) := by kernel_rfl
@[go_sem] theorem v_int {op : BinOp} {xo yo : Operand} {x y : Value} : sbin2 tt.get op 3 xo yo x y = sbinI op .i64 x y := sbin2_int k_int
@[go_sem] theorem t_bool : tt.get 4 = some ti4 := by kernel_rfl
@[go_sem] theorem k_bool : kindOf tt.get 4 = some (.bool) := by kernel_rfl
@[go_sem] theorem v_bool {op : BinOp} {xo yo : Operand} {x y : Value} : sbin2 tt.get op 4 xo yo x y = sbinB op x y := sbin2_bool k_bool
@[go_sem] theorem t_sRecord : tt.get 22 = some ti22 := by kernel_rfl
@[go_sem] theorem k_sRecord : kindOf tt.get 22 = some (.slice 39) := by kernel_rfl
@[go_sem] theorem v_sRecord {op : BinOp} {xo yo : Operand} {x y : Value} : sbin2 tt.get op 22 xo yo x y = sbinX (binA tt.get op 22 xo yo x y) := sbin2_ref (by kernel_rfl)
@[go_sem] theorem n_sRecord_eql {xo yo : Operand} {a : Option Addr} {n c : Nat} : binA tt.get .eql 22 xo yo (.slice a n c) (.slice none 0 0) = some (.bool (a.isNone)) := by cases a <;> simp [binA, eqA, t_sRecord, ti22]
@[go_sem] theorem n_sRecord_neq {xo yo : Operand} {a : Option Addr} {n c : Nat} : binA tt.get .neq 22 xo yo (.slice a n c) (.slice none 0 0) = some (.bool (!a.isNone)) := by cases a <;> simp [binA, eqA, t_sRecord, ti22]
@[go_sem] theorem t_sint : tt.get 23 = some ti23 := by kernel_rfl
@[go_sem] theorem k_sint : kindOf tt.get 23 = some (.slice 3) := by kernel_rfl
@[go_sem] theorem v_sint {op : BinOp} {xo yo : Operand} {x y : Value} : sbin2 tt.get op 23 xo yo x y = sbinX (binA tt.get op 23 xo yo x y) := sbin2_ref (by kernel_rfl)
@[go_sem] theorem n_sint_eql {xo yo : Operand} {a : Option Addr} {n c : Nat} : binA tt.get .eql 23 xo yo (.slice a n c) (.slice none 0 0) = some (.bool (a.isNone)) := by cases a <;> simp [binA, eqA, t_sint, ti23]
@[go_sem] theorem n_sint_neq {xo yo : Operand} {a : Option Addr} {n c : Nat} : binA tt.get .neq 23 xo yo (.slice a n c) (.slice none 0 0) = some (.bool (!a.isNone)) := by cases a <;> simp [binA, eqA, t_sint, ti23]
@[go_sem] theorem t_sEdge : tt.get 24 = some ti24 := by kernel_rfl
@[go_sem] theorem k_sEdge : kindOf tt.get 24 = some (.slice 32) := by kernel_rfl
@[go_sem] theorem v_sEdge {op : BinOp} {xo yo : Operand} {x y : Value} : sbin2 tt.get op 24 xo yo x y = sbinX (binA tt.get op 24 xo yo x y) := sbin2_ref (by kernel_rfl)
@[go_sem] theorem n_sEdge_eql {xo yo : Operand} {a : Option Addr} {n c : Nat} : binA tt.get .eql 24 xo yo (.slice a n c) (.slice none 0 0) = some (.bool (a.isNone)) := by cases a <;> simp [binA, eqA, t_sEdge, ti24]
@[go_sem] theorem n_sEdge_neq {xo yo : Operand} {a : Option Addr} {n c : Nat} : binA tt.get .neq 24 xo yo (.slice a n c) (.slice none 0 0) = some (.bool (!a.isNone)) := by cases a <;> simp [binA, eqA, t_sEdge, ti24]
@[go_sem] theorem t_Graph : tt.get 26 = some ti26 := by kernel_rfl
@[go_sem] theorem fa_Graph_0 {b o : Nat} : sfieldAddr tt.get 26 (.pointer (some ⟨b, o, none⟩)) 0 = (.pointer (some ⟨b, o, none⟩), True) := by unfold sfieldAddr; rw [show fieldAddrA tt.get 26 (.pointer (some ⟨b, o, none⟩)) 0 = some (.pointer (some ⟨b, o, none⟩)) from by kernel_rfl]
@[go_sem] theorem fa_Graph_1 {b o : Nat} : sfieldAddr tt.get 26 (.pointer (some ⟨b, o, none⟩)) 1 = (.pointer (some ⟨b, o + 1, none⟩), True) := by unfold sfieldAddr; rw [show fieldAddrA tt.get 26 (.pointer (some ⟨b, o, none⟩)) 1 = some (.pointer (some ⟨b, o + 1, none⟩)) from by kernel_rfl]
@[go_sem] theorem t_Errno : tt.get 27 = some ti27 := by kernel_rfl
@[go_sem] theorem k_Errno : kindOf tt.get 27 = some (.int .i64) := by kernel_rfl
@[go_sem] theorem v_Errno {op : BinOp} {xo yo : Operand} {x y : Value} : sbin2 tt.get op 27 xo yo x y = sbinI op .i64 x y := sbin2_int k_Errno
@[go_sem] theorem t_Edge : tt.get 32 = some ti32 := by kernel_rfl
theorem fl_Edge : flatOf tt.get 32 = some [.i64, .i64, .i64] := by kernel_rfl
@[go_sem] theorem v_Edge_eql {xo yo : Operand} {x y : Value} : sbin2 tt.get .eql 32 xo yo x y = (.bool (eqNums (aggOf x) (aggOf y)), x = .agg ⟨aggOf x⟩ ∧ y = .agg ⟨aggOf y⟩ ∧ NumsAs [.i64, .i64, .i64] (aggOf x) ∧ NumsAs [.i64, .i64, .i64] (aggOf y)) := sbin2_flat_eql fl_Edge
@[go_sem] theorem v_Edge_neq {xo yo : Operand} {x y : Value} : sbin2 tt.get .neq 32 xo yo x y = (.bool (!eqNums (aggOf x) (aggOf y)), x = .agg ⟨aggOf x⟩ ∧ y = .agg ⟨aggOf y⟩ ∧ NumsAs [.i64, .i64, .i64] (aggOf x) ∧ NumsAs [.i64, .i64, .i64] (aggOf y)) := sbin2_flat_neq fl_Edge
@[go_sem] theorem fa_Edge_0 {b o : Nat} : sfieldAddr tt.get 32 (.pointer (some ⟨b, o, none⟩)) 0 = (.pointer (some ⟨b, o, none⟩), True) := by unfold sfieldAddr; rw [show fieldAddrA tt.get 32 (.pointer (some ⟨b, o, none⟩)) 0 = some (.pointer (some ⟨b, o, none⟩)) from by kernel_rfl]
@[go_sem] theorem fa_Edge_1 {b o : Nat} : sfieldAddr tt.get 32 (.pointer (some ⟨b, o, none⟩)) 1 = (.pointer (some ⟨b, o + 1, none⟩), True) := by unfold sfieldAddr; rw [show fieldAddrA tt.get 32 (.pointer (some ⟨b, o, none⟩)) 1 = some (.pointer (some ⟨b, o + 1, none⟩)) from by kernel_rfl]
@[go_sem] theorem fa_Edge_2 {b o : Nat} : sfieldAddr tt.get 32 (.pointer (some ⟨b, o, none⟩)) 2 = (.pointer (some ⟨b, o + 2, none⟩), True) := by unfold sfieldAddr; rw [show fieldAddrA tt.get 32 (.pointer (some ⟨b, o, none⟩)) 2 = some (.pointer (some ⟨b, o + 2, none⟩)) from by kernel_rfl]
@[go_sem] theorem t_uint32 : tt.get 36 = some ti36 := by kernel_rfl
@[go_sem] theorem k_uint32 : kindOf tt.get 36 = some (.int .u32) := by kernel_rfl
@[go_sem] theorem v_uint32 {op : BinOp} {xo yo : Operand} {x y : Value} : sbin2 tt.get op 36 xo yo x y = sbinI op .u32 x y := sbin2_int k_uint32
@[go_sem] theorem t_sAdj : tt.get 37 = some ti37 := by kernel_rfl
@[go_sem] theorem k_sAdj : kindOf tt.get 37 = some (.slice 41) := by kernel_rfl
@[go_sem] theorem v_sAdj {op : BinOp} {xo yo : Operand} {x y : Value} : sbin2 tt.get op 37 xo yo x y = sbinX (binA tt.get op 37 xo yo x y) := sbin2_ref (by kernel_rfl)
@[go_sem] theorem n_sAdj_eql {xo yo : Operand} {a : Option Addr} {n c : Nat} : binA tt.get .eql 37 xo yo (.slice a n c) (.slice none 0 0) = some (.bool (a.isNone)) := by cases a <;> simp [binA, eqA, t_sAdj, ti37]
@[go_sem] theorem n_sAdj_neq {xo yo : Operand} {a : Option Addr} {n c : Nat} : binA tt.get .neq 37 xo yo (.slice a n c) (.slice none 0 0) = some (.bool (!a.isNone)) := by cases a <;> simp [binA, eqA, t_sAdj, ti37]
@[go_sem] theorem t_Record : tt.get 39 = some ti39 := by kernel_rfl
@[go_sem] theorem fa_Record_0 {b o : Nat} : sfieldAddr tt.get 39 (.pointer (some ⟨b, o, none⟩)) 0 = (.pointer (some ⟨b, o, none⟩), True) := by unfold sfieldAddr; rw [show fieldAddrA tt.get 39 (.pointer (some ⟨b, o, none⟩)) 0 = some (.pointer (some ⟨b, o, none⟩)) from by kernel_rfl]
@[go_sem] theorem fa_Record_1 {b o : Nat} : sfieldAddr tt.get 39 (.pointer (some ⟨b, o, none⟩)) 1 = (.pointer (some ⟨b, o + 1, none⟩), True) := by unfold sfieldAddr; rw [show fieldAddrA tt.get 39 (.pointer (some ⟨b, o, none⟩)) 1 = some (.pointer (some ⟨b, o + 1, none⟩)) from by kernel_rfl]
@[go_sem] theorem fa_Record_2 {b o : Nat} : sfieldAddr tt.get 39 (.pointer (some ⟨b, o, none⟩)) 2 = (.pointer (some ⟨b, o + 2, none⟩), True) := by unfold sfieldAddr; rw [show fieldAddrA tt.get 39 (.pointer (some ⟨b, o, none⟩)) 2 = some (.pointer (some ⟨b, o + 2, none⟩)) from by kernel_rfl]
@[go_sem] theorem fa_Record_3 {b o : Nat} : sfieldAddr tt.get 39 (.pointer (some ⟨b, o, none⟩)) 3 = (.pointer (some ⟨b, o + 3, none⟩), True) := by unfold sfieldAddr; rw [show fieldAddrA tt.get 39 (.pointer (some ⟨b, o, none⟩)) 3 = some (.pointer (some ⟨b, o + 3, none⟩)) from by kernel_rfl]
@[go_sem] theorem fa_Record_4 {b o : Nat} : sfieldAddr tt.get 39 (.pointer (some ⟨b, o, none⟩)) 4 = (.pointer (some ⟨b, o + 4, none⟩), True) := by unfold sfieldAddr; rw [show fieldAddrA tt.get 39 (.pointer (some ⟨b, o, none⟩)) 4 = some (.pointer (some ⟨b, o + 4, none⟩)) from by kernel_rfl]
@[go_sem] theorem fa_Record_5 {b o : Nat} : sfieldAddr tt.get 39 (.pointer (some ⟨b, o, none⟩)) 5 = (.pointer (some ⟨b, o + 5, none⟩), True) := by unfold sfieldAddr; rw [show fieldAddrA tt.get 39 (.pointer (some ⟨b, o, none⟩)) 5 = some (.pointer (some ⟨b, o + 5, none⟩)) from by kernel_rfl]
@[go_sem] theorem t_Adj : tt.get 41 = some ti41 := by kernel_rfl
theorem fl_Adj : flatOf tt.get 41 = some [.i64, .i64] := by kernel_rfl
@[go_sem] theorem v_Adj_eql {xo yo : Operand} {x y : Value} : sbin2 tt.get .eql 41 xo yo x y = (.bool (eqNums (aggOf x) (aggOf y)), x = .agg ⟨aggOf x⟩ ∧ y = .agg ⟨aggOf y⟩ ∧ NumsAs [.i64, .i64] (aggOf x) ∧ NumsAs [.i64, .i64] (aggOf y)) := sbin2_flat_eql fl_Adj
@[go_sem] theorem v_Adj_neq {xo yo : Operand} {x y : Value} : sbin2 tt.get .neq 41 xo yo x y = (.bool (!eqNums (aggOf x) (aggOf y)), x = .agg ⟨aggOf x⟩ ∧ y = .agg ⟨aggOf y⟩ ∧ NumsAs [.i64, .i64] (aggOf x) ∧ NumsAs [.i64, .i64] (aggOf y)) := sbin2_flat_neq fl_Adj
@[go_sem] theorem fa_Adj_0 {b o : Nat} : sfieldAddr tt.get 41 (.pointer (some ⟨b, o, none⟩)) 0 = (.pointer (some ⟨b, o, none⟩), True) := by unfold sfieldAddr; rw [show fieldAddrA tt.get 41 (.pointer (some ⟨b, o, none⟩)) 0 = some (.pointer (some ⟨b, o, none⟩)) from by kernel_rfl]
@[go_sem] theorem fa_Adj_1 {b o : Nat} : sfieldAddr tt.get 41 (.pointer (some ⟨b, o, none⟩)) 1 = (.pointer (some ⟨b, o + 1, none⟩), True) := by unfold sfieldAddr; rw [show fieldAddrA tt.get 41 (.pointer (some ⟨b, o, none⟩)) 1 = some (.pointer (some ⟨b, o + 1, none⟩)) from by kernel_rfl]
@[go_sem] theorem t_sLink : tt.get 53 = some ti53 := by kernel_rfl
@[go_sem] theorem k_sLink : kindOf tt.get 53 = some (.slice 56) := by kernel_rfl
@[go_sem] theorem v_sLink {op : BinOp} {xo yo : Operand} {x y : Value} : sbin2 tt.get op 53 xo yo x y = sbinX (binA tt.get op 53 xo yo x y) := sbin2_ref (by kernel_rfl)
@[go_sem] theorem n_sLink_eql {xo yo : Operand} {a : Option Addr} {n c : Nat} : binA tt.get .eql 53 xo yo (.slice a n c) (.slice none 0 0) = some (.bool (a.isNone)) := by cases a <;> simp [binA, eqA, t_sLink, ti53]
@[go_sem] theorem n_sLink_neq {xo yo : Operand} {a : Option Addr} {n c : Nat} : binA tt.get .neq 53 xo yo (.slice a n c) (.slice none 0 0) = some (.bool (!a.isNone)) := by cases a <;> simp [binA, eqA, t_sLink, ti53]
@[go_sem] theorem t_Link : tt.get 56 = some ti56 := by kernel_rfl
theorem fl_Link : flatOf tt.get 56 = some [.i64, .i64, .i64] := by kernel_rfl
@[go_sem] theorem v_Link_eql {xo yo : Operand} {x y : Value} : sbin2 tt.get .eql 56 xo yo x y = (.bool (eqNums (aggOf x) (aggOf y)), x = .agg ⟨aggOf x⟩ ∧ y = .agg ⟨aggOf y⟩ ∧ NumsAs [.i64, .i64, .i64] (aggOf x) ∧ NumsAs [.i64, .i64, .i64] (aggOf y)) := sbin2_flat_eql fl_Link
@[go_sem] theorem v_Link_neq {xo yo : Operand} {x y : Value} : sbin2 tt.get .neq 56 xo yo x y = (.bool (!eqNums (aggOf x) (aggOf y)), x = .agg ⟨aggOf x⟩ ∧ y = .agg ⟨aggOf y⟩ ∧ NumsAs [.i64, .i64, .i64] (aggOf x) ∧ NumsAs [.i64, .i64, .i64] (aggOf y)) := sbin2_flat_neq fl_Link
@[go_sem] theorem fa_Link_0 {b o : Nat} : sfieldAddr tt.get 56 (.pointer (some ⟨b, o, none⟩)) 0 = (.pointer (some ⟨b, o, none⟩), True) := by unfold sfieldAddr; rw [show fieldAddrA tt.get 56 (.pointer (some ⟨b, o, none⟩)) 0 = some (.pointer (some ⟨b, o, none⟩)) from by kernel_rfl]
@[go_sem] theorem fa_Link_1 {b o : Nat} : sfieldAddr tt.get 56 (.pointer (some ⟨b, o, none⟩)) 1 = (.pointer (some ⟨b, o + 1, none⟩), True) := by unfold sfieldAddr; rw [show fieldAddrA tt.get 56 (.pointer (some ⟨b, o, none⟩)) 1 = some (.pointer (some ⟨b, o + 1, none⟩)) from by kernel_rfl]
@[go_sem] theorem fa_Link_2 {b o : Nat} : sfieldAddr tt.get 56 (.pointer (some ⟨b, o, none⟩)) 2 = (.pointer (some ⟨b, o + 2, none⟩), True) := by unfold sfieldAddr; rw [show fieldAddrA tt.get 56 (.pointer (some ⟨b, o, none⟩)) 2 = some (.pointer (some ⟨b, o + 2, none⟩)) from by kernel_rfl]
@[go_sem] theorem t_sGraph : tt.get 60 = some ti60 := by kernel_rfl
@[go_sem] theorem k_sGraph : kindOf tt.get 60 = some (.slice 26) := by kernel_rfl
@[go_sem] theorem v_sGraph {op : BinOp} {xo yo : Operand} {x y : Value} : sbin2 tt.get op 60 xo yo x y = sbinX (binA tt.get op 60 xo yo x y) := sbin2_ref (by kernel_rfl)
@[go_sem] theorem n_sGraph_eql {xo yo : Operand} {a : Option Addr} {n c : Nat} : binA tt.get .eql 60 xo yo (.slice a n c) (.slice none 0 0) = some (.bool (a.isNone)) := by cases a <;> simp [binA, eqA, t_sGraph, ti60]
@[go_sem] theorem n_sGraph_neq {xo yo : Operand} {a : Option Addr} {n c : Nat} : binA tt.get .neq 60 xo yo (.slice a n c) (.slice none 0 0) = some (.bool (!a.isNone)) := by cases a <;> simp [binA, eqA, t_sGraph, ti60]
@[go_sem] theorem t_a25int : tt.get 61 = some ti61 := by kernel_rfl
@[go_sem] theorem k_a25int : kindOf tt.get 61 = some (.array 25 3) := by kernel_rfl
@[go_sem] theorem t_square : tt.get 63 = some ti63 := by kernel_rfl
@[go_sem] theorem k_square : kindOf tt.get 63 = some (.array 25 61) := by kernel_rfl
@[go_sem] theorem t_a25bool : tt.get 64 = some ti64 := by kernel_rfl
@[go_sem] theorem k_a25bool : kindOf tt.get 64 = some (.array 25 4) := by kernel_rfl
@[go_sem] theorem t_t69 : tt.get 69 = some ti69 := by kernel_rfl
@[go_sem] theorem v_t69 {op : BinOp} {xo yo : Operand} {x y : Value} : sbin2 tt.get op 69 xo yo x y = sbinX (binA tt.get op 69 xo yo x y) := sbin2_ref (by kernel_rfl)
@[go_sem] theorem n_t69_eql {xo yo : Operand} : binA tt.get .eql 69 xo yo .nilFunc .nilFunc = some (.bool true) := by simp [binA, eqA, t_t69, ti69]
@[go_sem] theorem m_t69_eql {xo yo : Operand} {f : Fn} {x y : Array Value} : binA tt.get .eql 69 xo yo (.func f x y) .nilFunc = some (.bool (!true)) := by simp [binA, eqA, t_t69, ti69]
@[go_sem] theorem n_t69_neq {xo yo : Operand} : binA tt.get .neq 69 xo yo .nilFunc .nilFunc = some (.bool false) := by simp [binA, eqA, t_t69, ti69]
@[go_sem] theorem m_t69_neq {xo yo : Operand} {f : Fn} {x y : Array Value} : binA tt.get .neq 69 xo yo (.func f x y) .nilFunc = some (.bool (!false)) := by simp [binA, eqA, t_t69, ti69]
@[go_sem] theorem t_sbool : tt.get 70 = some ti70 := by kernel_rfl
@[go_sem] theorem k_sbool : kindOf tt.get 70 = some (.slice 4) := by kernel_rfl
@[go_sem] theorem v_sbool {op : BinOp} {xo yo : Operand} {x y : Value} : sbin2 tt.get op 70 xo yo x y = sbinX (binA tt.get op 70 xo yo x y) := sbin2_ref (by kernel_rfl)
@[go_sem] theorem n_sbool_eql {xo yo : Operand} {a : Option Addr} {n c : Nat} : binA tt.get .eql 70 xo yo (.slice a n c) (.slice none 0 0) = some (.bool (a.isNone)) := by cases a <;> simp [binA, eqA, t_sbool, ti70]
@[go_sem] theorem n_sbool_neq {xo yo : Operand} {a : Option Addr} {n c : Nat} : binA tt.get .neq 70 xo yo (.slice a n c) (.slice none 0 0) = some (.bool (!a.isNone)) := by cases a <;> simp [binA, eqA, t_sbool, ti70]
def e_int : Enc (Int) := ⟨fun a => [.int .i64 (a)], fun l => intOf ((l[0]?).getD undef), 1, fun _ => rfl, fun _ => rfl, fun _ => rfl⟩
instance : e_int.Plain := ⟨fun _ _ => rfl⟩
@[go_sem] theorem en_int (a : Int) : e_int.enc a = [.int .i64 (a)] := rfl
@[go_sem] theorem de_int (l : List Value) : e_int.dec l = intOf ((l[0]?).getD undef) := rfl
def e_bool : Enc (Bool) := ⟨fun a => [.bool (a)], fun l => boolOf ((l[0]?).getD undef), 1, fun _ => rfl, fun _ => rfl, fun _ => rfl⟩
instance : e_bool.Plain := ⟨fun _ _ => rfl⟩
@[go_sem] theorem en_bool (a : Bool) : e_bool.enc a = [.bool (a)] := rfl
@[go_sem] theorem de_bool (l : List Value) : e_bool.dec l = boolOf ((l[0]?).getD undef) := rfl
structure T_Graph where
  Nodes : SRef
  Edges : SRef
instance : Inhabited T_Graph := ⟨⟨.nil, .nil⟩⟩
instance : DecidableEq T_Graph := fun a b => decidable_of_iff (a.Nodes = b.Nodes ∧ a.Edges = b.Edges) (by cases a; cases b; simp)
def e_Graph : Enc (T_Graph) := ⟨fun a => [(a.Nodes).v, (a.Edges).v], fun l => ⟨refOf ((l[0]?).getD undef), refOf ((l[1]?).getD undef)⟩, 2, fun a => by cases a; simp [refOf_v], fun _ => rfl, fun _ => by simp [oneCells, SRef.oc, oc_int, oc_bool, oc_str]⟩
instance : e_Graph.Ra := ⟨fun ρ a => { a with Nodes := a.Nodes.ra ρ, Edges := a.Edges.ra ρ }, fun ρ a => by simp [e_Graph, renL, ren, ren_ref]⟩
theorem ra_Graph (ρ : Nat → Nat) (a : T_Graph) : Enc.Ra.ra (E := e_Graph) ρ a = { a with Nodes := a.Nodes.ra ρ, Edges := a.Edges.ra ρ } := rfl
@[go_sem] theorem en_Graph (a : T_Graph) : e_Graph.enc a = [(a.Nodes).v, (a.Edges).v] := rfl
@[go_sem] theorem mk_Graph (a : T_Graph) : T_Graph.mk a.Nodes a.Edges = a := rfl
@[go_sem] theorem de_Graph (l : List Value) : e_Graph.dec l = ⟨refOf ((l[0]?).getD undef), refOf ((l[1]?).getD undef)⟩ := rfl
def e_Errno : Enc (Int) := ⟨fun a => [.int .i64 (a)], fun l => intOf ((l[0]?).getD undef), 1, fun _ => rfl, fun _ => rfl, fun _ => rfl⟩
instance : e_Errno.Plain := ⟨fun _ _ => rfl⟩
@[go_sem] theorem en_Errno (a : Int) : e_Errno.enc a = [.int .i64 (a)] := rfl
@[go_sem] theorem de_Errno (l : List Value) : e_Errno.dec l = intOf ((l[0]?).getD undef) := rfl
structure T_Edge where
  From : Int
  To : Int
  Cost : Int
instance : Inhabited T_Edge := ⟨⟨0, 0, 0⟩⟩
instance : DecidableEq T_Edge := fun a b => decidable_of_iff (a.From = b.From ∧ a.To = b.To ∧ a.Cost = b.Cost) (by cases a; cases b; simp)
def e_Edge : Enc (T_Edge) := ⟨fun a => [.int .i64 (a.From), .int .i64 (a.To), .int .i64 (a.Cost)], fun l => ⟨intOf ((l[0]?).getD undef), intOf ((l[1]?).getD undef), intOf ((l[2]?).getD undef)⟩, 3, fun _ => rfl, fun _ => rfl, fun _ => rfl⟩
instance : e_Edge.Plain := ⟨fun _ _ => rfl⟩
@[go_sem] theorem en_Edge (a : T_Edge) : e_Edge.enc a = [.int .i64 (a.From), .int .i64 (a.To), .int .i64 (a.Cost)] := rfl
@[go_sem] theorem mk_Edge (a : T_Edge) : T_Edge.mk a.From a.To a.Cost = a := rfl
@[go_sem] theorem de_Edge (l : List Value) : e_Edge.dec l = ⟨intOf ((l[0]?).getD undef), intOf ((l[1]?).getD undef), intOf ((l[2]?).getD undef)⟩ := rfl
def e_uint32 : Enc (Int) := ⟨fun a => [.int .u32 (a)], fun l => intOf ((l[0]?).getD undef), 1, fun _ => rfl, fun _ => rfl, fun _ => rfl⟩
instance : e_uint32.Plain := ⟨fun _ _ => rfl⟩
@[go_sem] theorem en_uint32 (a : Int) : e_uint32.enc a = [.int .u32 (a)] := rfl
@[go_sem] theorem de_uint32 (l : List Value) : e_uint32.dec l = intOf ((l[0]?).getD undef) := rfl
structure T_Record where
  Origin : Int
  Epoch : Int
  Seq : Int
  Claim : Int
  Ingress : Bool
  Adjs : SRef
instance : Inhabited T_Record := ⟨⟨0, 0, 0, 0, false, .nil⟩⟩
instance : DecidableEq T_Record := fun a b => decidable_of_iff (a.Origin = b.Origin ∧ a.Epoch = b.Epoch ∧ a.Seq = b.Seq ∧ a.Claim = b.Claim ∧ a.Ingress = b.Ingress ∧ a.Adjs = b.Adjs) (by cases a; cases b; simp)
def e_Record : Enc (T_Record) := ⟨fun a => [.int .i64 (a.Origin), .int .u32 (a.Epoch), .int .u32 (a.Seq), .int .i64 (a.Claim), .bool (a.Ingress), (a.Adjs).v], fun l => ⟨intOf ((l[0]?).getD undef), intOf ((l[1]?).getD undef), intOf ((l[2]?).getD undef), intOf ((l[3]?).getD undef), boolOf ((l[4]?).getD undef), refOf ((l[5]?).getD undef)⟩, 6, fun a => by cases a; simp [refOf_v], fun _ => rfl, fun _ => by simp [oneCells, SRef.oc, oc_int, oc_bool, oc_str]⟩
instance : e_Record.Ra := ⟨fun ρ a => { a with Adjs := a.Adjs.ra ρ }, fun ρ a => by simp [e_Record, renL, ren, ren_ref]⟩
theorem ra_Record (ρ : Nat → Nat) (a : T_Record) : Enc.Ra.ra (E := e_Record) ρ a = { a with Adjs := a.Adjs.ra ρ } := rfl
@[go_sem] theorem en_Record (a : T_Record) : e_Record.enc a = [.int .i64 (a.Origin), .int .u32 (a.Epoch), .int .u32 (a.Seq), .int .i64 (a.Claim), .bool (a.Ingress), (a.Adjs).v] := rfl
@[go_sem] theorem mk_Record (a : T_Record) : T_Record.mk a.Origin a.Epoch a.Seq a.Claim a.Ingress a.Adjs = a := rfl
@[go_sem] theorem de_Record (l : List Value) : e_Record.dec l = ⟨intOf ((l[0]?).getD undef), intOf ((l[1]?).getD undef), intOf ((l[2]?).getD undef), intOf ((l[3]?).getD undef), boolOf ((l[4]?).getD undef), refOf ((l[5]?).getD undef)⟩ := rfl
structure T_Adj where
  To : Int
  Cost : Int
instance : Inhabited T_Adj := ⟨⟨0, 0⟩⟩
instance : DecidableEq T_Adj := fun a b => decidable_of_iff (a.To = b.To ∧ a.Cost = b.Cost) (by cases a; cases b; simp)
def e_Adj : Enc (T_Adj) := ⟨fun a => [.int .i64 (a.To), .int .i64 (a.Cost)], fun l => ⟨intOf ((l[0]?).getD undef), intOf ((l[1]?).getD undef)⟩, 2, fun _ => rfl, fun _ => rfl, fun _ => rfl⟩
instance : e_Adj.Plain := ⟨fun _ _ => rfl⟩
@[go_sem] theorem en_Adj (a : T_Adj) : e_Adj.enc a = [.int .i64 (a.To), .int .i64 (a.Cost)] := rfl
@[go_sem] theorem mk_Adj (a : T_Adj) : T_Adj.mk a.To a.Cost = a := rfl
@[go_sem] theorem de_Adj (l : List Value) : e_Adj.dec l = ⟨intOf ((l[0]?).getD undef), intOf ((l[1]?).getD undef)⟩ := rfl
structure T_Link where
  A : Int
  B : Int
  Cost : Int
instance : Inhabited T_Link := ⟨⟨0, 0, 0⟩⟩
instance : DecidableEq T_Link := fun a b => decidable_of_iff (a.A = b.A ∧ a.B = b.B ∧ a.Cost = b.Cost) (by cases a; cases b; simp)
def e_Link : Enc (T_Link) := ⟨fun a => [.int .i64 (a.A), .int .i64 (a.B), .int .i64 (a.Cost)], fun l => ⟨intOf ((l[0]?).getD undef), intOf ((l[1]?).getD undef), intOf ((l[2]?).getD undef)⟩, 3, fun _ => rfl, fun _ => rfl, fun _ => rfl⟩
instance : e_Link.Plain := ⟨fun _ _ => rfl⟩
@[go_sem] theorem en_Link (a : T_Link) : e_Link.enc a = [.int .i64 (a.A), .int .i64 (a.B), .int .i64 (a.Cost)] := rfl
@[go_sem] theorem mk_Link (a : T_Link) : T_Link.mk a.A a.B a.Cost = a := rfl
@[go_sem] theorem de_Link (l : List Value) : e_Link.dec l = ⟨intOf ((l[0]?).getD undef), intOf ((l[1]?).getD undef), intOf ((l[2]?).getD undef)⟩ := rfl
section
theorem len_sRecord {hp : Hp} {v : Value} {l : List (T_Record)} (h : SlT e_Record hp v l) {hp' : Hp} : slen tt.get hp' 22 v = (.int .i64 (l.length : Int), True) := h.len_any k_sRecord
theorem idx_sRecord {hp : Hp} {v : Value} {l : List (T_Record)} (h : SlT e_Record hp v l) {k : IntKind} {n : Int} (h0 : 0 ≤ n) (h1 : n < l.length) : sindexAddr tt.get 22 v (.int k n) = (ptrS v (n.toNat * 6), True) := h.idx k_sRecord t_Record rfl h0 h1
theorem ld_sRecord {hp : Hp} {v : Value} {l : List (T_Record)} (h : SlT e_Record hp v l) {i : Nat} (hi : i < l.length) : sload tt.get hp 39 (ptrS v (i * 6)) = (.agg ⟨e_Record.enc (at' l i)⟩, True) := h.load t_Record rfl rfl hi
theorem sf_sRecord_0 {hp : Hp} {v : Value} {l : List (T_Record)} (h : SlT e_Record hp v l) {i : Nat} (hi : i < l.length) : sfieldAddr tt.get 39 (ptrS v (i * 6)) 0 = (ptrS v (i * 6), True) := h.field hi (d := 0) (fun b o => (by kernel_rfl : fieldAddrA tt.get 39 (.pointer (some ⟨b, o, none⟩)) 0 = some (.pointer (some ⟨b, o + 0, none⟩))))
theorem sc_sRecord_0 {hp : Hp} {v : Value} {l : List (T_Record)} (h : SlT e_Record hp v l) {i : Nat} (hi : i < l.length) : sload tt.get hp 3 (ptrS v (i * 6)) = (.int .i64 ((at' l i).Origin), True) := h.cell (f := 0) t_int rfl hi (by decide)
theorem sf_sRecord_1 {hp : Hp} {v : Value} {l : List (T_Record)} (h : SlT e_Record hp v l) {i : Nat} (hi : i < l.length) : sfieldAddr tt.get 39 (ptrS v (i * 6)) 1 = (ptrS v (i * 6 + 1), True) := h.field hi (d := 1) (fun b o => (by kernel_rfl : fieldAddrA tt.get 39 (.pointer (some ⟨b, o, none⟩)) 1 = some (.pointer (some ⟨b, o + 1, none⟩))))
theorem sc_sRecord_1 {hp : Hp} {v : Value} {l : List (T_Record)} (h : SlT e_Record hp v l) {i : Nat} (hi : i < l.length) : sload tt.get hp 36 (ptrS v (i * 6 + 1)) = (.int .u32 ((at' l i).Epoch), True) := h.cell (f := 1) t_uint32 rfl hi (by decide)
theorem sf_sRecord_2 {hp : Hp} {v : Value} {l : List (T_Record)} (h : SlT e_Record hp v l) {i : Nat} (hi : i < l.length) : sfieldAddr tt.get 39 (ptrS v (i * 6)) 2 = (ptrS v (i * 6 + 2), True) := h.field hi (d := 2) (fun b o => (by kernel_rfl : fieldAddrA tt.get 39 (.pointer (some ⟨b, o, none⟩)) 2 = some (.pointer (some ⟨b, o + 2, none⟩))))
theorem sc_sRecord_2 {hp : Hp} {v : Value} {l : List (T_Record)} (h : SlT e_Record hp v l) {i : Nat} (hi : i < l.length) : sload tt.get hp 36 (ptrS v (i * 6 + 2)) = (.int .u32 ((at' l i).Seq), True) := h.cell (f := 2) t_uint32 rfl hi (by decide)
theorem sf_sRecord_3 {hp : Hp} {v : Value} {l : List (T_Record)} (h : SlT e_Record hp v l) {i : Nat} (hi : i < l.length) : sfieldAddr tt.get 39 (ptrS v (i * 6)) 3 = (ptrS v (i * 6 + 3), True) := h.field hi (d := 3) (fun b o => (by kernel_rfl : fieldAddrA tt.get 39 (.pointer (some ⟨b, o, none⟩)) 3 = some (.pointer (some ⟨b, o + 3, none⟩))))
theorem sc_sRecord_3 {hp : Hp} {v : Value} {l : List (T_Record)} (h : SlT e_Record hp v l) {i : Nat} (hi : i < l.length) : sload tt.get hp 3 (ptrS v (i * 6 + 3)) = (.int .i64 ((at' l i).Claim), True) := h.cell (f := 3) t_int rfl hi (by decide)
theorem sf_sRecord_4 {hp : Hp} {v : Value} {l : List (T_Record)} (h : SlT e_Record hp v l) {i : Nat} (hi : i < l.length) : sfieldAddr tt.get 39 (ptrS v (i * 6)) 4 = (ptrS v (i * 6 + 4), True) := h.field hi (d := 4) (fun b o => (by kernel_rfl : fieldAddrA tt.get 39 (.pointer (some ⟨b, o, none⟩)) 4 = some (.pointer (some ⟨b, o + 4, none⟩))))
theorem sc_sRecord_4 {hp : Hp} {v : Value} {l : List (T_Record)} (h : SlT e_Record hp v l) {i : Nat} (hi : i < l.length) : sload tt.get hp 4 (ptrS v (i * 6 + 4)) = (.bool ((at' l i).Ingress), True) := h.cell (f := 4) t_bool rfl hi (by decide)
theorem sf_sRecord_5 {hp : Hp} {v : Value} {l : List (T_Record)} (h : SlT e_Record hp v l) {i : Nat} (hi : i < l.length) : sfieldAddr tt.get 39 (ptrS v (i * 6)) 5 = (ptrS v (i * 6 + 5), True) := h.field hi (d := 5) (fun b o => (by kernel_rfl : fieldAddrA tt.get 39 (.pointer (some ⟨b, o, none⟩)) 5 = some (.pointer (some ⟨b, o + 5, none⟩))))
theorem sc_sRecord_5 {hp : Hp} {v : Value} {l : List (T_Record)} (h : SlT e_Record hp v l) {i : Nat} (hi : i < l.length) : sload tt.get hp 37 (ptrS v (i * 6 + 5)) = (((at' l i).Adjs).v, True) := h.cell (f := 5) t_sAdj rfl hi (by decide)
theorem sh_sRecord {hp : Hp} {v : Value} {l : List (T_Record)} (h : SlT e_Record hp v l) {k : IntKind} {n : Int} (h0 : 0 ≤ n) (h1 : n ≤ l.length) : sslice tt.get hp 22 v none (some (.int k n)) = (subS 6 v 0 n.toNat, True) := h.slHi k_sRecord t_Record h0 h1
theorem sw_sRecord {hp : Hp} {v : Value} {l : List (T_Record)} (h : SlT e_Record hp v l) {k : IntKind} {n : Int} (h0 : 0 ≤ n) (h1 : n ≤ l.length) : sslice tt.get hp 22 v (some (.int k n)) none = (subL 6 v n.toNat, True) := h.slLo k_sRecord t_Record rfl h0 h1
@[go_sem] theorem ap_sRecord {hp : Hp} {x : Value} {b top : Nat} {l : List (T_Record)} (h : hp b = mkOb e_Record l) (hx : SlP e_Record hp x) (hn : l.length + (e_Record.rd hp x).length ≤ 16777216) : appendA tt.get hp top [22, 22] (mkSl b l) x = some (mkSl top (l ++ e_Record.rd hp x), appU b l top (mkOb e_Record (l ++ e_Record.rd hp x)), top + 1) := appendA_ownP k_sRecord t_sRecord rfl t_Record rfl rfl h hx hn
@[go_sem] theorem apn_sRecord {hp : Hp} {x : Value} {top : Nat} (hx : SlP e_Record hp x) (hn : (e_Record.rd hp x).length ≤ 16777216) : appendA tt.get hp top [22, 22] (.slice none 0 0) x = some (mkSl top (e_Record.rd hp x), [(top, mkOb e_Record (e_Record.rd hp x))], top + 1) := appendA_nilP k_sRecord t_sRecord rfl t_Record rfl rfl hx hn
@[go_sem] theorem ap1r_sRecord {hp : Hp} {b top k : Nat} {l : List (T_Record)} (h : hp b = mkOb e_Record l) (hk : hp k = some (.cells true 6 (cellsOf (hp k)))) (hc : e_Record.enc (e_Record.dec (cellsOf (hp k))) = cellsOf (hp k)) (hn : roomB (l.length + 1) ti39.bytes = true) : appendA tt.get hp top [22, 22] (mkSl b l) (.slice (some ⟨k, 0, none⟩) 1 1) = some (mkSl top (l ++ [e_Record.dec (cellsOf (hp k))]), appU b l top (mkOb e_Record (l ++ [e_Record.dec (cellsOf (hp k))])), top + 1) := appendA_oneCR k_sRecord t_sRecord rfl t_Record rfl rfl h hk hc hn
@[go_sem] theorem apr_sRecord {hp : Hp} {x : Value} {top : Nat} (hx : SlP e_Record hp x) (hn : roomB (e_Record.rd hp x).length ti39.bytes = true) : appendA tt.get hp top [22, 22] (.slice none 0 0) x = some (mkSl top (e_Record.rd hp x), [(top, mkOb e_Record (e_Record.rd hp x))], top + 1) := appendA_nilPb k_sRecord t_sRecord rfl t_Record rfl rfl hx hn
@[go_sem] theorem ap0_sRecord {hp : Hp} {top k : Nat} (hk : hp k = some (.cells true 6 (cellsOf (hp k)))) (hc : e_Record.enc (e_Record.dec (cellsOf (hp k))) = cellsOf (hp k)) : appendA tt.get hp top [22, 22] (.slice none 0 0) (.slice (some ⟨k, 0, none⟩) 1 1) = some (mkSl top [e_Record.dec (cellsOf (hp k))], [(top, mkOb e_Record [e_Record.dec (cellsOf (hp k))])], top + 1) := appendA_zeroC k_sRecord t_sRecord rfl t_Record rfl rfl hk hc
@[go_sem] theorem sa_sRecord {hp : Hp} {b top : Nat} {l l2 : List (T_Record)} (h : hp b = mkOb e_Record l) : hp.sets (appU b l top (mkOb e_Record l2)) = (hp.set b none).set top (mkOb e_Record l2) := sets_appU h
@[go_sem] theorem os_sRecord {hp : Hp} {b : Nat} {l : List (T_Record)} {i : Nat} (h : hp b = mkOb e_Record l) (hi : i < l.length) {a0 : Int} {a1 : Int} {a2 : Int} {a3 : Int} {a4 : Bool} {a5 : Value} (h5 : (refOf a5).v = a5) : sstore tt.get hp 39 (ptrS (mkSl b l) (i * 6)) (.agg ⟨[.int .i64 (a0), .int .u32 (a1), .int .u32 (a2), .int .i64 (a3), .bool (a4), a5]⟩) = ([(b, mkOb e_Record (l.set i ⟨a0, a1, a2, a3, a4, refOf a5⟩))], True) := by
  have e : e_Record.enc ⟨a0, a1, a2, a3, a4, refOf a5⟩ = [.int .i64 (a0), .int .u32 (a1), .int .u32 (a2), .int .i64 (a3), .bool (a4), a5] := by simp only [en_Record, h5]
  have := own_storeA (E := e_Record) (cs := e_Record.enc ⟨a0, a1, a2, a3, a4, refOf a5⟩) t_Record rfl h hi (by rw [e_Record.h]) (e_Record.one _)
  rw [e_Record.h, e] at this
  exact this
@[go_sem] theorem of_sRecord_0 {hp : Hp} {b : Nat} {l : List (T_Record)} {i : Nat} (h : hp b = mkOb e_Record l) (hi : i < l.length) {x : Int} : sstore tt.get hp 3 (ptrS (mkSl b l) (i * 6)) (.int .i64 (x)) = ([(b, mkOb e_Record (l.set i { at' l i with Origin := x }))], True) := own_storeF (f := 0) t_int h hi rfl (by decide) rfl rfl
@[go_sem] theorem of_sRecord_1 {hp : Hp} {b : Nat} {l : List (T_Record)} {i : Nat} (h : hp b = mkOb e_Record l) (hi : i < l.length) {x : Int} : sstore tt.get hp 36 (ptrS (mkSl b l) (i * 6 + 1)) (.int .u32 (x)) = ([(b, mkOb e_Record (l.set i { at' l i with Epoch := x }))], True) := own_storeF (f := 1) t_uint32 h hi rfl (by decide) rfl rfl
@[go_sem] theorem of_sRecord_2 {hp : Hp} {b : Nat} {l : List (T_Record)} {i : Nat} (h : hp b = mkOb e_Record l) (hi : i < l.length) {x : Int} : sstore tt.get hp 36 (ptrS (mkSl b l) (i * 6 + 2)) (.int .u32 (x)) = ([(b, mkOb e_Record (l.set i { at' l i with Seq := x }))], True) := own_storeF (f := 2) t_uint32 h hi rfl (by decide) rfl rfl
@[go_sem] theorem of_sRecord_3 {hp : Hp} {b : Nat} {l : List (T_Record)} {i : Nat} (h : hp b = mkOb e_Record l) (hi : i < l.length) {x : Int} : sstore tt.get hp 3 (ptrS (mkSl b l) (i * 6 + 3)) (.int .i64 (x)) = ([(b, mkOb e_Record (l.set i { at' l i with Claim := x }))], True) := own_storeF (f := 3) t_int h hi rfl (by decide) rfl rfl
@[go_sem] theorem of_sRecord_4 {hp : Hp} {b : Nat} {l : List (T_Record)} {i : Nat} (h : hp b = mkOb e_Record l) (hi : i < l.length) {x : Bool} : sstore tt.get hp 4 (ptrS (mkSl b l) (i * 6 + 4)) (.bool (x)) = ([(b, mkOb e_Record (l.set i { at' l i with Ingress := x }))], True) := own_storeF (f := 4) t_bool h hi rfl (by decide) rfl rfl
@[go_sem] theorem of_sRecord_5 {hp : Hp} {b : Nat} {l : List (T_Record)} {i : Nat} (h : hp b = mkOb e_Record l) (hi : i < l.length) {x : Value} (hx : (refOf x).v = x) : sstore tt.get hp 37 (ptrS (mkSl b l) (i * 6 + 5)) x = ([(b, mkOb e_Record (l.set i { at' l i with Adjs := refOf x }))], True) := by
  have h1 : cellsL x = [x] := by rw [← hx]; exact SRef.cl _
  have h2 : Value.oneCell' x = true := by rw [← hx]; exact SRef.oc _
  exact own_storeF (f := 5) t_sAdj h hi (by unfold cellsOk; rw [h1]; rfl) (by decide) (by rw [h1]; simp [oneCells, h2]) (by rw [h1, en_Record]; simp only [hx]; rfl)
@[go_sem] theorem ow_sRecord {b : Nat} {l : List (T_Record)} {hp2 : Hp} : slen tt.get hp2 22 (mkSl b l) = (.int .i64 (l.length : Int), True) := by cases l with | nil => unfold slen mkSl; simp only [k_sRecord, lenA, t_sRecord, ti22]; rfl | cons a l => unfold slen mkSl; simp only [k_sRecord, lenA, t_sRecord, ti22]; rfl
@[go_sem] theorem ap1_sRecord {hp : Hp} {b top k : Nat} {l : List (T_Record)} (h : hp b = mkOb e_Record l) (hk : hp k = some (.cells true 6 (cellsOf (hp k)))) (hc : e_Record.enc (e_Record.dec (cellsOf (hp k))) = cellsOf (hp k)) (hn : l.length < 16777216) : appendA tt.get hp top [22, 22] (mkSl b l) (.slice (some ⟨k, 0, none⟩) 1 1) = some (mkSl top (l ++ [e_Record.dec (cellsOf (hp k))]), appU b l top (mkOb e_Record (l ++ [e_Record.dec (cellsOf (hp k))])), top + 1) := appendA_oneC k_sRecord t_sRecord rfl t_Record rfl rfl h hk hc hn
end
section
theorem len_sint {hp : Hp} {v : Value} {l : List (Int)} (h : SlT e_int hp v l) {hp' : Hp} : slen tt.get hp' 23 v = (.int .i64 (l.length : Int), True) := h.len_any k_sint
theorem idx_sint {hp : Hp} {v : Value} {l : List (Int)} (h : SlT e_int hp v l) {k : IntKind} {n : Int} (h0 : 0 ≤ n) (h1 : n < l.length) : sindexAddr tt.get 23 v (.int k n) = (ptrS v (n.toNat * 1), True) := h.idx k_sint t_int rfl h0 h1
theorem ld_sint {hp : Hp} {v : Value} {l : List (Int)} (h : SlT e_int hp v l) {i : Nat} (hi : i < l.length) : sload tt.get hp 3 (ptrS v (i * 1)) = (.int .i64 (at' l i), True) := h.cell (f := 0) t_int rfl hi (by decide)
theorem sh_sint {hp : Hp} {v : Value} {l : List (Int)} (h : SlT e_int hp v l) {k : IntKind} {n : Int} (h0 : 0 ≤ n) (h1 : n ≤ l.length) : sslice tt.get hp 23 v none (some (.int k n)) = (subS 1 v 0 n.toNat, True) := h.slHi k_sint t_int h0 h1
theorem sw_sint {hp : Hp} {v : Value} {l : List (Int)} (h : SlT e_int hp v l) {k : IntKind} {n : Int} (h0 : 0 ≤ n) (h1 : n ≤ l.length) : sslice tt.get hp 23 v (some (.int k n)) none = (subL 1 v n.toNat, True) := h.slLo k_sint t_int rfl h0 h1
@[go_sem] theorem ap_sint {hp : Hp} {x : Value} {b top : Nat} {l : List (Int)} (h : hp b = mkOb e_int l) (hx : SlP e_int hp x) (hn : l.length + (e_int.rd hp x).length ≤ 16777216) : appendA tt.get hp top [23, 23] (mkSl b l) x = some (mkSl top (l ++ e_int.rd hp x), appU b l top (mkOb e_int (l ++ e_int.rd hp x)), top + 1) := appendA_ownP k_sint t_sint rfl t_int rfl rfl h hx hn
@[go_sem] theorem apn_sint {hp : Hp} {x : Value} {top : Nat} (hx : SlP e_int hp x) (hn : (e_int.rd hp x).length ≤ 16777216) : appendA tt.get hp top [23, 23] (.slice none 0 0) x = some (mkSl top (e_int.rd hp x), [(top, mkOb e_int (e_int.rd hp x))], top + 1) := appendA_nilP k_sint t_sint rfl t_int rfl rfl hx hn
@[go_sem] theorem ap1r_sint {hp : Hp} {b top k : Nat} {l : List (Int)} (h : hp b = mkOb e_int l) (hk : hp k = some (.cells true 1 (cellsOf (hp k)))) (hc : e_int.enc (e_int.dec (cellsOf (hp k))) = cellsOf (hp k)) (hn : roomB (l.length + 1) ti3.bytes = true) : appendA tt.get hp top [23, 23] (mkSl b l) (.slice (some ⟨k, 0, none⟩) 1 1) = some (mkSl top (l ++ [e_int.dec (cellsOf (hp k))]), appU b l top (mkOb e_int (l ++ [e_int.dec (cellsOf (hp k))])), top + 1) := appendA_oneCR k_sint t_sint rfl t_int rfl rfl h hk hc hn
@[go_sem] theorem apr_sint {hp : Hp} {x : Value} {top : Nat} (hx : SlP e_int hp x) (hn : roomB (e_int.rd hp x).length ti3.bytes = true) : appendA tt.get hp top [23, 23] (.slice none 0 0) x = some (mkSl top (e_int.rd hp x), [(top, mkOb e_int (e_int.rd hp x))], top + 1) := appendA_nilPb k_sint t_sint rfl t_int rfl rfl hx hn
@[go_sem] theorem ap0_sint {hp : Hp} {top k : Nat} (hk : hp k = some (.cells true 1 (cellsOf (hp k)))) (hc : e_int.enc (e_int.dec (cellsOf (hp k))) = cellsOf (hp k)) : appendA tt.get hp top [23, 23] (.slice none 0 0) (.slice (some ⟨k, 0, none⟩) 1 1) = some (mkSl top [e_int.dec (cellsOf (hp k))], [(top, mkOb e_int [e_int.dec (cellsOf (hp k))])], top + 1) := appendA_zeroC k_sint t_sint rfl t_int rfl rfl hk hc
@[go_sem] theorem sa_sint {hp : Hp} {b top : Nat} {l l2 : List (Int)} (h : hp b = mkOb e_int l) : hp.sets (appU b l top (mkOb e_int l2)) = (hp.set b none).set top (mkOb e_int l2) := sets_appU h
@[go_sem] theorem os_sint {hp : Hp} {b : Nat} {l : List (Int)} {i : Nat} (h : hp b = mkOb e_int l) (hi : i < l.length) {x : Int} : sstore tt.get hp 3 (ptrS (mkSl b l) (i * 1)) (.int .i64 (x)) = ([(b, mkOb e_int (l.set i x))], True) := own_storeF (f := 0) t_int h hi rfl (by decide) rfl rfl
@[go_sem] theorem ow_sint {b : Nat} {l : List (Int)} {hp2 : Hp} : slen tt.get hp2 23 (mkSl b l) = (.int .i64 (l.length : Int), True) := by cases l with | nil => unfold slen mkSl; simp only [k_sint, lenA, t_sint, ti23]; rfl | cons a l => unfold slen mkSl; simp only [k_sint, lenA, t_sint, ti23]; rfl
@[go_sem] theorem ap1_sint {hp : Hp} {b top k : Nat} {l : List (Int)} (h : hp b = mkOb e_int l) (hk : hp k = some (.cells true 1 (cellsOf (hp k)))) (hc : e_int.enc (e_int.dec (cellsOf (hp k))) = cellsOf (hp k)) (hn : l.length < 16777216) : appendA tt.get hp top [23, 23] (mkSl b l) (.slice (some ⟨k, 0, none⟩) 1 1) = some (mkSl top (l ++ [e_int.dec (cellsOf (hp k))]), appU b l top (mkOb e_int (l ++ [e_int.dec (cellsOf (hp k))])), top + 1) := appendA_oneC k_sint t_sint rfl t_int rfl rfl h hk hc hn
end
section
theorem len_sEdge {hp : Hp} {v : Value} {l : List (T_Edge)} (h : SlT e_Edge hp v l) {hp' : Hp} : slen tt.get hp' 24 v = (.int .i64 (l.length : Int), True) := h.len_any k_sEdge
theorem idx_sEdge {hp : Hp} {v : Value} {l : List (T_Edge)} (h : SlT e_Edge hp v l) {k : IntKind} {n : Int} (h0 : 0 ≤ n) (h1 : n < l.length) : sindexAddr tt.get 24 v (.int k n) = (ptrS v (n.toNat * 3), True) := h.idx k_sEdge t_Edge rfl h0 h1
theorem ld_sEdge {hp : Hp} {v : Value} {l : List (T_Edge)} (h : SlT e_Edge hp v l) {i : Nat} (hi : i < l.length) : sload tt.get hp 32 (ptrS v (i * 3)) = (.agg ⟨e_Edge.enc (at' l i)⟩, True) := h.load t_Edge rfl rfl hi
theorem sf_sEdge_0 {hp : Hp} {v : Value} {l : List (T_Edge)} (h : SlT e_Edge hp v l) {i : Nat} (hi : i < l.length) : sfieldAddr tt.get 32 (ptrS v (i * 3)) 0 = (ptrS v (i * 3), True) := h.field hi (d := 0) (fun b o => (by kernel_rfl : fieldAddrA tt.get 32 (.pointer (some ⟨b, o, none⟩)) 0 = some (.pointer (some ⟨b, o + 0, none⟩))))
theorem sc_sEdge_0 {hp : Hp} {v : Value} {l : List (T_Edge)} (h : SlT e_Edge hp v l) {i : Nat} (hi : i < l.length) : sload tt.get hp 3 (ptrS v (i * 3)) = (.int .i64 ((at' l i).From), True) := h.cell (f := 0) t_int rfl hi (by decide)
theorem sf_sEdge_1 {hp : Hp} {v : Value} {l : List (T_Edge)} (h : SlT e_Edge hp v l) {i : Nat} (hi : i < l.length) : sfieldAddr tt.get 32 (ptrS v (i * 3)) 1 = (ptrS v (i * 3 + 1), True) := h.field hi (d := 1) (fun b o => (by kernel_rfl : fieldAddrA tt.get 32 (.pointer (some ⟨b, o, none⟩)) 1 = some (.pointer (some ⟨b, o + 1, none⟩))))
theorem sc_sEdge_1 {hp : Hp} {v : Value} {l : List (T_Edge)} (h : SlT e_Edge hp v l) {i : Nat} (hi : i < l.length) : sload tt.get hp 3 (ptrS v (i * 3 + 1)) = (.int .i64 ((at' l i).To), True) := h.cell (f := 1) t_int rfl hi (by decide)
theorem sf_sEdge_2 {hp : Hp} {v : Value} {l : List (T_Edge)} (h : SlT e_Edge hp v l) {i : Nat} (hi : i < l.length) : sfieldAddr tt.get 32 (ptrS v (i * 3)) 2 = (ptrS v (i * 3 + 2), True) := h.field hi (d := 2) (fun b o => (by kernel_rfl : fieldAddrA tt.get 32 (.pointer (some ⟨b, o, none⟩)) 2 = some (.pointer (some ⟨b, o + 2, none⟩))))
theorem sc_sEdge_2 {hp : Hp} {v : Value} {l : List (T_Edge)} (h : SlT e_Edge hp v l) {i : Nat} (hi : i < l.length) : sload tt.get hp 3 (ptrS v (i * 3 + 2)) = (.int .i64 ((at' l i).Cost), True) := h.cell (f := 2) t_int rfl hi (by decide)
theorem sh_sEdge {hp : Hp} {v : Value} {l : List (T_Edge)} (h : SlT e_Edge hp v l) {k : IntKind} {n : Int} (h0 : 0 ≤ n) (h1 : n ≤ l.length) : sslice tt.get hp 24 v none (some (.int k n)) = (subS 3 v 0 n.toNat, True) := h.slHi k_sEdge t_Edge h0 h1
theorem sw_sEdge {hp : Hp} {v : Value} {l : List (T_Edge)} (h : SlT e_Edge hp v l) {k : IntKind} {n : Int} (h0 : 0 ≤ n) (h1 : n ≤ l.length) : sslice tt.get hp 24 v (some (.int k n)) none = (subL 3 v n.toNat, True) := h.slLo k_sEdge t_Edge rfl h0 h1
@[go_sem] theorem ap_sEdge {hp : Hp} {x : Value} {b top : Nat} {l : List (T_Edge)} (h : hp b = mkOb e_Edge l) (hx : SlP e_Edge hp x) (hn : l.length + (e_Edge.rd hp x).length ≤ 16777216) : appendA tt.get hp top [24, 24] (mkSl b l) x = some (mkSl top (l ++ e_Edge.rd hp x), appU b l top (mkOb e_Edge (l ++ e_Edge.rd hp x)), top + 1) := appendA_ownP k_sEdge t_sEdge rfl t_Edge rfl rfl h hx hn
@[go_sem] theorem apn_sEdge {hp : Hp} {x : Value} {top : Nat} (hx : SlP e_Edge hp x) (hn : (e_Edge.rd hp x).length ≤ 16777216) : appendA tt.get hp top [24, 24] (.slice none 0 0) x = some (mkSl top (e_Edge.rd hp x), [(top, mkOb e_Edge (e_Edge.rd hp x))], top + 1) := appendA_nilP k_sEdge t_sEdge rfl t_Edge rfl rfl hx hn
@[go_sem] theorem ap1r_sEdge {hp : Hp} {b top k : Nat} {l : List (T_Edge)} (h : hp b = mkOb e_Edge l) (hk : hp k = some (.cells true 3 (cellsOf (hp k)))) (hc : e_Edge.enc (e_Edge.dec (cellsOf (hp k))) = cellsOf (hp k)) (hn : roomB (l.length + 1) ti32.bytes = true) : appendA tt.get hp top [24, 24] (mkSl b l) (.slice (some ⟨k, 0, none⟩) 1 1) = some (mkSl top (l ++ [e_Edge.dec (cellsOf (hp k))]), appU b l top (mkOb e_Edge (l ++ [e_Edge.dec (cellsOf (hp k))])), top + 1) := appendA_oneCR k_sEdge t_sEdge rfl t_Edge rfl rfl h hk hc hn
@[go_sem] theorem apr_sEdge {hp : Hp} {x : Value} {top : Nat} (hx : SlP e_Edge hp x) (hn : roomB (e_Edge.rd hp x).length ti32.bytes = true) : appendA tt.get hp top [24, 24] (.slice none 0 0) x = some (mkSl top (e_Edge.rd hp x), [(top, mkOb e_Edge (e_Edge.rd hp x))], top + 1) := appendA_nilPb k_sEdge t_sEdge rfl t_Edge rfl rfl hx hn
@[go_sem] theorem ap0_sEdge {hp : Hp} {top k : Nat} (hk : hp k = some (.cells true 3 (cellsOf (hp k)))) (hc : e_Edge.enc (e_Edge.dec (cellsOf (hp k))) = cellsOf (hp k)) : appendA tt.get hp top [24, 24] (.slice none 0 0) (.slice (some ⟨k, 0, none⟩) 1 1) = some (mkSl top [e_Edge.dec (cellsOf (hp k))], [(top, mkOb e_Edge [e_Edge.dec (cellsOf (hp k))])], top + 1) := appendA_zeroC k_sEdge t_sEdge rfl t_Edge rfl rfl hk hc
@[go_sem] theorem sa_sEdge {hp : Hp} {b top : Nat} {l l2 : List (T_Edge)} (h : hp b = mkOb e_Edge l) : hp.sets (appU b l top (mkOb e_Edge l2)) = (hp.set b none).set top (mkOb e_Edge l2) := sets_appU h
@[go_sem] theorem os_sEdge {hp : Hp} {b : Nat} {l : List (T_Edge)} {i : Nat} (h : hp b = mkOb e_Edge l) (hi : i < l.length) {a0 : Int} {a1 : Int} {a2 : Int} : sstore tt.get hp 32 (ptrS (mkSl b l) (i * 3)) (.agg ⟨[.int .i64 (a0), .int .i64 (a1), .int .i64 (a2)]⟩) = ([(b, mkOb e_Edge (l.set i ⟨a0, a1, a2⟩))], True) := own_storeA (E := e_Edge) (cs := e_Edge.enc ⟨a0, a1, a2⟩) t_Edge rfl h hi rfl rfl
@[go_sem] theorem of_sEdge_0 {hp : Hp} {b : Nat} {l : List (T_Edge)} {i : Nat} (h : hp b = mkOb e_Edge l) (hi : i < l.length) {x : Int} : sstore tt.get hp 3 (ptrS (mkSl b l) (i * 3)) (.int .i64 (x)) = ([(b, mkOb e_Edge (l.set i { at' l i with From := x }))], True) := own_storeF (f := 0) t_int h hi rfl (by decide) rfl rfl
@[go_sem] theorem of_sEdge_1 {hp : Hp} {b : Nat} {l : List (T_Edge)} {i : Nat} (h : hp b = mkOb e_Edge l) (hi : i < l.length) {x : Int} : sstore tt.get hp 3 (ptrS (mkSl b l) (i * 3 + 1)) (.int .i64 (x)) = ([(b, mkOb e_Edge (l.set i { at' l i with To := x }))], True) := own_storeF (f := 1) t_int h hi rfl (by decide) rfl rfl
@[go_sem] theorem of_sEdge_2 {hp : Hp} {b : Nat} {l : List (T_Edge)} {i : Nat} (h : hp b = mkOb e_Edge l) (hi : i < l.length) {x : Int} : sstore tt.get hp 3 (ptrS (mkSl b l) (i * 3 + 2)) (.int .i64 (x)) = ([(b, mkOb e_Edge (l.set i { at' l i with Cost := x }))], True) := own_storeF (f := 2) t_int h hi rfl (by decide) rfl rfl
@[go_sem] theorem ow_sEdge {b : Nat} {l : List (T_Edge)} {hp2 : Hp} : slen tt.get hp2 24 (mkSl b l) = (.int .i64 (l.length : Int), True) := by cases l with | nil => unfold slen mkSl; simp only [k_sEdge, lenA, t_sEdge, ti24]; rfl | cons a l => unfold slen mkSl; simp only [k_sEdge, lenA, t_sEdge, ti24]; rfl
@[go_sem] theorem ap1_sEdge {hp : Hp} {b top k : Nat} {l : List (T_Edge)} (h : hp b = mkOb e_Edge l) (hk : hp k = some (.cells true 3 (cellsOf (hp k)))) (hc : e_Edge.enc (e_Edge.dec (cellsOf (hp k))) = cellsOf (hp k)) (hn : l.length < 16777216) : appendA tt.get hp top [24, 24] (mkSl b l) (.slice (some ⟨k, 0, none⟩) 1 1) = some (mkSl top (l ++ [e_Edge.dec (cellsOf (hp k))]), appU b l top (mkOb e_Edge (l ++ [e_Edge.dec (cellsOf (hp k))])), top + 1) := appendA_oneC k_sEdge t_sEdge rfl t_Edge rfl rfl h hk hc hn
end
section
theorem len_sAdj {hp : Hp} {v : Value} {l : List (T_Adj)} (h : SlT e_Adj hp v l) {hp' : Hp} : slen tt.get hp' 37 v = (.int .i64 (l.length : Int), True) := h.len_any k_sAdj
theorem idx_sAdj {hp : Hp} {v : Value} {l : List (T_Adj)} (h : SlT e_Adj hp v l) {k : IntKind} {n : Int} (h0 : 0 ≤ n) (h1 : n < l.length) : sindexAddr tt.get 37 v (.int k n) = (ptrS v (n.toNat * 2), True) := h.idx k_sAdj t_Adj rfl h0 h1
theorem ld_sAdj {hp : Hp} {v : Value} {l : List (T_Adj)} (h : SlT e_Adj hp v l) {i : Nat} (hi : i < l.length) : sload tt.get hp 41 (ptrS v (i * 2)) = (.agg ⟨e_Adj.enc (at' l i)⟩, True) := h.load t_Adj rfl rfl hi
theorem sf_sAdj_0 {hp : Hp} {v : Value} {l : List (T_Adj)} (h : SlT e_Adj hp v l) {i : Nat} (hi : i < l.length) : sfieldAddr tt.get 41 (ptrS v (i * 2)) 0 = (ptrS v (i * 2), True) := h.field hi (d := 0) (fun b o => (by kernel_rfl : fieldAddrA tt.get 41 (.pointer (some ⟨b, o, none⟩)) 0 = some (.pointer (some ⟨b, o + 0, none⟩))))
theorem sc_sAdj_0 {hp : Hp} {v : Value} {l : List (T_Adj)} (h : SlT e_Adj hp v l) {i : Nat} (hi : i < l.length) : sload tt.get hp 3 (ptrS v (i * 2)) = (.int .i64 ((at' l i).To), True) := h.cell (f := 0) t_int rfl hi (by decide)
theorem sf_sAdj_1 {hp : Hp} {v : Value} {l : List (T_Adj)} (h : SlT e_Adj hp v l) {i : Nat} (hi : i < l.length) : sfieldAddr tt.get 41 (ptrS v (i * 2)) 1 = (ptrS v (i * 2 + 1), True) := h.field hi (d := 1) (fun b o => (by kernel_rfl : fieldAddrA tt.get 41 (.pointer (some ⟨b, o, none⟩)) 1 = some (.pointer (some ⟨b, o + 1, none⟩))))
theorem sc_sAdj_1 {hp : Hp} {v : Value} {l : List (T_Adj)} (h : SlT e_Adj hp v l) {i : Nat} (hi : i < l.length) : sload tt.get hp 3 (ptrS v (i * 2 + 1)) = (.int .i64 ((at' l i).Cost), True) := h.cell (f := 1) t_int rfl hi (by decide)
theorem sh_sAdj {hp : Hp} {v : Value} {l : List (T_Adj)} (h : SlT e_Adj hp v l) {k : IntKind} {n : Int} (h0 : 0 ≤ n) (h1 : n ≤ l.length) : sslice tt.get hp 37 v none (some (.int k n)) = (subS 2 v 0 n.toNat, True) := h.slHi k_sAdj t_Adj h0 h1
theorem sw_sAdj {hp : Hp} {v : Value} {l : List (T_Adj)} (h : SlT e_Adj hp v l) {k : IntKind} {n : Int} (h0 : 0 ≤ n) (h1 : n ≤ l.length) : sslice tt.get hp 37 v (some (.int k n)) none = (subL 2 v n.toNat, True) := h.slLo k_sAdj t_Adj rfl h0 h1
@[go_sem] theorem ap_sAdj {hp : Hp} {x : Value} {b top : Nat} {l : List (T_Adj)} (h : hp b = mkOb e_Adj l) (hx : SlP e_Adj hp x) (hn : l.length + (e_Adj.rd hp x).length ≤ 16777216) : appendA tt.get hp top [37, 37] (mkSl b l) x = some (mkSl top (l ++ e_Adj.rd hp x), appU b l top (mkOb e_Adj (l ++ e_Adj.rd hp x)), top + 1) := appendA_ownP k_sAdj t_sAdj rfl t_Adj rfl rfl h hx hn
@[go_sem] theorem apn_sAdj {hp : Hp} {x : Value} {top : Nat} (hx : SlP e_Adj hp x) (hn : (e_Adj.rd hp x).length ≤ 16777216) : appendA tt.get hp top [37, 37] (.slice none 0 0) x = some (mkSl top (e_Adj.rd hp x), [(top, mkOb e_Adj (e_Adj.rd hp x))], top + 1) := appendA_nilP k_sAdj t_sAdj rfl t_Adj rfl rfl hx hn
@[go_sem] theorem ap1r_sAdj {hp : Hp} {b top k : Nat} {l : List (T_Adj)} (h : hp b = mkOb e_Adj l) (hk : hp k = some (.cells true 2 (cellsOf (hp k)))) (hc : e_Adj.enc (e_Adj.dec (cellsOf (hp k))) = cellsOf (hp k)) (hn : roomB (l.length + 1) ti41.bytes = true) : appendA tt.get hp top [37, 37] (mkSl b l) (.slice (some ⟨k, 0, none⟩) 1 1) = some (mkSl top (l ++ [e_Adj.dec (cellsOf (hp k))]), appU b l top (mkOb e_Adj (l ++ [e_Adj.dec (cellsOf (hp k))])), top + 1) := appendA_oneCR k_sAdj t_sAdj rfl t_Adj rfl rfl h hk hc hn
@[go_sem] theorem apr_sAdj {hp : Hp} {x : Value} {top : Nat} (hx : SlP e_Adj hp x) (hn : roomB (e_Adj.rd hp x).length ti41.bytes = true) : appendA tt.get hp top [37, 37] (.slice none 0 0) x = some (mkSl top (e_Adj.rd hp x), [(top, mkOb e_Adj (e_Adj.rd hp x))], top + 1) := appendA_nilPb k_sAdj t_sAdj rfl t_Adj rfl rfl hx hn
@[go_sem] theorem ap0_sAdj {hp : Hp} {top k : Nat} (hk : hp k = some (.cells true 2 (cellsOf (hp k)))) (hc : e_Adj.enc (e_Adj.dec (cellsOf (hp k))) = cellsOf (hp k)) : appendA tt.get hp top [37, 37] (.slice none 0 0) (.slice (some ⟨k, 0, none⟩) 1 1) = some (mkSl top [e_Adj.dec (cellsOf (hp k))], [(top, mkOb e_Adj [e_Adj.dec (cellsOf (hp k))])], top + 1) := appendA_zeroC k_sAdj t_sAdj rfl t_Adj rfl rfl hk hc
@[go_sem] theorem sa_sAdj {hp : Hp} {b top : Nat} {l l2 : List (T_Adj)} (h : hp b = mkOb e_Adj l) : hp.sets (appU b l top (mkOb e_Adj l2)) = (hp.set b none).set top (mkOb e_Adj l2) := sets_appU h
@[go_sem] theorem os_sAdj {hp : Hp} {b : Nat} {l : List (T_Adj)} {i : Nat} (h : hp b = mkOb e_Adj l) (hi : i < l.length) {a0 : Int} {a1 : Int} : sstore tt.get hp 41 (ptrS (mkSl b l) (i * 2)) (.agg ⟨[.int .i64 (a0), .int .i64 (a1)]⟩) = ([(b, mkOb e_Adj (l.set i ⟨a0, a1⟩))], True) := own_storeA (E := e_Adj) (cs := e_Adj.enc ⟨a0, a1⟩) t_Adj rfl h hi rfl rfl
@[go_sem] theorem of_sAdj_0 {hp : Hp} {b : Nat} {l : List (T_Adj)} {i : Nat} (h : hp b = mkOb e_Adj l) (hi : i < l.length) {x : Int} : sstore tt.get hp 3 (ptrS (mkSl b l) (i * 2)) (.int .i64 (x)) = ([(b, mkOb e_Adj (l.set i { at' l i with To := x }))], True) := own_storeF (f := 0) t_int h hi rfl (by decide) rfl rfl
@[go_sem] theorem of_sAdj_1 {hp : Hp} {b : Nat} {l : List (T_Adj)} {i : Nat} (h : hp b = mkOb e_Adj l) (hi : i < l.length) {x : Int} : sstore tt.get hp 3 (ptrS (mkSl b l) (i * 2 + 1)) (.int .i64 (x)) = ([(b, mkOb e_Adj (l.set i { at' l i with Cost := x }))], True) := own_storeF (f := 1) t_int h hi rfl (by decide) rfl rfl
@[go_sem] theorem ow_sAdj {b : Nat} {l : List (T_Adj)} {hp2 : Hp} : slen tt.get hp2 37 (mkSl b l) = (.int .i64 (l.length : Int), True) := by cases l with | nil => unfold slen mkSl; simp only [k_sAdj, lenA, t_sAdj, ti37]; rfl | cons a l => unfold slen mkSl; simp only [k_sAdj, lenA, t_sAdj, ti37]; rfl
@[go_sem] theorem ap1_sAdj {hp : Hp} {b top k : Nat} {l : List (T_Adj)} (h : hp b = mkOb e_Adj l) (hk : hp k = some (.cells true 2 (cellsOf (hp k)))) (hc : e_Adj.enc (e_Adj.dec (cellsOf (hp k))) = cellsOf (hp k)) (hn : l.length < 16777216) : appendA tt.get hp top [37, 37] (mkSl b l) (.slice (some ⟨k, 0, none⟩) 1 1) = some (mkSl top (l ++ [e_Adj.dec (cellsOf (hp k))]), appU b l top (mkOb e_Adj (l ++ [e_Adj.dec (cellsOf (hp k))])), top + 1) := appendA_oneC k_sAdj t_sAdj rfl t_Adj rfl rfl h hk hc hn
end
section
theorem len_sLink {hp : Hp} {v : Value} {l : List (T_Link)} (h : SlT e_Link hp v l) {hp' : Hp} : slen tt.get hp' 53 v = (.int .i64 (l.length : Int), True) := h.len_any k_sLink
theorem idx_sLink {hp : Hp} {v : Value} {l : List (T_Link)} (h : SlT e_Link hp v l) {k : IntKind} {n : Int} (h0 : 0 ≤ n) (h1 : n < l.length) : sindexAddr tt.get 53 v (.int k n) = (ptrS v (n.toNat * 3), True) := h.idx k_sLink t_Link rfl h0 h1
theorem ld_sLink {hp : Hp} {v : Value} {l : List (T_Link)} (h : SlT e_Link hp v l) {i : Nat} (hi : i < l.length) : sload tt.get hp 56 (ptrS v (i * 3)) = (.agg ⟨e_Link.enc (at' l i)⟩, True) := h.load t_Link rfl rfl hi
theorem sf_sLink_0 {hp : Hp} {v : Value} {l : List (T_Link)} (h : SlT e_Link hp v l) {i : Nat} (hi : i < l.length) : sfieldAddr tt.get 56 (ptrS v (i * 3)) 0 = (ptrS v (i * 3), True) := h.field hi (d := 0) (fun b o => (by kernel_rfl : fieldAddrA tt.get 56 (.pointer (some ⟨b, o, none⟩)) 0 = some (.pointer (some ⟨b, o + 0, none⟩))))
theorem sc_sLink_0 {hp : Hp} {v : Value} {l : List (T_Link)} (h : SlT e_Link hp v l) {i : Nat} (hi : i < l.length) : sload tt.get hp 3 (ptrS v (i * 3)) = (.int .i64 ((at' l i).A), True) := h.cell (f := 0) t_int rfl hi (by decide)
theorem sf_sLink_1 {hp : Hp} {v : Value} {l : List (T_Link)} (h : SlT e_Link hp v l) {i : Nat} (hi : i < l.length) : sfieldAddr tt.get 56 (ptrS v (i * 3)) 1 = (ptrS v (i * 3 + 1), True) := h.field hi (d := 1) (fun b o => (by kernel_rfl : fieldAddrA tt.get 56 (.pointer (some ⟨b, o, none⟩)) 1 = some (.pointer (some ⟨b, o + 1, none⟩))))
theorem sc_sLink_1 {hp : Hp} {v : Value} {l : List (T_Link)} (h : SlT e_Link hp v l) {i : Nat} (hi : i < l.length) : sload tt.get hp 3 (ptrS v (i * 3 + 1)) = (.int .i64 ((at' l i).B), True) := h.cell (f := 1) t_int rfl hi (by decide)
theorem sf_sLink_2 {hp : Hp} {v : Value} {l : List (T_Link)} (h : SlT e_Link hp v l) {i : Nat} (hi : i < l.length) : sfieldAddr tt.get 56 (ptrS v (i * 3)) 2 = (ptrS v (i * 3 + 2), True) := h.field hi (d := 2) (fun b o => (by kernel_rfl : fieldAddrA tt.get 56 (.pointer (some ⟨b, o, none⟩)) 2 = some (.pointer (some ⟨b, o + 2, none⟩))))
theorem sc_sLink_2 {hp : Hp} {v : Value} {l : List (T_Link)} (h : SlT e_Link hp v l) {i : Nat} (hi : i < l.length) : sload tt.get hp 3 (ptrS v (i * 3 + 2)) = (.int .i64 ((at' l i).Cost), True) := h.cell (f := 2) t_int rfl hi (by decide)
theorem sh_sLink {hp : Hp} {v : Value} {l : List (T_Link)} (h : SlT e_Link hp v l) {k : IntKind} {n : Int} (h0 : 0 ≤ n) (h1 : n ≤ l.length) : sslice tt.get hp 53 v none (some (.int k n)) = (subS 3 v 0 n.toNat, True) := h.slHi k_sLink t_Link h0 h1
theorem sw_sLink {hp : Hp} {v : Value} {l : List (T_Link)} (h : SlT e_Link hp v l) {k : IntKind} {n : Int} (h0 : 0 ≤ n) (h1 : n ≤ l.length) : sslice tt.get hp 53 v (some (.int k n)) none = (subL 3 v n.toNat, True) := h.slLo k_sLink t_Link rfl h0 h1
@[go_sem] theorem ap_sLink {hp : Hp} {x : Value} {b top : Nat} {l : List (T_Link)} (h : hp b = mkOb e_Link l) (hx : SlP e_Link hp x) (hn : l.length + (e_Link.rd hp x).length ≤ 16777216) : appendA tt.get hp top [53, 53] (mkSl b l) x = some (mkSl top (l ++ e_Link.rd hp x), appU b l top (mkOb e_Link (l ++ e_Link.rd hp x)), top + 1) := appendA_ownP k_sLink t_sLink rfl t_Link rfl rfl h hx hn
@[go_sem] theorem apn_sLink {hp : Hp} {x : Value} {top : Nat} (hx : SlP e_Link hp x) (hn : (e_Link.rd hp x).length ≤ 16777216) : appendA tt.get hp top [53, 53] (.slice none 0 0) x = some (mkSl top (e_Link.rd hp x), [(top, mkOb e_Link (e_Link.rd hp x))], top + 1) := appendA_nilP k_sLink t_sLink rfl t_Link rfl rfl hx hn
@[go_sem] theorem ap1r_sLink {hp : Hp} {b top k : Nat} {l : List (T_Link)} (h : hp b = mkOb e_Link l) (hk : hp k = some (.cells true 3 (cellsOf (hp k)))) (hc : e_Link.enc (e_Link.dec (cellsOf (hp k))) = cellsOf (hp k)) (hn : roomB (l.length + 1) ti56.bytes = true) : appendA tt.get hp top [53, 53] (mkSl b l) (.slice (some ⟨k, 0, none⟩) 1 1) = some (mkSl top (l ++ [e_Link.dec (cellsOf (hp k))]), appU b l top (mkOb e_Link (l ++ [e_Link.dec (cellsOf (hp k))])), top + 1) := appendA_oneCR k_sLink t_sLink rfl t_Link rfl rfl h hk hc hn
@[go_sem] theorem apr_sLink {hp : Hp} {x : Value} {top : Nat} (hx : SlP e_Link hp x) (hn : roomB (e_Link.rd hp x).length ti56.bytes = true) : appendA tt.get hp top [53, 53] (.slice none 0 0) x = some (mkSl top (e_Link.rd hp x), [(top, mkOb e_Link (e_Link.rd hp x))], top + 1) := appendA_nilPb k_sLink t_sLink rfl t_Link rfl rfl hx hn
@[go_sem] theorem ap0_sLink {hp : Hp} {top k : Nat} (hk : hp k = some (.cells true 3 (cellsOf (hp k)))) (hc : e_Link.enc (e_Link.dec (cellsOf (hp k))) = cellsOf (hp k)) : appendA tt.get hp top [53, 53] (.slice none 0 0) (.slice (some ⟨k, 0, none⟩) 1 1) = some (mkSl top [e_Link.dec (cellsOf (hp k))], [(top, mkOb e_Link [e_Link.dec (cellsOf (hp k))])], top + 1) := appendA_zeroC k_sLink t_sLink rfl t_Link rfl rfl hk hc
@[go_sem] theorem sa_sLink {hp : Hp} {b top : Nat} {l l2 : List (T_Link)} (h : hp b = mkOb e_Link l) : hp.sets (appU b l top (mkOb e_Link l2)) = (hp.set b none).set top (mkOb e_Link l2) := sets_appU h
@[go_sem] theorem os_sLink {hp : Hp} {b : Nat} {l : List (T_Link)} {i : Nat} (h : hp b = mkOb e_Link l) (hi : i < l.length) {a0 : Int} {a1 : Int} {a2 : Int} : sstore tt.get hp 56 (ptrS (mkSl b l) (i * 3)) (.agg ⟨[.int .i64 (a0), .int .i64 (a1), .int .i64 (a2)]⟩) = ([(b, mkOb e_Link (l.set i ⟨a0, a1, a2⟩))], True) := own_storeA (E := e_Link) (cs := e_Link.enc ⟨a0, a1, a2⟩) t_Link rfl h hi rfl rfl
@[go_sem] theorem of_sLink_0 {hp : Hp} {b : Nat} {l : List (T_Link)} {i : Nat} (h : hp b = mkOb e_Link l) (hi : i < l.length) {x : Int} : sstore tt.get hp 3 (ptrS (mkSl b l) (i * 3)) (.int .i64 (x)) = ([(b, mkOb e_Link (l.set i { at' l i with A := x }))], True) := own_storeF (f := 0) t_int h hi rfl (by decide) rfl rfl
@[go_sem] theorem of_sLink_1 {hp : Hp} {b : Nat} {l : List (T_Link)} {i : Nat} (h : hp b = mkOb e_Link l) (hi : i < l.length) {x : Int} : sstore tt.get hp 3 (ptrS (mkSl b l) (i * 3 + 1)) (.int .i64 (x)) = ([(b, mkOb e_Link (l.set i { at' l i with B := x }))], True) := own_storeF (f := 1) t_int h hi rfl (by decide) rfl rfl
@[go_sem] theorem of_sLink_2 {hp : Hp} {b : Nat} {l : List (T_Link)} {i : Nat} (h : hp b = mkOb e_Link l) (hi : i < l.length) {x : Int} : sstore tt.get hp 3 (ptrS (mkSl b l) (i * 3 + 2)) (.int .i64 (x)) = ([(b, mkOb e_Link (l.set i { at' l i with Cost := x }))], True) := own_storeF (f := 2) t_int h hi rfl (by decide) rfl rfl
@[go_sem] theorem ow_sLink {b : Nat} {l : List (T_Link)} {hp2 : Hp} : slen tt.get hp2 53 (mkSl b l) = (.int .i64 (l.length : Int), True) := by cases l with | nil => unfold slen mkSl; simp only [k_sLink, lenA, t_sLink, ti53]; rfl | cons a l => unfold slen mkSl; simp only [k_sLink, lenA, t_sLink, ti53]; rfl
@[go_sem] theorem ap1_sLink {hp : Hp} {b top k : Nat} {l : List (T_Link)} (h : hp b = mkOb e_Link l) (hk : hp k = some (.cells true 3 (cellsOf (hp k)))) (hc : e_Link.enc (e_Link.dec (cellsOf (hp k))) = cellsOf (hp k)) (hn : l.length < 16777216) : appendA tt.get hp top [53, 53] (mkSl b l) (.slice (some ⟨k, 0, none⟩) 1 1) = some (mkSl top (l ++ [e_Link.dec (cellsOf (hp k))]), appU b l top (mkOb e_Link (l ++ [e_Link.dec (cellsOf (hp k))])), top + 1) := appendA_oneC k_sLink t_sLink rfl t_Link rfl rfl h hk hc hn
end
section
theorem len_sGraph {hp : Hp} {v : Value} {l : List (T_Graph)} (h : SlT e_Graph hp v l) {hp' : Hp} : slen tt.get hp' 60 v = (.int .i64 (l.length : Int), True) := h.len_any k_sGraph
theorem idx_sGraph {hp : Hp} {v : Value} {l : List (T_Graph)} (h : SlT e_Graph hp v l) {k : IntKind} {n : Int} (h0 : 0 ≤ n) (h1 : n < l.length) : sindexAddr tt.get 60 v (.int k n) = (ptrS v (n.toNat * 2), True) := h.idx k_sGraph t_Graph rfl h0 h1
theorem ld_sGraph {hp : Hp} {v : Value} {l : List (T_Graph)} (h : SlT e_Graph hp v l) {i : Nat} (hi : i < l.length) : sload tt.get hp 26 (ptrS v (i * 2)) = (.agg ⟨e_Graph.enc (at' l i)⟩, True) := h.load t_Graph rfl rfl hi
theorem sf_sGraph_0 {hp : Hp} {v : Value} {l : List (T_Graph)} (h : SlT e_Graph hp v l) {i : Nat} (hi : i < l.length) : sfieldAddr tt.get 26 (ptrS v (i * 2)) 0 = (ptrS v (i * 2), True) := h.field hi (d := 0) (fun b o => (by kernel_rfl : fieldAddrA tt.get 26 (.pointer (some ⟨b, o, none⟩)) 0 = some (.pointer (some ⟨b, o + 0, none⟩))))
theorem sc_sGraph_0 {hp : Hp} {v : Value} {l : List (T_Graph)} (h : SlT e_Graph hp v l) {i : Nat} (hi : i < l.length) : sload tt.get hp 23 (ptrS v (i * 2)) = (((at' l i).Nodes).v, True) := h.cell (f := 0) t_sint rfl hi (by decide)
theorem sf_sGraph_1 {hp : Hp} {v : Value} {l : List (T_Graph)} (h : SlT e_Graph hp v l) {i : Nat} (hi : i < l.length) : sfieldAddr tt.get 26 (ptrS v (i * 2)) 1 = (ptrS v (i * 2 + 1), True) := h.field hi (d := 1) (fun b o => (by kernel_rfl : fieldAddrA tt.get 26 (.pointer (some ⟨b, o, none⟩)) 1 = some (.pointer (some ⟨b, o + 1, none⟩))))
theorem sc_sGraph_1 {hp : Hp} {v : Value} {l : List (T_Graph)} (h : SlT e_Graph hp v l) {i : Nat} (hi : i < l.length) : sload tt.get hp 24 (ptrS v (i * 2 + 1)) = (((at' l i).Edges).v, True) := h.cell (f := 1) t_sEdge rfl hi (by decide)
theorem sh_sGraph {hp : Hp} {v : Value} {l : List (T_Graph)} (h : SlT e_Graph hp v l) {k : IntKind} {n : Int} (h0 : 0 ≤ n) (h1 : n ≤ l.length) : sslice tt.get hp 60 v none (some (.int k n)) = (subS 2 v 0 n.toNat, True) := h.slHi k_sGraph t_Graph h0 h1
theorem sw_sGraph {hp : Hp} {v : Value} {l : List (T_Graph)} (h : SlT e_Graph hp v l) {k : IntKind} {n : Int} (h0 : 0 ≤ n) (h1 : n ≤ l.length) : sslice tt.get hp 60 v (some (.int k n)) none = (subL 2 v n.toNat, True) := h.slLo k_sGraph t_Graph rfl h0 h1
@[go_sem] theorem ap_sGraph {hp : Hp} {x : Value} {b top : Nat} {l : List (T_Graph)} (h : hp b = mkOb e_Graph l) (hx : SlP e_Graph hp x) (hn : l.length + (e_Graph.rd hp x).length ≤ 16777216) : appendA tt.get hp top [60, 60] (mkSl b l) x = some (mkSl top (l ++ e_Graph.rd hp x), appU b l top (mkOb e_Graph (l ++ e_Graph.rd hp x)), top + 1) := appendA_ownP k_sGraph t_sGraph rfl t_Graph rfl rfl h hx hn
@[go_sem] theorem apn_sGraph {hp : Hp} {x : Value} {top : Nat} (hx : SlP e_Graph hp x) (hn : (e_Graph.rd hp x).length ≤ 16777216) : appendA tt.get hp top [60, 60] (.slice none 0 0) x = some (mkSl top (e_Graph.rd hp x), [(top, mkOb e_Graph (e_Graph.rd hp x))], top + 1) := appendA_nilP k_sGraph t_sGraph rfl t_Graph rfl rfl hx hn
@[go_sem] theorem ap1r_sGraph {hp : Hp} {b top k : Nat} {l : List (T_Graph)} (h : hp b = mkOb e_Graph l) (hk : hp k = some (.cells true 2 (cellsOf (hp k)))) (hc : e_Graph.enc (e_Graph.dec (cellsOf (hp k))) = cellsOf (hp k)) (hn : roomB (l.length + 1) ti26.bytes = true) : appendA tt.get hp top [60, 60] (mkSl b l) (.slice (some ⟨k, 0, none⟩) 1 1) = some (mkSl top (l ++ [e_Graph.dec (cellsOf (hp k))]), appU b l top (mkOb e_Graph (l ++ [e_Graph.dec (cellsOf (hp k))])), top + 1) := appendA_oneCR k_sGraph t_sGraph rfl t_Graph rfl rfl h hk hc hn
@[go_sem] theorem apr_sGraph {hp : Hp} {x : Value} {top : Nat} (hx : SlP e_Graph hp x) (hn : roomB (e_Graph.rd hp x).length ti26.bytes = true) : appendA tt.get hp top [60, 60] (.slice none 0 0) x = some (mkSl top (e_Graph.rd hp x), [(top, mkOb e_Graph (e_Graph.rd hp x))], top + 1) := appendA_nilPb k_sGraph t_sGraph rfl t_Graph rfl rfl hx hn
@[go_sem] theorem ap0_sGraph {hp : Hp} {top k : Nat} (hk : hp k = some (.cells true 2 (cellsOf (hp k)))) (hc : e_Graph.enc (e_Graph.dec (cellsOf (hp k))) = cellsOf (hp k)) : appendA tt.get hp top [60, 60] (.slice none 0 0) (.slice (some ⟨k, 0, none⟩) 1 1) = some (mkSl top [e_Graph.dec (cellsOf (hp k))], [(top, mkOb e_Graph [e_Graph.dec (cellsOf (hp k))])], top + 1) := appendA_zeroC k_sGraph t_sGraph rfl t_Graph rfl rfl hk hc
@[go_sem] theorem sa_sGraph {hp : Hp} {b top : Nat} {l l2 : List (T_Graph)} (h : hp b = mkOb e_Graph l) : hp.sets (appU b l top (mkOb e_Graph l2)) = (hp.set b none).set top (mkOb e_Graph l2) := sets_appU h
@[go_sem] theorem os_sGraph {hp : Hp} {b : Nat} {l : List (T_Graph)} {i : Nat} (h : hp b = mkOb e_Graph l) (hi : i < l.length) {a0 : Value} {a1 : Value} (h0 : (refOf a0).v = a0) (h1 : (refOf a1).v = a1) : sstore tt.get hp 26 (ptrS (mkSl b l) (i * 2)) (.agg ⟨[a0, a1]⟩) = ([(b, mkOb e_Graph (l.set i ⟨refOf a0, refOf a1⟩))], True) := by
  have e : e_Graph.enc ⟨refOf a0, refOf a1⟩ = [a0, a1] := by simp only [en_Graph, h0, h1]
  have := own_storeA (E := e_Graph) (cs := e_Graph.enc ⟨refOf a0, refOf a1⟩) t_Graph rfl h hi (by rw [e_Graph.h]) (e_Graph.one _)
  rw [e_Graph.h, e] at this
  exact this
@[go_sem] theorem of_sGraph_0 {hp : Hp} {b : Nat} {l : List (T_Graph)} {i : Nat} (h : hp b = mkOb e_Graph l) (hi : i < l.length) {x : Value} (hx : (refOf x).v = x) : sstore tt.get hp 23 (ptrS (mkSl b l) (i * 2)) x = ([(b, mkOb e_Graph (l.set i { at' l i with Nodes := refOf x }))], True) := by
  have h1 : cellsL x = [x] := by rw [← hx]; exact SRef.cl _
  have h2 : Value.oneCell' x = true := by rw [← hx]; exact SRef.oc _
  exact own_storeF (f := 0) t_sint h hi (by unfold cellsOk; rw [h1]; rfl) (by decide) (by rw [h1]; simp [oneCells, h2]) (by rw [h1, en_Graph]; simp only [hx]; rfl)
@[go_sem] theorem of_sGraph_1 {hp : Hp} {b : Nat} {l : List (T_Graph)} {i : Nat} (h : hp b = mkOb e_Graph l) (hi : i < l.length) {x : Value} (hx : (refOf x).v = x) : sstore tt.get hp 24 (ptrS (mkSl b l) (i * 2 + 1)) x = ([(b, mkOb e_Graph (l.set i { at' l i with Edges := refOf x }))], True) := by
  have h1 : cellsL x = [x] := by rw [← hx]; exact SRef.cl _
  have h2 : Value.oneCell' x = true := by rw [← hx]; exact SRef.oc _
  exact own_storeF (f := 1) t_sEdge h hi (by unfold cellsOk; rw [h1]; rfl) (by decide) (by rw [h1]; simp [oneCells, h2]) (by rw [h1, en_Graph]; simp only [hx]; rfl)
@[go_sem] theorem ow_sGraph {b : Nat} {l : List (T_Graph)} {hp2 : Hp} : slen tt.get hp2 60 (mkSl b l) = (.int .i64 (l.length : Int), True) := by cases l with | nil => unfold slen mkSl; simp only [k_sGraph, lenA, t_sGraph, ti60]; rfl | cons a l => unfold slen mkSl; simp only [k_sGraph, lenA, t_sGraph, ti60]; rfl
@[go_sem] theorem ap1_sGraph {hp : Hp} {b top k : Nat} {l : List (T_Graph)} (h : hp b = mkOb e_Graph l) (hk : hp k = some (.cells true 2 (cellsOf (hp k)))) (hc : e_Graph.enc (e_Graph.dec (cellsOf (hp k))) = cellsOf (hp k)) (hn : l.length < 16777216) : appendA tt.get hp top [60, 60] (mkSl b l) (.slice (some ⟨k, 0, none⟩) 1 1) = some (mkSl top (l ++ [e_Graph.dec (cellsOf (hp k))]), appU b l top (mkOb e_Graph (l ++ [e_Graph.dec (cellsOf (hp k))])), top + 1) := appendA_oneC k_sGraph t_sGraph rfl t_Graph rfl rfl h hk hc hn
end
section
theorem len_sbool {hp : Hp} {v : Value} {l : List (Bool)} (h : SlT e_bool hp v l) {hp' : Hp} : slen tt.get hp' 70 v = (.int .i64 (l.length : Int), True) := h.len_any k_sbool
theorem idx_sbool {hp : Hp} {v : Value} {l : List (Bool)} (h : SlT e_bool hp v l) {k : IntKind} {n : Int} (h0 : 0 ≤ n) (h1 : n < l.length) : sindexAddr tt.get 70 v (.int k n) = (ptrS v (n.toNat * 1), True) := h.idx k_sbool t_bool rfl h0 h1
theorem ld_sbool {hp : Hp} {v : Value} {l : List (Bool)} (h : SlT e_bool hp v l) {i : Nat} (hi : i < l.length) : sload tt.get hp 4 (ptrS v (i * 1)) = (.bool (at' l i), True) := h.cell (f := 0) t_bool rfl hi (by decide)
theorem sh_sbool {hp : Hp} {v : Value} {l : List (Bool)} (h : SlT e_bool hp v l) {k : IntKind} {n : Int} (h0 : 0 ≤ n) (h1 : n ≤ l.length) : sslice tt.get hp 70 v none (some (.int k n)) = (subS 1 v 0 n.toNat, True) := h.slHi k_sbool t_bool h0 h1
theorem sw_sbool {hp : Hp} {v : Value} {l : List (Bool)} (h : SlT e_bool hp v l) {k : IntKind} {n : Int} (h0 : 0 ≤ n) (h1 : n ≤ l.length) : sslice tt.get hp 70 v (some (.int k n)) none = (subL 1 v n.toNat, True) := h.slLo k_sbool t_bool rfl h0 h1
@[go_sem] theorem ap_sbool {hp : Hp} {x : Value} {b top : Nat} {l : List (Bool)} (h : hp b = mkOb e_bool l) (hx : SlP e_bool hp x) (hn : l.length + (e_bool.rd hp x).length ≤ 16777216) : appendA tt.get hp top [70, 70] (mkSl b l) x = some (mkSl top (l ++ e_bool.rd hp x), appU b l top (mkOb e_bool (l ++ e_bool.rd hp x)), top + 1) := appendA_ownP k_sbool t_sbool rfl t_bool rfl rfl h hx hn
@[go_sem] theorem apn_sbool {hp : Hp} {x : Value} {top : Nat} (hx : SlP e_bool hp x) (hn : (e_bool.rd hp x).length ≤ 16777216) : appendA tt.get hp top [70, 70] (.slice none 0 0) x = some (mkSl top (e_bool.rd hp x), [(top, mkOb e_bool (e_bool.rd hp x))], top + 1) := appendA_nilP k_sbool t_sbool rfl t_bool rfl rfl hx hn
@[go_sem] theorem ap1r_sbool {hp : Hp} {b top k : Nat} {l : List (Bool)} (h : hp b = mkOb e_bool l) (hk : hp k = some (.cells true 1 (cellsOf (hp k)))) (hc : e_bool.enc (e_bool.dec (cellsOf (hp k))) = cellsOf (hp k)) (hn : roomB (l.length + 1) ti4.bytes = true) : appendA tt.get hp top [70, 70] (mkSl b l) (.slice (some ⟨k, 0, none⟩) 1 1) = some (mkSl top (l ++ [e_bool.dec (cellsOf (hp k))]), appU b l top (mkOb e_bool (l ++ [e_bool.dec (cellsOf (hp k))])), top + 1) := appendA_oneCR k_sbool t_sbool rfl t_bool rfl rfl h hk hc hn
@[go_sem] theorem apr_sbool {hp : Hp} {x : Value} {top : Nat} (hx : SlP e_bool hp x) (hn : roomB (e_bool.rd hp x).length ti4.bytes = true) : appendA tt.get hp top [70, 70] (.slice none 0 0) x = some (mkSl top (e_bool.rd hp x), [(top, mkOb e_bool (e_bool.rd hp x))], top + 1) := appendA_nilPb k_sbool t_sbool rfl t_bool rfl rfl hx hn
@[go_sem] theorem ap0_sbool {hp : Hp} {top k : Nat} (hk : hp k = some (.cells true 1 (cellsOf (hp k)))) (hc : e_bool.enc (e_bool.dec (cellsOf (hp k))) = cellsOf (hp k)) : appendA tt.get hp top [70, 70] (.slice none 0 0) (.slice (some ⟨k, 0, none⟩) 1 1) = some (mkSl top [e_bool.dec (cellsOf (hp k))], [(top, mkOb e_bool [e_bool.dec (cellsOf (hp k))])], top + 1) := appendA_zeroC k_sbool t_sbool rfl t_bool rfl rfl hk hc
@[go_sem] theorem sa_sbool {hp : Hp} {b top : Nat} {l l2 : List (Bool)} (h : hp b = mkOb e_bool l) : hp.sets (appU b l top (mkOb e_bool l2)) = (hp.set b none).set top (mkOb e_bool l2) := sets_appU h
@[go_sem] theorem os_sbool {hp : Hp} {b : Nat} {l : List (Bool)} {i : Nat} (h : hp b = mkOb e_bool l) (hi : i < l.length) {x : Bool} : sstore tt.get hp 4 (ptrS (mkSl b l) (i * 1)) (.bool (x)) = ([(b, mkOb e_bool (l.set i x))], True) := own_storeF (f := 0) t_bool h hi rfl (by decide) rfl rfl
@[go_sem] theorem ow_sbool {b : Nat} {l : List (Bool)} {hp2 : Hp} : slen tt.get hp2 70 (mkSl b l) = (.int .i64 (l.length : Int), True) := by cases l with | nil => unfold slen mkSl; simp only [k_sbool, lenA, t_sbool, ti70]; rfl | cons a l => unfold slen mkSl; simp only [k_sbool, lenA, t_sbool, ti70]; rfl
@[go_sem] theorem ap1_sbool {hp : Hp} {b top k : Nat} {l : List (Bool)} (h : hp b = mkOb e_bool l) (hk : hp k = some (.cells true 1 (cellsOf (hp k)))) (hc : e_bool.enc (e_bool.dec (cellsOf (hp k))) = cellsOf (hp k)) (hn : l.length < 16777216) : appendA tt.get hp top [70, 70] (mkSl b l) (.slice (some ⟨k, 0, none⟩) 1 1) = some (mkSl top (l ++ [e_bool.dec (cellsOf (hp k))]), appU b l top (mkOb e_bool (l ++ [e_bool.dec (cellsOf (hp k))])), top + 1) := appendA_oneC k_sbool t_sbool rfl t_bool rfl rfl h hk hc hn
end
end Go.Proofs.Ytaenmabpekbjoaa.Dm
