/- The abstract machine, a part of it: operations, regions, code and calls run over values with named blocks; each step is shown of the real run. -/
import Derived.Test.YthpibnpeaidabaaDoorDmH
import Derived.Lib.AppendZerosOnto
import Derived.Lib.Overlaps
import Derived.Laws.Externs
import Derived.WalkKit
import Derived.ArgAppend
import Derived.Shelf.RegionOpenPlain
set_option linter.unusedSimpArgs false
set_option linter.unusedVariables false
/- Copies and appends of the library, run; what is known of a slice cut shorter, laid under a new name. -/
namespace Go.Dm

/-- a world that has changed at one block -/
structure At (B : Nat) (o : Obj) (w w' : World) : Prop where
  here : w'.heap[B]? = some o
  size : w'.heap.size = w.heap.size
  oth : ∀ k, k ≠ B → w'.heap[k]? = w.heap[k]?
  os : w'.os = w.os
  tape : w'.tape = w.tape
  output : w'.output = w.output

theorem copy_run {P : Program} {ts ts2 e r : TypeId} {j : TI} (h0 : P.underlying ts = some (.slice e)) (hj : TOk P e j) (w : World) {B o dl dc Sb so sl sc m : Nat} {c c2 : Array Value} {ty ty2 : TypeId} {fz fz2 : Nat × Nat}
    (hB : w.heap[B]? = some (.cells c ty fz)) (hfz : fz.2 ≤ fz.1) (hS : w.heap[Sb]? = some (.cells c2 ty2 fz2)) (hm : Nat.min sl dl = m) (hd : o + m * j.size ≤ c.size) (hs : so + m * j.size ≤ c2.size)
    (hoc : oneCells ((c2.toList.drop so).take (m * j.size)) = true) :
    ∃ w', (Builtin.copy_ #[ts, ts2] r #[.slice (some ⟨B, o, none⟩) dl dc, .slice (some ⟨Sb, so, none⟩) sl sc]).run P w = .ok (.int .i64 (m : Int)) w' ∧ At B (.cells ⟨splice c.toList o ((c2.toList.drop so).take (m * j.size))⟩ ty fz) w w' := by
  have hl : ((c2.toList.drop so).take (m * j.size)).length = m * j.size := by simp; omega
  obtain ⟨w', e1, f2, f3, f4, f5, f6, f7⟩ := run_storeCellsFrom P B o ty fz hfz ((c2.toList.drop so).take (m * j.size)) 0 w c hB (by rw [hl]; omega) hoc
  refine ⟨w', ?_, ⟨f2, f3, f4, f5, f6, f7⟩⟩
  have hnr : (Builtin.firstCells j.size m (.slice (some ⟨Sb, so, none⟩) sl sc)).run P w = .ok ⟨(c2.toList.drop so).take (m * j.size)⟩ w := by
    by_cases hz : m * j.size = 0
    · simp [Builtin.firstCells, loadCells, hz, loadCellsFrom]
    · simp only [Builtin.firstCells, loadCells, run_loadCellsFrom P w Sb so c2 ty2 fz2 hS (m * j.size) 0 #[] (by omega)]
      simp
  have a0 : (#[ts, ts2] : Array TypeId)[0]? = some ts := rfl
  have b0 : (#[Value.slice (some ⟨B, o, none⟩) dl dc, .slice (some ⟨Sb, so, none⟩) sl sc] : Array Value)[0]? = some (.slice (some ⟨B, o, none⟩) dl dc) := rfl
  have b1 : (#[Value.slice (some ⟨B, o, none⟩) dl dc, .slice (some ⟨Sb, so, none⟩) sl sc] : Array Value)[1]? = some (.slice (some ⟨Sb, so, none⟩) sl sc) := rfl
  have hln : (Builtin.lenOf (.slice (some ⟨Sb, so, none⟩) sl sc)).run P w = .ok sl w := rfl
  simp only [Builtin.copy_, a0, b0, b1, Sem.run_bind, run_underlying h0, Result.andThen_ok, hln, hj.run_size, hm, hnr, e1, Sem.run_pure]
  rfl

/-- the operation 'copy', where its run is known -/
theorem step_copy {P : Program} {ops : Array Oper} {o : Oper} {a : Act} {w : World} {K : Act → World → Prop} {Q : Exit → Act → World → Prop} {E : Prop}
    (hg : o.guard = none) (d x : Operand) (dT sT : TypeId) (hop : o.op = Op.call { callee := Callee.builtin Builtin.copy, args := #[d, x], argTypes := #[dT, sT] })
    (v u : Value) (hd : a.eval d = v) (hx : a.eval x = u) {v' : Value} {Φ : World → Prop} (hr : ∃ w', (Builtin.copy_ #[dT, sT] o.type #[v, u]).run P w = .ok v' w' ∧ Φ w') (hK : ∀ w', Φ w' → K (a.put o.dst v') w') :
    if Region.wanted o (yielded ops a.tmps) = true then Oper.wp P o a w K Q else E := by
  obtain ⟨w', hr, hΦ⟩ := hr
  have hw : Region.wanted o (yielded ops a.tmps) = true := by simp [Region.wanted, hg]
  rw [if_pos hw]
  unfold Oper.wp
  simp [execOp, hop, resolve, invoke, builtin, hd, hx, hr, Result.andThen]
  exact hK _ hΦ
theorem wpList_copy {P : Program} {w : World} {ops : Array Oper} {rest : List Oper} {o : Oper} {a : Act} {Q : Exit → Act → World → Prop} (hgd : o.guard = none) (d s : Operand) (t t' : TypeId)
    (ho : o.op = .call { callee := .builtin .copy, args := #[d, s], argTypes := #[t, t'] }) (v u : Value) (hd : a.eval d = v) (hs : a.eval s = u) {v' : Value} {Φ : World → Prop}
    (hr : ∃ w', (Builtin.copy_ #[t, t'] o.type #[v, u]).run P w = .ok v' w' ∧ Φ w') (h : ∀ w', Φ w' → wpList P ops Q rest (a.put o.dst v') w') : wpList P ops Q (o :: rest) a w := by
  obtain ⟨w', hr, hΦ⟩ := hr
  refine wpList_plain hgd fun K hK => ?_
  unfold Oper.wp execOp
  simp only [ho, resolve, invoke, builtin, Sem.run_bind, Sem.run_pure, Result.andThen_ok, List.map_toArray, List.map_cons, List.map_nil, hd, hs, hr]
  exact hK _ _ (h _ hΦ)

/-! ### append where there is room, clear -/
theorem append_run {P : Program} {ts e r : TypeId} {j : TI} (h0 : P.underlying ts = some (.slice e)) (hj : TOk P e j) (w : World) {B o sl cap Sb so n sc : Nat} {c c2 : Array Value} {ty ty2 : TypeId} {fz fz2 : Nat × Nat}
    (hB : w.heap[B]? = some (.cells c ty fz)) (hfz : fz.2 ≤ fz.1) (hS : w.heap[Sb]? = some (.cells c2 ty2 fz2)) (hroom : sl + n ≤ cap) (hd : o + (sl + n) * j.size ≤ c.size) (hs : so + n * j.size ≤ c2.size)
    (hoc : oneCells ((c2.toList.drop so).take (n * j.size)) = true) :
    ∃ w', (Builtin.append_ #[ts, ts] r #[.slice (some ⟨B, o, none⟩) sl cap, .slice (some ⟨Sb, so, none⟩) n sc]).run P w = .ok (.slice (some ⟨B, o, none⟩) (sl + n) cap) w' ∧ At B (.cells ⟨splice c.toList (o + sl * j.size) ((c2.toList.drop so).take (n * j.size))⟩ ty fz) w w' := by
  obtain ⟨y, hy, hys, _, _⟩ := hj.info
  have hl : ((c2.toList.drop so).take (n * j.size)).length = n * j.size := by simp; omega
  have hd2 : (sl + n) * j.size = sl * j.size + n * j.size := Nat.add_mul ..
  obtain ⟨w', e1, f2, f3, f4, f5, f6, f7⟩ := run_storeCellsFrom P B (o + sl * j.size) ty fz hfz ((c2.toList.drop so).take (n * j.size)) 0 w c hB (by rw [hl]; omega) hoc
  have one : ∀ u ∈ (c2.toList.drop so).take (n * j.size), u.oneCell' = true := by
    generalize (c2.toList.drop so).take (n * j.size) = l at hoc
    intro u hu
    induction l with
    | nil => cases hu
    | cons a l ih =>
      simp only [oneCells, Bool.and_eq_true] at hoc
      rcases List.mem_cons.1 hu with rfl | hu
      · exact hoc.1
      · exact ih hoc.2 hu
  have hc : ∀ q, q < ((c2.toList.drop so).take (n * j.size)).length → (w.cell? ⟨B, o + sl * j.size + q, none⟩).isSome = true := fun q hq => by
    rw [hl] at hq
    have : o + sl * j.size + q < c.size := by omega
    simp [World.cell?, hB, this]
  have hf : ∀ q, q < ((c2.toList.drop so).take (n * j.size)).length → w.frozen? ⟨B, o + sl * j.size + q, none⟩ = false := fun q hq => by
    simp [World.frozen?, hB]; omega
  have hnews : ∀ q u, ((c2.toList.drop so).take (n * j.size))[q]? = some u → w.cell? ((⟨Sb, so, none⟩ : Addr).add q) = some u := fun q u hq => by
    have hq' : q < n * j.size := by
      have := (List.getElem?_eq_some_iff.1 hq).1
      rwa [hl] at this
    rw [List.getElem?_take, if_pos hq', List.getElem?_drop] at hq
    rw [Addr.add_lit]
    simpa [World.cell?, hS] using hq
  have e2 := run_storeCells_cells (P := P) B (o + sl * j.size) ((c2.toList.drop so).take (n * j.size)) 0 w (by simpa using hc) (by simpa using hf) one
  rw [e1] at e2
  cases e2
  have e3 := run_append_room_cells (P := P) w ts r e y h0 hy B o sl cap ⟨Sb, so, none⟩ n sc ((c2.toList.drop so).take (n * j.size)) (by rw [hys]; exact hl) hnews one hroom (by rw [hys]; exact hc) (by rw [hys]; exact hf)
  rw [hys] at e3
  exact ⟨_, e3, ⟨f2, f3, f4, f5, f6, f7⟩⟩
theorem clear_run {P : Program} {ts e r : TypeId} {j : TI} (h0 : P.underlying ts = some (.slice e)) (hj : TOk P e j) (w : World) {B o n cap : Nat} {c : Array Value} {ty : TypeId} {fz : Nat × Nat}
    (hB : w.heap[B]? = some (.cells c ty fz)) (hfz : fz.2 ≤ fz.1) (hd : o + n * j.size ≤ c.size) (hoc : oneCells (cellsL j.zero) = true) :
    ∃ w', (Builtin.clear_ #[ts] r #[.slice (some ⟨B, o, none⟩) n cap]).run P w = .ok undef w' ∧ At B (.cells ⟨splice c.toList o (zerosA j n)⟩ ty fz) w w' := by
  have hlz := zerosA_length hj n
  have hz1 : oneCells (zerosA j n) = true := by
    have app : ∀ x y : List Value, oneCells (x ++ y) = (oneCells x && oneCells y) := by
      intro x y
      induction x with
      | nil => rfl
      | cons a x ih => simp [oneCells, ih, Bool.and_assoc]
    unfold zerosA
    induction n with
    | zero => rfl
    | succ n ih => rw [List.replicate_succ, List.flatten_cons, app, hoc, ih (by rw [Nat.succ_mul] at hd; omega) (zerosA_length hj n)]; rfl
  have a0 : (#[ts] : Array TypeId)[0]? = some ts := rfl
  cases n with
  | zero =>
    refine ⟨w, ?_, ⟨?_, rfl, fun _ _ => rfl, rfl, rfl, rfl⟩⟩
    · have b0 : (#[Value.slice (some ⟨B, o, none⟩) 0 cap] : Array Value)[0]? = some (.slice (some ⟨B, o, none⟩) 0 cap) := rfl
      simp only [Builtin.clear_, a0, b0, Sem.run_bind, run_underlying h0, Result.andThen_ok, Sem.run_pure]
      rfl
    · rw [hB]; simp [zerosA, splice]
  | succ n =>
    have hz : (Builtin.zeroCells j.zero.cells (n + 1)).toList = zerosA j (n + 1) := by
      unfold Builtin.zeroCells
      rw [range_map_zero _ _ _ rfl, cellsL_eq]
      rfl
    obtain ⟨w', e1, f2, f3, f4, f5, f6, f7⟩ := run_storeCellsFrom P B o ty fz hfz (zerosA j (n + 1)) 0 w c hB (by rw [hlz]; omega) hz1
    refine ⟨w', ?_, ⟨f2, f3, f4, f5, f6, f7⟩⟩
    have b0 : (#[Value.slice (some ⟨B, o, none⟩) (n + 1) cap] : Array Value)[0]? = some (.slice (some ⟨B, o, none⟩) (n + 1) cap) := rfl
    rw [← hz] at e1
    simp only [Builtin.clear_, a0, b0, Sem.run_bind, run_underlying h0, Result.andThen_ok, Sem.run_pure, hj.run_zero, e1]
    rfl
theorem step_append {P : Program} {ops : Array Oper} {o : Oper} {a : Act} {w : World} {K : Act → World → Prop} {Q : Exit → Act → World → Prop} {E : Prop}
    (hg : o.guard = none) (d x : Operand) (dT sT : TypeId) (hop : o.op = Op.call { callee := Callee.builtin Builtin.append, args := #[d, x], argTypes := #[dT, sT] })
    (v u : Value) (hd : a.eval d = v) (hx : a.eval x = u) {v' : Value} {Φ : World → Prop} (hr : ∃ w', (Builtin.append_ #[dT, sT] o.type #[v, u]).run P w = .ok v' w' ∧ Φ w') (hK : ∀ w', Φ w' → K (a.put o.dst v') w') :
    if Region.wanted o (yielded ops a.tmps) = true then Oper.wp P o a w K Q else E := by
  obtain ⟨w', hr, hΦ⟩ := hr
  have hw : Region.wanted o (yielded ops a.tmps) = true := by simp [Region.wanted, hg]
  rw [if_pos hw]
  unfold Oper.wp
  simp [execOp, hop, resolve, invoke, builtin, hd, hx, hr, Result.andThen]
  exact hK _ hΦ
theorem wpList_clear {P : Program} {w : World} {ops : Array Oper} {rest : List Oper} {o : Oper} {a : Act} {Q : Exit → Act → World → Prop} (hgd : o.guard = none) (d : Operand) (t : TypeId)
    (ho : o.op = .call { callee := .builtin .clear, args := #[d], argTypes := #[t] }) (v : Value) (hd : a.eval d = v) {v' : Value} {Φ : World → Prop}
    (hr : ∃ w', (Builtin.clear_ #[t] o.type #[v]).run P w = .ok v' w' ∧ Φ w') (h : ∀ w', Φ w' → wpList P ops Q rest (a.put o.dst v') w') : wpList P ops Q (o :: rest) a w := by
  obtain ⟨w', hr, hΦ⟩ := hr
  refine wpList_plain hgd fun K hK => ?_
  unfold Oper.wp execOp
  simp only [ho, resolve, invoke, builtin, Sem.run_bind, Sem.run_pure, Result.andThen_ok, List.map_toArray, List.map_cons, List.map_nil, hd, hr]
  exact hK _ _ (h _ hΦ)

/-- what an insertion into new memory comes to -/
def NewRow (w : World) (n k : Nat) (row : List Value) (t : TypeId) (e : Ending) (w' : World) : Prop :=
  ∃ cap extra, n ≤ cap ∧ extra.length = (cap - n) * k ∧ e = .returned (.slice (some ⟨w.heap.size, 0, none⟩) n cap) ∧ w'.heap[w.heap.size]? = some (.cells ⟨row ++ extra⟩ t (0, 0)) ∧
    w'.heap.size = w.heap.size + 1 ∧ (∀ k, k ≠ w.heap.size → w'.heap[k]? = w.heap[k]?) ∧ w'.os = w.os ∧ w'.tape = w.tape ∧ w'.output = w.output
theorem push_at (w : World) (o : Obj) : (w.drew.alloc o).heap[w.heap.size]? = some o := by
  show (w.heap.push o)[w.heap.size]? = some o
  simp
theorem push_size (w : World) (o : Obj) : (w.drew.alloc o).heap.size = w.heap.size + 1 := by
  show (w.heap.push o).size = _
  simp
theorem push_oth (w : World) (o : Obj) {k : Nat} (hk : k ≠ w.heap.size) : (w.drew.alloc o).heap[k]? = w.heap[k]? := by
  show (w.heap.push o)[k]? = _
  rw [Array.getElem?_push, if_neg hk]
theorem heap_lt {w : World} {b : Nat} {o : Obj} (h : w.heap[b]? = some o) : b < w.heap.size := by
  rcases Nat.lt_or_ge b w.heap.size with h1 | h1
  · exact h1
  · rw [Array.getElem?_eq_none h1] at h; cases h
/-- a row: what stood ahead, what is put in, what stood behind, the rest -/
theorem splice_row {A X S Z1 Z2 : List Value} {a x s : Nat} (hA : A.length = a) (hX : X.length = x) (hS : S.length = s) (hZ : Z1.length = x + s) : splice (splice (A ++ Z1 ++ Z2) a X) (a + x) S = A ++ X ++ S ++ Z2 := by
  obtain ⟨P, Q, rfl, hP, hQ⟩ : ∃ P Q, Z1 = P ++ Q ∧ P.length = x ∧ Q.length = s := ⟨Z1.take x, Z1.drop x, (List.take_append_drop ..).symm, by rw [List.length_take]; omega, by rw [List.length_drop]; omega⟩
  have d2 : ∀ (B C D : List Value), (B ++ (C ++ D)).drop (B.length + C.length) = D := fun B C D => by rw [← List.drop_drop, List.drop_left' rfl, List.drop_left' rfl]
  have e1 : splice (A ++ (P ++ Q) ++ Z2) a X = (A ++ X) ++ (Q ++ Z2) := by
    unfold splice
    simp only [List.append_assoc]
    rw [List.take_left' hA, show a + X.length = A.length + P.length by omega, d2]
  rw [e1]
  unfold splice
  rw [List.take_left' (by rw [List.length_append]; omega), show a + x + S.length = (A ++ X).length + Q.length by rw [List.length_append]; omega, d2]
end Go.Dm

/- slices.Insert: from its run to what is known of it. -/
namespace Go.Dm

/-- put in, in place -/
def InsShift (P : Program) (f : FuncId) (k : Nat) : Prop :=
  ∀ (B off n c i Vb vo vc : Nat) (cc cv : Array Value) (ty tyv : TypeId) (fz fzv : Nat × Nat) (w : World), i < n → n + 1 ≤ c → n + 1 ≤ 9223372036854775807 → Vb ≠ B →
    w.heap[B]? = some (.cells cc ty fz) → fz.2 ≤ fz.1 → off + c * k ≤ cc.size → w.heap[Vb]? = some (.cells cv tyv fzv) → fzv.2 ≤ fzv.1 → vo + 1 * k ≤ cv.size →
    oneCells ((cc.toList.drop (off + i * k)).take ((n - i) * k)) = true → oneCells ((cv.toList.drop vo).take (1 * k)) = true →
    Calls P f #[.slice (some ⟨B, off, none⟩) n c, .int .i64 i, .slice (some ⟨Vb, vo, none⟩) 1 vc] w fun e w' =>
      e = .returned (.slice (some ⟨B, off, none⟩) (n + 1) c) ∧
      At B (.cells ⟨splice (splice cc.toList (off + (i + 1) * k) ((cc.toList.drop (off + i * k)).take ((n - i) * k))) (off + i * k) ((cv.toList.drop vo).take (1 * k))⟩ ty fz) w w'
/-- put in, in new memory -/
def InsGrow (P : Program) (f : FuncId) (k bytes : Nat) (t : TypeId) : Prop :=
  ∀ (B off n c i Vb vo vc : Nat) (cc cv : Array Value) (ty tyv : TypeId) (fz fzv : Nat × Nat) (w : World), i < n → n ≤ c → c < n + 1 → roomB (n + 1) bytes = true → Vb ≠ B →
    w.heap[B]? = some (.cells cc ty fz) → off + c * k ≤ cc.size → w.heap[Vb]? = some (.cells cv tyv fzv) → vo + 1 * k ≤ cv.size →
    oneCells ((cc.toList.drop (off + i * k)).take ((n - i) * k)) = true → oneCells ((cv.toList.drop vo).take (1 * k)) = true →
    Calls P f #[.slice (some ⟨B, off, none⟩) n c, .int .i64 i, .slice (some ⟨Vb, vo, none⟩) 1 vc] w fun e w' =>
      NewRow w (n + 1) k ((cc.toList.drop off).take (i * k) ++ (cv.toList.drop vo).take (1 * k) ++ (cc.toList.drop (off + i * k)).take ((n - i) * k)) t e w'

/-- taken out -/
def DelRun (P : Program) (f : FuncId) (k : Nat) : Prop :=
  ∀ (B off n c i j : Nat) (cc : Array Value) (ty : TypeId) (fz : Nat × Nat) (w : World), i < j → j ≤ n → n ≤ c → n ≤ 9223372036854775807 →
    w.heap[B]? = some (.cells cc ty fz) → fz.2 ≤ fz.1 → off + c * k ≤ cc.size → oneCells ((cc.toList.drop (off + j * k)).take ((n - j) * k)) = true →
    Calls P f #[.slice (some ⟨B, off, none⟩) n c, .int .i64 i, .int .i64 j] w fun e w' =>
      e = .returned (.slice (some ⟨B, off, none⟩) (n - (j - i)) c) ∧
      ∃ Z : List Value, Z.length = (j - i) * k ∧ At B (.cells ⟨splice (splice cc.toList (off + i * k) ((cc.toList.drop (off + j * k)).take ((n - j) * k))) (off + (n - (j - i)) * k) Z⟩ ty fz) w w'
theorem shift_list {c X : List Value} {off a x s : Nat} (hX : X.length = x) (hl : off + (a + x + s) ≤ c.length) :
    ((splice (splice c (off + (a + x)) ((c.drop (off + a)).take s)) (off + a) X).drop off).take (a + x + s) = (c.drop off).take a ++ X ++ (c.drop (off + a)).take s := by
  apply List.ext_getElem?
  intro q
  unfold splice
  simp only [List.getElem?_take, List.getElem?_drop, List.getElem?_append, List.length_append, List.length_take, List.length_drop, hX]
  repeat' split
  all_goals first
    | omega
    | rfl
    | (congr 1; omega)
    | (rw [List.getElem?_eq_none (by omega)]; done)
    | (symm; rw [List.getElem?_eq_none (by omega)]; done)

/-- a list with something put in -/
def insAt {α : Type} (l : List α) (i : Nat) (a : α) : List α := l.take i ++ a :: l.drop i
theorem insAt_len {α : Type} {l : List α} {i : Nat} (h : i ≤ l.length) (a : α) : (insAt l i a).length = l.length + 1 := by
  unfold insAt; simp; omega
theorem insAt_flat {α : Type} (E : Enc α) (l : List α) (i : Nat) (a : α) : E.flat (insAt l i a) = E.flat (l.take i) ++ E.enc a ++ E.flat (l.drop i) := by
  unfold insAt; rw [Enc.flat_append, Enc.flat_cons, List.append_assoc]

theorem HR.heap {φ : Ren} {own : Nat → Prop} {hp : Hp} {w w' : World} (h : HR φ own hp w) (e : w'.heap = w.heap) : HR φ own hp w' :=
  ⟨fun i o hi => by rw [e]; exact h.obj i o hi, h.sep, h.mine, fun i L hi => by rw [e]; exact h.val i L hi, fun b hb => h.fresh b (by rwa [e] at hb)⟩

theorem insert_ok {P : Program} {f : FuncId} {α : Type} {E : Enc α} {bytes : Nat} {t : TypeId} (hS : InsShift P f E.size) (hG : InsGrow P f E.size bytes t)
    {hp : Hp} {top b xb i : Nat} {l : List α} {a : α} (hb : hp b = some (.cells true E.size (E.flat l))) (hx : hp xb = some (.cells true E.size (E.enc a))) (hne : xb ≠ b) (hi : i < l.length) (hroom : roomB (l.length + 1) bytes = true) :
    CalledOk P f [.slice (some ⟨b, 0, none⟩) l.length l.length, .int .i64 i, .slice (some ⟨xb, 0, none⟩) 1 1] hp top fun v h1 t1 =>
      v = .slice (some ⟨top, 0, none⟩) (l.length + 1) (l.length + 1) ∧ h1 = hp.sets [(b, none), (top, some (.cells true E.size (E.flat (insAt l i a))))] ∧ t1 = top + 1 := by
  intro φ own w args' hv H htop
  cases hv with
  | cons _ s' _ r1 hs hv =>
  cases hv with
  | cons _ k' _ r2 hk hv =>
  cases hv with
  | cons _ x' _ r3 hxv hv =>
  cases hv
  cases hk
  cases hs with
  | slice _ _ _ _ c' L hL _ hcc hlim =>
  cases hxv with
  | slice _ _ _ _ cx' Lx hLx _ hcx hlimx =>
  obtain ⟨L', hL', hok⟩ := H.obj _ _ hb
  rw [hL] at hL'; cases hL'
  obtain ⟨he, cc, ty, fz, hg, hsz, hlim', hvs, hfz⟩ := hok
  obtain ⟨Lx', hLx', hokx⟩ := H.obj _ _ hx
  rw [hLx] at hLx'; cases hLx'
  obtain ⟨hex, cv, tyv, fzv, hgx, hszx, hlimx', hvx, hfzx⟩ := hokx
  have hsep := H.sep xb b _ _ _ _ hx hb hne rfl hLx hL
  rw [Enc.flat_len] at hvs hlim'
  rw [E.len] at hvx hlimx'
  have hroom' := hroom
  unfold roomB at hroom'
  simp only [Bool.and_eq_true] at hroom'
  have hb1 := Nat.le_of_ble_eq_true hroom'.1
  have hlim2 : L.off + 0 + c' * E.size ≤ cc.size := by rw [hsz, he]; exact hlim
  have hvx1 : Lx.off + 0 + 1 * E.size ≤ cv.size := by rw [hszx]; omega
  -- what is known of the real cells
  have hsl : (l.length - i) * E.size + i * E.size = l.length * E.size := by rw [← Nat.add_mul]; congr 1; omega
  have hA : Vs φ (E.flat (l.take i)) ((cc.toList.drop (L.off + 0)).take (i * E.size)) := by
    have := hvs.take (i * E.size)
    rw [Enc.flat_take, List.take_take, Nat.min_eq_left (by omega)] at this
    exact this
  have hD : Vs φ (E.flat (l.drop i)) ((cc.toList.drop (L.off + 0 + i * E.size)).take ((l.length - i) * E.size)) := by
    have := hvs.drop (i * E.size)
    rw [Enc.flat_drop, List.drop_take, List.drop_drop, show l.length * E.size - i * E.size = (l.length - i) * E.size by omega] at this
    exact this
  have hX : Vs φ (E.enc a) ((cv.toList.drop (Lx.off + 0)).take (1 * E.size)) := by rw [Nat.one_mul]; exact hvx
  have o1 := oneCells_V hD
  rw [Enc.flat_one] at o1
  have o2 := oneCells_V hX
  rw [E.one] at o2
  have hXl : ((cv.toList.drop (Lx.off + 0)).take (1 * E.size)).length = E.size := by rw [hX.length, E.len]
  have hV3 : Vs φ (E.flat (insAt l i a)) ((cc.toList.drop (L.off + 0)).take (i * E.size) ++ (cv.toList.drop (Lx.off + 0)).take (1 * E.size) ++ (cc.toList.drop (L.off + 0 + i * E.size)).take ((l.length - i) * E.size)) := by
    rw [insAt_flat]; exact (hA.append hX).append hD
  have hfl : (E.flat (insAt l i a)).length = i * E.size + E.size + (l.length - i) * E.size := by
    rw [Enc.flat_len, insAt_len (by omega), Nat.succ_mul]; omega
  have htb : top ≠ b := fun e => by subst e; rw [htop _ (Nat.le_refl _)] at hL; cases hL
  have hle1 : φ.le (φ.ext top ⟨L.blk, L.off, L.esz, L.lim⟩) := Ren.le_ext (htop _ (Nat.le_refl _))
  by_cases hfit : l.length + 1 ≤ c'
  · refine Calls.mono (hS L.blk (L.off + 0) l.length c' i Lx.blk (Lx.off + 0) cx' cc cv ty tyv fz fzv w hi hfit (by omega) hsep hg (hfz.1 rfl) hlim2 hgx (hfzx.1 rfl) hvx1 o1 o2) ?_
    rintro e w' ⟨rfl, hw⟩
    have hcl : cc.toList.length = L.lim := by simpa using hsz
    have hl3 : L.off + 0 + (i * E.size + E.size + (l.length - i) * E.size) ≤ cc.toList.length := by
      have : (l.length + 1) * E.size ≤ c' * E.size := Nat.mul_le_mul_right _ hfit
      rw [Nat.succ_mul] at this
      simp only [Array.length_toList]
      omega
    have hrow := shift_list (c := cc.toList) (off := L.off + 0) (a := i * E.size) (s := (l.length - i) * E.size) hXl hl3
    rw [← Nat.succ_mul] at hrow
    refine ⟨_, _, _, _, φ.ext top ⟨L.blk, L.off, L.esz, L.lim⟩, rfl, ⟨rfl, rfl, rfl⟩, ⟨hle1, ?_, ?_, ?_, fun j hj => Ren.ext_none (htop j (by omega)) (by omega)⟩⟩
    · exact .slice top 0 _ _ _ ⟨L.blk, L.off, L.esz, L.lim⟩ (Ren.ext_same ..) (Nat.le_refl _) hfit hlim
    · have hm := H.move top b _ (.cells true E.size (E.flat (insAt l i a))) L ⟨L.blk, L.off, L.esz, L.lim⟩ hb rfl hL (htop _ (Nat.le_refl _)) rfl hw.size hw.oth (by
        refine ⟨he, _, ty, fz, hw.here, ?_, ?_, ?_, hfz⟩
        · have s1 : (splice cc.toList (L.off + 0 + (i + 1) * E.size) ((cc.toList.drop (L.off + 0 + i * E.size)).take ((l.length - i) * E.size))).length = cc.toList.length := splice_length (by
            rw [hD.length, Enc.flat_len, List.length_drop, Nat.succ_mul]; omega)
          have s2 : (splice (splice cc.toList (L.off + 0 + (i + 1) * E.size) ((cc.toList.drop (L.off + 0 + i * E.size)).take ((l.length - i) * E.size))) (L.off + 0 + i * E.size) ((cv.toList.drop (Lx.off + 0)).take (1 * E.size))).length = cc.toList.length := by
            rw [splice_length (by rw [s1, hXl]; omega), s1]
          rw [hcl] at s2
          simpa using s2
        · rw [hfl]; simp only [Array.length_toList] at hl3; rw [← hsz]; omega
        · rw [hfl, ← Nat.succ_mul]
          have h3 := hV3.mono hle1
          rw [← hrow] at h3
          exact h3)
      refine hm.sub fun k ok hk => ?_
      simp only [Hp.sets, Hp.set] at hk
      split at hk
      · rename_i hkt; simp only [hkt, if_true]; exact hk
      · rename_i hkt; simp only [hkt, if_false]; exact hk
    · exact ⟨by rw [hw.size]; exact Nat.le_refl _, fun k hk hn => hw.oth k fun e => hn (by subst e; exact H.mine b _ L hb rfl hL), hw.os, hw.tape, hw.output, fun k _ => by
        by_cases hk : k = L.blk
        · subst hk; rw [hw.here, hg]; rfl
        · rw [hw.oth k hk]⟩
  · refine Calls.mono (hG L.blk (L.off + 0) l.length c' i Lx.blk (Lx.off + 0) cx' cc cv ty tyv fz fzv w hi hcc (by omega) hroom hsep hg hlim2 hgx hvx1 o1 o2) ?_
    rintro e w' ⟨cap, extra, hcap, hext, rfl, hh, hsize, hoth, hos, htape, hout⟩
    obtain ⟨L2, k1, k2, k3, k4, k5, k6, k7, k8, k9⟩ := newRow_ok H htop hV3 E.size t extra w.drawn
    have heap : w'.heap = w.heap.push (.cells ⟨((cc.toList.drop (L.off + 0)).take (i * E.size) ++ (cv.toList.drop (Lx.off + 0)).take (1 * E.size) ++ (cc.toList.drop (L.off + 0 + i * E.size)).take ((l.length - i) * E.size)) ++ extra⟩ t) := by
      apply Array.ext_getElem?
      intro k
      by_cases hk : k = w.heap.size
      · subst hk; rw [hh]; simp
      · rw [hoth k hk, Array.getElem?_push, if_neg hk]
    refine ⟨_, _, _, _, φ.ext top L2, rfl, ⟨rfl, rfl, rfl⟩, ⟨k5, ?_, ?_, ?_, k9⟩⟩
    · have : V (φ.ext top L2) (.slice (some ⟨top, 0, none⟩) (l.length + 1) (l.length + 1)) (.slice (some ⟨L2.blk, L2.off + 0, none⟩) (l.length + 1) cap) := .slice _ _ _ _ _ L2 k6 (Nat.le_refl _) hcap (by
        rw [k2, k3, k4, hext, hfl]
        have : (l.length + 1) * E.size + (cap - (l.length + 1)) * E.size = cap * E.size := by rw [← Nat.add_mul]; congr 1; omega
        rw [Nat.succ_mul] at this
        omega)
      rw [k1, k2] at this
      exact this
    · refine (k7.heap (w' := w') heap).sub fun k ok hk => ?_
      simp only [Hp.sets, Hp.set] at hk ⊢
      split at hk
      · rename_i hkt; simp only [hkt, if_true]; exact hk
      · rename_i hkt; simp only [hkt, if_false]
        split at hk
        · cases hk
        · exact hk
    · exact ⟨by omega, fun k hk _ => hoth k (by omega), hos, htape, hout, fun k hk0 => by
        by_cases hk : k = w.heap.size
        · subst hk; rw [hh, Array.getElem?_eq_none (Nat.le_refl _)]; rfl
        · rw [hoth k hk]⟩
theorem cut_list {c S Z : List Value} {off a s : Nat} (hS : S.length = s) (hl : off + (a + s) + Z.length ≤ c.length) :
    ((splice (splice c (off + a) S) (off + (a + s)) Z).drop off).take (a + s) = (c.drop off).take a ++ S := by
  apply List.ext_getElem?
  intro q
  unfold splice
  simp only [List.getElem?_take, List.getElem?_drop, List.getElem?_append, List.length_append, List.length_take, List.length_drop, hS]
  repeat' split
  all_goals first
    | omega
    | rfl
    | (congr 1; omega)
    | (rw [List.getElem?_eq_none (by omega)]; done)
    | (symm; rw [List.getElem?_eq_none (by omega)]; done)
/-- a list with something taken out -/
def cutOut {α : Type} (l : List α) (i j : Nat) : List α := l.take i ++ l.drop j
theorem cutOut_len {α : Type} {l : List α} {i j : Nat} (h : i ≤ j) (hj : j ≤ l.length) : (cutOut l i j).length = l.length - (j - i) := by
  unfold cutOut; simp; omega
theorem cut_ok {P : Program} {f : FuncId} {α : Type} {E : Enc α} (hD : DelRun P f E.size)
    {hp : Hp} {top b i j : Nat} {l : List α} (hb : hp b = some (.cells true E.size (E.flat l))) (hij : i < j) (hj : j ≤ l.length) (hn63 : l.length ≤ 9223372036854775807) :
    CalledOk P f [.slice (some ⟨b, 0, none⟩) l.length l.length, .int .i64 i, .int .i64 j] hp top fun v h1 t1 =>
      v = .slice (some ⟨b, 0, none⟩) (cutOut l i j).length (cutOut l i j).length ∧ h1 = hp.sets [(b, some (.cells true E.size (E.flat (cutOut l i j))))] ∧ t1 = top := by
  intro φ own w args' hv H htop
  cases hv with
  | cons _ s' _ r1 hs hv =>
  cases hv with
  | cons _ k' _ r2 hk hv =>
  cases hv with
  | cons _ x' _ r3 hxv hv =>
  cases hv
  cases hk
  cases hxv
  cases hs with
  | slice _ _ _ _ c' L hL _ hcc hlim =>
  obtain ⟨L', hL', hok⟩ := H.obj _ _ hb
  rw [hL] at hL'; cases hL'
  obtain ⟨he, cc, ty, fz, hg, hsz, hlim', hvs, hfz⟩ := hok
  rw [Enc.flat_len] at hvs hlim'
  have hlim2 : L.off + 0 + c' * E.size ≤ cc.size := by rw [hsz, he]; exact hlim
  have hA : Vs φ (E.flat (l.take i)) ((cc.toList.drop (L.off + 0)).take (i * E.size)) := by
    have hi : i * E.size ≤ l.length * E.size := Nat.mul_le_mul_right _ (by omega)
    have := hvs.take (i * E.size)
    rw [Enc.flat_take, List.take_take, Nat.min_eq_left hi] at this
    exact this
  have hD2 : Vs φ (E.flat (l.drop j)) ((cc.toList.drop (L.off + 0 + j * E.size)).take ((l.length - j) * E.size)) := by
    have e : (l.length - j) * E.size = l.length * E.size - j * E.size := Nat.sub_mul ..
    have := hvs.drop (j * E.size)
    rw [Enc.flat_drop, List.drop_take, List.drop_drop, ← e] at this
    exact this
  have o1 := oneCells_V hD2
  rw [Enc.flat_one] at o1
  have hDl : ((cc.toList.drop (L.off + 0 + j * E.size)).take ((l.length - j) * E.size)).length = (l.length - j) * E.size := by rw [hD2.length, Enc.flat_len, List.length_drop]
  have hcl := cutOut_len (l := l) (show i ≤ j by omega) hj
  have hV : Vs φ (E.flat (cutOut l i j)) ((cc.toList.drop (L.off + 0)).take (i * E.size) ++ (cc.toList.drop (L.off + 0 + j * E.size)).take ((l.length - j) * E.size)) := by
    unfold cutOut; rw [Enc.flat_append]; exact hA.append hD2
  have hfl : (E.flat (cutOut l i j)).length = i * E.size + (l.length - j) * E.size := by
    rw [Enc.flat_len, hcl, ← Nat.add_mul]; congr 1; omega
  have hnn : l.length - (j - i) = i + (l.length - j) := by omega
  refine Calls.mono (hD L.blk (L.off + 0) l.length c' i j cc ty fz w hij hj hcc hn63 hg (hfz.1 rfl) hlim2 o1) ?_
  rintro e w' ⟨rfl, Z, hZ, hw⟩
  have hsum : i * E.size + (l.length - j) * E.size + (j - i) * E.size = l.length * E.size := by
    rw [← Nat.add_mul, ← Nat.add_mul]; congr 1; omega
  have hcl2 : cc.toList.length = L.lim := by simpa using hsz
  have hl3 : L.off + 0 + (i * E.size + (l.length - j) * E.size) + Z.length ≤ cc.toList.length := by rw [hZ, hcl2]; omega
  have hrow := cut_list (Z := Z) (a := i * E.size) hDl hl3
  rw [hnn, Nat.add_mul] at hw
  refine ⟨_, _, _, _, φ, rfl, ⟨rfl, rfl, rfl⟩, ⟨Ren.le_refl _, ?_, ?_, ?_, htop⟩⟩
  · rw [hcl]
    exact .slice b 0 _ _ c' L hL (Nat.le_refl _) (by omega) hlim
  · refine (H.put b _ (.cells true E.size (E.flat (cutOut l i j))) L hb rfl hL hw.size hw.oth ?_).sub fun k ok hk => ?_
    · refine ⟨he, _, ty, fz, hw.here, ?_, ?_, ?_, hfz⟩
      · have s1 : (splice cc.toList (L.off + 0 + i * E.size) ((cc.toList.drop (L.off + 0 + j * E.size)).take ((l.length - j) * E.size))).length = cc.toList.length := splice_length (by rw [hDl]; omega)
        have s2 : (splice (splice cc.toList (L.off + 0 + i * E.size) ((cc.toList.drop (L.off + 0 + j * E.size)).take ((l.length - j) * E.size))) (L.off + 0 + (i * E.size + (l.length - j) * E.size)) Z).length = cc.toList.length := by
          rw [splice_length (by rw [s1]; omega), s1]
        rw [hcl2] at s2
        simpa using s2
      · rw [hfl]; omega
      · rw [hfl]
        have h3 := hV
        rw [← hrow] at h3
        exact h3
    · simp only [Hp.sets, Hp.set] at hk
      exact hk
  · exact ⟨by rw [hw.size]; exact Nat.le_refl _, fun k hk hn => hw.oth k fun e => hn (by subst e; exact H.mine b _ L hb rfl hL), hw.os, hw.tape, hw.output, fun k _ => by
      by_cases hk : k = L.blk
      · subst hk; rw [hw.here, hg]; rfl
      · rw [hw.oth k hk]⟩
end Go.Dm

/- Lists in memory of their own: what slices.Insert and slices.Delete come to. -/
namespace Go.Dm

/-- a list in memory of its own: nil, or a block of just its rows -/
inductive OwnV {α : Type} (E : Enc α) (hp : Hp) : Value → List α → Prop
  | nil : OwnV E hp (.slice none 0 0) []
  | blk (b : Nat) (l : List α) (h : hp b = some (.cells true E.size (E.flat l))) (hn : l.length ≤ 9223372036854775807) : OwnV E hp (.slice (some ⟨b, 0, none⟩) l.length l.length) l
section
variable {α : Type} {E : Enc α} {hp : Hp} {v : Value} {l : List α}
theorem OwnV.slT (h : OwnV E hp v l) : SlT E hp v l := by
  cases h with
  | nil => exact .nils
  | blk b l h hn => exact .rows b 0 l.length true _ l h (by rw [List.drop_zero, List.take_of_length_le (by rw [Enc.flat_len]; exact Nat.le_refl _)]) (by rw [Enc.flat_len]; omega) (Nat.le_refl _) hn
theorem OwnV.mono {hp' : Hp} (h : OwnV E hp v l) (hk : ∀ b n c, v = .slice (some ⟨b, 0, none⟩) n c → hp' b = hp b) : OwnV E hp' v l := by
  cases h with
  | nil => exact .nil
  | blk b l h hn => exact .blk b l (by rw [hk b _ _ rfl]; exact h) hn
end
def dropU : Value → Upds
  | .slice (some ⟨b, _, _⟩) _ _ => [(b, none)]
  | _ => []
def ownS (b n : Nat) : Value := .slice (some ⟨b, 0, none⟩) n n
def ownO {α : Type} (E : Enc α) (l : List α) : Option AObj := some (.cells true E.size (E.flat l))
def insRes {α : Type} (E : Enc α) (v : Value) (l : List α) (i : Nat) (a : α) (top : Nat) : Value × Upds × Nat :=
  (ownS top (l.length + 1), dropU v ++ [(top, ownO E (insAt l i a))], top + 1)
def cutV {α : Type} (v : Value) (l : List α) (i j : Nat) : Value := if i = j then v else match v with
  | .slice (some ⟨b, _, _⟩) _ _ => ownS b (cutOut l i j).length
  | v => v
def cutU {α : Type} (E : Enc α) (v : Value) (l : List α) (i j : Nat) : Upds := if i = j then [] else match v with
  | .slice (some ⟨b, _, _⟩) _ _ => [(b, ownO E (cutOut l i j))]
  | _ => []
/-- another block than the list's -/
def Apart (x : Nat) : Value → Prop
  | .slice (some ⟨b, _, _⟩) _ _ => x ≠ b
  | _ => True
def InsPre {α : Type} (E : Enc α) (bytes : Nat) (hp : Hp) (v k : Value) (xb : Nat) : Prop :=
  ∃ (l : List α) (i : Nat) (a : α), OwnV E hp v l ∧ k = .int .i64 (i : Int) ∧ i ≤ l.length ∧ hp xb = some (.cells true E.size (E.enc a)) ∧ Apart xb v ∧ roomB (l.length + 1) bytes = true
def conIns {α : Type} (E : Enc α) (bytes : Nat) : Con := .det (fun args hp _ => match args with
    | [v, k, .slice (some ⟨xb, 0, none⟩) 1 1] => InsPre E bytes hp v k xb
    | _ => False) (fun args hp top => match args with
  | [v, k, .slice (some ⟨xb, _, _⟩) _ _] => insRes E v (E.rd hp v) (intOf k).toNat (E.dec (cellsOf (hp xb))) top
  | _ => (undef, [], top))
def CutPre {α : Type} (E : Enc α) (hp : Hp) (v k k2 : Value) : Prop :=
  ∃ (l : List α) (i j : Nat), OwnV E hp v l ∧ k = .int .i64 (i : Int) ∧ k2 = .int .i64 (j : Int) ∧ i ≤ j ∧ j ≤ l.length
def conDel {α : Type} (E : Enc α) : Con := .det (fun args hp _ => match args with
    | [v, k, k2] => CutPre E hp v k k2
    | _ => False) (fun args hp top => match args with
  | [v, k, k2] => (cutV v (E.rd hp v) (intOf k).toNat (intOf k2).toNat, cutU E v (E.rd hp v) (intOf k).toNat (intOf k2).toNat, top)
  | _ => (undef, [], top))
/-- nothing is taken out -/
def DelNop (P : Program) (f : FuncId) : Prop :=
  ∀ (base : Option Addr) (n c i : Nat) (w : World), i ≤ n → n ≤ c → Calls P f #[.slice base n c, .int .i64 i, .int .i64 i] w fun e w' => e = .returned (.slice base n c) ∧ w' = w
theorem del_con {P : Program} {f : FuncId} {fn : Func} (F : FOk P f fn) {α : Type} [Inhabited α] {E : Enc α} (hD : DelRun P f E.size) (hN : DelNop P f) : ConOk P f (conDel E) := by
  refine ⟨⟨fn, F.toFTOk⟩, fun args hp top hpre => ?_⟩
  match args, hpre with
  | [v, _, _], ⟨l, i, j, h, rfl, rfl, hij, hj⟩ =>
  simp only [intOf_int, Int.toNat_natCast, h.slT.rd]
  by_cases e : i = j
  · subst e
    simp only [cutV, cutU, if_true]
    intro φ own w args' hv H htop
    cases hv with
    | cons _ s' _ r1 hs hv =>
    cases hv with
    | cons _ k' _ r2 hk hv =>
    cases hv with
    | cons _ x' _ r3 hxv hv =>
    cases hv
    cases hk
    cases hxv
    have key : ∃ base n c', s' = .slice base n c' ∧ i ≤ n ∧ n ≤ c' := by
      cases h with
      | nil => cases hs; exact ⟨none, 0, 0, rfl, hj, Nat.le_refl _⟩
      | blk b l h hn =>
        cases hs with
        | slice _ _ _ _ c' L hL _ hcc hlim => exact ⟨_, _, _, rfl, hj, hcc⟩
    obtain ⟨base, n, c', rfl, h1, h2⟩ := key
    refine Calls.mono (hN base n c' i w h1 h2) ?_
    rintro e w' ⟨rfl, rfl⟩
    exact ⟨v, hp, top, _, φ, rfl, ⟨rfl, rfl, rfl⟩, ⟨Ren.le_refl _, hs, H, K.refl _ _, htop⟩⟩
  · cases h with
    | nil => simp at hj; omega
    | blk b l h hn =>
      simp only [cutV, cutU, if_neg e]
      exact cut_ok hD h (by omega) hj hn
/-- an append to a list of one's own -/
theorem appendA_ownV {α : Type} {E : Enc α} {hp : Hp} {v : Value} {l : List α} {tt : TTab} {top t0 t1 e k : Nat} {i1 j : TI} {a : α} (h0 : kindOf tt t0 = some (.slice e)) (h1 : tt t1 = some i1) (hi : isIntD i1.ud = false) (hj : tt e = some j) (hs : j.size = E.size) (hby : Nat.ble j.bytes 65536 = true)
    (h : OwnV E hp v l) (hk : hp k = some (.cells true E.size (E.enc a))) (hn : roomB (l.length + 1) j.bytes = true) :
    appendA tt hp top [t0, t1] v (.slice (some ⟨k, 0, none⟩) 1 1) = some (ownS top (l.length + 1), dropU v ++ [(top, ownO E (insAt l l.length a))], top + 1) := by
  obtain ⟨i, hi0, hd⟩ := kindOf_some h0
  have hx : SlT E hp (.slice (some ⟨k, 0, none⟩) 1 1) [a] := SlT.one hk
  have hf := hx.firstA
  have hlx := hx.lenOfA
  simp only [List.length_singleton] at hf hlx
  have h3 := E.flat_one [a]
  have h4 : Nat.beq (E.flat [a]).length (1 * E.size) = true := by rw [Enc.flat_len]; simp
  have h5 : Nat.beq E.size E.size = true := by simp
  have hins : insAt l l.length a = l ++ [a] := by simp [insAt]
  rw [hins]
  cases h with
  | nil =>
    have h6 : Nat.beq 1 0 = false := rfl
    have h7 : roomB 1 j.bytes = true := hn
    simp only [appendA, hi0, h1, hlx, hi, hd, hj, hs, hf, hby, h3, h4, h6, h7, Bool.and_self, ownS, ownO, dropU, List.nil_append, List.length_nil, Nat.zero_add]
  | blk b l hb hl =>
    have h6 : (Nat.ble (l.length + 1) l.length && !Nat.beq l.length l.length) = false := by rw [Nat.beq_refl]; simp
    have h7 : (Nat.beq (0 + l.length * E.size) (E.flat l).length && roomB (l.length + 1) j.bytes) = true := by
      rw [Bool.and_eq_true]
      exact ⟨by rw [Enc.flat_len]; simp, hn⟩
    simp only [appendA, hi0, h1, hlx, hi, hd, hj, hs, hf, hby, hb, h3, h4, h5, h6, h7, Bool.and_self, ownS, ownO, dropU, List.drop_zero, Enc.flat_append, List.cons_append, List.nil_append]
end Go.Dm

