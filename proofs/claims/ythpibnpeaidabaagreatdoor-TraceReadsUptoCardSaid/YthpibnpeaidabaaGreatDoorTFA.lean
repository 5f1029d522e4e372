/- errors.Is of a fault and its number (after the kit's worked example). -/
import Derived.Test.YthpibnpeaidabaaGreatDoorTB4
import Derived.WalkKit
import Derived.LaidEql
import Derived.Stop.Asserts
import Derived.RowKitTokens
import Derived.Test.YthpibnpeaidabaaGreatDoorTPC
set_option linter.unusedVariables false
namespace Go.Proofs.YthpibnpeaidabaaGreatDoor.Dm
open Go.RowKit Go.Extern.Stop Go.Stop Go.Extern
set_option maxRecDepth 100000
set_option maxHeartbeats 4000000
theorem Tis_typeOf (v : Value) (w : World) : (Extern.ReflectliteType.typeOf #[.iface 24 v]).run Tryz.prog w = .ok (.iface 127 (.agg #[.pointer (some ⟨9, 24, none⟩)])) w := by kernel_rfl
theorem Tis_comparable (w : World) : ((Extern.ReflectliteType.method fun t => do Rtype.noPackHeld "Comparable" t; (fun a => Value.bool a.comparable) <$> typeInfo t) #[.agg #[.pointer (some ⟨9, 24, none⟩)]]).run Tryz.prog w = .ok (.bool true) w := by kernel_rfl
theorem Tis_methodComparable (v : Value) (w : World) : (Go.method 331 127 v "Comparable").run Tryz.prog w = .ok (169, v) w := by kernel_rfl
theorem Tis_comp : (Tryz.prog.info? 24).map (·.comparable) = some true := by kernel_rfl
theorem Tis_noIsF (v : Value) (xT : TypeId) (w : World) : (Instr.typeAssert (.iface 84 v) xT 129 true).run Tryz.prog w = .ok (.tuple #[.nilIface, .bool false]) w := run_typeAssert_lacksB Tryz.underlying129 (by kernel_rfl) (by kernel_rfl) v xT w
theorem Tis_hasUnwrapF (v : Value) (xT : TypeId) (w : World) : (Instr.typeAssert (.iface 84 v) xT 132 true).run Tryz.prog w = .ok (.tuple #[.iface 84 v, .bool true]) w := run_typeAssert_hasB Tryz.underlying132 (by kernel_rfl) v xT w
theorem Tis_methodUnwrap (v : Value) (w : World) : (Go.method 331 84 v "Unwrap").run Tryz.prog w = .ok (163, v) w := by kernel_rfl
theorem run_eql_iface_int {P : Program} {ti tp : TypeId} {ms : Array (String × TypeId)} {i : TypeInfo} {k : IntKind} (w : World) (n : Int)
    (hi : P.underlying ti = some (.interface ms)) (hp : P.underlying tp = some (.int k)) (hinfo : P.info? tp = some i) (hcomp : i.comparable = true) :
    (binOp .eql ti (.iface tp (.int k n)) (.iface tp (.int k n))).run P w = .ok (.bool true) w := by
  have h : ∀ d : Nat, (Op.equalIn (d + 2) ti (.iface tp (.int k n)) (.iface tp (.int k n))).run P w = .ok true w := fun d => by
    simp [Op.equalIn, run_underlying hi, run_underlying hp, typeInfo, hinfo, hcomp]
  simp only [binOp]
  simp [Op.equal, Op.maxDepth, h 9998]
/-- errors.Is(a fault, its own number). -/
theorem is_fault (pb po : Nat) (c : Int) (w : World) (h1 : w.cell? ⟨pb, po, none⟩ = some (.int .i64 c)) :
    Calls Tryz.prog 27 #[.iface 84 (.pointer (some ⟨pb, po, none⟩)), .iface 24 (.int .i64 c)] w fun e w' => e = .returned (.bool true) ∧ w' = w := by
  obtain ⟨i, hi, hcmp⟩ := Option.map_eq_some_iff.1 Tis_comp
  have h8 := @run_callFunc_extern Tryz.prog 53 _ Extern.ReflectliteType.typeOf Tryz.func53 (by kernel_rfl) (by kernel_rfl) (by kernel_rfl) (by kernel_rfl)
  have h32 := @run_callFunc_extern Tryz.prog 169 _ (Extern.ReflectliteType.method fun t => do Rtype.noPackHeld "Comparable" t; pure (.bool (← typeInfo t).comparable)) Tryz.func169 (by kernel_rfl) (by kernel_rfl) (by kernel_rfl) (by kernel_rfl)
  have tT := Tis_typeOf
  have cT := Tis_comparable
  have mR := Tis_methodComparable
  have nF := Tis_noIsF
  have uF := Tis_hasUnwrapF
  have mU := Tis_methodUnwrap
  have heq := fun W => run_eql_iface_int (P := Tryz.prog) W c Tryz.underlying35 Tryz.underlying24 hi hcmp
  have hty := fun W => run_eql_iface_types (P := Tryz.prog) 84 24 (.pointer (some ⟨pb, po, none⟩)) (.int .i64 c) Tryz.underlying35 (by decide) W
  go_enter Tryz.func27, Tryz.ntmps27
  go_wp2
  refine wp_loop_rounds 2 ?_
  rw [rounds_succ]
  go_wp2
  rw [rounds_succ]
  go_wp2
  go_ret
  exact ⟨rfl, rfl⟩
end Go.Proofs.YthpibnpeaidabaaGreatDoor.Dm
/- fault. -/
set_option linter.unusedVariables false
namespace Go.Proofs.YthpibnpeaidabaaGreatDoor.Dm
open Go.Dm Go.RowKit
set_option maxHeartbeats 16000000
set_option maxRecDepth 20000
def conIs : Con := .pure (fun args hp => match args with
    | [.iface t (.pointer (some ⟨e, 0, none⟩)), .iface u (.int .i64 c)] => t = 84 ∧ u = 24 ∧ ∃ n, hp e = fltO c n
    | _ => False) (fun _ _ => .bool true)
theorem is_ok : ConOk Tryz.prog 27 conIs := by
  refine ⟨⟨_, fn27_ok.toFTOk⟩, fun args hp hpre top => ?_⟩
  match args, hpre with
  | [.iface t (.pointer (some ⟨e, 0, none⟩)), .iface u (.int .i64 c)], ⟨ht, hu, n, he⟩ =>
  subst ht hu
  intro φ own w args' hargs H htop
  cases hargs with
  | cons _ _ _ _ hx hl =>
  cases hl with
  | cons _ _ _ _ hy hl =>
  cases hl
  cases hx with
  | iface _ _ xv hx =>
  cases hy with
  | iface _ _ yv hy =>
  cases hy
  cases hx with
  | ptr _ _ L hL =>
  obtain ⟨L', hL', hok⟩ := H.obj e _ he
  rw [hL] at hL'; cases hL'
  obtain ⟨_, cs, ct, fz, hh, hsz, hlim, hvs, _⟩ := hok
  have hoff : L.off < cs.size := by simp at hlim; omega
  have h1 : w.cell? ⟨L.blk, L.off + 0, none⟩ = some (.int .i64 c) := by
    rw [List.drop_eq_getElem_cons (by simpa using hoff)] at hvs
    cases hvs with
    | cons _ _ _ _ h0 _ =>
    have h0' := h0
    generalize hq : cs.toList[L.off] = q at h0'
    cases h0'
    simp [World.cell?, hh, hoff]
    simpa using hq
  refine Calls.mono (is_fault L.blk (L.off + 0) c w h1) ?_
  rintro ev w' ⟨rfl, rfl⟩
  exact ⟨_, _, _, _, φ, rfl, ⟨rfl, rfl, rfl⟩, ⟨Dm.Ren.le_refl _, .bool _, H, Dm.K.refl _ _, htop⟩⟩
/-- the error that is to be -/
def WantOk (hp : Hp) (v : Value) (c n : Int) : Prop := (c = 0 ∧ v = .nilIface) ∨ (c ≠ 0 ∧ ∃ e, v = .iface 84 (.pointer (some ⟨e, 0, none⟩)) ∧ hp e = fltO c n)
def conFault : Con := .pure (fun args hp => match args with | [v, .agg ⟨[.int .i64 c, .int .i64 n]⟩] => WantOk hp v c n ∧ hp 7 = hdlE | _ => False) (fun _ _ => .bool true)
def GF1 : FuncId → Con := addG GP1 27 conIs
theorem envF1 : EnvV Tryz.prog tt.get GF1 := envP1.add is_ok
theorem GF1_a : GF1 44 = conAs := rfl
theorem GF1_i : GF1 27 = conIs := rfl
theorem ex_flt {c n : Int} : (∃ m, some (AObj.cells true 0 [.int .i64 c, .int .i64 n]) = fltO c m) = True := eq_true ⟨n, rfl⟩
theorem if_errno {n : Int} : ifaceA tt.get 24 (.int .i64 n) = some (.iface 24 (.int .i64 n)) := by simp [ifaceA, t_Errno, ti24]
theorem fault_ok : ConOk Tryz.prog 16 conFault := by
  refine .mkRd fn16_ok ?_ ?_
  · intro args hp h
    match args, h with
    | [v, .agg ⟨[.int .i64 c, .int .i64 n]⟩], _ => rfl
  intro args hp hpre top hcl hsc
  match args, hpre with
  | [v, .agg ⟨[.int .i64 c, .int .i64 n]⟩], ⟨hv, h7⟩ =>
  have h70 := hcl.lt _ _ h7
  rcases hv with ⟨rfl, rfl⟩ | ⟨hc, e, rfl, he⟩
  · refine CalledOk.of_fun tt_ok fn16_ok rfl 47 rfl [.tmp 4] rfl (show 2 ≤ 47 by decide) ?_
    refine CW.vc envF1 [0, 1, 3, 4, 5, 8] (by kernel_rfl) ?_
    (repeat ((try refine Vc.mk' ?_); simp (config := { maxSteps := 6000000 }) only [go_sem, Nat.reduceAdd, eql_n]))
  · have he0 := hcl.lt _ _ he
    unfold fltO at he
    refine CalledOk.of_fun tt_ok fn16_ok rfl 47 rfl [.tmp 4] rfl (show 2 ≤ 47 by decide) ?_
    refine CW.vc envF1 [0, 1, 3, 4, 5, 8] (by kernel_rfl) ?_
    (repeat ((try refine Vc.mk' ?_); simp (config := { maxSteps := 6000000 }) only [go_sem, reduceCtorEq, Nat.reduceAdd, Nat.reduceLeDiff, GF1_a, conAs, GF1_i, conIs, neq_i, he, h7, set_lt he0, set_lt h70, if_ppf, if_errno, ex_one, ex_flt, hc, decide_true, decide_false]))
end Go.Proofs.YthpibnpeaidabaaGreatDoor.Dm
