/- NetMends, the row: the arguments are opened, the walk is run over them, and they read as they did. No condition. -/
import Derived.Test.YtmppehipfpkepaaRows
import Derived.Test.YtmppehipfpkepaaNR
import Derived.Test.YtmppehipfpkepaaNMW
import Derived.WalkKit
import Derived.ProofKit
import Derived.OpenShut
import Derived.SizedLaws
set_option linter.unusedSimpArgs false
set_option linter.unusedVariables false
namespace Go.Proofs.Ytmppehipfpkepaa.netMends
open Go.ChangeShapes Go.WideShapes Go.ChangeAt Go.RowKit
open Go.Dm Go.Proofs.Ytmppehipfpkepaa.Dm
theorem own : ownKnob Try.prog.godebug = none := by kernel_rfl
/-! ### the run -/
set_option maxRecDepth 20000 in
theorem walk {H : Type} {enc : TypeId × Value → H} {W : World} {base : Nat} {v0 v1 v2 : Value} {d0 d1 d2 : DataW H} {p0 p1 p2 : List MemPlace}
    (h0 : DataW.Trod enc Try.prog W 0 (fun _ => true) true 5 v0 d0 p0) (w0 : ∀ n ∈ d0.weights Try.prog 5, n ≤ reachBytes) (o0 : Value.okWide Try.prog W .any base 5 v0)
    (h1 : DataW.Trod enc Try.prog W 0 (fun _ => true) true 5 v1 d1 p1) (w1 : ∀ n ∈ d1.weights Try.prog 5, n ≤ reachBytes) (o1 : Value.okWide Try.prog W .any base 5 v1)
    (h2 : DataW.Trod enc Try.prog W 0 (fun _ => true) true 5 v2 d2 p2) (w2 : ∀ n ∈ d2.weights Try.prog 5, n ≤ reachBytes) (o2 : Value.okWide Try.prog W .any base 5 v2) :
    Calls Try.prog 6 #[v0, v1, v2] W (GoodEnd W) := by
  obtain ⟨x0, rfl, lo0, hi0⟩ := okIntV (k := .u8) Try.underlying5 o0
  obtain ⟨x1, rfl, lo1, hi1⟩ := okIntV (k := .u8) Try.underlying5 o1
  obtain ⟨x2, rfl, lo2, hi2⟩ := okIntV (k := .u8) Try.underlying5 o2
  have hrb : reachBytes ≤ 140737488351232 := by decide
  have hw := mends_ok.2 [.int .u8 x0, .int .u8 x1, .int .u8 x2] (fun _ => none) ⟨lo0, hi0, lo1, hi1, lo2, hi2⟩ 0
  exact goodEnd hw (.cons _ _ _ _ (.int _ _) (.cons _ _ _ _ (.int _ _) (.cons _ _ _ _ (.int _ _) .nil))) (Opened.nil W)
/-! ### the row -/
theorem laid : laidOutB Try.prog = true := by kernel_rfl
theorem rec5 : Try.prog.readableRec 5 = true := by kernel_rfl
theorem row5 : 5 < Try.prog.types.size := of_decide_eq_true (by kernel_rfl)
set_option maxRecDepth 100000 in
theorem lifted (os : Os) (started : os.Started) (H : Type) (enc : TypeId × Value → H) :
    ReturnsInHanded {} Try.checked os 6 .any (Rows.netMendsSpec.pre6 enc Try.prog Try.f6 Rows.netMendsRow.domain false) (Rows.netMendsSpec.post enc Try.prog Try.f6 false true false false) := by
  refine returnsInHanded_of_change_sized (C := Try.checked) own started (by kernel_rfl) Try.func6
    (ChangeSpec.witness6 (enc := enc) (C := Try.checked) false ⟨#[], #[.int .u8 0, .int .u8 0, .int .u8 0], []⟩ 8 (by kernel_rfl) (by kernel_rfl) (by kernel_rfl) (by kernel_rfl)) ?_
  intro W base args ds gs before hval0 hW hcnd hz0 _
  have hval : ∀ (j : Nat) t v, Try.f6.params[j]? = some t → args[j]? = some v → Value.okWide Try.prog W .any base t v := hval0
  have hz : ∀ (j : Nat) t (d : DataW H), (Try.f6.params.toList ++ Rows.netMendsSpec.plain.varTypes Try.prog)[j]? = some t → (ds ++ gs)[j]? = some d → ∀ n ∈ d.weights Try.prog t, n ≤ reachBytes :=
    fun j t d ht hd n hn => of_decide_eq_true (List.all_eq_true.1 hz0 n (DataW.weights_mem_each ht hd n hn))
  have hW' := hW
  have hlt := hW.lt
  obtain ⟨p, q, hA0, hV, rfl, hfz, hnd⟩ := hW
  have hA : DataW.TrodAll enc Try.prog W 0 (fun _ => true) true Try.f6.params.toList args.toList ds p := hA0
  rw [Try.params6] at hA hval hz
  obtain ⟨v0, v1, v2, d0, d1, d2, p0, p1, p2, rfl, rfl, rfl, h0, h1, h2⟩ := trodAll_three hA
  obtain ⟨rfl, rfl⟩ := trodVars_none hV
  clear hA0 hval0
  simp only [List.append_nil] at hW' hlt
  refine (walk h0 (hz 0 5 d0 rfl rfl) (hval 0 5 v0 rfl rfl) h1 (hz 1 5 d1 rfl rfl) (hval 1 5 v1 rfl rfl) h2 (hz 2 5 d2 rfl rfl) (hval 2 5 v2 rfl rfl)).mono fun e W' ⟨he, hb⟩ => ?_
  subst he
  refine ⟨_, rfl, post_below (pa := (p0 ++ (p1 ++ (p2 ++ [])))) (pv := []) hW' (fun _ _ _ => (trodAll_cons_mk (shut_bool Try.underlying4 _) trodAll_mk0)) (fun sp hsp => ?_) (fun _ _ => rfl) (by simp)
    (hb.frame _)⟩
  exact (trodAll_cons_mk (WideElems.Trod_stays laid rec5 row5 h0 (fun x hx => hb.same (hlt x (by simp [hx]))) (fun x hx => hsp x (by simp [hx]))) (trodAll_cons_mk (WideElems.Trod_stays laid rec5 row5 h1 (fun x hx => hb.same (hlt x (by simp [hx]))) (fun x hx => hsp x (by simp [hx]))) (trodAll_cons_mk (WideElems.Trod_stays laid rec5 row5 h2 (fun x hx => hb.same (hlt x (by simp [hx]))) (fun x hx => hsp x (by simp [hx]))) trodAll_mk0)))
theorem over : Rows.netMendsRow.holds Try.pinned (OpenSpec.ofChange Rows.netMendsSpec) :=
  OpenClaim.holds_of_wide 6 Try.f6 rfl rfl rfl rfl rfl rfl rfl ⟨rfl, rfl, rfl, rfl, rfl⟩ rfl rfl rfl rfl rfl (by kernel_rfl) Try.func6 (by kernel_rfl)
    (of_decide_eq_true (by kernel_rfl)) (by unfold Func.isWrapper; first | (rw [if_pos (by decide +kernel)]; kernel_rfl) | (rw [if_neg (by decide +kernel)]; exact ⟨rfl, rfl⟩))
    (fun os started H enc _ => lifted os started H enc)
/-- THE STATEMENT -/
theorem proved : Rows.NetMendsSaid :=
  over
#print axioms proved
end Go.Proofs.Ytmppehipfpkepaa.netMends
