/- strings.SplitN at a blank, strings.Cut at a new line, slices.Index of texts: the library's contracts. -/
import Derived.Test.YthpibnpeaidabaaGreatDoorTP2
import Derived.Lib.Split
import Derived.Lib.IndexMore
set_option linter.unusedVariables false
namespace Go.Proofs.YthpibnpeaidabaaGreatDoor.Dm
open Go.Dm
set_option maxHeartbeats 16000000
set_option maxRecDepth 20000
/-! ### SplitN -/
/-- cut at the first k blanks -/
def spK : Nat → List UInt8 → List (List UInt8)
  | 0, s => [s]
  | k + 1, s => Lib.splitK [32] 0 (k + 1) s
def spC (s : List UInt8) : Nat := min 7 (s.length + 1)
def sp7 (s : List UInt8) : List (List UInt8) := Lib.splitK [32] 0 (spC s - 1) s
def sp7Cells (s : List UInt8) : List Value := (sp7 s).map (fun x => Value.string ⟨⟨x⟩⟩) ++ List.replicate (spC s - (sp7 s).length) (.string ⟨⟨[]⟩⟩)
def sp7V (s : List UInt8) (top : Nat) : Value := .slice (some ⟨top, 0, none⟩) (sp7 s).length (spC s)
def conSp7 : Con := .det (fun args hp _ => match args with | [.string ⟨⟨s⟩⟩, .string ⟨⟨sep⟩⟩, .int .i64 n] => s.length < 4294967281 ∧ sep = [32] ∧ n = 7 ∧ ∃ m, hp 2 = some (varO 3 (.int .i64 m)) | _ => False)
  (fun args _ top => match args with | [s, _, _] => (sp7V (strOf s) top, [(top, some (.cells true 1 (sp7Cells (strOf s))))], top + 1) | _ => (undef, [], top))
theorem splitK_len (sep : List UInt8) (sv : Nat) : ∀ (k : Nat) (s : List UInt8), 1 ≤ (Lib.splitK sep sv k s).length ∧ (Lib.splitK sep sv k s).length ≤ k + 1
  | 0, s => by simp [Lib.splitK]
  | k + 1, s => by
    unfold Lib.splitK
    split
    · simp
    · have := splitK_len sep sv k (s.drop ((Lib.index s sep).toNat + sep.length))
      simp only [List.length_cons]; omega
theorem sp7_len (s : List UInt8) : 1 ≤ (sp7 s).length ∧ (sp7 s).length ≤ spC s ∧ spC s ≤ 7 := by
  have := splitK_len [32] 0 (spC s - 1) s
  unfold sp7
  have h2 : 1 ≤ spC s ∧ spC s ≤ 7 := by unfold spC; omega
  omega
theorem sp7_slt {hp : Hp} {b : Nat} {s : List UInt8} (h : hp b = some (.cells true 1 (sp7Cells s))) : SlT e_string hp (sp7V s b) (sp7 s) := by
  have hl := sp7_len s
  refine .rows b 0 (spC s) true (sp7Cells s) (sp7 s) h ?_ ?_ ?_ ?_
  · have e : e_string.flat (sp7 s) = (sp7 s).map (fun x => Value.string ⟨⟨x⟩⟩) := by
      generalize sp7 s = l
      induction l with
      | nil => rfl
      | cons a l ih => rw [Enc.flat_cons, ih]; rfl
    rw [e, List.drop_zero]
    show (sp7Cells s).take ((sp7 s).length * 1) = _
    unfold sp7Cells
    rw [Nat.mul_one, List.take_left' (by simp)]
  · show 0 + (sp7 s).length * 1 ≤ _
    simp [sp7Cells]
  · omega
  · omega
theorem vs_strs {φ : Dm.Ren} : ∀ l : List (List UInt8), Vs φ (l.map fun x => Value.string ⟨⟨x⟩⟩) (l.map fun x => Value.string ⟨⟨x⟩⟩)
  | [] => .nil
  | a :: l => .cons _ _ _ _ (.str _) (vs_strs l)
theorem vs_pad {φ : Dm.Ren} : ∀ n : Nat, Vs φ (List.replicate n (Value.string ⟨⟨[]⟩⟩)) (List.replicate n (Value.string ⟨⟨[]⟩⟩))
  | 0 => .nil
  | n + 1 => .cons _ _ _ _ (.str _) (vs_pad n)
theorem splitN_ok : ConOk Tryz.prog 38 conSp7 := by
  refine ⟨⟨_, fn38_ok.toFTOk⟩, fun args hp top hpre => ?_⟩
  match args, hpre with
  | [.string ⟨⟨s⟩⟩, .string ⟨⟨sep⟩⟩, .int .i64 n], ⟨hs, hsep, hn, m, hm⟩ =>
  subst hsep hn
  intro φ own w args' ha H htop
  cases ha with
  | cons _ _ _ _ hx hl =>
  cases hx
  cases hl with
  | cons _ _ _ _ hx hl =>
  cases hx
  cases hl with
  | cons _ _ _ _ hx hl =>
  cases hx
  cases hl
  obtain ⟨v', hv, hc⟩ := var_at H (by omega) hm
  cases hv
  refine (Tryz.strings_SplitN ⟨⟨s⟩⟩ ⟨⟨[32]⟩⟩ 7 m w hs hc (by decide) (by decide) (by decide)).mono ?_
  rintro e w' ⟨rfl, rfl⟩
  have hsz : (⟨⟨s⟩⟩ : ByteArray).size = s.length := rfl
  rw [hsz]
  have hC : min 7 (s.length + 1) = spC s := rfl
  rw [hC]
  have hd : (Lib.splitB ⟨⟨[32]⟩⟩ 0 (spC s - 1) (⟨⟨s⟩⟩ : ByteArray)).map (·.data.toList) = sp7 s := Lib.splitB_data ⟨⟨[32]⟩⟩ 0 (spC s - 1) (⟨⟨s⟩⟩ : ByteArray)
  generalize Lib.splitB ⟨⟨[32]⟩⟩ 0 (spC s - 1) (⟨⟨s⟩⟩ : ByteArray) = l at hd
  have hln : l.length = (sp7 s).length := by rw [← hd, List.length_map]
  have hle := sp7_len s
  have hcells : (Lib.cellsOf l (spC s)).toList = sp7Cells s := by
    unfold Lib.cellsOf sp7Cells
    rw [← hd, List.length_map, List.map_map]
    show _ ++ _ = _ ++ _
    congr 1
  have hcz : (Lib.cellsOf l (spC s)).size = spC s := Lib.cellsOf_size (by omega)
  have hcl : (sp7Cells s).length = spC s := by rw [← hcells, Array.length_toList, hcz]
  have hok : OkObj φ ⟨w.heap.size, 0, 1, spC s⟩ (.cells true 1 (sp7Cells s)) (some (.cells (Lib.cellsOf l (spC s)) 9)) := by
    refine ⟨rfl, _, 9, (0, 0), rfl, hcz, by show 0 + (sp7Cells s).length ≤ spC s; omega, ?_, ⟨fun _ => Nat.le_refl _, (fun e => by cases e), fun _ h => absurd h (by decide)⟩⟩
    rw [List.drop_zero, hcells, List.take_of_length_le (by omega)]
    unfold sp7Cells
    exact (vs_strs _).append (vs_pad _)
  have HA := H.alloc top _ _ _ w.drawn (htop top (Nat.le_refl _)) rfl hok
  refine ⟨sp7V s top, hp.sets [(top, some (.cells true 1 (sp7Cells s)))], top + 1, _, φ.ext top ⟨w.heap.size, 0, 1, spC s⟩, rfl, ⟨rfl, rfl, rfl⟩, ⟨Dm.Ren.le_ext (htop top (Nat.le_refl _)), ?_, ?_, K.alloc own w _ w.drawn rfl, ?_⟩⟩
  · rw [hln]
    unfold sp7V
    have := V.slice (φ := φ.ext top ⟨w.heap.size, 0, 1, spC s⟩) top 0 (sp7 s).length (spC s) (spC s) ⟨w.heap.size, 0, 1, spC s⟩ (Dm.Ren.ext_same ..) hle.2.1 (Nat.le_refl _) (by simp)
    exact this
  · have e : hp.sets [(top, some (.cells true 1 (sp7Cells s)))] = hp.upd top (.cells true 1 (sp7Cells s)) := by
      funext j; simp only [sets_cons, sets_nil, Hp.set, Hp.upd]
    rw [e]; exact HA
  · intro j hj
    have : ¬ j = top := by omega
    simp only [Dm.Ren.ext, this, if_false]
    exact htop j (by omega)
/-! ### Cut -/
def cutF (s : List UInt8) : List UInt8 × List UInt8 × Bool := Lib.cut s [10]
def cutV (s : List UInt8) : Value := .tuple ⟨[.string ⟨⟨(cutF s).1⟩⟩, .string ⟨⟨(cutF s).2.1⟩⟩, .bool (cutF s).2.2]⟩
def conCut : Con := .pure (fun args hp => match args with | [.string ⟨⟨s⟩⟩, .string ⟨⟨sep⟩⟩] => s.length < 4294967281 ∧ sep = [10] ∧ ∃ m, hp 2 = some (varO 3 (.int .i64 m)) | _ => False) (fun args _ => match args with | [s, _] => cutV (strOf s) | _ => undef)
theorem cut_ok : ConOk Tryz.prog 43 conCut := by
  refine ⟨⟨_, fn43_ok.toFTOk⟩, fun args hp hpre top => ?_⟩
  match args, hpre with
  | [.string ⟨⟨s⟩⟩, .string ⟨⟨sep⟩⟩], ⟨hs, hsep, m, hm⟩ =>
  subst hsep
  refine CalledOk.of_lib rfl fun φ own w args' ha H => ?_
  cases ha with
  | cons _ _ _ _ hx hl =>
  cases hx
  cases hl with
  | cons _ _ _ _ hx hl =>
  cases hx
  cases hl
  obtain ⟨v', hv, hc⟩ := var_at H (by omega) hm
  cases hv
  refine (Tryz.strings_Cut ⟨⟨s⟩⟩ ⟨⟨[10]⟩⟩ m w hs hc).mono ?_
  rintro e w' ⟨rfl, n, rfl⟩
  exact ⟨rfl, ⟨rfl, rfl, rfl, Nat.le_refl _, fun i hi => rfl⟩⟩
/-! ### Index -/
/-- the place of a text; -1: there is none -/
def idxS : List (List UInt8) → List UInt8 → Nat → Int
  | [], _, _ => -1
  | y :: l, x, i => if x = y then (i : Int) else idxS l x (i + 1)
def strsV (l : List (List UInt8)) : List Value := l.map fun x => .string ⟨⟨x⟩⟩
def rdS (hp : Hp) (v : Value) : List (List UInt8) := match v with
  | .slice (some ⟨b, _, _⟩) _ _ => (match hp b with
    | some (.cells _ _ vs) => vs.map strOf
    | _ => [])
  | _ => []
def ArrS (hp : Hp) (v : Value) (l : List (List UInt8)) : Prop := ∃ b rw z, v = .slice (some ⟨b, 0, none⟩) l.length l.length ∧ hp b = some (.cells rw z (strsV l)) ∧ l.length ≤ 1000
theorem ArrS.rd {hp : Hp} {v : Value} {l : List (List UInt8)} (h : ArrS hp v l) : rdS hp v = l := by
  obtain ⟨b, rw, z, rfl, hb, _⟩ := h
  simp only [rdS, hb, strsV, List.map_map]
  have : ∀ m : List (List UInt8), m.map (strOf ∘ fun x => Value.string ⟨⟨x⟩⟩) = m := fun m => by
    induction m with
    | nil => rfl
    | cons a m ih => rw [List.map_cons, ih]; rfl
  exact this l
def conIdx : Con := .pure (fun args hp => match args with | [v, .string ⟨⟨_⟩⟩] => ∃ l, ArrS hp v l | _ => False) (fun args hp => match args with | [v, x] => .int .i64 (idxS (rdS hp v) (strOf x) 0) | _ => undef)
def stIx (hp : Hp) (top b : Nat) (x : List UInt8) (n k : Nat) : SS := ⟨[(0, .slice (some ⟨b, 0, none⟩) n n, true), (1, .string ⟨⟨x⟩⟩, true), (7, .int .i64 (n : Int), true), (8, .int .i64 (k : Int), true)], hp.sets [], top + 0⟩
theorem strsV_get {l : List (List UInt8)} {k : Nat} (h : k < l.length) : ((strsV l)[k]?).getD undef = .string ⟨⟨at' l k⟩⟩ := by
  unfold strsV
  rw [List.getElem?_map, List.getElem?_eq_getElem h, at'_get _ _ h]; rfl
theorem idx_ok : ConOk Tryz.prog 41 conIdx := by
  refine .mkRd fn41_ok ?_ ?_
  · intro args hp h
    match args, h with
    | [v, .string ⟨⟨x⟩⟩], _ => rfl
  intro args hp hpre top hcl hsc
  match args, hpre with
  | [v, .string ⟨⟨x⟩⟩], ⟨l, hA⟩ =>
  simp only [hA.rd, strOf_string]
  obtain ⟨b, rw, z, rfl, hb, hn⟩ := hA
  have hbt : b < top := hcl.lt _ _ hb
  have hlen : (strsV l).length = l.length := List.length_map ..
  have ix : ∀ {h' : Hp} {k : Nat}, k < l.length → sindexAddr tt.get 58 (.slice (some ⟨b, 0, none⟩) l.length l.length) (.int .i64 (k : Int)) = (.pointer (some ⟨b, k, none⟩), True) := fun {h'} {k} hk => by
    unfold sindexAddr
    simp only [k_sstring, t_string]
    have : (k : Int) < (l.length : Int) := by omega
    simp [this, IsN, intOf, ti9]
  have sl : ∀ {h' : Hp}, slen tt.get h' 58 (.slice (some ⟨b, 0, none⟩) l.length l.length) = (.int .i64 (l.length : Int), True) := fun {h'} => by
    unfold slen
    simp only [k_sstring, lenA, t_sstring, ti58]; rfl
  refine CalledOk.of_fun tt_ok fn41_ok rfl 19 rfl [.tmp 4] rfl (show 2 ≤ 19 by decide) ?_
  refine CW.vc env0 [0, 1, 4, 5, 7, 8, 9, 16] (by kernel_rfl) ?_
  (repeat ((try refine Vc.mk' ?_); simp only [go_sem, sl]))
  refine CW.loopR (stIx hp top b x l.length) (fun k => k ≤ l.length ∧ idxS l x 0 = idxS (l.drop k) x k) (fun k => l.length - k) 0 ⟨Nat.zero_le _, rfl⟩ ?_ ?_
  · exact (by refine SubR.mk' [] hcl (by simp) (by simp) rfl (frSub_ok ?_) ?_ ?_ <;> simp [frSub, lkG, ren, UpdOk.nil, Keep.refl, rn_low hbt])
  · rintro k ⟨hk, hm⟩
    by_cases hlt : k < l.length
    · rw [at_get? hlt, idxS] at hm
      have kk : wrapA .i64 ((k : Int) + 1) = ((k + 1 : Nat) : Int) := wrap_succ hlt (by omega)
      have hlt' : (k : Int) < (l.length : Int) := by omega
      have g := strsV_get hlt
      have ixk := ix (h' := hp) hlt
      by_cases c : x = at' l k
      · rw [if_pos c] at hm
        have q : eqB x (at' l k) = true := by rw [← c, eqB_self]
        refine CW.vc env0 [0, 1, 4, 5, 7, 8, 9, 16] (by kernel_rfl) ?_
        (repeat ((try refine Vc.mk' ?_); simp only [go_sem, stIx, hlt, hlt', ixk, hb, g, hlen, q]))
        rw [hm]
      · rw [if_neg c] at hm
        have q : eqB x (at' l k) = false := by rw [eqB_eq]; simpa using c
        refine CW.vc env0 [0, 1, 4, 5, 7, 8, 9, 16] (by kernel_rfl) ?_
        (repeat ((try refine Vc.mk' ?_); simp only [go_sem, stIx, hlt, hlt', ixk, hb, g, hlen, q]))
        exact .mk (k + 1) ⟨hlt, hm⟩ (by omega) ((by refine SubR.mk' [] hcl (by simp) (by simp) rfl (frSub_ok ?_) ?_ ?_ <;> simp [frSub, lkG, ren, UpdOk.nil, Keep.refl, rn_low hbt, kk]))
    · have hk2 : k = l.length := by omega
      subst hk2
      rw [List.drop_length, idxS] at hm
      refine CW.vc env0 [0, 1, 4, 5, 7, 8, 9, 16] (by kernel_rfl) ?_
      (repeat ((try refine Vc.mk' ?_); simp only [go_sem, stIx, Int.lt_irrefl, decide_false]))
      rw [hm]
end Go.Proofs.YthpibnpeaidabaaGreatDoor.Dm
