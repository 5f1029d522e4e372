/- The document's trace: Line. -/
import Derived.Test.YthpibnpeaidabaaGreatDoorTR2
set_option linter.unusedVariables false
namespace Go.Proofs.YthpibnpeaidabaaGreatDoor.Dm
open Go.Dm
set_option maxHeartbeats 16000000
set_option maxRecDepth 20000
def GR3 : FuncId → Con := addG GR2 77 conChk
theorem envR3 : EnvV Tryz.prog tt.get GR3 := envR2.add rchk_ok
theorem GR3_k : GR3 77 = conChk := rfl
theorem GR3_l : GR3 78 = conRList := rfl
theorem GR3_w : GR3 47 = conWord := rfl
theorem GR3_f : GR3 33 = conFmt := rfl
theorem GR3_i : GR3 35 = conItoa := rfl
/-- the six first words, a blank between each two -/
def head6 (x : T_Event) : List UInt8 := Lib.itoa x.At ++ [32] ++ kindW x.Kind ++ [32] ++ Lib.itoa x.Router ++ [32] ++ Lib.itoa x.Peer ++ [32] ++ Lib.itoa x.Id ++ [32] ++ Lib.itoa x.Set
def acc6 (x : T_Event) (k : Nat) : List UInt8 := head6 x ++ (if k = 0 then [] else [32] ++ tk (lsB (evB x)) k)
theorem acc6_succ {x : T_Event} {k : Nat} (h : k < (lsB (evB x)).length) : acc6 x k ++ [32] ++ Lib.itoa (at' (lsB (evB x)) k) = acc6 x (k + 1) := by
  unfold acc6
  rw [if_neg (Nat.succ_ne_zero k), tk_succ h]
  by_cases h0 : k = 0
  · rw [if_pos h0, if_pos h0]; simp
  · rw [if_neg h0, if_neg h0]; simp
theorem acc6_all {x : T_Event} (h : RngE x) (F : OkF x) : acc6 x (lsB (evB x)).length = Lib.join (lineL x) [32] := by
  have hn : ¬ (lsB (evB x)).length = 0 := by have := F.n; have := nB_len h.b; omega
  unfold acc6 lineL head6
  rw [if_neg hn, textN_eq h.b, textN, if_neg hn]
  simp [Lib.join_cons, Lib.joinTail]
theorem head6_lens {x : T_Event} (h : RngE x) (F : OkF x) : (Lib.itoa x.At).length ≤ 24 ∧ (kindW x.Kind).length ≤ 7 ∧ (Lib.itoa x.Router).length ≤ 24 ∧ (Lib.itoa x.Peer).length ≤ 24 ∧ (Lib.itoa x.Id).length ≤ 24 ∧ (Lib.itoa x.Set).length ≤ 24 := by
  have r1 := rtB_iff.1 F.r
  have p1 := F.peer
  have l1 := Lib.itoa_length_le x.At (by have := h.at0; omega) (by have := F.at0; omega)
  have l2 := kindW_len x.Kind
  have l3 := Lib.itoa_length_le x.Router (by omega) (by omega)
  have l4 := Lib.itoa_length_le x.Peer (by omega) (by omega)
  have l5 := Lib.itoa_length_le x.Id (by have := h.id0; omega) (by have := h.id1; omega)
  have l6 := Lib.itoa_length_le x.Set (by have := F.s0; omega) (by have := F.s1; omega)
  omega
theorem acc6_len {x : T_Event} (h : RngE x) (F : OkF x) : ∀ k, k ≤ (lsB (evB x)).length → (acc6 x k).length ≤ 200 + 30 * k := by
  intro k
  induction k with
  | zero =>
    intro _
    have := head6_lens h F
    unfold acc6 head6
    simp only [List.length_append, List.length_cons, List.length_nil, if_true]
    omega
  | succ k ih =>
    intro hk
    have hr := ls_rng (b := evB x) (k := k) hk
    have l := Lib.itoa_length_le (at' (lsB (evB x)) k) (by omega) (by omega)
    have := ih (by omega)
    rw [← acc6_succ hk]
    simp only [List.length_append, List.length_cons, List.length_nil]
    omega
def stRLine (hp : Hp) (top : Nat) (x : T_Event) (k : Nat) : SS := ⟨[(1, .pointer (some ⟨top, 0, none⟩), true), (4, .string ⟨⟨acc6 x k⟩⟩, true), (5, mkSl (top + 1) (lsB (evB x)), true), (6, .int .i64 (k : Int), true)], hp.sets [(top, some (.cells true 0 (e_Event.enc x))), (top + 1, mkOb e_int (lsB (evB x)))], top + 2⟩
theorem rline_ok : ConOk Tryz.prog 50 conLine := by
  refine .mkRd fn50_ok ?_ ?_
  · rintro args hp h
    match args, h with
    | [_], ⟨⟨x, rfl, _⟩, _⟩ => rfl
  intro args hp hpre top hcl hsc
  match args, hpre with
  | [_], ⟨⟨x, rfl, h⟩, ht, hp1⟩ =>
  simp only [evOf_enc]
  have ht0 := hcl.lt _ _ ht
  have ht1 := hcl.lt _ _ hp1
  have hI := isEv h
  have hE := evOf_enc (x := x)
  simp only [en_Event] at hI hE
  have hb := bits_is h
  have ho := bits_of (x := x)
  refine CalledOk.of_fun tt_ok fn50_ok rfl 57 rfl [.tmp 2, .tmp 3] rfl (show 1 ≤ 57 by decide) ?_
  by_cases c : okE x = true
  case neg =>
    have e : lineV x = .tuple ⟨[.string ⟨⟨[]⟩⟩, .int .i64 2]⟩ := by unfold lineV lineF; rw [if_neg c, if_neg c]
    rw [e]
    have c' : okE x = false := by simpa using c
    refine CW.vc envR3 [0, 1, 2, 3, 4, 5, 6, 9, 45] (by kernel_rfl) ?_
    (repeat ((try refine Vc.mk' ?_); simp (config := { maxSteps := 6000000 }) only [go_sem, Nat.reduceAdd, Int.reduceEq, GR3_k, conChk, hI, hE, c']))
  have F := okF.1 c
  have r1 := rtB_iff.1 F.r
  have p1 := F.peer
  have u1 : U64 x.At = True := eq_true ⟨h.at0, h.at1⟩
  have u2 : U64 x.Id = True := eq_true ⟨h.id0, by have := h.id1; omega⟩
  have w2 : wrapA .u64 x.Id = x.Id := wrap_u64 h.id0 (by have := h.id1; omega)
  have k0 : 0 ≤ x.Kind := by have := F.k0; omega
  have kw : wordF x.Kind = kindW x.Kind := wordF_pos k0
  have q1 : 0 ≤ x.Router := by omega
  have q2 : x.Router ≤ 9223372036854775807 := by omega
  have q3 : 0 ≤ x.Peer := p1.1
  have q4 : x.Peer ≤ 9223372036854775807 := by omega
  have q5 := F.s0
  have q6 : x.Set ≤ 9223372036854775807 := by have := F.s1; omega
  have hb0 : Lib.itoa x.At ++ [32] ++ kindW x.Kind ++ [32] ++ Lib.itoa x.Router ++ [32] ++ Lib.itoa x.Peer ++ [32] ++ Lib.itoa x.Id ++ [32] ++ Lib.itoa x.Set = acc6 x 0 := by unfold acc6 head6; rw [if_pos rfl, List.append_nil]
  have hll : (lsB (evB x)).length ≤ 256 := lsN_len 256
  have ev : lineV x = .tuple ⟨[.string ⟨⟨acc6 x (lsB (evB x)).length⟩⟩, .int .i64 0]⟩ := by unfold lineV lineF; rw [if_pos c, if_pos c, acc6_all h F]
  rw [ev]
  refine CW.vc envR3 [0, 1, 2, 3, 4, 5, 6, 9, 45] (by kernel_rfl) ?_
  (repeat ((try refine Vc.mk' ?_); simp (config := { maxSteps := 6000000 }) only [go_sem, Nat.reduceAdd, Nat.reduceLT, Nat.reduceLeDiff, GR3_k, GR3_w, GR3_f, GR3_i, conChk, conWord, conFmt, conItoa, hI, hE, c, u1, u2, w2, set_lt ht1, hp1, kw, q1, q2, q3, q4, q5, q6]))
  obtain ⟨l1, l2, l3, l4, l5, l6⟩ := head6_lens h F
  iterate 10 refine ⟨by first | omega | (simp only [List.length_append, List.length_cons, List.length_nil]; omega), ?_⟩
  (repeat ((try refine Vc.mk' ?_); simp (config := { maxSteps := 6000000 }) only [go_sem, Nat.reduceAdd, GR3_l, conRList, hb, ho]))
  refine CW.loopR (stRLine hp top x) (fun k => k ≤ (lsB (evB x)).length) (fun k => (lsB (evB x)).length - k) 0 (by omega) ?_ ?_
  · exact (by refine SubR.mk' [top, top + 1] hcl (by simp) (by simp) rfl (frSub_ok ?_) ?_ ?_ <;> simp [frSub, lkG, ren, renL, UpdOk.nil, UpdOk.cons, renOO_some, renO_cells, renOO_mkOb, rn_base, rn_add, ren_mkSl, set_same, set_ne, Keep.set, Keep.refl, en_Event, acc6, head6, List.append_nil])
  · intro k hi
    by_cases hlt : k < (lsB (evB x)).length
    · have hc : (k : Int) < ((lsB (evB x)).length : Int) := by omega
      have hr := ls_rng hlt
      have g1 : 0 ≤ at' (lsB (evB x)) k := by omega
      have g2 : at' (lsB (evB x)) k ≤ 9223372036854775807 := by omega
      have kk : wrapA .i64 ((k : Int) + 1) = ((k + 1 : Nat) : Int) := wrap_succ hlt (by omega)
      have hs := acc6_succ hlt
      have ix : ∀ {j : Nat}, sindexAddr tt.get 122 (mkSl j (lsB (evB x))) (.int .i64 (k : Int)) = (ptrS (mkSl j (lsB (evB x))) k, True) := fun {j} => by
        have := idx_sint (SlT.own (E := e_int) (hp := fun _ => mkOb e_int (lsB (evB x))) (b := j) (l := lsB (evB x)) rfl (by omega)) (k := .i64) (n := (k : Int)) (by omega) hc
        rwa [Int.toNat_natCast, Nat.mul_one] at this
      have ld : ∀ {h' : Hp} {j : Nat}, h' j = mkOb e_int (lsB (evB x)) → sload tt.get h' 3 (ptrS (mkSl j (lsB (evB x))) k) = (.int .i64 (at' (lsB (evB x)) k), True) := fun {h'} {j} e => by
        have := ld_sint (SlT.own (E := e_int) (hp := h') (b := j) (l := lsB (evB x)) e (by omega)) hlt
        rwa [Nat.mul_one] at this
      refine CW.vc envR3 [0, 1, 2, 3, 4, 5, 6, 9, 45] (by kernel_rfl) ?_
      have al := acc6_len h F k (by omega)
      have li := Lib.itoa_length_le (at' (lsB (evB x)) k) (by omega) (by omega)
      have m1 : (acc6 x k).length ≤ 4611686018427387903 := by omega
      have m2 : (acc6 x k ++ [32]).length + (Lib.itoa (at' (lsB (evB x)) k)).length ≤ 4611686018427387904 := by
        simp only [List.length_append, List.length_cons, List.length_nil]; omega
      (repeat ((try refine Vc.mk' ?_); simp (config := { maxSteps := 6000000 }) only [go_sem, Nat.reduceLeDiff, GR3_i, conItoa, stRLine, ix, ld, hc, g1, g2, kk, hs, set_lt ht1, hp1, m1, m2]))
      refine .mk (k + 1) hlt (by omega) ((by refine SubR.mk' [top, top + 1] hcl (by simp) (by simp) rfl (frSub_ok ?_) ?_ ?_ <;> simp [frSub, lkG, ren, renL, UpdOk.nil, UpdOk.cons, renOO_some, renO_cells, renOO_mkOb, rn_base, rn_add, ren_mkSl, set_same, set_ne, Keep.set, Keep.refl, en_Event]))
    · have hk : k = (lsB (evB x)).length := by omega
      subst hk
      refine CW.vc envR3 [0, 1, 2, 3, 4, 5, 6, 9, 45] (by kernel_rfl) ?_
      (repeat ((try refine Vc.mk' ?_); simp (config := { maxSteps := 6000000 }) only [go_sem, stRLine, Nat.lt_irrefl, decide_false]))
end Go.Proofs.YthpibnpeaidabaaGreatDoor.Dm
