/- The document's candidate for a line: plain laws. -/
import Derived.Test.YthpibnpeaidabaaGreatDoorTRE
import Derived.Test.YthpibnpeaidabaaGreatDoorTL2
import Derived.Test.YthpibnpeaidabaaGreatDoorTBP
set_option linter.unusedVariables false
namespace Go.Proofs.YthpibnpeaidabaaGreatDoor.Dm
open Go.Dm
set_option maxHeartbeats 4000000
set_option maxRecDepth 20000
/-- the last kind up to k whose word it is -/
def kdN (s : List UInt8) : Nat → Int
  | 0 => 0
  | k + 1 => if kindW ((k + 1 : Nat) : Int) = s then ((k + 1 : Nat) : Int) else kdN s k
def bF (b : T_Bits) (n : Int) : T_Bits := if 1 ≤ n ∧ n ≤ 256 then putB b (n - 1).toNat else b
def bN (ws : List (List UInt8)) (k : Nat) : T_Bits := (ws.take k).foldl (fun b w => bF b (atN w)) zb
def wA (s : List UInt8) (i : Nat) : List UInt8 := at' (spl s) i
def cand (s : List UInt8) : T_Event := ⟨(puN (wA s 0) 64 : Nat), kdN (wA s 1) 8, atN (wA s 2), atN (wA s 3), (puN (wA s 4) 32 : Nat), atN (wA s 5), (bN ((spl s).drop 6) ((spl s).length - 6)).x0, (bN ((spl s).drop 6) ((spl s).length - 6)).x1, (bN ((spl s).drop 6) ((spl s).length - 6)).x2, (bN ((spl s).drop 6) ((spl s).length - 6)).x3⟩
theorem bF_ok {b : T_Bits} (h : OkB b) {n : Int} : OkB (bF b n) := by
  unfold bF
  split
  · exact putB_ok h
  · exact h
theorem bN_ok (ws : List (List UInt8)) (k : Nat) : OkB (bN ws k) := by
  have : ∀ (l : List (List UInt8)) (b : T_Bits), OkB b → OkB (l.foldl (fun b w => bF b (atN w)) b) := fun l => by
    induction l with
    | nil => exact fun b h => h
    | cons w l ih => exact fun b h => ih _ (bF_ok h)
  exact this _ _ zb_ok
theorem bN_succ {ws : List (List UInt8)} {k : Nat} (h : k < ws.length) : bN ws (k + 1) = bF (bN ws k) (atN (at' ws k)) := by
  unfold bN
  rw [List.take_succ_eq_append_getElem h, List.foldl_append, at'_get _ _ h]; rfl
theorem cand_rng (s : List UInt8) : RngE (cand s) := by
  have h1 := puN_le (wA s 0) 64
  have h2 := puN_le (wA s 4) 32
  have hb := bN_ok ((spl s).drop 6) ((spl s).length - 6)
  refine ⟨?_, ?_, ?_, ?_, hb⟩
  · show (0 : Int) ≤ ((puN (wA s 0) 64 : Nat) : Int); omega
  · show ((puN (wA s 0) 64 : Nat) : Int) < 18446744073709551616; omega
  · show (0 : Int) ≤ ((puN (wA s 4) 32 : Nat) : Int); omega
  · show ((puN (wA s 4) 32 : Nat) : Int) < 4294967296; omega
theorem join_app {l : List (List UInt8)} (hl : l ≠ []) {m : List (List UInt8)} (hm : m ≠ []) : Lib.join (l ++ [Lib.join m [32]]) [32] = Lib.join (l ++ m) [32] := by
  induction l with
  | nil => exact absurd rfl hl
  | cons a l ih =>
    cases l with
    | nil =>
      rw [List.singleton_append, List.singleton_append, join2 (by simp), join2 hm, Lib.join_one]
    | cons c r =>
      have ih := ih (by simp)
      have h1 : Lib.join (a :: ((c :: r) ++ [Lib.join m [32]])) [32] = _ := join2 (by simp)
      have h2 : Lib.join (a :: ((c :: r) ++ m)) [32] = _ := join2 (by simp)
      show Lib.join (a :: ((c :: r) ++ [Lib.join m [32]])) [32] = Lib.join (a :: ((c :: r) ++ m)) [32]
      rw [h1, h2, ih]
theorem atN_itoa {u : Nat} (h : u < 257) : atN (Lib.itoa (u : Int)) = u := by
  unfold atN
  rw [itoa_dig (show u < 1000 by omega), dig_atoi ⟨u, h⟩]
theorem kd_kind {k : Int} (h0 : 1 ≤ k) (h1 : k ≤ 8) : kdN (kindW k) 8 = k := by
  have : k = 1 ∨ k = 2 ∨ k = 3 ∨ k = 4 ∨ k = 5 ∨ k = 6 ∨ k = 7 ∨ k = 8 := by omega
  rcases this with rfl | rfl | rfl | rfl | rfl | rfl | rfl | rfl <;> decide +kernel
theorem fold_ls : ∀ {l : List Int} {b : T_Bits} {last : Int}, OkB b → (∀ x ∈ lsB b, x ≤ last) → (∀ x ∈ l, last < x) → l.Pairwise (· < ·) → (∀ x ∈ l, 1 ≤ x ∧ x ≤ 256) →
    OkB ((l.map Lib.itoa).foldl (fun b w => bF b (atN w)) b) ∧ lsB ((l.map Lib.itoa).foldl (fun b w => bF b (atN w)) b) = lsB b ++ l
  | [], b, last, hb, _, _, _, _ => ⟨hb, by simp⟩
  | n :: l, b, last, hb, hl, hlt, hp, hr => by
    obtain ⟨h1, h2⟩ := hr n (by simp)
    obtain ⟨u, rfl, hu, he⟩ := num_of ⟨h1, h2⟩
    have hrb : rightB (u : Int) = true := by simp [rightB]; omega
    have hlu := hlt _ (List.mem_cons_self ..)
    have e := ls_put' hrb hlu hl
    rw [List.pairwise_cons] at hp
    have ef : bF b (atN (Lib.itoa (u : Int))) = putB b ((u : Int) - 1).toNat := by rw [atN_itoa hu, bF, if_pos ⟨h1, h2⟩]
    rw [List.map_cons, List.foldl_cons, ef]
    obtain ⟨k1, k2⟩ := fold_ls (l := l) (last := (u : Int)) (putB_ok (k := ((u : Int) - 1).toNat) hb) (fun x hx => by
      rw [e] at hx
      rcases List.mem_append.1 hx with h4 | h4
      · have := hl x h4; omega
      · simp at h4; omega) hp.1 hp.2 (fun x hx => hr x (List.mem_cons_of_mem _ hx))
    exact ⟨k1, by rw [k2, e]; simp⟩
theorem spl_line {x : T_Event} (h : RngE x) (F : OkF x) : spl (Lib.join (lineL x) [32]) = [Lib.itoa x.At, kindW x.Kind, Lib.itoa x.Router, Lib.itoa x.Peer, Lib.itoa x.Id, Lib.itoa x.Set] ++ (lsB (evB x)).map Lib.itoa := by
  have hn : ¬ (lsB (evB x)).length = 0 := by have := F.n; have := nB_len h.b; omega
  have hne : (lsB (evB x)).map Lib.itoa ≠ [] := fun e => hn (by simpa using congrArg List.length e)
  have et : textB (evB x) = Lib.join ((lsB (evB x)).map Lib.itoa) [32] := by rw [textN_eq h.b, textN, if_neg hn, tk, List.take_length]
  have e1 : lineL x = [Lib.itoa x.At, kindW x.Kind, Lib.itoa x.Router, Lib.itoa x.Peer, Lib.itoa x.Id, Lib.itoa x.Set] ++ [Lib.join ((lsB (evB x)).map Lib.itoa) [32]] := by rw [← et]; rfl
  rw [e1, join_app (by simp) hne]
  refine spl_join (by simp) fun w hw => ?_
  have r1 := rtB_iff.1 F.r
  have p1 := F.peer
  rcases List.mem_append.1 hw with h1 | h1
  · simp only [List.mem_cons, List.not_mem_nil, or_false] at h1
    rcases h1 with rfl | rfl | rfl | rfl | rfl | rfl
    · exact itoa_blank h.at0
    · exact (kind_blank x.Kind).1
    · exact itoa_blank (by omega)
    · exact itoa_blank (by omega)
    · exact itoa_blank h.id0
    · exact itoa_blank F.s0
  · obtain ⟨y, hy, rfl⟩ := List.mem_map.1 h1
    obtain ⟨u, rfl, hu, he⟩ := num_of (ls_ranges y hy)
    rw [he]; exact dig_blank ⟨u, hu⟩
theorem cand_line {x : T_Event} (h : RngE x) (F : OkF x) : cand (Lib.join (lineL x) [32]) = x := by
  have e := spl_line h F
  have r1 := rtB_iff.1 F.r
  have p1 := F.peer
  obtain ⟨a, ha⟩ := Int.eq_ofNat_of_zero_le h.at0
  obtain ⟨i, hi⟩ := Int.eq_ofNat_of_zero_le h.id0
  obtain ⟨r, hr⟩ := Int.eq_ofNat_of_zero_le (show 0 ≤ x.Router by omega)
  obtain ⟨p, hp⟩ := Int.eq_ofNat_of_zero_le (show 0 ≤ x.Peer by omega)
  obtain ⟨t, ht⟩ := Int.eq_ofNat_of_zero_le F.s0
  have ha1 := h.at1
  have hi1 := h.id1
  have ht1 := F.s1
  have hfold := fold_ls (l := lsB (evB x)) (b := zb) (last := 0) zb_ok (by rw [ls_zb]; simp) (fun y hy => by have := ls_ranges y hy; omega) ls_sorted ls_ranges
  rw [ls_zb, List.nil_append] at hfold
  have hb : bN ((spl (Lib.join (lineL x) [32])).drop 6) ((spl (Lib.join (lineL x) [32])).length - 6) = evB x := by
    rw [e]
    show ((((lsB (evB x)).map Lib.itoa).take _).foldl _ zb) = _
    rw [List.take_of_length_le (by simp)]
    exact ls_inj hfold.1 h.b hfold.2
  have w : ∀ k, wA (Lib.join (lineL x) [32]) k = at' ([Lib.itoa x.At, kindW x.Kind, Lib.itoa x.Router, Lib.itoa x.Peer, Lib.itoa x.Id, Lib.itoa x.Set] ++ (lsB (evB x)).map Lib.itoa) k := fun k => by rw [wA, e]
  have w0 : wA (Lib.join (lineL x) [32]) 0 = Lib.itoa x.At := w 0
  have w1 : wA (Lib.join (lineL x) [32]) 1 = kindW x.Kind := w 1
  have w2 : wA (Lib.join (lineL x) [32]) 2 = Lib.itoa x.Router := w 2
  have w3 : wA (Lib.join (lineL x) [32]) 3 = Lib.itoa x.Peer := w 3
  have w4 : wA (Lib.join (lineL x) [32]) 4 = Lib.itoa x.Id := w 4
  have w5 : wA (Lib.join (lineL x) [32]) 5 = Lib.itoa x.Set := w 5
  have c0 : ((puN (Lib.itoa x.At) 64 : Nat) : Int) = x.At := by rw [ha, (puN_itoa (by omega) (by omega)).1]
  have c4 : ((puN (Lib.itoa x.Id) 32 : Nat) : Int) = x.Id := by rw [hi, (puN_itoa (by omega) (by omega)).1]
  have c2 : atN (Lib.itoa x.Router) = x.Router := by rw [hr, atN_itoa (by omega)]
  have c3 : atN (Lib.itoa x.Peer) = x.Peer := by rw [hp, atN_itoa (by omega)]
  have c5 : atN (Lib.itoa x.Set) = x.Set := by rw [ht, atN_itoa (by omega)]
  unfold cand
  rw [hb, w0, w1, w2, w3, w4, w5, c0, c2, c3, c4, c5, kd_kind F.k0 F.k1]
  rfl
/-- the document's answer is the code's -/
def rEv (s : List UInt8) : Option T_Event := if (spl s).length < 7 then none else if okE (cand s) = true ∧ lineF (cand s) = s then some (cand s) else none
theorem rEv_eq (s : List UInt8) : rEv s = evP s := by
  cases h : evP s with
  | some x =>
    obtain ⟨h1, h2, h3⟩ := ev_some h
    have F := okF.1 h1
    have e := cand_line h2 F
    have el := spl_line h2 F
    rw [h3] at e el
    have hl := ev_lineF h
    have hn : ¬ (lsB (evB x)).length = 0 := by have := F.n; have := nB_len h2.b; omega
    unfold rEv
    rw [if_neg (by rw [el, List.length_append, List.length_map]; simp; omega), e, if_pos ⟨h1, hl⟩]
  | none =>
    unfold rEv
    split
    · rfl
    · split
      · rename_i h2
        have := evP_iff.2 ⟨cand_rng s, h2.1, h2.2⟩
        rw [h] at this; cases this
      · rfl
end Go.Proofs.YthpibnpeaidabaaGreatDoor.Dm
/- The document's trace: Event. -/
set_option linter.unusedVariables false
namespace Go.Proofs.YthpibnpeaidabaaGreatDoor.Dm
open Go.Dm
set_option maxHeartbeats 16000000
set_option maxRecDepth 20000
theorem spl_lens : ∀ (s : List UInt8), (spl s).length ≤ s.length + 1 ∧ ∀ w ∈ spl s, w.length ≤ s.length
  | [] => by simp [spl]
  | c :: r => by
    obtain ⟨h1, h2⟩ := spl_lens r
    unfold spl
    split
    · refine ⟨by rw [List.length_cons, List.length_cons]; omega, fun w hw => ?_⟩
      rcases List.mem_cons.1 hw with rfl | hw
      · exact Nat.zero_le _
      · have := h2 w hw; rw [List.length_cons]; omega
    · split
      · rename_i e; exact absurd e (spl_ne r)
      · rename_i h t e
        rw [e] at h1 h2
        refine ⟨by rw [List.length_cons] at h1 ⊢; rw [List.length_cons]; omega, fun w hw => ?_⟩
        rcases List.mem_cons.1 hw with rfl | hw
        · have := h2 h (by simp); rw [List.length_cons, List.length_cons]; omega
        · have := h2 w (by simp [hw]); rw [List.length_cons]; omega
theorem wA_len {s : List UInt8} {i : Nat} (h : i < (spl s).length) : (wA s i).length ≤ s.length := by
  rw [wA, at'_get _ _ h]; exact (spl_lens s).2 _ (List.getElem_mem h)
theorem rx {s : List UInt8} (hs : s.length ≤ 16000000) {i : Nat} (hi : i < (spl s).length) {b : Nat} : sindexAddr tt.get 58 (mkSl b (spl s)) (.int .i64 (i : Int)) = (ptrS (mkSl b (spl s)) i, True) := by
  have hl := (spl_lens s).1
  have := idx_sstring (SlT.own (hp := fun _ => mkOb e_string (spl s)) (b := b) (l := spl s) rfl (by omega)) (k := .i64) (n := (i : Int)) (by omega) (by omega)
  rwa [Int.toNat_natCast, Nat.mul_one] at this
theorem rl {s : List UInt8} (hs : s.length ≤ 16000000) {i : Nat} (hi : i < (spl s).length) {h' : Hp} {b : Nat} (e : h' b = mkOb e_string (spl s)) : sload tt.get h' 9 (ptrS (mkSl b (spl s)) i) = (.string ⟨⟨wA s i⟩⟩, True) := by
  have hl := (spl_lens s).1
  have := ld_sstring (SlT.own (hp := h') (b := b) (l := spl s) e (by omega)) (i := i) (by omega)
  rwa [Nat.mul_one] at this
def conREv : Con := .pure (fun args hp => match args with | [.string ⟨⟨s⟩⟩] => s.length ≤ 16000000 ∧ VarsOk hp ∧ hp 0 = some tzO | _ => False)
  (fun args _ => match args with | [s] => .tuple ⟨[.agg ⟨e_Event.enc ((evP (strOf s)).getD zeroEv)⟩, .bool (evP (strOf s)).isSome]⟩ | _ => undef)
def GE1 : FuncId → Con := addG (addG (addG (addG (addG GR3 50 conLine) 45 conRWords) 46 conPu1) 48 conAtoi1) 49 conWith4
theorem envE1 : EnvV Tryz.prog tt.get GE1 := ((((envR3.add rline_ok).add rwords_ok).add pu1_ok).add atoi1_ok).add with4_ok
theorem GE1_l : GE1 50 = conLine := rfl
theorem GE1_w : GE1 45 = conRWords := rfl
theorem GE1_p : GE1 46 = conPu1 := rfl
theorem GE1_a : GE1 48 = conAtoi1 := rfl
theorem GE1_b : GE1 49 = conWith4 := rfl
theorem GE1_d : GE1 47 = conWord := rfl
def evO1 (x : T_Event) : Option AObj := some (.cells true 0 (e_Event.enc x))
def ev1 (s : List UInt8) (k : Nat) : T_Event := ⟨(puN (wA s 0) 64 : Nat), kdN (wA s 1) k, 0, 0, 0, 0, 0, 0, 0, 0⟩
def ev2 (s : List UInt8) (k : Nat) : T_Event := ⟨(puN (wA s 0) 64 : Nat), kdN (wA s 1) 8, atN (wA s 2), atN (wA s 3), (puN (wA s 4) 32 : Nat), atN (wA s 5), (bN ((spl s).drop 6) k).x0, (bN ((spl s).drop 6) k).x1, (bN ((spl s).drop 6) k).x2, (bN ((spl s).drop 6) k).x3⟩
def stE1 (hp : Hp) (top : Nat) (s : List UInt8) (k : Nat) : SS := ⟨[(0, .string ⟨⟨s⟩⟩, true), (2, .pointer (some ⟨top, 0, none⟩), true), (4, mkSl (top + 1) (spl s), true), (5, .pointer (some ⟨top + 2, 0, none⟩), true), (6, .int .i64 ((k + 1 : Nat) : Int), true)], hp.sets [(top, evO1 zeroEv), (top + 1, mkOb e_string (spl s)), (top + 2, evO1 (ev1 s k))], top + 3⟩
def stE2x (hp : Hp) (top : Nat) (s : List UInt8) (k : Nat) (x : T_Event) : SS := ⟨[(0, .string ⟨⟨s⟩⟩, true), (2, .pointer (some ⟨top, 0, none⟩), true), (4, mkSl (top + 1) (spl s), true), (5, .pointer (some ⟨top + 2, 0, none⟩), true), (9, .int .i64 ((k + 6 : Nat) : Int), true)], hp.sets [(top, evO1 zeroEv), (top + 1, mkOb e_string (spl s)), (top + 2, evO1 x)], top + 3⟩
def stE2 (hp : Hp) (top : Nat) (s : List UInt8) (k : Nat) : SS := stE2x hp top s k (ev2 s k)
theorem bl_list {b : T_Bits} : bl b = [.int .u64 b.x0, .int .u64 b.x1, .int .u64 b.x2, .int .u64 b.x3] := rfl
theorem rev_ok : ConOk Tryz.prog 15 conREv := by
  refine .mkRd fn15_ok ?_ ?_
  · intro args hp h
    match args, h with
    | [.string ⟨⟨s⟩⟩], _ => rfl
  intro args hp hpre top hcl hsc
  match args, hpre with
  | [.string ⟨⟨s⟩⟩], ⟨hs, hv, ht⟩ =>
  have ht0 := hcl.lt _ _ ht
  have hp1 := hv.1
  have ht1 := hcl.lt _ _ hp1
  have ht5 := vars_top hcl hv
  have hv6 : ∀ {h' : Hp} {k : Nat} {o : Option AObj}, VarsOk (h'.set (top + k) o) = VarsOk h' := fun {h'} {k} {o} => vars_set (by omega)
  simp only [strOf_string, ← rEv_eq]
  have hsl := (spl_lens s).1
  refine CalledOk.of_fun tt_ok fn15_ok rfl 113 rfl [.cell 2 33, .tmp 3] rfl (show 1 ≤ 113 by decide) ?_
  by_cases c7 : (spl s).length < 7
  · have c7' : ((spl s).length : Int) < 7 := by omega
    have e : rEv s = none := by unfold rEv; rw [if_pos c7]
    simp only [e]
    refine CW.vc envE1 [0, 2, 3, 4, 5, 6, 7, 9, 10, 12, 13, 18, 29, 37, 77, 93, 110] (by kernel_rfl) ?_
    (repeat ((try refine Vc.mk' ?_); simp (config := { maxSteps := 6000000 }) only [go_sem, reduceCtorEq, Nat.reduceAdd, GE1_w, conRWords, hs, c7', en_Event, zeroEv]))
    rfl
  have c7' : ¬ ((spl s).length : Int) < 7 := by omega
  have x0 : ∀ {b : Nat}, sindexAddr tt.get 58 (mkSl b (spl s)) (.int .i64 0) = (ptrS (mkSl b (spl s)) 0, True) := fun {b} => rx hs (i := 0) (by omega)
  have x1 : ∀ {b : Nat}, sindexAddr tt.get 58 (mkSl b (spl s)) (.int .i64 1) = (ptrS (mkSl b (spl s)) 1, True) := fun {b} => rx hs (i := 1) (by omega)
  have x2 : ∀ {b : Nat}, sindexAddr tt.get 58 (mkSl b (spl s)) (.int .i64 2) = (ptrS (mkSl b (spl s)) 2, True) := fun {b} => rx hs (i := 2) (by omega)
  have x3 : ∀ {b : Nat}, sindexAddr tt.get 58 (mkSl b (spl s)) (.int .i64 3) = (ptrS (mkSl b (spl s)) 3, True) := fun {b} => rx hs (i := 3) (by omega)
  have x4 : ∀ {b : Nat}, sindexAddr tt.get 58 (mkSl b (spl s)) (.int .i64 4) = (ptrS (mkSl b (spl s)) 4, True) := fun {b} => rx hs (i := 4) (by omega)
  have x5 : ∀ {b : Nat}, sindexAddr tt.get 58 (mkSl b (spl s)) (.int .i64 5) = (ptrS (mkSl b (spl s)) 5, True) := fun {b} => rx hs (i := 5) (by omega)
  have l0 : ∀ {h' : Hp} {b : Nat}, h' b = mkOb e_string (spl s) → sload tt.get h' 9 (ptrS (mkSl b (spl s)) 0) = (.string ⟨⟨wA s 0⟩⟩, True) := fun e => rl hs (by omega) e
  have l1 : ∀ {h' : Hp} {b : Nat}, h' b = mkOb e_string (spl s) → sload tt.get h' 9 (ptrS (mkSl b (spl s)) 1) = (.string ⟨⟨wA s 1⟩⟩, True) := fun e => rl hs (by omega) e
  have l2 : ∀ {h' : Hp} {b : Nat}, h' b = mkOb e_string (spl s) → sload tt.get h' 9 (ptrS (mkSl b (spl s)) 2) = (.string ⟨⟨wA s 2⟩⟩, True) := fun e => rl hs (by omega) e
  have l3 : ∀ {h' : Hp} {b : Nat}, h' b = mkOb e_string (spl s) → sload tt.get h' 9 (ptrS (mkSl b (spl s)) 3) = (.string ⟨⟨wA s 3⟩⟩, True) := fun e => rl hs (by omega) e
  have l4 : ∀ {h' : Hp} {b : Nat}, h' b = mkOb e_string (spl s) → sload tt.get h' 9 (ptrS (mkSl b (spl s)) 4) = (.string ⟨⟨wA s 4⟩⟩, True) := fun e => rl hs (by omega) e
  have l5 : ∀ {h' : Hp} {b : Nat}, h' b = mkOb e_string (spl s) → sload tt.get h' 9 (ptrS (mkSl b (spl s)) 5) = (.string ⟨⟨wA s 5⟩⟩, True) := fun e => rl hs (by omega) e
  have n0 := wA_len (s := s) (i := 0) (by omega)
  have n2 := wA_len (s := s) (i := 2) (by omega)
  have n3 := wA_len (s := s) (i := 3) (by omega)
  have n4 := wA_len (s := s) (i := 4) (by omega)
  have n5 := wA_len (s := s) (i := 5) (by omega)
  have m0 : ((wA s 0).length ≤ 281474976710656) = True := eq_true (by omega)
  have m2 : ((wA s 2).length ≤ 281474976710656) = True := eq_true (by omega)
  have m3 : ((wA s 3).length ≤ 281474976710656) = True := eq_true (by omega)
  have m4 : ((wA s 4).length ≤ 281474976710656) = True := eq_true (by omega)
  have m5 : ((wA s 5).length ≤ 281474976710656) = True := eq_true (by omega)
  have z64 : sizeOk 64 = True := eq_true (.inl rfl)
  have z32 : sizeOk 32 = True := eq_true (.inr (.inl rfl))
  refine CW.vc envE1 [0, 2, 3, 4, 5, 6, 7, 9, 10, 12, 13, 18, 29, 37, 77, 93, 110] (by kernel_rfl) ?_
  (repeat ((try refine Vc.mk' ?_); simp (config := { maxSteps := 6000000 }) only [go_sem, Nat.reduceAdd, Nat.reduceLeDiff, Nat.reduceEqDiff, GE1_w, GE1_p, conRWords, conPu1, hv, vars_set ht5, hv6, hs, c7', x0, l0, m0, z64, en_Event, zeroEv]))
  refine CW.loopR (stE1 hp top s) (fun k => k ≤ 8) (fun k => 8 - k) 0 (by omega) ?_ ?_
  · exact (by refine SubR.mk' [top, top + 1, top + 2] hcl (by simp) (by simp) rfl (frSub_ok ?_) ?_ ?_ <;> simp [frSub, lkG, ren, renL, UpdOk.nil, UpdOk.cons, renOO_some, renO_cells, renOO_mkOb, rn_base, rn_add, ren_mkSl, set_same, set_ne, Keep.set, Keep.refl, evO1, ev1, zeroEv, kdN, en_Event])
  · intro k hk
    by_cases c8 : k < 8
    · have c8' : ((8 : Int) < ((k + 1 : Nat) : Int)) = False := eq_false (by omega)
      have kk : wrapA .i64 (((k + 1 : Nat) : Int) + 1) = ((k + 1 + 1 : Nat) : Int) := by rw [wrap64 (by omega) (by omega)]; omega
      have hw : wordF ((k + 1 : Nat) : Int) = kindW ((k + 1 : Nat) : Int) := wordF_pos (by omega)
      by_cases c : kindW ((k + 1 : Nat) : Int) = wA s 1
      · have e : kdN (wA s 1) (k + 1) = ((k + 1 : Nat) : Int) := by rw [kdN, if_pos c]
        refine CW.vc envE1 [0, 2, 3, 4, 5, 6, 7, 9, 10, 12, 13, 18, 29, 37, 77, 93, 110] (by kernel_rfl) ?_
        (repeat ((try refine Vc.mk' ?_); simp (config := { maxSteps := 6000000 }) only [go_sem, Nat.reduceAdd, Nat.reduceLeDiff, Nat.reduceEqDiff, GE1_d, conWord, stE1, evO1, ev1, en_Event, zeroEv, c8', decide_false, Bool.not_false, kk, hw, c, x1, l1, eqB_self]))
        refine .mk (k + 1) (by omega) (by omega) ((by refine SubR.mk' [top, top + 1, top + 2] hcl (by simp) (by simp) rfl (frSub_ok ?_) ?_ ?_ <;> simp [frSub, lkG, ren, renL, UpdOk.nil, UpdOk.cons, renOO_some, renO_cells, renOO_mkOb, rn_base, rn_add, ren_mkSl, set_same, set_ne, Keep.set, Keep.refl, evO1, ev1, zeroEv, en_Event, e, show (k : Int) + 2 = (k : Int) + 1 + 1 from by omega]))
      · have e : kdN (wA s 1) (k + 1) = kdN (wA s 1) k := by rw [kdN, if_neg c]
        have c' : eqB (kindW ((k + 1 : Nat) : Int)) (wA s 1) = false := by rw [eqB_eq]; simpa using c
        refine CW.vc envE1 [0, 2, 3, 4, 5, 6, 7, 9, 10, 12, 13, 18, 29, 37, 77, 93, 110] (by kernel_rfl) ?_
        (repeat ((try refine Vc.mk' ?_); simp (config := { maxSteps := 6000000 }) only [go_sem, Nat.reduceAdd, Nat.reduceEqDiff, GE1_d, conWord, stE1, evO1, ev1, en_Event, zeroEv, c8', decide_false, Bool.not_false, kk, hw, c', x1, l1]))
        refine .mk (k + 1) (by omega) (by omega) ((by refine SubR.mk' [top, top + 1, top + 2] hcl (by simp) (by simp) rfl (frSub_ok ?_) ?_ ?_ <;> simp [frSub, lkG, ren, renL, UpdOk.nil, UpdOk.cons, renOO_some, renO_cells, renOO_mkOb, rn_base, rn_add, ren_mkSl, set_same, set_ne, Keep.set, Keep.refl, evO1, ev1, zeroEv, en_Event, e, show (k : Int) + 2 = (k : Int) + 1 + 1 from by omega]))
    · have : k = 8 := by omega
      subst this
      have c8' : ((8 : Int) < ((9 : Nat) : Int)) = True := eq_true (by omega)
      have pl := puN_le (wA s 4) 32
      have w32 : wrapA .u32 ((puN (wA s 4) 32 : Nat) : Int) = ((puN (wA s 4) 32 : Nat) : Int) := wrap_id (by simp [IntKind.signed]) (by simp [IntKind.signed, IntKind.bits]; omega)
      refine CW.vc envE1 [0, 2, 3, 4, 5, 6, 7, 9, 10, 12, 13, 18, 29, 37, 77, 93, 110] (by kernel_rfl) ?_
      (repeat ((try refine Vc.mk' ?_); simp (config := { maxSteps := 6000000 }) only [go_sem, Nat.reduceAdd, Nat.reduceLeDiff, Nat.reduceEqDiff, GE1_p, GE1_a, conPu1, conAtoi1, hv, vars_set ht5, hv6, stE1, evO1, ev1, en_Event, zeroEv, c8', decide_true, Bool.not_true, x2, l2, m2, x3, l3, m3, x4, l4, m4, x5, l5, m5, z32, show (32 : Int).toNat = 32 from rfl, w32]))
      refine CW.loopR (stE2 hp top s) (fun k => k + 6 ≤ (spl s).length) (fun k => (spl s).length - k) 0 (by omega) ?_ ?_
      · exact (by refine SubR.mk' [top, top + 1, top + 2] hcl (by simp) (by simp) rfl (frSub_ok ?_) ?_ ?_ <;> simp [frSub, lkG, ren, renL, UpdOk.nil, UpdOk.cons, renOO_some, renO_cells, renOO_mkOb, rn_base, rn_add, ren_mkSl, set_same, set_ne, Keep.set, Keep.refl, evO1, ev2, zeroEv, en_Event, show bN ((spl s).drop 6) 0 = zb from rfl, zb])
      · intro k hk
        have hlw : ∀ {h' : Hp} {b : Nat}, slen tt.get h' 58 (mkSl b (spl s)) = (.int .i64 ((spl s).length : Int), True) := ow_sstring
        by_cases cl : k + 6 < (spl s).length
        · have cl' : (((k + 6 : Nat) : Int) < ((spl s).length : Int)) = True := eq_true (by omega)
          have kk : wrapA .i64 (((k + 6 : Nat) : Int) + 1) = ((k + 1 + 6 : Nat) : Int) := by rw [wrap64 (by omega) (by omega)]; omega
          have xk : ∀ {b : Nat}, sindexAddr tt.get 58 (mkSl b (spl s)) (.int .i64 ((k + 6 : Nat) : Int)) = (ptrS (mkSl b (spl s)) (k + 6), True) := fun {b} => rx hs cl
          have lk : ∀ {h' : Hp} {b : Nat}, h' b = mkOb e_string (spl s) → sload tt.get h' 9 (ptrS (mkSl b (spl s)) (k + 6)) = (.string ⟨⟨wA s (k + 6)⟩⟩, True) := fun e => rl hs cl e
          have nk := wA_len (s := s) (i := k + 6) cl
          have mk : ((wA s (k + 6)).length ≤ 281474976710656) = True := eq_true (by omega)
          have hB := bN_ok ((spl s).drop 6) k
          have hat : at' ((spl s).drop 6) k = wA s (k + 6) := by
            rw [wA, at'_get _ _ (by rw [List.length_drop]; omega), at'_get _ _ cl, List.getElem_drop]
            congr 1; omega
          have es := bN_succ (ws := (spl s).drop 6) (k := k) (by rw [List.length_drop]; omega)
          rw [hat] at es
          have e2 : ev2 s k = ⟨(puN (wA s 0) 64 : Nat), kdN (wA s 1) 8, atN (wA s 2), atN (wA s 3), (puN (wA s 4) 32 : Nat), atN (wA s 5), (bN ((spl s).drop 6) k).x0, (bN ((spl s).drop 6) k).x1, (bN ((spl s).drop 6) k).x2, (bN ((spl s).drop 6) k).x3⟩ := rfl
          generalize bN ((spl s).drop 6) k = B at hB es e2
          have hIb : IsBits (.agg ⟨[.int .u64 B.x0, .int .u64 B.x1, .int .u64 B.x2, .int .u64 B.x3]⟩) = True := isBits_bl hB
          have hbO : bOf (.agg ⟨[.int .u64 B.x0, .int .u64 B.x1, .int .u64 B.x2, .int .u64 B.x3]⟩) = B := rfl
          generalize hn : atN (wA s (k + 6)) = n at es
          by_cases c : 1 ≤ n ∧ n ≤ 256
          · have es' : bN ((spl s).drop 6) (k + 1) = putB B (n - 1).toNat := by rw [es, bF, if_pos c]
            have c1 : (n < 1) = False := eq_false (by omega)
            have c2 : (256 < n) = False := eq_false (by omega)
            have c3 : (1 ≤ n) = True := eq_true c.1
            have c4 : (n ≤ 256) = True := eq_true c.2
            refine CW.vc envE1 [0, 2, 3, 4, 5, 6, 7, 9, 10, 12, 13, 18, 29, 37, 77, 93, 110] (by kernel_rfl) ?_
            (repeat ((try refine Vc.mk' ?_); simp (config := { maxSteps := 6000000 }) only [go_sem, Nat.reduceAdd, Nat.reduceEqDiff, GE1_a, GE1_b, conAtoi1, conWith4, hv, vars_set ht5, hv6, stE2, stE2x, evO1, e2, en_Event, zeroEv, hlw, cl', kk, xk, lk, mk, hn, hIb, hbO, c1, c2, c3, c4, decide_false, Bool.not_false, bl_list]))
            refine .mk (k + 1) (by omega) (by omega) ((by refine SubR.mk' [top, top + 1, top + 2] hcl (by simp) (by simp) rfl (frSub_ok ?_) ?_ ?_ <;> simp [frSub, lkG, ren, renL, UpdOk.nil, UpdOk.cons, renOO_some, renO_cells, renOO_mkOb, rn_base, rn_add, ren_mkSl, set_same, set_ne, Keep.set, Keep.refl, evO1, ev2, zeroEv, en_Event, es', show (k : Int) + 7 = (k : Int) + 1 + 6 from by omega]))
          · have es' : bN ((spl s).drop 6) (k + 1) = B := by rw [es, bF, if_neg c]
            by_cases c1 : n < 1
            · refine CW.vc envE1 [0, 2, 3, 4, 5, 6, 7, 9, 10, 12, 13, 18, 29, 37, 77, 93, 110] (by kernel_rfl) ?_
              (repeat ((try refine Vc.mk' ?_); simp (config := { maxSteps := 6000000 }) only [go_sem, Nat.reduceAdd, Nat.reduceEqDiff, GE1_a, conAtoi1, hv, vars_set ht5, hv6, stE2, stE2x, evO1, e2, en_Event, zeroEv, hlw, cl', kk, xk, lk, mk, hn, c1, decide_true, Bool.not_true]))
              refine .mk (k + 1) (by omega) (by omega) ((by refine SubR.mk' [top, top + 1, top + 2] hcl (by simp) (by simp) rfl (frSub_ok ?_) ?_ ?_ <;> simp [frSub, lkG, ren, renL, UpdOk.nil, UpdOk.cons, renOO_some, renO_cells, renOO_mkOb, rn_base, rn_add, ren_mkSl, set_same, set_ne, Keep.set, Keep.refl, evO1, ev2, zeroEv, en_Event, es', show (k : Int) + 7 = (k : Int) + 1 + 6 from by omega]))
            · have c2 : 256 < n := by omega
              refine CW.vc envE1 [0, 2, 3, 4, 5, 6, 7, 9, 10, 12, 13, 18, 29, 37, 77, 93, 110] (by kernel_rfl) ?_
              (repeat ((try refine Vc.mk' ?_); simp (config := { maxSteps := 6000000 }) only [go_sem, Nat.reduceAdd, Nat.reduceEqDiff, GE1_a, conAtoi1, hv, vars_set ht5, hv6, stE2, stE2x, evO1, e2, en_Event, zeroEv, hlw, cl', kk, xk, lk, mk, hn, c1, c2, decide_false, decide_true, Bool.not_true, Bool.not_false]))
              refine .mk (k + 1) (by omega) (by omega) ((by refine SubR.mk' [top, top + 1, top + 2] hcl (by simp) (by simp) rfl (frSub_ok ?_) ?_ ?_ <;> simp [frSub, lkG, ren, renL, UpdOk.nil, UpdOk.cons, renOO_some, renO_cells, renOO_mkOb, rn_base, rn_add, ren_mkSl, set_same, set_ne, Keep.set, Keep.refl, evO1, ev2, zeroEv, en_Event, es', show (k : Int) + 7 = (k : Int) + 1 + 6 from by omega]))
        · have hkl : k = (spl s).length - 6 := by omega
          have cl' : (((k + 6 : Nat) : Int) < ((spl s).length : Int)) = False := eq_false (by omega)
          have hC : ev2 s k = cand s := by rw [hkl]; rfl
          have hR := cand_rng s
          have hE1 : rEv s = if okE (cand s) = true ∧ lineF (cand s) = s then some (cand s) else none := by unfold rEv; rw [if_neg c7]
          generalize cand s = X at hC hR hE1
          have hI := isEv hR
          have hE := evOf_enc (x := X)
          simp only [en_Event] at hI hE
          have hL : lineV X = .tuple ⟨[.string ⟨⟨lineF X⟩⟩, .int .i64 (if okE X then 0 else 2)]⟩ := rfl
          by_cases c : okE X = true
          · by_cases d : lineF X = s
            · rw [if_pos ⟨c, d⟩] at hE1
              simp only [hE1]
              refine CW.vc envE1 [0, 2, 3, 4, 5, 6, 7, 9, 10, 12, 13, 18, 29, 37, 77, 93, 110] (by kernel_rfl) ?_
              (repeat ((try refine Vc.mk' ?_); simp (config := { maxSteps := 6000000 }) only [go_sem, reduceCtorEq, Nat.reduceAdd, GE1_l, conLine, ht, hp1, set_lt ht0, set_lt ht1, stE2, stE2x, evO1, hC, en_Event, zeroEv, hlw, cl', hI, hE, hL, c, d, if_true, eqB_self]))
            · rw [if_neg (fun h => d h.2)] at hE1
              simp only [hE1]
              have d' : eqB (lineF X) s = false := by rw [eqB_eq]; simpa using d
              refine CW.vc envE1 [0, 2, 3, 4, 5, 6, 7, 9, 10, 12, 13, 18, 29, 37, 77, 93, 110] (by kernel_rfl) ?_
              (repeat ((try refine Vc.mk' ?_); simp (config := { maxSteps := 6000000 }) only [go_sem, reduceCtorEq, Nat.reduceAdd, GE1_l, conLine, ht, hp1, set_lt ht0, set_lt ht1, stE2, stE2x, evO1, hC, en_Event, zeroEv, hlw, cl', hI, hE, hL, c, d', if_true]))
              rfl
          · rw [if_neg (fun h => c h.1)] at hE1
            simp only [hE1]
            have c' : okE X = false := by simpa using c
            refine CW.vc envE1 [0, 2, 3, 4, 5, 6, 7, 9, 10, 12, 13, 18, 29, 37, 77, 93, 110] (by kernel_rfl) ?_
            (repeat ((try refine Vc.mk' ?_); simp (config := { maxSteps := 6000000 }) only [go_sem, reduceCtorEq, Nat.reduceAdd, Int.reduceEq, GE1_l, conLine, ht, hp1, set_lt ht0, set_lt ht1, stE2, stE2x, evO1, hC, en_Event, zeroEv, hlw, cl', hI, hE, hL, c', if_false]))
            rfl
end Go.Proofs.YthpibnpeaidabaaGreatDoor.Dm
/- The document's trace: Parse. -/
set_option linter.unusedVariables false
namespace Go.Proofs.YthpibnpeaidabaaGreatDoor.Dm
open Go.Dm
set_option maxHeartbeats 16000000
set_option maxRecDepth 20000
def rpV (s : List UInt8) (top : Nat) : Value × Upds × Nat :=
  if 65536 < s.length then (.tuple ⟨[.slice none 0 0, .agg ⟨[.int .i64 3, .int .i64 0]⟩]⟩, [], top) else match prA s with
  | .inl out => (.tuple ⟨[mkSl top out, .agg ⟨[.int .i64 0, .int .i64 0]⟩]⟩, [(top, mkOb e_Event out)], top + 1)
  | .inr n => (.tuple ⟨[.slice none 0 0, .agg ⟨[.int .i64 12, .int .i64 n]⟩]⟩, [], top)
def conRPar : Con := .det (fun args hp _ => match args with | [.string ⟨⟨s⟩⟩] => s.length < 4294967281 ∧ VarsOk hp ∧ hp 0 = some tzO | _ => False) (fun args _ top => match args with | [s] => rpV (strOf s) top | _ => (undef, [], top))
/-- from, and the events, behind i letters -/
def rpS (s : List UInt8) : Nat → Nat × List T_Event
  | 0 => (0, [])
  | i + 1 => if at' s i = 10 then (i + 1, (rpS s i).2 ++ [(evP ((s.drop (rpS s i).1).take (i - (rpS s i).1))).getD zeroEv]) else rpS s i
def rpOk (s : List UInt8) (i : Nat) : Prop := i ≤ s.length ∧ prA s = prK (s.length + 1 - (rpS s i).2.length) (s.drop (rpS s i).1) (rpS s i).2 ∧ (rpS s i).1 ≤ i ∧ (rpS s i).2.length ≤ (rpS s i).1 ∧ (10 : UInt8) ∉ (s.drop (rpS s i).1).take (i - (rpS s i).1)
theorem rp_line {s : List UInt8} {i : Nat} (h : rpOk s i) (hi : i < s.length) (h10 : at' s i = 10) : cutF (s.drop (rpS s i).1) = ((s.drop (rpS s i).1).take (i - (rpS s i).1), s.drop (i + 1), true) ∧ s.drop (rpS s i).1 ≠ [] := by
  obtain ⟨_, _, h2, h3, h4⟩ := h
  have e : s.drop (rpS s i).1 = (s.drop (rpS s i).1).take (i - (rpS s i).1) ++ 10 :: s.drop (i + 1) := by
    have e1 : s.drop i = 10 :: s.drop (i + 1) := by
      rw [List.drop_eq_getElem_cons hi]
      rw [at'_get _ _ hi] at h10
      rw [h10]
    conv => lhs; rw [← List.take_append_drop (i - (rpS s i).1) (s.drop (rpS s i).1)]
    rw [List.drop_drop, show (rpS s i).1 + (i - (rpS s i).1) = i from by omega, e1]
  refine ⟨?_, ?_⟩
  · conv => lhs; rw [e]
    exact cut_nl h4
  · intro h5
    rw [h5] at e
    simp at e
theorem rp_some {s : List UInt8} {i : Nat} {x : T_Event} (h : rpOk s i) (hi : i < s.length) (h10 : at' s i = 10) (hx : evP ((s.drop (rpS s i).1).take (i - (rpS s i).1)) = some x) :
    rpOk s (i + 1) ∧ rpS s (i + 1) = (i + 1, (rpS s i).2 ++ [x]) := by
  obtain ⟨hc, hne⟩ := rp_line h hi h10
  obtain ⟨h0, h1, h2, h3, h4⟩ := h
  have e : rpS s (i + 1) = (i + 1, (rpS s i).2 ++ [x]) := by rw [rpS, if_pos h10, hx]; rfl
  refine ⟨⟨by omega, ?_, ?_, ?_, ?_⟩, e⟩
  · rw [e, h1]
    rw [show s.length + 1 - (rpS s i).2.length = (s.length - (rpS s i).2.length) + 1 from by omega, prK, if_neg hne, hc]
    dsimp only
    rw [hx]
    dsimp only
    rw [if_pos rfl, List.length_append, List.length_singleton]
    congr 1; omega
  · rw [e]; exact Nat.le_refl _
  · rw [e, List.length_append, List.length_singleton]
    show (rpS s i).2.length + 1 ≤ i + 1
    omega
  · rw [e]; simp
theorem rp_none {s : List UInt8} {i : Nat} (h : rpOk s i) (hi : i < s.length) (h10 : at' s i = 10) (hx : evP ((s.drop (rpS s i).1).take (i - (rpS s i).1)) = none) : prA s = .inr (rpS s i).2.length := by
  obtain ⟨hc, hne⟩ := rp_line h hi h10
  obtain ⟨h0, h1, h2, h3, h4⟩ := h
  rw [h1, show s.length + 1 - (rpS s i).2.length = (s.length - (rpS s i).2.length) + 1 from by omega, prK, if_neg hne, hc]
  dsimp only
  rw [hx]
theorem rp_other {s : List UInt8} {i : Nat} (h : rpOk s i) (hi : i < s.length) (h10 : ¬ at' s i = 10) : rpOk s (i + 1) ∧ rpS s (i + 1) = rpS s i := by
  have e : rpS s (i + 1) = rpS s i := by rw [rpS, if_neg h10]
  obtain ⟨h0, h1, h2, h3, h4⟩ := h
  refine ⟨⟨by omega, by rw [e]; exact h1, by rw [e]; omega, by rw [e]; exact h3, ?_⟩, e⟩
  rw [e, show i + 1 - (rpS s i).1 = (i - (rpS s i).1) + 1 from by omega, List.take_add_one, List.getElem?_drop, show (rpS s i).1 + (i - (rpS s i).1) = i from by omega, List.getElem?_eq_getElem hi]
  rw [at'_get _ _ hi] at h10
  intro hm
  rcases List.mem_append.1 hm with h | h
  · exact h4 h
  · simp at h; exact h10 h.symm
theorem rp_end {s : List UInt8} (h : rpOk s s.length) : prA s = if (rpS s s.length).1 < s.length then .inr (rpS s s.length).2.length else .inl (rpS s s.length).2 := by
  obtain ⟨h0, h1, h2, h3, h4⟩ := h
  rw [h1, show s.length + 1 - (rpS s s.length).2.length = (s.length - (rpS s s.length).2.length) + 1 from by omega, prK]
  rw [List.take_of_length_le (by rw [List.length_drop]; exact Nat.le_refl _)] at h4
  by_cases c : (rpS s s.length).1 < s.length
  · have hne : s.drop (rpS s s.length).1 ≠ [] := by
      intro e
      have := congrArg List.length e
      rw [List.length_drop, List.length_nil] at this
      omega
    rw [if_pos c, if_neg hne, cut_none h4]
    dsimp only
    cases evP (s.drop (rpS s s.length).1) with
    | none => rfl
    | some x => dsimp only; rw [if_neg (by simp)]
  · rw [if_neg c, if_pos (List.drop_eq_nil_of_le (by omega))]
def GQ1 : FuncId → Con := addG GE1 15 conREv
theorem envQ1 : EnvV Tryz.prog tt.get GQ1 := envE1.add rev_ok
theorem GQ1_e : GQ1 15 = conREv := rfl
def stRP (hp : Hp) (top : Nat) (s : List UInt8) (i : Nat) : SS := ⟨[(0, .string ⟨⟨s⟩⟩, true), (3, .pointer (some ⟨top, 0, none⟩), true), (4, mkSl (top + 1) (rpS s i).2, true), (5, .int .i64 ((rpS s i).1 : Int), true), (6, .int .i64 (i : Int), true)], hp.sets [(top, some (.cells true 0 [.int .i64 0, .int .i64 0])), (top + 1, mkOb e_Event (rpS s i).2)], top + 2⟩
theorem rpar_ok : ConOk Tryz.prog 17 conRPar := by
  refine .mkDet fn17_ok ?_
  intro args hp top hpre hcl hsc
  match args, hpre with
  | [.string ⟨⟨s⟩⟩], ⟨hs, hv, ht⟩ =>
  have ht0 := hcl.lt _ _ ht
  have hp1 := hv.1
  have ht1 := hcl.lt _ _ hp1
  have ht5 := vars_top hcl hv
  have hv6 : ∀ {h' : Hp} {k : Nat} {o : Option AObj}, VarsOk (h'.set (top + k) o) = VarsOk h' := fun {h'} {k} {o} => vars_set (by omega)
  simp only [strOf_string]
  refine CalledOk.of_fun tt_ok fn17_ok rfl 51 rfl [.tmp 2, .cell 3 46] rfl (show 1 ≤ 51 by decide) ?_
  by_cases c1 : 65536 < s.length
  · have c1' : (65536 : Int) < (s.length : Int) := by omega
    have e : rpV s top = (.tuple ⟨[.slice none 0 0, .agg ⟨[.int .i64 3, .int .i64 0]⟩]⟩, [], top) := by unfold rpV; rw [if_pos c1]
    rw [e]
    refine CW.vc envQ1 [0, 2, 3, 4, 5, 6, 7, 8, 11, 16, 22, 32, 45] (by kernel_rfl) ?_
    (repeat ((try refine Vc.mk' ?_); simp (config := { maxSteps := 6000000 }) only [go_sem, Nat.reduceAdd, Nat.reduceLeDiff, c1', slen_strW]))
    (refine ⟨[], by simp, by simp, by simp, ?_, ?_, ?_⟩ <;> simp [ren, renL, UpdOk.nil, Keep.set, Keep.refl])
  have c1' : ¬ (65536 : Int) < (s.length : Int) := by omega
  have e0 : rpV s top = match prA s with
    | .inl out => (.tuple ⟨[mkSl top out, .agg ⟨[.int .i64 0, .int .i64 0]⟩]⟩, [(top, mkOb e_Event out)], top + 1)
    | .inr n => (.tuple ⟨[.slice none 0 0, .agg ⟨[.int .i64 12, .int .i64 n]⟩]⟩, [], top) := by unfold rpV; rw [if_neg c1]
  refine CW.vc envQ1 [0, 2, 3, 4, 5, 6, 7, 8, 11, 16, 22, 32, 45] (by kernel_rfl) ?_
  (repeat ((try refine Vc.mk' ?_); simp (config := { maxSteps := 6000000 }) only [go_sem, c1', slen_strW]))
  refine CW.loopR (stRP hp top s) (rpOk s) (fun i => s.length - i) 0 ⟨Nat.zero_le _, rfl, Nat.zero_le _, Nat.zero_le _, by simp⟩ ?_ ?_
  · exact (by refine SubR.mk' [top, top + 1] hcl (by simp) (by simp) rfl (frSub_ok ?_) ?_ ?_ <;> simp [frSub, lkG, ren, renL, UpdOk.nil, UpdOk.cons, renOO_some, renO_cells, rn_base, rn_add, set_same, set_ne, Keep.set, Keep.refl, rpS, mkSl_nil, mkOb_nil])
  · intro i hk
    have hk0 := hk
    obtain ⟨hi, _, h2, h3, _⟩ := hk0
    by_cases hlt : i < s.length
    · have hat : (s[i]?.getD 0) = at' s i := rfl
      have kk : wrapA .i64 ((i : Int) + 1) = ((i + 1 : Nat) : Int) := wrap_succ hlt (by omega)
      by_cases c3 : at' s i = 10
      · have hc : (Int.ofNat (s[i]?.getD 0).toNat = 10) = True := eq_true (by rw [hat, c3]; rfl)
        have sl := fun (h' : Hp) => slice_strW (h' := h') (s := s) h2 hi
        have n1 : ((rpS s i).1 : Int) ≤ (i : Int) := by omega
        have m1 : (((s.drop (rpS s i).1).take (i - (rpS s i).1)).length ≤ 16000000) = True := eq_true (by rw [List.length_take, List.length_drop]; omega)
        cases he : evP ((s.drop (rpS s i).1).take (i - (rpS s i).1)) with
        | none =>
          rw [e0, rp_none hk hlt c3 he]
          refine CW.vc envQ1 [0, 2, 3, 4, 5, 6, 7, 8, 11, 16, 22, 32, 45] (by kernel_rfl) ?_
          (repeat ((try refine Vc.mk' ?_); simp (config := { maxSteps := 6000000 }) only [go_sem, reduceCtorEq, Nat.reduceAdd, Nat.reduceLeDiff, stRP, slen_strW, hlt, sindex, hc, decide_true, Bool.not_true, sl, GQ1_e, conREv, m1, hv, hv6, vars_set ht5, ht, set_lt ht0, he]))
          (refine ⟨[], by simp, by simp, by simp, ?_, ?_, ?_⟩ <;> simp [ren, renL, UpdOk.nil, Keep.set, Keep.refl])
        | some x =>
          obtain ⟨n2, e⟩ := rp_some hk hlt c3 he
          have hap : ∀ {h' : Hp} {j q t : Nat}, h' j = mkOb e_Event (rpS s i).2 → h' q = some (.cells true 10 (e_Event.enc x)) → appendA tt.get h' t [22, 22] (mkSl j (rpS s i).2) (.slice (some ⟨q, 0, none⟩) 1 1) = some (mkSl t ((rpS s i).2 ++ [x]), appU j (rpS s i).2 t (mkOb e_Event ((rpS s i).2 ++ [x])), t + 1) := fun {h'} {j} {q} {t} a1 a2 => by
            have e3 : cellsOf (h' q) = e_Event.enc x := by rw [a2]; rfl
            have := ap1r_sEvent (hp := h') (b := j) (top := t) (k := q) a1 (by rw [e3]; exact a2) (by rw [e3, e_Event.h]) (roomB_of (by omega) (by decide))
            rwa [e3, e_Event.h] at this
          simp only [en_Event] at hap
          refine CW.vc envQ1 [0, 2, 3, 4, 5, 6, 7, 8, 11, 16, 22, 32, 45] (by kernel_rfl) ?_
          (repeat ((try refine Vc.mk' ?_); simp (config := { maxSteps := 6000000 }) only [go_sem, Nat.reduceAdd, Nat.reduceMul, Nat.reduceLeDiff, Nat.reduceEqDiff, stRP, slen_strW, hlt, kk, sindex, hc, decide_true, Bool.not_true, sl, GQ1_e, conREv, m1, hv, hv6, vars_set ht5, ht, set_lt ht0, he, hap]))
          refine .mk (i + 1) n2 (by omega) ((by refine SubR.mk' [top, top + 4] hcl (by simp) (by simp) rfl (frSub_ok ?_) ?_ ?_ <;> simp [frSub, lkG, ren, renL, UpdOk.nil, UpdOk.cons, renOO_some, renO_cells, renOO_mkOb, rn_base, rn_add, ren_mkSl, set_same, set_ne, Keep.set, Keep.refl, e]))
      · have hc : (Int.ofNat (s[i]?.getD 0).toNat = 10) = False := eq_false (by
          rw [hat]; intro h
          apply c3
          apply UInt8.toNat.inj
          have : (at' s i).toNat = 10 := Int.ofNat.inj h
          rw [this]; rfl)
        obtain ⟨n2, e⟩ := rp_other hk hlt c3
        refine CW.vc envQ1 [0, 2, 3, 4, 5, 6, 7, 8, 11, 16, 22, 32, 45] (by kernel_rfl) ?_
        (repeat ((try refine Vc.mk' ?_); simp (config := { maxSteps := 6000000 }) only [go_sem, reduceCtorEq, stRP, slen_strW, hlt, kk, sindex, hc, decide_false, Bool.not_false]))
        refine .mk (i + 1) n2 (by omega) ((by refine SubR.mk' [top, top + 1] hcl (by simp) (by simp) rfl (frSub_ok ?_) ?_ ?_ <;> simp [frSub, lkG, ren, renL, UpdOk.nil, UpdOk.cons, renOO_some, renO_cells, renOO_mkOb, rn_base, rn_add, ren_mkSl, set_same, set_ne, Keep.set, Keep.refl, e]))
    · have hi2 : i = s.length := by omega
      subst hi2
      have hz := rp_end hk
      by_cases c : (rpS s s.length).1 < s.length
      · have c' : (((rpS s s.length).1 : Int) < (s.length : Int)) = True := eq_true (by omega)
        rw [e0, hz, if_pos c]
        refine CW.vc envQ1 [0, 2, 3, 4, 5, 6, 7, 8, 11, 16, 22, 32, 45] (by kernel_rfl) ?_
        (repeat ((try refine Vc.mk' ?_); simp (config := { maxSteps := 6000000 }) only [go_sem, reduceCtorEq, Nat.reduceAdd, Nat.reduceLeDiff, stRP, slen_strW, Nat.lt_irrefl, decide_false, c', decide_true]))
        (refine ⟨[], by simp, by simp, by simp, ?_, ?_, ?_⟩ <;> simp [ren, renL, UpdOk.nil, Keep.set, Keep.refl])
      · have c' : (((rpS s s.length).1 : Int) < (s.length : Int)) = False := eq_false (by omega)
        rw [e0, hz, if_neg c]
        refine CW.vc envQ1 [0, 2, 3, 4, 5, 6, 7, 8, 11, 16, 22, 32, 45] (by kernel_rfl) ?_
        (repeat ((try refine Vc.mk' ?_); simp (config := { maxSteps := 6000000 }) only [go_sem, reduceCtorEq, Nat.reduceAdd, stRP, slen_strW, Nat.lt_irrefl, decide_false, c']))
        (refine ⟨[top + 1], by simp, by simp, by simp, ?_, ?_, ?_⟩ <;> simp [ren, renL, UpdOk.nil, UpdOk.cons, renOO_mkOb, rn_base, ren_mkSl, set_same, set_ne, Keep.set, Keep.refl])
end Go.Proofs.YthpibnpeaidabaaGreatDoor.Dm
