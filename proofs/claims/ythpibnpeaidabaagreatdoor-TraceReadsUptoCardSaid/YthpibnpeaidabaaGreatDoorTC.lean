/- Check, Line. -/
import Derived.Test.YthpibnpeaidabaaGreatDoorTS
set_option linter.unusedVariables false
namespace Go.Proofs.YthpibnpeaidabaaGreatDoor.Dm
open Go.Dm
set_option maxHeartbeats 16000000
set_option maxRecDepth 20000
def rtB (n : Int) : Bool := decide (1 ≤ n) && decide (n ≤ 24)
def btB (k : Int) : Bool := decide (k = 2) || decide (k = 3) || decide (k = 7) || decide (k = 8)
def evB (x : T_Event) : T_Bits := ⟨x.Bits_x0, x.Bits_x1, x.Bits_x2, x.Bits_x3⟩
def nB (x : T_Event) : Int := cnt (evB x) 4
/-- may an event be? -/
def okE (x : T_Event) : Bool := decide (x.At ≤ 1099511627776) && (decide (1 ≤ x.Kind) && (decide (x.Kind ≤ 8) && (rtB x.Router && (decide (0 ≤ x.Set) && (decide (x.Set < 128) && (!decide (nB x = 0) && (!(decide (x.Kind = 4) && decide (1 < nB x)) && (if btB x.Kind then rtB x.Peer && !decide (x.Peer = x.Router) else decide (x.Peer = 0)))))))))
structure RngE (x : T_Event) : Prop where
  at0 : 0 ≤ x.At
  at1 : x.At < 18446744073709551616
  id0 : 0 ≤ x.Id
  id1 : x.Id < 4294967296
  b : OkB (evB x)
def IsEv (v : Value) : Prop := ∃ x, v = .agg ⟨e_Event.enc x⟩ ∧ RngE x
def evOf (v : Value) : T_Event := e_Event.dec (aggOf v)
theorem evOf_enc {x : T_Event} : evOf (.agg ⟨e_Event.enc x⟩) = x := e_Event.h x
theorem isEv {x : T_Event} (h : RngE x) : IsEv (.agg ⟨e_Event.enc x⟩) = True := eq_true ⟨x, rfl, h⟩
theorem bits_is {x : T_Event} (h : RngE x) : IsBits (.agg ⟨[.int .u64 x.Bits_x0, .int .u64 x.Bits_x1, .int .u64 x.Bits_x2, .int .u64 x.Bits_x3]⟩) = True := eq_true ⟨evB x, rfl, h.b⟩
theorem bits_of {x : T_Event} : bOf (.agg ⟨[.int .u64 x.Bits_x0, .int .u64 x.Bits_x1, .int .u64 x.Bits_x2, .int .u64 x.Bits_x3]⟩) = evB x := rfl
def GT1 : FuncId → Con := addG (addG (addG (addG (addG G17 42 conParse) 33 conFmt) 38 conSp7) 43 conCut) 41 conIdx
theorem envT1 : EnvV Tryz.prog tt.get GT1 := ((((env17.add parse_ok).add fmt_ok).add splitN_ok).add cut_ok).add idx_ok
def conB1 (f : Int → Bool) : Con := .pure (fun args _ => match args with | [x] => IsI .i64 x | _ => False) (fun args _ => match args with | [x] => .bool (f (intOf x)) | _ => undef)
theorem router_ok : ConOk Tryz.prog 55 (conB1 rtB) := by
  refine .mkPure fn55_ok ?_
  intro args hp hpre top
  match args, hpre with
  | [x], hx =>
  rw [hx]
  refine CalledOk.of_fun tt_ok fn55_ok rfl 9 rfl [.tmp 2] rfl (show 1 ≤ 9 by decide) ?_
  refine CW.vc envT1 [0, 2] (by kernel_rfl) ?_
  (repeat ((try refine Vc.mk' ?_); simp only [go_sem]))
  refine bool_eq ?_
  simp [rtB]; try omega
theorem between_ok : ConOk Tryz.prog 57 (conB1 btB) := by
  refine .mkPure fn57_ok ?_
  intro args hp hpre top
  match args, hpre with
  | [x], hx =>
  rw [hx]
  refine CalledOk.of_fun tt_ok fn57_ok rfl 17 rfl [.tmp 2] rfl (show 1 ≤ 17 by decide) ?_
  refine CW.vc envT1 [0, 2] (by kernel_rfl) ?_
  (repeat ((try refine Vc.mk' ?_); simp only [go_sem]))
  refine bool_eq ?_
  simp [btB]
def GT2 : FuncId → Con := addG (addG (addG GT1 55 (conB1 rtB)) 57 (conB1 btB)) 56 conCount
theorem envT2 : EnvV Tryz.prog tt.get GT2 := ((envT1.add router_ok).add between_ok).add count_ok
theorem GT2_r : GT2 55 = conB1 rtB := rfl
theorem GT2_b : GT2 57 = conB1 btB := rfl
theorem GT2_c : GT2 56 = conCount := rfl
def conChk : Con := .pure (fun args _ => match args with | [v] => IsEv v | _ => False) (fun args _ => match args with | [v] => .int .i64 (if okE (evOf v) then 0 else 2) | _ => undef)
theorem chk_ok : ConOk Tryz.prog 28 conChk := by
  refine .mkRd fn28_ok ?_ ?_
  · rintro args hp h
    match args, h with
    | [_], ⟨x, rfl, _⟩ => rfl
  intro args hp hpre top hcl hsc
  match args, hpre with
  | [_], ⟨x, rfl, h⟩ =>
  simp only [evOf_enc]
  have hb := bits_is h
  have ho := bits_of (x := x)
  have hn : cnt (evB x) 4 = nB x := rfl
  refine CalledOk.of_fun tt_ok fn28_ok rfl 64 rfl [.tmp 2] rfl (show 1 ≤ 64 by decide) ?_
  refine CW.vc envT2 [0, 1, 2, 3, 4, 8] (by kernel_rfl) ?_
  repeat' first | refine condP.mk (fun _ => ?_) (fun _ => ?_) | refine Vc.mk' ?_ | simp only [go_sem, Nat.reduceAdd, Nat.reduceLT, GT2_r, GT2_b, GT2_c, conB1, conCount, hb, ho, hn]
  all_goals try (refine ⟨fun a => ⟨a, fun b => ⟨a, b⟩⟩, ?_⟩)
  all_goals try repeat' first | refine condP.mk (fun _ => ?_) (fun _ => ?_) | refine Vc.mk' ?_ | simp only [go_sem, Nat.reduceAdd, Nat.reduceLT, GT2_b, conB1]
  all_goals (unfold okE; simp_all)
  all_goals (intros; first | omega | simp_all)
/-! ### words, Line -/
def wordsL : List (List UInt8) := [[], [115, 101, 110, 100], [99, 111, 112, 121], [103, 111, 116], [108, 111, 99, 97, 108], [108, 111, 115, 116], [101, 120, 112, 105, 114, 101, 100], [100, 111, 117, 98, 108, 101], [103, 111, 110, 101]]
def wordsV : List Value := wordsL.map fun w => .string ⟨⟨w⟩⟩
def kindW (k : Int) : List UInt8 := (wordsL[k.toNat]?).getD []
def conWords : Con := .pure (fun args _ => args = []) (fun _ _ => .agg ⟨wordsV⟩)
theorem words_ok : ConOk Tryz.prog 34 conWords := by
  refine .mkRd fn34_ok (fun _ _ _ => rfl) ?_
  intro args hp hpre top hcl hsc
  subst hpre
  refine CalledOk.of_fun tt_ok fn34_ok rfl 2 rfl [.cell 0 71] rfl (show 0 ≤ 2 by decide) ?_
  refine CW.vc envT2 [0] (by kernel_rfl) ?_
  (repeat ((try refine Vc.mk' ?_); simp only [go_sem, Nat.reduceAdd, Nat.reduceMul, Nat.reduceLeDiff]))
  rfl
def GT3 : FuncId → Con := addG (addG (addG GT2 28 conChk) 34 conWords) 36 conText
theorem envT3 : EnvV Tryz.prog tt.get GT3 := ((envT2.add chk_ok).add words_ok).add text_ok
theorem GT3_k : GT3 28 = conChk := rfl
theorem GT3_w : GT3 34 = conWords := rfl
theorem GT3_t : GT3 36 = conText := rfl
theorem GT3_f : GT3 33 = conFmt := rfl
theorem GT3_i : GT3 35 = conItoa := rfl
theorem GT3_j : GT3 37 = conJoin := rfl
def lineL (x : T_Event) : List (List UInt8) := [Lib.itoa x.At, kindW x.Kind, Lib.itoa x.Router, Lib.itoa x.Peer, Lib.itoa x.Id, Lib.itoa x.Set, textB (evB x)]
def lineF (x : T_Event) : List UInt8 := if okE x then Lib.join (lineL x) [32] else []
def lineV (x : T_Event) : Value := .tuple ⟨[.string ⟨⟨lineF x⟩⟩, .int .i64 (if okE x then 0 else 2)]⟩
structure OkF (x : T_Event) : Prop where
  at0 : x.At ≤ 1099511627776
  k0 : 1 ≤ x.Kind
  k1 : x.Kind ≤ 8
  r : rtB x.Router = true
  s0 : 0 ≤ x.Set
  s1 : x.Set < 128
  n : ¬ nB x = 0
  l : x.Kind = 4 → nB x ≤ 1
  p : if btB x.Kind then rtB x.Peer = true ∧ ¬ x.Peer = x.Router else x.Peer = 0
theorem okF {x : T_Event} : okE x = true ↔ OkF x := by
  unfold okE
  constructor
  · intro h
    simp only [Bool.and_eq_true, decide_eq_true_eq, Bool.not_eq_true', decide_eq_false_iff_not] at h
    obtain ⟨h1, h2, h3, h4, h5, h6, h7, h8, h9⟩ := h
    refine ⟨h1, h2, h3, h4, h5, h6, h7, fun e => ?_, ?_⟩
    · simp only [e, decide_true, Bool.true_and, decide_eq_false_iff_not] at h8; omega
    · split at h9
      · rename_i hb; rw [if_pos hb]; simpa using h9
      · rename_i hb; rw [if_neg hb]; simpa using h9
  · rintro ⟨h1, h2, h3, h4, h5, h6, h7, h8, h9⟩
    simp only [Bool.and_eq_true, decide_eq_true_eq, Bool.not_eq_true', decide_eq_false_iff_not]
    refine ⟨h1, h2, h3, h4, h5, h6, h7, ?_, ?_⟩
    · by_cases e : x.Kind = 4
      · have := h8 e; simp [e]; omega
      · simp [e]
    · split at h9
      · rename_i hb; rw [if_pos hb]; simpa using h9
      · rename_i hb; rw [if_neg hb]; simpa using h9
theorem rtB_iff {n : Int} : rtB n = true ↔ 1 ≤ n ∧ n ≤ 24 := by simp [rtB]
theorem OkF.peer {x : T_Event} (h : OkF x) : 0 ≤ x.Peer ∧ x.Peer ≤ 24 := by
  have := h.p
  split at this
  · have := rtB_iff.1 this.1; omega
  · omega
theorem kindW_len (k : Int) : (kindW k).length ≤ 7 := by
  unfold kindW
  have : ∀ i : Nat, ((wordsL[i]?).getD []).length ≤ 7 := by
    intro i
    by_cases h : i < 9
    · have : ∀ j : Fin 9, ((wordsL[j.val]?).getD []).length ≤ 7 := by decide
      exact this ⟨i, h⟩
    · rw [List.getElem?_eq_none (by show 9 ≤ i; omega)]; decide
  exact this _
theorem kindW_get {k : Int} (h0 : 0 ≤ k) (h1 : k ≤ 8) : (wordsV[k.toNat]?).getD undef = .string ⟨⟨kindW k⟩⟩ := by
  obtain ⟨i, rfl⟩ := Int.eq_ofNat_of_zero_le h0
  have hi : i < 9 := by omega
  rw [Int.toNat_natCast]
  unfold kindW wordsV
  rw [Int.toNat_natCast, List.getElem?_map]
  have : i < wordsL.length := hi
  rw [List.getElem?_eq_getElem this]; rfl
theorem line_len {x : T_Event} (h : RngE x) (hF : OkF x) : (Lib.join (lineL x) [32]).length ≤ 2000 := by
  have r1 := rtB_iff.1 hF.r
  have p1 := hF.peer
  have l1 := Lib.itoa_length_le x.At (by have := h.at0; omega) (by have := hF.at0; omega)
  have l2 := kindW_len x.Kind
  have l3 := Lib.itoa_length_le x.Router (by omega) (by omega)
  have l4 := Lib.itoa_length_le x.Peer (by omega) (by omega)
  have l5 := Lib.itoa_length_le x.Id (by have := h.id0; omega) (by have := h.id1; omega)
  have l6 := Lib.itoa_length_le x.Set (by have := hF.s0; omega) (by have := hF.s1; omega)
  have l7 : (textB (evB x)).length ≤ 1024 := by rw [textN_eq h.b]; exact text_len
  unfold lineL
  rw [Lib.join_cons]
  simp only [Lib.joinTail, List.map_cons, List.map_nil, List.flatten_cons, List.flatten_nil, List.length_append, List.length_cons, List.length_nil]
  omega
theorem line_ob {x : T_Event} {h' : Hp} {b : Nat} (e : h' b = some (.cells true 1 [.string ⟨⟨Lib.itoa x.At⟩⟩, .string ⟨⟨kindW x.Kind⟩⟩, .string ⟨⟨Lib.itoa x.Router⟩⟩, .string ⟨⟨Lib.itoa x.Peer⟩⟩, .string ⟨⟨Lib.itoa x.Id⟩⟩, .string ⟨⟨Lib.itoa x.Set⟩⟩, .string ⟨⟨textB (evB x)⟩⟩])) : SlT e_string h' (.slice (some ⟨b, 0, none⟩) 7 7) (lineL x) := .own (l := lineL x) e (by show 7 ≤ _; decide)
def conLine : Con := .pure (fun args hp => match args with | [v] => IsEv v ∧ hp 0 = some tzO ∧ hp 1 = some powO | _ => False) (fun args _ => match args with | [v] => lineV (evOf v) | _ => undef)
theorem line_ok : ConOk Tryz.prog 11 conLine := by
  refine .mkRd fn11_ok ?_ ?_
  · rintro args hp h
    match args, h with
    | [_], ⟨⟨x, rfl, _⟩, _⟩ => rfl
  intro args hp hpre top hcl hsc
  match args, hpre with
  | [_], ⟨⟨x, rfl, h⟩, ht, hp1⟩ =>
  simp only [evOf_enc]
  have ht0 := hcl.lt _ _ ht
  have ht1 := hcl.lt _ _ hp1
  have hI := isEv h
  have hE := evOf_enc (x := x)
  simp only [en_Event] at hI hE
  have hb := bits_is h
  have ho := bits_of (x := x)
  refine CalledOk.of_fun tt_ok fn11_ok rfl 34 rfl [.tmp 2, .tmp 3] rfl (show 1 ≤ 34 by decide) ?_
  by_cases c : okE x = true
  case neg =>
    have e : lineV x = .tuple ⟨[.string ⟨⟨[]⟩⟩, .int .i64 2]⟩ := by unfold lineV lineF; rw [if_neg c, if_neg c]
    rw [e]
    have c' : okE x = false := by simpa using c
    refine CW.vc envT3 [0, 1, 2, 3, 4, 7] (by kernel_rfl) ?_
    (repeat ((try refine Vc.mk' ?_); simp only [go_sem, Nat.reduceAdd, Int.reduceEq, GT3_k, conChk, hI, hE, c']))
  have F := okF.1 c
  have r1 := rtB_iff.1 F.r
  have p1 := F.peer
  have u1 : U64 x.At = True := eq_true ⟨h.at0, h.at1⟩
  have u2 : U64 x.Id = True := eq_true ⟨h.id0, by have := h.id1; omega⟩
  have w2 : wrapA .u64 x.Id = x.Id := wrap_u64 h.id0 (by have := h.id1; omega)
  have k0 : 0 ≤ x.Kind := by have := F.k0; omega
  have kk := kindW_get k0 F.k1
  have k9 : x.Kind < 9 := by have := F.k1; omega
  have k9n : x.Kind.toNat < 9 := by omega
  have kw : wordsV.length = 9 := rfl
  have k9c : x.Kind < ((9 : Nat) : Int) := by omega
  have q1 : 0 ≤ x.Router := by omega
  have q2 : x.Router ≤ 9223372036854775807 := by omega
  have q3 : 0 ≤ x.Peer := p1.1
  have q4 : x.Peer ≤ 9223372036854775807 := by omega
  have q5 := F.s0
  have q6 : x.Set ≤ 9223372036854775807 := by have := F.s1; omega
  refine CW.vc envT3 [0, 1, 2, 3, 4, 7] (by kernel_rfl) ?_
  (repeat ((try refine Vc.mk' ?_); simp only [go_sem, Nat.reduceAdd, Nat.reduceLT, Nat.reduceLeDiff, GT3_k, conChk, hI, hE, c, GT3_w, conWords, GT3_t, conText, GT3_f, conFmt, GT3_i, conItoa, hb, ho, u1, u2, w2, set_lt ht0, set_lt ht1, ht, hp1, kk, k0, k9n, kw, q1, q2, q3, q4, q5, q6, sindex, Nat.mul_one, List.replicate_succ, List.replicate_zero, k9c]))
  have j1 : ∀ {h' : Hp} {b : Nat}, h' b = some (.cells true 1 [.string ⟨⟨Lib.itoa x.At⟩⟩, .string ⟨⟨kindW x.Kind⟩⟩, .string ⟨⟨Lib.itoa x.Router⟩⟩, .string ⟨⟨Lib.itoa x.Peer⟩⟩, .string ⟨⟨Lib.itoa x.Id⟩⟩, .string ⟨⟨Lib.itoa x.Set⟩⟩, .string ⟨⟨textB (evB x)⟩⟩]) → SlP e_string h' (.slice (some ⟨b, 0, none⟩) 7 7) = True := fun e => (line_ob e).P
  have j2 : ∀ {h' : Hp} {b : Nat}, h' b = some (.cells true 1 [.string ⟨⟨Lib.itoa x.At⟩⟩, .string ⟨⟨kindW x.Kind⟩⟩, .string ⟨⟨Lib.itoa x.Router⟩⟩, .string ⟨⟨Lib.itoa x.Peer⟩⟩, .string ⟨⟨Lib.itoa x.Id⟩⟩, .string ⟨⟨Lib.itoa x.Set⟩⟩, .string ⟨⟨textB (evB x)⟩⟩]) → e_string.rd h' (.slice (some ⟨b, 0, none⟩) 7 7) = lineL x := fun e => (line_ob e).rd
  have j3 : ((lineL x).length ≤ 140737488355328) = True := eq_true (by show 7 ≤ _; decide)
  have j4 : ((Lib.join (lineL x) [32]).length ≤ 140737488355328) = True := eq_true (by have := line_len h F; omega)
  (repeat ((try refine Vc.mk' ?_); simp only [go_sem, GT3_j, conJoin, j1, j2, j3, j4]))
  unfold lineV lineF
  rw [if_pos c, if_pos c]
end Go.Proofs.YthpibnpeaidabaaGreatDoor.Dm
