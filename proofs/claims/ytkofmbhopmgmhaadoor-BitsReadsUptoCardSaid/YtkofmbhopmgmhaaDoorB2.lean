/- The bits of a bit string, told by Each. -/
import Derived.Test.YtkofmbhopmgmhaaDoorB1
set_option linter.unusedSimpArgs false
set_option linter.unusedVariables false
namespace Go.Proofs.YtkofmbhopmgmhaaDoor.Dm
open Go.Dm
set_option maxHeartbeats 4000000

abbrev Bn := { x : Int // 1 ≤ x ∧ x ≤ 256 }
instance : Inhabited Bn := ⟨⟨1, by decide⟩⟩
def toBn (n : Int) : Bn := if h : 1 ≤ n ∧ n ≤ 256 then ⟨n, h⟩ else ⟨1, by decide⟩
theorem toBn_val {n : Int} (h : 1 ≤ n ∧ n ≤ 256) : (toBn n).1 = n := by unfold toBn; rw [dif_pos h]
theorem and_pred_lt {w : Nat} (h : ¬ w = 0) : w &&& (w - 1) < w := Nat.lt_of_le_of_lt Nat.and_le_right (by omega)
/-- the bits of a word -/
def wl (i : Nat) (w : Nat) : List Bn := if h : w = 0 then [] else toBn ((i * 64 + Lib.ctz 64 w + 1 : Nat) : Int) :: wl i (w &&& (w - 1))
termination_by w
decreasing_by exact and_pred_lt h
theorem wl_zero {i : Nat} : wl i 0 = [] := by rw [wl]; simp
theorem wl_step {i w : Nat} (h : ¬ w = 0) : wl i w = toBn ((i * 64 + Lib.ctz 64 w + 1 : Nat) : Int) :: wl i (w &&& (w - 1)) := by rw [wl, dif_neg h]
theorem ctz_lt {w : Nat} (h : ¬ w = 0) (hw : w < 18446744073709551616) : Lib.ctz 64 w < 64 := (Lib.lowest_bit 64 w h hw).2
/-- the words of a bit string -/
def wd (b : T_Bits) : Nat → Int
  | 0 => b.x0
  | 1 => b.x1
  | 2 => b.x2
  | _ => b.x3
def OkB (b : T_Bits) : Prop := U64 b.x0 ∧ U64 b.x1 ∧ U64 b.x2 ∧ U64 b.x3
theorem OkB.wd {b : T_Bits} (h : OkB b) : ∀ i, U64 (wd b i)
  | 0 => h.1
  | 1 => h.2.1
  | 2 => h.2.2.1
  | _ + 3 => h.2.2.2
def restL (b : T_Bits) (i : Nat) : List Bn := ((List.range' i (4 - i)).map fun k => wl k (wd b k).toNat).flatten
def bitsL (b : T_Bits) : List Bn := restL b 0
theorem restL_end {b : T_Bits} : restL b 4 = [] := rfl
theorem restL_step {b : T_Bits} {i : Nat} (h : i < 4) : restL b i = wl i (wd b i).toNat ++ restL b (i + 1) := by
  unfold restL
  have e : 4 - i = (4 - (i + 1)) + 1 := by omega
  rw [e, List.range'_succ, List.map_cons, List.flatten_cons]
theorem bits_get {b : T_Bits} {i : Nat} (h : i < 4) : ((e_Bits.enc b)[i]?).getD undef = .int .u64 (wd b i) := by
  rcases i with _ | _ | _ | _ | i
  · rfl
  · rfl
  · rfl
  · rfl
  · omega

/-! ### bits of two words -/
theorem bv_nat {x : Nat} (h : x < 18446744073709551616) : (BitVec.ofInt 64 (x : Int)).toNat = x := by
  rw [BitVec.toNat_ofInt]; omega
theorem bv_int {x : Nat} : IntKind.u64.wrap ((x % 18446744073709551616 : Nat) : Int) = ((x % 18446744073709551616 : Nat) : Int) := by
  simp [IntKind.wrap, IntKind.signed, IntKind.bits]
theorem and_u64 {x y : Nat} (hx : x < 18446744073709551616) (hy : y < 18446744073709551616) : bitsI .and .u64 (x : Int) (y : Int) = ((x &&& y : Nat) : Int) := by
  have h1 : x &&& y < 18446744073709551616 := Nat.lt_of_le_of_lt Nat.and_le_left hx
  have e : (BitVec.ofInt 64 (x : Int) &&& BitVec.ofInt 64 (y : Int)).toNat = x &&& y := by rw [BitVec.toNat_and, bv_nat hx, bv_nat hy]
  show IntKind.u64.wrap ((BitVec.ofInt 64 (x : Int) &&& BitVec.ofInt 64 (y : Int)).toNat : Int) = _
  rw [e]
  have := bv_int (x := x &&& y)
  rwa [Nat.mod_eq_of_lt h1] at this
theorem wrap_u64 {n : Int} (h : 0 ≤ n) (h2 : n < 18446744073709551616) : wrapA .u64 n = n := wrap_id (by simpa [IntKind.signed, IntKind.bits] using h) (by simpa [IntKind.signed, IntKind.bits] using h2)

/-! ### the memory that Each reads -/
def tzT (W : World) : Prop := ∃ ct cf, W.heap[0]? = some (.cells (nums .u8 Lib.deBruijn64tab).toArray ct cf)
def tzR : Ren := fun j => if j = 0 then some ⟨0, 0, tabMark + 4096 * 64, 64⟩ else none
def tzH : Hp := fun i => if i = 0 then some tzO else none
theorem tzT_of {φ : Ren} {own : Nat → Prop} {hp : Hp} {w : World} (H : HR φ own hp w) (h : hp 0 = some tzO) : tzT w := tab_at H (by omega) h
theorem tz_len : Lib.deBruijn64tab.length = 64 := rfl
theorem tz_mem : Mem tzT tzR tzH 1 := by
  refine ⟨?_, fun j hj => by simp [tzR]; omega, ?_⟩
  · rintro W ⟨ct, cf, hc⟩
    have hro : ∀ i o, tzH i = some o → i = 0 ∧ o = tzO := by
      intro i o e
      unfold tzH at e
      split at e
      · rename_i h; cases e; exact ⟨h, rfl⟩
      · cases e
    refine ⟨?_, ?_, ?_, ?_, fun b hb => hb⟩
    · intro i o e
      obtain ⟨rfl, rfl⟩ := hro i o e
      refine ⟨_, rfl, rfl, _, ct, cf, hc, rfl, ?_, ?_, ⟨fun e => (by cases e), fun _ _ => ⟨by decide, rfl, by decide⟩⟩⟩
      · decide
      · show Vs tzR (nums .u8 Lib.deBruijn64tab) (((nums .u8 Lib.deBruijn64tab).drop 0).take _)
        rw [List.drop_zero, List.take_length]
        refine Vs.refl_of fun v hv => ?_
        unfold nums at hv
        obtain ⟨n, _, rfl⟩ := List.mem_map.1 hv
        exact .int _ _
    · intro i j oi oj Li Lj hi hj hne
      obtain ⟨rfl, rfl⟩ := hro i oi hi
      obtain ⟨rfl, rfl⟩ := hro j oj hj
      exact absurd rfl hne
    · intro i o L e hr
      obtain ⟨rfl, rfl⟩ := hro i o e
      cases hr
    · intro i L e
      unfold tzR at e
      split at e
      · cases e; exact (Array.getElem?_eq_some_iff.1 hc).1
      · cases e
  · rintro W W' ⟨ct, cf, hc⟩ hb
    exact ⟨ct, cf, by rw [hb.block 0 (Array.getElem?_eq_some_iff.1 hc).1]; exact hc⟩
theorem tzT_put : ∀ (W : World) (l : Nat) (o o' : Obj), W.heap[l]? = some o → o.isCells = false → tzT W → tzT (W.putObj l o') := by
  rintro W l o o' hl hc ⟨ct, cf, h⟩
  refine ⟨ct, cf, ?_⟩
  have hne : 0 ≠ l := fun e => by
    subst e
    rw [h] at hl; cases hl; cases hc
  rw [putObj_ne hne]; exact h
def G0 : FuncId → Con := fun _ => .none
theorem env0 : EnvV Tryd.prog tt.get G0 := ⟨tt_ok, fun _ => trivial⟩
def Ge : FuncId → Con := addG G0 50 conTz
theorem enve : EnvV Tryd.prog tt.get Ge := env0.add tz_ok
theorem Ge_tz : Ge 50 = conTz := rfl
def encB (x : Bn) : Value := .int .i64 x.1
/-- what a part of the walk of Each leaves -/
def cont0 (l : Nat) (b : T_Bits) (c1 : Code) (x : Exit) (s' : SS) : Prop := x = .normal ∧ ∃ fr', SubF fr' s'.fr ∧ ScF fr' ∧
      ∀ (J Jx : List Bn → World → Prop) (B : Nat), AbidesFrom B J → AbidesFrom B Jx → (∀ pre y W1, J pre W1 → pre.length < (bitsL b).length → YieldAt Fence.wide 1 Tryd.prog l #[encB y] W1 fun e W' => (e = .returned (.bool true) ∧ J (pre ++ [y]) W' ∧ (tzT W1 → tzT W')) ∨ (e = .returned (.bool false) ∧ Jx (pre ++ [y]) W')) →
        CE Tryd.prog 26 tzT J Jx c1 fr' ([], false) (endE (fun xs => xs = bitsL b) (fun pre => pre <+: bitsL b))
theorem boxH_top {h : Hp} {t : Nat} {vs : List Value} : boxH h t vs t = some (.cells false 0 vs) := by simp [boxH]
def yv (l : Nat) : Value := .func (.yield l) ⟨[]⟩ ⟨[]⟩
def bv (b : T_Bits) : Value := .agg ⟨e_Bits.enc b⟩
/-- between two words -/
def fmO (l : Nat) (b : T_Bits) (x : Nat × List Bn) : SFr × (List Bn × Bool) := ([(0, yv l, true), (5, bv b, true), (6, .int .i64 (x.1 : Int), true)], (x.2, false))
/-- between two bits -/
def fmI (l : Nat) (b : T_Bits) (i : Nat) (x : Nat × List Bn) : SFr × (List Bn × Bool) := ([(0, yv l, true), (5, bv b, true), (6, .int .i64 (i : Int), true), (3, .int .i64 (i : Int), true), (4, .int .u64 (x.1 : Int), true)], (x.2, false))

theorem each_stops (b : T_Bits) (hb : OkB b) {φ : Ren} {own : Nat → Prop} {hp : Hp} {W : World} {gb : Nat} {rw : Bool} {caps' : List Value} (hz : hp 0 = some tzO) (hgb : hp gb = some (.cells rw 0 (e_Bits.enc b))) (hV : Vs φ [.pointer (some ⟨gb, 0, none⟩)] caps') (H : HR φ own hp W) :
    SeqStopsK Fence.wide 2 Tryd.prog 55 ⟨caps'⟩ (fun x : Bn => #[encB x]) (fun A B => tzT A → tzT B) (fun xs => xs = bitsL b) (fun pre => pre <+: bitsL b) (bitsL b).length W := by
  cases hV with
  | cons _ cv _ _ hx hl =>
  cases hl
  cases hx with
  | ptr _ _ L hL =>
  obtain ⟨L', hL', hok⟩ := H.obj _ _ hgb
  rw [hL] at hL'; cases hL'
  obtain ⟨_, cc, ct, cf, hg, hsz, hlim, hvs, _⟩ := hok
  have hv2 : (cc.toList.drop L.off).take (e_Bits.enc b).length = e_Bits.enc b := by
    have h4 : (e_Bits.enc b).length = 4 := rfl
    generalize hm : (cc.toList.drop L.off).take (e_Bits.enc b).length = m at hvs
    rw [en_Bits] at hvs ⊢
    cases hvs with
    | cons _ _ _ _ g1 hvs => cases g1; cases hvs with
      | cons _ _ _ _ g1 hvs => cases g1; cases hvs with
        | cons _ _ _ _ g1 hvs => cases g1; cases hvs with
          | cons _ _ _ _ g1 hvs => cases g1; cases hvs; rfl
  refine seqStops_of (fn := Tryd.f55) fn55_ok rfl rfl (by decide) rfl tz_mem (fun i o e => ?_) (tzT_of H hz) hg (by rw [hsz]; exact hlim) hv2 (fun v hv => ?_) ?_
  · unfold tzH at e
    split at e
    · cases e; rfl
    · cases e
  · rw [en_Bits] at hv
    simp only [List.mem_cons, List.not_mem_nil, or_false] at hv
    rcases hv with rfl | rfl | rfl | rfl <;> rfl
  intro l
  show CW _ _ _ _ _ (cont0 l b _)
  refine CW.vc enve [0, 1, 3, 4, 5, 6, 7, 11, 24] (by kernel_rfl) ?_
  (simp only [go_sem, reduceIte, reduceCtorEq, Nat.reduceAdd, Nat.reduceMul, Nat.reduceSub, Nat.reduceLT, Nat.reduceLeDiff, Nat.reduceEqDiff, Int.reduceEq, Int.reduceLT, Int.reduceLE, Int.reduceNe, boxH_top]; repeat (refine Vc.mk' ?_; simp only [go_sem, reduceIte, reduceCtorEq, Nat.reduceAdd, Nat.reduceMul, Nat.reduceSub, Nat.reduceLT, Nat.reduceLeDiff, Nat.reduceEqDiff, Int.reduceEq, Int.reduceLT, Int.reduceLE, Int.reduceNe, boxH_top]))
  refine ⟨rfl, [(0, yv l, true), (5, bv b, true), (6, .int .i64 ((0 : Nat) : Int), true)], .of (by simp [frS, lkG, yv, bv, en_Bits]), .of (by simp [scS, Sc, ScL, yv, bv, en_Bits]), ?_⟩
  intro J Jx B hJ hJx hY
  refine CE.block ?_
  refine CE.loop (fmO l b) (fun x => x.1 ≤ 4 ∧ x.2 ++ restL b x.1 = bitsL b) (fun x => 4 - x.1) (0, []) ⟨by omega, rfl⟩ (.of (by simp [frS, lkG, fmO])) rfl ?_
  rintro ⟨i, pre⟩ ⟨hi, hpre⟩
  have hi4 : (i : Int) < 4 ↔ i < 4 := by omega
  refine CE.seq (CE.of tz_mem hJ hJx ?_)
  · refine CW.vc enve [0, 1, 3, 4, 5, 6, 7, 11, 24] (by kernel_rfl) ?_
    (simp only [go_sem, reduceIte, reduceCtorEq, Nat.reduceAdd, Nat.reduceMul, Nat.reduceSub, Nat.reduceLT, Nat.reduceLeDiff, Nat.reduceEqDiff, Int.reduceEq, Int.reduceLT, Int.reduceLE, Int.reduceNe, fmO, yv, bv]; repeat (refine Vc.mk' ?_; simp only [go_sem, reduceIte, reduceCtorEq, Nat.reduceAdd, Nat.reduceMul, Nat.reduceSub, Nat.reduceLT, Nat.reduceLeDiff, Nat.reduceEqDiff, Int.reduceEq, Int.reduceLT, Int.reduceLE, Int.reduceNe, fmO, yv, bv]))
    refine toCW.mk [(0, yv l, true), (5, bv b, true), (6, .int .i64 (i : Int), true), (7, .bool (decide (i < 4)), true)] (by simp [frS, lkG, yv, bv, en_Bits, hi4]) (by simp [scS, Sc, ScL, yv, bv, en_Bits]) ?_
    refine CE.seq (CE.cond (b := decide (i < 4)) rfl ?_)
    by_cases hlt : i < 4
    · rw [if_pos (by simpa using hlt)]
      refine CE.of tz_mem hJ hJx (CW.skip ?_)
      refine toCW.mk [(0, yv l, true), (5, bv b, true), (6, .int .i64 (i : Int), true)] (by simp [frS, lkG]) (by simp [scS, Sc, ScL, yv, bv, en_Bits]) ?_
      refine CE.seq (CE.block (CE.seq (CE.of tz_mem hJ hJx ?_)))
      refine CW.vc enve [0, 1, 3, 4, 5, 6, 7, 11, 24] (by kernel_rfl) ?_
      have hbg := bits_get (b := b) hlt
      obtain ⟨w0, hw0⟩ : ∃ w0 : Nat, wd b i = (w0 : Int) := Int.eq_ofNat_of_zero_le (hb.wd i).1
      have hwlt : w0 < 18446744073709551616 := by have := (hb.wd i).2; omega
      rw [hw0] at hbg
      (simp only [go_sem, reduceIte, reduceCtorEq, Nat.reduceAdd, Nat.reduceMul, Nat.reduceSub, Nat.reduceLT, Nat.reduceLeDiff, Nat.reduceEqDiff, Int.reduceEq, Int.reduceLT, Int.reduceLE, Int.reduceNe, yv, bv, sindex, Int.toNat_natCast, Nat.mul_one, hbg, hlt]; repeat (refine Vc.mk' ?_; simp only [go_sem, reduceIte, reduceCtorEq, Nat.reduceAdd, Nat.reduceMul, Nat.reduceSub, Nat.reduceLT, Nat.reduceLeDiff, Nat.reduceEqDiff, Int.reduceEq, Int.reduceLT, Int.reduceLE, Int.reduceNe, yv, bv, sindex, Int.toNat_natCast, Nat.mul_one, hbg, hlt]))
      simp only [en_Bits] at hbg
      refine toCW.mk [(0, yv l, true), (5, bv b, true), (6, .int .i64 (i : Int), true), (3, .int .i64 (i : Int), true), (4, .int .u64 (w0 : Int), true)] (by simp [frS, lkG, yv, bv, en_Bits, hbg]) (by simp [scS, Sc, ScL, yv, bv, en_Bits]) ?_
      refine CE.block ?_
      refine CE.loop (fmI l b i) (fun x => x.1 < 18446744073709551616 ∧ x.2 ++ (wl i x.1 ++ restL b (i + 1)) = bitsL b) (fun x => x.1) (w0, pre) ⟨hwlt, by rw [← hpre, restL_step hlt, hw0]; simp⟩ (.of (by simp [frS, lkG, fmI])) rfl ?_
      rintro ⟨w, pr⟩ ⟨hw, hpr⟩
      have hw1 : w < 18446744073709551616 := hw
      have hp1 : pr ++ (wl i w ++ restL b (i + 1)) = bitsL b := hpr
      refine CE.seq (CE.seq (CE.of tz_mem hJ hJx ?_))
      refine CW.vc enve [0, 1, 3, 4, 5, 6, 7, 11, 24] (by kernel_rfl) ?_
      have hwz : (w : Int) = 0 ↔ w = 0 := by omega
      (simp only [go_sem, reduceIte, reduceCtorEq, Nat.reduceAdd, Nat.reduceMul, Nat.reduceSub, Nat.reduceLT, Nat.reduceLeDiff, Nat.reduceEqDiff, Int.reduceEq, Int.reduceLT, Int.reduceLE, Int.reduceNe, fmI, yv, bv]; repeat (refine Vc.mk' ?_; simp only [go_sem, reduceIte, reduceCtorEq, Nat.reduceAdd, Nat.reduceMul, Nat.reduceSub, Nat.reduceLT, Nat.reduceLeDiff, Nat.reduceEqDiff, Int.reduceEq, Int.reduceLT, Int.reduceLE, Int.reduceNe, fmI, yv, bv]))
      refine toCW.mk [(0, yv l, true), (5, bv b, true), (6, .int .i64 (i : Int), true), (3, .int .i64 (i : Int), true), (4, .int .u64 (w : Int), true), (11, .bool (!decide (w = 0)), true)] (by simp [frS, lkG, yv, bv, en_Bits, hwz]) (by simp [scS, Sc, ScL, yv, bv, en_Bits]) ?_
      refine CE.cond (b := !decide (w = 0)) rfl ?_
      by_cases hz0 : w = 0
      · rw [if_neg (by simp [hz0])]
        refine CE.of tz_mem hJ hJx (CW.exit ?_)
        refine toCW.mk [(0, yv l, true), (5, bv b, true), (6, .int .i64 (i : Int), true)] (by simp [frS, lkG]) (by simp [scS, Sc, ScL, yv, bv, en_Bits]) ?_
        subst hz0
        show CE _ _ _ _ _ _ _ _ _
        refine CE.of tz_mem hJ hJx ?_
        refine CW.vc enve [0, 1, 3, 4, 5, 6, 7, 11, 24] (by kernel_rfl) ?_
        have hw1i : wrapA .i64 ((i : Int) + 1) = ((i + 1 : Nat) : Int) := by rw [wrap64 (by omega) (by omega)]; omega
        (simp only [go_sem, reduceIte, reduceCtorEq, Nat.reduceAdd, Nat.reduceMul, Nat.reduceSub, Nat.reduceLT, Nat.reduceLeDiff, Nat.reduceEqDiff, Int.reduceEq, Int.reduceLT, Int.reduceLE, Int.reduceNe, yv, bv, hw1i]; repeat (refine Vc.mk' ?_; simp only [go_sem, reduceIte, reduceCtorEq, Nat.reduceAdd, Nat.reduceMul, Nat.reduceSub, Nat.reduceLT, Nat.reduceLeDiff, Nat.reduceEqDiff, Int.reduceEq, Int.reduceLT, Int.reduceLE, Int.reduceNe, yv, bv, hw1i]))
        refine toCW.mk [(0, yv l, true), (5, bv b, true), (6, .int .i64 ((i + 1 : Nat) : Int), true)] (by simp [frS, lkG, yv, bv, en_Bits, hw1i]) (by simp [scS, Sc, ScL, yv, bv, en_Bits]) ?_
        refine ⟨(i + 1, pr), ⟨by omega, ?_⟩, by simp; omega, .of (by simp [frS, lkG, fmO, yv, bv, en_Bits]), rfl⟩
        rw [wl_zero] at hp1; exact hp1
      · rw [if_pos (by simp [hz0])]
        refine CE.of tz_mem hJ hJx (CW.skip ?_)
        refine toCW.mk [(0, yv l, true), (5, bv b, true), (6, .int .i64 (i : Int), true), (3, .int .i64 (i : Int), true), (4, .int .u64 (w : Int), true)] (by simp [frS, lkG]) (by simp [scS, Sc, ScL, yv, bv, en_Bits]) ?_
        have hcz := ctz_lt hz0 hw1
        have hst := wl_step (i := i) hz0
        obtain ⟨y, hy⟩ : ∃ y, y = toBn ((i * 64 + Lib.ctz 64 w + 1 : Nat) : Int) := ⟨_, rfl⟩
        have hyv : y.1 = ((i * 64 + Lib.ctz 64 w + 1 : Nat) : Int) := by rw [hy]; exact toBn_val (by omega)
        rw [← hy] at hst
        have hlen : pr.length < (bitsL b).length := by rw [← hp1, hst]; simp
        refine CE.seq (CE.block (CE.seq (CE.yieldR enve tz_mem hJ hJx (m := 7) (by kernel_rfl) rfl rfl rfl rfl (fun y => rfl) hY hlen ?_)))
        rw [← wops_eq]
        have hm1 : wrapA .i64 ((i : Int) * 64) = ((i * 64 : Nat) : Int) := by rw [wrap64 (by omega) (by omega)]; omega
        have hm2 : wrapA .i64 (((i * 64 : Nat) : Int) + ((Lib.ctz 64 w : Nat) : Int)) = ((i * 64 + Lib.ctz 64 w : Nat) : Int) := by rw [wrap64 (by omega) (by omega)]; omega
        have hm3 : wrapA .i64 (((i * 64 + Lib.ctz 64 w : Nat) : Int) + 1) = ((i * 64 + Lib.ctz 64 w + 1 : Nat) : Int) := by rw [wrap64 (by omega) (by omega)]; omega
        have hU : U64 (w : Int) = True := eq_true ⟨by omega, by omega⟩
        have htz : tzH 0 = some tzO := rfl
        (simp only [go_sem, reduceIte, reduceCtorEq, Nat.reduceAdd, Nat.reduceMul, Nat.reduceSub, Nat.reduceLT, Nat.reduceLeDiff, Nat.reduceEqDiff, Int.reduceEq, Int.reduceLT, Int.reduceLE, Int.reduceNe, yv, bv, Ge_tz, conTz, Int.toNat_natCast, hm1, hm2, hm3, hU, htz]; repeat (refine Vc.mk' ?_; simp only [go_sem, reduceIte, reduceCtorEq, Nat.reduceAdd, Nat.reduceMul, Nat.reduceSub, Nat.reduceLT, Nat.reduceLeDiff, Nat.reduceEqDiff, Int.reduceEq, Int.reduceLT, Int.reduceLE, Int.reduceNe, yv, bv, Ge_tz, conTz, Int.toNat_natCast, hm1, hm2, hm3, hU, htz]))
        refine ⟨y, [(16, yv l, true), (22, .int .i64 y.1, true), (0, yv l, true), (5, bv b, true), (6, .int .i64 (i : Int), true), (3, .int .i64 (i : Int), true), (4, .int .u64 (w : Int), true)], .of (by simp [frS, lkG, yv, bv, en_Bits, hyv, Int.add_assoc]), .of (by simp [scS, Sc, ScL, yv, bv, en_Bits]), rfl, rfl, fun bb => ?_⟩
        rw [← wops_eq]
        (simp only [go_sem, reduceIte, reduceCtorEq, Nat.reduceAdd, Nat.reduceMul, Nat.reduceSub, Nat.reduceLT, Nat.reduceLeDiff, Nat.reduceEqDiff, Int.reduceEq, Int.reduceLT, Int.reduceLE, Int.reduceNe, yv, bv]; repeat (refine Vc.mk' ?_; simp only [go_sem, reduceIte, reduceCtorEq, Nat.reduceAdd, Nat.reduceMul, Nat.reduceSub, Nat.reduceLT, Nat.reduceLeDiff, Nat.reduceEqDiff, Int.reduceEq, Int.reduceLT, Int.reduceLE, Int.reduceNe, yv, bv]))
        refine ⟨[(24, .bool (!bb), true), (0, yv l, true), (5, bv b, true), (6, .int .i64 (i : Int), true), (3, .int .i64 (i : Int), true), (4, .int .u64 (w : Int), true)], .of (by simp [frS, lkG, yv, bv, en_Bits]), .of (by simp [scS, Sc, ScL, yv, bv, en_Bits]), ?_⟩
        refine CE.cond (b := !bb) rfl ?_
        cases bb with
        | false =>
          rw [if_pos (by rfl : (!false) = true)]
          refine CE.of tz_mem hJ hJx (CW.ret ?_)
          refine toCW.mk [] trivial trivial ?_
          exact ⟨.inr rfl, .inr ⟨rfl, ⟨wl i (w &&& (w - 1)) ++ restL b (i + 1), by rw [← hp1, hst]; simp⟩⟩⟩
        | true =>
          rw [if_neg (by decide : ¬ (!true) = true)]
          refine CE.of tz_mem hJ hJx (CW.skip ?_)
          refine toCW.mk [(0, yv l, true), (5, bv b, true), (6, .int .i64 (i : Int), true), (3, .int .i64 (i : Int), true), (4, .int .u64 (w : Int), true)] (by simp [frS, lkG]) (by simp [scS, Sc, ScL, yv, bv, en_Bits]) ?_
          show CE _ _ _ _ _ _ _ _ _
          refine CE.of tz_mem hJ hJx ?_
          refine CW.vc enve [0, 1, 3, 4, 5, 6, 7, 11, 24] (by kernel_rfl) ?_
          have hm4 : wrapA .u64 ((w : Int) - 1) = ((w - 1 : Nat) : Int) := by rw [wrap_u64 (by omega) (by omega)]; omega
          have hm5 : bitsI .and .u64 (w : Int) ((w - 1 : Nat) : Int) = ((w &&& (w - 1) : Nat) : Int) := and_u64 hw1 (by omega)
          (simp only [go_sem, reduceIte, reduceCtorEq, Nat.reduceAdd, Nat.reduceMul, Nat.reduceSub, Nat.reduceLT, Nat.reduceLeDiff, Nat.reduceEqDiff, Int.reduceEq, Int.reduceLT, Int.reduceLE, Int.reduceNe, yv, bv, hm4, hm5]; repeat (refine Vc.mk' ?_; simp only [go_sem, reduceIte, reduceCtorEq, Nat.reduceAdd, Nat.reduceMul, Nat.reduceSub, Nat.reduceLT, Nat.reduceLeDiff, Nat.reduceEqDiff, Int.reduceEq, Int.reduceLT, Int.reduceLE, Int.reduceNe, yv, bv, hm4, hm5]))
          have hlt2 := and_pred_lt hz0
          refine toCW.mk [(0, yv l, true), (5, bv b, true), (6, .int .i64 (i : Int), true), (3, .int .i64 (i : Int), true), (4, .int .u64 ((w &&& (w - 1) : Nat) : Int), true)] (by simp [frS, lkG, yv, bv, en_Bits]) (by simp [scS, Sc, ScL, yv, bv, en_Bits]) ?_
          refine ⟨(w &&& (w - 1), pr ++ [y]), ⟨Nat.lt_trans hlt2 hw1, ?_⟩, hlt2, .of (by simp [frS, lkG, fmI, yv, bv, en_Bits]), rfl⟩
          show (pr ++ [y]) ++ (wl i (w &&& (w - 1)) ++ restL b (i + 1)) = bitsL b
          rw [← hp1, hst]; simp
    · rw [if_neg (by simpa using hlt)]
      have h4 : i = 4 := by omega
      subst h4
      refine CE.of tz_mem hJ hJx (CW.exit ?_)
      refine toCW.mk [] trivial trivial ?_
      simp only [thenE, blockE, if_true]
      refine ⟨.inl rfl, .inl ⟨rfl, ?_⟩⟩
      have h := hpre
      simpa [restL_end] using h
end Go.Proofs.YtkofmbhopmgmhaaDoor.Dm
