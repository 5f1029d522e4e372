/- NetCounts: its own counter. -/
import Derived.Test.YtmppehipfpkepaaN22
set_option linter.unusedSimpArgs false
set_option linter.unusedVariables false
namespace Go.Proofs.Ytmppehipfpkepaa.Dm
open Go.Dm
set_option maxHeartbeats 16000000
set_option maxRecDepth 20000
def byte0 (x : T_Arrive) : Nat := ((x.Bytes[0]?).getD 0).toNat
def bump1 (g : List Int) (x : T_Arrive) : List Int := g.set (byte0 x) (wrapA .i64 (at' g (byte0 x) + 1))
def bump (g : List Int) (l : List T_Arrive) : List Int := l.foldl bump1 g
theorem bump_len : ∀ (l : List T_Arrive) (g : List Int), (bump g l).length = g.length
  | [], _ => rfl
  | x :: l, g => by unfold bump; rw [List.foldl_cons]; exact (bump_len l (bump1 g x)).trans (by unfold bump1; rw [List.length_set])
theorem bump_succ {g : List Int} {l : List T_Arrive} {k : Nat} (h : k < l.length) : bump g (l.take (k + 1)) = bump1 (bump g (l.take k)) (at' l k) := by
  rw [take_at h]; unfold bump; rw [List.foldl_append]; rfl
theorem byte0_lt (x : T_Arrive) : byte0 x < 256 := by unfold byte0; exact UInt8.toNat_lt _
def CntPre (hp : Hp) (gb : Nat) : Prop := ∃ q g, hp gb = some (.cells true 0 [mkSl q g]) ∧ hp q = mkOb e_int g ∧ g.length = 256
def blkI : Value → Nat
  | .slice (some ⟨b, _, _⟩) _ _ => b
  | _ => 0
def cntQ (hp : Hp) (gb : Nat) : Nat := blkI ((cellsOf (hp gb)).headD undef)
def cntG (hp : Hp) (gb : Nat) : List Int := e_int.rd hp ((cellsOf (hp gb)).headD undef)
def conCnt : Con := .det (fun args hp _ => match args with | [v, .pointer (some ⟨gb, 0, none⟩)] => SlP e_Arrive hp v ∧ CntPre hp gb ∧ ∀ x ∈ e_Arrive.rd hp v, x.Bytes ≠ [] | _ => False)
  (fun args hp top => match args with | [v, .pointer (some ⟨gb, _, _⟩)] => (.tuple ⟨[]⟩, [(cntQ hp gb, mkOb e_int (bump (cntG hp gb) (e_Arrive.rd hp v)))], top) | _ => (undef, [], top))
def stCnt (hp : Hp) (top : Nat) (v : Value) (gb q : Nat) (g : List Int) (l : List T_Arrive) (i : Nat) : SS := ⟨[(0, v, true), (1, .pointer (some ⟨gb, 0, none⟩), true), (3, .int .i64 (i : Int), true)], hp.sets [(q, mkOb e_int (bump g (l.take i)))], top + 0⟩
theorem cnt_ok : ConOk Try.prog 13 conCnt := by
  refine .mkDet fn13_ok ?_
  intro args hp top hpre hcl hsc
  match args, hpre with
  | [v, .pointer (some ⟨gb, 0, none⟩)], ⟨⟨l, h⟩, ⟨q, g, hg, hq, hgl⟩, hne⟩ =>
  rw [h.rd] at hne
  simp only [h.rd]
  have hs := h.low hcl
  have hv : mkSl q g = .slice (some ⟨q, 0, none⟩) g.length g.length := by cases g with | nil => simp at hgl | cons a g => rfl
  have hqo : ∃ o, hp q = some o := by cases g with | nil => simp at hgl | cons a g => exact ⟨_, hq⟩
  obtain ⟨oq, hqo⟩ := hqo
  have hqt : q < top := hcl.lt _ _ hqo
  have hgt : gb < top := hcl.lt _ _ hg
  have eQ : cntQ hp gb = q := by unfold cntQ; rw [hg, hv]; rfl
  have eG : cntG hp gb = g := by unfold cntG; rw [hg]; exact (SlT.own hq (by omega)).rd
  rw [eQ, eG]
  refine CalledOk.of_fun tt_ok fn13_ok rfl 21 rfl [] rfl (show 2 ≤ 21 by decide) ?_
  refine CW.vc env24_r [0, 1, 3, 7] (by kernel_rfl) ?_
  (repeat ((try refine Vc.mk' ?_); simp only [go_sem, reduceIte, reduceCtorEq, Nat.reduceAdd, Nat.reduceMul, Nat.reduceSub, Nat.reduceLT, Nat.reduceLeDiff, Nat.reduceEqDiff, Int.reduceEq, Int.reduceLT, Int.reduceLE, Int.reduceNe]))
  refine CW.loopR (stCnt hp top v gb q g l) (fun i => i ≤ l.length) (fun i => l.length - i) 0 (Nat.zero_le _) ?_ ?_
  · have b0 : bump g (l.take 0) = g := rfl
    have b1 : bump g [] = g := rfl
    exact (by refine SubR.mk' [] hcl (by simp) (by simp) rfl (frSub_ok ?_) ?_ ?_ <;> simp [frSub, lkG, ren, renL, renL_set, renL_ints, UpdOk.nil, UpdOk.cons, renOO_some, renO_cells, renO_map, renOO_mkOb, rn_base, rn_add, ren_mkSl, Enc.flat_ren, set_same, set_ne, sets_cons, sets_nil, Keep.set, Keep.setK, Keep.refl, rm_m_int_bool, rm_m_message_Rule, rm_m_pair_bool, rm_m_pair_int, Sc.ren (fun j hj => rn_low hj) hs, rn_low hgt, rn_low hqt, b0, b1, hq])
  · intro i hi
    have hgo : hp q = some (.cells true 1 (e_int.flat g)) := by cases g with | nil => simp at hgl | cons a g => exact hq
    have hL : ∀ {o : Option AObj}, SlT e_Arrive (hp.set q o) v l := fun {o} => by
      cases h with
      | nils => exact .nils
      | emp => exact .emp
      | rows b o' c rw vs l hb hv ho hc hn => exact .rows b o' c rw vs l ((set_ne _ _ _ _ (fun e => by rw [e, hgo] at hb; exact absurd (cellZ hb) (by decide))).trans hb) hv ho hc hn
    obtain ⟨G, hG⟩ : ∃ G, bump g (l.take i) = G := ⟨_, rfl⟩
    have hGl : G.length = 256 := by rw [← hG, bump_len, hgl]
    have hGS : SlT e_int (hp.set q (mkOb e_int G)) (mkSl q G) G := .own (set_same ..) (by omega)
    have hmk : mkSl q g = mkSl q G := mkSl_len (by rw [hgl, hGl])
    have hgq : ¬ gb = q := fun e => by
      rw [e, hgo] at hg
      exact absurd (cellZ hg) (by decide)
    have hll := h.le
    have hlen : ∀ {hp' : Hp}, slen tt.get hp' 34 v = (.int .i64 (l.length : Int), True) := fun {hp'} => len_sArrive (hL (o := none))
    by_cases hlt : i < l.length
    · have hst := bump_succ (g := g) hlt
      have ld := ld_sArrive (hL (o := mkOb e_int G)) hlt
      have hbn := hne (at' l i) (at_mem hlt)
      have hb0 : 0 < (at' l i).Bytes.length := List.length_pos_iff.2 hbn
      have hlt1 : (i : Int) < (l.length : Int) := by omega
      have ix : sindexAddr tt.get 34 v (.int .i64 (i : Int)) = (ptrS v (i * 3), True) := by
        have := idx_sArrive (hL (o := none)) (k := .i64) (n := (i : Int)) (by omega) hlt1
        rwa [Int.toNat_natCast] at this
      have sf := sf_sArrive_2 (hL (o := none)) hlt
      have sc := sc_sArrive_2 (hL (o := mkOb e_int G)) hlt
      have hbi : (0 : Int) < ((at' l i).Bytes.length : Int) := by omega
      have hby : byte0 (at' l i) < 256 := byte0_lt _
      have hwb : Int.ofNat (((at' l i).Bytes[(0 : Nat)]?).getD 0).toNat = ((byte0 (at' l i) : Nat) : Int) := rfl
      have hbG : byte0 (at' l i) < G.length := by omega
      have ixG : sindexAddr tt.get 40 (mkSl q G) (.int .u8 ((byte0 (at' l i) : Nat) : Int)) = (ptrS (mkSl q G) (byte0 (at' l i) * 1), True) := by
        have := idx_sint hGS (k := .u8) (n := ((byte0 (at' l i) : Nat) : Int)) (by omega) (by omega)
        rwa [Int.toNat_natCast] at this
      have ldG := ld_sint hGS hbG
      have stG := fun x : Int => os_sint (hp := hp.set q (mkOb e_int G)) (set_same ..) hbG (x := x)
      refine CW.vc env24_r [0, 1, 3, 7] (by kernel_rfl) ?_
      (repeat ((try refine Vc.mk' ?_); simp only [go_sem, reduceIte, reduceCtorEq, Nat.reduceAdd, Nat.reduceMul, Nat.reduceSub, Nat.reduceLT, Nat.reduceLeDiff, Nat.reduceEqDiff, Int.reduceEq, Int.reduceLT, Int.reduceLE, Int.reduceNe, stCnt, hG, hg, hmk, hlen, ix, sf, sc, hlt, hlt1, hgq, hb0, hbi, hby, hwb, ixG, ldG, stG, sindex, hGl]))
      exact .mk (i + 1) hlt (by omega) ((by refine SubR.mk' [] hcl (by simp) (by simp) rfl (frSub_ok ?_) ?_ ?_ <;> simp [frSub, lkG, ren, renL, renL_set, renL_ints, UpdOk.nil, UpdOk.cons, renOO_some, renO_cells, renO_map, renOO_mkOb, rn_base, rn_add, ren_mkSl, Enc.flat_ren, set_same, set_ne, sets_cons, sets_nil, Keep.set, Keep.setK, Keep.refl, rm_m_int_bool, rm_m_message_Rule, rm_m_pair_bool, rm_m_pair_int, Sc.ren (fun j hj => rn_low hj) hs, rn_low hgt, rn_low hqt, hst, hG, bump1, wrap_succ hlt hll]))
    · have hlt1 : ¬ (i : Int) < (l.length : Int) := by omega
      have hi2 : i = l.length := by omega
      subst hi2
      refine CW.vc env24_r [0, 1, 3, 7] (by kernel_rfl) ?_
      (repeat ((try refine Vc.mk' ?_); simp only [go_sem, reduceIte, reduceCtorEq, Nat.reduceAdd, Nat.reduceMul, Nat.reduceSub, Nat.reduceLT, Nat.reduceLeDiff, Nat.reduceEqDiff, Int.reduceEq, Int.reduceLT, Int.reduceLE, Int.reduceNe, stCnt, hG, hlen, hlt1]))
      rw [List.take_length] at hG
      rw [hG]
      (refine ⟨[], by simp, by simp, by simp, ?_, ?_, ?_⟩ <;> simp [frSub, lkG, ren, renL, renL_set, renL_ints, UpdOk.nil, UpdOk.cons, renOO_some, renO_cells, renO_map, renOO_mkOb, rn_base, rn_add, ren_mkSl, Enc.flat_ren, set_same, set_ne, sets_cons, sets_nil, Keep.set, Keep.setK, Keep.refl, rm_m_int_bool, rm_m_message_Rule, rm_m_pair_bool, rm_m_pair_int, rn_low hqt])
end Go.Proofs.Ytmppehipfpkepaa.Dm
