/- CalendPlays: sift, both. -/
import Derived.Test.YtogndgadipdikaaZ1
set_option linter.unusedSimpArgs false
set_option linter.unusedVariables false
namespace Go.Proofs.Ytogndgadipdikaa.Dm
open Go.Dm
set_option maxHeartbeats 8000000
set_option maxRecDepth 20000

/-- the two calendars, of the same things -/
structure Both (hp : Hp) (cb mb : Nat) (last : Int) (lv mv : Value) (l : List T_t96) : Prop where
  c : CalAt_s hp cb last lv l
  m : RefAt hp mb last mv (l.map mR)
  ap : ∀ b n c d o n2 c2, lv = .slice (some ⟨b, 0, none⟩) n c → mv = .slice (some ⟨d, o, none⟩) n2 c2 → ¬ d = b
section
variable {hp h' : Hp} {cb mb top : Nat} {last : Int} {lv mv : Value} {l : List T_t96}
theorem Both.ne (B : Both hp cb mb last lv mv l) : ¬ cb = mb := fun e => by
  have h1 := B.c.h
  have h2 := B.m.h
  rw [e, h2] at h1
  simp at h1
/-- the list's block is none of the document's cells -/
theorem Both.nb {b n c : Nat} (B : Both hp cb mb last lv mv l) (e : lv = .slice (some ⟨b, 0, none⟩) n c) : ¬ b = mb := fun e2 => by
  subst e2
  have h1 := B.c.o
  rw [e] at h1
  cases h1 with
  | blk b l hb hn =>
    rw [B.m.h] at hb
    simp only [Option.some.injEq, AObj.cells.injEq] at hb
    exact absurd hb.2.1 (by decide)
theorem Both.rd (B : Both hp cb mb last lv mv l) : calL hp cb = lv ∧ calLast hp cb = last ∧ refL hp mb = mv ∧ refLast hp mb = last ∧ e_t96.rd hp lv = l ∧ e_Thing.rd hp mv = l.map mR := by
  refine ⟨?_, ?_, ?_, ?_, B.c.o.slT.rd, B.m.o.rd⟩
  · unfold calL; rw [B.c.h]; rfl
  · unfold calLast; rw [B.c.h]; rfl
  · unfold refL; rw [B.m.h]; rfl
  · unfold refLast; rw [B.m.h]; rfl
/-- the document's list is untouched by what becomes of the calendar -/
theorem Both.mono (B : Both hp cb mb last lv mv l) (hcl : Cl hp top) {ks : List Nat} (hks : ∀ k ∈ ks, k = cb ∨ k = mb ∨ ∃ n c, lv = .slice (some ⟨k, 0, none⟩) n c) (hk : Keep top ks h' hp) : SlT e_Thing h' mv (l.map mR) :=
  B.m.o.mono fun b o n c e => by
    have hs := B.m.o.low hcl
    have ho := B.m.o
    have hap := B.ap
    subst e
    refine hk b hs fun hm => ?_
    cases ho with
    | rows b o c rw vs _ hb hv hlen hc hn2 =>
      rcases hks b hm with h | h | ⟨n2, c2, h⟩
      · rw [h, B.c.h] at hb
        simp only [Option.some.injEq, AObj.cells.injEq] at hb
        exact absurd hb.2.1 (by decide)
      · rw [h, B.m.h] at hb
        simp only [Option.some.injEq, AObj.cells.injEq] at hb
        exact absurd hb.2.1 (by decide)
      · exact hap _ _ _ _ _ _ _ h rfl rfl
end
theorem own_or {hp : Hp} {v : Value} {l : List T_t96} (h : OwnV e_t96 hp v l) : (v = .slice none 0 0 ∧ l = []) ∨ ∃ b, v = .slice (some ⟨b, 0, none⟩) l.length l.length ∧ hp b = some (.cells true 3 (e_t96.flat l)) := by
  cases h with
  | nil => exact Or.inl ⟨rfl, rfl⟩
  | blk b l h hn => exact Or.inr ⟨b, rfl, h⟩
/-! ### sift -/
def keptV (g : List UInt8) (l : List T_t96) : List T_t96 := keptP (fun a : T_t96 => decide (a.v = g)) l
def siftRes2 (cb mb : Nat) (last : Int) (lv : Value) (l : List T_t96) (g : List UInt8) (top : Nat) : Value × Upds × Nat :=
  (.bool true, (cb, some (.cells true 0 [.bool true, .int .i64 last, dfV lv (keptV g l)])) :: (dfU e_t96 lv (keptV g l) ++
    [(mb, some (.cells true 0 [mkSl top ((keptV g l).map mR), .int .i64 last])), (top, mkOb e_Thing ((keptV g l).map mR))]), top + 1)
def BothIs (hp : Hp) (cb mb : Nat) : Prop := ∃ last lv mv l, Both hp cb mb last lv mv l
def conSift2 : Con := .det (fun args hp _ => match args with | [.pointer (some ⟨cb, 0, none⟩), .pointer (some ⟨mb, 0, none⟩), g] => BothIs hp cb mb ∧ IsS g | _ => False) (fun args hp top => match args with
  | [.pointer (some ⟨cb, _, _⟩), .pointer (some ⟨mb, _, _⟩), g] => siftRes2 cb mb (calLast hp cb) (calL hp cb) (e_t96.rd hp (calL hp cb)) (strOf g) top | _ => (undef, [], top))

theorem sift2_ok : ConOk Try.prog 53 conSift2 := by
  refine .mkDet fn53_ok ?_
  intro args hp top hpre hcl hsc
  match args, hpre with
  | [.pointer (some ⟨cb, 0, none⟩), .pointer (some ⟨mb, 0, none⟩), gv], ⟨⟨last, lv, mv, l, B⟩, hg⟩ =>
  obtain ⟨r1, r2, -, -, r5, -⟩ := B.rd
  rw [hg]
  simp only [r1, r2, r5, strOf_string]
  generalize strOf gv = g
  have hh := B.c.h
  have hm := B.m.h
  have hcbt : cb < top := hcl.lt _ _ hh
  have hmbt : mb < top := hcl.lt _ _ hm
  have lvs := B.c.low hcl
  have mvs := B.m.low hcl
  have hcm := B.ne
  have hmc : ¬ mb = cb := fun e => hcm e.symm
  have hn := B.c.n
  have htc : ∀ k, ¬ top + k = cb := fun k => by omega
  have htm : ∀ k, ¬ top + k = mb := fun k => by omega
  have htc0 : ¬ top = cb := by omega
  have htm0 : ¬ top = mb := by omega
  have hCI : ∀ {h' : Hp}, Keep top [] h' hp → CalIs_s h' cb = True := fun {h'} hk => eq_true ⟨last, lv, l, by rw [hk cb hcbt (by simp)]; exact hh, B.c.o.mono fun b n c e => by subst e; exact hk b lvs (by simp), B.c.up, B.c.tk, B.c.l0, B.c.l1, B.c.n⟩
  have hCr : ∀ {h' : Hp}, Keep top [] h' hp → e_t96.rd h' lv = l := fun {h'} hk => (B.c.o.mono fun b n c e => by subst e; exact hk b lvs (by simp)).slT.rd
  have hSF : ∀ {h' : Hp}, h' top = some (.cells true 0 [.string ⟨⟨g⟩⟩]) → h' (top + 1) = some (.cells true 0 [.slice none 0 0]) → SF h' (Value.func (.func 70) ⟨[]⟩ ⟨[.pointer (some ⟨top + 1, 0, none⟩), .pointer (some ⟨top, 0, none⟩)]⟩) = True := fun h1 h2 => eq_true (.lw (top + 1) top g h1 h2)
  obtain ⟨K, hK⟩ : ∃ K, K = keptV g l := ⟨_, rfl⟩
  have hSC : ∀ {h' : Hp} {t : Nat}, h' top = some (.cells true 0 [.string ⟨⟨g⟩⟩]) → siftC h' (Value.func (.func 70) ⟨[]⟩ ⟨[.pointer (some ⟨top + 1, 0, none⟩), .pointer (some ⟨top, 0, none⟩)]⟩) cb last lv l t =
      (.int .i64 ((l.length : Int) - (K.length : Int)), (cb, some (.cells true 0 [.bool true, .int .i64 last, dfV lv K])) :: (dfU e_t96 lv K ++ [(top + 1, some (.cells true 0 [mkSl t (outs_s l l.length)])), (t, mkOb e_string (outs_s l l.length))]), t + 1) := fun h => by
    rw [hK]; exact siftC_lw h
  have hgo : goneR g (l.map mR) = K.map mR := by rw [hK]; exact goneR_mR
  have hou : outsR (l.map mR) l.length = outs_s l l.length := outsR_mR
  have hol : (outs_s l l.length).length ≤ 9223372036854775807 := by rw [outs_s_len (Nat.le_refl _)]; omega
  have hnp := fun b n c e => @Both.nb hp cb mb last lv mv l b n c B e
  have hmo := fun (h' : Hp) (ks : List Nat) h1 h2 => @Both.mono hp h' cb mb top last lv mv l B hcl ks h1 h2
  have ho := B.c.o
  have hap := B.c.ap
  simp only [siftRes2, ← hK]
  refine CalledOk.of_fun tt_ok fn53_ok rfl 28 rfl [.tmp 6] rfl (show 3 ≤ 28 by decide) ?_
  rcases own_or ho with ⟨rfl, hl⟩ | ⟨b, rfl, hb⟩
  · have hRm : ∀ {h' : Hp}, Keep top [cb] h' hp → SlT e_Thing h' mv (l.map mR) := fun {h'} hk => hmo h' [cb] (fun k hk => Or.inl (by simpa using hk)) hk
    have hRI : ∀ {h' : Hp}, h' mb = some (.cells true 0 [mv, .int .i64 last]) → Keep top [cb] h' hp → RefIs h' mb = True := fun {h'} h1 h2 => eq_true ⟨last, mv, _, h1, hRm h2, B.m.l0, B.m.l1, B.m.n⟩
    have hRr : ∀ {h' : Hp}, Keep top [cb] h' hp → e_Thing.rd h' mv = l.map mR := fun hk => (hRm hk).rd
    refine CW.vc env15s [0, 1, 2, 5, 6, 7, 8, 9, 10] (by kernel_rfl) ?_
    (simp only [go_sem, reduceIte, reduceCtorEq, Nat.reduceAdd, Nat.reduceMul, Nat.reduceSub, Nat.reduceLT, Nat.reduceLeDiff, Nat.reduceEqDiff, Int.reduceEq, Int.reduceLT, Int.reduceLE, Int.reduceNe, G15s_sift, conSift_s, G15s_rsift, conRSift, rsiftRes, G15s_same, conEq, calL, calLast, refL, refLast, cellsOf_some, intOf_int, strOf_string, List.getElem?_cons_succ, List.getElem?_cons_zero, Option.getD_some, evList, evO, hh, hm, set_lt hcbt, set_lt hmbt, hcm, hmc, htc, htm, htc0, htm0, hCI, hCr, hSF, hSC, hgo, hou, hol, List.length_map, dfV, dfU, hRI, hRr, Keep.setK, List.mem_singleton]; repeat (refine Vc.mk' ?_; simp only [go_sem, reduceIte, reduceCtorEq, Nat.reduceAdd, Nat.reduceMul, Nat.reduceSub, Nat.reduceLT, Nat.reduceLeDiff, Nat.reduceEqDiff, Int.reduceEq, Int.reduceLT, Int.reduceLE, Int.reduceNe, G15s_sift, conSift_s, G15s_rsift, conRSift, rsiftRes, G15s_same, conEq, calL, calLast, refL, refLast, cellsOf_some, intOf_int, strOf_string, List.getElem?_cons_succ, List.getElem?_cons_zero, Option.getD_some, evList, evO, hh, hm, set_lt hcbt, set_lt hmbt, hcm, hmc, htc, htm, htc0, htm0, hCI, hCr, hSF, hSC, hgo, hou, hol, List.length_map, dfV, dfU, hRI, hRr, Keep.setK, List.mem_singleton]))
    exact ⟨[top + 3], by simp, by simp, by simp, by simp [frSub, lkG, ren, renL, renL_set, renL_ints, UpdOk.nil, UpdOk.cons, renOO_some, renO_cells, renO_map, renOO_mkOb, rn_base, rn_add, ren_mkSl, Enc.flat_ren, set_same, set_ne, sets_cons, sets_nil, Keep.set, Keep.setK, Keep.refl, rn_low hcbt, rn_low hmbt, hcm, hmc, htc, htm, htc0, htm0, set_lt hcbt, set_lt hmbt], by simp [frSub, lkG, ren, renL, renL_set, renL_ints, UpdOk.nil, UpdOk.cons, renOO_some, renO_cells, renO_map, renOO_mkOb, rn_base, rn_add, ren_mkSl, Enc.flat_ren, set_same, set_ne, sets_cons, sets_nil, Keep.set, Keep.setK, Keep.refl, rn_low hcbt, rn_low hmbt, hcm, hmc, htc, htm, htc0, htm0, set_lt hcbt, set_lt hmbt], by simp [frSub, lkG, ren, renL, renL_set, renL_ints, UpdOk.nil, UpdOk.cons, renOO_some, renO_cells, renO_map, renOO_mkOb, rn_base, rn_add, ren_mkSl, Enc.flat_ren, set_same, set_ne, sets_cons, sets_nil, Keep.set, Keep.setK, Keep.refl, rn_low hcbt, rn_low hmbt, hcm, hmc, htc, htm, htc0, htm0, set_lt hcbt, set_lt hmbt]⟩
  · have hbt : b < top := lvs
    have hcb : ¬ cb = b := hap
    have hbc : ¬ b = cb := fun e => hcb e.symm
    have hbm : ¬ b = mb := hnp _ _ _ rfl
    have htb : ∀ k, ¬ top + k = b := fun k => by omega
    have htb0 : ¬ top = b := by omega
    have hmb : ¬ mb = b := fun e => hbm e.symm
    have hRm : ∀ {h' : Hp}, Keep top [cb, b] h' hp → SlT e_Thing h' mv (l.map mR) := fun {h'} hk => hmo h' [cb, b] (fun k hk => by
      simp only [List.mem_cons, List.not_mem_nil, or_false] at hk
      rcases hk with rfl | rfl
      · exact Or.inl rfl
      · exact Or.inr (Or.inr ⟨_, _, rfl⟩)) hk
    have hRI : ∀ {h' : Hp}, h' mb = some (.cells true 0 [mv, .int .i64 last]) → Keep top [cb, b] h' hp → RefIs h' mb = True := fun {h'} h1 h2 => eq_true ⟨last, mv, _, h1, hRm h2, B.m.l0, B.m.l1, B.m.n⟩
    have hRr : ∀ {h' : Hp}, Keep top [cb, b] h' hp → e_Thing.rd h' mv = l.map mR := fun hk => (hRm hk).rd
    refine CW.vc env15s [0, 1, 2, 5, 6, 7, 8, 9, 10] (by kernel_rfl) ?_
    (simp only [go_sem, reduceIte, reduceCtorEq, Nat.reduceAdd, Nat.reduceMul, Nat.reduceSub, Nat.reduceLT, Nat.reduceLeDiff, Nat.reduceEqDiff, Int.reduceEq, Int.reduceLT, Int.reduceLE, Int.reduceNe, G15s_sift, conSift_s, G15s_rsift, conRSift, rsiftRes, G15s_same, conEq, calL, calLast, refL, refLast, cellsOf_some, intOf_int, strOf_string, List.getElem?_cons_succ, List.getElem?_cons_zero, Option.getD_some, evList, evO, hh, hm, set_lt hcbt, set_lt hmbt, hcm, hmc, htc, htm, htc0, htm0, hCI, hCr, hSF, hSC, hgo, hou, hol, List.length_map, dfV, dfU, hRI, hRr, Keep.setK, List.mem_cons, hcb, hbc, hbm, hmb, htb, htb0, set_lt hbt, ownS]; repeat (refine Vc.mk' ?_; simp only [go_sem, reduceIte, reduceCtorEq, Nat.reduceAdd, Nat.reduceMul, Nat.reduceSub, Nat.reduceLT, Nat.reduceLeDiff, Nat.reduceEqDiff, Int.reduceEq, Int.reduceLT, Int.reduceLE, Int.reduceNe, G15s_sift, conSift_s, G15s_rsift, conRSift, rsiftRes, G15s_same, conEq, calL, calLast, refL, refLast, cellsOf_some, intOf_int, strOf_string, List.getElem?_cons_succ, List.getElem?_cons_zero, Option.getD_some, evList, evO, hh, hm, set_lt hcbt, set_lt hmbt, hcm, hmc, htc, htm, htc0, htm0, hCI, hCr, hSF, hSC, hgo, hou, hol, List.length_map, dfV, dfU, hRI, hRr, Keep.setK, List.mem_cons, hcb, hbc, hbm, hmb, htb, htb0, set_lt hbt, ownS]))
    simp only [ownO]
    exact ⟨[top + 3], by simp, by simp, by simp, by simp [frSub, lkG, ren, renL, renL_set, renL_ints, UpdOk.nil, UpdOk.cons, renOO_some, renO_cells, renO_map, renOO_mkOb, rn_base, rn_add, ren_mkSl, Enc.flat_ren, set_same, set_ne, sets_cons, sets_nil, Keep.set, Keep.setK, Keep.refl, rn_low hcbt, rn_low hmbt, rn_low hbt, hcm, hmc, htc, htm, htc0, htm0, hcb, hbc, hbm, hmb, htb, htb0, set_lt hcbt, set_lt hmbt, set_lt hbt, Enc.flat_ren], by simp [frSub, lkG, ren, renL, renL_set, renL_ints, UpdOk.nil, UpdOk.cons, renOO_some, renO_cells, renO_map, renOO_mkOb, rn_base, rn_add, ren_mkSl, Enc.flat_ren, set_same, set_ne, sets_cons, sets_nil, Keep.set, Keep.setK, Keep.refl, rn_low hcbt, rn_low hmbt, rn_low hbt, hcm, hmc, htc, htm, htc0, htm0, hcb, hbc, hbm, hmb, htb, htb0, set_lt hcbt, set_lt hmbt, set_lt hbt, Enc.flat_ren], by simp [frSub, lkG, ren, renL, renL_set, renL_ints, UpdOk.nil, UpdOk.cons, renOO_some, renO_cells, renO_map, renOO_mkOb, rn_base, rn_add, ren_mkSl, Enc.flat_ren, set_same, set_ne, sets_cons, sets_nil, Keep.set, Keep.setK, Keep.refl, rn_low hcbt, rn_low hmbt, rn_low hbt, hcm, hmc, htc, htm, htc0, htm0, hcb, hbc, hbm, hmb, htb, htb0, set_lt hcbt, set_lt hmbt, set_lt hbt, Enc.flat_ren]⟩
end Go.Proofs.Ytogndgadipdikaa.Dm
