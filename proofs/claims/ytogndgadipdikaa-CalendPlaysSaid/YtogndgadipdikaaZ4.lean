/- CalendPlays: the walk. -/
import Derived.Test.YtogndgadipdikaaZ3
set_option linter.unusedSimpArgs false
set_option linter.unusedVariables false
namespace Go.Proofs.Ytogndgadipdikaa.Dm
open Go.Dm
set_option maxHeartbeats 8000000
set_option maxRecDepth 20000

section
variable {b d t : Nat} {s e : Bool} {l m : List T_t96} {pre L : List T_Thing} {hp : Hp} {r : Upds}
theorem ren_refV {ρ : Nat → Nat} : ren ρ (refV e d pre L) = refV e (ρ d) pre L := by cases L with
  | nil => cases e <;> rfl
  | cons a L => rfl
theorem renOO_refO {ρ : Nat → Nat} : renOO ρ (refO pre L) = refO pre L := by cases L with
  | nil => rfl
  | cons a L => simp only [refO, renOO, renO, Enc.flat_ren]
theorem mkSl_ref : mkSl t L = refV false t [] L := by cases L <;> rfl
theorem mkOb_ref : mkOb e_Thing L = refO [] L := by cases L <;> rfl
theorem dfV_gV : dfV (gV s b l) m = gV s b m := by cases s <;> rfl
theorem dfU_gV (ho : hp b = gO s e_t96 l) : hp.sets (dfU e_t96 (gV s b l) m ++ r) = (hp.set b (gO s e_t96 m)).sets r := by
  cases s with
  | false => rw [set_self (show hp b = gO false e_t96 m from ho)]; rfl
  | true => rfl
theorem gV_ap {n c o n2 c2 b2 d2 : Nat} (hbd : b ≠ d) (h1 : gV s b l = .slice (some ⟨b2, 0, none⟩) n c) (h2 : refV e d pre L = .slice (some ⟨d2, o, none⟩) n2 c2) : ¬ d2 = b2 := by
  cases s with
  | false => cases h1
  | true =>
    simp only [gV, ownS, if_true, Value.slice.injEq, Option.some.injEq, Addr.mk.injEq] at h1
    cases L with
    | nil => cases e <;> simp [refV] at h2
    | cons a L =>
      simp only [refV, Value.slice.injEq, Option.some.injEq, Addr.mk.injEq] at h2
      intro e; rw [← h1.1.1, ← h2.1.1] at e; exact hbd e.symm
end
structure PlI (n : Nat) (x : Nat × Int × Bool × List T_t96 × Bool × List T_Thing) : Prop where
  i : x.1 ≤ n
  i2 : x.1 ≤ 200
  l0 : 0 ≤ x.2.1
  l1 : x.2.1 ≤ x.1
  s : x.2.2.1 = false → x.2.2.2.1 = []
  up : up_s x.2.2.2.1
  tk : ∀ a ∈ x.2.2.2.1, 1 ≤ a.ticket ∧ a.ticket ≤ x.2.1
  len : x.2.2.2.2.2.length + x.2.2.2.1.length ≤ x.1
section
variable {n i : Nat} {last : Int} {s e : Bool} {l m : List T_t96} {pre : List T_Thing}
theorem PlI.same (I : PlI n (i, last, s, l, e, pre)) (h : i < n) (h2 : i < 200) : PlI n (i + 1, last, s, l, e, pre) := by
  have h3 : last ≤ i := I.l1
  have h4 : pre.length + l.length ≤ i := I.len
  exact ⟨h, h2, I.l0, by show last ≤ ((i + 1 : Nat) : Int); omega, I.s, I.up, I.tk, by show pre.length + l.length ≤ i + 1; omega⟩
theorem PlI.sub (I : PlI n (i, last, s, l, e, pre)) (h : i < n) (h2 : i < 200) (hm : m.Sublist l) : PlI n (i + 1, last, s, m, false, []) := by
  have h3 : last ≤ i := I.l1
  have h4 : pre.length + l.length ≤ i := I.len
  have h5 := hm.length_le
  refine ⟨h, h2, I.l0, by show last ≤ ((i + 1 : Nat) : Int); omega, fun hs => ?_, List.Pairwise.sublist hm I.up, fun a ha => I.tk a (hm.subset ha), by show 0 + m.length ≤ i + 1; omega⟩
  have : l = [] := I.s hs
  subst this
  exact List.sublist_nil.1 hm
theorem PlI.take {e2 : Bool} {k : Nat} (I : PlI n (i, last, s, l, e, pre)) (h : i < n) (h2 : i < 200) (hk : k ≤ l.length) : PlI n (i + 1, last, s, l.drop k, e2, pre ++ (l.map mR).take k) := by
  have h3 : last ≤ i := I.l1
  have h4 : pre.length + l.length ≤ i := I.len
  refine ⟨h, h2, I.l0, by show last ≤ ((i + 1 : Nat) : Int); omega, fun hs => ?_, List.Pairwise.drop I.up, fun a ha => I.tk a (List.mem_of_mem_drop ha), ?_⟩
  · have : l = [] := I.s hs
    subst this
    exact List.drop_nil
  · show (pre ++ (l.map mR).take k).length + (l.drop k).length ≤ i + 1
    rw [List.length_append, List.length_take, List.length_map, List.length_drop]
    omega
theorem PlI.put {a : Int} {v : List UInt8} (I : PlI n (i, last, s, l, e, pre)) (h : i < n) (h2 : i < 200) : PlI n (i + 1, last + 1, true, put_s l ⟨a, last + 1, v⟩, false, []) := by
  have h0 : 0 ≤ last := I.l0
  have h3 : last ≤ i := I.l1
  have h4 : pre.length + l.length ≤ i := I.len
  have htk : ∀ a ∈ l, 1 ≤ a.ticket ∧ a.ticket ≤ last := I.tk
  refine ⟨h, h2, by show 0 ≤ last + 1; omega, by show last + 1 ≤ ((i + 1 : Nat) : Int); omega, (fun e => by cases e), put_s_up I.up fun b hb => ?_, fun b hb => ?_, ?_⟩
  · have := htk b hb
    show b.ticket < last + 1
    omega
  · rcases put_s_mem.1 hb with rfl | hb
    · show 1 ≤ last + 1 ∧ last + 1 ≤ last + 1; omega
    · have := htk b hb
      show 1 ≤ b.ticket ∧ b.ticket ≤ last + 1
      omega
  · show 0 + (put_s l ⟨a, last + 1, v⟩).length ≤ i + 1
    rw [put_s_len]
    omega
theorem cut_sub {k : Nat} : (cutOut l k (k + 1)).Sublist l := by
  unfold cutOut
  have h1 : (l.take k ++ l.drop (k + 1)).Sublist (l.take k ++ l.drop k) := List.Sublist.append (List.Sublist.refl _) (by rw [← List.drop_drop]; exact List.drop_sublist ..)
  rw [List.take_append_drop] at h1
  exact h1
end
def stPl (hp : Hp) (top : Nat) (va : Value) (x : Nat × Int × Bool × List T_t96 × Bool × List T_Thing) : SS :=
  ⟨[(0, va, true), (3, .pointer (some ⟨top, 0, none⟩), true), (4, .pointer (some ⟨top + 2, 0, none⟩), true), (5, .int .i64 (x.1 : Int), true)],
    hp.sets [(top, some (.cells true 0 [.bool true, .int .i64 x.2.1, gV x.2.2.1 (top + 1) x.2.2.2.1])), (top + 1, gO x.2.2.1 e_t96 x.2.2.2.1), (top + 2, some (.cells true 0 [refV x.2.2.2.2.1 (top + 3) x.2.2.2.2.2 (x.2.2.2.1.map mR), .int .i64 x.2.1])), (top + 3, refO x.2.2.2.2.2 (x.2.2.2.1.map mR))], top + 4⟩
def G17s : FuncId → Con := addG G16s 22 conStep
theorem env17s : EnvV Try.prog tt.get G17s := env16s.add step_ok
theorem G17s_step : G17s 22 = conStep := rfl
theorem G17s_works : G17s 17 = conWorks := rfl
theorem G17s_new : G17s 21 = conNew_s := rfl
theorem G17s_take : G17s 25 = conTake_s := rfl
theorem G17s_len : G17s 23 = conLen_s := rfl
theorem G17s_same : G17s 24 = conEq e_string := rfl
theorem G17s_rtake : G17s 26 = conRTake := rfl

theorem plays_walk (hp : Hp) (top : Nat) (va : Value) (ds : List T_Do) (h : SlT e_Do hp va ds) (hcl : Cl hp top) :
    CalledOk Try.prog 6 [va] hp top fun r hp' _ => r = .bool true ∧ Keep top [] hp' hp := by
  have hs := h.low hcl
  have hdn := h.le
  refine CalledOk.of_fun tt_ok fn6_ok rfl 54 rfl [.tmp 2] rfl (show 1 ≤ 54 by decide) ?_
  refine CW.vc env17s [0, 2, 3, 4, 5, 6, 7, 12, 20, 34] (by kernel_rfl) ?_
  (simp only [go_sem, reduceIte, reduceCtorEq, Nat.reduceAdd, Nat.reduceMul, Nat.reduceSub, Nat.reduceLT, Nat.reduceLeDiff, Nat.reduceEqDiff, Int.reduceEq, Int.reduceLT, Int.reduceLE, Int.reduceNe, len_sDo h, idx_sDo h, ld_sDo h, sh_sDo h, sw_sDo h, sf_sDo_0 h, sc_sDo_0 h, sf_sDo_1 h, sc_sDo_1 h, sf_sDo_2 h, sc_sDo_2 h, sf_sDo_3 h, sc_sDo_3 h, h.P, h.oc, h.cl, h.rd, h.ref, strip_P hs, strip_rd hs, strip_ld hs, strip_sl h hs k_sDo, G17s_new, conNew_s]; repeat (refine Vc.mk' ?_; simp only [go_sem, reduceIte, reduceCtorEq, Nat.reduceAdd, Nat.reduceMul, Nat.reduceSub, Nat.reduceLT, Nat.reduceLeDiff, Nat.reduceEqDiff, Int.reduceEq, Int.reduceLT, Int.reduceLE, Int.reduceNe, len_sDo h, idx_sDo h, ld_sDo h, sh_sDo h, sw_sDo h, sf_sDo_0 h, sc_sDo_0 h, sf_sDo_1 h, sc_sDo_1 h, sf_sDo_2 h, sc_sDo_2 h, sf_sDo_3 h, sc_sDo_3 h, h.P, h.oc, h.cl, h.rd, h.ref, strip_P hs, strip_rd hs, strip_ld hs, strip_sl h hs k_sDo, G17s_new, conNew_s]))
  refine CW.loopR (stPl hp top va) (PlI ds.length) (fun x => ds.length - x.1) (0, 0, false, [], false, []) ⟨Nat.zero_le _, Nat.zero_le _, Int.le_refl _, Int.le_refl _, fun _ => rfl, .nil, by simp, Nat.le_refl _⟩ ?_ ?_
  · have e1 : gV false (top + 1) ([] : List T_t96) = .slice none 0 0 := rfl
    have e2 : gO false e_t96 [] = none := rfl
    have e3 : refV false (top + 3) [] [] = .slice none 0 0 := rfl
    have e4 : refO [] [] = none := rfl
    exact SubR.mk' [top, top + 2, top + 1, top + 3] hcl (by simp) (by simp) rfl (frSub_ok (by simp [frSub, lkG, ren, renL, renL_set, renL_ints, UpdOk.nil, UpdOk.cons, renOO_some, renO_cells, renO_map, renOO_mkOb, rn_base, rn_add, ren_mkSl, Enc.flat_ren, set_same, set_ne, sets_cons, sets_nil, Keep.set, Keep.setK, Keep.refl, Sc.ren (fun j hj => rn_low hj) hs, e1, e2, e3, e4, Int.natCast_zero])) (by simp [frSub, lkG, ren, renL, renL_set, renL_ints, UpdOk.nil, UpdOk.cons, renOO_some, renO_cells, renO_map, renOO_mkOb, rn_base, rn_add, ren_mkSl, Enc.flat_ren, set_same, set_ne, sets_cons, sets_nil, Keep.set, Keep.setK, Keep.refl, Sc.ren (fun j hj => rn_low hj) hs, e1, e2, e3, e4, Int.natCast_zero]) (by simp [frSub, lkG, ren, renL, renL_set, renL_ints, UpdOk.nil, UpdOk.cons, renOO_some, renO_cells, renO_map, renOO_mkOb, rn_base, rn_add, ren_mkSl, Enc.flat_ren, set_same, set_ne, sets_cons, sets_nil, Keep.set, Keep.setK, Keep.refl, Sc.ren (fun j hj => rn_low hj) hs, e1, e2, e3, e4, Int.natCast_zero])
  · rintro ⟨i, last, s, l, e, pre⟩ I
    have hi : i ≤ ds.length := I.i
    have hi2 : i ≤ 200 := I.i2
    have hl0 : 0 ≤ last := I.l0
    have hl1 : last ≤ i := I.l1
    have hso : s = false → l = [] := I.s
    have hup : up_s l := I.up
    have htk : ∀ a ∈ l, 1 ≤ a.ticket ∧ a.ticket ≤ last := I.tk
    have hlen : pre.length + l.length ≤ i := I.len
    have hMl : (l.map mR).length = l.length := List.length_map ..
    have hB : ∀ {h' : Hp}, h' top = some (.cells true 0 [.bool true, .int .i64 last, gV s (top + 1) l]) → h' (top + 1) = gO s e_t96 l → h' (top + 2) = some (.cells true 0 [refV e (top + 3) pre (l.map mR), .int .i64 last]) → h' (top + 3) = refO pre (l.map mR) → Both h' top (top + 2) last (gV s (top + 1) l) (refV e (top + 3) pre (l.map mR)) l := fun h1 h2 h3 h4 =>
      ⟨cal_gV_s h1 h2 hso hup htk hl0 (by omega) (by omega), ⟨h3, refV_slT h4 (by rw [hMl]; omega), hl0, by omega, by rw [hMl]; omega⟩, fun b n c d o n2 c2 h5 h6 => gV_ap (by omega : top + 1 ≠ top + 3) h5 h6⟩
    have hSP : ∀ {h' : Hp}, h' top = some (.cells true 0 [.bool true, .int .i64 last, gV s (top + 1) l]) → h' (top + 1) = gO s e_t96 l → h' (top + 2) = some (.cells true 0 [refV e (top + 3) pre (l.map mR), .int .i64 last]) → h' (top + 3) = refO pre (l.map mR) → StepPre h' top (top + 2) = True := fun h1 h2 h3 h4 => eq_true ⟨_, _, _, _, hB h1 h2 h3 h4, by omega, by omega⟩
    have hLP : ∀ {h' : Hp}, h' top = some (.cells true 0 [.bool true, .int .i64 last, gV s (top + 1) l]) → h' (top + 1) = gO s e_t96 l → LenPre_s h' top = True := fun h1 h2 => eq_true ⟨_, _, _, cal_gV_s h1 h2 hso hup htk hl0 (by omega) (by omega)⟩
    have hTP : ∀ {h' : Hp} {a : Int}, h' top = some (.cells true 0 [.bool true, .int .i64 last, gV s (top + 1) l]) → h' (top + 1) = gO s e_t96 l → TakePre_s h' top (.int .u64 a) = True := fun h1 h2 => eq_true ⟨⟨_, _, _, cal_gV_s h1 h2 hso hup htk hl0 (by omega) (by omega)⟩, rfl⟩
    have hrd : ∀ {h' : Hp} {b : Nat}, h' b = gO s e_t96 l → e_t96.rd h' (gV s b l) = l := fun h1 => (gV_slT hso h1 (by omega)).rd
    have hRI : ∀ {h' : Hp}, h' (top + 2) = some (.cells true 0 [refV e (top + 3) pre (l.map mR), .int .i64 last]) → h' (top + 3) = refO pre (l.map mR) → RefIs h' (top + 2) = True := fun h3 h4 => eq_true ⟨_, _, _, h3, refV_slT h4 (by rw [hMl]; omega), hl0, by omega, by rw [hMl]; omega⟩
    have hRr : ∀ {h' : Hp}, h' (top + 3) = refO pre (l.map mR) → e_Thing.rd h' (refV e (top + 3) pre (l.map mR)) = l.map mR := fun h4 => (refV_slT h4 (by rw [hMl]; omega)).rd
    by_cases hgo : i < ds.length ∧ (i : Int) < 200
    · obtain ⟨c1, c2⟩ := hgo
      have hwi : wrapA .i64 ((i : Int) + 1) = ((i + 1 : Nat) : Int) := wrap_succ c1 hdn
      have hmu : ds.length - (i + 1) < ds.length - i := by omega
      obtain ⟨x, hx⟩ : ∃ x, x = at' ds i := ⟨_, rfl⟩
      have hle : ∀ {h' : Hp} {t : Nat}, sload tt.get hp 55 (ptrS va (i * 4)) = (.agg ⟨e_Do.enc x⟩, True) := by rw [hx]; exact ld_sDo h c1
      have hen : e_Do.enc (e_Do.dec (e_Do.enc x)) = e_Do.enc x := rfl
      have hde : e_Do.dec (e_Do.enc x) = x := rfl
      have hlt : ∀ {t : T_t96}, t.ticket = last + 1 → ∀ a ∈ l, a.ticket < t.ticket := fun {t} e a ha => by have := htk a ha; omega
      rcases kd_rng x.Kind with hk | hk | hk | hk | hk | hk | hk
      · have hR : ∀ {L : List T_t96} {mv lv : Value} {t : Nat}, stepRes top (top + 2) last lv mv L x t = putRR top (top + 2) (last + 1) lv (put_s L ⟨x.At, last + 1, x.Text⟩) t := fun {L mv lv t} => by unfold stepRes; rw [if_pos hk]
        refine CW.vc env17s [0, 2, 3, 4, 5, 6, 7, 12, 20, 34] (by kernel_rfl) ?_
        (simp only [go_sem, reduceIte, reduceCtorEq, Nat.reduceAdd, Nat.reduceMul, Nat.reduceSub, Nat.reduceLT, Nat.reduceLeDiff, Nat.reduceEqDiff, Int.reduceEq, Int.reduceLT, Int.reduceLE, Int.reduceNe, len_sDo h, idx_sDo h, ld_sDo h, sh_sDo h, sw_sDo h, sf_sDo_0 h, sc_sDo_0 h, sf_sDo_1 h, sc_sDo_1 h, sf_sDo_2 h, sc_sDo_2 h, sf_sDo_3 h, sc_sDo_3 h, h.P, h.oc, h.cl, h.rd, h.ref, strip_P hs, strip_rd hs, strip_ld hs, strip_sl h hs k_sDo, stPl, calL, calLast, refL, refLast, cellsOf_some, intOf_int, List.getElem?_cons_succ, List.getElem?_cons_zero, Option.getD_some, hSP, hLP, hTP, hrd, hRI, hRr, c1, c2, G17s_step, conStep, ← hx, hR, putRR, stV, gV_drop (E := e_t96)]; repeat (refine Vc.mk' ?_; simp only [go_sem, reduceIte, reduceCtorEq, Nat.reduceAdd, Nat.reduceMul, Nat.reduceSub, Nat.reduceLT, Nat.reduceLeDiff, Nat.reduceEqDiff, Int.reduceEq, Int.reduceLT, Int.reduceLE, Int.reduceNe, len_sDo h, idx_sDo h, ld_sDo h, sh_sDo h, sw_sDo h, sf_sDo_0 h, sc_sDo_0 h, sf_sDo_1 h, sc_sDo_1 h, sf_sDo_2 h, sc_sDo_2 h, sf_sDo_3 h, sc_sDo_3 h, h.P, h.oc, h.cl, h.rd, h.ref, strip_P hs, strip_rd hs, strip_ld hs, strip_sl h hs k_sDo, stPl, calL, calLast, refL, refLast, cellsOf_some, intOf_int, List.getElem?_cons_succ, List.getElem?_cons_zero, Option.getD_some, hSP, hLP, hTP, hrd, hRI, hRr, c1, c2, G17s_step, conStep, ← hx, hR, putRR, stV, gV_drop (E := e_t96)]))
        have hown : ∀ {b : Nat}, ownS b (put_s l ⟨x.At, last + 1, x.Text⟩).length = gV true b (put_s l ⟨x.At, last + 1, x.Text⟩) := rfl
        exact .mk (i + 1, last + 1, true, put_s l ⟨x.At, last + 1, x.Text⟩, false, []) (I.put c1 (by omega)) hmu (SubR.mk' [top, top + 4, top + 2, top + 5] hcl (by simp) (by simp) rfl (frSub_ok (by simp [frSub, lkG, ren, renL, renL_set, renL_ints, UpdOk.nil, UpdOk.cons, renOO_some, renO_cells, renO_map, renOO_mkOb, rn_base, rn_add, ren_mkSl, Enc.flat_ren, set_same, set_ne, sets_cons, sets_nil, Keep.set, Keep.setK, Keep.refl, Sc.ren (fun j hj => rn_low hj) hs, ren_gV, renOO_gO, ren_refV, renOO_refO, hwi, hown, gO_true, mkSl_ref, mkOb_ref])) (by simp [frSub, lkG, ren, renL, renL_set, renL_ints, UpdOk.nil, UpdOk.cons, renOO_some, renO_cells, renO_map, renOO_mkOb, rn_base, rn_add, ren_mkSl, Enc.flat_ren, set_same, set_ne, sets_cons, sets_nil, Keep.set, Keep.setK, Keep.refl, Sc.ren (fun j hj => rn_low hj) hs, ren_gV, renOO_gO, ren_refV, renOO_refO, hwi, hown, gO_true, mkSl_ref, mkOb_ref]) (by simp [frSub, lkG, ren, renL, renL_set, renL_ints, UpdOk.nil, UpdOk.cons, renOO_some, renO_cells, renO_map, renOO_mkOb, rn_base, rn_add, ren_mkSl, Enc.flat_ren, set_same, set_ne, sets_cons, sets_nil, Keep.set, Keep.setK, Keep.refl, Sc.ren (fun j hj => rn_low hj) hs, ren_gV, renOO_gO, ren_refV, renOO_refO, hwi, hown, gO_true, mkSl_ref, mkOb_ref]))
      · obtain ⟨k, hkk⟩ : ∃ k, ixT_s l x.Ticket = k := ⟨_, rfl⟩
        by_cases hkl : k < l.length
        · have hR : ∀ {mv lv : Value} {t : Nat}, stepRes top (top + 2) last lv mv l x t = keepR top (top + 2) last lv (cutOut l k (k + 1)) t := fun {mv lv t} => by unfold stepRes; rw [hkk]; simp only [hk, Int.reduceEq, if_true, if_false, hkl]
          refine CW.vc env17s [0, 2, 3, 4, 5, 6, 7, 12, 20, 34] (by kernel_rfl) ?_
          (simp only [go_sem, reduceIte, reduceCtorEq, Nat.reduceAdd, Nat.reduceMul, Nat.reduceSub, Nat.reduceLT, Nat.reduceLeDiff, Nat.reduceEqDiff, Int.reduceEq, Int.reduceLT, Int.reduceLE, Int.reduceNe, len_sDo h, idx_sDo h, ld_sDo h, sh_sDo h, sw_sDo h, sf_sDo_0 h, sc_sDo_0 h, sf_sDo_1 h, sc_sDo_1 h, sf_sDo_2 h, sc_sDo_2 h, sf_sDo_3 h, sc_sDo_3 h, h.P, h.oc, h.cl, h.rd, h.ref, strip_P hs, strip_rd hs, strip_ld hs, strip_sl h hs k_sDo, stPl, calL, calLast, refL, refLast, cellsOf_some, intOf_int, List.getElem?_cons_succ, List.getElem?_cons_zero, Option.getD_some, hSP, hLP, hTP, hrd, hRI, hRr, c1, c2, G17s_step, conStep, ← hx, hR, keepR, stV, dfV_gV, dfU_gV]; repeat (refine Vc.mk' ?_; simp only [go_sem, reduceIte, reduceCtorEq, Nat.reduceAdd, Nat.reduceMul, Nat.reduceSub, Nat.reduceLT, Nat.reduceLeDiff, Nat.reduceEqDiff, Int.reduceEq, Int.reduceLT, Int.reduceLE, Int.reduceNe, len_sDo h, idx_sDo h, ld_sDo h, sh_sDo h, sw_sDo h, sf_sDo_0 h, sc_sDo_0 h, sf_sDo_1 h, sc_sDo_1 h, sf_sDo_2 h, sc_sDo_2 h, sf_sDo_3 h, sc_sDo_3 h, h.P, h.oc, h.cl, h.rd, h.ref, strip_P hs, strip_rd hs, strip_ld hs, strip_sl h hs k_sDo, stPl, calL, calLast, refL, refLast, cellsOf_some, intOf_int, List.getElem?_cons_succ, List.getElem?_cons_zero, Option.getD_some, hSP, hLP, hTP, hrd, hRI, hRr, c1, c2, G17s_step, conStep, ← hx, hR, keepR, stV, dfV_gV, dfU_gV]))
          exact .mk (i + 1, last, s, cutOut l k (k + 1), false, []) (I.sub c1 (by omega) cut_sub) hmu (SubR.mk' [top, top + 1, top + 2, top + 4] hcl (by simp) (by simp) rfl (frSub_ok (by simp [frSub, lkG, ren, renL, renL_set, renL_ints, UpdOk.nil, UpdOk.cons, renOO_some, renO_cells, renO_map, renOO_mkOb, rn_base, rn_add, ren_mkSl, Enc.flat_ren, set_same, set_ne, sets_cons, sets_nil, Keep.set, Keep.setK, Keep.refl, Sc.ren (fun j hj => rn_low hj) hs, ren_gV, renOO_gO, ren_refV, renOO_refO, hwi, mkSl_ref, mkOb_ref])) (by simp [frSub, lkG, ren, renL, renL_set, renL_ints, UpdOk.nil, UpdOk.cons, renOO_some, renO_cells, renO_map, renOO_mkOb, rn_base, rn_add, ren_mkSl, Enc.flat_ren, set_same, set_ne, sets_cons, sets_nil, Keep.set, Keep.setK, Keep.refl, Sc.ren (fun j hj => rn_low hj) hs, ren_gV, renOO_gO, ren_refV, renOO_refO, hwi, mkSl_ref, mkOb_ref]) (by simp [frSub, lkG, ren, renL, renL_set, renL_ints, UpdOk.nil, UpdOk.cons, renOO_some, renO_cells, renO_map, renOO_mkOb, rn_base, rn_add, ren_mkSl, Enc.flat_ren, set_same, set_ne, sets_cons, sets_nil, Keep.set, Keep.setK, Keep.refl, Sc.ren (fun j hj => rn_low hj) hs, ren_gV, renOO_gO, ren_refV, renOO_refO, hwi, mkSl_ref, mkOb_ref]))
        · have hR : ∀ {mv lv : Value} {t : Nat}, stepRes top (top + 2) last lv mv l x t = (stV top, [], t) := fun {mv lv t} => by unfold stepRes; rw [hkk]; simp only [hk, Int.reduceEq, if_true, if_false, hkl]
          refine CW.vc env17s [0, 2, 3, 4, 5, 6, 7, 12, 20, 34] (by kernel_rfl) ?_
          (simp only [go_sem, reduceIte, reduceCtorEq, Nat.reduceAdd, Nat.reduceMul, Nat.reduceSub, Nat.reduceLT, Nat.reduceLeDiff, Nat.reduceEqDiff, Int.reduceEq, Int.reduceLT, Int.reduceLE, Int.reduceNe, len_sDo h, idx_sDo h, ld_sDo h, sh_sDo h, sw_sDo h, sf_sDo_0 h, sc_sDo_0 h, sf_sDo_1 h, sc_sDo_1 h, sf_sDo_2 h, sc_sDo_2 h, sf_sDo_3 h, sc_sDo_3 h, h.P, h.oc, h.cl, h.rd, h.ref, strip_P hs, strip_rd hs, strip_ld hs, strip_sl h hs k_sDo, stPl, calL, calLast, refL, refLast, cellsOf_some, intOf_int, List.getElem?_cons_succ, List.getElem?_cons_zero, Option.getD_some, hSP, hLP, hTP, hrd, hRI, hRr, c1, c2, G17s_step, conStep, ← hx, hR, stV]; repeat (refine Vc.mk' ?_; simp only [go_sem, reduceIte, reduceCtorEq, Nat.reduceAdd, Nat.reduceMul, Nat.reduceSub, Nat.reduceLT, Nat.reduceLeDiff, Nat.reduceEqDiff, Int.reduceEq, Int.reduceLT, Int.reduceLE, Int.reduceNe, len_sDo h, idx_sDo h, ld_sDo h, sh_sDo h, sw_sDo h, sf_sDo_0 h, sc_sDo_0 h, sf_sDo_1 h, sc_sDo_1 h, sf_sDo_2 h, sc_sDo_2 h, sf_sDo_3 h, sc_sDo_3 h, h.P, h.oc, h.cl, h.rd, h.ref, strip_P hs, strip_rd hs, strip_ld hs, strip_sl h hs k_sDo, stPl, calL, calLast, refL, refLast, cellsOf_some, intOf_int, List.getElem?_cons_succ, List.getElem?_cons_zero, Option.getD_some, hSP, hLP, hTP, hrd, hRI, hRr, c1, c2, G17s_step, conStep, ← hx, hR, stV]))
          exact .mk (i + 1, last, s, l, e, pre) (I.same c1 (by omega)) hmu (SubR.mk' [top, top + 1, top + 2, top + 3] hcl (by simp) (by simp) rfl (frSub_ok (by simp [frSub, lkG, ren, renL, renL_set, renL_ints, UpdOk.nil, UpdOk.cons, renOO_some, renO_cells, renO_map, renOO_mkOb, rn_base, rn_add, ren_mkSl, Enc.flat_ren, set_same, set_ne, sets_cons, sets_nil, Keep.set, Keep.setK, Keep.refl, Sc.ren (fun j hj => rn_low hj) hs, ren_gV, renOO_gO, ren_refV, renOO_refO, hwi])) (by simp [frSub, lkG, ren, renL, renL_set, renL_ints, UpdOk.nil, UpdOk.cons, renOO_some, renO_cells, renO_map, renOO_mkOb, rn_base, rn_add, ren_mkSl, Enc.flat_ren, set_same, set_ne, sets_cons, sets_nil, Keep.set, Keep.setK, Keep.refl, Sc.ren (fun j hj => rn_low hj) hs, ren_gV, renOO_gO, ren_refV, renOO_refO, hwi]) (by simp [frSub, lkG, ren, renL, renL_set, renL_ints, UpdOk.nil, UpdOk.cons, renOO_some, renO_cells, renO_map, renOO_mkOb, rn_base, rn_add, ren_mkSl, Enc.flat_ren, set_same, set_ne, sets_cons, sets_nil, Keep.set, Keep.setK, Keep.refl, Sc.ren (fun j hj => rn_low hj) hs, ren_gV, renOO_gO, ren_refV, renOO_refO, hwi]))
      · obtain ⟨k, hkk⟩ : ∃ k, kF_s l x.At = k := ⟨_, rfl⟩
        have hkl : k ≤ l.length := by rw [← hkk]; exact kF_s_le l x.At
        have hR : ∀ {mv lv : Value} {t : Nat}, stepRes top (top + 2) last lv mv l x t = takeRR top (top + 2) last lv mv l k t := fun {mv lv t} => by unfold stepRes; rw [hkk]; simp only [hk, Int.reduceEq, if_true, if_false]
        have hsf := sufN_ref (d := top + 3) k e pre (l.map mR) (by rw [hMl]; exact hkl)
        have hdm : (l.map mR).drop k = (l.drop k).map mR := by rw [List.map_drop]
        rw [hdm] at hsf
        have hO := refO_suf (pre := pre) (l := l.map mR) (k := k)
        refine CW.vc env17s [0, 2, 3, 4, 5, 6, 7, 12, 20, 34] (by kernel_rfl) ?_
        (simp only [go_sem, reduceIte, reduceCtorEq, Nat.reduceAdd, Nat.reduceMul, Nat.reduceSub, Nat.reduceLT, Nat.reduceLeDiff, Nat.reduceEqDiff, Int.reduceEq, Int.reduceLT, Int.reduceLE, Int.reduceNe, len_sDo h, idx_sDo h, ld_sDo h, sh_sDo h, sw_sDo h, sf_sDo_0 h, sc_sDo_0 h, sf_sDo_1 h, sc_sDo_1 h, sf_sDo_2 h, sc_sDo_2 h, sf_sDo_3 h, sc_sDo_3 h, h.P, h.oc, h.cl, h.rd, h.ref, strip_P hs, strip_rd hs, strip_ld hs, strip_sl h hs k_sDo, stPl, calL, calLast, refL, refLast, cellsOf_some, intOf_int, List.getElem?_cons_succ, List.getElem?_cons_zero, Option.getD_some, hSP, hLP, hTP, hrd, hRI, hRr, c1, c2, G17s_step, conStep, ← hx, hR, takeRR, stV, dfV_gV, dfU_gV, hsf]; repeat (refine Vc.mk' ?_; simp only [go_sem, reduceIte, reduceCtorEq, Nat.reduceAdd, Nat.reduceMul, Nat.reduceSub, Nat.reduceLT, Nat.reduceLeDiff, Nat.reduceEqDiff, Int.reduceEq, Int.reduceLT, Int.reduceLE, Int.reduceNe, len_sDo h, idx_sDo h, ld_sDo h, sh_sDo h, sw_sDo h, sf_sDo_0 h, sc_sDo_0 h, sf_sDo_1 h, sc_sDo_1 h, sf_sDo_2 h, sc_sDo_2 h, sf_sDo_3 h, sc_sDo_3 h, h.P, h.oc, h.cl, h.rd, h.ref, strip_P hs, strip_rd hs, strip_ld hs, strip_sl h hs k_sDo, stPl, calL, calLast, refL, refLast, cellsOf_some, intOf_int, List.getElem?_cons_succ, List.getElem?_cons_zero, Option.getD_some, hSP, hLP, hTP, hrd, hRI, hRr, c1, c2, G17s_step, conStep, ← hx, hR, takeRR, stV, dfV_gV, dfU_gV, hsf]))
        rcases hO with ⟨-, hO⟩ | hO
        · exact .mk (i + 1, last, s, l.drop k, (e || decide (0 < k ∧ k = (l.map mR).length)), pre ++ (l.map mR).take k) (I.take c1 (by omega) hkl) hmu (SubR.mk' [top, top + 1, top + 2, top + 3] hcl (by simp) (by simp) rfl (frSub_ok (by simp [frSub, lkG, ren, renL, renL_set, renL_ints, UpdOk.nil, UpdOk.cons, renOO_some, renO_cells, renO_map, renOO_mkOb, rn_base, rn_add, ren_mkSl, Enc.flat_ren, set_same, set_ne, sets_cons, sets_nil, Keep.set, Keep.setK, Keep.refl, Sc.ren (fun j hj => rn_low hj) hs, ren_gV, renOO_gO, ren_refV, renOO_refO, hwi, hO])) (by simp [frSub, lkG, ren, renL, renL_set, renL_ints, UpdOk.nil, UpdOk.cons, renOO_some, renO_cells, renO_map, renOO_mkOb, rn_base, rn_add, ren_mkSl, Enc.flat_ren, set_same, set_ne, sets_cons, sets_nil, Keep.set, Keep.setK, Keep.refl, Sc.ren (fun j hj => rn_low hj) hs, ren_gV, renOO_gO, ren_refV, renOO_refO, hwi, hO]) (by simp [frSub, lkG, ren, renL, renL_set, renL_ints, UpdOk.nil, UpdOk.cons, renOO_some, renO_cells, renO_map, renOO_mkOb, rn_base, rn_add, ren_mkSl, Enc.flat_ren, set_same, set_ne, sets_cons, sets_nil, Keep.set, Keep.setK, Keep.refl, Sc.ren (fun j hj => rn_low hj) hs, ren_gV, renOO_gO, ren_refV, renOO_refO, hwi, hO]))
        · exact .mk (i + 1, last, s, l.drop k, (e || decide (0 < k ∧ k = (l.map mR).length)), pre ++ (l.map mR).take k) (I.take c1 (by omega) hkl) hmu (SubR.mk' [top, top + 1, top + 2, top + 3] hcl (by simp) (by simp) rfl (frSub_ok (by simp [frSub, lkG, ren, renL, renL_set, renL_ints, UpdOk.nil, UpdOk.cons, renOO_some, renO_cells, renO_map, renOO_mkOb, rn_base, rn_add, ren_mkSl, Enc.flat_ren, set_same, set_ne, sets_cons, sets_nil, Keep.set, Keep.setK, Keep.refl, Sc.ren (fun j hj => rn_low hj) hs, ren_gV, renOO_gO, ren_refV, renOO_refO, hwi, hO])) (by simp [frSub, lkG, ren, renL, renL_set, renL_ints, UpdOk.nil, UpdOk.cons, renOO_some, renO_cells, renO_map, renOO_mkOb, rn_base, rn_add, ren_mkSl, Enc.flat_ren, set_same, set_ne, sets_cons, sets_nil, Keep.set, Keep.setK, Keep.refl, Sc.ren (fun j hj => rn_low hj) hs, ren_gV, renOO_gO, ren_refV, renOO_refO, hwi, hO]) (by simp [frSub, lkG, ren, renL, renL_set, renL_ints, UpdOk.nil, UpdOk.cons, renOO_some, renO_cells, renO_map, renOO_mkOb, rn_base, rn_add, ren_mkSl, Enc.flat_ren, set_same, set_ne, sets_cons, sets_nil, Keep.set, Keep.setK, Keep.refl, Sc.ren (fun j hj => rn_low hj) hs, ren_gV, renOO_gO, ren_refV, renOO_refO, hwi, hO]))
      · have hR : ∀ {L : List T_t96} {mv lv : Value} {t : Nat}, stepRes top (top + 2) last lv mv L x t = (stV top, [], t) := fun {L mv lv t} => by unfold stepRes; simp only [hk, Int.reduceEq, if_true, if_false]
        refine CW.vc env17s [0, 2, 3, 4, 5, 6, 7, 12, 20, 34] (by kernel_rfl) ?_
        (simp only [go_sem, reduceIte, reduceCtorEq, Nat.reduceAdd, Nat.reduceMul, Nat.reduceSub, Nat.reduceLT, Nat.reduceLeDiff, Nat.reduceEqDiff, Int.reduceEq, Int.reduceLT, Int.reduceLE, Int.reduceNe, len_sDo h, idx_sDo h, ld_sDo h, sh_sDo h, sw_sDo h, sf_sDo_0 h, sc_sDo_0 h, sf_sDo_1 h, sc_sDo_1 h, sf_sDo_2 h, sc_sDo_2 h, sf_sDo_3 h, sc_sDo_3 h, h.P, h.oc, h.cl, h.rd, h.ref, strip_P hs, strip_rd hs, strip_ld hs, strip_sl h hs k_sDo, stPl, calL, calLast, refL, refLast, cellsOf_some, intOf_int, List.getElem?_cons_succ, List.getElem?_cons_zero, Option.getD_some, hSP, hLP, hTP, hrd, hRI, hRr, c1, c2, G17s_step, conStep, ← hx, hR, stV]; repeat (refine Vc.mk' ?_; simp only [go_sem, reduceIte, reduceCtorEq, Nat.reduceAdd, Nat.reduceMul, Nat.reduceSub, Nat.reduceLT, Nat.reduceLeDiff, Nat.reduceEqDiff, Int.reduceEq, Int.reduceLT, Int.reduceLE, Int.reduceNe, len_sDo h, idx_sDo h, ld_sDo h, sh_sDo h, sw_sDo h, sf_sDo_0 h, sc_sDo_0 h, sf_sDo_1 h, sc_sDo_1 h, sf_sDo_2 h, sc_sDo_2 h, sf_sDo_3 h, sc_sDo_3 h, h.P, h.oc, h.cl, h.rd, h.ref, strip_P hs, strip_rd hs, strip_ld hs, strip_sl h hs k_sDo, stPl, calL, calLast, refL, refLast, cellsOf_some, intOf_int, List.getElem?_cons_succ, List.getElem?_cons_zero, Option.getD_some, hSP, hLP, hTP, hrd, hRI, hRr, c1, c2, G17s_step, conStep, ← hx, hR, stV]))
        exact .mk (i + 1, last, s, l, e, pre) (I.same c1 (by omega)) hmu (SubR.mk' [top, top + 1, top + 2, top + 3] hcl (by simp) (by simp) rfl (frSub_ok (by simp [frSub, lkG, ren, renL, renL_set, renL_ints, UpdOk.nil, UpdOk.cons, renOO_some, renO_cells, renO_map, renOO_mkOb, rn_base, rn_add, ren_mkSl, Enc.flat_ren, set_same, set_ne, sets_cons, sets_nil, Keep.set, Keep.setK, Keep.refl, Sc.ren (fun j hj => rn_low hj) hs, ren_gV, renOO_gO, ren_refV, renOO_refO, hwi])) (by simp [frSub, lkG, ren, renL, renL_set, renL_ints, UpdOk.nil, UpdOk.cons, renOO_some, renO_cells, renO_map, renOO_mkOb, rn_base, rn_add, ren_mkSl, Enc.flat_ren, set_same, set_ne, sets_cons, sets_nil, Keep.set, Keep.setK, Keep.refl, Sc.ren (fun j hj => rn_low hj) hs, ren_gV, renOO_gO, ren_refV, renOO_refO, hwi]) (by simp [frSub, lkG, ren, renL, renL_set, renL_ints, UpdOk.nil, UpdOk.cons, renOO_some, renO_cells, renO_map, renOO_mkOb, rn_base, rn_add, ren_mkSl, Enc.flat_ren, set_same, set_ne, sets_cons, sets_nil, Keep.set, Keep.setK, Keep.refl, Sc.ren (fun j hj => rn_low hj) hs, ren_gV, renOO_gO, ren_refV, renOO_refO, hwi]))
      · have hR : ∀ {L : List T_t96} {mv lv : Value} {t : Nat}, stepRes top (top + 2) last lv mv L x t = (stV top, [], t) := fun {L mv lv t} => by unfold stepRes; simp only [hk, Int.reduceEq, if_true, if_false]
        refine CW.vc env17s [0, 2, 3, 4, 5, 6, 7, 12, 20, 34] (by kernel_rfl) ?_
        (simp only [go_sem, reduceIte, reduceCtorEq, Nat.reduceAdd, Nat.reduceMul, Nat.reduceSub, Nat.reduceLT, Nat.reduceLeDiff, Nat.reduceEqDiff, Int.reduceEq, Int.reduceLT, Int.reduceLE, Int.reduceNe, len_sDo h, idx_sDo h, ld_sDo h, sh_sDo h, sw_sDo h, sf_sDo_0 h, sc_sDo_0 h, sf_sDo_1 h, sc_sDo_1 h, sf_sDo_2 h, sc_sDo_2 h, sf_sDo_3 h, sc_sDo_3 h, h.P, h.oc, h.cl, h.rd, h.ref, strip_P hs, strip_rd hs, strip_ld hs, strip_sl h hs k_sDo, stPl, calL, calLast, refL, refLast, cellsOf_some, intOf_int, List.getElem?_cons_succ, List.getElem?_cons_zero, Option.getD_some, hSP, hLP, hTP, hrd, hRI, hRr, c1, c2, G17s_step, conStep, ← hx, hR, stV]; repeat (refine Vc.mk' ?_; simp only [go_sem, reduceIte, reduceCtorEq, Nat.reduceAdd, Nat.reduceMul, Nat.reduceSub, Nat.reduceLT, Nat.reduceLeDiff, Nat.reduceEqDiff, Int.reduceEq, Int.reduceLT, Int.reduceLE, Int.reduceNe, len_sDo h, idx_sDo h, ld_sDo h, sh_sDo h, sw_sDo h, sf_sDo_0 h, sc_sDo_0 h, sf_sDo_1 h, sc_sDo_1 h, sf_sDo_2 h, sc_sDo_2 h, sf_sDo_3 h, sc_sDo_3 h, h.P, h.oc, h.cl, h.rd, h.ref, strip_P hs, strip_rd hs, strip_ld hs, strip_sl h hs k_sDo, stPl, calL, calLast, refL, refLast, cellsOf_some, intOf_int, List.getElem?_cons_succ, List.getElem?_cons_zero, Option.getD_some, hSP, hLP, hTP, hrd, hRI, hRr, c1, c2, G17s_step, conStep, ← hx, hR, stV]))
        exact .mk (i + 1, last, s, l, e, pre) (I.same c1 (by omega)) hmu (SubR.mk' [top, top + 1, top + 2, top + 3] hcl (by simp) (by simp) rfl (frSub_ok (by simp [frSub, lkG, ren, renL, renL_set, renL_ints, UpdOk.nil, UpdOk.cons, renOO_some, renO_cells, renO_map, renOO_mkOb, rn_base, rn_add, ren_mkSl, Enc.flat_ren, set_same, set_ne, sets_cons, sets_nil, Keep.set, Keep.setK, Keep.refl, Sc.ren (fun j hj => rn_low hj) hs, ren_gV, renOO_gO, ren_refV, renOO_refO, hwi])) (by simp [frSub, lkG, ren, renL, renL_set, renL_ints, UpdOk.nil, UpdOk.cons, renOO_some, renO_cells, renO_map, renOO_mkOb, rn_base, rn_add, ren_mkSl, Enc.flat_ren, set_same, set_ne, sets_cons, sets_nil, Keep.set, Keep.setK, Keep.refl, Sc.ren (fun j hj => rn_low hj) hs, ren_gV, renOO_gO, ren_refV, renOO_refO, hwi]) (by simp [frSub, lkG, ren, renL, renL_set, renL_ints, UpdOk.nil, UpdOk.cons, renOO_some, renO_cells, renO_map, renOO_mkOb, rn_base, rn_add, ren_mkSl, Enc.flat_ren, set_same, set_ne, sets_cons, sets_nil, Keep.set, Keep.setK, Keep.refl, Sc.ren (fun j hj => rn_low hj) hs, ren_gV, renOO_gO, ren_refV, renOO_refO, hwi]))
      · have hR : ∀ {L : List T_t96} {mv lv : Value} {t : Nat}, stepRes top (top + 2) last lv mv L x t = keepR top (top + 2) last lv (keptV x.Text L) t := fun {L mv lv t} => by unfold stepRes; simp only [hk, Int.reduceEq, if_true, if_false]
        refine CW.vc env17s [0, 2, 3, 4, 5, 6, 7, 12, 20, 34] (by kernel_rfl) ?_
        (simp only [go_sem, reduceIte, reduceCtorEq, Nat.reduceAdd, Nat.reduceMul, Nat.reduceSub, Nat.reduceLT, Nat.reduceLeDiff, Nat.reduceEqDiff, Int.reduceEq, Int.reduceLT, Int.reduceLE, Int.reduceNe, len_sDo h, idx_sDo h, ld_sDo h, sh_sDo h, sw_sDo h, sf_sDo_0 h, sc_sDo_0 h, sf_sDo_1 h, sc_sDo_1 h, sf_sDo_2 h, sc_sDo_2 h, sf_sDo_3 h, sc_sDo_3 h, h.P, h.oc, h.cl, h.rd, h.ref, strip_P hs, strip_rd hs, strip_ld hs, strip_sl h hs k_sDo, stPl, calL, calLast, refL, refLast, cellsOf_some, intOf_int, List.getElem?_cons_succ, List.getElem?_cons_zero, Option.getD_some, hSP, hLP, hTP, hrd, hRI, hRr, c1, c2, G17s_step, conStep, ← hx, hR, keepR, stV, dfV_gV, dfU_gV]; repeat (refine Vc.mk' ?_; simp only [go_sem, reduceIte, reduceCtorEq, Nat.reduceAdd, Nat.reduceMul, Nat.reduceSub, Nat.reduceLT, Nat.reduceLeDiff, Nat.reduceEqDiff, Int.reduceEq, Int.reduceLT, Int.reduceLE, Int.reduceNe, len_sDo h, idx_sDo h, ld_sDo h, sh_sDo h, sw_sDo h, sf_sDo_0 h, sc_sDo_0 h, sf_sDo_1 h, sc_sDo_1 h, sf_sDo_2 h, sc_sDo_2 h, sf_sDo_3 h, sc_sDo_3 h, h.P, h.oc, h.cl, h.rd, h.ref, strip_P hs, strip_rd hs, strip_ld hs, strip_sl h hs k_sDo, stPl, calL, calLast, refL, refLast, cellsOf_some, intOf_int, List.getElem?_cons_succ, List.getElem?_cons_zero, Option.getD_some, hSP, hLP, hTP, hrd, hRI, hRr, c1, c2, G17s_step, conStep, ← hx, hR, keepR, stV, dfV_gV, dfU_gV]))
        exact .mk (i + 1, last, s, keptV x.Text l, false, []) (I.sub c1 (by omega) List.filter_sublist) hmu (SubR.mk' [top, top + 1, top + 2, top + 4] hcl (by simp) (by simp) rfl (frSub_ok (by simp [frSub, lkG, ren, renL, renL_set, renL_ints, UpdOk.nil, UpdOk.cons, renOO_some, renO_cells, renO_map, renOO_mkOb, rn_base, rn_add, ren_mkSl, Enc.flat_ren, set_same, set_ne, sets_cons, sets_nil, Keep.set, Keep.setK, Keep.refl, Sc.ren (fun j hj => rn_low hj) hs, ren_gV, renOO_gO, ren_refV, renOO_refO, hwi, mkSl_ref, mkOb_ref])) (by simp [frSub, lkG, ren, renL, renL_set, renL_ints, UpdOk.nil, UpdOk.cons, renOO_some, renO_cells, renO_map, renOO_mkOb, rn_base, rn_add, ren_mkSl, Enc.flat_ren, set_same, set_ne, sets_cons, sets_nil, Keep.set, Keep.setK, Keep.refl, Sc.ren (fun j hj => rn_low hj) hs, ren_gV, renOO_gO, ren_refV, renOO_refO, hwi, mkSl_ref, mkOb_ref]) (by simp [frSub, lkG, ren, renL, renL_set, renL_ints, UpdOk.nil, UpdOk.cons, renOO_some, renO_cells, renO_map, renOO_mkOb, rn_base, rn_add, ren_mkSl, Enc.flat_ren, set_same, set_ne, sets_cons, sets_nil, Keep.set, Keep.setK, Keep.refl, Sc.ren (fun j hj => rn_low hj) hs, ren_gV, renOO_gO, ren_refV, renOO_refO, hwi, mkSl_ref, mkOb_ref]))
      · have hR : ∀ {L : List T_t96} {mv lv : Value} {t : Nat}, stepRes top (top + 2) last lv mv L x t = copyRR top last lv L t := fun {L mv lv t} => by unfold stepRes; simp only [hk, Int.reduceEq, if_true, if_false]
        cases s with
        | false =>
          have hl := hso rfl
          have eV : ∀ {b : Nat}, gV false b l = .slice none 0 0 := fun {b} => rfl
          have eO : gO false e_t96 l = none := rfl
          refine CW.vc env17s [0, 2, 3, 4, 5, 6, 7, 12, 20, 34] (by kernel_rfl) ?_
          (simp only [go_sem, reduceIte, reduceCtorEq, Nat.reduceAdd, Nat.reduceMul, Nat.reduceSub, Nat.reduceLT, Nat.reduceLeDiff, Nat.reduceEqDiff, Int.reduceEq, Int.reduceLT, Int.reduceLE, Int.reduceNe, len_sDo h, idx_sDo h, ld_sDo h, sh_sDo h, sw_sDo h, sf_sDo_0 h, sc_sDo_0 h, sf_sDo_1 h, sc_sDo_1 h, sf_sDo_2 h, sc_sDo_2 h, sf_sDo_3 h, sc_sDo_3 h, h.P, h.oc, h.cl, h.rd, h.ref, strip_P hs, strip_rd hs, strip_ld hs, strip_sl h hs k_sDo, stPl, calL, calLast, refL, refLast, cellsOf_some, intOf_int, List.getElem?_cons_succ, List.getElem?_cons_zero, Option.getD_some, hSP, hLP, hTP, hrd, hRI, hRr, c1, c2, G17s_step, conStep, ← hx, hR, copyRR, stV, eV, copyRes, dropU]; repeat (refine Vc.mk' ?_; simp only [go_sem, reduceIte, reduceCtorEq, Nat.reduceAdd, Nat.reduceMul, Nat.reduceSub, Nat.reduceLT, Nat.reduceLeDiff, Nat.reduceEqDiff, Int.reduceEq, Int.reduceLT, Int.reduceLE, Int.reduceNe, len_sDo h, idx_sDo h, ld_sDo h, sh_sDo h, sw_sDo h, sf_sDo_0 h, sc_sDo_0 h, sf_sDo_1 h, sc_sDo_1 h, sf_sDo_2 h, sc_sDo_2 h, sf_sDo_3 h, sc_sDo_3 h, h.P, h.oc, h.cl, h.rd, h.ref, strip_P hs, strip_rd hs, strip_ld hs, strip_sl h hs k_sDo, stPl, calL, calLast, refL, refLast, cellsOf_some, intOf_int, List.getElem?_cons_succ, List.getElem?_cons_zero, Option.getD_some, hSP, hLP, hTP, hrd, hRI, hRr, c1, c2, G17s_step, conStep, ← hx, hR, copyRR, stV, eV, copyRes, dropU]))
          exact .mk (i + 1, last, false, l, e, pre) (I.same c1 (by omega)) hmu (SubR.mk' [top + 4, top + 5, top + 2, top + 3] hcl (by simp) (by simp) rfl (frSub_ok (by simp [frSub, lkG, ren, renL, renL_set, renL_ints, UpdOk.nil, UpdOk.cons, renOO_some, renO_cells, renO_map, renOO_mkOb, rn_base, rn_add, ren_mkSl, Enc.flat_ren, set_same, set_ne, sets_cons, sets_nil, Keep.set, Keep.setK, Keep.refl, Sc.ren (fun j hj => rn_low hj) hs, ren_gV, renOO_gO, ren_refV, renOO_refO, hwi, eV, eO])) (by simp [frSub, lkG, ren, renL, renL_set, renL_ints, UpdOk.nil, UpdOk.cons, renOO_some, renO_cells, renO_map, renOO_mkOb, rn_base, rn_add, ren_mkSl, Enc.flat_ren, set_same, set_ne, sets_cons, sets_nil, Keep.set, Keep.setK, Keep.refl, Sc.ren (fun j hj => rn_low hj) hs, ren_gV, renOO_gO, ren_refV, renOO_refO, hwi, eV, eO]) (by simp [frSub, lkG, ren, renL, renL_set, renL_ints, UpdOk.nil, UpdOk.cons, renOO_some, renO_cells, renO_map, renOO_mkOb, rn_base, rn_add, ren_mkSl, Enc.flat_ren, set_same, set_ne, sets_cons, sets_nil, Keep.set, Keep.setK, Keep.refl, Sc.ren (fun j hj => rn_low hj) hs, ren_gV, renOO_gO, ren_refV, renOO_refO, hwi, eV, eO]))
        | true =>
          have eV : ∀ {b : Nat}, gV true b l = .slice (some ⟨b, 0, none⟩) l.length l.length := fun {b} => rfl
          have eO : gO true e_t96 l = some (.cells true 3 (e_t96.flat l)) := rfl
          have hrd2 : ∀ {h' : Hp} {b : Nat}, h' b = gO true e_t96 l → e_t96.rd h' (.slice (some ⟨b, 0, none⟩) l.length l.length) = l := fun h => hrd h
          refine CW.vc env17s [0, 2, 3, 4, 5, 6, 7, 12, 20, 34] (by kernel_rfl) ?_
          (simp only [go_sem, reduceIte, reduceCtorEq, Nat.reduceAdd, Nat.reduceMul, Nat.reduceSub, Nat.reduceLT, Nat.reduceLeDiff, Nat.reduceEqDiff, Int.reduceEq, Int.reduceLT, Int.reduceLE, Int.reduceNe, len_sDo h, idx_sDo h, ld_sDo h, sh_sDo h, sw_sDo h, sf_sDo_0 h, sc_sDo_0 h, sf_sDo_1 h, sc_sDo_1 h, sf_sDo_2 h, sc_sDo_2 h, sf_sDo_3 h, sc_sDo_3 h, h.P, h.oc, h.cl, h.rd, h.ref, strip_P hs, strip_rd hs, strip_ld hs, strip_sl h hs k_sDo, stPl, calL, calLast, refL, refLast, cellsOf_some, intOf_int, List.getElem?_cons_succ, List.getElem?_cons_zero, Option.getD_some, hSP, hLP, hTP, hrd, hRI, hRr, c1, c2, G17s_step, conStep, ← hx, hR, copyRR, stV, eV, copyRes, dropU, hrd2]; repeat (refine Vc.mk' ?_; simp only [go_sem, reduceIte, reduceCtorEq, Nat.reduceAdd, Nat.reduceMul, Nat.reduceSub, Nat.reduceLT, Nat.reduceLeDiff, Nat.reduceEqDiff, Int.reduceEq, Int.reduceLT, Int.reduceLE, Int.reduceNe, len_sDo h, idx_sDo h, ld_sDo h, sh_sDo h, sw_sDo h, sf_sDo_0 h, sc_sDo_0 h, sf_sDo_1 h, sc_sDo_1 h, sf_sDo_2 h, sc_sDo_2 h, sf_sDo_3 h, sc_sDo_3 h, h.P, h.oc, h.cl, h.rd, h.ref, strip_P hs, strip_rd hs, strip_ld hs, strip_sl h hs k_sDo, stPl, calL, calLast, refL, refLast, cellsOf_some, intOf_int, List.getElem?_cons_succ, List.getElem?_cons_zero, Option.getD_some, hSP, hLP, hTP, hrd, hRI, hRr, c1, c2, G17s_step, conStep, ← hx, hR, copyRR, stV, eV, copyRes, dropU, hrd2]))
          exact .mk (i + 1, last, true, l, e, pre) (I.same c1 (by omega)) hmu (SubR.mk' [top + 4, top + 5, top + 2, top + 3] hcl (by simp) (by simp) rfl (frSub_ok (by simp [frSub, lkG, ren, renL, renL_set, renL_ints, UpdOk.nil, UpdOk.cons, renOO_some, renO_cells, renO_map, renOO_mkOb, rn_base, rn_add, ren_mkSl, Enc.flat_ren, set_same, set_ne, sets_cons, sets_nil, Keep.set, Keep.setK, Keep.refl, Sc.ren (fun j hj => rn_low hj) hs, ren_gV, renOO_gO, ren_refV, renOO_refO, hwi, ownS, gO_true, eV])) (by simp [frSub, lkG, ren, renL, renL_set, renL_ints, UpdOk.nil, UpdOk.cons, renOO_some, renO_cells, renO_map, renOO_mkOb, rn_base, rn_add, ren_mkSl, Enc.flat_ren, set_same, set_ne, sets_cons, sets_nil, Keep.set, Keep.setK, Keep.refl, Sc.ren (fun j hj => rn_low hj) hs, ren_gV, renOO_gO, ren_refV, renOO_refO, hwi, ownS, gO_true, eV]) (by simp [frSub, lkG, ren, renL, renL_set, renL_ints, UpdOk.nil, UpdOk.cons, renOO_some, renO_cells, renO_map, renOO_mkOb, rn_base, rn_add, ren_mkSl, Enc.flat_ren, set_same, set_ne, sets_cons, sets_nil, Keep.set, Keep.setK, Keep.refl, Sc.ren (fun j hj => rn_low hj) hs, ren_gV, renOO_gO, ren_refV, renOO_refO, hwi, ownS, gO_true, eV]))
    · have hor : (i < ds.length ∧ ¬ (i : Int) < 200) ∨ ¬ i < ds.length := by omega
      obtain ⟨k, hkk⟩ : ∃ k, kF_s l 18446744073709551615 = k := ⟨_, rfl⟩
      have hkl : k ≤ l.length := by rw [← hkk]; exact kF_s_le l _
      have hkr : kFR (l.map mR) 18446744073709551615 = k := by rw [kFR_mR, hkk]
      have hou : outsR (l.map mR) k = outs_s l k := outsR_mR
      have hol : (outs_s l k).length ≤ 9223372036854775807 := by rw [outs_s_len hkl]; omega
      have hC : ∀ {h' : Hp} {b : Nat}, h' b = gO s e_t96 l → h'.sets (cutU e_t96 (gV s b l) l 0 k) = h'.set b (gO s e_t96 (l.drop k)) := fun h1 => by rw [gV_cutU (Nat.zero_le _) hkl hso h1, cut0]
      have hus : ∀ {h' : Hp} {t t2 b : Nat}, h' b = gO s e_t96 l → usOkL h' t t2 (cutU e_t96 (gV s b l) l 0 k) = True := fun {h' t t2 b} h1 => eq_true (by
        unfold cutU
        split
        · trivial
        · cases s with
          | false => exact trivial
          | true => exact ⟨Or.inl (by show (h' b).isSome = true; rw [h1]; rfl), trivial⟩)
      have hlm : ∀ {h' : Hp}, slen tt.get h' 49 (refV e (top + 3) pre (l.map mR)) = (.int .i64 (l.length : Int), True) := fun {h'} => by
        have hx : SlT e_Thing (hp.set (top + 3) (refO pre (l.map mR))) (refV e (top + 3) pre (l.map mR)) (l.map mR) := refV_slT (set_same ..) (by rw [hMl]; omega)
        have := len_sThing hx (hp' := h')
        rw [hMl] at this
        exact this
      rcases hor with ⟨c1, c2⟩ | c1
      all_goals
        refine CW.vc env17s [0, 2, 3, 4, 5, 6, 7, 12, 20, 34] (by kernel_rfl) ?_
        first | (simp only [go_sem, reduceIte, reduceCtorEq, Nat.reduceAdd, Nat.reduceMul, Nat.reduceSub, Nat.reduceLT, Nat.reduceLeDiff, Nat.reduceEqDiff, Int.reduceEq, Int.reduceLT, Int.reduceLE, Int.reduceNe, len_sDo h, idx_sDo h, ld_sDo h, sh_sDo h, sw_sDo h, sf_sDo_0 h, sc_sDo_0 h, sf_sDo_1 h, sc_sDo_1 h, sf_sDo_2 h, sc_sDo_2 h, sf_sDo_3 h, sc_sDo_3 h, h.P, h.oc, h.cl, h.rd, h.ref, strip_P hs, strip_rd hs, strip_ld hs, strip_sl h hs k_sDo, stPl, calL, calLast, refL, refLast, cellsOf_some, intOf_int, List.getElem?_cons_succ, List.getElem?_cons_zero, Option.getD_some, hSP, hLP, hTP, hrd, hRI, hRr, G17s_len, conLen_s, G17s_take, conTake_s, takeRes_s, G17s_rtake, conRTake, G17s_same, conEq, G17s_works, conWorks, hkk, hkr, hou, hol, hC, hlm, hus, c1, c2]; repeat (refine Vc.mk' ?_; simp only [go_sem, reduceIte, reduceCtorEq, Nat.reduceAdd, Nat.reduceMul, Nat.reduceSub, Nat.reduceLT, Nat.reduceLeDiff, Nat.reduceEqDiff, Int.reduceEq, Int.reduceLT, Int.reduceLE, Int.reduceNe, len_sDo h, idx_sDo h, ld_sDo h, sh_sDo h, sw_sDo h, sf_sDo_0 h, sc_sDo_0 h, sf_sDo_1 h, sc_sDo_1 h, sf_sDo_2 h, sc_sDo_2 h, sf_sDo_3 h, sc_sDo_3 h, h.P, h.oc, h.cl, h.rd, h.ref, strip_P hs, strip_rd hs, strip_ld hs, strip_sl h hs k_sDo, stPl, calL, calLast, refL, refLast, cellsOf_some, intOf_int, List.getElem?_cons_succ, List.getElem?_cons_zero, Option.getD_some, hSP, hLP, hTP, hrd, hRI, hRr, G17s_len, conLen_s, G17s_take, conTake_s, takeRes_s, G17s_rtake, conRTake, G17s_same, conEq, G17s_works, conWorks, hkk, hkr, hou, hol, hC, hlm, hus, c1, c2])) | (simp only [go_sem, reduceIte, reduceCtorEq, Nat.reduceAdd, Nat.reduceMul, Nat.reduceSub, Nat.reduceLT, Nat.reduceLeDiff, Nat.reduceEqDiff, Int.reduceEq, Int.reduceLT, Int.reduceLE, Int.reduceNe, len_sDo h, idx_sDo h, ld_sDo h, sh_sDo h, sw_sDo h, sf_sDo_0 h, sc_sDo_0 h, sf_sDo_1 h, sc_sDo_1 h, sf_sDo_2 h, sc_sDo_2 h, sf_sDo_3 h, sc_sDo_3 h, h.P, h.oc, h.cl, h.rd, h.ref, strip_P hs, strip_rd hs, strip_ld hs, strip_sl h hs k_sDo, stPl, calL, calLast, refL, refLast, cellsOf_some, intOf_int, List.getElem?_cons_succ, List.getElem?_cons_zero, Option.getD_some, hSP, hLP, hTP, hrd, hRI, hRr, G17s_len, conLen_s, G17s_take, conTake_s, takeRes_s, G17s_rtake, conRTake, G17s_same, conEq, G17s_works, conWorks, hkk, hkr, hou, hol, hC, hlm, hus, c1]; repeat (refine Vc.mk' ?_; simp only [go_sem, reduceIte, reduceCtorEq, Nat.reduceAdd, Nat.reduceMul, Nat.reduceSub, Nat.reduceLT, Nat.reduceLeDiff, Nat.reduceEqDiff, Int.reduceEq, Int.reduceLT, Int.reduceLE, Int.reduceNe, len_sDo h, idx_sDo h, ld_sDo h, sh_sDo h, sw_sDo h, sf_sDo_0 h, sc_sDo_0 h, sf_sDo_1 h, sc_sDo_1 h, sf_sDo_2 h, sc_sDo_2 h, sf_sDo_3 h, sc_sDo_3 h, h.P, h.oc, h.cl, h.rd, h.ref, strip_P hs, strip_rd hs, strip_ld hs, strip_sl h hs k_sDo, stPl, calL, calLast, refL, refLast, cellsOf_some, intOf_int, List.getElem?_cons_succ, List.getElem?_cons_zero, Option.getD_some, hSP, hLP, hTP, hrd, hRI, hRr, G17s_len, conLen_s, G17s_take, conTake_s, takeRes_s, G17s_rtake, conRTake, G17s_same, conEq, G17s_works, conWorks, hkk, hkr, hou, hol, hC, hlm, hus, c1]))
end Go.Proofs.Ytogndgadipdikaa.Dm
