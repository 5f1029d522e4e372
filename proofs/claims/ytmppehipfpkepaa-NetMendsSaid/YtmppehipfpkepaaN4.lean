/- The net: Clone of numbers, New, three. -/
import Derived.Test.YtmppehipfpkepaaN3
set_option linter.unusedSimpArgs false
set_option linter.unusedVariables false
namespace Go.Proofs.Ytmppehipfpkepaa.Dm
open Go.Dm
set_option maxHeartbeats 16000000
set_option maxRecDepth 20000
/-! ### slices.Clone -/
def conCloneI : Con := .det (fun args hp _ => match args with | [v] => ∃ l, SlT e_int hp v l ∧ l ≠ [] ∧ l.length ≤ 1000000 | _ => False) (fun args hp top => match args with | [v] => (mkSl top (e_int.rd hp v), [(top, mkOb e_int (e_int.rd hp v))], top + 1) | _ => (undef, [], top))
theorem apI {h' : Hp} {b t : Nat} {v : Value} {l : List Int} (hb : h' b = some (.cells true 1 [])) (h : SlT e_int h' v l) (hn : l.length ≤ 1000000) :
    appendA tt.get h' t [40, 40] (.slice (some ⟨b, 0, none⟩) 0 0) v = some (ownS t l.length, [(b, none), (t, ownO e_int l)], t + 1) := by
  have e1 := h.lenOfA
  have e2 : firstA h' 1 l.length v = some (e_int.flat l) := h.firstA
  have e3 : oneCells (e_int.flat l) = true := Enc.flat_one l
  have e4 : (e_int.flat l).length = l.length * 1 := Enc.flat_len ..
  have e5 : roomB l.length ti3.bytes = true := roomB_of (by omega) (by decide)
  have hs : ti3.size = 1 := rfl
  have hb2 : Nat.ble ti3.bytes 65536 = true := rfl
  have e6 : (Nat.ble l.length 0 && !Nat.beq 0 0) = false := by simp
  have e7 : Nat.beq (e_int.flat l).length (l.length * 1) = true := by rw [e4]; exact Nat.beq_refl _
  simp only [appendA, t_sint, ti40, e1, isIntD, t_int, hb, hs, e2, hb2, e3, e7, Bool.and_self, Nat.beq_refl, Nat.zero_add, e6, Nat.zero_mul, List.length_nil, e5, List.drop_nil, List.nil_append, Bool.not_true, Bool.and_false]
  rfl
theorem own_mk {α : Type} {E : Enc α} {l : List α} (h : l ≠ []) (b : Nat) : ownS b l.length = mkSl b l ∧ ownO E l = mkOb E l := by
  cases l with
  | nil => exact absurd rfl h
  | cons a l => exact ⟨rfl, rfl⟩
theorem cloneI_ok : ConOk Try.prog 40 conCloneI := by
  refine .mkDet fn40_ok ?_
  intro args hp top hpre hcl hsc
  match args, hpre with
  | [v], ⟨l, hS, hne, hn⟩ =>
  have hs := hS.low hcl
  simp only [hS.rd]
  refine CalledOk.of_fun tt_ok fn40_ok rfl 8 rfl [.tmp 2] rfl (show 1 ≤ 8 by decide) ?_
  have hS0 := hS
  cases hS with
  | nils => exact absurd rfl hne
  | emp => exact absurd rfl hne
  | rows b o c rw vs l hb hv ho hc hn2 =>
    have hl := hne
    have hbt : b < top := hs
    have hbt2 : ¬ top = b := by omega
    have hA : ∀ {h' : Hp} {x t : Nat}, h' x = some (.cells true 1 []) → h' b = some (.cells rw 1 vs) → appendA tt.get h' t [40, 40] (.slice (some ⟨x, 0, none⟩) 0 0) (.slice (some ⟨b, o, none⟩) l.length c) = some (mkSl t l, [(x, none), (t, mkOb e_int l)], t + 1) := fun {h'} {x} {t} h1 h2 => by
      rw [apI h1 (SlT.rows (E := e_int) b o c rw vs l h2 hv ho hc hn2) hn, (own_mk (E := e_int) hl t).1, (own_mk (E := e_int) hl t).2]
    replace hb : hp b = some (.cells rw 1 vs) := hb
    refine CW.vc env10_r [0, 2, 4] (by kernel_rfl) ?_
    (repeat ((try refine Vc.mk' ?_); simp only [go_sem, reduceIte, reduceCtorEq, Nat.reduceAdd, Nat.reduceMul, Nat.reduceSub, Nat.reduceLT, Nat.reduceLeDiff, Nat.reduceEqDiff, Int.reduceEq, Int.reduceLT, Int.reduceLE, Int.reduceNe, hA, hb, set_lt hbt, List.replicate_zero]))
    (refine ⟨[top + 1], by simp, by simp, by simp, ?_, ?_, ?_⟩ <;> simp [frSub, lkG, ren, renL, renL_set, renL_ints, UpdOk.nil, UpdOk.cons, renOO_some, renO_cells, renO_map, renOO_mkOb, rn_base, rn_add, ren_mkSl, Enc.flat_ren, set_same, set_ne, sets_cons, sets_nil, Keep.set, Keep.setK, Keep.refl, rm_m_int_bool, rm_m_message_Rule, rm_m_pair_bool, rm_m_pair_int, hbt2])
noncomputable def G11_r : FuncId → Con := addG (addG (addG (addG G10_r 40 conCloneI) 38 Gr.conOf) 39 Fa.conNew) 10 conSend
theorem env11_r : EnvV Try.prog tt.get G11_r := (((env10_r.add cloneI_ok).add Gr.of_ok).add Fa.new_ok).add send_ok
theorem G11_clone : G11_r 40 = conCloneI := rfl
theorem G11_of : G11_r 38 = Gr.conOf := rfl
theorem G11_fnew : G11_r 39 = Fa.conNew := rfl
theorem G11_cnew : G11_r 41 = conNew_r := rfl
theorem G11_pair : G11_r 30 = conPair := rfl
/-! ### New -/
def linkStep (x : M_m_pair_int × Nat) (l : T_Link) : M_m_pair_int × Nat := (mput x.1 (pk l.A l.B) l.Cost x.2, mclk x.1 (pk l.A l.B) x.2)
def linksF (l : List T_Link) : M_m_pair_int × Nat := l.foldl linkStep ([], 0)
theorem linksF_succ {l : List T_Link} {k : Nat} (h : k < l.length) : linksF (l.take (k + 1)) = linkStep (linksF (l.take k)) (at' l k) := by
  rw [take_at h]; unfold linksF; rw [List.foldl_append]; rfl
def net0 (R : List Int) (l : List T_Link) (m : Fa.MapR) (c : Nat) (late : Int) : NetS := ⟨R, (linksF l).1, (linksF l).2, [], 0, [], 0, ⟨m, c, Fa.zeroP⟩, late, 0, 0, []⟩
def netU (n : Nat) (s : NetS) : Upds := [(n, netOb n s), (n + 1, some (.map (me_m_pair_int s.L) s.lc)), (n + 2, some (.map (me_m_pair_bool s.C) s.cc)), (n + 3, some (.map (me_m_int_bool s.S) s.sc)), (n + 4, Fa.planOb (n + 5) s.P.ks), (n + 5, some (.map (me_m_message_Rule s.P.m) s.P.clk)), (n + 6, calOb s.last (.slice none 0 0)), (n + 7, mkOb e_int s.R)]
def newE (R : List Int) (l : List T_Link) (rl : List T_Rule) (late : Int) : Int := if ¬ Gr.errL R l = 0 then Gr.errL R l else if late < 1 ∨ 64 < late then 2 else match Fa.planF rl with
  | .error (_, e) => e
  | .ok _ => 0
def newRes (R : List Int) (l : List T_Link) (rl : List T_Rule) (late : Int) (top : Nat) : Value × Upds × Nat := if ¬ Gr.errL R l = 0 ∨ late < 1 ∨ 64 < late then (.tuple ⟨[.pointer none, .int .i64 (newE R l rl late)]⟩, [], top) else match Fa.planF rl with
  | .error (_, e) => (.tuple ⟨[.pointer none, .int .i64 e]⟩, [], top)
  | .ok m => (.tuple ⟨[.pointer (some ⟨top, 0, none⟩), .int .i64 0]⟩, netU top (net0 R l m rl.length late), top + 8)
def conNewN : Con := .det (fun args hp _ => match args with | [u, v, r, .int .i64 _] => (∃ R, SlT e_int hp u R ∧ R ≠ [] ∧ R.length ≤ 1000) ∧ SlP e_Link hp v ∧ SlP e_Rule hp r | _ => False) (fun args hp top => match args with
  | [u, v, r, late] => newRes (e_int.rd hp u) (e_Link.rd hp v) (e_Rule.rd hp r) (intOf late) top | _ => (undef, [], top))
def stNew (hp : Hp) (top : Nat) (v : Value) (R : List Int) (l : List T_Link) (m : Fa.MapR) (c : Nat) (late : Int) (k : Nat) : SS :=
  ⟨[(14, .pointer (some ⟨top, 0, none⟩), true), (51, v, true), (52, .int .i64 (l.length : Int), true), (53, .int .i64 (k : Int), true)], hp.sets (netU top { net0 R l m c late with L := (linksF (l.take k)).1, lc := (linksF (l.take k)).2 }), top + 8⟩
theorem meL0 : me_m_pair_int [] = [] := rfl
theorem meC0 : me_m_pair_bool [] = [] := rfl
theorem meS0 : me_m_int_bool [] = [] := rfl
theorem newN_ok : ConOk Try.prog 21 conNewN := by
  refine .mkDet fn21_ok ?_
  intro args hp top hpre hcl hsc
  match args, hpre with
  | [u, v, r, .int .i64 late], ⟨⟨R, h, hR, hRn⟩, ⟨l, g⟩, ⟨rl, q⟩⟩ =>
  have hs := h.low hcl
  have gs := g.low hcl
  have qs := q.low hcl
  simp only [h.rd, g.rd, q.rd, intOf_int]
  have e1 : SlP e_int hp u = True := h.P
  have e2 : SlP e_Link hp v = True := g.P
  have r1 := h.rd
  have r2 := g.rd
  have kq : ∀ {h' : Hp}, Keep top [] h' hp → SlP e_Rule h' r = True := fun {h'} hk => (q.keep qs hk).P
  have kq2 : ∀ {h' : Hp}, Keep top [] h' hp → e_Rule.rd h' r = rl := fun {h'} hk => (q.keep qs hk).rd
  have kr : ∀ {h' : Hp}, Keep top [] h' hp → (∃ l, SlT e_int h' u l ∧ l ≠ [] ∧ l.length ≤ 1000000) = True := fun {h'} hk => eq_true ⟨R, h.keep hs hk, hR, by omega⟩
  have kr2 : ∀ {h' : Hp}, Keep top [] h' hp → e_int.rd h' u = R := fun {h'} hk => (h.keep hs hk).rd
  refine CalledOk.of_fun tt_ok fn21_ok rfl 70 rfl [.tmp 8, .tmp 9] rfl (show 4 ≤ 70 by decide) ?_
  by_cases c1 : Gr.errL R l = 0
  case neg =>
    have e : newRes R l rl late top = (.tuple ⟨[.pointer none, .int .i64 (Gr.errL R l)]⟩, [], top) := by unfold newRes newE; rw [if_pos (.inl c1), if_pos c1]
    refine CW.vc env11_r [0, 1, 2, 3, 8, 9, 11, 12, 13, 14, 16, 24, 31, 38, 51, 52, 53, 54] (by kernel_rfl) ?_
    (repeat ((try refine Vc.mk' ?_); simp only [go_sem, reduceIte, reduceCtorEq, Nat.reduceAdd, Nat.reduceMul, Nat.reduceSub, Nat.reduceLT, Nat.reduceLeDiff, Nat.reduceEqDiff, Int.reduceEq, Int.reduceLT, Int.reduceLE, Int.reduceNe, len_sLink g, idx_sLink g, ld_sLink g, sh_sLink g, sw_sLink g, sf_sLink_0 g, sc_sLink_0 g, sf_sLink_1 g, sc_sLink_1 g, sf_sLink_2 g, sc_sLink_2 g, g.P, g.oc, g.cl, g.rd, g.ref, strip_P gs, strip_rd gs, strip_ld gs, strip_sl g gs k_sLink, G11_of, Gr.conOf, Gr.resOf, G11_fnew, Fa.conNew, Fa.resNew, G11_clone, conCloneI, G11_cnew, conNew_r, G11_pair, conPair, e1, e2, r1, r2, c1]))
    rw [e]
    (refine ⟨[], by simp, by simp, by simp, ?_, ?_, ?_⟩ <;> simp [frSub, lkG, ren, renL, renL_set, renL_ints, UpdOk.nil, UpdOk.cons, renOO_some, renO_cells, renO_map, renOO_mkOb, rn_base, rn_add, ren_mkSl, Enc.flat_ren, set_same, set_ne, sets_cons, sets_nil, Keep.set, Keep.setK, Keep.refl, rm_m_int_bool, rm_m_message_Rule, rm_m_pair_bool, rm_m_pair_int])
  by_cases c2 : late < 1
  · have e : newRes R l rl late top = (.tuple ⟨[.pointer none, .int .i64 2]⟩, [], top) := by unfold newRes newE; rw [if_pos (.inr (.inl c2)), if_neg (by simp [c1]), if_pos (.inl c2)]
    refine CW.vc env11_r [0, 1, 2, 3, 8, 9, 11, 12, 13, 14, 16, 24, 31, 38, 51, 52, 53, 54] (by kernel_rfl) ?_
    (repeat ((try refine Vc.mk' ?_); simp only [go_sem, reduceIte, reduceCtorEq, Nat.reduceAdd, Nat.reduceMul, Nat.reduceSub, Nat.reduceLT, Nat.reduceLeDiff, Nat.reduceEqDiff, Int.reduceEq, Int.reduceLT, Int.reduceLE, Int.reduceNe, len_sLink g, idx_sLink g, ld_sLink g, sh_sLink g, sw_sLink g, sf_sLink_0 g, sc_sLink_0 g, sf_sLink_1 g, sc_sLink_1 g, sf_sLink_2 g, sc_sLink_2 g, g.P, g.oc, g.cl, g.rd, g.ref, strip_P gs, strip_rd gs, strip_ld gs, strip_sl g gs k_sLink, G11_of, Gr.conOf, Gr.resOf, G11_fnew, Fa.conNew, Fa.resNew, G11_clone, conCloneI, G11_cnew, conNew_r, G11_pair, conPair, e1, e2, r1, r2, c1, c2]))
    rw [e]
    (refine ⟨[], by simp, by simp, by simp, ?_, ?_, ?_⟩ <;> simp [frSub, lkG, ren, renL, renL_set, renL_ints, UpdOk.nil, UpdOk.cons, renOO_some, renO_cells, renO_map, renOO_mkOb, rn_base, rn_add, ren_mkSl, Enc.flat_ren, set_same, set_ne, sets_cons, sets_nil, Keep.set, Keep.setK, Keep.refl, rm_m_int_bool, rm_m_message_Rule, rm_m_pair_bool, rm_m_pair_int])
  by_cases c3 : 64 < late
  · have e : newRes R l rl late top = (.tuple ⟨[.pointer none, .int .i64 2]⟩, [], top) := by unfold newRes newE; rw [if_pos (.inr (.inr c3)), if_neg (by simp [c1]), if_pos (.inr c3)]
    refine CW.vc env11_r [0, 1, 2, 3, 8, 9, 11, 12, 13, 14, 16, 24, 31, 38, 51, 52, 53, 54] (by kernel_rfl) ?_
    (repeat ((try refine Vc.mk' ?_); simp only [go_sem, reduceIte, reduceCtorEq, Nat.reduceAdd, Nat.reduceMul, Nat.reduceSub, Nat.reduceLT, Nat.reduceLeDiff, Nat.reduceEqDiff, Int.reduceEq, Int.reduceLT, Int.reduceLE, Int.reduceNe, len_sLink g, idx_sLink g, ld_sLink g, sh_sLink g, sw_sLink g, sf_sLink_0 g, sc_sLink_0 g, sf_sLink_1 g, sc_sLink_1 g, sf_sLink_2 g, sc_sLink_2 g, g.P, g.oc, g.cl, g.rd, g.ref, strip_P gs, strip_rd gs, strip_ld gs, strip_sl g gs k_sLink, G11_of, Gr.conOf, Gr.resOf, G11_fnew, Fa.conNew, Fa.resNew, G11_clone, conCloneI, G11_cnew, conNew_r, G11_pair, conPair, e1, e2, r1, r2, c1, c2, c3]))
    rw [e]
    (refine ⟨[], by simp, by simp, by simp, ?_, ?_, ?_⟩ <;> simp [frSub, lkG, ren, renL, renL_set, renL_ints, UpdOk.nil, UpdOk.cons, renOO_some, renO_cells, renO_map, renOO_mkOb, rn_base, rn_add, ren_mkSl, Enc.flat_ren, set_same, set_ne, sets_cons, sets_nil, Keep.set, Keep.setK, Keep.refl, rm_m_int_bool, rm_m_message_Rule, rm_m_pair_bool, rm_m_pair_int])
  unfold newRes
  rw [if_neg (by rintro (h | h | h); exact h c1; exact c2 h; exact c3 h)]
  cases hx : Fa.planF rl with
  | error p =>
    obtain ⟨i, e⟩ := p
    have he := Fa.planF_err hx
    refine CW.vc env11_r [0, 1, 2, 3, 8, 9, 11, 12, 13, 14, 16, 24, 31, 38, 51, 52, 53, 54] (by kernel_rfl) ?_
    (repeat ((try refine Vc.mk' ?_); simp only [go_sem, reduceIte, reduceCtorEq, Nat.reduceAdd, Nat.reduceMul, Nat.reduceSub, Nat.reduceLT, Nat.reduceLeDiff, Nat.reduceEqDiff, Int.reduceEq, Int.reduceLT, Int.reduceLE, Int.reduceNe, len_sLink g, idx_sLink g, ld_sLink g, sh_sLink g, sw_sLink g, sf_sLink_0 g, sc_sLink_0 g, sf_sLink_1 g, sc_sLink_1 g, sf_sLink_2 g, sc_sLink_2 g, g.P, g.oc, g.cl, g.rd, g.ref, strip_P gs, strip_rd gs, strip_ld gs, strip_sl g gs k_sLink, G11_of, Gr.conOf, Gr.resOf, G11_fnew, Fa.conNew, Fa.resNew, G11_clone, conCloneI, G11_cnew, conNew_r, G11_pair, conPair, e1, e2, r1, r2, c1, c2, c3, kq, kq2, hx, he]))
    (refine ⟨[], by simp, by simp, by simp, ?_, ?_, ?_⟩ <;> simp [frSub, lkG, ren, renL, renL_set, renL_ints, UpdOk.nil, UpdOk.cons, renOO_some, renO_cells, renO_map, renOO_mkOb, rn_base, rn_add, ren_mkSl, Enc.flat_ren, set_same, set_ne, sets_cons, sets_nil, Keep.set, Keep.setK, Keep.refl, rm_m_int_bool, rm_m_message_Rule, rm_m_pair_bool, rm_m_pair_int])
  | ok m =>
    refine CW.vc env11_r [0, 1, 2, 3, 8, 9, 11, 12, 13, 14, 16, 24, 31, 38, 51, 52, 53, 54] (by kernel_rfl) ?_
    (repeat ((try refine Vc.mk' ?_); simp only [go_sem, reduceIte, reduceCtorEq, Nat.reduceAdd, Nat.reduceMul, Nat.reduceSub, Nat.reduceLT, Nat.reduceLeDiff, Nat.reduceEqDiff, Int.reduceEq, Int.reduceLT, Int.reduceLE, Int.reduceNe, len_sLink g, idx_sLink g, ld_sLink g, sh_sLink g, sw_sLink g, sf_sLink_0 g, sc_sLink_0 g, sf_sLink_1 g, sc_sLink_1 g, sf_sLink_2 g, sc_sLink_2 g, g.P, g.oc, g.cl, g.rd, g.ref, strip_P gs, strip_rd gs, strip_ld gs, strip_sl g gs k_sLink, G11_of, Gr.conOf, Gr.resOf, G11_fnew, Fa.conNew, Fa.resNew, G11_clone, conCloneI, G11_cnew, conNew_r, G11_pair, conPair, e1, e2, r1, r2, c1, c2, c3, kq, kq2, hx, kr, kr2, Fa.planUs]))
    have wl : wrapA .u64 late = late := wrapU (by omega) (by omega)
    have hm1 : ∀ {b : Nat}, ren (rn top [top + 10, top + 6, top + 7, top + 8, top + 4, top + 3, top + 9, top + 5] (top + 11)) (mkSl (top + 7) R) = mkSl (top + 5) R := fun {b} => by
      cases R with
      | nil => exact absurd rfl hR
      | cons a R => simp [mkSl, ren, rn]
    refine CW.loopR (stNew hp top v R l m rl.length late) (fun k => k ≤ l.length) (fun k => l.length - k) 0 (Nat.zero_le _) ?_ ?_
    · exact (by refine SubR.mk' [top + 10, top + 6, top + 7, top + 8, top + 4, top + 3, top + 9, top + 5] hcl (by simp) (by simp) rfl (frSub_ok ?_) ?_ ?_ <;> simp [frSub, lkG, ren, renL, renL_set, renL_ints, UpdOk.nil, UpdOk.cons, renOO_some, renO_cells, renO_map, renOO_mkOb, rn_base, rn_add, ren_mkSl, Enc.flat_ren, set_same, set_ne, sets_cons, sets_nil, Keep.set, Keep.setK, Keep.refl, rm_m_int_bool, rm_m_message_Rule, rm_m_pair_bool, rm_m_pair_int, Sc.ren (fun j hj => rn_low hj) gs, netU, netOb, net0, linksF, calOb, Fa.planOb, wl, meL0, meC0, meS0])
    · intro k hk
      by_cases hlt : k < l.length
      · have hst := linksF_succ hlt
        refine CW.vc env11_r [0, 1, 2, 3, 8, 9, 11, 12, 13, 14, 16, 24, 31, 38, 51, 52, 53, 54] (by kernel_rfl) ?_
        (repeat ((try refine Vc.mk' ?_); simp only [go_sem, reduceIte, reduceCtorEq, Nat.reduceAdd, Nat.reduceMul, Nat.reduceSub, Nat.reduceLT, Nat.reduceLeDiff, Nat.reduceEqDiff, Int.reduceEq, Int.reduceLT, Int.reduceLE, Int.reduceNe, len_sLink g, idx_sLink g, ld_sLink g, sh_sLink g, sw_sLink g, sf_sLink_0 g, sc_sLink_0 g, sf_sLink_1 g, sc_sLink_1 g, sf_sLink_2 g, sc_sLink_2 g, g.P, g.oc, g.cl, g.rd, g.ref, strip_P gs, strip_rd gs, strip_ld gs, strip_sl g gs k_sLink, G11_of, Gr.conOf, Gr.resOf, G11_fnew, Fa.conNew, Fa.resNew, G11_clone, conCloneI, G11_cnew, conNew_r, G11_pair, conPair, stNew, netU, netOb, net0, hlt]))
        refine .mk (k + 1) hlt (by omega) ((by refine SubR.mk' [top, top + 1, top + 2, top + 3, top + 4, top + 5, top + 6, top + 7] hcl (by simp) (by simp) rfl (frSub_ok ?_) ?_ ?_ <;> simp [frSub, lkG, ren, renL, renL_set, renL_ints, UpdOk.nil, UpdOk.cons, renOO_some, renO_cells, renO_map, renOO_mkOb, rn_base, rn_add, ren_mkSl, Enc.flat_ren, set_same, set_ne, sets_cons, sets_nil, Keep.set, Keep.setK, Keep.refl, rm_m_int_bool, rm_m_message_Rule, rm_m_pair_bool, rm_m_pair_int, Sc.ren (fun j hj => rn_low hj) gs, netU, netOb, net0, calOb, Fa.planOb, hst, linkStep, pk, wrap_succ hlt g.le]))
      · have hk2 : k = l.length := by omega
        subst hk2
        refine CW.vc env11_r [0, 1, 2, 3, 8, 9, 11, 12, 13, 14, 16, 24, 31, 38, 51, 52, 53, 54] (by kernel_rfl) ?_
        (repeat ((try refine Vc.mk' ?_); simp only [go_sem, reduceIte, reduceCtorEq, Nat.reduceAdd, Nat.reduceMul, Nat.reduceSub, Nat.reduceLT, Nat.reduceLeDiff, Nat.reduceEqDiff, Int.reduceEq, Int.reduceLT, Int.reduceLE, Int.reduceNe, len_sLink g, idx_sLink g, ld_sLink g, sh_sLink g, sw_sLink g, sf_sLink_0 g, sc_sLink_0 g, sf_sLink_1 g, sc_sLink_1 g, sf_sLink_2 g, sc_sLink_2 g, g.P, g.oc, g.cl, g.rd, g.ref, strip_P gs, strip_rd gs, strip_ld gs, strip_sl g gs k_sLink, G11_of, Gr.conOf, Gr.resOf, G11_fnew, Fa.conNew, Fa.resNew, G11_clone, conCloneI, G11_cnew, conNew_r, G11_pair, conPair, stNew, netU, netOb, net0, Nat.lt_irrefl, Int.lt_irrefl, decide_false, List.take_length]))
        (refine ⟨[top, top + 1, top + 2, top + 3, top + 4, top + 5, top + 6, top + 7], by simp, by simp, by simp, ?_, ?_, ?_⟩ <;> simp [frSub, lkG, ren, renL, renL_set, renL_ints, UpdOk.nil, UpdOk.cons, renOO_some, renO_cells, renO_map, renOO_mkOb, rn_base, rn_add, ren_mkSl, Enc.flat_ren, set_same, set_ne, sets_cons, sets_nil, Keep.set, Keep.setK, Keep.refl, rm_m_int_bool, rm_m_message_Rule, rm_m_pair_bool, rm_m_pair_int, netU, netOb, net0, calOb, Fa.planOb])
end Go.Proofs.Ytmppehipfpkepaa.Dm
