/- The net: Graph. -/
import Derived.Test.YtmppehipfpkepaaN25
set_option linter.unusedSimpArgs false
set_option linter.unusedVariables false
namespace Go.Proofs.Ytmppehipfpkepaa.Dm
open Go.Dm
set_option maxHeartbeats 16000000
set_option maxRecDepth 20000
noncomputable def G26_r : FuncId → Con := addG G25n 27 conNear
theorem env26_r : EnvV Try.prog tt.get G26_r := env25n.add near_ok
theorem G26_none : G26_r 29 = conNoneN := rfl
theorem G26_up : G26_r 31 = conUp := rfl
theorem G26_of : G26_r 38 = Gr.conOf := rfl
theorem renO_miter {ρ : Nat → Nat} {m s c : Nat} {l : List Nat} : renO ρ (.miter m s l c) = .miter (ρ m) s l c := rfl
def entP (e : EntL) : MapEntry := entT kt_pair.ek mv_m_pair_int e
def graphRes (s : NetS) (top : Nat) : Value × Upds × Nat := (.tuple ⟨[.agg ⟨[mkSl top (Gr.nodesO (downR s) 25), mkSl (top + 1) (Gr.edgesO (downR s) (upL s) 25)]⟩, .int .i64 0]⟩, [(top, mkOb e_int (Gr.nodesO (downR s) 25)), (top + 1, mkOb e_Edge (Gr.edgesO (downR s) (upL s) 25))], top + 2)
noncomputable def conGraph : Con := .det (fun args hp _ => match args with | [.pointer (some ⟨n, 0, none⟩)] => IsNet hp n ∧ GoodN (netS hp n) | _ => False) (fun args hp top => match args with
  | [.pointer (some ⟨n, _, _⟩)] => graphRes (netS hp n) top | _ => (undef, [], top))
def gz : Option AObj := some (.cells true 0 [.slice none 0 0, .slice none 0 0])
def stG1 (hp : Hp) (top n : Nat) (s : NetS) (k : Nat) : SS := ⟨[(0, .pointer (some ⟨n, 0, none⟩), true), (2, .pointer (some ⟨top, 0, none⟩), true), (4, mkSl (top + 1) ((s.R.take k).filter fun a => !isStop s a), true), (16, mkSl (n + 7) s.R, true), (17, .int .i64 (s.R.length : Int), true), (18, .int .i64 (k : Int), true)], hp.sets [(top, gz), (top + 1, mkOb e_int ((s.R.take k).filter fun a => !isStop s a))], top + 2⟩
def stG2 (hp : Hp) (top n : Nat) (s : NetS) (l : List EntL) : SS := ⟨[(0, .pointer (some ⟨n, 0, none⟩), true), (2, .pointer (some ⟨top, 0, none⟩), true), (4, mkSl (top + 1) (downR s), true), (7, mkSl (top + 3) (linkU s l), true), (38, .pointer (some ⟨top + 2, 0, none⟩), true)], hp.sets [(top, gz), (top + 1, mkOb e_int (downR s)), (top + 2, some (.miter (n + 1) s.lc (l.map (·.2.2)) s.lc)), (top + 3, mkOb e_Link (linkU s l))], top + 4⟩
theorem filter_take {s : NetS} {k : Nat} (h : k < s.R.length) : ((s.R.take (k + 1)).filter fun a => !isStop s a) = ((s.R.take k).filter fun a => !isStop s a) ++ (if isStop s (at' s.R k) = true then [] else [at' s.R k]) := by
  rw [take_at h, List.filter_append]
  congr 1
  rw [List.filter_cons]
  cases isStop s (at' s.R k) <;> rfl
theorem graph_ok : ConOk Try.prog 24 conGraph := by
  refine .mkDet fn24_ok ?_
  intro args hp top hpre hcl hsc
  match args, hpre with
  | [.pointer (some ⟨n, 0, none⟩)], ⟨⟨lv, s, h⟩, hg⟩ =>
  rw [h.s] at hg
  simp only [h.s, intOf_int]
  have hlow := h.low hcl
  have n0 : n < top := by omega
  have n1 : n + 1 < top := by omega
  have n3 : n + 3 < top := by omega
  have hh := h.h
  have hL := h.L
  have hS := h.S
  have hmt : isMapT tt.get 91 = true := by unfold isMapT; rw [k_m_pair_int]
  have hk : ∀ {hp' : Hp}, Keep top [] hp' hp → NetAt hp' n lv s := fun {hp'} k => h.keep hcl fun i hi => k i hi (by simp)
  have hisk : ∀ {hp' : Hp}, Keep top [] hp' hp → IsNet hp' n = True := fun {hp'} k => (hk k).is
  have hsk : ∀ {hp' : Hp}, Keep top [] hp' hp → netS hp' n = s := fun {hp'} k => (hk k).s
  have hrg : ∀ {h' : Hp}, h' (n + 1) = some (.map (me_m_pair_int s.L) s.lc) → rngOf h' (.map (some (n + 1))) = some (n + 1, s.lc) := fun h => rngOf_map h
  have hRS := h.sR
  have hRl := hRS.low hcl
  refine CalledOk.of_fun tt_ok fn24_ok rfl 64 rfl [.cell 2 76, .tmp 3] rfl (show 1 ≤ 64 by decide) ?_
  refine CW.vc env26_r [0, 2, 3, 4, 6, 7, 8, 9, 11, 16, 17, 18, 19, 28, 38, 40, 49] (by kernel_rfl) ?_
  (repeat ((try refine Vc.mk' ?_); simp only [go_sem, reduceIte, reduceCtorEq, Nat.reduceAdd, Nat.reduceMul, Nat.reduceSub, Nat.reduceLT, Nat.reduceLeDiff, Nat.reduceEqDiff, Int.reduceEq, Int.reduceLT, Int.reduceLE, Int.reduceNe, len_sint hRS, idx_sint hRS, ld_sint hRS, sh_sint hRS, sw_sint hRS, hRS.P, hRS.oc, hRS.cl, hRS.rd, hRS.ref, strip_P hRl, strip_rd hRl, strip_ld hRl, strip_sl hRS hRl k_sint, hh, netOb, hL, hS, hmt, hrg, G26_none, conNoneN, hisk, hsk, G26_up, conUp, G26_of, Gr.conOf, set_lt n0, set_lt n1, set_lt n3]))
  have hrn := h.rn
  refine CW.loopR (stG1 hp top n s) (fun k => k ≤ s.R.length) (fun k => s.R.length - k) 0 (Nat.zero_le _) ?_ ?_
  · exact (by refine SubR.mk' [top, top + 1] hcl (by simp) (by simp) rfl (frSub_ok ?_) ?_ ?_ <;> simp [frSub, lkG, ren, renL, renL_set, renL_ints, UpdOk.nil, UpdOk.cons, renOO_some, renO_cells, renO_map, renOO_mkOb, rn_base, rn_add, ren_mkSl, Enc.flat_ren, set_same, set_ne, sets_cons, sets_nil, Keep.set, Keep.setK, Keep.refl, rm_m_int_bool, rm_m_message_Rule, rm_m_pair_bool, rm_m_pair_int, rn_low n0, hRl.ren (fun j hj => rn_low hj), gz, mkSl_nil, mkOb_nil, List.take_zero, List.filter_nil])
  · intro k hkR
    by_cases c1 : k < s.R.length
    case pos =>
      have c1' : (k : Int) < (s.R.length : Int) := by omega
      have wk : wrapA .i64 ((k : Int) + 1) = ((k + 1 : Nat) : Int) := wrap_succ (n := 1000) (by omega) (by omega)
      have hst := filter_take (s := s) c1
      have hll : ((s.R.take k).filter fun a => !isStop s a).length < 16777216 := by
        have := List.length_filter_le (fun a => !isStop s a) (s.R.take k)
        rw [List.length_take] at this
        omega
      generalize hO : ((s.R.take k).filter fun a => !isStop s a) = O at hst hll
      cases c2 : isStop s (at' s.R k) with
      | true =>
        have c2' : (mget s.S (at' s.R k)).getD default = true := c2
        rw [c2, if_pos rfl, List.append_nil] at hst
        refine CW.vc env26_r [0, 2, 3, 4, 6, 7, 8, 9, 11, 16, 17, 18, 19, 28, 38, 40, 49] (by kernel_rfl) ?_
        (repeat ((try refine Vc.mk' ?_); simp only [go_sem, reduceIte, reduceCtorEq, Nat.reduceAdd, Nat.reduceMul, Nat.reduceSub, Nat.reduceLT, Nat.reduceLeDiff, Nat.reduceEqDiff, Int.reduceEq, Int.reduceLT, Int.reduceLE, Int.reduceNe, len_sint hRS, idx_sint hRS, ld_sint hRS, sh_sint hRS, sw_sint hRS, hRS.P, hRS.oc, hRS.cl, hRS.rd, hRS.ref, strip_P hRl, strip_rd hRl, strip_ld hRl, strip_sl hRS hRl k_sint, hh, netOb, hL, hS, hmt, hrg, G26_none, conNoneN, hisk, hsk, G26_up, conUp, G26_of, Gr.conOf, set_lt n0, set_lt n1, set_lt n3, stG1, hO, c1, c1', wk, c2', gz]))
        exact .mk (k + 1) c1 (by omega) ((by refine SubR.mk' [top, top + 1] hcl (by simp) (by simp) rfl (frSub_ok ?_) ?_ ?_ <;> simp [frSub, lkG, ren, renL, renL_set, renL_ints, UpdOk.nil, UpdOk.cons, renOO_some, renO_cells, renO_map, renOO_mkOb, rn_base, rn_add, ren_mkSl, Enc.flat_ren, set_same, set_ne, sets_cons, sets_nil, Keep.set, Keep.setK, Keep.refl, rm_m_int_bool, rm_m_message_Rule, rm_m_pair_bool, rm_m_pair_int, hst, rn_low n0, hRl.ren (fun j hj => rn_low hj), gz, hO]))
      | false =>
        have c2' : (mget s.S (at' s.R k)).getD default = false := c2
        rw [c2, if_neg (by simp)] at hst
        refine CW.vc env26_r [0, 2, 3, 4, 6, 7, 8, 9, 11, 16, 17, 18, 19, 28, 38, 40, 49] (by kernel_rfl) ?_
        (repeat ((try refine Vc.mk' ?_); simp only [go_sem, reduceIte, reduceCtorEq, Nat.reduceAdd, Nat.reduceMul, Nat.reduceSub, Nat.reduceLT, Nat.reduceLeDiff, Nat.reduceEqDiff, Int.reduceEq, Int.reduceLT, Int.reduceLE, Int.reduceNe, len_sint hRS, idx_sint hRS, ld_sint hRS, sh_sint hRS, sw_sint hRS, hRS.P, hRS.oc, hRS.cl, hRS.rd, hRS.ref, strip_P hRl, strip_rd hRl, strip_ld hRl, strip_sl hRS hRl k_sint, hh, netOb, hL, hS, hmt, hrg, G26_none, conNoneN, hisk, hsk, G26_up, conUp, G26_of, Gr.conOf, set_lt n0, set_lt n1, set_lt n3, stG1, hO, c1, c1', wk, c2', hll, gz]))
        exact .mk (k + 1) c1 (by omega) ((by refine SubR.mk' [top, top + 3] hcl (by simp) (by simp) rfl (frSub_ok ?_) ?_ ?_ <;> simp [frSub, lkG, ren, renL, renL_set, renL_ints, UpdOk.nil, UpdOk.cons, renOO_some, renO_cells, renO_map, renOO_mkOb, rn_base, rn_add, ren_mkSl, Enc.flat_ren, set_same, set_ne, sets_cons, sets_nil, Keep.set, Keep.setK, Keep.refl, rm_m_int_bool, rm_m_message_Rule, rm_m_pair_bool, rm_m_pair_int, hst, rn_low n0, hRl.ren (fun j hj => rn_low hj), gz, hO]))
    case neg =>
      have c1' : ¬ (k : Int) < (s.R.length : Int) := by omega
      have hO : ((s.R.take k).filter fun a => !isStop s a) = downR s := by rw [List.take_of_length_le (by omega)]; rfl
      refine CW.vc env26_r [0, 2, 3, 4, 6, 7, 8, 9, 11, 16, 17, 18, 19, 28, 38, 40, 49] (by kernel_rfl) ?_
      (repeat ((try refine Vc.mk' ?_); simp only [go_sem, reduceIte, reduceCtorEq, Nat.reduceAdd, Nat.reduceMul, Nat.reduceSub, Nat.reduceLT, Nat.reduceLeDiff, Nat.reduceEqDiff, Int.reduceEq, Int.reduceLT, Int.reduceLE, Int.reduceNe, len_sint hRS, idx_sint hRS, ld_sint hRS, sh_sint hRS, sw_sint hRS, hRS.P, hRS.oc, hRS.cl, hRS.rd, hRS.ref, strip_P hRl, strip_rd hRl, strip_ld hRl, strip_sl hRS hRl k_sint, hh, netOb, hL, hS, hmt, hrg, G26_none, conNoneN, hisk, hsk, G26_up, conUp, G26_of, Gr.conOf, set_lt n0, set_lt n1, set_lt n3, stG1, hO, c1, c1', gz]))
      refine CW.loopR (stG2 hp top n s) (Came s.L) (fun l => s.L.length - l.length) [] Came.nil ?_ ?_
      · exact (by refine SubR.mk' [top, top + 1, top + 2, top + 3] hcl (by simp) (by simp) rfl (frSub_ok ?_) ?_ ?_ <;> simp [frSub, lkG, ren, renL, renL_set, renL_ints, UpdOk.nil, UpdOk.cons, renOO_some, renO_cells, renO_map, renOO_mkOb, rn_base, rn_add, ren_mkSl, Enc.flat_ren, set_same, set_ne, sets_cons, sets_nil, Keep.set, Keep.setK, Keep.refl, rm_m_int_bool, rm_m_message_Rule, rm_m_pair_bool, rm_m_pair_int, rn_low n0, rn_low n1, gz, mkSl_nil, mkOb_nil, linkU, List.map_nil, List.filter_nil, renO_miter])
      · intro l1 hc
        have hl48 := hg.le
        have hlen := linkU_len s l1
        have hle := hc.len
        refine CW.vc env26_r [0, 2, 3, 4, 6, 7, 8, 9, 11, 16, 17, 18, 19, 28, 38, 40, 49] (by kernel_rfl) ?_
        (repeat ((try refine Vc.mk' ?_); simp only [go_sem, reduceIte, reduceCtorEq, Nat.reduceAdd, Nat.reduceMul, Nat.reduceSub, Nat.reduceLT, Nat.reduceLeDiff, Nat.reduceEqDiff, Int.reduceEq, Int.reduceLT, Int.reduceLE, Int.reduceNe, len_sint hRS, idx_sint hRS, ld_sint hRS, sh_sint hRS, sw_sint hRS, hRS.P, hRS.oc, hRS.cl, hRS.rd, hRS.ref, strip_P hRl, strip_rd hRl, strip_ld hRl, strip_sl hRS hRl k_sint, hh, netOb, hL, hS, hmt, hrg, G26_none, conNoneN, hisk, hsk, G26_up, conUp, G26_of, Gr.conOf, set_lt n0, set_lt n1, set_lt n3, stG2, gz]))
        refine ⟨top + 2, n + 1, s.lc, l1.map (·.2.2), s.lc, me_m_pair_int s.L, s.lc, rfl, by simp [set_same, set_ne], by simp [set_lt n1, hL], Nat.le_refl _, fun e he => ?_, fun hall => ?_, fun e he hne => ?_⟩
        · obtain ⟨x, hx, rfl⟩ := List.mem_map.1 he
          exact hg.bl x hx
        · have hp_ := hc.all hg.bn fun e he => hall (entP e) (List.mem_map.2 ⟨e, he, rfl⟩)
          have hres := fun T => resOf_perm (top := T) hg.er (linkU_perm (s := s) hp_)
          have hdl : (downR s).length ≤ 1000 := Nat.le_trans (List.length_filter_le _ _) hrn
          have p1 : ∀ {h' : Hp}, h' (top + 1) = mkOb e_int (downR s) → SlP e_int h' (mkSl (top + 1) (downR s)) = True := fun h => (SlT.own (E := e_int) h (by omega)).P
          have p2 : ∀ {h' : Hp}, h' (top + 1) = mkOb e_int (downR s) → e_int.rd h' (mkSl (top + 1) (downR s)) = downR s := fun h => (SlT.own (E := e_int) h (by omega)).rd
          have p3 : ∀ {h' : Hp}, h' (top + 3) = mkOb e_Link (linkU s l1) → SlP e_Link h' (mkSl (top + 3) (linkU s l1)) = True := fun h => (SlT.own (E := e_Link) h (by omega)).P
          have p4 : ∀ {h' : Hp}, h' (top + 3) = mkOb e_Link (linkU s l1) → e_Link.rd h' (mkSl (top + 3) (linkU s l1)) = linkU s l1 := fun h => (SlT.own (E := e_Link) h (by omega)).rd
          (repeat ((try refine Vc.mk' ?_); simp only [go_sem, reduceIte, reduceCtorEq, Nat.reduceAdd, Nat.reduceMul, Nat.reduceSub, Nat.reduceLT, Nat.reduceLeDiff, Nat.reduceEqDiff, Int.reduceEq, Int.reduceLT, Int.reduceLE, Int.reduceNe, len_sint hRS, idx_sint hRS, ld_sint hRS, sh_sint hRS, sw_sint hRS, hRS.P, hRS.oc, hRS.cl, hRS.rd, hRS.ref, strip_P hRl, strip_rd hRl, strip_ld hRl, strip_sl hRS hRl k_sint, hh, netOb, hL, hS, hmt, hrg, G26_none, conNoneN, hisk, hsk, G26_up, conUp, G26_of, Gr.conOf, set_lt n0, set_lt n1, set_lt n3, gz, p1, p2, p3, p4, hres]))
          simp only [graphRes]
          (refine ⟨[top + 4, top + 5], by simp, by simp, by simp, ?_, ?_, ?_⟩ <;> simp [frSub, lkG, ren, renL, renL_set, renL_ints, UpdOk.nil, UpdOk.cons, renOO_some, renO_cells, renO_map, renOO_mkOb, rn_base, rn_add, ren_mkSl, Enc.flat_ren, set_same, set_ne, sets_cons, sets_nil, Keep.set, Keep.setK, Keep.refl, rm_m_int_bool, rm_m_message_Rule, rm_m_pair_bool, rm_m_pair_int, rn_low n0, upL])
        · obtain ⟨x, hx, rfl⟩ := List.mem_map.1 he
          replace hne : x.2.2 ∉ l1.map (·.2.2) := hne
          have hlt := hc.lt hx hne
          have ex : (entT kt_pair.ek mv_m_pair_int x).born = x.2.2 := rfl
          have ek : (entT kt_pair.ek mv_m_pair_int x).key = .agg ⟨[.int .i64 x.1.a, .int .i64 x.1.b]⟩ := rfl
          have ev : (entT kt_pair.ek mv_m_pair_int x).val = .int .i64 x.2.1 := rfl
          have hbm : ((me_m_pair_int s.L).map (·.born)).Nodup := by
            have : (me_m_pair_int s.L).map (·.born) = s.L.map (·.2.2) := by unfold me_m_pair_int; rw [List.map_map]; rfl
            rw [this]; exact hg.bn
          have hent : ∀ {h' : Hp}, h' (top + 2) = some (.miter (n + 1) s.lc (l1.map (·.2.2) ++ [x.2.2]) s.lc) → h' (n + 1) = some (.map (me_m_pair_int s.L) s.lc) → Go.Dm.entOf h' (.pointer (some ⟨top + 2, 0, none⟩)) = some (entT kt_pair.ek mv_m_pair_int x) := fun h1 h2 => entOf_at (e := entT kt_pair.ek mv_m_pair_int x) h1 h2 he hbm
          have happ := linkU_app s l1 x
          have h16 : (linkU s l1).length < 16777216 := by omega
          have hms : (l1 ++ [x]).map (·.2.2) = l1.map (·.2.2) ++ [x.2.2] := by rw [List.map_append]; rfl
          (repeat ((try refine Vc.mk' ?_); simp only [go_sem, reduceIte, reduceCtorEq, Nat.reduceAdd, Nat.reduceMul, Nat.reduceSub, Nat.reduceLT, Nat.reduceLeDiff, Nat.reduceEqDiff, Int.reduceEq, Int.reduceLT, Int.reduceLE, Int.reduceNe, len_sint hRS, idx_sint hRS, ld_sint hRS, sh_sint hRS, sw_sint hRS, hRS.P, hRS.oc, hRS.cl, hRS.rd, hRS.ref, strip_P hRl, strip_rd hRl, strip_ld hRl, strip_sl hRS hRl k_sint, hh, netOb, hL, hS, hmt, hrg, G26_none, conNoneN, hisk, hsk, G26_up, conUp, G26_of, Gr.conOf, set_lt n0, set_lt n1, set_lt n3, gz, ex, ek, ev, hent]))
          cases c3 : upF s x.1.a x.1.b with
          | false =>
            have c3' : upE s x = false := c3
            rw [c3', if_neg (by simp), List.append_nil] at happ
            (repeat ((try refine Vc.mk' ?_); simp only [go_sem, reduceIte, reduceCtorEq, Nat.reduceAdd, Nat.reduceMul, Nat.reduceSub, Nat.reduceLT, Nat.reduceLeDiff, Nat.reduceEqDiff, Int.reduceEq, Int.reduceLT, Int.reduceLE, Int.reduceNe, len_sint hRS, idx_sint hRS, ld_sint hRS, sh_sint hRS, sw_sint hRS, hRS.P, hRS.oc, hRS.cl, hRS.rd, hRS.ref, strip_P hRl, strip_rd hRl, strip_ld hRl, strip_sl hRS hRl k_sint, hh, netOb, hL, hS, hmt, hrg, G26_none, conNoneN, hisk, hsk, G26_up, conUp, G26_of, Gr.conOf, set_lt n0, set_lt n1, set_lt n3, gz, ex, ek, ev, hent, c3]))
            exact .mk (l1 ++ [x]) (hc.add hx hne) (by rw [List.length_append, List.length_singleton]; omega) ((by refine SubR.mk' [top, top + 1, top + 2, top + 3] hcl (by simp) (by simp) rfl (frSub_ok ?_) ?_ ?_ <;> simp [frSub, lkG, ren, renL, renL_set, renL_ints, UpdOk.nil, UpdOk.cons, renOO_some, renO_cells, renO_map, renOO_mkOb, rn_base, rn_add, ren_mkSl, Enc.flat_ren, set_same, set_ne, sets_cons, sets_nil, Keep.set, Keep.setK, Keep.refl, rm_m_int_bool, rm_m_message_Rule, rm_m_pair_bool, rm_m_pair_int, happ, hms, rn_low n0, rn_low n1, gz, renO_miter]))
          | true =>
            have c3' : upE s x = true := c3
            rw [c3', if_pos rfl] at happ
            (repeat ((try refine Vc.mk' ?_); simp only [go_sem, reduceIte, reduceCtorEq, Nat.reduceAdd, Nat.reduceMul, Nat.reduceSub, Nat.reduceLT, Nat.reduceLeDiff, Nat.reduceEqDiff, Int.reduceEq, Int.reduceLT, Int.reduceLE, Int.reduceNe, len_sint hRS, idx_sint hRS, ld_sint hRS, sh_sint hRS, sw_sint hRS, hRS.P, hRS.oc, hRS.cl, hRS.rd, hRS.ref, strip_P hRl, strip_rd hRl, strip_ld hRl, strip_sl hRS hRl k_sint, hh, netOb, hL, hS, hmt, hrg, G26_none, conNoneN, hisk, hsk, G26_up, conUp, G26_of, Gr.conOf, set_lt n0, set_lt n1, set_lt n3, gz, ex, ek, ev, hent, c3, h16]))
            exact .mk (l1 ++ [x]) (hc.add hx hne) (by rw [List.length_append, List.length_singleton]; omega) ((by refine SubR.mk' [top, top + 1, top + 2, top + 6] hcl (by simp) (by simp) rfl (frSub_ok ?_) ?_ ?_ <;> simp [frSub, lkG, ren, renL, renL_set, renL_ints, UpdOk.nil, UpdOk.cons, renOO_some, renO_cells, renO_map, renOO_mkOb, rn_base, rn_add, ren_mkSl, Enc.flat_ren, set_same, set_ne, sets_cons, sets_nil, Keep.set, Keep.setK, Keep.refl, rm_m_int_bool, rm_m_message_Rule, rm_m_pair_bool, rm_m_pair_int, happ, hms, lnk, rn_low n0, rn_low n1, gz, renO_miter]))
end Go.Proofs.Ytmppehipfpkepaa.Dm
