/- A calendar of texts: Copy. -/
import Derived.Test.YtogndgadipdikaaXs
set_option linter.unusedSimpArgs false
set_option linter.unusedVariables false
namespace Go.Proofs.Ytogndgadipdikaa.Dm
open Go.Dm
set_option maxHeartbeats 8000000
set_option maxRecDepth 20000

def cloneRes (v : Value) (l : List T_t96) (top : Nat) : Value × Upds × Nat := match v with
  | .slice none _ _ => (.slice none 0 0, [], top)
  | _ => (ownS top l.length, [(top, ownO e_t96 l)], top + 1)
def conClone : Con := .det (fun args hp _ => match args with | [v] => ∃ l, OwnV e_t96 hp v l ∧ l.length ≤ 1000000 | _ => False) (fun args hp top => match args with | [v] => cloneRes v (e_t96.rd hp v) top | _ => (undef, [], top))
theorem apE {h' : Hp} {b t : Nat} {v : Value} {l : List T_t96} (hb : h' b = some (.cells true 3 [])) (h : SlT e_t96 h' v l) (hn : l.length ≤ 1000000) :
    appendA tt.get h' t [64, 64] (.slice (some ⟨b, 0, none⟩) 0 0) v = some (ownS t l.length, [(b, none), (t, ownO e_t96 l)], t + 1) := by
  have e1 := h.lenOfA
  have e2 : firstA h' 3 l.length v = some (e_t96.flat l) := h.firstA
  have e3 : oneCells (e_t96.flat l) = true := Enc.flat_one l
  have e4 : (e_t96.flat l).length = l.length * 3 := Enc.flat_len ..
  have e5 : roomB l.length ti96.bytes = true := roomB_of (by omega) (by decide)
  have hs : ti96.size = 3 := rfl
  have hb2 : Nat.ble ti96.bytes 65536 = true := rfl
  have e6 : (Nat.ble l.length 0 && !Nat.beq 0 0) = false := by simp
  have e7 : Nat.beq (e_t96.flat l).length (l.length * 3) = true := by rw [e4]; exact Nat.beq_refl _
  simp only [appendA, t_st96, ti64, e1, isIntD, t_t96, hb, hs, e2, hb2, e3, e7, Bool.and_self, Nat.beq_refl, Nat.zero_add, e6, Nat.zero_mul, List.length_nil, e5, List.drop_nil, List.nil_append, Bool.not_true, Bool.and_false]
  rfl
def G13s : FuncId → Con := addG (addG G12s 31 conSift_s) 29 conDrop_s
theorem env13s : EnvV Try.prog tt.get G13s := (env12s.add sift_s_ok).add drop_s_ok

theorem clone_ok : ConOk Try.prog 63 conClone := by
  refine .mkDet fn63_ok ?_
  intro args hp top hpre hcl hsc
  match args, hpre with
  | [v], ⟨l, hO, hn⟩ =>
  have hS := hO.slT
  have hs := hS.low hcl
  simp only [hS.rd]
  refine CalledOk.of_fun tt_ok fn63_ok rfl 8 rfl [.tmp 2] rfl (show 1 ≤ 8 by decide) ?_
  cases hO with
  | nil =>
    refine CW.vc env13s [0, 2, 4] (by kernel_rfl) ?_
    (simp only [go_sem, reduceIte, reduceCtorEq, Nat.reduceAdd, Nat.reduceMul, Nat.reduceSub, Nat.reduceLT, Nat.reduceLeDiff, Nat.reduceEqDiff, Int.reduceEq, Int.reduceLT, Int.reduceLE, Int.reduceNe]; repeat (refine Vc.mk' ?_; simp only [go_sem, reduceIte, reduceCtorEq, Nat.reduceAdd, Nat.reduceMul, Nat.reduceSub, Nat.reduceLT, Nat.reduceLeDiff, Nat.reduceEqDiff, Int.reduceEq, Int.reduceLT, Int.reduceLE, Int.reduceNe]))
    simp only [cloneRes]
    exact ⟨[], by simp, by simp, by simp, by simp [frSub, lkG, ren, renL, renL_set, renL_ints, UpdOk.nil, UpdOk.cons, renOO_some, renO_cells, renO_map, renOO_mkOb, rn_base, rn_add, ren_mkSl, Enc.flat_ren, set_same, set_ne, sets_cons, sets_nil, Keep.set, Keep.setK, Keep.refl], by simp [frSub, lkG, ren, renL, renL_set, renL_ints, UpdOk.nil, UpdOk.cons, renOO_some, renO_cells, renO_map, renOO_mkOb, rn_base, rn_add, ren_mkSl, Enc.flat_ren, set_same, set_ne, sets_cons, sets_nil, Keep.set, Keep.setK, Keep.refl], by simp [frSub, lkG, ren, renL, renL_set, renL_ints, UpdOk.nil, UpdOk.cons, renOO_some, renO_cells, renO_map, renOO_mkOb, rn_base, rn_add, ren_mkSl, Enc.flat_ren, set_same, set_ne, sets_cons, sets_nil, Keep.set, Keep.setK, Keep.refl]⟩
  | blk b l hb hn2 =>
    have hbt : b < top := hs
    have hbt2 : ¬ top = b := by omega
    have hA : ∀ {h' : Hp} {c t : Nat}, h' c = some (.cells true 3 []) → h' b = some (.cells true 3 (e_t96.flat l)) → appendA tt.get h' t [64, 64] (.slice (some ⟨c, 0, none⟩) 0 0) (.slice (some ⟨b, 0, none⟩) l.length l.length) = some (ownS t l.length, [(c, none), (t, ownO e_t96 l)], t + 1) := fun h1 h2 => apE h1 (OwnV.blk b l h2 hn2).slT hn
    replace hb : hp b = some (.cells true 3 (e_t96.flat l)) := hb
    refine CW.vc env13s [0, 2, 4] (by kernel_rfl) ?_
    (simp only [go_sem, reduceIte, reduceCtorEq, Nat.reduceAdd, Nat.reduceMul, Nat.reduceSub, Nat.reduceLT, Nat.reduceLeDiff, Nat.reduceEqDiff, Int.reduceEq, Int.reduceLT, Int.reduceLE, Int.reduceNe, hA, hb, set_lt hbt, List.replicate_zero]; repeat (refine Vc.mk' ?_; simp only [go_sem, reduceIte, reduceCtorEq, Nat.reduceAdd, Nat.reduceMul, Nat.reduceSub, Nat.reduceLT, Nat.reduceLeDiff, Nat.reduceEqDiff, Int.reduceEq, Int.reduceLT, Int.reduceLE, Int.reduceNe, hA, hb, set_lt hbt, List.replicate_zero]))
    simp only [cloneRes]
    exact ⟨[top + 1], by simp, by simp, by simp, by simp [frSub, lkG, ren, renL, renL_set, renL_ints, UpdOk.nil, UpdOk.cons, renOO_some, renO_cells, renO_map, renOO_mkOb, rn_base, rn_add, ren_mkSl, Enc.flat_ren, set_same, set_ne, sets_cons, sets_nil, Keep.set, Keep.setK, Keep.refl, hbt2, ownS, ownO, Enc.flat_ren], by simp [frSub, lkG, ren, renL, renL_set, renL_ints, UpdOk.nil, UpdOk.cons, renOO_some, renO_cells, renO_map, renOO_mkOb, rn_base, rn_add, ren_mkSl, Enc.flat_ren, set_same, set_ne, sets_cons, sets_nil, Keep.set, Keep.setK, Keep.refl, hbt2, ownS, ownO, Enc.flat_ren], by simp [frSub, lkG, ren, renL, renL_set, renL_ints, UpdOk.nil, UpdOk.cons, renOO_some, renO_cells, renO_map, renOO_mkOb, rn_base, rn_add, ren_mkSl, Enc.flat_ren, set_same, set_ne, sets_cons, sets_nil, Keep.set, Keep.setK, Keep.refl, hbt2, ownS, ownO, Enc.flat_ren]⟩
def G14s : FuncId → Con := addG G13s 63 conClone
theorem env14s : EnvV Try.prog tt.get G14s := env13s.add clone_ok
theorem G14s_clone : G14s 63 = conClone := rfl
theorem G14s_none : G14s 54 = conNone_s := rfl
def copyRes (last : Int) (lv : Value) (l : List T_t96) (top : Nat) : Value × Upds × Nat := match lv with
  | .slice none _ _ => (.pointer (some ⟨top, 0, none⟩), [(top, some (.cells true 0 [.bool true, .int .i64 last, .slice none 0 0]))], top + 1)
  | _ => (.pointer (some ⟨top, 0, none⟩), [(top, some (.cells true 0 [.bool true, .int .i64 last, ownS (top + 1) l.length])), (top + 1, ownO e_t96 l)], top + 2)
def conCopy_s : Con := .det (fun args hp _ => match args with | [.pointer (some ⟨cb, 0, none⟩)] => CalIs_s hp cb | _ => False) (fun args hp top => match args with
  | [.pointer (some ⟨cb, _, _⟩)] => copyRes (calLast hp cb) (calL hp cb) (e_t96.rd hp (calL hp cb)) top | _ => (undef, [], top))

theorem copy_s_ok : ConOk Try.prog 33 conCopy_s := by
  refine .mkDet fn33_ok ?_
  intro args hp top hpre hcl hsc
  match args, hpre with
  | [.pointer (some ⟨cb, 0, none⟩)], ⟨last, lv, l, C⟩ =>
  have hh := C.h
  have hcbt : cb < top := hcl.lt _ _ hh
  have hS := C.o.slT
  have lvs := C.low hcl
  have hn := C.n
  have hcc : ¬ cb = top := by omega
  have hic : ∀ {h' : Hp}, h' cb = some (.cells true 0 [.bool true, .int .i64 last, lv]) → IsCal h' cb = True := fun h => eq_true ⟨_, _, _, h⟩
  simp only [calL, calLast, hh, cellsOf_some, List.getElem?_cons_succ, List.getElem?_cons_zero, Option.getD_some, intOf_int, hS.rd]
  have hOw : ∀ {h' : Hp}, Keep top [] h' hp → (∃ l, OwnV e_t96 h' lv l ∧ l.length ≤ 1000000) = True := fun {h'} hk => eq_true ⟨l, C.o.mono fun b n c e => by subst e; exact hk b lvs (by simp), hn⟩
  have hrd : ∀ {h' : Hp}, Keep top [] h' hp → e_t96.rd h' lv = l := fun {h'} hk => (C.o.mono fun b n c e => by subst e; exact hk b lvs (by simp)).slT.rd
  have ho := C.o
  refine CalledOk.of_fun tt_ok fn33_ok rfl 16 rfl [.tmp 2] rfl (show 1 ≤ 16 by decide) ?_
  cases ho with
  | nil =>
    refine CW.vc env14s [0, 2, 4, 1000003] (by kernel_rfl) ?_
    (simp only [go_sem, reduceIte, reduceCtorEq, Nat.reduceAdd, Nat.reduceMul, Nat.reduceSub, Nat.reduceLT, Nat.reduceLeDiff, Nat.reduceEqDiff, Int.reduceEq, Int.reduceLT, Int.reduceLE, Int.reduceNe, G14s_none, conNone_s, G14s_clone, conClone, List.headD_cons, hh, hic, hcc, set_lt hcbt, hOw, hrd, cloneRes, evList, evO]; repeat ((first | refine Vc.mk' ?_ | refine CW.drawX env14s 3 [0, 2, 4, 1000003] [(3, 8)] (by kernel_rfl) (by kernel_rfl) ?_); simp only [go_sem, reduceIte, reduceCtorEq, Nat.reduceAdd, Nat.reduceMul, Nat.reduceSub, Nat.reduceLT, Nat.reduceLeDiff, Nat.reduceEqDiff, Int.reduceEq, Int.reduceLT, Int.reduceLE, Int.reduceNe, G14s_none, conNone_s, G14s_clone, conClone, List.headD_cons, hh, hic, hcc, set_lt hcbt, hOw, hrd, cloneRes, evList, evO]))
    simp only [copyRes]
    exact ⟨[top], by simp, by simp, by simp, by simp [frSub, lkG, ren, renL, renL_set, renL_ints, UpdOk.nil, UpdOk.cons, renOO_some, renO_cells, renO_map, renOO_mkOb, rn_base, rn_add, ren_mkSl, Enc.flat_ren, set_same, set_ne, sets_cons, sets_nil, Keep.set, Keep.setK, Keep.refl], by simp [frSub, lkG, ren, renL, renL_set, renL_ints, UpdOk.nil, UpdOk.cons, renOO_some, renO_cells, renO_map, renOO_mkOb, rn_base, rn_add, ren_mkSl, Enc.flat_ren, set_same, set_ne, sets_cons, sets_nil, Keep.set, Keep.setK, Keep.refl], by simp [frSub, lkG, ren, renL, renL_set, renL_ints, UpdOk.nil, UpdOk.cons, renOO_some, renO_cells, renO_map, renOO_mkOb, rn_base, rn_add, ren_mkSl, Enc.flat_ren, set_same, set_ne, sets_cons, sets_nil, Keep.set, Keep.setK, Keep.refl]⟩
  | blk b l hb hn2 =>
    have hbt : b < top := lvs
    refine CW.vc env14s [0, 2, 4, 1000003] (by kernel_rfl) ?_
    (simp only [go_sem, reduceIte, reduceCtorEq, Nat.reduceAdd, Nat.reduceMul, Nat.reduceSub, Nat.reduceLT, Nat.reduceLeDiff, Nat.reduceEqDiff, Int.reduceEq, Int.reduceLT, Int.reduceLE, Int.reduceNe, G14s_none, conNone_s, G14s_clone, conClone, List.headD_cons, hh, hic, hcc, set_lt hcbt, hOw, hrd, cloneRes, evList, evO, set_lt hbt, ownS]; repeat ((first | refine Vc.mk' ?_ | refine CW.drawX env14s 3 [0, 2, 4, 1000003] [(3, 8)] (by kernel_rfl) (by kernel_rfl) ?_); simp only [go_sem, reduceIte, reduceCtorEq, Nat.reduceAdd, Nat.reduceMul, Nat.reduceSub, Nat.reduceLT, Nat.reduceLeDiff, Nat.reduceEqDiff, Int.reduceEq, Int.reduceLT, Int.reduceLE, Int.reduceNe, G14s_none, conNone_s, G14s_clone, conClone, List.headD_cons, hh, hic, hcc, set_lt hcbt, hOw, hrd, cloneRes, evList, evO, set_lt hbt, ownS]))
    simp only [copyRes, ownS, ownO]
    exact ⟨[top + 1, top], by simp, by simp, by simp, by simp [frSub, lkG, ren, renL, renL_set, renL_ints, UpdOk.nil, UpdOk.cons, renOO_some, renO_cells, renO_map, renOO_mkOb, rn_base, rn_add, ren_mkSl, Enc.flat_ren, set_same, set_ne, sets_cons, sets_nil, Keep.set, Keep.setK, Keep.refl, Enc.flat_ren], by simp [frSub, lkG, ren, renL, renL_set, renL_ints, UpdOk.nil, UpdOk.cons, renOO_some, renO_cells, renO_map, renOO_mkOb, rn_base, rn_add, ren_mkSl, Enc.flat_ren, set_same, set_ne, sets_cons, sets_nil, Keep.set, Keep.setK, Keep.refl, Enc.flat_ren], by simp [frSub, lkG, ren, renL, renL_set, renL_ints, UpdOk.nil, UpdOk.cons, renOO_some, renO_cells, renO_map, renOO_mkOb, rn_base, rn_add, ren_mkSl, Enc.flat_ren, set_same, set_ne, sets_cons, sets_nil, Keep.set, Keep.setK, Keep.refl, Enc.flat_ren]⟩
def G15s : FuncId → Con := addG (addG (addG (addG (addG (addG (addG G14s 33 conCopy_s) 24 (conEq e_string)) 26 conRTake) 51 conRPut) 52 conRDrop) 71 conRSift) 17 conWorks
theorem env15s : EnvV Try.prog tt.get G15s := ((((((env14s.add copy_s_ok).add same16_ok).add rtake_ok).add rput_ok).add rdrop_ok).add rsift_ok).add works_ok
theorem G15s_works : G15s 17 = conWorks := rfl
theorem G15s_new : G15s 21 = conNew_s := rfl
theorem G15s_put : G15s 27 = conPut_s := rfl
theorem G15s_take : G15s 25 = conTake_s := rfl
theorem G15s_drop : G15s 29 = conDrop_s := rfl
theorem G15s_sift : G15s 31 = conSift_s := rfl
theorem G15s_copy : G15s 33 = conCopy_s := rfl
theorem G15s_next : G15s 28 = conNext_s := rfl
theorem G15s_len : G15s 23 = conLen_s := rfl
theorem G15s_same : G15s 24 = conEq e_string := rfl
theorem G15s_rtake : G15s 26 = conRTake := rfl
theorem G15s_rput : G15s 51 = conRPut := rfl
theorem G15s_rdrop : G15s 52 = conRDrop := rfl
theorem G15s_rsift : G15s 71 = conRSift := rfl
end Go.Proofs.Ytogndgadipdikaa.Dm
