/- The statements' own helpers: same, works. -/
import Derived.Test.YtogndgadipdikaaTs
set_option linter.unusedSimpArgs false
set_option linter.unusedVariables false
namespace Go.Proofs.Ytogndgadipdikaa.Dm
open Go.Dm
set_option maxHeartbeats 8000000
set_option maxRecDepth 20000

theorem take_eq {α : Type} [Inhabited α] {l m : List α} {i : Nat} (hl : l.length = m.length) (hi : i < l.length) (h : l.take i = m.take i) : l.take (i + 1) = m.take (i + 1) ↔ at' l i = at' m i := by
  rw [take_at hi, take_at (by omega), h]
  constructor
  · intro e; simpa using e
  · intro e; rw [e]
theorem ne_of_at {α : Type} [Inhabited α] {l m : List α} {i : Nat} (h : ¬ at' l i = at' m i) : ¬ l = m := fun e => h (by rw [e])
theorem len_ne {α : Type} {l m : List α} (h : ¬ l.length = m.length) : ¬ l = m := fun e => h (by rw [e])
def conEq {α : Type} [DecidableEq α] (E : Enc α) : Con := .pure (fun args hp => match args with | [u, v] => SlP E hp u ∧ SlP E hp v | _ => False) (fun args hp => match args with | [u, v] => .bool (decide (E.rd hp u = E.rd hp v)) | _ => undef)
def stEq (hp : Hp) (top : Nat) (u v : Value) (i : Nat) : SS := ⟨[(0, u, true), (1, v, true), (5, .int .i64 (i : Int), true)], hp.sets [], top + 0⟩

theorem same_ok : ConOk Try.prog 30 (conEq e_string) := by
  refine .mkRd fn30_ok ?_ ?_
  · intro args hp h
    match args, h with
    | [u, v], _ => rfl
  intro args hp hpre top hcl hsc
  match args, hpre with
  | [u, v], ⟨⟨l, h⟩, ⟨m, g⟩⟩ =>
  have hs := h.low hcl
  have gs := g.low hcl
  simp only [h.rd, g.rd]
  refine CalledOk.of_fun tt_ok fn30_ok rfl 26 rfl [.tmp 4] rfl (show 2 ≤ 26 by decide) ?_
  by_cases hl : l.length = m.length
  · have hl2 : (l.length : Int) = (m.length : Int) := by omega
    refine CW.vc env6_s [0, 1, 4, 5, 10, 14, 25] (by kernel_rfl) ?_
    (simp only [go_sem, reduceIte, reduceCtorEq, Nat.reduceAdd, Nat.reduceMul, Nat.reduceSub, Nat.reduceLT, Nat.reduceLeDiff, Nat.reduceEqDiff, Int.reduceEq, Int.reduceLT, Int.reduceLE, Int.reduceNe, len_sstring h, idx_sstring h, ld_sstring h, sh_sstring h, sw_sstring h, h.P, h.oc, h.cl, h.rd, h.ref, strip_P hs, strip_rd hs, strip_ld hs, strip_sl h hs k_sstring, len_sstring g, idx_sstring g, ld_sstring g, sh_sstring g, sw_sstring g, g.P, g.oc, g.cl, g.rd, g.ref, strip_P gs, strip_rd gs, strip_ld gs, strip_sl g gs k_sstring, hl2]; repeat (refine Vc.mk' ?_; simp only [go_sem, reduceIte, reduceCtorEq, Nat.reduceAdd, Nat.reduceMul, Nat.reduceSub, Nat.reduceLT, Nat.reduceLeDiff, Nat.reduceEqDiff, Int.reduceEq, Int.reduceLT, Int.reduceLE, Int.reduceNe, len_sstring h, idx_sstring h, ld_sstring h, sh_sstring h, sw_sstring h, h.P, h.oc, h.cl, h.rd, h.ref, strip_P hs, strip_rd hs, strip_ld hs, strip_sl h hs k_sstring, len_sstring g, idx_sstring g, ld_sstring g, sh_sstring g, sw_sstring g, g.P, g.oc, g.cl, g.rd, g.ref, strip_P gs, strip_rd gs, strip_ld gs, strip_sl g gs k_sstring, hl2]))
    refine CW.loopR (stEq hp top u v) (fun i => i ≤ l.length ∧ l.take i = m.take i) (fun i => l.length - i) 0 ⟨Nat.zero_le _, rfl⟩ ?_ ?_
    · exact SubR.mk' [] hcl (by simp) (by simp) rfl (frSub_ok (by simp [frSub, lkG, ren, renL, renL_set, renL_ints, UpdOk.nil, UpdOk.cons, renOO_some, renO_cells, renO_map, renOO_mkOb, rn_base, rn_add, ren_mkSl, Enc.flat_ren, set_same, set_ne, sets_cons, sets_nil, Keep.set, Keep.setK, Keep.refl, Sc.ren (fun j hj => rn_low hj) hs, Sc.ren (fun j hj => rn_low hj) gs, hl2])) (by simp [frSub, lkG, ren, renL, renL_set, renL_ints, UpdOk.nil, UpdOk.cons, renOO_some, renO_cells, renO_map, renOO_mkOb, rn_base, rn_add, ren_mkSl, Enc.flat_ren, set_same, set_ne, sets_cons, sets_nil, Keep.set, Keep.setK, Keep.refl, Sc.ren (fun j hj => rn_low hj) hs, Sc.ren (fun j hj => rn_low hj) gs, hl2]) (by simp [frSub, lkG, ren, renL, renL_set, renL_ints, UpdOk.nil, UpdOk.cons, renOO_some, renO_cells, renO_map, renOO_mkOb, rn_base, rn_add, ren_mkSl, Enc.flat_ren, set_same, set_ne, sets_cons, sets_nil, Keep.set, Keep.setK, Keep.refl, Sc.ren (fun j hj => rn_low hj) hs, Sc.ren (fun j hj => rn_low hj) gs, hl2])
    · rintro i ⟨hi, hm⟩
      by_cases hlt : i < l.length
      · have hlm : i < m.length := by omega
        have he := take_eq hl hlt hm
        refine CW.vc env6_s [0, 1, 4, 5, 10, 14, 25] (by kernel_rfl) ?_
        (simp only [go_sem, reduceIte, reduceCtorEq, Nat.reduceAdd, Nat.reduceMul, Nat.reduceSub, Nat.reduceLT, Nat.reduceLeDiff, Nat.reduceEqDiff, Int.reduceEq, Int.reduceLT, Int.reduceLE, Int.reduceNe, len_sstring h, idx_sstring h, ld_sstring h, sh_sstring h, sw_sstring h, h.P, h.oc, h.cl, h.rd, h.ref, strip_P hs, strip_rd hs, strip_ld hs, strip_sl h hs k_sstring, len_sstring g, idx_sstring g, ld_sstring g, sh_sstring g, sw_sstring g, g.P, g.oc, g.cl, g.rd, g.ref, strip_P gs, strip_rd gs, strip_ld gs, strip_sl g gs k_sstring, hlt, hlm, stEq]; repeat (refine Vc.mk' ?_; simp only [go_sem, reduceIte, reduceCtorEq, Nat.reduceAdd, Nat.reduceMul, Nat.reduceSub, Nat.reduceLT, Nat.reduceLeDiff, Nat.reduceEqDiff, Int.reduceEq, Int.reduceLT, Int.reduceLE, Int.reduceNe, len_sstring h, idx_sstring h, ld_sstring h, sh_sstring h, sw_sstring h, h.P, h.oc, h.cl, h.rd, h.ref, strip_P hs, strip_rd hs, strip_ld hs, strip_sl h hs k_sstring, len_sstring g, idx_sstring g, ld_sstring g, sh_sstring g, sw_sstring g, g.P, g.oc, g.cl, g.rd, g.ref, strip_P gs, strip_rd gs, strip_ld gs, strip_sl g gs k_sstring, hlt, hlm, stEq]))
        refine condP.mk (fun c => ?_) (fun c => ?_)
        · simp only [Bool.not_eq_true', eqB_eq, beq_eq_false_iff_ne, ne_eq] at c
          (simp only [go_sem, reduceIte, reduceCtorEq, Nat.reduceAdd, Nat.reduceMul, Nat.reduceSub, Nat.reduceLT, Nat.reduceLeDiff, Nat.reduceEqDiff, Int.reduceEq, Int.reduceLT, Int.reduceLE, Int.reduceNe, len_sstring h, idx_sstring h, ld_sstring h, sh_sstring h, sw_sstring h, h.P, h.oc, h.cl, h.rd, h.ref, strip_P hs, strip_rd hs, strip_ld hs, strip_sl h hs k_sstring, len_sstring g, idx_sstring g, ld_sstring g, sh_sstring g, sw_sstring g, g.P, g.oc, g.cl, g.rd, g.ref, strip_P gs, strip_rd gs, strip_ld gs, strip_sl g gs k_sstring]; repeat (refine Vc.mk' ?_; simp only [go_sem, reduceIte, reduceCtorEq, Nat.reduceAdd, Nat.reduceMul, Nat.reduceSub, Nat.reduceLT, Nat.reduceLeDiff, Nat.reduceEqDiff, Int.reduceEq, Int.reduceLT, Int.reduceLE, Int.reduceNe, len_sstring h, idx_sstring h, ld_sstring h, sh_sstring h, sw_sstring h, h.P, h.oc, h.cl, h.rd, h.ref, strip_P hs, strip_rd hs, strip_ld hs, strip_sl h hs k_sstring, len_sstring g, idx_sstring g, ld_sstring g, sh_sstring g, sw_sstring g, g.P, g.oc, g.cl, g.rd, g.ref, strip_P gs, strip_rd gs, strip_ld gs, strip_sl g gs k_sstring]))
          simp [ne_of_at c]
        · simp only [Bool.not_eq_false', eqB_eq, beq_iff_eq] at c
          (simp only [go_sem, reduceIte, reduceCtorEq, Nat.reduceAdd, Nat.reduceMul, Nat.reduceSub, Nat.reduceLT, Nat.reduceLeDiff, Nat.reduceEqDiff, Int.reduceEq, Int.reduceLT, Int.reduceLE, Int.reduceNe, len_sstring h, idx_sstring h, ld_sstring h, sh_sstring h, sw_sstring h, h.P, h.oc, h.cl, h.rd, h.ref, strip_P hs, strip_rd hs, strip_ld hs, strip_sl h hs k_sstring, len_sstring g, idx_sstring g, ld_sstring g, sh_sstring g, sw_sstring g, g.P, g.oc, g.cl, g.rd, g.ref, strip_P gs, strip_rd gs, strip_ld gs, strip_sl g gs k_sstring]; repeat (refine Vc.mk' ?_; simp only [go_sem, reduceIte, reduceCtorEq, Nat.reduceAdd, Nat.reduceMul, Nat.reduceSub, Nat.reduceLT, Nat.reduceLeDiff, Nat.reduceEqDiff, Int.reduceEq, Int.reduceLT, Int.reduceLE, Int.reduceNe, len_sstring h, idx_sstring h, ld_sstring h, sh_sstring h, sw_sstring h, h.P, h.oc, h.cl, h.rd, h.ref, strip_P hs, strip_rd hs, strip_ld hs, strip_sl h hs k_sstring, len_sstring g, idx_sstring g, ld_sstring g, sh_sstring g, sw_sstring g, g.P, g.oc, g.cl, g.rd, g.ref, strip_P gs, strip_rd gs, strip_ld gs, strip_sl g gs k_sstring]))
          exact .mk (i + 1) ⟨hlt, he.2 c⟩ (by omega) (SubR.mk' [] hcl (by simp) (by simp) rfl (frSub_ok (by simp [frSub, lkG, ren, renL, renL_set, renL_ints, UpdOk.nil, UpdOk.cons, renOO_some, renO_cells, renO_map, renOO_mkOb, rn_base, rn_add, ren_mkSl, Enc.flat_ren, set_same, set_ne, sets_cons, sets_nil, Keep.set, Keep.setK, Keep.refl, Sc.ren (fun j hj => rn_low hj) hs, Sc.ren (fun j hj => rn_low hj) gs, wrap_succ hlt h.le])) (by simp [frSub, lkG, ren, renL, renL_set, renL_ints, UpdOk.nil, UpdOk.cons, renOO_some, renO_cells, renO_map, renOO_mkOb, rn_base, rn_add, ren_mkSl, Enc.flat_ren, set_same, set_ne, sets_cons, sets_nil, Keep.set, Keep.setK, Keep.refl, Sc.ren (fun j hj => rn_low hj) hs, Sc.ren (fun j hj => rn_low hj) gs, wrap_succ hlt h.le]) (by simp [frSub, lkG, ren, renL, renL_set, renL_ints, UpdOk.nil, UpdOk.cons, renOO_some, renO_cells, renO_map, renOO_mkOb, rn_base, rn_add, ren_mkSl, Enc.flat_ren, set_same, set_ne, sets_cons, sets_nil, Keep.set, Keep.setK, Keep.refl, Sc.ren (fun j hj => rn_low hj) hs, Sc.ren (fun j hj => rn_low hj) gs, wrap_succ hlt h.le]))
      · have hi2 : i = l.length := by omega
        subst hi2
        refine CW.vc env6_s [0, 1, 4, 5, 10, 14, 25] (by kernel_rfl) ?_
        (simp only [go_sem, reduceIte, reduceCtorEq, Nat.reduceAdd, Nat.reduceMul, Nat.reduceSub, Nat.reduceLT, Nat.reduceLeDiff, Nat.reduceEqDiff, Int.reduceEq, Int.reduceLT, Int.reduceLE, Int.reduceNe, len_sstring h, idx_sstring h, ld_sstring h, sh_sstring h, sw_sstring h, h.P, h.oc, h.cl, h.rd, h.ref, strip_P hs, strip_rd hs, strip_ld hs, strip_sl h hs k_sstring, len_sstring g, idx_sstring g, ld_sstring g, sh_sstring g, sw_sstring g, g.P, g.oc, g.cl, g.rd, g.ref, strip_P gs, strip_rd gs, strip_ld gs, strip_sl g gs k_sstring, stEq, Nat.lt_irrefl, decide_false]; repeat (refine Vc.mk' ?_; simp only [go_sem, reduceIte, reduceCtorEq, Nat.reduceAdd, Nat.reduceMul, Nat.reduceSub, Nat.reduceLT, Nat.reduceLeDiff, Nat.reduceEqDiff, Int.reduceEq, Int.reduceLT, Int.reduceLE, Int.reduceNe, len_sstring h, idx_sstring h, ld_sstring h, sh_sstring h, sw_sstring h, h.P, h.oc, h.cl, h.rd, h.ref, strip_P hs, strip_rd hs, strip_ld hs, strip_sl h hs k_sstring, len_sstring g, idx_sstring g, ld_sstring g, sh_sstring g, sw_sstring g, g.P, g.oc, g.cl, g.rd, g.ref, strip_P gs, strip_rd gs, strip_ld gs, strip_sl g gs k_sstring, stEq, Nat.lt_irrefl, decide_false]))
        rw [List.take_length, hl, List.take_length] at hm
        simp [hm]
  · have hl2 : ¬ (l.length : Int) = (m.length : Int) := by omega
    refine CW.vc env6_s [0, 1, 4, 5, 10, 14, 25] (by kernel_rfl) ?_
    (simp only [go_sem, reduceIte, reduceCtorEq, Nat.reduceAdd, Nat.reduceMul, Nat.reduceSub, Nat.reduceLT, Nat.reduceLeDiff, Nat.reduceEqDiff, Int.reduceEq, Int.reduceLT, Int.reduceLE, Int.reduceNe, len_sstring h, idx_sstring h, ld_sstring h, sh_sstring h, sw_sstring h, h.P, h.oc, h.cl, h.rd, h.ref, strip_P hs, strip_rd hs, strip_ld hs, strip_sl h hs k_sstring, len_sstring g, idx_sstring g, ld_sstring g, sh_sstring g, sw_sstring g, g.P, g.oc, g.cl, g.rd, g.ref, strip_P gs, strip_rd gs, strip_ld gs, strip_sl g gs k_sstring, hl2]; repeat (refine Vc.mk' ?_; simp only [go_sem, reduceIte, reduceCtorEq, Nat.reduceAdd, Nat.reduceMul, Nat.reduceSub, Nat.reduceLT, Nat.reduceLeDiff, Nat.reduceEqDiff, Int.reduceEq, Int.reduceLT, Int.reduceLE, Int.reduceNe, len_sstring h, idx_sstring h, ld_sstring h, sh_sstring h, sw_sstring h, h.P, h.oc, h.cl, h.rd, h.ref, strip_P hs, strip_rd hs, strip_ld hs, strip_sl h hs k_sstring, len_sstring g, idx_sstring g, ld_sstring g, sh_sstring g, sw_sstring g, g.P, g.oc, g.cl, g.rd, g.ref, strip_P gs, strip_rd gs, strip_ld gs, strip_sl g gs k_sstring, hl2]))
    simp [len_ne hl]
def G7 : FuncId → Con := addG (addG (addG G6_s 25 conTake_s) 27 conPut_s) 30 (conEq e_string)
theorem env7 : EnvV Try.prog tt.get G7 := ((env6_s.add take_s_ok).add put_s_ok).add same_ok
theorem G7_take : G7 25 = conTake_s := rfl
theorem G7_put : G7 27 = conPut_s := rfl
theorem G7_new : G7 21 = conNew_s := rfl
theorem G7_len : G7 23 = conLen_s := rfl
theorem G7_next : G7 28 = conNext_s := rfl
theorem G7_same : G7 30 = conEq e_string := rfl
theorem rd_own {α : Type} [Inhabited α] {E : Enc α} {hp : Hp} {b : Nat} {l : List α} (h : hp b = ownO E l) (hn : l.length ≤ 9223372036854775807) : E.rd hp (ownS b l.length) = l := (OwnV.blk b l h hn).slT.rd
theorem cal_of {hp : Hp} {cb b : Nat} {last : Int} (l : List T_t96) (h : hp cb = some (.cells true 0 [.bool true, .int .i64 last, ownS b l.length])) (ho : hp b = ownO e_t96 l) (hu : up_s l) (ht : ∀ a ∈ l, 1 ≤ a.ticket ∧ a.ticket ≤ last) (h0 : 0 ≤ last) (h1 : last ≤ 1000000) (hn : l.length ≤ 1000000) :
    CalAt_s hp cb last (ownS b l.length) l := ⟨h, .blk b l ho (by omega), hu, ht, h0, h1, hn⟩
def w1 : T_t96 := ⟨5, 1, [97]⟩
def w2 : T_t96 := ⟨3, 2, [98]⟩
def w3 : T_t96 := ⟨5, 3, [99]⟩
def conWorks : Con := .pure (fun args _ => args = []) (fun _ _ => .bool true)
theorem dropU_own {b n : Nat} : dropU (ownS b n) = [(b, none)] := rfl
theorem dropU_nil : dropU (.slice none 0 0) = [] := rfl
theorem ia1 : (0 : Int) + 1 = 1 := rfl
theorem ia2 : (1 : Int) + 1 = 2 := rfl
theorem ia3 : (2 : Int) + 1 = 3 := rfl
theorem put0 : put_s [] w1 = [w1] := rfl
theorem put1 : put_s [w1] w2 = [w2, w1] := by decide
theorem put2 : put_s [w2, w1] w3 = [w2, w1, w3] := by decide
theorem th1 : thing_s (.int .u64 5) 1 (.string ⟨⟨[97]⟩⟩) = w1 := rfl
theorem th2 : thing_s (.int .u64 3) 2 (.string ⟨⟨[98]⟩⟩) = w2 := rfl
theorem th3 : thing_s (.int .u64 5) 3 (.string ⟨⟨[99]⟩⟩) = w3 := rfl
theorem kf1 : kF_s [w2, w1, w3] 4 = 1 := by decide
theorem kf2 : kF_s [w1, w3] 5 = 2 := by decide
theorem ou1 : outs_s [w2, w1, w3] 1 = [[98]] := rfl
theorem ou2 : outs_s [w1, w3] 2 = [[97], [99]] := rfl
theorem cv1 {b : Nat} : cutV (ownS b 3) [w2, w1, w3] 0 1 = ownS b 2 := rfl
theorem cu1 {b : Nat} : cutU e_t96 (ownS b 3) [w2, w1, w3] 0 1 = [(b, ownO e_t96 [w1, w3])] := rfl
theorem cv2 {b : Nat} : cutV (ownS b 2) [w1, w3] 0 2 = ownS b 0 := rfl
theorem cu2 {b : Nat} : cutU e_t96 (ownS b 2) [w1, w3] 0 2 = [(b, ownO e_t96 [])] := rfl
theorem rd1 {h' : Hp} {b : Nat} (h : h' b = ownO e_t96 [w1]) : e_t96.rd h' (ownS b 1) = [w1] := rd_own h (by decide)
theorem rd2 {h' : Hp} {b : Nat} (h : h' b = ownO e_t96 [w2, w1]) : e_t96.rd h' (ownS b 2) = [w2, w1] := rd_own h (by decide)
theorem rd3 {h' : Hp} {b : Nat} (h : h' b = ownO e_t96 [w2, w1, w3]) : e_t96.rd h' (ownS b 3) = [w2, w1, w3] := rd_own h (by decide)
theorem rd4 {h' : Hp} {b : Nat} (h : h' b = ownO e_t96 [w1, w3]) : e_t96.rd h' (ownS b 2) = [w1, w3] := rd_own h (by decide)
theorem rd5 {h' : Hp} {b : Nat} (h : h' b = ownO e_t96 []) : e_t96.rd h' (ownS b 0) = [] := rd_own h (by decide)
theorem sl1 {h' : Hp} {b : Nat} {x : List UInt8} (h : h' b = some (.cells true 1 [.string ⟨⟨x⟩⟩])) : SlT e_string h' (.slice (some ⟨b, 0, none⟩) 1 1) [x] := .own (l := [x]) h (by simp)
theorem sl2 {h' : Hp} {b : Nat} {x y : List UInt8} (h : h' b = some (.cells true 1 [.string ⟨⟨x⟩⟩, .string ⟨⟨y⟩⟩])) : SlT e_string h' (.slice (some ⟨b, 0, none⟩) 2 2) [x, y] := .own (l := [x, y]) h (by simp)
theorem sp1 {h' : Hp} {b : Nat} (h : h' b = some (.cells true 1 [.string ⟨⟨[98]⟩⟩])) : SlP e_string h' (.slice (some ⟨b, 0, none⟩) 1 1) = True := (sl1 h).P
theorem sp2 {h' : Hp} {b : Nat} (h : h' b = some (.cells true 1 [.string ⟨⟨[97]⟩⟩, .string ⟨⟨[99]⟩⟩])) : SlP e_string h' (.slice (some ⟨b, 0, none⟩) 2 2) = True := (sl2 h).P
theorem sr1 {h' : Hp} {b : Nat} (h : h' b = some (.cells true 1 [.string ⟨⟨[98]⟩⟩])) : e_string.rd h' (.slice (some ⟨b, 0, none⟩) 1 1) = [[98]] := (sl1 h).rd
theorem sr2 {h' : Hp} {b : Nat} (h : h' b = some (.cells true 1 [.string ⟨⟨[97]⟩⟩, .string ⟨⟨[99]⟩⟩])) : e_string.rd h' (.slice (some ⟨b, 0, none⟩) 2 2) = [[97], [99]] := (sl2 h).rd
theorem i3 : ((3 : Nat) : Int) = 3 := rfl
theorem i0 : ((0 : Nat) : Int) = 0 := rfl
theorem w2a : w2.at_ = 3 := rfl
theorem rd0 {h' : Hp} : e_t96.rd h' (.slice none 0 0) = [] := SlT.nils.rd
theorem c0 {hp : Hp} {cb : Nat} (h : hp cb = some (.cells true 0 [.bool true, .int .i64 0, .slice none 0 0])) : CalAt_s hp cb 0 (.slice none 0 0) [] := ⟨h, .nil, .nil, by simp, by omega, by omega, by simp⟩
theorem c1 {hp : Hp} {cb b : Nat} (h : hp cb = some (.cells true 0 [.bool true, .int .i64 1, ownS b 1])) (ho : hp b = ownO e_t96 [w1]) : CalAt_s hp cb 1 (ownS b 1) [w1] := cal_of _ h ho (by unfold up_s; decide) (by decide) (by decide) (by decide) (by decide)
theorem c2 {hp : Hp} {cb b : Nat} (h : hp cb = some (.cells true 0 [.bool true, .int .i64 2, ownS b 2])) (ho : hp b = ownO e_t96 [w2, w1]) : CalAt_s hp cb 2 (ownS b 2) [w2, w1] := cal_of _ h ho (by unfold up_s; decide) (by decide) (by decide) (by decide) (by decide)
theorem c3 {hp : Hp} {cb b : Nat} (h : hp cb = some (.cells true 0 [.bool true, .int .i64 3, ownS b 3])) (ho : hp b = ownO e_t96 [w2, w1, w3]) : CalAt_s hp cb 3 (ownS b 3) [w2, w1, w3] := cal_of _ h ho (by unfold up_s; decide) (by decide) (by decide) (by decide) (by decide)
theorem c4 {hp : Hp} {cb b : Nat} (h : hp cb = some (.cells true 0 [.bool true, .int .i64 3, ownS b 2])) (ho : hp b = ownO e_t96 [w1, w3]) : CalAt_s hp cb 3 (ownS b 2) [w1, w3] := cal_of _ h ho (by unfold up_s; decide) (by decide) (by decide) (by decide) (by decide)
theorem c5 {hp : Hp} {cb b : Nat} (h : hp cb = some (.cells true 0 [.bool true, .int .i64 3, ownS b 0])) (ho : hp b = ownO e_t96 []) : CalAt_s hp cb 3 (ownS b 0) [] := cal_of _ h ho (by unfold up_s; decide) (by decide) (by decide) (by decide) (by decide)
section
variable {h' : Hp} {c b : Nat} {a : Int} {s : List UInt8}
theorem pp0 (h : h' c = some (.cells true 0 [.bool true, .int .i64 0, .slice none 0 0])) : PutPre_s h' c (.int .u64 a) (.string ⟨⟨s⟩⟩) = True := eq_true ⟨_, _, _, c0 h, by decide, by decide, rfl, rfl⟩
theorem pp1 (h : h' c = some (.cells true 0 [.bool true, .int .i64 1, ownS b 1])) (h2 : h' b = ownO e_t96 [w1]) : PutPre_s h' c (.int .u64 a) (.string ⟨⟨s⟩⟩) = True := eq_true ⟨_, _, _, c1 h h2, by decide, by decide, rfl, rfl⟩
theorem pp2 (h : h' c = some (.cells true 0 [.bool true, .int .i64 2, ownS b 2])) (h2 : h' b = ownO e_t96 [w2, w1]) : PutPre_s h' c (.int .u64 a) (.string ⟨⟨s⟩⟩) = True := eq_true ⟨_, _, _, c2 h h2, by decide, by decide, rfl, rfl⟩
theorem lp3 (h : h' c = some (.cells true 0 [.bool true, .int .i64 3, ownS b 3])) (h2 : h' b = ownO e_t96 [w2, w1, w3]) : LenPre_s h' c = True := eq_true ⟨_, _, _, c3 h h2⟩
theorem lp5 (h : h' c = some (.cells true 0 [.bool true, .int .i64 3, ownS b 0])) (h2 : h' b = ownO e_t96 []) : LenPre_s h' c = True := eq_true ⟨_, _, _, c5 h h2⟩
theorem tp3 (h : h' c = some (.cells true 0 [.bool true, .int .i64 3, ownS b 3])) (h2 : h' b = ownO e_t96 [w2, w1, w3]) : TakePre_s h' c (.int .u64 a) = True := eq_true ⟨⟨_, _, _, c3 h h2⟩, rfl⟩
theorem tp4 (h : h' c = some (.cells true 0 [.bool true, .int .i64 3, ownS b 2])) (h2 : h' b = ownO e_t96 [w1, w3]) : TakePre_s h' c (.int .u64 a) = True := eq_true ⟨⟨_, _, _, c4 h h2⟩, rfl⟩
end

theorem works_ok : ConOk Try.prog 17 conWorks := by
  refine .mkRd fn17_ok (fun args hp h => rfl) ?_
  intro args hp hpre top hcl hsc
  subst hpre
  refine CalledOk.of_fun tt_ok fn17_ok rfl 54 rfl [.tmp 0] rfl (show 0 ≤ 54 by decide) ?_
  refine CW.vc env7 [0, 1, 2, 3, 21] (by kernel_rfl) ?_
  (simp only [go_sem, reduceIte, reduceCtorEq, Nat.reduceAdd, Nat.reduceMul, Nat.reduceSub, Nat.reduceLT, Nat.reduceLeDiff, Nat.reduceEqDiff, Int.reduceEq, Int.reduceLT, Int.reduceLE, Int.reduceNe, G7_take, G7_put, G7_new, G7_len, G7_next, G7_same, conNew_s, conPut_s, conLen_s, conNext_s, conTake_s, conEq, calLast, calL, cellsOf_some, intOf_int, List.getElem?_cons_succ, List.getElem?_cons_zero, Option.getD_some, putRes_s, takeRes_s, dropU_own, dropU_nil, put0, put1, put2, th1, th2, th3, kf1, kf2, ou1, ou2, cv1, cu1, cv2, cu2, rd0, rd1, rd2, rd3, rd4, rd5, pp0, pp1 (b := top + 1), pp2 (b := top + 2), lp3 (b := top + 3), lp5 (b := top + 3), tp3 (b := top + 3), tp4 (b := top + 3), List.length_nil, List.length_cons, List.nil_append, List.cons_append, ia1, ia2, ia3, sp1, sp2, sr1, sr2, i3, w2a]; repeat (refine Vc.mk' ?_; simp only [go_sem, reduceIte, reduceCtorEq, Nat.reduceAdd, Nat.reduceMul, Nat.reduceSub, Nat.reduceLT, Nat.reduceLeDiff, Nat.reduceEqDiff, Int.reduceEq, Int.reduceLT, Int.reduceLE, Int.reduceNe, G7_take, G7_put, G7_new, G7_len, G7_next, G7_same, conNew_s, conPut_s, conLen_s, conNext_s, conTake_s, conEq, calLast, calL, cellsOf_some, intOf_int, List.getElem?_cons_succ, List.getElem?_cons_zero, Option.getD_some, putRes_s, takeRes_s, dropU_own, dropU_nil, put0, put1, put2, th1, th2, th3, kf1, kf2, ou1, ou2, cv1, cu1, cv2, cu2, rd0, rd1, rd2, rd3, rd4, rd5, pp0, pp1 (b := top + 1), pp2 (b := top + 2), lp3 (b := top + 3), lp5 (b := top + 3), tp3 (b := top + 3), tp4 (b := top + 3), List.length_nil, List.length_cons, List.nil_append, List.cons_append, ia1, ia2, ia3, sp1, sp2, sr1, sr2, i3, w2a]))
  rfl
end Go.Proofs.Ytogndgadipdikaa.Dm
