/- The graph package: what may be. -/
import Derived.Test.YtaenmabpekbjoaaDmK
set_option linter.unusedSimpArgs false
set_option linter.unusedVariables false
namespace Go.Proofs.Ytaenmabpekbjoaa.Dm
open Go.Dm
set_option maxHeartbeats 4000000

theorem bool_eq {a b : Bool} (h : a = true ↔ b = true) : Value.bool a = Value.bool b := by rw [Bool.eq_iff_iff.2 h]
theorem bool_eq' {a b : Bool} (h : a = true ↔ b = true) : a = b := Bool.eq_iff_iff.2 h
theorem drop_at {α : Type} [Inhabited α] {l : List α} {k : Nat} (h : k < l.length) : l.drop k = at' l k :: l.drop (k + 1) := by rw [at'_get _ _ h]; exact List.drop_eq_getElem_cons h
theorem take_at {α : Type} [Inhabited α] {l : List α} {k : Nat} (h : k < l.length) : l.take (k + 1) = l.take k ++ [at' l k] := by rw [at'_get _ _ h]; exact List.take_succ_eq_append_getElem h
theorem at_mem {α : Type} [Inhabited α] {l : List α} {k : Nat} (h : k < l.length) : at' l k ∈ l := by rw [at'_get _ _ h]; exact List.getElem_mem h
theorem at_map {α β : Type} [Inhabited α] [Inhabited β] {f : α → β} {l : List α} {k : Nat} (h : k < l.length) : at' (l.map f) k = f (at' l k) := by
  rw [at'_get _ _ h, at'_get _ _ (by simpa using h), List.getElem_map]

def G0 : FuncId → Con := fun _ => .none
theorem env0 : EnvV Try.prog tt.get G0 := ⟨tt_ok, fun _ => trivial⟩
def routerB (a : Int) : Bool := decide (1 ≤ a) && decide (a ≤ 24)
def costB (a : Int) : Bool := decide (1 ≤ a) && decide (a ≤ 1000)
def con1 (f : Int → Bool) : Con := .pure (fun args _ => match args with | [x] => IsI .i64 x | _ => False) (fun args _ => match args with | [x] => .bool (f (intOf x)) | _ => undef)

theorem router_ok : ConOk Try.prog 38 (con1 routerB) := by
  refine .mkPure fn38_ok ?_
  intro args hp hpre top
  match args, hpre with
  | [x], hx =>
  rw [hx]
  refine CalledOk.of_fun tt_ok fn38_ok rfl 9 rfl [.tmp 2] rfl (show 1 ≤ 9 by decide) ?_
  refine CW.vc env0 [0, 2] (by kernel_rfl) ?_
  (simp only [go_sem, reduceIte, reduceCtorEq, Nat.reduceAdd, Nat.reduceMul, Nat.reduceSub, Nat.reduceLT, Nat.reduceLeDiff, Nat.reduceEqDiff, Int.reduceEq, Int.reduceLT, Int.reduceLE, Int.reduceNe]; repeat (refine Vc.mk' ?_; simp only [go_sem, reduceIte, reduceCtorEq, Nat.reduceAdd, Nat.reduceMul, Nat.reduceSub, Nat.reduceLT, Nat.reduceLeDiff, Nat.reduceEqDiff, Int.reduceEq, Int.reduceLT, Int.reduceLE, Int.reduceNe]))
  refine bool_eq ?_
  simp [routerB]; try omega

theorem cost_ok : ConOk Try.prog 39 (con1 costB) := by
  refine .mkPure fn39_ok ?_
  intro args hp hpre top
  match args, hpre with
  | [x], hx =>
  rw [hx]
  refine CalledOk.of_fun tt_ok fn39_ok rfl 9 rfl [.tmp 2] rfl (show 1 ≤ 9 by decide) ?_
  refine CW.vc env0 [0, 2] (by kernel_rfl) ?_
  (simp only [go_sem, reduceIte, reduceCtorEq, Nat.reduceAdd, Nat.reduceMul, Nat.reduceSub, Nat.reduceLT, Nat.reduceLeDiff, Nat.reduceEqDiff, Int.reduceEq, Int.reduceLT, Int.reduceLE, Int.reduceNe]; repeat (refine Vc.mk' ?_; simp only [go_sem, reduceIte, reduceCtorEq, Nat.reduceAdd, Nat.reduceMul, Nat.reduceSub, Nat.reduceLT, Nat.reduceLeDiff, Nat.reduceEqDiff, Int.reduceEq, Int.reduceLT, Int.reduceLE, Int.reduceNe]))
  refine bool_eq ?_
  simp [costB]; try omega

theorem rrouter_ok : ConOk Try.prog 40 (con1 routerB) := by
  refine .mkPure fn40_ok ?_
  intro args hp hpre top
  match args, hpre with
  | [x], hx =>
  rw [hx]
  refine CalledOk.of_fun tt_ok fn40_ok rfl 9 rfl [.tmp 2] rfl (show 1 ≤ 9 by decide) ?_
  refine CW.vc env0 [0, 2] (by kernel_rfl) ?_
  (simp only [go_sem, reduceIte, reduceCtorEq, Nat.reduceAdd, Nat.reduceMul, Nat.reduceSub, Nat.reduceLT, Nat.reduceLeDiff, Nat.reduceEqDiff, Int.reduceEq, Int.reduceLT, Int.reduceLE, Int.reduceNe]; repeat (refine Vc.mk' ?_; simp only [go_sem, reduceIte, reduceCtorEq, Nat.reduceAdd, Nat.reduceMul, Nat.reduceSub, Nat.reduceLT, Nat.reduceLeDiff, Nat.reduceEqDiff, Int.reduceEq, Int.reduceLT, Int.reduceLE, Int.reduceNe]))
  refine bool_eq ?_
  simp [routerB]; try omega
def G1 := addG (addG (addG G0 38 (con1 routerB)) 39 (con1 costB)) 40 (con1 routerB)
theorem env1 : EnvV Try.prog tt.get G1 := ((env0.add router_ok).add cost_ok).add rrouter_ok
theorem G1_router : G1 38 = con1 routerB := rfl
theorem G1_cost : G1 39 = con1 costB := rfl
theorem G1_rrouter : G1 40 = con1 routerB := rfl

/-! ### records -/
structure RecD where
  Origin : Int
  Epoch : Int
  Seq : Int
  Claim : Int
  Ingress : Bool
  Adjs : List T_Adj
instance : Inhabited RecD := ⟨⟨0, 0, 0, 0, false, []⟩⟩
def recD (hp : Hp) (r : T_Record) : RecD := ⟨r.Origin, r.Epoch, r.Seq, r.Claim, r.Ingress, e_Adj.rd hp r.Adjs.v⟩
theorem strip_recD {n : Nat} {r : T_Record} {hp : Hp} {i : Nat} {o : Option AObj} (hs : Sc n r.Adjs.v) (hi : n ≤ i) : recD (hp.set i o) r = recD hp r := by
  unfold recD; rw [strip_rd hs hi]
def adjsOk (o : Int) : Int → List T_Adj → Bool
  | _, [] => true
  | last, a :: l => routerB a.To && !decide (a.To = o) && costB a.Cost && decide (last < a.To) && adjsOk o a.To l
def headOk (d : RecD) : Bool := routerB d.Origin && !decide (d.Epoch = 0) && !decide (d.Seq = 0) && decide (0 ≤ d.Claim) && decide (d.Claim ≤ 1024) && decide (d.Adjs.length ≤ 16)
def mayR (d : RecD) : Bool := headOk d && adjsOk d.Origin 0 d.Adjs
def conMay : Con := .pure (fun args hp => match args with | [.agg ⟨cs⟩] => e_Record.enc (e_Record.dec cs) = cs ∧ SlP e_Adj hp (e_Record.dec cs).Adjs.v | _ => False)
  (fun args hp => match args with | [.agg ⟨cs⟩] => .bool (mayR (recD hp (e_Record.dec cs))) | _ => undef)
def lastOf (l : List T_Adj) (k : Nat) : Int := if k = 0 then 0 else (at' l (k - 1)).To
theorem lastOf_succ (l : List T_Adj) (k : Nat) : lastOf l (k + 1) = (at' l k).To := rfl
def stMay (hp : Hp) (top : Nat) (r : T_Record) (aj : List T_Adj) (k : Nat) : SS :=
  ⟨[(1, .pointer (some ⟨top, 0, none⟩), true), (3, .int .i64 (lastOf aj k), true), (37, r.Adjs.v, true), (38, .int .i64 (aj.length : Int), true), (39, .int .i64 (k : Int), true)],
    hp.sets [(top, some (.cells true 0 (e_Record.enc r)))], top + 1⟩

theorem may_ok : ConOk Try.prog 31 conMay := by
  refine .mkRd fn31_ok ?_ ?_
  · intro args hp h
    match args, h with
    | [.agg ⟨l⟩], _ => rfl
  intro args hp hpre top hcl hsc
  match args, hpre with
  | [.agg ⟨cs⟩], ⟨hc, hP⟩ =>
  obtain ⟨r, rfl⟩ : ∃ r, cs = e_Record.enc r := ⟨_, hc.symm⟩
  rw [e_Record.h] at hP
  obtain ⟨aj, hA⟩ := hP
  have hAs := hA.low hcl
  have hrd : recD hp r = ⟨r.Origin, r.Epoch, r.Seq, r.Claim, r.Ingress, aj⟩ := by unfold recD; rw [hA.rd]
  simp only [e_Record.h, hrd]
  refine CalledOk.of_fun tt_ok fn31_ok rfl 69 rfl [.tmp 2] rfl (show 1 ≤ 69 by decide) ?_
  cases hh : headOk ⟨r.Origin, r.Epoch, r.Seq, r.Claim, r.Ingress, aj⟩ with
  | false =>
    refine CW.vc env1 [0, 1, 2, 3, 5, 35, 37, 38, 39, 40, 65] (by kernel_rfl) ?_
    (simp only [go_sem, reduceIte, reduceCtorEq, Nat.reduceAdd, Nat.reduceMul, Nat.reduceSub, Nat.reduceLT, Nat.reduceLeDiff, Nat.reduceEqDiff, Int.reduceEq, Int.reduceLT, Int.reduceLE, Int.reduceNe, len_sAdj hA, idx_sAdj hA, ld_sAdj hA, sh_sAdj hA, sw_sAdj hA, sf_sAdj_0 hA, sc_sAdj_0 hA, sf_sAdj_1 hA, sc_sAdj_1 hA, hA.P, hA.oc, hA.cl, hA.rd, hA.ref, strip_P hAs, strip_rd hAs, strip_ld hAs, strip_sl hA hAs k_sAdj, G1_router, G1_cost, con1, refOf_v]; repeat (refine Vc.mk' ?_; simp only [go_sem, reduceIte, reduceCtorEq, Nat.reduceAdd, Nat.reduceMul, Nat.reduceSub, Nat.reduceLT, Nat.reduceLeDiff, Nat.reduceEqDiff, Int.reduceEq, Int.reduceLT, Int.reduceLE, Int.reduceNe, len_sAdj hA, idx_sAdj hA, ld_sAdj hA, sh_sAdj hA, sw_sAdj hA, sf_sAdj_0 hA, sc_sAdj_0 hA, sf_sAdj_1 hA, sc_sAdj_1 hA, hA.P, hA.oc, hA.cl, hA.rd, hA.ref, strip_P hAs, strip_rd hAs, strip_ld hAs, strip_sl hA hAs k_sAdj, G1_router, G1_cost, con1, refOf_v]))
    refine condP.mk (fun c => ?_) (fun c => ?_)
    · (simp only [go_sem, reduceIte, reduceCtorEq, Nat.reduceAdd, Nat.reduceMul, Nat.reduceSub, Nat.reduceLT, Nat.reduceLeDiff, Nat.reduceEqDiff, Int.reduceEq, Int.reduceLT, Int.reduceLE, Int.reduceNe, len_sAdj hA, idx_sAdj hA, ld_sAdj hA, sh_sAdj hA, sw_sAdj hA, sf_sAdj_0 hA, sc_sAdj_0 hA, sf_sAdj_1 hA, sc_sAdj_1 hA, hA.P, hA.oc, hA.cl, hA.rd, hA.ref, strip_P hAs, strip_rd hAs, strip_ld hAs, strip_sl hA hAs k_sAdj, G1_router, G1_cost, con1, refOf_v]; repeat (refine Vc.mk' ?_; simp only [go_sem, reduceIte, reduceCtorEq, Nat.reduceAdd, Nat.reduceMul, Nat.reduceSub, Nat.reduceLT, Nat.reduceLeDiff, Nat.reduceEqDiff, Int.reduceEq, Int.reduceLT, Int.reduceLE, Int.reduceNe, len_sAdj hA, idx_sAdj hA, ld_sAdj hA, sh_sAdj hA, sw_sAdj hA, sf_sAdj_0 hA, sc_sAdj_0 hA, sf_sAdj_1 hA, sc_sAdj_1 hA, hA.P, hA.oc, hA.cl, hA.rd, hA.ref, strip_P hAs, strip_rd hAs, strip_ld hAs, strip_sl hA hAs k_sAdj, G1_router, G1_cost, con1, refOf_v]))
      simp [mayR, hh]
    · exfalso
      grind [headOk]
  | true =>
    refine CW.vc env1 [0, 1, 2, 3, 5, 35, 37, 38, 39, 40, 65] (by kernel_rfl) ?_
    (simp only [go_sem, reduceIte, reduceCtorEq, Nat.reduceAdd, Nat.reduceMul, Nat.reduceSub, Nat.reduceLT, Nat.reduceLeDiff, Nat.reduceEqDiff, Int.reduceEq, Int.reduceLT, Int.reduceLE, Int.reduceNe, len_sAdj hA, idx_sAdj hA, ld_sAdj hA, sh_sAdj hA, sw_sAdj hA, sf_sAdj_0 hA, sc_sAdj_0 hA, sf_sAdj_1 hA, sc_sAdj_1 hA, hA.P, hA.oc, hA.cl, hA.rd, hA.ref, strip_P hAs, strip_rd hAs, strip_ld hAs, strip_sl hA hAs k_sAdj, G1_router, G1_cost, con1, refOf_v]; repeat (refine Vc.mk' ?_; simp only [go_sem, reduceIte, reduceCtorEq, Nat.reduceAdd, Nat.reduceMul, Nat.reduceSub, Nat.reduceLT, Nat.reduceLeDiff, Nat.reduceEqDiff, Int.reduceEq, Int.reduceLT, Int.reduceLE, Int.reduceNe, len_sAdj hA, idx_sAdj hA, ld_sAdj hA, sh_sAdj hA, sw_sAdj hA, sf_sAdj_0 hA, sc_sAdj_0 hA, sf_sAdj_1 hA, sc_sAdj_1 hA, hA.P, hA.oc, hA.cl, hA.rd, hA.ref, strip_P hAs, strip_rd hAs, strip_ld hAs, strip_sl hA hAs k_sAdj, G1_router, G1_cost, con1, refOf_v]))
    refine condP.mk (fun c => ?_) (fun c => ?_)
    · exfalso
      grind [headOk]
    · (simp only [go_sem, reduceIte, reduceCtorEq, Nat.reduceAdd, Nat.reduceMul, Nat.reduceSub, Nat.reduceLT, Nat.reduceLeDiff, Nat.reduceEqDiff, Int.reduceEq, Int.reduceLT, Int.reduceLE, Int.reduceNe, len_sAdj hA, idx_sAdj hA, ld_sAdj hA, sh_sAdj hA, sw_sAdj hA, sf_sAdj_0 hA, sc_sAdj_0 hA, sf_sAdj_1 hA, sc_sAdj_1 hA, hA.P, hA.oc, hA.cl, hA.rd, hA.ref, strip_P hAs, strip_rd hAs, strip_ld hAs, strip_sl hA hAs k_sAdj, G1_router, G1_cost, con1, refOf_v]; repeat (refine Vc.mk' ?_; simp only [go_sem, reduceIte, reduceCtorEq, Nat.reduceAdd, Nat.reduceMul, Nat.reduceSub, Nat.reduceLT, Nat.reduceLeDiff, Nat.reduceEqDiff, Int.reduceEq, Int.reduceLT, Int.reduceLE, Int.reduceNe, len_sAdj hA, idx_sAdj hA, ld_sAdj hA, sh_sAdj hA, sw_sAdj hA, sf_sAdj_0 hA, sc_sAdj_0 hA, sf_sAdj_1 hA, sc_sAdj_1 hA, hA.P, hA.oc, hA.cl, hA.rd, hA.ref, strip_P hAs, strip_rd hAs, strip_ld hAs, strip_sl hA hAs k_sAdj, G1_router, G1_cost, con1, refOf_v]))
      have hmay : mayR ⟨r.Origin, r.Epoch, r.Seq, r.Claim, r.Ingress, aj⟩ = adjsOk r.Origin 0 aj := by simp [mayR, hh]
      rw [hmay]
      refine CW.loopR (stMay hp top r aj) (fun k => k ≤ aj.length ∧ adjsOk r.Origin 0 aj = adjsOk r.Origin (lastOf aj k) (aj.drop k)) (fun k => aj.length - k) 0 ⟨Nat.zero_le _, rfl⟩ ?_ ?_
      · exact SubR.mk' [top] hcl (by simp) (by simp) rfl (frSub_ok (by simp [frSub, lkG, ren, renL, renL_set, renL_ints, UpdOk.nil, UpdOk.cons, renOO_some, renO_cells, renO_map, renOO_mkOb, rn_base, rn_add, ren_mkSl, Enc.flat_ren, set_same, set_ne, sets_cons, sets_nil, Keep.set, Keep.setK, Keep.refl, ren_ref, SRef.ra_id (fun j hj => rn_low hj) hAs, en_Record, lastOf])) (by simp [frSub, lkG, ren, renL, renL_set, renL_ints, UpdOk.nil, UpdOk.cons, renOO_some, renO_cells, renO_map, renOO_mkOb, rn_base, rn_add, ren_mkSl, Enc.flat_ren, set_same, set_ne, sets_cons, sets_nil, Keep.set, Keep.setK, Keep.refl, ren_ref, SRef.ra_id (fun j hj => rn_low hj) hAs, en_Record, lastOf]) (by simp [frSub, lkG, ren, renL, renL_set, renL_ints, UpdOk.nil, UpdOk.cons, renOO_some, renO_cells, renO_map, renOO_mkOb, rn_base, rn_add, ren_mkSl, Enc.flat_ren, set_same, set_ne, sets_cons, sets_nil, Keep.set, Keep.setK, Keep.refl, ren_ref, SRef.ra_id (fun j hj => rn_low hj) hAs, en_Record, lastOf])
      · rintro k ⟨hk, hm⟩
        by_cases hlt : k < aj.length
        · rw [drop_at hlt, adjsOk] at hm
          generalize hst : lastOf aj k = last at hm
          refine CW.vc env1 [0, 1, 2, 3, 5, 35, 37, 38, 39, 40, 65] (by kernel_rfl) ?_
          (simp only [go_sem, reduceIte, reduceCtorEq, Nat.reduceAdd, Nat.reduceMul, Nat.reduceSub, Nat.reduceLT, Nat.reduceLeDiff, Nat.reduceEqDiff, Int.reduceEq, Int.reduceLT, Int.reduceLE, Int.reduceNe, len_sAdj hA, idx_sAdj hA, ld_sAdj hA, sh_sAdj hA, sw_sAdj hA, sf_sAdj_0 hA, sc_sAdj_0 hA, sf_sAdj_1 hA, sc_sAdj_1 hA, hA.P, hA.oc, hA.cl, hA.rd, hA.ref, strip_P hAs, strip_rd hAs, strip_ld hAs, strip_sl hA hAs k_sAdj, G1_router, G1_cost, con1, refOf_v, stMay, hlt, hst]; repeat (refine Vc.mk' ?_; simp only [go_sem, reduceIte, reduceCtorEq, Nat.reduceAdd, Nat.reduceMul, Nat.reduceSub, Nat.reduceLT, Nat.reduceLeDiff, Nat.reduceEqDiff, Int.reduceEq, Int.reduceLT, Int.reduceLE, Int.reduceNe, len_sAdj hA, idx_sAdj hA, ld_sAdj hA, sh_sAdj hA, sw_sAdj hA, sf_sAdj_0 hA, sc_sAdj_0 hA, sf_sAdj_1 hA, sc_sAdj_1 hA, hA.P, hA.oc, hA.cl, hA.rd, hA.ref, strip_P hAs, strip_rd hAs, strip_ld hAs, strip_sl hA hAs k_sAdj, G1_router, G1_cost, con1, refOf_v, stMay, hlt, hst]))
          refine condP.mk (fun c => ?_) (fun c => ?_)
          · (simp only [go_sem, reduceIte, reduceCtorEq, Nat.reduceAdd, Nat.reduceMul, Nat.reduceSub, Nat.reduceLT, Nat.reduceLeDiff, Nat.reduceEqDiff, Int.reduceEq, Int.reduceLT, Int.reduceLE, Int.reduceNe, len_sAdj hA, idx_sAdj hA, ld_sAdj hA, sh_sAdj hA, sw_sAdj hA, sf_sAdj_0 hA, sc_sAdj_0 hA, sf_sAdj_1 hA, sc_sAdj_1 hA, hA.P, hA.oc, hA.cl, hA.rd, hA.ref, strip_P hAs, strip_rd hAs, strip_ld hAs, strip_sl hA hAs k_sAdj, G1_router, G1_cost, con1, refOf_v]; repeat (refine Vc.mk' ?_; simp only [go_sem, reduceIte, reduceCtorEq, Nat.reduceAdd, Nat.reduceMul, Nat.reduceSub, Nat.reduceLT, Nat.reduceLeDiff, Nat.reduceEqDiff, Int.reduceEq, Int.reduceLT, Int.reduceLE, Int.reduceNe, len_sAdj hA, idx_sAdj hA, ld_sAdj hA, sh_sAdj hA, sw_sAdj hA, sf_sAdj_0 hA, sc_sAdj_0 hA, sf_sAdj_1 hA, sc_sAdj_1 hA, hA.P, hA.oc, hA.cl, hA.rd, hA.ref, strip_P hAs, strip_rd hAs, strip_ld hAs, strip_sl hA hAs k_sAdj, G1_router, G1_cost, con1, refOf_v]))
            have hz : adjsOk r.Origin 0 aj = false := by rw [hm]; grind
            simp [hz]
          · (simp only [go_sem, reduceIte, reduceCtorEq, Nat.reduceAdd, Nat.reduceMul, Nat.reduceSub, Nat.reduceLT, Nat.reduceLeDiff, Nat.reduceEqDiff, Int.reduceEq, Int.reduceLT, Int.reduceLE, Int.reduceNe, len_sAdj hA, idx_sAdj hA, ld_sAdj hA, sh_sAdj hA, sw_sAdj hA, sf_sAdj_0 hA, sc_sAdj_0 hA, sf_sAdj_1 hA, sc_sAdj_1 hA, hA.P, hA.oc, hA.cl, hA.rd, hA.ref, strip_P hAs, strip_rd hAs, strip_ld hAs, strip_sl hA hAs k_sAdj, G1_router, G1_cost, con1, refOf_v]; repeat (refine Vc.mk' ?_; simp only [go_sem, reduceIte, reduceCtorEq, Nat.reduceAdd, Nat.reduceMul, Nat.reduceSub, Nat.reduceLT, Nat.reduceLeDiff, Nat.reduceEqDiff, Int.reduceEq, Int.reduceLT, Int.reduceLE, Int.reduceNe, len_sAdj hA, idx_sAdj hA, ld_sAdj hA, sh_sAdj hA, sw_sAdj hA, sf_sAdj_0 hA, sc_sAdj_0 hA, sf_sAdj_1 hA, sc_sAdj_1 hA, hA.P, hA.oc, hA.cl, hA.rd, hA.ref, strip_P hAs, strip_rd hAs, strip_ld hAs, strip_sl hA hAs k_sAdj, G1_router, G1_cost, con1, refOf_v]))
            refine .mk (k + 1) ⟨hlt, ?_⟩ (by omega) (SubR.mk' [top] hcl (by simp) (by simp) rfl (frSub_ok (by simp [frSub, lkG, ren, renL, renL_set, renL_ints, UpdOk.nil, UpdOk.cons, renOO_some, renO_cells, renO_map, renOO_mkOb, rn_base, rn_add, ren_mkSl, Enc.flat_ren, set_same, set_ne, sets_cons, sets_nil, Keep.set, Keep.setK, Keep.refl, ren_ref, SRef.ra_id (fun j hj => rn_low hj) hAs, en_Record, wrap_succ hlt hA.le, lastOf_succ])) (by simp [frSub, lkG, ren, renL, renL_set, renL_ints, UpdOk.nil, UpdOk.cons, renOO_some, renO_cells, renO_map, renOO_mkOb, rn_base, rn_add, ren_mkSl, Enc.flat_ren, set_same, set_ne, sets_cons, sets_nil, Keep.set, Keep.setK, Keep.refl, ren_ref, SRef.ra_id (fun j hj => rn_low hj) hAs, en_Record, wrap_succ hlt hA.le, lastOf_succ]) (by simp [frSub, lkG, ren, renL, renL_set, renL_ints, UpdOk.nil, UpdOk.cons, renOO_some, renO_cells, renO_map, renOO_mkOb, rn_base, rn_add, ren_mkSl, Enc.flat_ren, set_same, set_ne, sets_cons, sets_nil, Keep.set, Keep.setK, Keep.refl, ren_ref, SRef.ra_id (fun j hj => rn_low hj) hAs, en_Record, wrap_succ hlt hA.le, lastOf_succ]))
            rw [hm, lastOf_succ]; grind
        · have hk2 : k = aj.length := by omega
          subst hk2
          refine CW.vc env1 [0, 1, 2, 3, 5, 35, 37, 38, 39, 40, 65] (by kernel_rfl) ?_
          (simp only [go_sem, reduceIte, reduceCtorEq, Nat.reduceAdd, Nat.reduceMul, Nat.reduceSub, Nat.reduceLT, Nat.reduceLeDiff, Nat.reduceEqDiff, Int.reduceEq, Int.reduceLT, Int.reduceLE, Int.reduceNe, len_sAdj hA, idx_sAdj hA, ld_sAdj hA, sh_sAdj hA, sw_sAdj hA, sf_sAdj_0 hA, sc_sAdj_0 hA, sf_sAdj_1 hA, sc_sAdj_1 hA, hA.P, hA.oc, hA.cl, hA.rd, hA.ref, strip_P hAs, strip_rd hAs, strip_ld hAs, strip_sl hA hAs k_sAdj, G1_router, G1_cost, con1, refOf_v, stMay, Nat.lt_irrefl, decide_false]; repeat (refine Vc.mk' ?_; simp only [go_sem, reduceIte, reduceCtorEq, Nat.reduceAdd, Nat.reduceMul, Nat.reduceSub, Nat.reduceLT, Nat.reduceLeDiff, Nat.reduceEqDiff, Int.reduceEq, Int.reduceLT, Int.reduceLE, Int.reduceNe, len_sAdj hA, idx_sAdj hA, ld_sAdj hA, sh_sAdj hA, sw_sAdj hA, sf_sAdj_0 hA, sc_sAdj_0 hA, sf_sAdj_1 hA, sc_sAdj_1 hA, hA.P, hA.oc, hA.cl, hA.rd, hA.ref, strip_P hAs, strip_rd hAs, strip_ld hAs, strip_sl hA hAs k_sAdj, G1_router, G1_cost, con1, refOf_v, stMay, Nat.lt_irrefl, decide_false]))
          rw [List.drop_length] at hm
          simp [hm, adjsOk]
end Go.Proofs.Ytaenmabpekbjoaa.Dm
