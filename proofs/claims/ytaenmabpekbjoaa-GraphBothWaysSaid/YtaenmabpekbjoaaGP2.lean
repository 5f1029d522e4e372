/- Who can be come to: the walk that goes on from each one that is new. -/
import Derived.Test.YtaenmabpekbjoaaGC3
import Derived.Test.YtaenmabpekbjoaaGPL
set_option linter.unusedSimpArgs false
set_option linter.unusedVariables false
namespace Go.Proofs.Ytaenmabpekbjoaa.Dm
open Go.Dm
set_option maxHeartbeats 8000000
set_option maxRecDepth 20000

def boolsAt (hp : Hp) (m : Nat) : List Bool := match hp m with | some (.cells _ _ vs) => vs.map boolOf | _ => []
def edgesAt (hp : Hp) (g : Nat) : List T_Edge := match hp g with | some (.cells _ _ [_, b]) => e_Edge.rd hp b | _ => []
theorem boolsAt_eq {hp : Hp} {m : Nat} {rw : Bool} {z : Nat} {l : List Bool} (h : hp m = some (.cells rw z (l.map Value.bool))) : boolsAt hp m = l := by
  unfold boolsAt; rw [h]; simp [List.map_map, Function.comp_def, boolOf]
theorem edgesAt_eq {hp : Hp} {g : Nat} {rw : Bool} {z : Nat} {a b : Value} {E : List T_Edge} (h : hp g = some (.cells rw z [a, b])) (hb : e_Edge.rd hp b = E) : edgesAt hp g = E := by
  unfold edgesAt; rw [h]; exact hb
def goV (m g c : Nat) : Value := .func (.func 37) ⟨[]⟩ ⟨[.pointer (some ⟨m, 0, none⟩), .pointer (some ⟨g, 0, none⟩), .pointer (some ⟨c, 0, none⟩)]⟩
structure PreD (f : Nat) (hp : Hp) (n : Value) (m g c : Nat) (k : Nat) (M : List Bool) (E : List T_Edge) (a b : Value) : Prop where
  hn : n = .int .i64 (k : Int)
  hk : k < 25
  hm : hp m = some (.cells true 0 (M.map Value.bool))
  ml : M.length = 25
  hg : hp g = some (.cells true 0 [a, b])
  hb : SlP e_Edge hp b
  he : e_Edge.rd hp b = E
  hc : hp c = some (.cells true 0 [goV m g c])
  sc : Sc m b
  gm : g < m
  mc : m < c
  inR : InR E
  new : iS M k = false
  few : cF M ≤ f
def PreX (f : Nat) (hp : Hp) (n : Value) (m g c : Nat) : Prop := ∃ k M E a b, PreD f hp n m g c k M E a b
def conD (f : Nat) : Con := .det (fun args hp _ => match args with
    | [n, .pointer (some ⟨m, 0, none⟩), .pointer (some ⟨g, 0, none⟩), .pointer (some ⟨c, 0, none⟩)] => PreX f hp n m g c
    | _ => False) (fun args hp top => match args with
  | [n, .pointer (some ⟨m, _, _⟩), .pointer (some ⟨g, _, _⟩), _] => (.tuple ⟨[]⟩, [(m, some (.cells true 0 ((dfs (edgesAt hp g) f (boolsAt hp m) (intOf n).toNat).map Value.bool)))], top)
  | _ => (undef, [], top))
def mI (E : List T_Edge) (f k : Nat) (M : List Bool) (i : Nat) : List Bool := (E.take i).foldl (stepD (dfs E f) k) (M.set k true)
theorem mI_zero {E : List T_Edge} {f k : Nat} {M : List Bool} : mI E f k M 0 = M.set k true := by simp [mI]
theorem mI_succ {E : List T_Edge} {i : Nat} (h : i < E.length) (f k : Nat) (M : List Bool) : mI E f k M (i + 1) = stepD (dfs E f) k (mI E f k M i) (at' E i) := by
  unfold mI; rw [take_at h, List.foldl_append]; rfl
theorem mI_len (E : List T_Edge) (f k : Nat) (M : List Bool) (i : Nat) : (mI E f k M i).length = M.length := by
  unfold mI; rw [foldD_len, List.length_set]
theorem mI_all (E : List T_Edge) (f k : Nat) (M : List Bool) : mI E f k M E.length = dfs E (f + 1) M k := by
  unfold mI; rw [List.take_length]; rfl
theorem mI_cF {E : List T_Edge} {f k : Nat} {M : List Bool} (hl : M.length = 25) (hk : k < 25) (h : iS M k = false) (hc : cF M ≤ f + 1) (i : Nat) : cF (mI E f k M i) ≤ f := by
  refine Nat.le_trans (cF_le (by rw [mI_len, List.length_set]) (foldD_le E (E.take i) f k _)) (cF_set (by omega) h hc)
def stGo (hp : Hp) (top : Nat) (b : Value) (m c k f : Nat) (M : List Bool) (E : List T_Edge) (i : Nat) : SS :=
  ⟨[(0, .int .i64 (k : Int), true), (1, .pointer (some ⟨m, 0, none⟩), true), (3, .pointer (some ⟨c, 0, none⟩), true), (10, b, true), (11, .int .i64 (E.length : Int), true), (12, .int .i64 (i : Int), true)],
    hp.sets [(m, some (.cells true 0 ((mI E f k M i).map Value.bool)))], top + 0⟩
def GD (f : Nat) : FuncId → Con := addG G19 37 (conD f)
theorem GD_go (f : Nat) : GD f 37 = conD f := rfl

theorem go_ok : ∀ f : Nat, ConOk Try.prog 37 (conD f) := by
  intro f
  induction f with
  | zero =>
    refine .mkDet fn37_ok ?_
    intro args hp top hpre hcl hsc
    match args, hpre with
    | [n, .pointer (some ⟨m, 0, none⟩), .pointer (some ⟨g, 0, none⟩), .pointer (some ⟨c, 0, none⟩)], ⟨k, M, E, a, b, h⟩ =>
    exact absurd h.few (by
      have : cF (M.set k true) < cF M := cF_lt (by simp) (LeM.set M k) (k := k) h.new (by rw [iS_set]; simp [h.ml, h.hk])
      omega)
  | succ f ih =>
  have envD : EnvV Try.prog tt.get (GD f) := env19.add ih
  refine .mkDet fn37_ok ?_
  intro args hp top hpre hcl hsc
  match args, hpre with
  | [_, .pointer (some ⟨m, 0, none⟩), .pointer (some ⟨g, 0, none⟩), .pointer (some ⟨c, 0, none⟩)], ⟨k, M, E, a, b, ⟨rfl, hk, hm, hml, hg, hbP, hbE, hc, hbm, hgm, hmc, hR, hnew, hfew⟩⟩ =>
  have hb : SlT e_Edge hp b E := by obtain ⟨E', h'⟩ := hbP; rw [h'.rd] at hbE; rwa [hbE] at h'
  have hct : c < top := hcl.lt _ _ hc
  have hmt : m < top := by omega
  have hgt : g < top := by omega
  have bs : Sc m b := hbm
  have bs2 := hb.low hcl
  simp only [boolsAt_eq hm, edgesAt_eq hg hbE, intOf_int, Int.toNat_natCast, ← mI_all]
  have q1 : ¬ g = m := by omega
  have q2 : ¬ c = m := by omega
  have q3 : ¬ m = top := by omega
  have q4 : ¬ g = top := by omega
  have q5 : ¬ c = top := by omega
  have q6 : m ≤ top := by omega
  have hk2 : (k : Int) < ((25 : Nat) : Int) := by omega
  refine CalledOk.of_fun tt_ok fn37_ok rfl 32 rfl [] rfl (show 4 ≤ 32 by decide) ?_
  refine CW.vc envD [0, 1, 2, 3, 6, 10, 11, 12, 13, 26] (by kernel_rfl) ?_
  have hk5 : k ≤ 24 := by omega
  unfold goV at hc
  (simp only [go_sem, reduceIte, reduceCtorEq, Nat.reduceAdd, Nat.reduceMul, Nat.reduceSub, Nat.reduceLT, Nat.reduceLeDiff, Nat.reduceEqDiff, Int.reduceEq, Int.reduceLT, Int.reduceLE, Int.reduceNe, len_sEdge hb, idx_sEdge hb, ld_sEdge hb, sh_sEdge hb, sw_sEdge hb, sf_sEdge_0 hb, sc_sEdge_0 hb, sf_sEdge_1 hb, sc_sEdge_1 hb, sf_sEdge_2 hb, sc_sEdge_2 hb, hb.P, hb.oc, hb.cl, hb.rd, hb.ref, strip_P bs, strip_rd bs, strip_ld bs, strip_sl hb bs k_sEdge, GD_go, conD, hm, hg, hc, q1, q2, q3, q4, q5, q6, hk, hk2, hk5, hml, get_bools, splice_bools, Nat.mul_one]; repeat (refine Vc.mk' ?_; simp only [go_sem, reduceIte, reduceCtorEq, Nat.reduceAdd, Nat.reduceMul, Nat.reduceSub, Nat.reduceLT, Nat.reduceLeDiff, Nat.reduceEqDiff, Int.reduceEq, Int.reduceLT, Int.reduceLE, Int.reduceNe, len_sEdge hb, idx_sEdge hb, ld_sEdge hb, sh_sEdge hb, sw_sEdge hb, sf_sEdge_0 hb, sc_sEdge_0 hb, sf_sEdge_1 hb, sc_sEdge_1 hb, sf_sEdge_2 hb, sc_sEdge_2 hb, hb.P, hb.oc, hb.cl, hb.rd, hb.ref, strip_P bs, strip_rd bs, strip_ld bs, strip_sl hb bs k_sEdge, GD_go, conD, hm, hg, hc, q1, q2, q3, q4, q5, q6, hk, hk2, hk5, hml, get_bools, splice_bools, Nat.mul_one]))
  refine CW.loopR (stGo hp top b m c k f M E) (fun i => i ≤ E.length) (fun i => E.length - i) 0 (Nat.zero_le _) ?_ ?_
  · exact SubR.mk' [] hcl (by simp) (by simp) rfl (frSub_ok (by simp [frSub, lkG, ren, renL, renL_set, renL_ints, UpdOk.nil, UpdOk.cons, renOO_some, renO_cells, renO_map, renOO_mkOb, rn_base, rn_add, ren_mkSl, Enc.flat_ren, set_same, set_ne, sets_cons, sets_nil, Keep.set, Keep.setK, Keep.refl, Sc.ren (fun j hj => rn_low hj) bs2, rn_low hmt, rn_low hct, renL_bools, q3, mI_zero])) (by simp [frSub, lkG, ren, renL, renL_set, renL_ints, UpdOk.nil, UpdOk.cons, renOO_some, renO_cells, renO_map, renOO_mkOb, rn_base, rn_add, ren_mkSl, Enc.flat_ren, set_same, set_ne, sets_cons, sets_nil, Keep.set, Keep.setK, Keep.refl, Sc.ren (fun j hj => rn_low hj) bs2, rn_low hmt, rn_low hct, renL_bools, q3, mI_zero]) (by simp [frSub, lkG, ren, renL, renL_set, renL_ints, UpdOk.nil, UpdOk.cons, renOO_some, renO_cells, renO_map, renOO_mkOb, rn_base, rn_add, ren_mkSl, Enc.flat_ren, set_same, set_ne, sets_cons, sets_nil, Keep.set, Keep.setK, Keep.refl, Sc.ren (fun j hj => rn_low hj) bs2, rn_low hmt, rn_low hct, renL_bools, q3, mI_zero])
  · intro i hi
    have hcf := mI_cF hml hk hnew hfew (E := E) i
    have hil := mI_len E f k M i
    rw [hml] at hil
    by_cases hlt : i < E.length
    · have hst := mI_succ hlt f k M
      have hx := hR _ (at_mem hlt)
      by_cases c1 : (at' E i).From = (k : Int)
      · have o0 : 0 ≤ (at' E i).To := hx.2.1
        have o1 : (at' E i).To < ((25 : Nat) : Int) := hx.2.2
        have o2 : (at' E i).To.toNat < 25 := by omega
        have o5 : (at' E i).To.toNat ≤ 24 := by omega
        have o6 : (((at' E i).To.toNat : Nat) : Int) = (at' E i).To := by omega
        cases c2 : iS (mI E f k M i) (at' E i).To.toNat with
        | true =>
          have c2' : ((mI E f k M i)[(at' E i).To.toNat]?).getD false = true := c2
          simp only [stepD, c1, c2, Bool.true_eq_false, and_false, if_false] at hst
          refine CW.vc envD [0, 1, 2, 3, 6, 10, 11, 12, 13, 26] (by kernel_rfl) ?_
          (simp only [go_sem, reduceIte, reduceCtorEq, Nat.reduceAdd, Nat.reduceMul, Nat.reduceSub, Nat.reduceLT, Nat.reduceLeDiff, Nat.reduceEqDiff, Int.reduceEq, Int.reduceLT, Int.reduceLE, Int.reduceNe, len_sEdge hb, idx_sEdge hb, ld_sEdge hb, sh_sEdge hb, sw_sEdge hb, sf_sEdge_0 hb, sc_sEdge_0 hb, sf_sEdge_1 hb, sc_sEdge_1 hb, sf_sEdge_2 hb, sc_sEdge_2 hb, hb.P, hb.oc, hb.cl, hb.rd, hb.ref, strip_P bs, strip_rd bs, strip_ld bs, strip_sl hb bs k_sEdge, GD_go, conD, hm, hg, hc, q1, q2, q3, q4, q5, q6, hk, hk2, hk5, hml, get_bools, splice_bools, Nat.mul_one, hlt, stGo, c1, o0, o1, o2, o5, hil, c2', en_Edge]; repeat (refine Vc.mk' ?_; simp only [go_sem, reduceIte, reduceCtorEq, Nat.reduceAdd, Nat.reduceMul, Nat.reduceSub, Nat.reduceLT, Nat.reduceLeDiff, Nat.reduceEqDiff, Int.reduceEq, Int.reduceLT, Int.reduceLE, Int.reduceNe, len_sEdge hb, idx_sEdge hb, ld_sEdge hb, sh_sEdge hb, sw_sEdge hb, sf_sEdge_0 hb, sc_sEdge_0 hb, sf_sEdge_1 hb, sc_sEdge_1 hb, sf_sEdge_2 hb, sc_sEdge_2 hb, hb.P, hb.oc, hb.cl, hb.rd, hb.ref, strip_P bs, strip_rd bs, strip_ld bs, strip_sl hb bs k_sEdge, GD_go, conD, hm, hg, hc, q1, q2, q3, q4, q5, q6, hk, hk2, hk5, hml, get_bools, splice_bools, Nat.mul_one, hlt, stGo, c1, o0, o1, o2, o5, hil, c2', en_Edge]))
          exact .mk (i + 1) hlt (by omega) (SubR.mk' [] hcl (by simp) (by simp) rfl (frSub_ok (by simp [frSub, lkG, ren, renL, renL_set, renL_ints, UpdOk.nil, UpdOk.cons, renOO_some, renO_cells, renO_map, renOO_mkOb, rn_base, rn_add, ren_mkSl, Enc.flat_ren, set_same, set_ne, sets_cons, sets_nil, Keep.set, Keep.setK, Keep.refl, Sc.ren (fun j hj => rn_low hj) bs2, rn_low hmt, rn_low hct, renL_bools, q3, hst, wrap_succ hlt hb.le])) (by simp [frSub, lkG, ren, renL, renL_set, renL_ints, UpdOk.nil, UpdOk.cons, renOO_some, renO_cells, renO_map, renOO_mkOb, rn_base, rn_add, ren_mkSl, Enc.flat_ren, set_same, set_ne, sets_cons, sets_nil, Keep.set, Keep.setK, Keep.refl, Sc.ren (fun j hj => rn_low hj) bs2, rn_low hmt, rn_low hct, renL_bools, q3, hst, wrap_succ hlt hb.le]) (by simp [frSub, lkG, ren, renL, renL_set, renL_ints, UpdOk.nil, UpdOk.cons, renOO_some, renO_cells, renO_map, renOO_mkOb, rn_base, rn_add, ren_mkSl, Enc.flat_ren, set_same, set_ne, sets_cons, sets_nil, Keep.set, Keep.setK, Keep.refl, Sc.ren (fun j hj => rn_low hj) bs2, rn_low hmt, rn_low hct, renL_bools, q3, hst, wrap_succ hlt hb.le]))
        | false =>
          have c2' : ((mI E f k M i)[(at' E i).To.toNat]?).getD false = false := c2
          simp only [stepD, c1, c2, true_and, if_true] at hst
          have hPD : ∀ {h' : Hp}, h' m = some (.cells true 0 ((mI E f k M i).map Value.bool)) → h' g = some (.cells true 0 [a, b]) → h' c = some (.cells true 0 [.func (.func 37) ⟨[]⟩ ⟨[.pointer (some ⟨m, 0, none⟩), .pointer (some ⟨g, 0, none⟩), .pointer (some ⟨c, 0, none⟩)]⟩]) → SlP e_Edge h' b → e_Edge.rd h' b = E →
              PreX f h' (.int .i64 (at' E i).To) m g c = True := fun h1 h2 h3 h4 h5 =>
            eq_true ⟨(at' E i).To.toNat, mI E f k M i, E, a, b, by rw [o6], o2, h1, hil, h2, h4, h5, h3, hbm, hgm, hmc, hR, c2, hcf⟩
          have hBA : ∀ {h' : Hp}, h' m = some (.cells true 0 ((mI E f k M i).map Value.bool)) → boolsAt h' m = mI E f k M i := boolsAt_eq
          have hEA : ∀ {h' : Hp}, h' g = some (.cells true 0 [a, b]) → e_Edge.rd h' b = E → edgesAt h' g = E := edgesAt_eq
          refine CW.vc envD [0, 1, 2, 3, 6, 10, 11, 12, 13, 26] (by kernel_rfl) ?_
          (simp only [go_sem, reduceIte, reduceCtorEq, Nat.reduceAdd, Nat.reduceMul, Nat.reduceSub, Nat.reduceLT, Nat.reduceLeDiff, Nat.reduceEqDiff, Int.reduceEq, Int.reduceLT, Int.reduceLE, Int.reduceNe, len_sEdge hb, idx_sEdge hb, ld_sEdge hb, sh_sEdge hb, sw_sEdge hb, sf_sEdge_0 hb, sc_sEdge_0 hb, sf_sEdge_1 hb, sc_sEdge_1 hb, sf_sEdge_2 hb, sc_sEdge_2 hb, hb.P, hb.oc, hb.cl, hb.rd, hb.ref, strip_P bs, strip_rd bs, strip_ld bs, strip_sl hb bs k_sEdge, GD_go, conD, hm, hg, hc, q1, q2, q3, q4, q5, q6, hk, hk2, hk5, hml, get_bools, splice_bools, Nat.mul_one, hlt, stGo, c1, o0, o1, o2, o5, hil, c2', en_Edge, hPD, hBA, hEA]; repeat (refine Vc.mk' ?_; simp only [go_sem, reduceIte, reduceCtorEq, Nat.reduceAdd, Nat.reduceMul, Nat.reduceSub, Nat.reduceLT, Nat.reduceLeDiff, Nat.reduceEqDiff, Int.reduceEq, Int.reduceLT, Int.reduceLE, Int.reduceNe, len_sEdge hb, idx_sEdge hb, ld_sEdge hb, sh_sEdge hb, sw_sEdge hb, sf_sEdge_0 hb, sc_sEdge_0 hb, sf_sEdge_1 hb, sc_sEdge_1 hb, sf_sEdge_2 hb, sc_sEdge_2 hb, hb.P, hb.oc, hb.cl, hb.rd, hb.ref, strip_P bs, strip_rd bs, strip_ld bs, strip_sl hb bs k_sEdge, GD_go, conD, hm, hg, hc, q1, q2, q3, q4, q5, q6, hk, hk2, hk5, hml, get_bools, splice_bools, Nat.mul_one, hlt, stGo, c1, o0, o1, o2, o5, hil, c2', en_Edge, hPD, hBA, hEA]))
          exact .mk (i + 1) hlt (by omega) (SubR.mk' [] hcl (by simp) (by simp) rfl (frSub_ok (by simp [frSub, lkG, ren, renL, renL_set, renL_ints, UpdOk.nil, UpdOk.cons, renOO_some, renO_cells, renO_map, renOO_mkOb, rn_base, rn_add, ren_mkSl, Enc.flat_ren, set_same, set_ne, sets_cons, sets_nil, Keep.set, Keep.setK, Keep.refl, Sc.ren (fun j hj => rn_low hj) bs2, rn_low hmt, rn_low hct, renL_bools, q3, hst, wrap_succ hlt hb.le])) (by simp [frSub, lkG, ren, renL, renL_set, renL_ints, UpdOk.nil, UpdOk.cons, renOO_some, renO_cells, renO_map, renOO_mkOb, rn_base, rn_add, ren_mkSl, Enc.flat_ren, set_same, set_ne, sets_cons, sets_nil, Keep.set, Keep.setK, Keep.refl, Sc.ren (fun j hj => rn_low hj) bs2, rn_low hmt, rn_low hct, renL_bools, q3, hst, wrap_succ hlt hb.le]) (by simp [frSub, lkG, ren, renL, renL_set, renL_ints, UpdOk.nil, UpdOk.cons, renOO_some, renO_cells, renO_map, renOO_mkOb, rn_base, rn_add, ren_mkSl, Enc.flat_ren, set_same, set_ne, sets_cons, sets_nil, Keep.set, Keep.setK, Keep.refl, Sc.ren (fun j hj => rn_low hj) bs2, rn_low hmt, rn_low hct, renL_bools, q3, hst, wrap_succ hlt hb.le]))
      · simp only [stepD, c1, false_and, if_false] at hst
        refine CW.vc envD [0, 1, 2, 3, 6, 10, 11, 12, 13, 26] (by kernel_rfl) ?_
        (simp only [go_sem, reduceIte, reduceCtorEq, Nat.reduceAdd, Nat.reduceMul, Nat.reduceSub, Nat.reduceLT, Nat.reduceLeDiff, Nat.reduceEqDiff, Int.reduceEq, Int.reduceLT, Int.reduceLE, Int.reduceNe, len_sEdge hb, idx_sEdge hb, ld_sEdge hb, sh_sEdge hb, sw_sEdge hb, sf_sEdge_0 hb, sc_sEdge_0 hb, sf_sEdge_1 hb, sc_sEdge_1 hb, sf_sEdge_2 hb, sc_sEdge_2 hb, hb.P, hb.oc, hb.cl, hb.rd, hb.ref, strip_P bs, strip_rd bs, strip_ld bs, strip_sl hb bs k_sEdge, GD_go, conD, hm, hg, hc, q1, q2, q3, q4, q5, q6, hk, hk2, hk5, hml, get_bools, splice_bools, Nat.mul_one, hlt, stGo, c1, en_Edge]; repeat (refine Vc.mk' ?_; simp only [go_sem, reduceIte, reduceCtorEq, Nat.reduceAdd, Nat.reduceMul, Nat.reduceSub, Nat.reduceLT, Nat.reduceLeDiff, Nat.reduceEqDiff, Int.reduceEq, Int.reduceLT, Int.reduceLE, Int.reduceNe, len_sEdge hb, idx_sEdge hb, ld_sEdge hb, sh_sEdge hb, sw_sEdge hb, sf_sEdge_0 hb, sc_sEdge_0 hb, sf_sEdge_1 hb, sc_sEdge_1 hb, sf_sEdge_2 hb, sc_sEdge_2 hb, hb.P, hb.oc, hb.cl, hb.rd, hb.ref, strip_P bs, strip_rd bs, strip_ld bs, strip_sl hb bs k_sEdge, GD_go, conD, hm, hg, hc, q1, q2, q3, q4, q5, q6, hk, hk2, hk5, hml, get_bools, splice_bools, Nat.mul_one, hlt, stGo, c1, en_Edge]))
        exact .mk (i + 1) hlt (by omega) (SubR.mk' [] hcl (by simp) (by simp) rfl (frSub_ok (by simp [frSub, lkG, ren, renL, renL_set, renL_ints, UpdOk.nil, UpdOk.cons, renOO_some, renO_cells, renO_map, renOO_mkOb, rn_base, rn_add, ren_mkSl, Enc.flat_ren, set_same, set_ne, sets_cons, sets_nil, Keep.set, Keep.setK, Keep.refl, Sc.ren (fun j hj => rn_low hj) bs2, rn_low hmt, rn_low hct, renL_bools, q3, hst, wrap_succ hlt hb.le])) (by simp [frSub, lkG, ren, renL, renL_set, renL_ints, UpdOk.nil, UpdOk.cons, renOO_some, renO_cells, renO_map, renOO_mkOb, rn_base, rn_add, ren_mkSl, Enc.flat_ren, set_same, set_ne, sets_cons, sets_nil, Keep.set, Keep.setK, Keep.refl, Sc.ren (fun j hj => rn_low hj) bs2, rn_low hmt, rn_low hct, renL_bools, q3, hst, wrap_succ hlt hb.le]) (by simp [frSub, lkG, ren, renL, renL_set, renL_ints, UpdOk.nil, UpdOk.cons, renOO_some, renO_cells, renO_map, renOO_mkOb, rn_base, rn_add, ren_mkSl, Enc.flat_ren, set_same, set_ne, sets_cons, sets_nil, Keep.set, Keep.setK, Keep.refl, Sc.ren (fun j hj => rn_low hj) bs2, rn_low hmt, rn_low hct, renL_bools, q3, hst, wrap_succ hlt hb.le]))
    · have hi2 : i = E.length := by omega
      subst hi2
      refine CW.vc envD [0, 1, 2, 3, 6, 10, 11, 12, 13, 26] (by kernel_rfl) ?_
      (simp only [go_sem, reduceIte, reduceCtorEq, Nat.reduceAdd, Nat.reduceMul, Nat.reduceSub, Nat.reduceLT, Nat.reduceLeDiff, Nat.reduceEqDiff, Int.reduceEq, Int.reduceLT, Int.reduceLE, Int.reduceNe, len_sEdge hb, idx_sEdge hb, ld_sEdge hb, sh_sEdge hb, sw_sEdge hb, sf_sEdge_0 hb, sc_sEdge_0 hb, sf_sEdge_1 hb, sc_sEdge_1 hb, sf_sEdge_2 hb, sc_sEdge_2 hb, hb.P, hb.oc, hb.cl, hb.rd, hb.ref, strip_P bs, strip_rd bs, strip_ld bs, strip_sl hb bs k_sEdge, GD_go, conD, hm, hg, hc, q1, q2, q3, q4, q5, q6, hk, hk2, hk5, hml, get_bools, splice_bools, Nat.mul_one, stGo, Nat.lt_irrefl, decide_false]; repeat (refine Vc.mk' ?_; simp only [go_sem, reduceIte, reduceCtorEq, Nat.reduceAdd, Nat.reduceMul, Nat.reduceSub, Nat.reduceLT, Nat.reduceLeDiff, Nat.reduceEqDiff, Int.reduceEq, Int.reduceLT, Int.reduceLE, Int.reduceNe, len_sEdge hb, idx_sEdge hb, ld_sEdge hb, sh_sEdge hb, sw_sEdge hb, sf_sEdge_0 hb, sc_sEdge_0 hb, sf_sEdge_1 hb, sc_sEdge_1 hb, sf_sEdge_2 hb, sc_sEdge_2 hb, hb.P, hb.oc, hb.cl, hb.rd, hb.ref, strip_P bs, strip_rd bs, strip_ld bs, strip_sl hb bs k_sEdge, GD_go, conD, hm, hg, hc, q1, q2, q3, q4, q5, q6, hk, hk2, hk5, hml, get_bools, splice_bools, Nat.mul_one, stGo, Nat.lt_irrefl, decide_false]))
      exact ⟨[], by simp, by simp, by simp, by simp [frSub, lkG, ren, renL, renL_set, renL_ints, UpdOk.nil, UpdOk.cons, renOO_some, renO_cells, renO_map, renOO_mkOb, rn_base, rn_add, ren_mkSl, Enc.flat_ren, set_same, set_ne, sets_cons, sets_nil, Keep.set, Keep.setK, Keep.refl, Sc.ren (fun j hj => rn_low hj) bs2, rn_low hmt, rn_low hct, renL_bools, q3], by simp [frSub, lkG, ren, renL, renL_set, renL_ints, UpdOk.nil, UpdOk.cons, renOO_some, renO_cells, renO_map, renOO_mkOb, rn_base, rn_add, ren_mkSl, Enc.flat_ren, set_same, set_ne, sets_cons, sets_nil, Keep.set, Keep.setK, Keep.refl, Sc.ren (fun j hj => rn_low hj) bs2, rn_low hmt, rn_low hct, renL_bools, q3], by simp [frSub, lkG, ren, renL, renL_set, renL_ints, UpdOk.nil, UpdOk.cons, renOO_some, renO_cells, renO_map, renOO_mkOb, rn_base, rn_add, ren_mkSl, Enc.flat_ren, set_same, set_ne, sets_cons, sets_nil, Keep.set, Keep.setK, Keep.refl, Sc.ren (fun j hj => rn_low hj) bs2, rn_low hmt, rn_low hct, renL_bools, q3]⟩
end Go.Proofs.Ytaenmabpekbjoaa.Dm
