/- CalendKinds: the walk. -/
import Derived.Test.YtogndgadipdikaaCPW
import Derived.Test.YtogndgadipdikaaCKL
set_option linter.unusedSimpArgs false
set_option linter.unusedVariables false
namespace Go.Proofs.Ytogndgadipdikaa.Dm
open Go.Dm
set_option maxHeartbeats 8000000
set_option maxRecDepth 20000

theorem gV_t {α : Type} {b : Nat} {l : List α} : gV true b l = ownS b l.length := rfl
theorem ren_oS {ρ : Nat → Nat} {b n : Nat} : ren ρ (ownS b n) = ownS (ρ b) n := rfl
theorem ab_ne {xo yo : Operand} : sbin2 tt.get .neq 27 xo yo (.agg ⟨[.string ⟨⟨[97]⟩⟩, .string ⟨⟨[98]⟩⟩]⟩) (.agg ⟨[.string ⟨#[97]⟩, .string ⟨#[98]⟩]⟩) = (.bool false, True) := by
  rfl
def calA (i : Nat) (s : Bool) (b : Nat) (l : List T_t83) : Option AObj := some (.cells true 0 [.bool true, .int .i64 (i : Int), gV s b l])
def G8k : FuncId → Con := addG (addG (addG (addG (addG (addG G8 41 conNone_a) 46 (conDel e_t83)) 15 conTake_a) 11 conPut_a) 9 conNew_a) 16 conLen_a
theorem env8k : EnvV Try.prog tt.get G8k := (((((env8.add none_a_ok).add del_a_ok).add take_a_ok).add put_a_ok).add new_a_ok).add len_a_ok
theorem G8k_works : G8k 17 = conWorks := rfl
theorem G8k_take : G8k 14 = conTake_i := rfl
theorem G8k_put : G8k 10 = conPut_i := rfl
theorem G8k_new : G8k 8 = conNew_i := rfl
theorem G8k_len : G8k 12 = conLen_i := rfl
def nxR (l : List T_t74) : Value := match l with | [] => .tuple ⟨[.int .u64 0, .bool false]⟩ | a :: _ => .tuple ⟨[.int .u64 a.at_, .bool true]⟩
theorem nxR_cons {l : List T_t74} {a : T_t74} {m : List T_t74} (h : l = a :: m) : nxR l = .tuple ⟨[.int .u64 a.at_, .bool true]⟩ := by rw [h]; rfl
theorem G8k_next : G8k 13 = .pure (fun args hp => match args with | [.pointer (some ⟨cb, 0, none⟩)] => LenPre_i hp cb | _ => False) (fun args hp => match args with | [.pointer (some ⟨cb, _, _⟩)] => nxR (e_t74.rd hp (calL hp cb)) | _ => undef) := rfl
theorem G8k_takea : G8k 15 = conTake_a := rfl
theorem G8k_puta : G8k 11 = conPut_a := rfl
theorem G8k_newa : G8k 9 = conNew_a := rfl
theorem G8k_lena : G8k 16 = conLen_a := rfl
def stK1 (hp : Hp) (top : Nat) (va : Value) (ats : List Int) (n i : Nat) : SS :=
  ⟨[(0, va, true), (3, .pointer (some ⟨top, 0, none⟩), true), (4, .pointer (some ⟨top + 1, 0, none⟩), true), (5, .int .i64 (n : Int), true), (6, .int .i64 (i : Int), true)],
    hp.sets [(top, cal0 i (decide (0 < i)) (top + 2) (calF ats i)), (top + 1, calA i (decide (0 < i)) (top + 3) ((calF ats i).map mA)), (top + 2, gO (decide (0 < i)) e_t74 (calF ats i)), (top + 3, gO (decide (0 < i)) e_t83 ((calF ats i).map mA))], top + 4⟩
def stK2 (hp : Hp) (top : Nat) (va : Value) (S : Bool) (L : List T_t74) (n : Nat) (x : Nat × Int) : SS :=
  ⟨[(0, va, true), (3, .pointer (some ⟨top, 0, none⟩), true), (4, .pointer (some ⟨top + 1, 0, none⟩), true), (5, .int .i64 (n : Int), true), (7, .int .u64 x.2, true), (8, .int .i64 (x.1 : Int), true)],
    hp.sets [(top, cal0 n S (top + 2) (L.drop x.1)), (top + 1, calA n S (top + 3) ((L.drop x.1).map mA)), (top + 2, gO S e_t74 (L.drop x.1)), (top + 3, gO S e_t83 ((L.drop x.1).map mA))], top + 4⟩
def stK3 (hp : Hp) (top : Nat) (va : Value) (S : Bool) (L : List T_t74) (n K k : Nat) (at0 : Int) (j : Nat) : SS :=
  ⟨[(0, va, true), (3, .pointer (some ⟨top, 0, none⟩), true), (4, .pointer (some ⟨top + 1, 0, none⟩), true), (5, .int .i64 (n : Int), true), (8, .int .i64 (K : Int), true), (9, .int .u64 at0, true), (11, mkSl (top + 4) (outs_i (L.drop K) k), true), (12, mkSl (top + 5) (List.replicate k ab), true), (13, .int .i64 (j : Int), true)],
    hp.sets [(top, cal0 n S (top + 2) (L.drop (K + k))), (top + 1, calA n S (top + 3) ((L.drop (K + k)).map mA)), (top + 2, gO S e_t74 (L.drop (K + k))), (top + 3, gO S e_t83 ((L.drop (K + k)).map mA)), (top + 4, mkOb e_int (outs_i (L.drop K) k)), (top + 5, mkOb e_a2string (List.replicate k ab))], top + 6⟩

theorem kinds_walk (hp : Hp) (top : Nat) (va : Value) (ats : List Int) (h : SlT e_uint64 hp va ats) (hcl : Cl hp top) (hr : ∀ x ∈ ats, 0 ≤ x ∧ x < 18446744073709551616) :
    CalledOk Try.prog 3 [va] hp top fun r hp' _ => r = .bool true ∧ Keep top [] hp' hp := by
  have hs := h.low hcl
  have hN : ∃ n, n = min ats.length 100 := ⟨_, rfl⟩
  obtain ⟨n, hn⟩ := hN
  have hnl : n ≤ ats.length := by omega
  have hn1 : n ≤ 100 := by omega
  have hmin : (bif decide (100 < (ats.length : Int)) then 100 else (ats.length : Int)) = (n : Int) := by
    by_cases c : 100 < (ats.length : Int) <;> simp only [c, decide_true, decide_false, cond_true, cond_false] <;> omega
  refine CalledOk.of_fun tt_ok fn3_ok rfl 155 rfl [.tmp 2] rfl (show 1 ≤ 155 by decide) ?_
  refine CW.vc env8k [0, 2, 3, 4, 5, 6, 7, 8, 9, 10, 11, 12, 13, 21, 27, 51, 54, 84, 88, 138] (by kernel_rfl) ?_
  (simp only [go_sem, reduceIte, reduceCtorEq, Nat.reduceAdd, Nat.reduceMul, Nat.reduceSub, Nat.reduceLT, Nat.reduceLeDiff, Nat.reduceEqDiff, Int.reduceEq, Int.reduceLT, Int.reduceLE, Int.reduceNe, len_suint64 h, idx_suint64 h, ld_suint64 h, sh_suint64 h, sw_suint64 h, h.P, h.oc, h.cl, h.rd, h.ref, strip_P hs, strip_rd hs, strip_ld hs, strip_sl h hs k_suint64, G8k_works, conWorks, G8k_new, conNew_i, G8k_newa, conNew_a, hmin]; repeat (refine Vc.mk' ?_; simp only [go_sem, reduceIte, reduceCtorEq, Nat.reduceAdd, Nat.reduceMul, Nat.reduceSub, Nat.reduceLT, Nat.reduceLeDiff, Nat.reduceEqDiff, Int.reduceEq, Int.reduceLT, Int.reduceLE, Int.reduceNe, len_suint64 h, idx_suint64 h, ld_suint64 h, sh_suint64 h, sw_suint64 h, h.P, h.oc, h.cl, h.rd, h.ref, strip_P hs, strip_rd hs, strip_ld hs, strip_sl h hs k_suint64, G8k_works, conWorks, G8k_new, conNew_i, G8k_newa, conNew_a, hmin]))
  refine CW.loopR (stK1 hp top va ats n) (fun i => i ≤ n) (fun i => n - i) 0 (Nat.zero_le _) ?_ ?_
  · exact SubR.mk' [top, top + 1, top + 2, top + 3] hcl (by simp) (by simp) rfl (frSub_ok (by simp [frSub, lkG, ren, renL, renL_set, renL_ints, UpdOk.nil, UpdOk.cons, renOO_some, renO_cells, renO_map, renOO_mkOb, rn_base, rn_add, ren_mkSl, Enc.flat_ren, set_same, set_ne, sets_cons, sets_nil, Keep.set, Keep.setK, Keep.refl, Sc.ren (fun j hj => rn_low hj) hs, cal0, calA, calF, Nat.lt_irrefl, decide_false, gV_false, gO_false, cellsOf_some, Int.natCast_zero, List.map_nil])) (by simp [frSub, lkG, ren, renL, renL_set, renL_ints, UpdOk.nil, UpdOk.cons, renOO_some, renO_cells, renO_map, renOO_mkOb, rn_base, rn_add, ren_mkSl, Enc.flat_ren, set_same, set_ne, sets_cons, sets_nil, Keep.set, Keep.setK, Keep.refl, Sc.ren (fun j hj => rn_low hj) hs, cal0, calA, calF, Nat.lt_irrefl, decide_false, gV_false, gO_false, cellsOf_some, Int.natCast_zero, List.map_nil]) (by simp [frSub, lkG, ren, renL, renL_set, renL_ints, UpdOk.nil, UpdOk.cons, renOO_some, renO_cells, renO_map, renOO_mkOb, rn_base, rn_add, ren_mkSl, Enc.flat_ren, set_same, set_ne, sets_cons, sets_nil, Keep.set, Keep.setK, Keep.refl, Sc.ren (fun j hj => rn_low hj) hs, cal0, calA, calF, Nat.lt_irrefl, decide_false, gV_false, gO_false, cellsOf_some, Int.natCast_zero, List.map_nil])
  · intro i hi
    obtain ⟨hu, hlen, hmem⟩ := calF_spec ats i
    have hso : decide (0 < i) = false → calF ats i = [] := fun e => by
      have : i = 0 := by simpa using e
      subst this; rfl
    generalize hS : decide (0 < i) = S at hso
    have htk : ∀ a ∈ calF ats i, 1 ≤ a.ticket ∧ a.ticket ≤ (i : Int) := fun a ha => by obtain ⟨j, hj, rfl⟩ := hmem a ha; simp only [tI]; omega
    by_cases hlt : i < n
    · have hla : i < ats.length := by omega
      have hup : put_i (calF ats i) ⟨at' ats i, (i : Int) + 1, (i : Int)⟩ = calF ats (i + 1) := rfl
      have hth : thing_i (.int .u64 (at' ats i)) ((i : Int) + 1) (.int .i64 (i : Int)) = ⟨at' ats i, (i : Int) + 1, (i : Int)⟩ := rfl
      have hupa : put_a ((calF ats i).map mA) (mA (tI ats i)) = (calF ats (i + 1)).map mA := put_mA ..
      have htha : thing_a (.int .u64 (at' ats i)) ((i : Int) + 1) (.agg ⟨[.string ⟨⟨[97]⟩⟩, .string ⟨⟨[98]⟩⟩]⟩) = mA (tI ats i) := rfl
      have hlen2 := (calF_spec ats (i + 1)).2.1
      have hPP : ∀ {h' : Hp} {cb b : Nat} {a : Int}, h' cb = some (.cells true 0 [.bool true, .int .i64 (i : Int), gV S b (calF ats i)]) → h' b = gO S e_t74 (calF ats i) → PutPre_i h' cb (.int .u64 a) (.int .i64 (i : Int)) = True := fun h1 h2 =>
        eq_true ⟨_, _, _, cal_gV_i h1 h2 hso hu htk (by omega) (by omega) (by omega), by omega, by omega, rfl, rfl⟩
      have hPA : ∀ {h' : Hp} {cb b : Nat} {a : Int}, h' cb = some (.cells true 0 [.bool true, .int .i64 (i : Int), gV S b ((calF ats i).map mA)]) → h' b = gO S e_t83 ((calF ats i).map mA) → PutPre_a h' cb (.int .u64 a) (.agg ⟨[.string ⟨⟨[97]⟩⟩, .string ⟨⟨[98]⟩⟩]⟩) = True := fun h1 h2 =>
        eq_true ⟨_, _, _, cal_gV_a h1 h2 (fun e => by rw [hso e]; rfl) (up_mA hu) (fun a ha => by obtain ⟨b, hb, rfl⟩ := List.mem_map.1 ha; exact htk b hb) (by omega) (by omega) (by rw [List.length_map]; omega), by omega, by rw [List.length_map]; omega, rfl, ab, rfl⟩
      have hP1 := fun {h' : Hp} {cb : Nat} {a : Int} => @hPP h' cb (top + 2) a
      have hP2 := fun {h' : Hp} {cb : Nat} {a : Int} => @hPA h' cb (top + 3) a
      have hrd : ∀ {h' : Hp} {b : Nat}, h' b = gO S e_t74 (calF ats i) → e_t74.rd h' (gV S b (calF ats i)) = calF ats i := fun h1 => (gV_slT hso h1 (by omega)).rd
      have hrda : ∀ {h' : Hp} {b : Nat}, h' b = gO S e_t83 ((calF ats i).map mA) → e_t83.rd h' (gV S b ((calF ats i).map mA)) = (calF ats i).map mA := fun h1 => (gV_slT (fun e => by rw [hso e]; rfl) h1 (by rw [List.length_map]; omega)).rd
      have hw1 : wrapA .i64 ((i : Int) + 1) = (i : Int) + 1 := wrap64 (by omega) (by omega)
      refine CW.vc env8k [0, 2, 3, 4, 5, 6, 7, 8, 9, 10, 11, 12, 13, 21, 27, 51, 54, 84, 88, 138] (by kernel_rfl) ?_
      (simp only [go_sem, reduceIte, reduceCtorEq, Nat.reduceAdd, Nat.reduceMul, Nat.reduceSub, Nat.reduceLT, Nat.reduceLeDiff, Nat.reduceEqDiff, Int.reduceEq, Int.reduceLT, Int.reduceLE, Int.reduceNe, len_suint64 h, idx_suint64 h, ld_suint64 h, sh_suint64 h, sw_suint64 h, h.P, h.oc, h.cl, h.rd, h.ref, strip_P hs, strip_rd hs, strip_ld hs, strip_sl h hs k_suint64, G8k_works, conWorks, G8k_new, conNew_i, G8k_newa, conNew_a, stK1, cal0, calA, hw1, hlt, hla, hS, hup, hth, hupa, htha, G8k_put, conPut_i, putRes_i, G8k_puta, conPut_a, putRes_a, calLast, calL, cellsOf_some, intOf_int, List.getElem?_cons_succ, List.getElem?_cons_zero, Option.getD_some, hP1, hP2, hrd, hrda, gV_drop (E := e_t74), gV_drop (E := e_t83)]; repeat (refine Vc.mk' ?_; simp only [go_sem, reduceIte, reduceCtorEq, Nat.reduceAdd, Nat.reduceMul, Nat.reduceSub, Nat.reduceLT, Nat.reduceLeDiff, Nat.reduceEqDiff, Int.reduceEq, Int.reduceLT, Int.reduceLE, Int.reduceNe, len_suint64 h, idx_suint64 h, ld_suint64 h, sh_suint64 h, sw_suint64 h, h.P, h.oc, h.cl, h.rd, h.ref, strip_P hs, strip_rd hs, strip_ld hs, strip_sl h hs k_suint64, G8k_works, conWorks, G8k_new, conNew_i, G8k_newa, conNew_a, stK1, cal0, calA, hw1, hlt, hla, hS, hup, hth, hupa, htha, G8k_put, conPut_i, putRes_i, G8k_puta, conPut_a, putRes_a, calLast, calL, cellsOf_some, intOf_int, List.getElem?_cons_succ, List.getElem?_cons_zero, Option.getD_some, hP1, hP2, hrd, hrda, gV_drop (E := e_t74), gV_drop (E := e_t83)]))
      have hS2 : decide (0 < i + 1) = true := by simp
      exact .mk (i + 1) hlt (by omega) (SubR.mk' [top, top + 1, top + 4, top + 5] hcl (by simp) (by simp) rfl (frSub_ok (by simp [frSub, lkG, ren, renL, renL_set, renL_ints, UpdOk.nil, UpdOk.cons, renOO_some, renO_cells, renO_map, renOO_mkOb, rn_base, rn_add, ren_mkSl, Enc.flat_ren, set_same, set_ne, sets_cons, sets_nil, Keep.set, Keep.setK, Keep.refl, Sc.ren (fun j hj => rn_low hj) hs, cal0, calA, hw1, gV_t, List.length_map, hlen, hlen2, ren_oS, gO_true, renOO_gO, ren_gV, hS2, Int.natCast_add, Int.natCast_one])) (by simp [frSub, lkG, ren, renL, renL_set, renL_ints, UpdOk.nil, UpdOk.cons, renOO_some, renO_cells, renO_map, renOO_mkOb, rn_base, rn_add, ren_mkSl, Enc.flat_ren, set_same, set_ne, sets_cons, sets_nil, Keep.set, Keep.setK, Keep.refl, Sc.ren (fun j hj => rn_low hj) hs, cal0, calA, hw1, gV_t, List.length_map, hlen, hlen2, ren_oS, gO_true, renOO_gO, ren_gV, hS2, Int.natCast_add, Int.natCast_one]) (by simp [frSub, lkG, ren, renL, renL_set, renL_ints, UpdOk.nil, UpdOk.cons, renOO_some, renO_cells, renO_map, renOO_mkOb, rn_base, rn_add, ren_mkSl, Enc.flat_ren, set_same, set_ne, sets_cons, sets_nil, Keep.set, Keep.setK, Keep.refl, Sc.ren (fun j hj => rn_low hj) hs, cal0, calA, hw1, gV_t, List.length_map, hlen, hlen2, ren_oS, gO_true, renOO_gO, ren_gV, hS2, Int.natCast_add, Int.natCast_one]))
    · have hi2 : i = n := by omega
      subst hi2
      generalize hL : calF ats i = L at hu hlen hmem hso htk
      have hLr : ∀ a ∈ L, 0 ≤ a.at_ ∧ a.at_ < 18446744073709551616 := fun a ha => by
        obtain ⟨j, hj, rfl⟩ := hmem a ha
        exact hr _ (at_mem (show j < ats.length by omega))
      have hC : ∀ {K : Nat} {h' : Hp} {cb b : Nat}, h' cb = some (.cells true 0 [.bool true, .int .i64 (i : Int), gV S b (L.drop K)]) → h' b = gO S e_t74 (L.drop K) → CalAt_i h' cb (i : Int) (gV S b (L.drop K)) (L.drop K) := fun {K} _ _ _ h1 h2 =>
        cal_gV_i h1 h2 (fun e => by rw [hso e]; simp) (up_drop_i hu K) (fun a ha => htk a (List.mem_of_mem_drop ha)) (by omega) (by omega) (by rw [List.length_drop]; omega)
      have hCA : ∀ {K : Nat} {h' : Hp} {cb b : Nat}, h' cb = some (.cells true 0 [.bool true, .int .i64 (i : Int), gV S b ((L.drop K).map mA)]) → h' b = gO S e_t83 ((L.drop K).map mA) → CalAt_a h' cb (i : Int) (gV S b ((L.drop K).map mA)) ((L.drop K).map mA) := fun {K} _ _ _ h1 h2 =>
        cal_gV_a h1 h2 (fun e => by rw [hso e]; simp) (up_mA (up_drop_i hu K)) (fun a ha => by obtain ⟨b, hb, rfl⟩ := List.mem_map.1 ha; exact htk b (List.mem_of_mem_drop hb)) (by omega) (by omega) (by rw [List.length_map, List.length_drop]; omega)
      have hrd : ∀ {K : Nat} {h' : Hp} {b : Nat}, h' b = gO S e_t74 (L.drop K) → e_t74.rd h' (gV S b (L.drop K)) = L.drop K := fun {K} _ _ h1 => (gV_slT (fun e => by rw [hso e]; simp) h1 (by rw [List.length_drop]; omega)).rd
      have hrda : ∀ {K : Nat} {h' : Hp} {b : Nat}, h' b = gO S e_t83 ((L.drop K).map mA) → e_t83.rd h' (gV S b ((L.drop K).map mA)) = (L.drop K).map mA := fun {K} _ _ h1 => (gV_slT (fun e => by rw [hso e]; simp) h1 (by rw [List.length_map, List.length_drop]; omega)).rd
      have hCg : ∀ {K k : Nat} {h' : Hp} {b : Nat}, k ≤ (L.drop K).length → h' b = gO S e_t74 (L.drop K) → h'.sets (cutU e_t74 (gV S b (L.drop K)) (L.drop K) 0 k) = h'.set b (gO S e_t74 (L.drop (K + k))) := fun {K k _ _} hk h1 => by
        rw [gV_cutU (Nat.zero_le _) hk (fun e => by rw [hso e]; simp) h1, cut_drop]
      have hCga : ∀ {K k : Nat} {h' : Hp} {b : Nat}, k ≤ (L.drop K).length → h' b = gO S e_t83 ((L.drop K).map mA) → h'.sets (cutU e_t83 (gV S b ((L.drop K).map mA)) ((L.drop K).map mA) 0 k) = h'.set b (gO S e_t83 ((L.drop (K + k)).map mA)) := fun {K k _ _} hk h1 => by
        rw [gV_cutU (Nat.zero_le _) (by rw [List.length_map]; exact hk) (fun e => by rw [hso e]; simp) h1, cut0, ← List.map_drop, List.drop_drop]
      refine CW.vc env8k [0, 2, 3, 4, 5, 6, 7, 8, 9, 10, 11, 12, 13, 21, 27, 51, 54, 84, 88, 138] (by kernel_rfl) ?_
      (simp only [go_sem, reduceIte, reduceCtorEq, Nat.reduceAdd, Nat.reduceMul, Nat.reduceSub, Nat.reduceLT, Nat.reduceLeDiff, Nat.reduceEqDiff, Int.reduceEq, Int.reduceLT, Int.reduceLE, Int.reduceNe, len_suint64 h, idx_suint64 h, ld_suint64 h, sh_suint64 h, sw_suint64 h, h.P, h.oc, h.cl, h.rd, h.ref, strip_P hs, strip_rd hs, strip_ld hs, strip_sl h hs k_suint64, G8k_works, conWorks, G8k_new, conNew_i, G8k_newa, conNew_a, stK1, cal0, calA, hL, hS, Nat.lt_irrefl, decide_false]; repeat (refine Vc.mk' ?_; simp only [go_sem, reduceIte, reduceCtorEq, Nat.reduceAdd, Nat.reduceMul, Nat.reduceSub, Nat.reduceLT, Nat.reduceLeDiff, Nat.reduceEqDiff, Int.reduceEq, Int.reduceLT, Int.reduceLE, Int.reduceNe, len_suint64 h, idx_suint64 h, ld_suint64 h, sh_suint64 h, sw_suint64 h, h.P, h.oc, h.cl, h.rd, h.ref, strip_P hs, strip_rd hs, strip_ld hs, strip_sl h hs k_suint64, G8k_works, conWorks, G8k_new, conNew_i, G8k_newa, conNew_a, stK1, cal0, calA, hL, hS, Nat.lt_irrefl, decide_false]))
      refine CW.loopR (stK2 hp top va S L i) (fun x => x.1 ≤ L.length ∧ ∀ a ∈ L.drop x.1, x.2 ≤ a.at_) (fun x => L.length - x.1) (0, 0) ⟨Nat.zero_le _, fun a ha => (hLr a ha).1⟩ ?_ ?_
      · exact SubR.mk' [top, top + 1, top + 2, top + 3] hcl (by simp) (by simp) rfl (frSub_ok (by simp [frSub, lkG, ren, renL, renL_set, renL_ints, UpdOk.nil, UpdOk.cons, renOO_some, renO_cells, renO_map, renOO_mkOb, rn_base, rn_add, ren_mkSl, Enc.flat_ren, set_same, set_ne, sets_cons, sets_nil, Keep.set, Keep.setK, Keep.refl, Sc.ren (fun j hj => rn_low hj) hs, cal0, calA, ren_gV, renOO_gO, List.drop_zero, Int.natCast_zero])) (by simp [frSub, lkG, ren, renL, renL_set, renL_ints, UpdOk.nil, UpdOk.cons, renOO_some, renO_cells, renO_map, renOO_mkOb, rn_base, rn_add, ren_mkSl, Enc.flat_ren, set_same, set_ne, sets_cons, sets_nil, Keep.set, Keep.setK, Keep.refl, Sc.ren (fun j hj => rn_low hj) hs, cal0, calA, ren_gV, renOO_gO, List.drop_zero, Int.natCast_zero]) (by simp [frSub, lkG, ren, renL, renL_set, renL_ints, UpdOk.nil, UpdOk.cons, renOO_some, renO_cells, renO_map, renOO_mkOb, rn_base, rn_add, ren_mkSl, Enc.flat_ren, set_same, set_ne, sets_cons, sets_nil, Keep.set, Keep.setK, Keep.refl, Sc.ren (fun j hj => rn_low hj) hs, cal0, calA, ren_gV, renOO_gO, List.drop_zero, Int.natCast_zero])
      · rintro ⟨K, last⟩ ⟨hK, hla⟩
        replace hK : K ≤ L.length := hK
        replace hla : ∀ a ∈ L.drop K, last ≤ a.at_ := hla
        have hLK : (L.drop K).length = L.length - K := List.length_drop
        have hLP : ∀ {h' : Hp}, h' top = some (.cells true 0 [.bool true, .int .i64 (i : Int), gV S (top + 2) (L.drop K)]) → h' (top + 2) = gO S e_t74 (L.drop K) → LenPre_i h' top = True := fun h1 h2 => eq_true ⟨_, _, _, hC h1 h2⟩
        have hLPa : ∀ {h' : Hp}, h' (top + 1) = some (.cells true 0 [.bool true, .int .i64 (i : Int), gV S (top + 3) ((L.drop K).map mA)]) → h' (top + 3) = gO S e_t83 ((L.drop K).map mA) → LenPre_a h' (top + 1) = True := fun h1 h2 => eq_true ⟨_, _, _, hCA h1 h2⟩
        have hTP : ∀ {h' : Hp} {a : Int}, h' top = some (.cells true 0 [.bool true, .int .i64 (i : Int), gV S (top + 2) (L.drop K)]) → h' (top + 2) = gO S e_t74 (L.drop K) → TakePre_i h' top (.int .u64 a) = True := fun h1 h2 => eq_true ⟨⟨_, _, _, hC h1 h2⟩, rfl⟩
        have hTPa : ∀ {h' : Hp} {a : Int}, h' (top + 1) = some (.cells true 0 [.bool true, .int .i64 (i : Int), gV S (top + 3) ((L.drop K).map mA)]) → h' (top + 3) = gO S e_t83 ((L.drop K).map mA) → TakePre_a h' (top + 1) (.int .u64 a) = True := fun h1 h2 => eq_true ⟨⟨_, _, _, hCA h1 h2⟩, rfl⟩
        have hR1 := fun {h' : Hp} {b : Nat} => @hrd K h' b
        have hR2 := fun {h' : Hp} {b : Nat} => @hrda K h' b
        by_cases hgo : K < L.length
        · have hpos : (0 : Int) < ((L.drop K).length : Int) := by omega
          have hu2 := up_drop_i hu K
          have hk0 := kF_pos (l := L.drop K) (by omega)
          have hkl := kF_i_le (L.drop K) (at' (L.drop K) 0).at_
          have hkat := @kF_at (L.drop K) hu2
          have hktk := @kF_tk (L.drop K) hu2
          have hla0 := hla _ (at_mem (show 0 < (L.drop K).length by omega))
          obtain ⟨a, m, hd⟩ : ∃ a m, L.drop K = a :: m := by
            cases e : L.drop K with
            | nil => rw [e] at hpos; simp at hpos
            | cons a m => exact ⟨a, m, rfl⟩
          have h0a : (at' (L.drop K) 0) = a := by rw [hd]; rfl
          rw [h0a] at hk0 hkl hla0
          simp only [h0a] at hkat hktk
          generalize hkk : kF_i (L.drop K) a.at_ = k at hk0 hkl hkat hktk
          have hkm : kF_a ((L.drop K).map mA) a.at_ = k := by rw [kF_mA, hkk]
          have hom := outs_mA hkl
          have hol := outs_i_len hkl
          have hC1 := fun {h' : Hp} {b : Nat} => @hCg K k h' b hkl
          have hC2 := fun {h' : Hp} {b : Nat} => @hCga K k h' b hkl
          have hmt := nxR_cons hd
          have hk1 : ¬ (k : Int) = 0 := by omega
          have hla1 : ¬ a.at_ < last := by omega
          refine CW.vc env8k [0, 2, 3, 4, 5, 6, 7, 8, 9, 10, 11, 12, 13, 21, 27, 51, 54, 84, 88, 138] (by kernel_rfl) ?_
          (simp only [go_sem, reduceIte, reduceCtorEq, Nat.reduceAdd, Nat.reduceMul, Nat.reduceSub, Nat.reduceLT, Nat.reduceLeDiff, Nat.reduceEqDiff, Int.reduceEq, Int.reduceLT, Int.reduceLE, Int.reduceNe, len_suint64 h, idx_suint64 h, ld_suint64 h, sh_suint64 h, sw_suint64 h, h.P, h.oc, h.cl, h.rd, h.ref, strip_P hs, strip_rd hs, strip_ld hs, strip_sl h hs k_suint64, G8k_works, conWorks, G8k_new, conNew_i, G8k_newa, conNew_a, stK2, cal0, calA, G8k_len, conLen_i, G8k_next, G8k_take, conTake_i, takeRes_i, G8k_takea, conTake_a, takeRes_a, G8k_lena, conLen_a, calLast, calL, cellsOf_some, intOf_int, List.getElem?_cons_succ, List.getElem?_cons_zero, Option.getD_some, gV_cut, Nat.zero_le, hLP, hTP, hTPa, hR1, hR2, hpos, hkk, hkm, hom, hol, hkl, hC1, hC2, hk1, hla1, hmt, cut0, ← List.map_drop, List.drop_drop, List.length_replicate, List.length_map]; repeat (refine Vc.mk' ?_; simp only [go_sem, reduceIte, reduceCtorEq, Nat.reduceAdd, Nat.reduceMul, Nat.reduceSub, Nat.reduceLT, Nat.reduceLeDiff, Nat.reduceEqDiff, Int.reduceEq, Int.reduceLT, Int.reduceLE, Int.reduceNe, len_suint64 h, idx_suint64 h, ld_suint64 h, sh_suint64 h, sw_suint64 h, h.P, h.oc, h.cl, h.rd, h.ref, strip_P hs, strip_rd hs, strip_ld hs, strip_sl h hs k_suint64, G8k_works, conWorks, G8k_new, conNew_i, G8k_newa, conNew_a, stK2, cal0, calA, G8k_len, conLen_i, G8k_next, G8k_take, conTake_i, takeRes_i, G8k_takea, conTake_a, takeRes_a, G8k_lena, conLen_a, calLast, calL, cellsOf_some, intOf_int, List.getElem?_cons_succ, List.getElem?_cons_zero, Option.getD_some, gV_cut, Nat.zero_le, hLP, hTP, hTPa, hR1, hR2, hpos, hkk, hkm, hom, hol, hkl, hC1, hC2, hk1, hla1, hmt, cut0, ← List.map_drop, List.drop_drop, List.length_replicate, List.length_map]))
          refine CW.loopR (stK3 hp top va S L i K k a.at_) (fun j => j ≤ k) (fun j => k - j) 0 (Nat.zero_le _) ?_ ?_
          · exact SubR.mk' [top, top + 1, top + 2, top + 3, top + 4, top + 5] hcl (by simp) (by simp) rfl (frSub_ok (by simp [frSub, lkG, ren, renL, renL_set, renL_ints, UpdOk.nil, UpdOk.cons, renOO_some, renO_cells, renO_map, renOO_mkOb, rn_base, rn_add, ren_mkSl, Enc.flat_ren, set_same, set_ne, sets_cons, sets_nil, Keep.set, Keep.setK, Keep.refl, Sc.ren (fun j hj => rn_low hj) hs, cal0, calA, ren_gV, renOO_gO, Int.natCast_zero])) (by simp [frSub, lkG, ren, renL, renL_set, renL_ints, UpdOk.nil, UpdOk.cons, renOO_some, renO_cells, renO_map, renOO_mkOb, rn_base, rn_add, ren_mkSl, Enc.flat_ren, set_same, set_ne, sets_cons, sets_nil, Keep.set, Keep.setK, Keep.refl, Sc.ren (fun j hj => rn_low hj) hs, cal0, calA, ren_gV, renOO_gO, Int.natCast_zero]) (by simp [frSub, lkG, ren, renL, renL_set, renL_ints, UpdOk.nil, UpdOk.cons, renOO_some, renO_cells, renO_map, renOO_mkOb, rn_base, rn_add, ren_mkSl, Enc.flat_ren, set_same, set_ne, sets_cons, sets_nil, Keep.set, Keep.setK, Keep.refl, Sc.ren (fun j hj => rn_low hj) hs, cal0, calA, ren_gV, renOO_gO, Int.natCast_zero])
          · intro j hj
            have hNS : SlT e_int (hp.set (top + 4) (mkOb e_int (outs_i (L.drop K) k))) (mkSl (top + 4) (outs_i (L.drop K) k)) (outs_i (L.drop K) k) := .own (set_same ..) (by omega)
            have hMS : SlT e_a2string (hp.set (top + 5) (mkOb e_a2string (List.replicate k ab))) (mkSl (top + 5) (List.replicate k ab)) (List.replicate k ab) := .own (set_same ..) (by rw [List.length_replicate]; omega)
            by_cases jl : j < k
            · have hkx : ∀ j, j < k → ∃ x, x < i ∧ at' (L.drop K) j = tI ats x ∧ at' ats x = a.at_ ∧ at' (outs_i (L.drop K) k) j = (x : Int) := fun j jl => by
                obtain ⟨x, hx, e⟩ := hmem _ (List.mem_of_mem_drop (at_mem (show j < (L.drop K).length by omega)))
                refine ⟨x, hx, e, ?_, ?_⟩
                · have := hkat jl; rw [e] at this; exact this
                · unfold outs_i
                  rw [at_map (by rw [List.length_take]; omega), at'_get _ _ (by rw [List.length_take]; omega), List.getElem_take, ← at'_get _ _ (by omega), e]
                  rfl
              obtain ⟨x, hx, e, ea, ex⟩ := hkx j jl
              have jw : j < (outs_i (L.drop K) k).length := by omega
              have jm : j < (List.replicate k ab).length := by rw [List.length_replicate]; exact jl
              have hxl : x < ats.length := by omega
              have hL0 : ∀ {h' : Hp} {b : Nat}, h' b = mkOb e_int (outs_i (L.drop K) k) → sload tt.get h' 3 (ptrS (mkSl b (outs_i (L.drop K) k)) (j * 1)) = (.int .i64 (x : Int), True) := fun h => by have := ld_sint (SlT.own h (by omega)) jw; rw [ex] at this; exact this
              have hM0 : ∀ {h' : Hp} {b : Nat}, h' b = mkOb e_a2string (List.replicate k ab) → sload tt.get h' 27 (ptrS (mkSl b (List.replicate k ab)) (j * 2)) = (.agg ⟨[.string ⟨⟨[97]⟩⟩, .string ⟨⟨[98]⟩⟩]⟩, True) := fun h => by have := ld_sa2string (SlT.own h (by rw [List.length_replicate]; omega)) jm; rw [at_rep jl] at this; exact this
              have hx0 : ¬ (x : Int) < 0 := by omega
              have hxn : ¬ (i : Int) ≤ (x : Int) := by omega
              by_cases j0 : 0 < j
              · have j0i : (0 : Int) < (j : Int) := by omega
                have jn : j - 1 < k := by omega
                obtain ⟨y, hy, f, fa, fy⟩ := hkx (j - 1) jn
                have jmw : j - 1 < (outs_i (L.drop K) k).length := by omega
                have hyx : y < x := by have := hktk j0 jl; rw [e, f] at this; simp only [tI] at this; omega
                have hL1 : ∀ {h' : Hp} {b : Nat}, h' b = mkOb e_int (outs_i (L.drop K) k) → sload tt.get h' 3 (ptrS (mkSl b (outs_i (L.drop K) k)) ((j - 1) * 1)) = (.int .i64 (y : Int), True) := fun h => by have := ld_sint (SlT.own h (by omega)) jmw; rw [fy] at this; exact this
                have hw : wrapA .i64 ((j : Int) - 1) = ((j - 1 : Nat) : Int) := by rw [wrap64 (by omega) (by omega)]; omega
                refine CW.vc env8k [0, 2, 3, 4, 5, 6, 7, 8, 9, 10, 11, 12, 13, 21, 27, 51, 54, 84, 88, 138] (by kernel_rfl) ?_
                (simp only [go_sem, reduceIte, reduceCtorEq, Nat.reduceAdd, Nat.reduceMul, Nat.reduceSub, Nat.reduceLT, Nat.reduceLeDiff, Nat.reduceEqDiff, Int.reduceEq, Int.reduceLT, Int.reduceLE, Int.reduceNe, len_suint64 h, idx_suint64 h, ld_suint64 h, sh_suint64 h, sw_suint64 h, h.P, h.oc, h.cl, h.rd, h.ref, strip_P hs, strip_rd hs, strip_ld hs, strip_sl h hs k_suint64, G8k_works, conWorks, G8k_new, conNew_i, G8k_newa, conNew_a, stK3, idx_sint hNS, idx_sa2string hMS, jl, jw, hL0, hM0, hx0, hx, hxl, ea, hol, ab_ne, List.length_replicate, j0i, jn, jmw, hL1, hw, hyx]; repeat (refine Vc.mk' ?_; simp only [go_sem, reduceIte, reduceCtorEq, Nat.reduceAdd, Nat.reduceMul, Nat.reduceSub, Nat.reduceLT, Nat.reduceLeDiff, Nat.reduceEqDiff, Int.reduceEq, Int.reduceLT, Int.reduceLE, Int.reduceNe, len_suint64 h, idx_suint64 h, ld_suint64 h, sh_suint64 h, sw_suint64 h, h.P, h.oc, h.cl, h.rd, h.ref, strip_P hs, strip_rd hs, strip_ld hs, strip_sl h hs k_suint64, G8k_works, conWorks, G8k_new, conNew_i, G8k_newa, conNew_a, stK3, idx_sint hNS, idx_sa2string hMS, jl, jw, hL0, hM0, hx0, hx, hxl, ea, hol, ab_ne, List.length_replicate, j0i, jn, jmw, hL1, hw, hyx]))
                exact .mk (j + 1) jl (by omega) (SubR.mk' [top, top + 1, top + 2, top + 3, top + 4, top + 5] hcl (by simp) (by simp) rfl (frSub_ok (by simp [frSub, lkG, ren, renL, renL_set, renL_ints, UpdOk.nil, UpdOk.cons, renOO_some, renO_cells, renO_map, renOO_mkOb, rn_base, rn_add, ren_mkSl, Enc.flat_ren, set_same, set_ne, sets_cons, sets_nil, Keep.set, Keep.setK, Keep.refl, Sc.ren (fun j hj => rn_low hj) hs, cal0, calA, ren_gV, renOO_gO, wrap_succ jl (by omega : k ≤ 9223372036854775807)])) (by simp [frSub, lkG, ren, renL, renL_set, renL_ints, UpdOk.nil, UpdOk.cons, renOO_some, renO_cells, renO_map, renOO_mkOb, rn_base, rn_add, ren_mkSl, Enc.flat_ren, set_same, set_ne, sets_cons, sets_nil, Keep.set, Keep.setK, Keep.refl, Sc.ren (fun j hj => rn_low hj) hs, cal0, calA, ren_gV, renOO_gO, wrap_succ jl (by omega : k ≤ 9223372036854775807)]) (by simp [frSub, lkG, ren, renL, renL_set, renL_ints, UpdOk.nil, UpdOk.cons, renOO_some, renO_cells, renO_map, renOO_mkOb, rn_base, rn_add, ren_mkSl, Enc.flat_ren, set_same, set_ne, sets_cons, sets_nil, Keep.set, Keep.setK, Keep.refl, Sc.ren (fun j hj => rn_low hj) hs, cal0, calA, ren_gV, renOO_gO, wrap_succ jl (by omega : k ≤ 9223372036854775807)]))
              · have j0i : ¬ (0 : Int) < (j : Int) := by omega
                refine CW.vc env8k [0, 2, 3, 4, 5, 6, 7, 8, 9, 10, 11, 12, 13, 21, 27, 51, 54, 84, 88, 138] (by kernel_rfl) ?_
                (simp only [go_sem, reduceIte, reduceCtorEq, Nat.reduceAdd, Nat.reduceMul, Nat.reduceSub, Nat.reduceLT, Nat.reduceLeDiff, Nat.reduceEqDiff, Int.reduceEq, Int.reduceLT, Int.reduceLE, Int.reduceNe, len_suint64 h, idx_suint64 h, ld_suint64 h, sh_suint64 h, sw_suint64 h, h.P, h.oc, h.cl, h.rd, h.ref, strip_P hs, strip_rd hs, strip_ld hs, strip_sl h hs k_suint64, G8k_works, conWorks, G8k_new, conNew_i, G8k_newa, conNew_a, stK3, idx_sint hNS, idx_sa2string hMS, jl, jw, hL0, hM0, hx0, hx, hxl, ea, hol, ab_ne, List.length_replicate, j0i]; repeat (refine Vc.mk' ?_; simp only [go_sem, reduceIte, reduceCtorEq, Nat.reduceAdd, Nat.reduceMul, Nat.reduceSub, Nat.reduceLT, Nat.reduceLeDiff, Nat.reduceEqDiff, Int.reduceEq, Int.reduceLT, Int.reduceLE, Int.reduceNe, len_suint64 h, idx_suint64 h, ld_suint64 h, sh_suint64 h, sw_suint64 h, h.P, h.oc, h.cl, h.rd, h.ref, strip_P hs, strip_rd hs, strip_ld hs, strip_sl h hs k_suint64, G8k_works, conWorks, G8k_new, conNew_i, G8k_newa, conNew_a, stK3, idx_sint hNS, idx_sa2string hMS, jl, jw, hL0, hM0, hx0, hx, hxl, ea, hol, ab_ne, List.length_replicate, j0i]))
                exact .mk (j + 1) jl (by omega) (SubR.mk' [top, top + 1, top + 2, top + 3, top + 4, top + 5] hcl (by simp) (by simp) rfl (frSub_ok (by simp [frSub, lkG, ren, renL, renL_set, renL_ints, UpdOk.nil, UpdOk.cons, renOO_some, renO_cells, renO_map, renOO_mkOb, rn_base, rn_add, ren_mkSl, Enc.flat_ren, set_same, set_ne, sets_cons, sets_nil, Keep.set, Keep.setK, Keep.refl, Sc.ren (fun j hj => rn_low hj) hs, cal0, calA, ren_gV, renOO_gO, wrap_succ jl (by omega : k ≤ 9223372036854775807)])) (by simp [frSub, lkG, ren, renL, renL_set, renL_ints, UpdOk.nil, UpdOk.cons, renOO_some, renO_cells, renO_map, renOO_mkOb, rn_base, rn_add, ren_mkSl, Enc.flat_ren, set_same, set_ne, sets_cons, sets_nil, Keep.set, Keep.setK, Keep.refl, Sc.ren (fun j hj => rn_low hj) hs, cal0, calA, ren_gV, renOO_gO, wrap_succ jl (by omega : k ≤ 9223372036854775807)]) (by simp [frSub, lkG, ren, renL, renL_set, renL_ints, UpdOk.nil, UpdOk.cons, renOO_some, renO_cells, renO_map, renOO_mkOb, rn_base, rn_add, ren_mkSl, Enc.flat_ren, set_same, set_ne, sets_cons, sets_nil, Keep.set, Keep.setK, Keep.refl, Sc.ren (fun j hj => rn_low hj) hs, cal0, calA, ren_gV, renOO_gO, wrap_succ jl (by omega : k ≤ 9223372036854775807)]))
            · have jk : j = k := by omega
              subst jk
              have hwk : wrapA .i64 ((K : Int) + (j : Int)) = ((K + j : Nat) : Int) := by rw [wrap64 (by omega) (by omega)]; omega
              have hlast : ∀ b ∈ L.drop (K + j), a.at_ ≤ b.at_ := fun b hb => by
                rw [← List.drop_drop] at hb
                have := first_le hu2 (List.mem_of_mem_drop hb)
                rw [h0a] at this
                exact this
              refine CW.vc env8k [0, 2, 3, 4, 5, 6, 7, 8, 9, 10, 11, 12, 13, 21, 27, 51, 54, 84, 88, 138] (by kernel_rfl) ?_
              (simp only [go_sem, reduceIte, reduceCtorEq, Nat.reduceAdd, Nat.reduceMul, Nat.reduceSub, Nat.reduceLT, Nat.reduceLeDiff, Nat.reduceEqDiff, Int.reduceEq, Int.reduceLT, Int.reduceLE, Int.reduceNe, len_suint64 h, idx_suint64 h, ld_suint64 h, sh_suint64 h, sw_suint64 h, h.P, h.oc, h.cl, h.rd, h.ref, strip_P hs, strip_rd hs, strip_ld hs, strip_sl h hs k_suint64, G8k_works, conWorks, G8k_new, conNew_i, G8k_newa, conNew_a, stK3, Nat.lt_irrefl, decide_false, hol, hwk]; repeat (refine Vc.mk' ?_; simp only [go_sem, reduceIte, reduceCtorEq, Nat.reduceAdd, Nat.reduceMul, Nat.reduceSub, Nat.reduceLT, Nat.reduceLeDiff, Nat.reduceEqDiff, Int.reduceEq, Int.reduceLT, Int.reduceLE, Int.reduceNe, len_suint64 h, idx_suint64 h, ld_suint64 h, sh_suint64 h, sw_suint64 h, h.P, h.oc, h.cl, h.rd, h.ref, strip_P hs, strip_rd hs, strip_ld hs, strip_sl h hs k_suint64, G8k_works, conWorks, G8k_new, conNew_i, G8k_newa, conNew_a, stK3, Nat.lt_irrefl, decide_false, hol, hwk]))
              exact .mk (K + j, a.at_) ⟨show K + j ≤ L.length by omega, hlast⟩ (show L.length - (K + j) < L.length - K by omega) (SubR.mk' [top, top + 1, top + 2, top + 3] hcl (by simp) (by simp) rfl (frSub_ok (by simp [frSub, lkG, ren, renL, renL_set, renL_ints, UpdOk.nil, UpdOk.cons, renOO_some, renO_cells, renO_map, renOO_mkOb, rn_base, rn_add, ren_mkSl, Enc.flat_ren, set_same, set_ne, sets_cons, sets_nil, Keep.set, Keep.setK, Keep.refl, Sc.ren (fun j hj => rn_low hj) hs, cal0, calA, ren_gV, renOO_gO, hwk])) (by simp [frSub, lkG, ren, renL, renL_set, renL_ints, UpdOk.nil, UpdOk.cons, renOO_some, renO_cells, renO_map, renOO_mkOb, rn_base, rn_add, ren_mkSl, Enc.flat_ren, set_same, set_ne, sets_cons, sets_nil, Keep.set, Keep.setK, Keep.refl, Sc.ren (fun j hj => rn_low hj) hs, cal0, calA, ren_gV, renOO_gO, hwk]) (by simp [frSub, lkG, ren, renL, renL_set, renL_ints, UpdOk.nil, UpdOk.cons, renOO_some, renO_cells, renO_map, renOO_mkOb, rn_base, rn_add, ren_mkSl, Enc.flat_ren, set_same, set_ne, sets_cons, sets_nil, Keep.set, Keep.setK, Keep.refl, Sc.ren (fun j hj => rn_low hj) hs, cal0, calA, ren_gV, renOO_gO, hwk]))
        · have hK2 : K = i := by omega
          subst hK2
          have hd : L.drop K = [] := List.drop_eq_nil_of_le (by omega)
          have hpos : ¬ (0 : Int) < ((L.drop K).length : Int) := by rw [hd]; simp
          have hz : ((L.drop K).length : Int) = 0 := by rw [hd]; rfl
          refine CW.vc env8k [0, 2, 3, 4, 5, 6, 7, 8, 9, 10, 11, 12, 13, 21, 27, 51, 54, 84, 88, 138] (by kernel_rfl) ?_
          (simp only [go_sem, reduceIte, reduceCtorEq, Nat.reduceAdd, Nat.reduceMul, Nat.reduceSub, Nat.reduceLT, Nat.reduceLeDiff, Nat.reduceEqDiff, Int.reduceEq, Int.reduceLT, Int.reduceLE, Int.reduceNe, len_suint64 h, idx_suint64 h, ld_suint64 h, sh_suint64 h, sw_suint64 h, h.P, h.oc, h.cl, h.rd, h.ref, strip_P hs, strip_rd hs, strip_ld hs, strip_sl h hs k_suint64, G8k_works, conWorks, G8k_new, conNew_i, G8k_newa, conNew_a, stK2, cal0, calA, G8k_len, conLen_i, G8k_next, G8k_take, conTake_i, takeRes_i, G8k_takea, conTake_a, takeRes_a, G8k_lena, conLen_a, calLast, calL, cellsOf_some, intOf_int, List.getElem?_cons_succ, List.getElem?_cons_zero, Option.getD_some, gV_cut, Nat.zero_le, hLP, hLPa, hR1, hR2, hpos, hz, List.length_map]; repeat (refine Vc.mk' ?_; simp only [go_sem, reduceIte, reduceCtorEq, Nat.reduceAdd, Nat.reduceMul, Nat.reduceSub, Nat.reduceLT, Nat.reduceLeDiff, Nat.reduceEqDiff, Int.reduceEq, Int.reduceLT, Int.reduceLE, Int.reduceNe, len_suint64 h, idx_suint64 h, ld_suint64 h, sh_suint64 h, sw_suint64 h, h.P, h.oc, h.cl, h.rd, h.ref, strip_P hs, strip_rd hs, strip_ld hs, strip_sl h hs k_suint64, G8k_works, conWorks, G8k_new, conNew_i, G8k_newa, conNew_a, stK2, cal0, calA, G8k_len, conLen_i, G8k_next, G8k_take, conTake_i, takeRes_i, G8k_takea, conTake_a, takeRes_a, G8k_lena, conLen_a, calLast, calL, cellsOf_some, intOf_int, List.getElem?_cons_succ, List.getElem?_cons_zero, Option.getD_some, gV_cut, Nat.zero_le, hLP, hLPa, hR1, hR2, hpos, hz, List.length_map]))
end Go.Proofs.Ytogndgadipdikaa.Dm
