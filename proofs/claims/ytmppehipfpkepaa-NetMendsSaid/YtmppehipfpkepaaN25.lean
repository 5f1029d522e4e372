/- The net: Near. -/
import Derived.Test.YtmppehipfpkepaaNCA
set_option linter.unusedSimpArgs false
set_option linter.unusedVariables false
namespace Go.Proofs.Ytmppehipfpkepaa.Dm
open Go.Dm
set_option maxHeartbeats 16000000
set_option maxRecDepth 20000
noncomputable def G25n : FuncId → Con := addG G24_r 31 conUp
theorem env25n : EnvV Try.prog tt.get G25n := env24_r.add up_ok
theorem G25n_up : G25n 31 = conUp := rfl
theorem G25n_none : G25n 29 = conNoneN := rfl
theorem G25n_pair : G25n 30 = conPair := rfl
theorem G25n_has : G25n 37 = conHas := rfl
def nearU (s : NetS) (a : Int) (k : Nat) : List T_Adj := ((List.range k).filter fun (j : Nat) => upF s a ((j : Int) + 1)).map fun (j : Nat) => ⟨(j : Int) + 1, costF s a ((j : Int) + 1)⟩
theorem nearU_succ (s : NetS) (a : Int) (k : Nat) : nearU s a (k + 1) = nearU s a k ++ (if upF s a ((k : Int) + 1) = true then [⟨(k : Int) + 1, costF s a ((k : Int) + 1)⟩] else []) := by
  unfold nearU
  rw [List.range_succ, List.filter_append, List.map_append]
  congr 1
  rw [List.filter_cons]
  split <;> rfl
theorem nearU_len (s : NetS) (a : Int) (k : Nat) : (nearU s a k).length ≤ k := by
  unfold nearU
  rw [List.length_map]
  exact Nat.le_trans (List.length_filter_le _ _) (by rw [List.length_range]; exact Nat.le_refl _)
def nearRes (s : NetS) (a : Int) (top : Nat) : Value × Upds × Nat :=
  if isR s a = true then (.tuple ⟨[mkSl top (nearU s a 24), .int .i64 0]⟩, [(top, mkOb e_Adj (nearU s a 24))], top + 1) else (.tuple ⟨[.slice none 0 0, .int .i64 2]⟩, [], top)
noncomputable def conNear : Con := .det (fun args hp _ => match args with | [.pointer (some ⟨n, 0, none⟩), a] => IsNet hp n ∧ IsI .i64 a | _ => False) (fun args hp top => match args with
  | [.pointer (some ⟨n, _, _⟩), a] => nearRes (netS hp n) (intOf a) top | _ => (undef, [], top))
def stNear (hp : Hp) (top n : Nat) (s : NetS) (a : Int) (k : Nat) : SS := ⟨[(0, .pointer (some ⟨n, 0, none⟩), true), (1, .int .i64 a, true), (6, mkSl top (nearU s a k), true), (7, .int .i64 ((k : Int) + 1), true)], hp.sets [(top, mkOb e_Adj (nearU s a k))], top + 1⟩
theorem near_ok : ConOk Try.prog 27 conNear := by
  refine .mkDet fn27_ok ?_
  intro args hp top hpre hcl hsc
  match args, hpre with
  | [.pointer (some ⟨n, 0, none⟩), a], ⟨⟨lv, s, h⟩, ha⟩ =>
  rw [ha]
  generalize intOf a = a
  simp only [h.s, intOf_int]
  have hlow := h.low hcl
  have n0 : n < top := by omega
  have n1 : n + 1 < top := by omega
  have hh := h.h
  have hL := h.L
  have his := h.is
  have rP : SlP e_int hp (mkSl (n + 7) s.R) = True := h.sR.P
  have rR : e_int.rd hp (mkSl (n + 7) s.R) = s.R := h.sR.rd
  have hk : ∀ {hp' : Hp}, Keep top [] hp' hp → NetAt hp' n lv s := fun {hp'} k => h.keep hcl fun i hi => k i hi (by simp)
  have hisk : ∀ {o : Option AObj}, IsNet (hp.set top o) n = True := fun {o} => (hk (hp' := hp.set top o) (by rw [Keep.set (by omega), Keep.refl]; trivial)).is
  have hsk : ∀ {o : Option AObj}, netS (hp.set top o) n = s := fun {o} => (hk (hp' := hp.set top o) (by rw [Keep.set (by omega), Keep.refl]; trivial)).s
  refine CalledOk.of_fun tt_ok fn27_ok rfl 41 rfl [.tmp 4, .tmp 5] rfl (show 2 ≤ 41 by decide) ?_
  cases c1 : isR s a with
  | false =>
    have c1' : s.R.any (isE a) = false := c1
    refine CW.vc env25n [0, 1, 4, 5, 6, 7, 8, 11, 20, 26] (by kernel_rfl) ?_
    (repeat ((try refine Vc.mk' ?_); simp only [go_sem, reduceIte, reduceCtorEq, Nat.reduceAdd, Nat.reduceMul, Nat.reduceSub, Nat.reduceLT, Nat.reduceLeDiff, Nat.reduceEqDiff, Int.reduceEq, Int.reduceLT, Int.reduceLE, Int.reduceNe, hh, netOb, hL, G25n_none, conNoneN, his, hisk, hsk, G25n_has, conHas, rP, rR, G25n_up, conUp, G25n_pair, conPair, set_lt n0, set_lt n1, c1']))
    simp only [nearRes, c1, Bool.false_eq_true, if_false]
    (refine ⟨[], by simp, by simp, by simp, ?_, ?_, ?_⟩ <;> simp [frSub, lkG, ren, renL, renL_set, renL_ints, UpdOk.nil, UpdOk.cons, renOO_some, renO_cells, renO_map, renOO_mkOb, rn_base, rn_add, ren_mkSl, Enc.flat_ren, set_same, set_ne, sets_cons, sets_nil, Keep.set, Keep.setK, Keep.refl, rm_m_int_bool, rm_m_message_Rule, rm_m_pair_bool, rm_m_pair_int])
  | true =>
    have c1' : s.R.any (isE a) = true := c1
    refine CW.vc env25n [0, 1, 4, 5, 6, 7, 8, 11, 20, 26] (by kernel_rfl) ?_
    (repeat ((try refine Vc.mk' ?_); simp only [go_sem, reduceIte, reduceCtorEq, Nat.reduceAdd, Nat.reduceMul, Nat.reduceSub, Nat.reduceLT, Nat.reduceLeDiff, Nat.reduceEqDiff, Int.reduceEq, Int.reduceLT, Int.reduceLE, Int.reduceNe, hh, netOb, hL, G25n_none, conNoneN, his, hisk, hsk, G25n_has, conHas, rP, rR, G25n_up, conUp, G25n_pair, conPair, set_lt n0, set_lt n1, c1']))
    refine CW.loopR (stNear hp top n s a) (fun k => k ≤ 24) (fun k => 24 - k) 0 (Nat.zero_le _) ?_ ?_
    · have e0 : nearU s a 0 = [] := rfl
      exact (by refine SubR.mk' [top] hcl (by simp) (by simp) rfl (frSub_ok ?_) ?_ ?_ <;> simp [frSub, lkG, ren, renL, renL_set, renL_ints, UpdOk.nil, UpdOk.cons, renOO_some, renO_cells, renO_map, renOO_mkOb, rn_base, rn_add, ren_mkSl, Enc.flat_ren, set_same, set_ne, sets_cons, sets_nil, Keep.set, Keep.setK, Keep.refl, rm_m_int_bool, rm_m_message_Rule, rm_m_pair_bool, rm_m_pair_int, e0, rn_low n0, mkSl_nil, mkOb_nil])
    · intro k hk24
      by_cases c2 : k < 24
      · have c2' : ¬ 24 < (k : Int) + 1 := by omega
        have wk : wrapA .i64 ((k : Int) + 1 + 1) = ((k + 1 : Nat) : Int) + 1 := by rw [wrap64 (by omega) (by omega)]; omega
        have hsu := nearU_succ s a k
        have hlu := nearU_len s a k
        have h16 : (nearU s a k).length < 16777216 := by omega
        have hco : (mget s.L ⟨min a ((k : Int) + 1), max a ((k : Int) + 1)⟩).getD default = costF s a ((k : Int) + 1) := rfl
        cases c3 : upF s a ((k : Int) + 1) with
        | false =>
          rw [c3, if_neg (by simp), List.append_nil] at hsu
          refine CW.vc env25n [0, 1, 4, 5, 6, 7, 8, 11, 20, 26] (by kernel_rfl) ?_
          (repeat ((try refine Vc.mk' ?_); simp only [go_sem, reduceIte, reduceCtorEq, Nat.reduceAdd, Nat.reduceMul, Nat.reduceSub, Nat.reduceLT, Nat.reduceLeDiff, Nat.reduceEqDiff, Int.reduceEq, Int.reduceLT, Int.reduceLE, Int.reduceNe, hh, netOb, hL, G25n_none, conNoneN, his, hisk, hsk, G25n_has, conHas, rP, rR, G25n_up, conUp, G25n_pair, conPair, set_lt n0, set_lt n1, stNear, c2', wk, c3, h16, hco]))
          exact .mk (k + 1) c2 (by omega) ((by refine SubR.mk' [top] hcl (by simp) (by simp) rfl (frSub_ok ?_) ?_ ?_ <;> simp [frSub, lkG, ren, renL, renL_set, renL_ints, UpdOk.nil, UpdOk.cons, renOO_some, renO_cells, renO_map, renOO_mkOb, rn_base, rn_add, ren_mkSl, Enc.flat_ren, set_same, set_ne, sets_cons, sets_nil, Keep.set, Keep.setK, Keep.refl, rm_m_int_bool, rm_m_message_Rule, rm_m_pair_bool, rm_m_pair_int, hsu, rn_low n0]))
        | true =>
          rw [c3, if_pos rfl] at hsu
          refine CW.vc env25n [0, 1, 4, 5, 6, 7, 8, 11, 20, 26] (by kernel_rfl) ?_
          (repeat ((try refine Vc.mk' ?_); simp only [go_sem, reduceIte, reduceCtorEq, Nat.reduceAdd, Nat.reduceMul, Nat.reduceSub, Nat.reduceLT, Nat.reduceLeDiff, Nat.reduceEqDiff, Int.reduceEq, Int.reduceLT, Int.reduceLE, Int.reduceNe, hh, netOb, hL, G25n_none, conNoneN, his, hisk, hsk, G25n_has, conHas, rP, rR, G25n_up, conUp, G25n_pair, conPair, set_lt n0, set_lt n1, stNear, c2', wk, c3, h16, hco]))
          exact .mk (k + 1) c2 (by omega) ((by refine SubR.mk' [top + 2] hcl (by simp) (by simp) rfl (frSub_ok ?_) ?_ ?_ <;> simp [frSub, lkG, ren, renL, renL_set, renL_ints, UpdOk.nil, UpdOk.cons, renOO_some, renO_cells, renO_map, renOO_mkOb, rn_base, rn_add, ren_mkSl, Enc.flat_ren, set_same, set_ne, sets_cons, sets_nil, Keep.set, Keep.setK, Keep.refl, rm_m_int_bool, rm_m_message_Rule, rm_m_pair_bool, rm_m_pair_int, hsu, rn_low n0]))
      · have c2' : 24 < (k : Int) + 1 := by omega
        have e24 : k = 24 := by omega
        refine CW.vc env25n [0, 1, 4, 5, 6, 7, 8, 11, 20, 26] (by kernel_rfl) ?_
        (repeat ((try refine Vc.mk' ?_); simp only [go_sem, reduceIte, reduceCtorEq, Nat.reduceAdd, Nat.reduceMul, Nat.reduceSub, Nat.reduceLT, Nat.reduceLeDiff, Nat.reduceEqDiff, Int.reduceEq, Int.reduceLT, Int.reduceLE, Int.reduceNe, hh, netOb, hL, G25n_none, conNoneN, his, hisk, hsk, G25n_has, conHas, rP, rR, G25n_up, conUp, G25n_pair, conPair, set_lt n0, set_lt n1, stNear, c2']))
        subst e24
        simp only [nearRes, c1, if_true]
        (refine ⟨[top], by simp, by simp, by simp, ?_, ?_, ?_⟩ <;> simp [frSub, lkG, ren, renL, renL_set, renL_ints, UpdOk.nil, UpdOk.cons, renOO_some, renO_cells, renO_map, renOO_mkOb, rn_base, rn_add, ren_mkSl, Enc.flat_ren, set_same, set_ne, sets_cons, sets_nil, Keep.set, Keep.setK, Keep.refl, rm_m_int_bool, rm_m_message_Rule, rm_m_pair_bool, rm_m_pair_int, rn_low n0])
end Go.Proofs.Ytmppehipfpkepaa.Dm
/- The net: its graph, whatever order its links are gone through in, without the program. -/
set_option linter.unusedSimpArgs false
set_option linter.unusedVariables false
namespace Go.Proofs.Ytmppehipfpkepaa.Dm
open Go.Dm
set_option maxHeartbeats 4000000
set_option maxRecDepth 20000
abbrev EntL := T_pair × Int × Nat
def lnk (e : EntL) : T_Link := ⟨e.1.a, e.1.b, e.2.1⟩
def upE (s : NetS) (e : EntL) : Bool := upF s e.1.a e.1.b
def linkU (s : NetS) (l : List EntL) : List T_Link := (l.filter (upE s)).map lnk
def upL (s : NetS) : List T_Link := linkU s s.L
def downR (s : NetS) : List Int := s.R.filter fun a => !isStop s a
theorem linkU_app (s : NetS) (l : List EntL) (e : EntL) : linkU s (l ++ [e]) = linkU s l ++ (if upE s e = true then [lnk e] else []) := by
  unfold linkU
  rw [List.filter_append, List.map_append]
  congr 1
  rw [List.filter_cons]
  split <;> rfl
/-! ### any order -/
theorem pr_sym {x y : T_Link} (h : Gr.pr y.A y.B x = false) : Gr.pr x.A x.B y = false := by
  unfold Gr.pr at h ⊢
  simp only [Bool.or_eq_false_iff, Bool.and_eq_false_iff, decide_eq_false_iff_not] at h ⊢
  obtain ⟨h1, h2⟩ := h
  constructor
  · rcases h1 with h1 | h1
    · exact .inl fun e => h1 e.symm
    · exact .inr fun e => h1 e.symm
  · rcases h2 with h2 | h2
    · exact .inr fun e => h2 e.symm
    · exact .inl fun e => h2 e.symm
theorem goL_of {R : List Int} : ∀ (l done : List T_Link), (∀ x ∈ l, Gr.linkOk R x = true ∧ done.any (Gr.pr x.A x.B) = false) → (l.Pairwise fun x y => Gr.pr y.A y.B x = false) → Gr.goL R done l = 0
  | [], _, _, _ => rfl
  | x :: l, done, h, hp => by
    rw [List.pairwise_cons] at hp
    unfold Gr.goL
    obtain ⟨h1, h2⟩ := h x (by simp)
    rw [if_neg (by rw [h1]; simp), if_neg (by rw [h2]; simp)]
    refine goL_of l _ (fun y hy => ⟨(h y (List.mem_cons_of_mem _ hy)).1, ?_⟩) hp.2
    rw [List.any_append, (h y (List.mem_cons_of_mem _ hy)).2, Bool.false_or]
    simpa using hp.1 y hy
theorem errL_of {R : List Int} {l : List T_Link} (h1 : Gr.goR [] R = true) (h2 : l.length ≤ 48) (h3 : Gr.LinksOk R l) : Gr.errL R l = 0 := by
  unfold Gr.errL
  rw [if_neg (by rw [h1]; simp), if_neg (by omega)]
  exact goL_of l [] (fun x hx => ⟨h3.ok x hx, rfl⟩) h3.ne
theorem errL_perm {R : List Int} {l l' : List T_Link} (h : Gr.errL R l = 0) (p : l'.Perm l) : Gr.errL R l' = 0 := by
  obtain ⟨h1, h2, h3⟩ := Gr.errL_len h
  have hl := Gr.goL_links h3
  refine errL_of h1 (by rw [p.length_eq]; exact h2) ⟨fun x hx => hl.ok x (p.mem_iff.1 hx), ?_⟩
  exact (p.pairwise_iff (R := fun x y => Gr.pr y.A y.B x = false) (fun {x y} h => pr_sym h)).2 hl.ne
theorem perm_short {α : Type} {l m : List α} (p : l.Perm m) (h : m.length ≤ 1) : l = m := by
  cases m with
  | nil => exact p.eq_nil
  | cons a m =>
    cases m with
    | nil => exact List.perm_singleton.1 p
    | cons b m => simp at h
theorem rowI_perm {R : List Int} {l l' : List T_Link} (h : Gr.errL R l = 0) (p : l'.Perm l) (a b : Int) : Gr.rowI l' a b = Gr.rowI l a b := by
  refine perm_short ((p.filter _).map _) ?_
  have := Gr.filter_one (a := a) (b := b) (Gr.goL_links (Gr.errL_len h).2.2).ne
  show (Gr.rowI l a b).length ≤ 1
  rw [this]
  split <;> simp
theorem edges_perm {R : List Int} {l l' : List T_Link} (h : Gr.errL R l = 0) (p : l'.Perm l) (n : Nat) : Gr.edgesO R l' n = Gr.edgesO R l n := by
  unfold Gr.edgesO Gr.rowM
  simp only [rowI_perm h p]
theorem resOf_perm {R : List Int} {l l' : List T_Link} {top : Nat} (h : Gr.errL R l = 0) (p : l'.Perm l) : Gr.resOf R l' top = (.tuple ⟨[.agg ⟨[mkSl top (Gr.nodesO R 25), mkSl (top + 1) (Gr.edgesO R l 25)]⟩, .int .i64 0]⟩, [(top, mkOb e_int (Gr.nodesO R 25)), (top + 1, mkOb e_Edge (Gr.edgesO R l 25))], top + 2) := by
  rw [Gr.resOf_ok (errL_perm h p), edges_perm h p]
/-- what Graph asks of a net -/
structure GoodN (s : NetS) : Prop where
  bn : (s.L.map (·.2.2)).Nodup
  bl : ∀ e ∈ s.L, e.2.2 < s.lc
  er : Gr.errL (downR s) (upL s) = 0
  le : s.L.length ≤ 1000
theorem born_inj' : ∀ {l : List EntL}, (l.map (·.2.2)).Nodup → ∀ {x y : EntL}, x ∈ l → y ∈ l → x.2.2 = y.2.2 → x = y
  | [], _, _, _, h, _, _ => by cases h
  | a :: l, hn, x, y, hx, hy, e => by
    rw [List.map_cons, List.nodup_cons] at hn
    rcases List.mem_cons.1 hx with hxe | hx2
    · subst hxe
      rcases List.mem_cons.1 hy with hye | hy
      · exact hye.symm
      · exact absurd (show x.2.2 ∈ l.map (·.2.2) from List.mem_map.2 ⟨y, hy, e.symm⟩) hn.1
    · rcases List.mem_cons.1 hy with hye | hy
      · subst hye
        exact absurd (show y.2.2 ∈ l.map (·.2.2) from List.mem_map.2 ⟨x, hx2, e⟩) hn.1
      · exact born_inj' hn.2 hx2 hy e
theorem nodup_of_born {l : List EntL} (h : (l.map (·.2.2)).Nodup) : l.Nodup := by
  have := List.pairwise_map.1 h
  exact this.imp fun h e => h (by rw [e])
/-- what has come of a range over the links -/
structure Came (L l1 : List EntL) : Prop where
  nd : (l1.map (·.2.2)).Nodup
  sub : ∀ e ∈ l1, e ∈ L
theorem Came.nil {L : List EntL} : Came L [] := ⟨List.nodup_nil, by simp⟩
theorem Came.add {L l1 : List EntL} (h : Came L l1) {e : EntL} (he : e ∈ L) (hn : e.2.2 ∉ l1.map (·.2.2)) : Came L (l1 ++ [e]) := by
  refine ⟨?_, fun x hx => ?_⟩
  · rw [List.map_append, List.nodup_append]
    refine ⟨h.nd, by simp, fun a ha b hb => ?_⟩
    simp at hb; subst hb
    exact fun e => hn (e ▸ ha)
  · rcases List.mem_append.1 hx with hx | hx
    · exact h.sub x hx
    · simp at hx; subst hx; exact he
theorem nodup_len {α : Type} [DecidableEq α] : ∀ {l m : List α}, l.Nodup → (∀ x ∈ l, x ∈ m) → l.length ≤ m.length
  | [], _, _, _ => Nat.zero_le _
  | x :: l, m, hn, hs => by
    rw [List.nodup_cons] at hn
    have hx := hs x (by simp)
    have := nodup_len (m := m.erase x) hn.2 fun y hy => (List.mem_erase_of_ne (fun e => by subst e; exact hn.1 hy)).2 (hs y (List.mem_cons_of_mem _ hy))
    rw [List.length_erase_of_mem hx] at this
    have h0 : 0 < m.length := List.length_pos_of_mem hx
    rw [List.length_cons]; omega
theorem Came.len {L l1 : List EntL} (h : Came L l1) : l1.length ≤ L.length := by
  exact nodup_len (nodup_of_born h.nd) h.sub
theorem Came.lt {L l1 : List EntL} (h : Came L l1) {e : EntL} (he : e ∈ L) (hn : e.2.2 ∉ l1.map (·.2.2)) : l1.length < L.length := by
  have := (h.add he hn).len
  rw [List.length_append] at this
  exact this
theorem Came.all {L l1 : List EntL} (hL : (L.map (·.2.2)).Nodup) (h : Came L l1) (ha : ∀ e ∈ L, e.2.2 ∈ l1.map (·.2.2)) : l1.Perm L := by
  rw [List.perm_ext_iff_of_nodup (nodup_of_born h.nd) (nodup_of_born hL)]
  intro e
  refine ⟨h.sub e, fun he => ?_⟩
  obtain ⟨x, hx, hxe⟩ := List.mem_map.1 (ha e he)
  rw [born_inj' hL he (h.sub x hx) hxe.symm]
  exact hx
theorem linkU_perm {s : NetS} {l m : List EntL} (p : l.Perm m) : (linkU s l).Perm (linkU s m) := (p.filter _).map _
theorem linkU_len (s : NetS) (l : List EntL) : (linkU s l).length ≤ l.length := by
  unfold linkU; rw [List.length_map]; exact List.length_filter_le _ _
end Go.Proofs.Ytmppehipfpkepaa.Dm
