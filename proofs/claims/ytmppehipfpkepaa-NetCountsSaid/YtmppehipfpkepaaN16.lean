/- The net: DeleteFunc for lost, as a contract. -/
import Derived.Test.YtmppehipfpkepaaN15
set_option linter.unusedSimpArgs false
set_option linter.unusedVariables false
namespace Go.Proofs.Ytmppehipfpkepaa.Dm
open Go.Dm
set_option maxHeartbeats 16000000
set_option maxRecDepth 20000
theorem mkDetE {P : Program} {f : FuncId} {args : List Value} {hp : Hp} {top : Nat} {ι : Type} {Φ : ι → Prop} {r : ι → Value × Upds × Nat}
    (h : Cl hp top → ScL top args → CalledOk P f args hp top fun v1 h1 top1 => ∃ m, Φ m ∧ top ≤ top1 ∧ ∃ bs, RetR hp top bs (r m) v1 h1 top1) :
    CalledOk P f args hp top fun v hp' top' => ∃ m, Φ m ∧ v = (r m).1 ∧ hp' = hp.sets (r m).2.1 ∧ top' = (r m).2.2 := by
  intro φ own w args' ha H htop
  have hcl := H.cl htop
  refine (h hcl (Vs.sc htop ha) φ own w args' ha H htop).mono ?_
  rintro e w' ⟨v1, h1, top1, v', φ1, rfl, ⟨m, hm, ht, bs, R⟩, W⟩
  have hlow : ∀ j, j < top → rn top bs top1 j = j := fun j hj => rn_low hj
  have hhigh : ∀ j, (r m).2.2 ≤ j → top1 ≤ rn top bs top1 j := fun j hj => by rw [rn_high (by rw [← R.tp]; exact hj)]; exact Nat.le_refl _
  refine ⟨(r m).1, hp.sets (r m).2.1, (r m).2.2, v', φ1.via (rn top bs top1), rfl, ⟨m, hm, rfl, rfl, rfl⟩, ⟨?_, ?_, ?_, W.k, ?_⟩⟩
  · intro i L e
    have hi : i < top := by
      rcases Nat.lt_or_ge i top with h | h
      · exact h
      · rw [htop i h] at e; cases e
    unfold Ren.via
    rw [hlow i hi]; exact W.le _ _ e
  · refine V.unren ?_
    rw [← R.v]; exact W.v
  · refine W.hr.unren W.top hhigh (by rw [R.tp]; exact rn_inj R.nodup R.ge) ?_
    exact subHp hcl hlow (r m).2.1 (fun i hi hk => R.keep i hi (fun hm => by obtain ⟨p, h1, h2⟩ := List.mem_map.1 hm; exact hk p h1 h2)) R.upd.get
  · intro j hj
    exact W.top _ (hhigh j hj)
def goneA (p : T_t124 → Bool) (l : List T_t124) : List T_Arrive := (l.filter p).map val_r
def dfU2 (ob top : Nat) (g : List T_Arrive) : Upds := if g = [] then [] else [(ob, some (.cells true 0 [mkSl top g])), (top, mkOb e_Arrive g)]
def dfRes (p : T_t124 → Bool) (ob : Nat) (v : Value) (l : List T_t124) (top : Nat) : Value × Upds × Nat := (dfV v (keptP p l), dfU e_t124 v (keptP p l) ++ dfU2 ob top (goneA p l), if goneA p l = [] then top else top + 1)
def DfPre (hp : Hp) (f : Value) : Prop := ∃ b nb ob n s, f = siV b ∧ LostAt hp b nb ob n s ∧ hp ob = some (.cells true 0 [.slice none 0 0])
def conDf : Con := .det (fun args hp _ => match args with | [v, f] => (∃ l, OwnV e_t124 hp v l ∧ l.length ≤ 1000000) ∧ DfPre hp f | _ => False)
  (fun args hp top => match args with | [v, .func _ _ ⟨[.pointer (some ⟨b, _, _⟩)]⟩] => dfRes (downH hp b) (outOfC hp b) v (e_t124.rd hp v) top | _ => (undef, [], top))
theorem goneA_L {s : NetS} {l : List T_t124} : goneL s l l.length = goneA (isDown s) l := by unfold goneL goneA; rw [List.take_length]
theorem df_ok : ConOk Try.prog 84 conDf := by
  refine ⟨⟨_, fn84_ok.toFTOk⟩, fun args hp top hpre => ?_⟩
  match args, hpre with
  | [v, _], ⟨⟨l, hO, hn⟩, ⟨bf, nb, ob, n, s, rfl, hK, ha⟩⟩ =>
  simp only [hO.slT.rd, siV]
  rw [hK.down, hK.out]
  by_cases hx : l.findIdx (isDown s) < l.length
  · have hdn : isDown s l[l.findIdx (isDown s)] = true := List.findIdx_getElem
    have hg : goneA (isDown s) l ≠ [] := fun e => by
      have : val_r l[l.findIdx (isDown s)] ∈ goneA (isDown s) l := List.mem_map.2 ⟨_, List.mem_filter.2 ⟨List.getElem_mem hx, hdn⟩, rfl⟩
      rw [e] at this; cases this
    cases hO with
    | nil => simp at hx
    | blk b l hb hn' =>
      cases l with
      | nil => simp at hx
      | cons a l =>
        show CalledOk Try.prog 84 [mkSl b (a :: l), siV bf] hp top _
        intro φ own w args' ha' H htop
        have hcl := H.cl htop
        have hob : ob ≠ b := fun e => by rw [e] at ha; rw [ha] at hb; exact absurd (cellZ hb) (by decide)
        have hbt : b < top := hcl.lt _ _ hb
        have hus : ∀ p ∈ [(ob, some (AObj.cells true 0 [mkSl top (goneA (isDown s) (a :: l))])), (top, mkOb e_Arrive (goneA (isDown s) (a :: l)))], p.1 ≠ b := by
          intro p hp
          simp only [List.mem_cons, List.not_mem_nil, or_false] at hp
          rcases hp with rfl | rfl
          · exact hob
          · exact fun e => by simp only at e; omega
        refine Calls.mono (shrink2 (b := b) (i := (keptP (isDown s) (a :: l)).length) (z := 5) (rows := e_t124.flat (keptP (isDown s) (a :: l))) (top2 := top + 1) hus ?_ φ own w args' ha' H htop) ?_
        · intro φ own w args' ha' H htop
          refine Calls.mono (mkDetE (fun hcl hsc => df_raw hp top b bf nb ob n s (a :: l) hb hK ha hn hx hcl hsc) φ own w args' ha' H htop) ?_
          rintro e w' ⟨v1, h1, t1, v', φ', rfl, ⟨x, ⟨hx1, hx2⟩, rfl, rfl, rfl⟩, W⟩
          exact ⟨_, _, _, v', φ', rfl, ⟨x.2.2, x.1, by rw [← hx1]; rfl, by rw [rawDf, goneA_L], rfl, by rw [← hx1, hx2]⟩, W⟩
        · rintro e w' ⟨v1, h1, t1, v', φ', rfl, ⟨rfl, rfl, rfl⟩, W⟩
          refine ⟨_, _, _, v', φ', rfl, ⟨rfl, ?_, ?_⟩, W⟩
          · unfold dfRes dfU2; rw [if_neg hg]; rfl
          · unfold dfRes; rw [if_neg hg]
  · have hno : ∀ a ∈ l, isDown s a = false := fun a ha' => by
      cases c : isDown s a with
      | false => rfl
      | true => exact absurd (List.findIdx_lt_length_of_exists ⟨a, ha', c⟩) hx
    have hk : keptP (isDown s) l = l := by
      unfold keptP
      rw [List.filter_eq_self]
      intro a ha'; rw [hno a ha']; rfl
    have hg : goneA (isDown s) l = [] := by
      unfold goneA
      rw [List.filter_eq_nil_iff.2 fun a ha' => by rw [hno a ha']; simp]; rfl
    refine CalledOk.mkDet (r := dfRes (isDown s) ob v l top) ?_
    intro hcl hsc
    have lvs := hO.slT.low hcl
    have hSP : SlP e_t124 hp v = True := hO.slT.P
    have hSr : e_t124.rd hp v = l := hO.slT.rd
    have hFn : IxPre hp (.func (.func 85) ⟨[]⟩ ⟨[.pointer (some ⟨bf, 0, none⟩)]⟩) = True := eq_true ⟨bf, nb, ob, n, s, rfl, hK, 0, [], ha, fun h => absurd rfl h, by decide⟩
    have hIx : ∀ {t : Nat}, ixRes hp bf l t = (.int .i64 (-1), [], t) := fun {t} => by
      unfold ixRes
      rw [hK.down, dif_neg hx]
    unfold dfRes dfU2
    rw [hk, if_pos hg, if_pos hg]
    refine CalledOk.of_fun tt_ok fn84_ok rfl 42 rfl [.tmp 4] rfl (show 2 ≤ 42 by decide) ?_
    refine CW.vc env21_r [0, 1, 4, 5, 6, 7, 12, 19, 29] (by kernel_rfl) ?_
    (repeat ((try refine Vc.mk' ?_); simp only [go_sem, reduceIte, reduceCtorEq, Nat.reduceAdd, Nat.reduceMul, Nat.reduceSub, Nat.reduceLT, Nat.reduceLeDiff, Nat.reduceEqDiff, Int.reduceEq, Int.reduceLT, Int.reduceLE, Int.reduceNe, G21_ix, conIx, hSP, hSr, hn, hFn, hIx]))
    cases hO with
    | nil =>
      simp only [dfV, dfU, List.append_nil]
      (refine ⟨[], by simp, by simp, by simp, ?_, ?_, ?_⟩ <;> simp [frSub, lkG, ren, renL, renL_set, renL_ints, UpdOk.nil, UpdOk.cons, renOO_some, renO_cells, renO_map, renOO_mkOb, rn_base, rn_add, ren_mkSl, Enc.flat_ren, set_same, set_ne, sets_cons, sets_nil, Keep.set, Keep.setK, Keep.refl, rm_m_int_bool, rm_m_message_Rule, rm_m_pair_bool, rm_m_pair_int])
    | blk b l hb hn' =>
      have hbt : b < top := lvs
      simp only [dfV, dfU, ownS, ownO, List.append_nil]
      (refine ⟨[], by simp, by simp, by simp, ?_, ?_, ?_⟩ <;> simp [frSub, lkG, ren, renL, renL_set, renL_ints, UpdOk.nil, UpdOk.cons, renOO_some, renO_cells, renO_map, renOO_mkOb, rn_base, rn_add, ren_mkSl, Enc.flat_ren, set_same, set_ne, sets_cons, sets_nil, Keep.set, Keep.setK, Keep.refl, rm_m_int_bool, rm_m_message_Rule, rm_m_pair_bool, rm_m_pair_int, rn_low hbt, hb, Enc.flat_ren])
noncomputable def G22_r : FuncId → Con := addG G21_r 84 conDf
theorem env22_r : EnvV Try.prog tt.get G22_r := env21_r.add df_ok
theorem G22_df : G22_r 84 = conDf := rfl
theorem G22_none : G22_r 54 = conNone_r := rfl
end Go.Proofs.Ytmppehipfpkepaa.Dm
