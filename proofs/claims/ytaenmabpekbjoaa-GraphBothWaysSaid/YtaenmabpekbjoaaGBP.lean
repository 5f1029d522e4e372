/- GraphBothWays, the plain law: the records' order is one, edges go there and back, parts have nothing in common. -/
import Derived.Test.YtaenmabpekbjoaaGPL
import Derived.Test.YtaenmabpekbjoaaGLP
set_option linter.unusedSimpArgs false
set_option linter.unusedVariables false
namespace Go.Proofs.Ytaenmabpekbjoaa.Dm
open Go.Dm

/-! ### the records' order -/
theorem uniq_rev {L : List RecD} (U : Uniq L) : Uniq L.reverse := ⟨fun r hr => U.may r (List.mem_reverse.1 hr), List.pairwise_reverse.2 (U.ne.imp fun h => h.symm)⟩
theorem uniqF_rev (L : List RecD) : uniqF L.reverse = uniqF L :=
  Bool.eq_iff_iff.2 ⟨fun h => by have := uniq_mk (uniq_rev (uniq_of h)); rwa [List.reverse_reverse] at this, fun h => uniq_mk (uniq_rev (uniq_of h))⟩
theorem nodesF_rev (L : List RecD) : nodesF L.reverse = nodesF L := by unfold nodesF; simp only [List.any_reverse]
theorem costF_rev {L : List RecD} (U : Uniq L) (a b : Int) : costF L.reverse a b = costF L a b := by
  cases h : L.any (isO a) with
  | false => rw [costF_no h, costF_no (by rw [List.any_reverse]; exact h)]
  | true =>
    obtain ⟨r, hr, e⟩ := List.any_eq_true.1 h
    simp only [isO, decide_eq_true_eq] at e
    subst e
    rw [costF_mem U.ne hr, costF_mem (uniq_rev U).ne (List.mem_reverse.2 hr)]
theorem edgesF_rev {L : List RecD} (U : Uniq L) : edgesF L.reverse = edgesF L := by
  have : costF L.reverse = costF L := funext fun a => funext fun b => costF_rev U a b
  unfold edgesF; rw [nodesF_rev, this]
theorem nF_rev (L : List RecD) : nF L.reverse = nF L := by unfold nF; rw [uniqF_rev, nodesF_rev]
theorem errF_rev (L : List RecD) : errF L.reverse = errF L := by unfold errF; rw [uniqF_rev]
theorem eF_rev (L : List RecD) : eF L.reverse = eF L := by
  unfold eF
  rw [uniqF_rev]
  cases h : uniqF L with
  | false => rfl
  | true => rw [if_pos rfl, if_pos rfl, edgesF_rev (uniq_of h)]

/-! ### a graph of records may be -/
theorem mem_nodesF {L : List RecD} (U : Uniq L) {n : Int} : n ∈ nodesF L ↔ ∃ r ∈ L, r.Origin = n := by
  unfold nodesF
  simp only [List.mem_map, List.mem_filter, List.mem_range, List.any_eq_true, isO, decide_eq_true_eq]
  constructor
  · rintro ⟨i, ⟨_, r, hr, e⟩, rfl⟩; exact ⟨r, hr, e⟩
  · rintro ⟨r, hr, rfl⟩
    have := mayR_router (U.may r hr)
    exact ⟨r.Origin.toNat, ⟨by omega, r, hr, by omega⟩, by omega⟩
theorem nodesF_up (L : List RecD) : (nodesF L).Pairwise (· < ·) := by
  have h3 : ((List.range 25).filter fun (i : Nat) => L.any (isO (i : Int))).Pairwise (· < ·) := List.pairwise_lt_range.filter _
  exact h3.map _ fun a b hab => by omega
theorem nodesF_rt {L : List RecD} (U : Uniq L) : ∀ n ∈ nodesF L, routerB n = true := by
  intro n hn
  obtain ⟨r, hr, rfl⟩ := (mem_nodesF U).1 hn
  have := mayR_router (U.may r hr)
  simp only [routerB, Bool.and_eq_true, decide_eq_true_eq]; exact this
theorem goN_mk : ∀ (l : List Int) (last : Int), (∀ n ∈ l, routerB n = true ∧ last < n) → l.Pairwise (· < ·) → goN last l = true
  | [], _, _, _ => rfl
  | m :: l, last, h, hp => by
    obtain ⟨h1, h2⟩ := List.pairwise_cons.1 hp
    have := h m (List.mem_cons_self ..)
    simp only [goN, Bool.and_eq_true, decide_eq_true_eq]
    exact ⟨⟨this.1, this.2⟩, goN_mk l m (fun n hn => ⟨(h n (List.mem_cons_of_mem _ hn)).1, h1 n hn⟩) h2⟩
theorem goE_mk {N : List Int} : ∀ (l : List T_Edge) (y : T_Edge), (∀ x ∈ l, edOk N x = true ∧ ltE y x = true) → l.Pairwise (fun a b => ltE a b = true) → goE N y l = true
  | [], _, _, _ => rfl
  | m :: l, y, h, hp => by
    obtain ⟨h1, h2⟩ := List.pairwise_cons.1 hp
    have := h m (List.mem_cons_self ..)
    simp only [goE, Bool.and_eq_true]
    exact ⟨⟨this.1, this.2⟩, goE_mk l m (fun n hn => ⟨(h n (List.mem_cons_of_mem _ hn)).1, h1 n hn⟩) h2⟩
theorem mem_edgesF {L : List RecD} {x : T_Edge} : x ∈ edgesF L ↔ x.From ∈ nodesF L ∧ x.To ∈ nodesF L ∧ 0 < costF L x.From x.To ∧ 0 < costF L x.To x.From ∧ x.Cost = costF L x.From x.To := by
  unfold edgesF edgeF
  simp only [List.mem_flatMap]
  constructor
  · rintro ⟨a, ha, b, hb, h⟩
    split at h
    · rename_i hc
      rw [List.mem_singleton] at h
      subst h
      exact ⟨ha, hb, hc.1, hc.2, rfl⟩
    · cases h
  · rintro ⟨ha, hb, h1, h2, h3⟩
    refine ⟨x.From, ha, x.To, hb, ?_⟩
    rw [if_pos ⟨h1, h2⟩, List.mem_singleton, ← h3]
theorem costA_get : ∀ {l : List T_Adj} {b : Int}, 0 < costA l b → ∃ x ∈ l, x.To = b ∧ x.Cost = costA l b
  | [], _, h => by simp [costA] at h
  | y :: l, b, h => by
    unfold costA at h ⊢
    by_cases e : y.To = b
    · rw [if_pos e]; exact ⟨y, List.mem_cons_self .., e, rfl⟩
    · rw [if_neg e] at h ⊢
      obtain ⟨x, hx, h1, h2⟩ := costA_get h
      exact ⟨x, List.mem_cons_of_mem _ hx, h1, h2⟩
theorem adjs_costB {o : Int} : ∀ (l : List T_Adj) (last : Int), adjsOk o last l = true → ∀ x ∈ l, costB x.Cost = true ∧ x.To ≠ o
  | [], _, _, _, h => by cases h
  | y :: l, last, h, x, hx => by
    simp only [adjsOk, Bool.and_eq_true, decide_eq_true_eq, Bool.not_eq_true', decide_eq_false_iff_not] at h
    obtain ⟨⟨⟨⟨_, h2⟩, h3⟩, _⟩, h5⟩ := h
    rcases List.mem_cons.1 hx with rfl | hx
    · exact ⟨h3, h2⟩
    · exact adjs_costB l y.To h5 x hx
theorem mayR_adjs {r : RecD} (h : mayR r = true) : adjsOk r.Origin 0 r.Adjs = true ∧ r.Adjs.length ≤ 16 := by
  simp only [mayR, headOk, Bool.and_eq_true, decide_eq_true_eq] at h
  exact ⟨h.2, h.1.2⟩
theorem cost_get {L : List RecD} (U : Uniq L) {a b : Int} (h : 0 < costF L a b) : ∃ r ∈ L, r.Origin = a ∧ ∃ x ∈ r.Adjs, x.To = b ∧ x.Cost = costF L a b := by
  obtain ⟨r, hr, e⟩ := List.any_eq_true.1 (costF_origin L a b h)
  simp only [isO, decide_eq_true_eq] at e
  subst e
  rw [costF_mem U.ne hr] at h ⊢
  exact ⟨r, hr, rfl, costA_get h⟩
theorem edges_ed {L : List RecD} (U : Uniq L) : ∀ x ∈ edgesF L, edOk (nodesF L) x = true := by
  intro x hx
  obtain ⟨h1, h2, h3, h4, h5⟩ := mem_edgesF.1 hx
  obtain ⟨r, hr, ho, y, hy, e1, e2⟩ := cost_get U h3
  have := adjs_costB _ _ (mayR_adjs (U.may r hr)).1 y hy
  simp only [edOk, Bool.and_eq_true, Bool.not_eq_true', decide_eq_false_iff_not, List.any_eq_true, isI, decide_eq_true_eq]
  refine ⟨⟨⟨?_, x.From, h1, rfl⟩, x.To, h2, rfl⟩, ?_⟩
  · intro e; apply this.2; omega
  · rw [h5, ← e2]; exact this.1
theorem edges_up (L : List RecD) : (edgesF L).Pairwise (fun a b => ltE a b = true) := by
  unfold edgesF
  have hin : ∀ {a b : Int} {x : T_Edge}, x ∈ edgeF (costF L) a b → x.From = a ∧ x.To = b := by
    intro a b x h
    unfold edgeF at h
    split at h
    · rw [List.mem_singleton] at h; subst h; exact ⟨rfl, rfl⟩
    · cases h
  rw [List.pairwise_flatMap]
  refine ⟨fun a _ => ?_, ?_⟩
  · rw [List.pairwise_flatMap]
    refine ⟨fun b _ => ?_, ?_⟩
    · unfold edgeF
      split
      · exact List.pairwise_singleton ..
      · exact .nil
    · refine (nodesF_up L).imp fun {b c} hbc x hx y hy => ?_
      have e1 := hin hx
      have e2 := hin hy
      simp only [ltE, Bool.or_eq_true, Bool.and_eq_true, decide_eq_true_eq]
      exact .inr ⟨by omega, by omega⟩
  · refine (nodesF_up L).imp fun {b c} hbc x hx y hy => ?_
    obtain ⟨_, _, hx⟩ := List.mem_flatMap.1 hx
    obtain ⟨_, _, hy⟩ := List.mem_flatMap.1 hy
    have e1 := hin hx
    have e2 := hin hy
    simp only [ltE, Bool.or_eq_true, Bool.and_eq_true, decide_eq_true_eq]
    exact .inl (by omega)
theorem lt_ne {l : List Int} (h : l.Pairwise (· < ·)) : l.Pairwise (· ≠ ·) := h.imp fun h => by omega
theorem nodes_len {L : List RecD} (U : Uniq L) : (nodesF L).length = L.length := by
  have h1 := nodup_sub (lt_ne (nodesF_up L)) (m := L.map (·.Origin)) fun n hn => by
    obtain ⟨r, hr, rfl⟩ := (mem_nodesF U).1 hn
    exact List.mem_map.2 ⟨r, hr, rfl⟩
  have h2 := nodup_sub (l := L.map (·.Origin)) (m := nodesF L) (List.pairwise_map.2 U.ne) fun n hn => by
    obtain ⟨r, hr, rfl⟩ := List.mem_map.1 hn
    exact (mem_nodesF U).2 ⟨r, hr, rfl⟩
  rw [List.length_map] at h1 h2
  omega
theorem flat_len {α β : Type} {f : α → List β} {k : Nat} : ∀ {l : List α}, (∀ a ∈ l, (f a).length ≤ k) → (l.flatMap f).length ≤ l.length * k
  | [], _ => by simp
  | a :: l, h => by
    have h1 := h a (List.mem_cons_self ..)
    have h2 := flat_len (l := l) fun b hb => h b (List.mem_cons_of_mem _ hb)
    rw [List.flatMap_cons, List.length_append, List.length_cons, Nat.succ_mul]
    omega
theorem row_len (c : Int → Int → Int) (a : Int) : ∀ l : List Int, (l.flatMap fun b => edgeF c a b).length = (l.filter fun b => decide (0 < c a b ∧ 0 < c b a)).length
  | [] => rfl
  | b :: l => by
    rw [List.flatMap_cons, List.length_append, row_len c a l, List.filter_cons]
    unfold edgeF
    by_cases h : 0 < c a b ∧ 0 < c b a
    · rw [if_pos h, decide_eq_true h, if_pos rfl]; simp; omega
    · rw [if_neg h, decide_eq_false h, if_neg (by decide)]; simp
theorem edges_len {L : List RecD} (U : Uniq L) : (edgesF L).length ≤ 384 := by
  have h1 : (edgesF L).length ≤ (nodesF L).length * 16 := by
    unfold edgesF
    refine flat_len fun a ha => ?_
    rw [row_len]
    obtain ⟨r, hr, rfl⟩ := (mem_nodesF U).1 ha
    have h2 := nodup_sub (l := (nodesF L).filter fun b => decide (0 < costF L r.Origin b ∧ 0 < costF L b r.Origin)) (m := r.Adjs.map (·.To)) ((lt_ne (nodesF_up L)).filter _) fun b hb => by
      have := (List.mem_filter.1 hb).2
      simp only [decide_eq_true_eq] at this
      have h3 := this.1
      rw [costF_mem U.ne hr] at h3
      obtain ⟨x, hx, e, _⟩ := costA_get h3
      exact List.mem_map.2 ⟨x, hx, e⟩
    rw [List.length_map] at h2
    have := (mayR_adjs (U.may r hr)).2
    omega
  have h3 := nodes_len U
  have h4 := U.len
  omega
theorem chk_F {L : List RecD} (U : Uniq L) : chkF (nodesF L) (edgesF L) = true := by
  have hN := nodesF_rt U
  simp only [chkF, Bool.and_eq_true, decide_eq_true_eq]
  refine ⟨⟨goN_mk _ _ (fun n hn => ⟨hN n hn, ?_⟩) (nodesF_up L), edges_len U⟩, goE_mk _ _ (fun x hx => ⟨edges_ed U x hx, lt_zero hN (edges_ed U x hx)⟩) (edges_up L)⟩
  have := hN n hn
  simp only [routerB, Bool.and_eq_true, decide_eq_true_eq] at this
  omega

/-! ### there and back -/
def SymE (E : List T_Edge) : Prop := ∀ x ∈ E, ∃ y ∈ E, y.From = x.To ∧ y.To = x.From
theorem edges_sym (L : List RecD) : SymE (edgesF L) := fun x hx => by
  obtain ⟨h1, h2, h3, h4, h5⟩ := mem_edgesF.1 hx
  exact ⟨⟨x.To, x.From, costF L x.To x.From⟩, mem_edgesF.2 ⟨h2, h1, h4, h3, rfl⟩, rfl, rfl⟩
theorem hasE_back {E : List T_Edge} (S : SymE E) {x : T_Edge} (hx : x ∈ E) : hasE E x.To x.From = true := by
  obtain ⟨y, hy, e1, e2⟩ := S x hx
  unfold hasE
  exact List.any_eq_true.2 ⟨y, hy, by simp [e1, e2]⟩
theorem Rch.back {E : List T_Edge} (S : SymE E) {a b : Nat} (h : Rch E a b) : Rch E b a := by
  induction h with
  | refl => exact .refl
  | step x hx _ ih =>
    obtain ⟨y, hy, e1, e2⟩ := S x hx
    have h1 : Rch E x.To.toNat y.To.toNat := .step y hy (by rw [e1]; exact .refl)
    rw [e2] at h1
    exact h1.trans ih
theorem mem_nodesA {M : List Bool} {k : Int} : k ∈ nodesA M 25 ↔ ∃ i : Nat, i < 25 ∧ iS M i = true ∧ k = (i : Int) := by
  unfold nodesA
  simp only [List.mem_map, List.mem_filter, List.mem_range]
  constructor
  · rintro ⟨i, ⟨h1, h2⟩, rfl⟩; exact ⟨i, h1, h2, rfl⟩
  · rintro ⟨i, h1, h2, rfl⟩; exact ⟨i, ⟨h1, h2⟩, rfl⟩
structure PartOk (N : List Int) (E : List T_Edge) (n : Int) (P : List Int) : Prop where
  err : errG N E n = 0
  me : n ∈ P
  same : ∀ k ∈ P, partG N E k = P ∧ errG N E k = 0
theorem part_ways {N : List Int} {E : List T_Edge} (hc : chkF N E = true) (S : SymE E) {n : Int} (hn : n ∈ N) : PartOk N E n (partG N E n) := by
  have G := chk_ok hc
  have ok : ∀ {k : Int}, k ∈ N → gOk N E k = true := fun {k} hk => by
    simp only [gOk, hc, Bool.true_and]
    exact List.any_eq_true.2 ⟨k, hk, by simp [isI]⟩
  have er : ∀ {k : Int}, k ∈ N → errG N E k = 0 := fun hk => by unfold errG; rw [if_pos (ok hk)]
  have pa : ∀ {k : Int}, k ∈ N → partG N E k = nodesA (metG E k.toNat) 25 := fun hk => by unfold partG; rw [if_pos (ok hk)]
  have hl := G.lt hn
  have hn' : ((n.toNat : Nat) : Int) ∈ N := by rwa [show ((n.toNat : Nat) : Int) = n by omega]
  refine ⟨er hn, ?_, ?_⟩
  · rw [pa hn, mem_nodesA]
    exact ⟨n.toNat, by omega, (metG_iff G.inR (by omega) _).2 .refl, by omega⟩
  · intro k hk
    rw [pa hn, mem_nodesA] at hk
    obtain ⟨i, hi, h1, rfl⟩ := hk
    have h2 := (metG_iff G.inR (by omega) _).1 h1
    have hiN := G.rch hn' h2
    refine ⟨?_, er hiN⟩
    rw [pa hiN, pa hn]
    have : metG E ((i : Int)).toNat = metG E n.toNat := by
      rw [Int.toNat_natCast]
      refine iS_ext (by rw [metG_len, metG_len]) fun j _ => ?_
      rw [metG_iff G.inR hi, metG_iff G.inR (by omega)]
      exact ⟨fun h => h2.trans h, fun h => (h2.back S).trans h⟩
    rw [this]
end Go.Proofs.Ytaenmabpekbjoaa.Dm
