/- The net: what New, Send and Tick leave is a net. -/
import Derived.Test.YtmppehipfpkepaaN5
set_option linter.unusedSimpArgs false
set_option linter.unusedVariables false
namespace Go.Proofs.Ytmppehipfpkepaa.Dm
open Go.Dm
set_option maxHeartbeats 16000000
set_option maxRecDepth 20000
theorem sets_off {b : Nat} : ∀ {us : Upds} {h : Hp}, (∀ p ∈ us, p.1 ≠ b) → (h.sets us) b = h b
  | [], _, _ => rfl
  | (i, o) :: us, h, hh => by
    rw [sets_cons, sets_off (us := us) fun p hp => hh p (List.mem_cons_of_mem _ hp)]
    exact set_ne _ _ _ _ (fun e => hh (i, o) (by simp) e.symm)
theorem sets_app : ∀ {us vs : Upds} {h : Hp}, h.sets (us ++ vs) = (h.sets us).sets vs
  | [], _, _ => rfl
  | (i, o) :: us, vs, h => by rw [List.cons_append, sets_cons, sets_cons, sets_app]
theorem NetAt.new {hp : Hp} {n : Nat} {s : NetS} (h1 : s.l = []) (h2 : s.last = 0) (h3 : s.P.ks.length = 625) (h4 : s.R.length ≤ 1000) (h5 : 1 ≤ s.late) (h6 : s.late ≤ 64) (h7 : s.now = 0) : NetAt (hp.sets (netU n s)) n (.slice none 0 0) s := by
  have x01 : ¬ n = n + 1 := by omega
  have x02 : ¬ n = n + 2 := by omega
  refine ⟨?_, ?_, ?_, ?_, ?_, ?_, h3, ⟨?_, by rw [h1]; exact .nil, by rw [h1]; exact .nil, by rw [h1]; simp, by omega, by omega, by rw [h1]; simp⟩, fun _ => ?_, h4, h5, h6, by omega, by omega⟩
  all_goals simp [netU, Hp.sets, Hp.set, calOb]
theorem putsL_good {s : NetS} (hu : up_r s.l) (ht : ∀ x ∈ s.l, 1 ≤ x.ticket ∧ x.ticket ≤ s.last) (h0 : 0 ≤ s.last) (a b : Int) (m : List UInt8) : ∀ k : Nat, up_r (putsL s a b m k) ∧ ∀ x ∈ putsL s a b m k, 1 ≤ x.ticket ∧ x.ticket ≤ s.last + (k : Int)
  | 0 => ⟨hu, fun x hx => by have := ht x hx; simpa using this⟩
  | 1 => ⟨put_r_up hu fun x hx => by have := (ht x hx).2; show x.ticket < s.last + 1; omega, fun x hx => by
      rcases put_r_mem.1 hx with rfl | hx
      · show 1 ≤ s.last + 1 ∧ s.last + 1 ≤ s.last + ((1 : Nat) : Int); omega
      · have := ht x hx; omega⟩
  | k + 2 => by
    obtain ⟨i1, i2⟩ := putsL_good hu ht h0 a b m (k + 1)
    refine ⟨put_r_up i1 fun x hx => by have := (i2 x hx).2; show x.ticket < s.last + ((k + 2 : Nat) : Int); omega, fun x hx => ?_⟩
    rcases put_r_mem.1 hx with rfl | hx
    · show 1 ≤ s.last + ((k + 2 : Nat) : Int) ∧ s.last + ((k + 2 : Nat) : Int) ≤ s.last + ((k + 2 : Nat) : Int); omega
    · have := i2 x hx; omega
def sendX (s : NetS) (a b : Int) (m : List UInt8) : Prop := costF s a b = 0 ∨ 512 < m.length ∨ upF s a b = false ∨ 16382 < s.l.length
instance {s : NetS} {a b : Int} {m : List UInt8} : Decidable (sendX s a b m) := by unfold sendX; infer_instance
def sendU (n : Nat) (lv : Value) (s : NetS) (a b : Int) (m : List UInt8) (top : Nat) : Upds := (sendRes n lv s a b m top).2.1
def sendS (s : NetS) (a b : Int) (m : List UInt8) : NetS := if sendX s a b m then s else { s with P := (Fa.askF s.P a b).1, last := s.last + ((copies s a b).toNat : Int), l := putsL s a b m (copies s a b).toNat }
def sendV (lv : Value) (s : NetS) (a b : Int) (m : List UInt8) (top : Nat) : Value := if sendX s a b m ∨ copies s a b = 0 then lv else ownS top (s.l.length + (copies s a b).toNat)
theorem askF_ks {p : Fa.PlanS} (h : p.ks.length = 625) (a b : Int) : (Fa.askF p a b).1.ks.length = 625 := by
  unfold Fa.askF
  split
  · exact h
  · split <;> simp [h]
theorem NetAt.send {hp : Hp} {n top : Nat} {lv : Value} {s : NetS} (h : NetAt hp n lv s) (h8 : n + 7 < top) (lvs : Sc top lv) (hla : s.last < 999990) (a b : Int) (m : List UInt8) :
    NetAt (hp.sets (sendU n lv s a b m top)) n (sendV lv s a b m top) (sendS s a b m) := by
  by_cases hX : sendX s a b m
  · have e1 : sendU n lv s a b m top = [] := by unfold sendU sendRes; rw [if_pos (show _ ∨ _ from hX)]
    rw [e1, sendS, sendV, if_pos hX, if_pos (.inl hX)]; exact h
  have e1 : sendU n lv s a b m top = Fa.planUs (n + 5) (n + 4) (Fa.askF s.P a b).1 ++ putsU n lv s a b m (copies s a b).toNat top := by unfold sendU sendRes; rw [if_neg (show ¬ (_ ∨ _) from hX)]
  have hc := askF_cop s.P a b
  have hkl := askF_ks h.pl a b
  have hlen : s.l.length ≤ 16382 := by have : ¬ 16382 < s.l.length := fun c => hX (.inr (.inr (.inr c))); omega
  have la : Apart (n + 5) lv := h.W.off (j := n + 5) fun vs e => by rw [h.M] at e; cases e
  have lb : Apart (n + 4) lv := h.W.off (j := n + 4) fun vs e => by rw [h.P] at e; exact absurd (cellZ e) (by decide)
  have l0 : Apart n lv := h.W.off (j := n) fun vs e => by rw [h.h] at e; exact absurd (cellZ e) (by decide)
  have l1 : Apart (n + 1) lv := h.W.off (j := n + 1) fun vs e => by rw [h.L] at e; cases e
  have l2 : Apart (n + 2) lv := h.W.off (j := n + 2) fun vs e => by rw [h.C] at e; cases e
  have l3 : Apart (n + 3) lv := h.W.off (j := n + 3) fun vs e => by rw [h.S] at e; cases e
  have l6 : Apart (n + 6) lv := h.W.ap
  have l7 : s.R ≠ [] → Apart (n + 7) lv := fun hr => h.W.off (j := n + 7) fun vs e => by
    rw [h.R hr] at e
    cases hl : s.R with
    | nil => exact hr hl
    | cons x l => rw [hl] at e; exact absurd (cellZ e) (by decide)
  have n7 : s.R ≠ [] → n + 7 < top := fun _ => h8
  obtain ⟨g1, g2⟩ := putsL_good h.W.up h.W.tk h.W.l0 a b m (copies s a b).toNat
  have g3 := putsL_len s a b m (copies s a b).toNat
  have hk2 : (copies s a b).toNat ≤ 2 := by unfold copies; omega
  rw [e1, sendS, sendV, if_neg hX]
  by_cases c0 : copies s a b = 0
  · rw [if_pos (.inr c0), c0]
    have hne : ∀ j, j ≠ n + 4 → j ≠ n + 5 → (hp.sets (Fa.planUs (n + 5) (n + 4) (Fa.askF s.P a b).1 ++ putsU n lv s a b m (0 : Int).toNat top)) j = hp j := fun j h1 h2 => sets_off fun p hp => by
      simp [Fa.planUs, putsU] at hp; rcases hp with rfl | rfl <;> (intro e; first | exact h1 e.symm | exact h2 e.symm)
    refine ⟨(hne _ (by omega) (by omega)).trans h.h, (hne _ (by omega) (by omega)).trans h.L, (hne _ (by omega) (by omega)).trans h.C, (hne _ (by omega) (by omega)).trans h.S, ?_, ?_, hkl, ?_, fun hr => (hne _ (by omega) (by omega)).trans (h.R hr), h.rn, h.lt0, h.lt1, h.nw0, h.nw1⟩
    · simp [Fa.planUs, putsU, Hp.sets, Hp.set]
    · simp [Fa.planUs, putsU, Hp.sets, Hp.set]
    · refine ⟨(hne _ (by omega) (by omega)).trans (by simpa using h.W.h), ?_, h.W.up, fun x hx => (by have := h.W.tk x hx; simpa using this), by simpa using h.W.l0, by simpa using h.W.l1, h.W.n⟩
      exact h.W.o.mono fun q k c e => hne _ (by subst e; exact fun e => lb e.symm) (by subst e; exact fun e => la e.symm)
  · have hk0 : ¬ (copies s a b).toNat = 0 := by unfold copies at c0 ⊢; omega
    rw [if_neg (by rintro (c | c); exact hX c; exact c0 c)]
    generalize hK : (copies s a b).toNat = K at *
    have eU : Fa.planUs (n + 5) (n + 4) (Fa.askF s.P a b).1 ++ putsU n lv s a b m K top = [(n + 5, some (.map (me_m_message_Rule (Fa.askF s.P a b).1.m) (Fa.askF s.P a b).1.clk)), (n + 4, Fa.planOb (n + 5) (Fa.askF s.P a b).1.ks), (n + 6, calOb (s.last + (K : Int)) (ownS top (s.l.length + K)))] ++ (dropU lv ++ [(top, ownO e_t124 (putsL s a b m K))]) := by
      unfold putsU; rw [if_neg hk0]; rfl
    have hdr : ∀ p ∈ dropU lv, Apart p.1 lv → False := fun p hp hA => by
      rcases own_cases h.W.o with ⟨rfl, _⟩ | ⟨q, rfl, _⟩
      · cases hp
      · simp [dropU] at hp; subst hp; exact hA rfl
    have hne : ∀ j, j ≠ n + 4 → j ≠ n + 5 → j ≠ n + 6 → j ≠ top → Apart j lv → (hp.sets (Fa.planUs (n + 5) (n + 4) (Fa.askF s.P a b).1 ++ putsU n lv s a b m K top)) j = hp j := fun j h1 h2 h3 h4 h5 => by
      rw [eU]
      refine sets_off fun p hp => ?_
      simp only [List.cons_append, List.nil_append, List.mem_cons, List.mem_append, List.not_mem_nil, or_false] at hp
      rcases hp with rfl | rfl | rfl | hp | rfl
      · exact fun e => h2 e.symm
      · exact fun e => h1 e.symm
      · exact fun e => h3 e.symm
      · exact fun e => hdr p hp (by rw [e]; exact h5)
      · exact fun e => h4 e.symm
    have hat : ∀ j, Apart j lv → j ≠ top → (hp.sets (Fa.planUs (n + 5) (n + 4) (Fa.askF s.P a b).1 ++ putsU n lv s a b m K top)) j = (hp.sets [(n + 5, some (.map (me_m_message_Rule (Fa.askF s.P a b).1.m) (Fa.askF s.P a b).1.clk)), (n + 4, Fa.planOb (n + 5) (Fa.askF s.P a b).1.ks), (n + 6, calOb (s.last + (K : Int)) (ownS top (s.l.length + K)))]) j := fun j h1 h2 => by
      rw [eU, sets_app]
      refine sets_off fun p hp => ?_
      simp only [List.mem_append, List.mem_cons, List.not_mem_nil, or_false] at hp
      rcases hp with hp | rfl
      · exact fun e => hdr p hp (by rw [e]; exact h1)
      · exact fun e => h2 e.symm
    refine ⟨(hne _ (by omega) (by omega) (by omega) (by omega) l0).trans h.h, (hne _ (by omega) (by omega) (by omega) (by omega) l1).trans h.L, (hne _ (by omega) (by omega) (by omega) (by omega) l2).trans h.C, (hne _ (by omega) (by omega) (by omega) (by omega) l3).trans h.S, ?_, ?_, hkl, ⟨?_, ?_, g1, g2, by have := h.W.l0; show 0 ≤ s.last + (K : Int); omega, by show s.last + (K : Int) ≤ 1000000; omega, by show (putsL s a b m K).length ≤ 1000000; omega⟩, fun hr => (hne _ (by omega) (by omega) (by omega) (by have := n7 hr; omega) (l7 hr)).trans (h.R hr), h.rn, h.lt0, h.lt1, h.nw0, h.nw1⟩
    · rw [hat _ lb (by omega)]; simp [Hp.sets, Hp.set]
    · rw [hat _ la (by omega)]; simp [Hp.sets, Hp.set]
    · rw [hat _ l6 (by omega)]; simp [Hp.sets, Hp.set, calOb]
    · show OwnV e_t124 _ (ownS top (s.l.length + K)) (putsL s a b m K)
      rw [← g3]
      refine .blk top _ ?_ (by omega)
      rw [eU, sets_app, sets_app]
      simp [Hp.sets, Hp.set, ownO]
/-! ### Tick -/
def tickS (s : NetS) : NetS := if s.now < 1099511627776 then { s with now := s.now + 1, l := s.l.drop (tickK s) } else s
def tickW (lv : Value) (s : NetS) : Value := if s.now < 1099511627776 then cutV lv s.l 0 (tickK s) else lv
def tickL (s : NetS) : List T_Arrive := if s.now < 1099511627776 then outs_r s.l (tickK s) else []
theorem tickV_mk {s : NetS} {top : Nat} : tickV s top = mkSl top (tickL s) := by unfold tickV tickL; split <;> rfl
theorem up_drop_r {l : List T_t124} (h : up_r l) (k : Nat) : up_r (l.drop k) := List.Pairwise.drop h
theorem NetAt.tick {hp : Hp} {n top : Nat} {lv : Value} {s : NetS} (h : NetAt hp n lv s) (h8 : n + 7 < top) (lvs : Sc top lv) : NetAt (hp.sets (tickU n lv s top)) n (tickW lv s) (tickS s) := by
  unfold tickU tickW tickS
  by_cases c : s.now < 1099511627776
  case neg => rw [if_neg c, if_neg c, if_neg c]; exact h
  rw [if_pos c, if_pos c, if_pos c]
  have hkl := kF_r_le s.l (s.now + 1)
  have hcut : cutOut s.l 0 (tickK s) = s.l.drop (tickK s) := by unfold cutOut; simp
  have lb : Apart (n + 4) lv := h.W.off (j := n + 4) fun vs e => by rw [h.P] at e; exact absurd (cellZ e) (by decide)
  have la : Apart (n + 5) lv := h.W.off (j := n + 5) fun vs e => by rw [h.M] at e; cases e
  have l0 : Apart n lv := h.W.off (j := n) fun vs e => by rw [h.h] at e; exact absurd (cellZ e) (by decide)
  have l1 : Apart (n + 1) lv := h.W.off (j := n + 1) fun vs e => by rw [h.L] at e; cases e
  have l2 : Apart (n + 2) lv := h.W.off (j := n + 2) fun vs e => by rw [h.C] at e; cases e
  have l3 : Apart (n + 3) lv := h.W.off (j := n + 3) fun vs e => by rw [h.S] at e; cases e
  have l6 : Apart (n + 6) lv := h.W.ap
  have l7 : s.R ≠ [] → Apart (n + 7) lv := fun hr => h.W.off (j := n + 7) fun vs e => by
    rw [h.R hr] at e
    cases hl : s.R with
    | nil => exact hr hl
    | cons x l => rw [hl] at e; exact absurd (cellZ e) (by decide)
  have n7 : s.R ≠ [] → n + 7 < top := fun _ => h8
  have hcu : ∀ p ∈ cutU e_t124 lv s.l 0 (tickK s), Apart p.1 lv → False := fun p hp hA => by
    rcases cut_cases_r h.W.o hkl with ⟨_, c2⟩ | ⟨q, c0, _, c2⟩
    · rw [show tickK s = kF_r s.l (s.now + 1) from rfl, c2] at hp; cases hp
    · rw [show tickK s = kF_r s.l (s.now + 1) from rfl, c2] at hp
      simp at hp; subst hp; rw [c0] at hA; exact hA rfl
  have hat : ∀ j, Apart j lv → j ≠ top → (hp.sets ((n, netOb n { s with now := s.now + 1 }) :: (n + 6, calOb s.last (cutV lv s.l 0 (tickK s))) :: (top, mkOb e_Arrive (outs_r s.l (tickK s))) :: cutU e_t124 lv s.l 0 (tickK s))) j = (hp.sets [(n, netOb n { s with now := s.now + 1 }), (n + 6, calOb s.last (cutV lv s.l 0 (tickK s)))]) j := fun j h1 h2 => by
    simp only [sets_cons, sets_nil]
    rw [sets_off fun p hp e => hcu p hp (by rw [e]; exact h1), set_ne _ _ _ _ h2]
  have off : ∀ j, Apart j lv → j ≠ top → j ≠ n → j ≠ n + 6 → (hp.sets ((n, netOb n { s with now := s.now + 1 }) :: (n + 6, calOb s.last (cutV lv s.l 0 (tickK s))) :: (top, mkOb e_Arrive (outs_r s.l (tickK s))) :: cutU e_t124 lv s.l 0 (tickK s))) j = hp j := fun j h1 h2 h3 h4 => by
    rw [hat j h1 h2]; simp only [sets_cons, sets_nil]; rw [set_ne _ _ _ _ h4, set_ne _ _ _ _ h3]
  refine ⟨?_, (off _ l1 (by omega) (by omega) (by omega)).trans h.L, (off _ l2 (by omega) (by omega) (by omega)).trans h.C, (off _ l3 (by omega) (by omega) (by omega)).trans h.S, (off _ lb (by omega) (by omega) (by omega)).trans h.P, (off _ la (by omega) (by omega) (by omega)).trans h.M, h.pl, ⟨?_, ?_, up_drop_r h.W.up _, fun a ha => h.W.tk a (List.mem_of_mem_drop ha), h.W.l0, h.W.l1, by have := h.W.n; simp; omega⟩, fun hr => (off _ (l7 hr) (by have := n7 hr; omega) (by omega) (by omega)).trans (h.R hr), h.rn, h.lt0, h.lt1, by have := h.nw0; show 0 ≤ s.now + 1; omega, by show s.now + 1 ≤ 1099511627776; omega⟩
  · rw [hat _ l0 (by omega)]; simp [Hp.sets, Hp.set, netOb]
  · rw [hat _ l6 (by omega)]; simp [Hp.sets, Hp.set, calOb]
  · rcases cut_cases_r h.W.o hkl with ⟨c1, c2⟩ | ⟨q, c0, c1, c2⟩
    · have c1' : cutV lv s.l 0 (tickK s) = lv := c1
      have c2' : cutU e_t124 lv s.l 0 (tickK s) = [] := c2
      rw [c1', c2']
      rcases own_cases h.W.o with ⟨rfl, hn⟩ | ⟨q, rfl, hq⟩
      · rw [hn]; simp; exact .nil
      · have hz : tickK s = 0 := by
          by_cases e : (0 : Nat) = tickK s
          · exact e.symm
          · unfold cutU at c2'; rw [if_neg e] at c2'; simp at c2'
        rw [hz, List.drop_zero]
        have hqt : q < top := lvs
        refine h.W.o.mono fun b k c e => ?_
        cases e
        simp only [sets_cons, sets_nil]
        rw [set_ne _ _ _ _ (by omega), set_ne _ _ _ _ (fun e => l6 e.symm), set_ne _ _ _ _ (fun e => l0 e.symm)]
    · have c1' : cutV lv s.l 0 (tickK s) = _ := c1
      have c2' : cutU e_t124 lv s.l 0 (tickK s) = _ := c2
      rw [c1', c2', show cutOut s.l 0 (kF_r s.l (s.now + 1)) = s.l.drop (tickK s) from hcut]
      refine .blk q _ ?_ (by have := h.W.n; simp; omega)
      simp only [sets_cons, sets_nil]
      rw [set_same]; rfl
/-! ### kept -/
theorem NetAt.stay {hp hp' : Hp} {n top : Nat} {lv : Value} {s : NetS} (h : NetAt hp n lv s) (h8 : n + 7 < top) (lvs : Sc top lv) (hk : Keep top [] hp' hp) : NetAt hp' n lv s := by
  have k := hk.nil
  refine ⟨(k _ (by omega)).trans h.h, (k _ (by omega)).trans h.L, (k _ (by omega)).trans h.C, (k _ (by omega)).trans h.S, (k _ (by omega)).trans h.P, (k _ (by omega)).trans h.M, h.pl, ⟨(k _ (by omega)).trans h.W.h, h.W.o.mono fun b _ c e => k b (by rw [e] at lvs; exact lvs), h.W.up, h.W.tk, h.W.l0, h.W.l1, h.W.n⟩, fun hr => (k _ h8).trans (h.R hr), h.rn, h.lt0, h.lt1, h.nw0, h.nw1⟩
theorem sc_up {a b : Nat} {v : Value} {hp : Hp} {l : List T_t124} (o : OwnV e_t124 hp v l) (h : Sc a v) (hab : a ≤ b) : Sc b v := by
  rcases own_cases o with ⟨rfl, _⟩ | ⟨q, rfl, _⟩
  · trivial
  · exact Nat.lt_of_lt_of_le (show q < a from h) hab
theorem sc_send {top T : Nat} {lv : Value} {s : NetS} {a b : Int} {m : List UInt8} {hp : Hp} (o : OwnV e_t124 hp lv s.l) (h : Sc T lv) (hT : T ≤ top) : Sc (top + 1) (sendV lv s a b m top) := by
  unfold sendV
  split
  · exact sc_up o h (by omega)
  · exact Nat.lt_succ_self top
theorem sc_tick {top : Nat} {lv : Value} {s : NetS} {hp : Hp} (h : Sc top lv) (o : OwnV e_t124 hp lv s.l) : Sc top (tickW lv s) := by
  unfold tickW
  split
  · rcases cut_cases_r o (kF_r_le s.l (s.now + 1)) with ⟨c1, _⟩ | ⟨b, c0, c1, _⟩
    · rw [show cutV lv s.l 0 (tickK s) = lv from c1]; exact h
    · rw [show cutV lv s.l 0 (tickK s) = _ from c1]; rw [c0] at h; exact h
  · exact h
end Go.Proofs.Ytmppehipfpkepaa.Dm
/- The net: one, works. -/
set_option linter.unusedSimpArgs false
set_option linter.unusedVariables false
namespace Go.Proofs.Ytmppehipfpkepaa.Dm
open Go.Dm
set_option maxHeartbeats 16000000
set_option maxRecDepth 20000
noncomputable def G13_r : FuncId → Con := addG G12_r 9 conThree
theorem env13_r : EnvV Try.prog tt.get G13_r := env12_r.add three_ok
theorem eqA_i (d : Nat) {x y : Int} : eqA tt.get (d + 1) 3 (.int .i64 x) (.int .i64 y) = some (decide (x = y)) := by
  simp [eqA, t_int, ti3, eqI_dec]
theorem eqA_s (d : Nat) {x y : List UInt8} : eqA tt.get (d + 1) 9 (.string ⟨⟨x⟩⟩) (.string ⟨⟨y⟩⟩) = some (decide (x = y)) := by
  simp only [eqA, t_string, ti9, eqB_eq]
  by_cases h : x = y <;> simp [h]
theorem prI {x : Value} {l : List Value} : partA ti3 (x :: l) 0 = some x := rfl
theorem prI1 {x y : Value} {l : List Value} : partA ti3 (x :: y :: l) 1 = some y := rfl
theorem prS2 {x y z : Value} {l : List Value} : partA ti9 (x :: y :: z :: l) 2 = some z := rfl
theorem arr_eqA {a b : T_Arrive} : eqA tt.get 64 37 (.agg ⟨e_Arrive.enc a⟩) (.agg ⟨e_Arrive.enc b⟩) = some (decide (a = b)) := by
  cases a with | mk a0 a1 a2 =>
  cases b with | mk b0 b1 b2 =>
  rw [eqA]; simp only [t_Arrive, ti37, en_Arrive]
  rw [show (63 : Nat) = 62 + 1 from rfl]
  simp only [eqFields, show ("From" == "_") = false from rfl, show ("To" == "_") = false from rfl, show ("Bytes" == "_") = false from rfl, t_int, t_string, prI, prI1, prS2, eqA_i 61, eqA_i 60, eqA_s 59]
  by_cases h0 : a0 = b0 <;> by_cases h1 : a1 = b1 <;> by_cases h2 : a2 = b2 <;> simp [h0, h1, h2]
theorem arr_eql {xo yo : Operand} {a b : T_Arrive} : sbin2 tt.get .eql 37 xo yo (.agg ⟨e_Arrive.enc a⟩) (.agg ⟨e_Arrive.enc b⟩) = (.bool (decide (a = b)), True) := by
  have h : sbin2 tt.get .eql 37 xo yo (.agg ⟨e_Arrive.enc a⟩) (.agg ⟨e_Arrive.enc b⟩) = sbinX (binA tt.get .eql 37 xo yo (.agg ⟨e_Arrive.enc a⟩) (.agg ⟨e_Arrive.enc b⟩)) := by
    unfold sbin2; rw [t_Arrive]; unfold sbin; rw [show kindOf tt.get 37 = _ from rfl]; rfl
  rw [h]
  have h2 : binA tt.get .eql 37 xo yo (.agg ⟨e_Arrive.enc a⟩) (.agg ⟨e_Arrive.enc b⟩) = some (.bool (decide (a = b))) := by
    simp only [binA, t_Arrive, ti37, arr_eqA]
  rw [h2]; rfl
theorem arr_eqlC {xo yo : Operand} {a b : Int} {m : List UInt8} {x : T_Arrive} : sbin2 tt.get .eql 37 xo yo (.agg ⟨[.int .i64 x.From, .int .i64 x.To, .string ⟨⟨x.Bytes⟩⟩]⟩) (.agg ⟨[.int .i64 a, .int .i64 b, .string ⟨⟨m⟩⟩]⟩) = (.bool (decide (x = ⟨a, b, m⟩)), True) := arr_eql (a := x) (b := ⟨a, b, m⟩)
def conOne : Con := .pure (fun args hp => match args with | [v, x, y, m] => SlP e_Arrive hp v ∧ IsI .i64 x ∧ IsI .i64 y ∧ IsS m | _ => False) (fun args hp => match args with | [v, x, y, m] => .bool (decide (e_Arrive.rd hp v = [⟨intOf x, intOf y, strOf m⟩])) | _ => undef)
theorem i1 : (((0 + 1 : Nat) : Int) = 1) = True := by simp
theorem i0 : ¬ (((0 : Nat) : Int) = 1) := by decide
theorem one_ok : ConOk Try.prog 28 conOne := by
  refine .mkRd fn28_ok ?_ ?_
  · intro args hp h
    match args, h with
    | [v, x, y, m], _ => rfl
  intro args hp hpre top hcl hsc
  match args, hpre with
  | [v, x, y, m], ⟨⟨l, h⟩, hx, hy, hm⟩ =>
  rw [hx, hy, hm]
  generalize intOf x = x, intOf y = y
  generalize strOf m = m
  have hs := h.low hcl
  simp only [h.rd, intOf_int, strOf_string]
  refine CalledOk.of_fun tt_ok fn28_ok rfl 22 rfl [.tmp 8] rfl (show 4 ≤ 22 by decide) ?_
  match l, h with
  | [], h =>
    refine CW.vc env13_r [0, 1, 2, 3, 8] (by kernel_rfl) ?_
    (repeat ((try refine Vc.mk' ?_); simp only [go_sem, reduceIte, reduceCtorEq, Nat.reduceAdd, Nat.reduceMul, Nat.reduceSub, Nat.reduceLT, Nat.reduceLeDiff, Nat.reduceEqDiff, Int.reduceEq, Int.reduceLT, Int.reduceLE, Int.reduceNe, len_sArrive h, idx_sArrive h, ld_sArrive h, sh_sArrive h, sw_sArrive h, sf_sArrive_0 h, sc_sArrive_0 h, sf_sArrive_1 h, sc_sArrive_1 h, sf_sArrive_2 h, sc_sArrive_2 h, h.P, h.oc, h.cl, h.rd, h.ref, strip_P hs, strip_rd hs, strip_ld hs, strip_sl h hs k_sArrive, List.length_nil, Int.natCast_zero, i0]))
  | [a], h =>
    have hlt : 0 < [a].length := by simp
    have ld := ld_sArrive h hlt
    have ix : sindexAddr tt.get 34 v (.int .i64 0) = _ := idx_sArrive h (k := .i64) (n := 0) (by decide) (by simp)
    rw [Nat.zero_mul] at ld
    rw [show (0 : Int).toNat * 3 = 0 from rfl] at ix
    have ea : at' [a] 0 = a := rfl
    rw [ea] at ld
    refine CW.vc env13_r [0, 1, 2, 3, 8] (by kernel_rfl) ?_
    (repeat ((try refine Vc.mk' ?_); simp only [go_sem, reduceIte, reduceCtorEq, Nat.reduceAdd, Nat.reduceMul, Nat.reduceSub, Nat.reduceLT, Nat.reduceLeDiff, Nat.reduceEqDiff, Int.reduceEq, Int.reduceLT, Int.reduceLE, Int.reduceNe, len_sArrive h, idx_sArrive h, ld_sArrive h, sh_sArrive h, sw_sArrive h, sf_sArrive_0 h, sc_sArrive_0 h, sf_sArrive_1 h, sc_sArrive_1 h, sf_sArrive_2 h, sc_sArrive_2 h, h.P, h.oc, h.cl, h.rd, h.ref, strip_P hs, strip_rd hs, strip_ld hs, strip_sl h hs k_sArrive, List.length_cons, List.length_nil, ix, ld, i1, arr_eqlC]))
    simp
  | a :: b :: l, h =>
    have hn : ¬ (((l.length + 1 + 1 : Nat) : Int) = 1) := by omega
    refine CW.vc env13_r [0, 1, 2, 3, 8] (by kernel_rfl) ?_
    (repeat ((try refine Vc.mk' ?_); simp only [go_sem, reduceIte, reduceCtorEq, Nat.reduceAdd, Nat.reduceMul, Nat.reduceSub, Nat.reduceLT, Nat.reduceLeDiff, Nat.reduceEqDiff, Int.reduceEq, Int.reduceLT, Int.reduceLE, Int.reduceNe, len_sArrive h, idx_sArrive h, ld_sArrive h, sh_sArrive h, sw_sArrive h, sf_sArrive_0 h, sc_sArrive_0 h, sf_sArrive_1 h, sc_sArrive_1 h, sf_sArrive_2 h, sc_sArrive_2 h, h.P, h.oc, h.cl, h.rd, h.ref, strip_P hs, strip_rd hs, strip_ld hs, strip_sl h hs k_sArrive, List.length_cons, hn]))
    simp
end Go.Proofs.Ytmppehipfpkepaa.Dm
