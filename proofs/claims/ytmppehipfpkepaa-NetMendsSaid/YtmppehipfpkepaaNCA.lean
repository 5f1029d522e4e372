/- NetCounts: what lies in memory between two steps. -/
import Derived.Test.YtmppehipfpkepaaNCL
set_option linter.unusedSimpArgs false
set_option linter.unusedVariables false
namespace Go.Proofs.Ytmppehipfpkepaa.Dm
open Go.Dm
set_option maxHeartbeats 16000000
set_option maxRecDepth 20000
mutual
theorem ren_id : ∀ v : Value, ren id v = v
  | .bool _ => rfl
  | .int _ _ => rfl
  | .float _ _ => rfl
  | .complex _ _ _ => rfl
  | .string _ => rfl
  | .pointer none => rfl
  | .pointer (some ⟨_, _, _⟩) => rfl
  | .slice none _ _ => rfl
  | .slice (some ⟨_, _, none⟩) _ _ => rfl
  | .slice (some ⟨_, _, some _⟩) _ _ => rfl
  | .map none => rfl
  | .map (some _) => rfl
  | .chan _ => rfl
  | .func f ⟨a⟩ ⟨b⟩ => by rw [ren, renL_id a, renL_id b]
  | .nilFunc => rfl
  | .iface t v => by rw [ren, ren_id v]
  | .nilIface => rfl
  | .agg ⟨l⟩ => by rw [ren, renL_id l]
  | .tuple ⟨l⟩ => by rw [ren, renL_id l]
theorem renL_id : ∀ l : List Value, renL id l = l
  | [] => rfl
  | v :: l => by rw [renL, ren_id v, renL_id l]
end
theorem renO_id : ∀ o : AObj, renO id o = o
  | .cells rw e vs => by rw [renO, renL_id]
  | .map es clk => by
    rw [renO]
    have : es.map (renE id) = es := by
      induction es with
      | nil => rfl
      | cons e es ih => rw [List.map_cons, ih]; unfold renE; rw [ren_id, ren_id]
    rw [this]
  | .iter _ _ => rfl
  | .miter _ _ _ _ => rfl
theorem SubR.same {base : Nat} {s : SS} : SubR id base s s :=
  ⟨fun _ _ => rfl, fun _ h => h, fun _ _ _ _ h => h, fun _ v h => by rw [ren_id]; exact h, fun _ o h => by rw [renO_id]; exact h⟩
theorem SubR.fr_ {base : Nat} {fr fr' : SFr} {hp : Hp} {top : Nat} (h : frSub id fr' fr) : SubR id base ⟨fr', hp, top⟩ ⟨fr, hp, top⟩ :=
  ⟨fun _ _ => rfl, fun _ h => h, fun _ _ _ _ h => h, frSub_ok h, fun _ o h => by rw [renO_id]; exact h⟩
theorem NetAt.at_ {hp hp' : Hp} {n : Nat} {lv : Value} {s : NetS} (h : NetAt hp n lv s) (hk : ∀ j, n ≤ j → j ≤ n + 7 → hp' j = hp j) (hb : ∀ b k c, lv = .slice (some ⟨b, 0, none⟩) k c → hp' b = hp b) : NetAt hp' n lv s :=
  ⟨(hk _ (by omega) (by omega)).trans h.h, (hk _ (by omega) (by omega)).trans h.L, (hk _ (by omega) (by omega)).trans h.C, (hk _ (by omega) (by omega)).trans h.S, (hk _ (by omega) (by omega)).trans h.P, (hk _ (by omega) (by omega)).trans h.M, h.pl,
   ⟨(hk _ (by omega) (by omega)).trans h.W.h, h.W.o.mono fun b k c e => hb b k c e, h.W.up, h.W.tk, h.W.l0, h.W.l1, h.W.n⟩, fun hr => (hk _ (by omega) (by omega)).trans (h.R hr), h.rn, h.lt0, h.lt1, h.nw0, h.nw1⟩
/-- a loop whose family speaks of memory as it is -/
theorem CW.loopJ {P : Program} {sz base : Nat} {c : Code} {s : SS} {Q : Exit → SS → Prop} {α : Type} (J : α → SS → Prop) (μ : α → Nat) (x0 : α) (s0 : SS) (h0 : J x0 s0) (hs : SubR id base s0 s)
    (h : ∀ x s, J x s → CW P sz base c s (thenQ (fun s' => ∃ y s1, μ y < μ x ∧ J y s1 ∧ SubR id base s1 s') Q)) : CW P sz base (.loop c) s Q := by
  refine CW.loopR (fun y : α × SS => y.2) (fun y => J y.1 y.2) (fun y => μ y.1) (x0, s0) h0 ⟨id, hs⟩ ?_
  rintro ⟨x, s⟩ hx
  refine (h x s hx).mono ?_
  intro e s' h'
  cases e with
  | normal =>
    obtain ⟨y, s1, hm, hy, hs⟩ := h'
    exact ⟨(y, s1), hy, hm, id, hs⟩
  | _ => exact h'
structure NcAt (hp0 : Hp) (n : Nat) (want got : List Int) (hp : Hp) (top : Nat) (lv : Value) (s : NetS) : Prop where
  kp : Keep n [] hp hp0
  tp : n + 11 ≤ top
  net : NetAt hp n lv s
  hi : Hi (n + 11) lv
  sc : Sc top lv
  w : hp (n + 8) = mkOb e_int want
  q : hp (n + 9) = mkOb e_int got
  g : hp (n + 10) = some (.cells true 0 [mkSl (n + 9) got])
/-- names of the net, and new ones -/
def Own (n : Nat) (us : Upds) : Prop := ∀ p ∈ us, (n ≤ p.1 ∧ p.1 ≤ n + 7) ∨ n + 11 ≤ p.1
section
variable {hp0 hp : Hp} {n top : Nat} {want got : List Int} {lv : Value} {s : NetS}
theorem NcAt.sets (h : NcAt hp0 n want got hp top lv s) {us : Upds} (hu : Own n us) {lv' : Value} {s' : NetS} {top' : Nat} (hN : NetAt (hp.sets us) n lv' s') (hh : Hi (n + 11) lv') (hs : Sc top' lv') (ht : top ≤ top') : NcAt hp0 n want got (hp.sets us) top' lv' s' := by
  have off : ∀ j, n + 8 ≤ j → j ≤ n + 10 → (hp.sets us) j = hp j := fun j h1 h2 => sets_off fun p hp e => by have := hu p hp; omega
  refine ⟨?_, Nat.le_trans h.tp ht, hN, hh, hs, (off _ (by omega) (by omega)).trans h.w, (off _ (by omega) (by omega)).trans h.q, (off _ (by omega) (by omega)).trans h.g⟩
  rw [keep_sets fun p hp => by have := hu p hp; omega]
  exact h.kp
theorem NcAt.new (h : NcAt hp0 n want got hp top lv s) (o : Option AObj) : NcAt hp0 n want got (hp.set top o) (top + 1) lv s := by
  have t := h.tp
  refine h.sets (us := [(top, o)]) (fun p hp => ?_) (h.net.stay (top := top) (by omega) h.sc (by show Keep top [] (hp.set top o) hp; rw [Keep.set (by omega), Keep.refl]; trivial)) h.hi (sc_up h.net.W.o h.sc (by omega)) (by omega)
  simp at hp; subst hp; right; exact t
/-! ### the operations -/
def sendT (s : NetS) (a b : Int) (m : List UInt8) (top : Nat) : Nat := if sendX s a b m ∨ copies s a b = 0 then top else top + 1
theorem NcAt.drop (h : NcAt hp0 n want got hp top lv s) : ∀ p ∈ dropU lv, n + 11 ≤ p.1 := hi_drop h.net.W.o h.hi
theorem NcAt.send (h : NcAt hp0 n want got hp top lv s) (hla : s.last < 999990) (a b : Int) (m : List UInt8) : NcAt hp0 n want got (hp.sets (sendU n lv s a b m top)) (sendT s a b m top) (sendV lv s a b m top) (sendS s a b m) := by
  have t := h.tp
  refine h.sets (fun p hp => ?_) (h.net.send (by omega) h.sc hla a b m) (hi_sendV t h.hi) ?_ ?_
  · unfold sendU sendRes at hp
    split at hp
    · cases hp
    · simp only [List.mem_append] at hp
      rcases hp with hp | hp
      · simp [Fa.planUs] at hp; rcases hp with rfl | rfl <;> simp
      · unfold putsU at hp
        split at hp
        · cases hp
        · simp only [List.mem_cons, List.mem_append, List.not_mem_nil, or_false] at hp
          rcases hp with rfl | hp | rfl
          · simp
          · exact .inr (h.drop p hp)
          · exact .inr t
  · unfold sendV sendT
    split
    · exact h.sc
    · exact Nat.lt_succ_self top
  · unfold sendT
    split <;> omega
def tickT (s : NetS) (top : Nat) : Nat := if s.now < 1099511627776 then top + 1 else top
theorem NcAt.tick (h : NcAt hp0 n want got hp top lv s) : NcAt hp0 n want got (hp.sets (tickU n lv s top)) (tickT s top) (tickW lv s) (tickS s) := by
  have t := h.tp
  have hT : top ≤ tickT s top := by unfold tickT; split <;> omega
  refine h.sets (fun p hp => ?_) (h.net.tick (by omega) h.sc) (hi_tickW h.net.W.o h.hi) ?_ hT
  · unfold tickU at hp
    split at hp
    · simp only [List.mem_cons] at hp
      rcases hp with rfl | rfl | rfl | hp
      · simp
      · simp
      · exact .inr t
      · rcases cut_cases_r h.net.W.o (kF_r_le s.l (s.now + 1)) with ⟨_, c2⟩ | ⟨b, c0, _, c2⟩
        · rw [show tickK s = kF_r s.l (s.now + 1) from rfl, c2] at hp; cases hp
        · rw [show tickK s = kF_r s.l (s.now + 1) from rfl, c2] at hp
          simp at hp; subst hp; exact .inr (h.hi b _ _ c0)
    · cases hp
  · unfold tickW
    split
    · rcases cut_cases_r h.net.W.o (kF_r_le s.l (s.now + 1)) with ⟨c1, _⟩ | ⟨b, c0, c1, _⟩
      · rw [show cutV lv s.l 0 (tickK s) = lv from c1]; exact sc_up h.net.W.o h.sc hT
      · rw [show cutV lv s.l 0 (tickK s) = _ from c1]
        have := h.sc
        rw [c0] at this
        exact Nat.lt_of_lt_of_le (show b < top from this) hT
    · exact sc_up h.net.W.o h.sc hT
theorem mem_lost {p : Nat × Option AObj} {o : Upds} (h : NcAt hp0 n want got hp top lv s) {s' : NetS} {l : List T_t124} (hp_ : p ∈ (n + 6, calOb s'.last (dfV lv l)) :: (dfU e_t124 lv l ++ o)) (ho : ∀ p ∈ o, n + 11 ≤ p.1) : (n ≤ p.1 ∧ p.1 ≤ n + 7) ∨ n + 11 ≤ p.1 := by
  simp only [List.mem_cons, List.mem_append] at hp_
  rcases hp_ with rfl | hp_ | hp_
  · simp
  · rcases own_cases h.net.W.o with ⟨rfl, _⟩ | ⟨q, rfl, _⟩
    · cases hp_
    · simp [dfU] at hp_; subst hp_; exact .inr (h.hi q _ _ rfl)
  · exact .inr (ho p hp_)
theorem sc_df {lv : Value} {l : List T_t124} {a b : Nat} (o : OwnV e_t124 hp lv s.l) (h : Sc a lv) (hab : a ≤ b) : Sc b (dfV lv l) := by
  rcases own_cases o with ⟨rfl, _⟩ | ⟨q, rfl, _⟩
  · trivial
  · exact Nat.lt_of_lt_of_le (show q < a from h) hab
theorem hi_df {lv : Value} {l : List T_t124} {a : Nat} (o : OwnV e_t124 hp lv s.l) (h : Hi a lv) : Hi a (dfV lv l) := by
  rcases own_cases o with ⟨rfl, _⟩ | ⟨q, rfl, _⟩
  · exact h
  · intro b k c e; cases e; exact h q _ _ rfl
def cutT (s : NetS) (a b : Int) (top : Nat) : Nat := if cutE s a b = 0 then top + 1 else top
def cutX (n : Nat) (lv : Value) (s : NetS) (a b : Int) (top : Nat) : Upds := (cutRes n lv s a b top).2.1
theorem cutRes_u (n : Nat) (lv : Value) (s : NetS) (a b : Int) (top : Nat) : cutRes n lv s a b top = (.tuple ⟨[mkSl top (cutL s a b), .int .i64 (cutE s a b)]⟩, cutX n lv s a b top, cutT s a b top) := by
  unfold cutX cutT cutL cutRes
  split
  · rename_i c; rw [c]
  · rfl
theorem NcAt.cut (h : NcAt hp0 n want got hp top lv s) (a b : Int) : NcAt hp0 n want got (hp.sets (cutX n lv s a b top)) (cutT s a b top) (cutW lv s a b) (cutS s a b) := by
  have t := h.tp
  have hT : top ≤ cutT s a b top := by unfold cutT; split <;> omega
  refine h.sets (fun p hp => ?_) (h.net.cut (by omega) h.sc a b) ?_ ?_ hT
  · unfold cutX cutRes at hp
    split at hp
    · rcases List.mem_cons.1 hp with rfl | hp
      · simp
      · exact mem_lost h hp (by simp; omega)
    · cases hp
  · unfold cutW; split
    · exact hi_df h.net.W.o h.hi
    · exact h.hi
  · unfold cutW; split
    · exact sc_df h.net.W.o h.sc hT
    · exact sc_up h.net.W.o h.sc hT
def stopT (s : NetS) (a : Int) (top : Nat) : Nat := if stopE s a = 0 then top + 1 else top
def stopX (n : Nat) (lv : Value) (s : NetS) (a : Int) (top : Nat) : Upds := (stopRes n lv s a top).2.1
theorem stopRes_u (n : Nat) (lv : Value) (s : NetS) (a : Int) (top : Nat) : stopRes n lv s a top = (.tuple ⟨[mkSl top (stopL s a), .int .i64 (stopE s a)]⟩, stopX n lv s a top, stopT s a top) := by
  unfold stopX stopT stopL stopRes
  split
  · rename_i c; rw [c]
  · rfl
theorem NcAt.stop (h : NcAt hp0 n want got hp top lv s) (a : Int) : NcAt hp0 n want got (hp.sets (stopX n lv s a top)) (stopT s a top) (stopW lv s a) (stopS s a) := by
  have t := h.tp
  have hT : top ≤ stopT s a top := by unfold stopT; split <;> omega
  refine h.sets (fun p hp => ?_) (h.net.stop (by omega) h.sc a) ?_ ?_ hT
  · unfold stopX stopRes at hp
    split at hp
    · rcases List.mem_cons.1 hp with rfl | hp
      · simp
      · exact mem_lost h hp (by simp; omega)
    · cases hp
  · unfold stopW; split
    · exact hi_df h.net.W.o h.hi
    · exact h.hi
  · unfold stopW; split
    · exact sc_df h.net.W.o h.sc hT
    · exact sc_up h.net.W.o h.sc hT
theorem NcAt.mend (h : NcAt hp0 n want got hp top lv s) (a b : Int) : NcAt hp0 n want got (hp.sets (mendU n s a b)) top lv (mendS s a b) := by
  have t := h.tp
  refine h.sets (fun p hp => ?_) (h.net.mend a b) h.hi h.sc (Nat.le_refl _)
  unfold mendU at hp
  split at hp
  · simp at hp; subst hp; simp
  · cases hp
theorem NcAt.start (h : NcAt hp0 n want got hp top lv s) (a : Int) : NcAt hp0 n want got (hp.sets (startU n s a)) top lv (startS s a) := by
  have t := h.tp
  refine h.sets (fun p hp => ?_) (h.net.start a) h.hi h.sc (Nat.le_refl _)
  unfold startU at hp
  split at hp
  · simp at hp; subst hp; simp
  · cases hp
/-- the list that Tick, Cut or Stop hands out -/
theorem out_at {us : Upds} {top : Nat} {l : List T_Arrive} (hl : l.length ≤ 1000000) (h : l ≠ [] → (hp.sets us) top = mkOb e_Arrive l) : SlT e_Arrive (hp.sets us) (mkSl top l) l := by
  by_cases c : l = []
  · rw [c]; exact .nils
  · exact .own (h c) (by omega)
/-! ### the counter -/
end
end Go.Proofs.Ytmppehipfpkepaa.Dm
