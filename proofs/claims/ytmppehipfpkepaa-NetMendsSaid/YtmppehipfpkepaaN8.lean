/- The net: works. -/
import Derived.Test.YtmppehipfpkepaaN7
set_option linter.unusedSimpArgs false
set_option linter.unusedVariables false
namespace Go.Proofs.Ytmppehipfpkepaa.Dm
open Go.Dm
set_option maxHeartbeats 16000000
set_option maxRecDepth 20000
noncomputable def G14_r : FuncId → Con := addG G13_r 28 conOne
theorem env14_r : EnvV Try.prog tt.get G14_r := env13_r.add one_ok
theorem G14_three : G14_r 9 = conThree := rfl
theorem G14_send : G14_r 10 = conSend := rfl
theorem G14_tick : G14_r 12 = conTick := rfl
theorem G14_now : G14_r 11 = conNow := rfl
theorem G14_fly : G14_r 19 = conFly := rfl
theorem G14_one : G14_r 28 = conOne := rfl
theorem sendRes_ok {n X : Nat} {lv : Value} {s : NetS} {a b : Int} {m : List UInt8} {f : T_Fate} (hX : ¬ sendX s a b m) (hf : (Fa.askF s.P a b).2 = (f, 0)) (hc : f.Copies ≠ 0) :
    sendRes n lv s a b m X = (.tuple ⟨[.agg ⟨e_Fate.enc f⟩, .int .i64 0]⟩, sendU n lv s a b m X, X + 1) := by
  unfold sendU
  have e1 : (Fa.askF s.P a b).2.1 = f := by rw [hf]
  have e2 : (Fa.askF s.P a b).2.2 = 0 := by rw [hf]
  have hE : sendE s a b m.length = 0 := by
    unfold sendX at hX
    simp only [not_or] at hX
    unfold sendE; rw [if_neg hX.1, if_neg hX.2.1, if_neg hX.2.2.1, if_neg hX.2.2.2, e2]
  have hcp : ¬ copies s a b = 0 := by unfold copies; rw [e1]; exact hc
  unfold sendRes
  rw [if_neg (show ¬ (_ ∨ _) from hX), hE, e1, if_neg hcp]
theorem tickRes_ok {n X : Nat} {lv : Value} {s : NetS} (h : s.now < 1099511627776) : tickRes n lv s X = (mkSl X (tickL s), tickU n lv s X, X + 1) := by
  unfold tickRes; rw [if_pos h, tickV_mk]
theorem tickU_at {hp : Hp} {n X : Nat} {lv : Value} {s : NetS} (h : s.now < 1099511627776) (h8 : n + 7 < X) (lvs : Sc X lv) (o : OwnV e_t124 hp lv s.l) : (hp.sets (tickU n lv s X)) X = mkOb e_Arrive (tickL s) := by
  unfold tickU tickL
  rw [if_pos h, if_pos h]
  simp only [sets_cons]
  rw [sets_off]
  · exact set_same ..
  · intro p hp
    rcases cut_cases_r o (kF_r_le s.l (s.now + 1)) with ⟨_, c2⟩ | ⟨b, c0, _, c2⟩
    · rw [show tickK s = kF_r s.l (s.now + 1) from rfl, c2] at hp; cases hp
    · rw [show tickK s = kF_r s.l (s.now + 1) from rfl, c2] at hp
      simp at hp; subst hp
      rw [c0] at lvs
      exact Nat.ne_of_lt (show b < X from lvs)
/-! ### only what is new is written -/
def Hi (T : Nat) (v : Value) : Prop := ∀ b n c, v = .slice (some ⟨b, 0, none⟩) n c → T ≤ b
theorem Hi.nil {T : Nat} : Hi T (.slice none 0 0) := fun _ _ _ e => by cases e
theorem keep_sets {T : Nat} {us : Upds} {h hp : Hp} (hu : ∀ p ∈ us, T ≤ p.1) : Keep T [] (h.sets us) hp = Keep T [] h hp := by
  refine propext ⟨fun k i hi hn => ?_, fun k i hi hn => ?_⟩
  · have := k i hi hn
    rwa [sets_off fun p hp e => by have := hu p hp; omega] at this
  · rw [sets_off fun p hp e => by have := hu p hp; omega]; exact k i hi hn
theorem hi_drop {T : Nat} {lv : Value} {hp : Hp} {l : List T_t124} (o : OwnV e_t124 hp lv l) (h : Hi T lv) : ∀ p ∈ dropU lv, T ≤ p.1 := by
  rcases own_cases o with ⟨rfl, _⟩ | ⟨q, rfl, _⟩
  · intro p hp; cases hp
  · intro p hp; simp [dropU] at hp; subst hp; exact h q _ _ rfl
theorem hi_send {T n X : Nat} {lv : Value} {s : NetS} {a b : Int} {m : List UInt8} {hp : Hp} (o : OwnV e_t124 hp lv s.l) (hn : T ≤ n) (hX : T ≤ X) (h : Hi T lv) : ∀ p ∈ sendU n lv s a b m X, T ≤ p.1 := by
  intro p hp
  unfold sendU sendRes at hp
  split at hp
  · cases hp
  · simp only [List.mem_append] at hp
    rcases hp with hp | hp
    · simp [Fa.planUs] at hp; rcases hp with rfl | rfl <;> simp <;> omega
    · unfold putsU at hp
      split at hp
      · cases hp
      · simp only [List.mem_cons, List.mem_append, List.not_mem_nil, or_false] at hp
        rcases hp with rfl | hp | rfl
        · show T ≤ n + 6; omega
        · exact hi_drop o h p hp
        · exact hX
theorem hi_tick {T n X : Nat} {lv : Value} {s : NetS} {hp : Hp} (o : OwnV e_t124 hp lv s.l) (hn : T ≤ n) (hX : T ≤ X) (h : Hi T lv) : ∀ p ∈ tickU n lv s X, T ≤ p.1 := by
  intro p hp
  unfold tickU at hp
  split at hp
  · simp only [List.mem_cons] at hp
    rcases hp with rfl | rfl | rfl | hp
    · exact hn
    · show T ≤ n + 6; omega
    · exact hX
    · rcases cut_cases_r o (kF_r_le s.l (s.now + 1)) with ⟨_, c2⟩ | ⟨b, c0, _, c2⟩
      · rw [show tickK s = kF_r s.l (s.now + 1) from rfl, c2] at hp; cases hp
      · rw [show tickK s = kF_r s.l (s.now + 1) from rfl, c2] at hp
        simp at hp; subst hp; exact h b _ _ c0
  · cases hp
theorem hi_sendV {T X : Nat} {lv : Value} {s : NetS} {a b : Int} {m : List UInt8} (hX : T ≤ X) (h : Hi T lv) : Hi T (sendV lv s a b m X) := by
  unfold sendV
  split
  · exact h
  · intro b n c e; cases e; exact hX
theorem hi_tickW {T : Nat} {lv : Value} {s : NetS} {hp : Hp} (o : OwnV e_t124 hp lv s.l) (h : Hi T lv) : Hi T (tickW lv s) := by
  unfold tickW
  split
  · rcases cut_cases_r o (kF_r_le s.l (s.now + 1)) with ⟨c1, _⟩ | ⟨b, c0, c1, _⟩
    · rw [show cutV lv s.l 0 (tickK s) = lv from c1]; exact h
    · rw [show cutV lv s.l 0 (tickK s) = _ from c1]; intro b' n c e; cases e; exact h b _ _ c0
  · exact h
theorem hi_net {T n : Nat} {s : NetS} (hn : T ≤ n) : ∀ p ∈ netU n s, T ≤ p.1 := by
  intro p hp
  simp [netU] at hp
  rcases hp with rfl | rfl | rfl | rfl | rfl | rfl | rfl | rfl <;> simp <;> omega
def w0 : NetS := net3 [] 0 2
theorem w0_x : ¬ sendX w0 1 2 [97] := by decide +kernel
theorem w0_ask : (Fa.askF w0.P 1 2).2 = (⟨1, 0, 0⟩, 0) := by kernel_rfl
def w1 : NetS := sendS w0 1 2 [97]
def w2 : NetS := tickS w1
def w3 : NetS := tickS w2
theorem w1_l : w1.l = [⟨2, 1, 1, 2, [97]⟩] ∧ w1.now = 0 := ⟨by kernel_rfl, by kernel_rfl⟩
theorem w2_l : w2.l = [⟨2, 1, 1, 2, [97]⟩] ∧ w2.now = 1 := ⟨by kernel_rfl, by kernel_rfl⟩
theorem w3_l : w3.l = [] ∧ w3.now = 2 := ⟨by kernel_rfl, by kernel_rfl⟩
theorem w1_t : tickL w1 = [] := by kernel_rfl
theorem w2_t : tickL w2 = [⟨1, 2, [97]⟩] := by kernel_rfl
theorem three_w {X : Nat} : threeRes [] 2 X = (.pointer (some ⟨X, 0, none⟩), netU X w0, X + 8) := rfl
def conWorks : Con := .pure (fun args _ => args = []) (fun _ _ => .bool true)
theorem works_ok : ConOk Try.prog 8 conWorks := by
  refine .mkRd fn8_ok (fun _ _ _ => rfl) ?_
  rintro args hp rfl top hcl hsc
  have rP : ∀ {h' : Hp}, SlP e_Rule h' (.slice none 0 0) = True := fun {h'} => (SlT.nils (E := e_Rule) (hp := h')).P
  have rR : ∀ {h' : Hp}, e_Rule.rd h' (.slice none 0 0) = [] := fun {h'} => (SlT.nils (E := e_Rule) (hp := h')).rd
  have A0 : NetAt (hp.sets (netU top w0)) top (.slice none 0 0) w0 := NetAt.new rfl rfl (by kernel_rfl) (by decide) (by decide) (by decide) rfl
  have A1 := A0.send (top := top + 8) (by omega) trivial (by decide) 1 2 [97]
  obtain ⟨lv1, hlv1⟩ : ∃ v, sendV (.slice none 0 0) w0 1 2 [97] (top + 8) = v := ⟨_, rfl⟩
  have S1 : Sc (top + 9) lv1 := by rw [← hlv1]; exact sc_send A0.W.o (T := top + 8) trivial (by omega)
  rw [hlv1] at A1
  have B1 : ∀ {o : Option AObj}, NetAt (((hp.sets (netU top w0)).sets (sendU top (.slice none 0 0) w0 1 2 [97] (top + 8))).set (top + 9) o) top lv1 w1 := fun {o} => A1.stay (top := top + 9) (by omega) S1 (by rw [Keep.set (by omega), Keep.refl]; trivial)
  have r1 : ∀ {X : Nat}, sendRes top (.slice none 0 0) w0 1 2 [97] X = (.tuple ⟨[.agg ⟨[.int .i64 1, .int .i64 0, .int .i64 0]⟩, .int .i64 0]⟩, sendU top (.slice none 0 0) w0 1 2 [97] X, X + 1) := fun {X} => sendRes_ok w0_x w0_ask (by decide)
  have A0s := A0.s
  have A0v := A0.v
  have A0i := A0.is
  have B1s : ∀ {o : Option AObj}, _ := fun {o} => (B1 (o := o)).s
  have B1v : ∀ {o : Option AObj}, _ := fun {o} => (B1 (o := o)).v
  have B1i : ∀ {o : Option AObj}, _ := fun {o} => (B1 (o := o)).is
  have l0 : w0.last < 999990 := by decide
  have t1 : ∀ {X : Nat}, tickRes top lv1 w1 X = (mkSl X (tickL w1), tickU top lv1 w1 X, X + 1) := fun {X} => tickRes_ok (by rw [w1_l.2]; decide)
  have A2 : ∀ {o : Option AObj}, NetAt ((((hp.sets (netU top w0)).sets (sendU top (.slice none 0 0) w0 1 2 [97] (top + 8))).set (top + 9) o).sets (tickU top lv1 w1 (top + 10))) top (tickW lv1 w1) w2 := fun {o} => (B1 (o := o)).tick (top := top + 10) (by omega) (sc_up A1.W.o S1 (by omega))
  have S2 : Sc (top + 10) (tickW lv1 w1) := sc_tick (sc_up A1.W.o S1 (by omega)) A1.W.o
  obtain ⟨lv2, hlv2⟩ : ∃ v, tickW lv1 w1 = v := ⟨_, rfl⟩
  rw [hlv2] at S2
  simp only [hlv2] at A2
  have t2 : ∀ {X : Nat}, tickRes top lv2 w2 X = (mkSl X (tickL w2), tickU top lv2 w2 X, X + 1) := fun {X} => tickRes_ok (by rw [w2_l.2]; decide)
  have A3 : ∀ {o : Option AObj}, NetAt (((((hp.sets (netU top w0)).sets (sendU top (.slice none 0 0) w0 1 2 [97] (top + 8))).set (top + 9) o).sets (tickU top lv1 w1 (top + 10))).sets (tickU top lv2 w2 (top + 11))) top (tickW lv2 w2) w3 := fun {o} => (A2 (o := o)).tick (top := top + 11) (by omega) (sc_up (A2 (o := o)).W.o S2 (by omega))
  have T3 : ∀ {o : Option AObj}, SlT e_Arrive (((((hp.sets (netU top w0)).sets (sendU top (.slice none 0 0) w0 1 2 [97] (top + 8))).set (top + 9) o).sets (tickU top lv1 w1 (top + 10))).sets (tickU top lv2 w2 (top + 11))) (mkSl (top + 11) (tickL w2)) (tickL w2) := fun {o} =>
    .own (tickU_at (by rw [w2_l.2]; decide) (by omega) (sc_up (A2 (o := o)).W.o S2 (by omega)) (A2 (o := o)).W.o) (by rw [w2_t]; decide)
  have A2s : ∀ {o : Option AObj}, _ := fun {o} => (A2 (o := o)).s
  have A2v : ∀ {o : Option AObj}, _ := fun {o} => (A2 (o := o)).v
  have A2i : ∀ {o : Option AObj}, _ := fun {o} => (A2 (o := o)).is
  have A3s : ∀ {o : Option AObj}, _ := fun {o} => (A3 (o := o)).s
  have A3i : ∀ {o : Option AObj}, _ := fun {o} => (A3 (o := o)).is
  have T3p : ∀ {o : Option AObj}, _ := fun {o} => (T3 (o := o)).P
  have T3r : ∀ {o : Option AObj}, _ := fun {o} => (T3 (o := o)).rd
  have q1 : ((w1.l.length : Nat) : Int) = 1 := by rw [w1_l.1]; rfl
  have q2 : (((tickL w1).length : Nat) : Int) = 0 := by rw [w1_t]; rfl
  have q3 : ((w3.l.length : Nat) : Int) = 0 := by rw [w3_l.1]; rfl
  have q4 : w3.now = 2 := w3_l.2
  have q5 : decide (tickL w2 = [⟨1, 2, [97]⟩]) = true := by rw [w2_t]; decide
  have k1 := hi_send (s := w0) (n := top) (X := top + 8) (a := 1) (b := 2) (m := [97]) A0.W.o (Nat.le_refl _) (by omega) Hi.nil
  have H1 : Hi top lv1 := by rw [← hlv1]; exact hi_sendV (by omega) Hi.nil
  have k2 := hi_tick (s := w1) (n := top) (X := top + 10) A1.W.o (Nat.le_refl _) (by omega) H1
  have H2 : Hi top lv2 := by rw [← hlv2]; exact hi_tickW A1.W.o H1
  have k3 := hi_tick (s := w2) (n := top) (X := top + 11) (A2 (o := none)).W.o (Nat.le_refl _) (by omega) H2
  refine CalledOk.of_fun tt_ok fn8_ok rfl 45 rfl [.tmp 0] rfl (show 0 ≤ 45 by decide) ?_
  refine CW.vc env14_r [0, 1, 2, 3, 6] (by kernel_rfl) ?_
  (repeat ((try refine Vc.mk' ?_); simp only [go_sem, reduceIte, reduceCtorEq, Nat.reduceAdd, Nat.reduceMul, Nat.reduceSub, Nat.reduceLT, Nat.reduceLeDiff, Nat.reduceEqDiff, Int.reduceEq, Int.reduceLT, Int.reduceLE, Int.reduceNe, G14_three, conThree, G14_send, conSend, G14_tick, conTick, G14_now, conNow, G14_fly, conFly, G14_one, conOne, three_w, rP, rR, A0s, A0v, A0i, r1, l0, B1s, B1v, B1i, t1, t2, A2s, A2v, A2i, A3s, A3i, T3p, T3r, q1, q2, q3, q4, q5]))
  rw [keep_sets k3, keep_sets k2, Keep.set (by omega), keep_sets k1, keep_sets (hi_net (Nat.le_refl _)), Keep.refl]; trivial
end Go.Proofs.Ytmppehipfpkepaa.Dm
