/- NetCounts' law, without the program. -/
import Derived.Test.YtmppehipfpkepaaN23
set_option linter.unusedSimpArgs false
set_option linter.unusedVariables false
namespace Go.Proofs.Ytmppehipfpkepaa.Dm
open Go.Dm
set_option maxHeartbeats 4000000
set_option maxRecDepth 20000
def oneB (k : Nat) (t : T_t124) : Bool := decide (t.v_Bytes = [UInt8.ofNat k])
def cntK (k : Nat) (l : List T_t124) : Int := (l.countP (oneB k) : Int)
theorem cntK_nil (k : Nat) : cntK k [] = 0 := rfl
theorem cntK_cons (k : Nat) (t : T_t124) (l : List T_t124) : cntK k (t :: l) = cntK k l + (if oneB k t then 1 else 0) := by
  unfold cntK
  rw [List.countP_cons]
  split <;> simp
theorem cntK_app (k : Nat) (l m : List T_t124) : cntK k (l ++ m) = cntK k l + cntK k m := by
  unfold cntK; rw [List.countP_append]; omega
theorem cntK_nn (k : Nat) (l : List T_t124) : 0 ≤ cntK k l := Int.natCast_nonneg _
theorem ofNat_inj {j k : Nat} (hj : j < 256) (hk : k < 256) (h : UInt8.ofNat j = UInt8.ofNat k) : j = k := by
  have := congrArg UInt8.toNat h
  rw [UInt8.toNat_ofNat', UInt8.toNat_ofNat'] at this
  omega
theorem oneB_of {j k : Nat} {t : T_t124} (hj : j < 256) (hk : k < 256) (h : t.v_Bytes = [UInt8.ofNat j]) : oneB k t = decide (j = k) := by
  unfold oneB
  rw [h]
  by_cases e : j = k
  · subst e; simp
  · rw [decide_eq_false e, decide_eq_false]
    intro c
    exact e (ofNat_inj hj hk (by simpa using c))
theorem byte0_of {j : Nat} {t : T_t124} (hj : j < 256) (h : t.v_Bytes = [UInt8.ofNat j]) : byte0 (val_r t) = j := by
  unfold byte0 val_r
  rw [h]
  show (UInt8.ofNat j).toNat = j
  rw [UInt8.toNat_ofNat']; omega
theorem at_set {g : List Int} {j k : Nat} {v : Int} (hk : k < g.length) : at' (g.set j v) k = if j = k then v else at' g k := by
  rw [at'_get _ _ (by rw [List.length_set]; exact hk), List.getElem_set]
  split
  · rfl
  · rw [at'_get _ _ hk]
def Byted (b : Nat) (l : List T_t124) : Prop := ∀ t ∈ l, ∃ j, j < b ∧ t.v_Bytes = [UInt8.ofNat j]
theorem bump_at : ∀ (l : List T_t124) (g : List Int), g.length = 256 → Byted 256 l → (∀ k, k < 256 → 0 ≤ at' g k ∧ at' g k + cntK k l ≤ 4) → ∀ k, k < 256 → at' (bump g (l.map val_r)) k = at' g k + cntK k l
  | [], g, hg, _, _, k, _ => by rw [cntK_nil]; show at' g k = _; omega
  | t :: l, g, hg, hb, hv, k, hk => by
    obtain ⟨j, hj, ht⟩ := hb t (by simp)
    have e : bump g ((t :: l).map val_r) = bump (g.set j (wrapA .i64 (at' g j + 1))) (l.map val_r) := by
      unfold bump
      rw [List.map_cons, List.foldl_cons]
      unfold bump1
      rw [byte0_of hj ht]
    have hj0 := hv j hj
    have c0 := cntK_nn j l
    rw [cntK_cons, oneB_of hj hj ht] at hj0
    simp at hj0
    rw [wrap64 (by omega) (by omega)] at e
    rw [e, bump_at l _ (by rw [List.length_set]; exact hg) (fun t ht => hb t (List.mem_cons_of_mem _ ht)) ?_ k hk, at_set (by omega), cntK_cons, oneB_of hj hk ht]
    · by_cases c : j = k
      · subst c; simp; omega
      · simp [c]
    · intro i hi
      rw [at_set (by omega)]
      have hi0 := hv i hi
      rw [cntK_cons, oneB_of hj hi ht] at hi0
      by_cases c : j = i
      · subst c; simp at hi0 ⊢; omega
      · simp [c] at hi0 ⊢; omega
/-- what holds between two steps -/
structure Bal (late : Int) (s : NetS) (want got : List Int) (sent tk : Nat) : Prop where
  hw : want.length = 256
  hg : got.length = 256
  eq : ∀ k, k < 256 → at' got k + cntK k s.l = at' want k
  nn : ∀ k, k < 256 → 0 ≤ at' got k
  w2 : ∀ k, k < 256 → at' want k ≤ 2
  w0 : ∀ k, k < 256 → sent ≤ k → at' want k = 0
  by_ : Byted sent s.l
  at_ : ∀ t ∈ s.l, t.at_ ≤ s.now + 70
  len : s.l.length ≤ 2 * sent
  last : 0 ≤ s.last ∧ s.last ≤ 2 * (sent : Int)
  lt : s.late = late
  l1 : 1 ≤ late
  l6 : late ≤ 6
  L : s.L = (linksF L3).1
  R : s.R = R3
  m : ∀ e ∈ s.P.m, Fa.mayB e.2.1 = true
  sn : sent ≤ 250
  st : sent ≤ tk
  now0 : 0 ≤ s.now
  now : s.now ≤ (tk : Int)
  tk : tk ≤ 1000
theorem Bal.later {late : Int} {s : NetS} {want got : List Int} {sent tk : Nat} (B : Bal late s want got sent tk) (h : tk < 1000) : Bal late s want got sent (tk + 1) :=
  { B with st := by have := B.st; omega, now := by have := B.now; omega, tk := h }
theorem Bal.b256 {late : Int} {s : NetS} {want got : List Int} {sent tk : Nat} (B : Bal late s want got sent tk) : Byted 256 s.l := fun t ht => by
  obtain ⟨j, hj, e⟩ := B.by_ t ht
  exact ⟨j, by have := B.sn; omega, e⟩
/-- some are taken out: what they are is counted -/
theorem Bal.out {late : Int} {s s' : NetS} {want got : List Int} {sent tk : Nat} (B : Bal late s want got sent tk) (g : List T_t124) (hp : ∀ k, cntK k g + cntK k s'.l = cntK k s.l) (hg : ∀ t ∈ g, t ∈ s.l) (hk : s'.l.Sublist s.l)
    (e1 : s'.last = s.last) (e2 : s'.late = s.late) (e3 : s'.L = s.L) (e4 : s'.R = s.R) (e5 : s'.P = s.P) (e6 : s.now ≤ s'.now) (e7 : s'.now ≤ (tk : Int)) : Bal late s' want (bump got (g.map val_r)) sent tk := by
  have hb : ∀ k, k < 256 → at' (bump got (g.map val_r)) k = at' got k + cntK k g := bump_at g got B.hg (fun t ht => B.b256 t (hg t ht)) fun k hk => by
    have h1 := B.nn k hk
    have h2 := B.eq k hk
    have h3 := B.w2 k hk
    have h4 := hp k
    have h5 := cntK_nn k s'.l
    omega
  refine ⟨B.hw, by rw [bump_len]; exact B.hg, fun k hk => ?_, fun k hk => ?_, B.w2, B.w0, fun t ht => B.by_ t (hk.subset ht), fun t ht => ?_, Nat.le_trans hk.length_le B.len, by rw [e1]; exact B.last, e2.trans B.lt, B.l1, B.l6, e3.trans B.L, e4.trans B.R, by rw [e5]; exact B.m, B.sn, B.st, by have := B.now0; omega, e7, B.tk⟩
  · rw [hb k hk]
    have := B.eq k hk
    have := hp k
    omega
  · rw [hb k hk]
    have := B.nn k hk
    have := cntK_nn k g
    omega
  · have := B.at_ t (hk.subset ht); omega
theorem cnt_filter (k : Nat) (p : T_t124 → Bool) : ∀ l : List T_t124, cntK k (l.filter p) + cntK k (keptP p l) = cntK k l
  | [] => rfl
  | t :: l => by
    have ih := cnt_filter k p l
    unfold keptP at ih ⊢
    cases h : p t with
    | true => rw [List.filter_cons_of_pos h, List.filter_cons_of_neg (by simp [h]), cntK_cons, cntK_cons]; omega
    | false => rw [List.filter_cons_of_neg (by simp [h]), List.filter_cons_of_pos (by simp [h]), cntK_cons, cntK_cons]; omega
def cutL (s : NetS) (a b : Int) : List T_Arrive := if cutE s a b = 0 then goneA (isDown (cutC s a b)) s.l else []
def stopL (s : NetS) (a : Int) : List T_Arrive := if stopE s a = 0 then goneA (isDown (stopC s a)) s.l else []
theorem Bal.cut {late : Int} {s : NetS} {want got : List Int} {sent tk : Nat} (B : Bal late s want got sent tk) (a b : Int) : Bal late (cutS s a b) want (bump got (cutL s a b)) sent tk := by
  unfold cutS cutL
  split
  · exact B.out (s.l.filter (isDown (cutC s a b))) (fun k => cnt_filter k _ s.l) (fun t ht => (List.mem_filter.1 ht).1) List.filter_sublist rfl rfl rfl rfl rfl (Int.le_refl _) B.now
  · exact B
theorem Bal.stop {late : Int} {s : NetS} {want got : List Int} {sent tk : Nat} (B : Bal late s want got sent tk) (a : Int) : Bal late (stopS s a) want (bump got (stopL s a)) sent tk := by
  unfold stopS stopL
  split
  · exact B.out (s.l.filter (isDown (stopC s a))) (fun k => cnt_filter k _ s.l) (fun t ht => (List.mem_filter.1 ht).1) List.filter_sublist rfl rfl rfl rfl rfl (Int.le_refl _) B.now
  · exact B
theorem Bal.same {late : Int} {s s' : NetS} {want got : List Int} {sent tk : Nat} (B : Bal late s want got sent tk) (e0 : s'.l = s.l) (e1 : s'.last = s.last) (e2 : s'.late = s.late) (e3 : s'.L = s.L) (e4 : s'.R = s.R) (e5 : s'.P = s.P) (e6 : s'.now = s.now) : Bal late s' want got sent tk := by
  have := B.out (s' := s') [] (fun k => by rw [cntK_nil, e0]; omega) (by simp) (by rw [e0]; exact List.Sublist.refl _) e1 e2 e3 e4 e5 (by omega) (by rw [e6]; exact B.now)
  exact this
theorem Bal.mend {late : Int} {s : NetS} {want got : List Int} {sent tk : Nat} (B : Bal late s want got sent tk) (a b : Int) : Bal late (mendS s a b) want got sent tk := by
  unfold mendS
  split
  · exact B.same rfl rfl rfl rfl rfl rfl rfl
  · exact B
theorem Bal.start {late : Int} {s : NetS} {want got : List Int} {sent tk : Nat} (B : Bal late s want got sent tk) (a : Int) : Bal late (startS s a) want got sent tk := by
  unfold startS
  split
  · exact B.same rfl rfl rfl rfl rfl rfl rfl
  · exact B
theorem Bal.tick {late : Int} {s : NetS} {want got : List Int} {sent tk : Nat} (B : Bal late s want got sent tk) (h : tk < 1000) : Bal late (tickS s) want (bump got (tickL s)) sent (tk + 1) ∧ (tickS s).now = s.now + 1 := by
  have hn := B.now
  have ht := B.tk
  have c : s.now < 1099511627776 := by omega
  unfold tickS tickL
  rw [if_pos c, if_pos c]
  refine ⟨(B.later h).out (s' := { s with now := s.now + 1, l := s.l.drop (tickK s) }) (s.l.take (tickK s)) (fun k => ?_) (fun t ht => List.mem_of_mem_take ht) (List.drop_sublist _ _) rfl rfl rfl rfl rfl (by show s.now ≤ s.now + 1; omega) (by show s.now + 1 ≤ _; omega), rfl⟩
  show _ + cntK k (s.l.drop (tickK s)) = _
  rw [← cntK_app, List.take_append_drop]
theorem Bal.ne {late : Int} {s : NetS} {want got : List Int} {sent tk : Nat} (B : Bal late s want got sent tk) {g : List T_t124} (hg : ∀ t ∈ g, t ∈ s.l) : ∀ x ∈ g.map val_r, x.Bytes ≠ [] := by
  intro x hx
  obtain ⟨t, ht, rfl⟩ := List.mem_map.1 hx
  obtain ⟨j, _, e⟩ := B.by_ t (hg t ht)
  show t.v_Bytes ≠ []
  rw [e]; simp
/-! ### Send -/
theorem insAt_perm {α : Type} (l : List α) (i : Nat) (t : α) : (insAt l i t).Perm (t :: l) := by
  unfold insAt
  exact List.perm_middle.trans (by rw [List.take_append_drop])
theorem cnt_put (k : Nat) (l : List T_t124) (t : T_t124) : cntK k (put_r l t) = cntK k l + (if oneB k t then 1 else 0) := by
  rw [← cntK_cons]
  unfold cntK put_r
  rw [(insAt_perm l (lb_r l t) t).countP_eq]
def PairOk (a b : Int) : Prop := (a = 1 ∧ b = 2) ∨ (a = 2 ∧ b = 1) ∨ (a = 2 ∧ b = 3) ∨ (a = 3 ∧ b = 2)
theorem mdel_sub {κ β : Type} [DecidableEq κ] : ∀ {m : List (κ × β × Nat)} {k : κ} {e : κ × β × Nat}, e ∈ mdel m k → e ∈ m
  | [], _, _, h => h
  | x :: m, k, e, h => by
    unfold mdel at h
    split at h
    · exact List.mem_cons_of_mem _ h
    · rcases List.mem_cons.1 h with rfl | h
      · simp
      · exact List.mem_cons_of_mem _ (mdel_sub h)
theorem mget_mem {κ β : Type} [DecidableEq κ] : ∀ {m : List (κ × β × Nat)} {k : κ} {r : β}, mget m k = some r → ∃ e ∈ m, e.2.1 = r
  | [], _, _, h => by cases h
  | x :: m, k, r, h => by
    unfold mget at h
    split at h
    · exact ⟨x, by simp, by simpa using h⟩
    · obtain ⟨e, he, hr⟩ := mget_mem h
      exact ⟨e, List.mem_cons_of_mem _ he, hr⟩
/-- what Ask answers, when it may -/
structure AskG (p : Fa.PlanS) (a b : Int) : Prop where
  e : (Fa.askF p a b).2.2 = 0
  l0 : 0 ≤ (Fa.askF p a b).2.1.Late
  l1 : (Fa.askF p a b).2.1.Late ≤ 64
  s0 : 0 ≤ (Fa.askF p a b).2.1.Second
  s1 : (Fa.askF p a b).2.1.Second ≤ 64
  m : ∀ e ∈ (Fa.askF p a b).1.m, Fa.mayB e.2.1 = true
theorem ask_good {p : Fa.PlanS} {a b : Int} (hm : ∀ e ∈ p.m, Fa.mayB e.2.1 = true) (h : PairOk a b) : AskG p a b := by
  have hr : Fa.rightB a b = true := by
    unfold Fa.rightB
    rw [decide_eq_true_eq]
    rcases h with ⟨rfl, rfl⟩ | ⟨rfl, rfl⟩ | ⟨rfl, rfl⟩ | ⟨rfl, rfl⟩ <;> decide
  cases hg : mget p.m ⟨a, b, Fa.bumpP p.ks a b⟩ with
  | none =>
    have hx : Fa.askF p a b = ({ p with ks := p.ks.set (a.toNat * 25 + b.toNat) (Fa.bumpP p.ks a b) }, ⟨1, 0, 0⟩, 0) := by
      unfold Fa.askF
      rw [if_neg (by rw [hr]; simp), hg]
    refine ⟨?_, ?_, ?_, ?_, ?_, ?_⟩ <;> rw [hx]
    · exact Int.le_refl 0
    · show (0 : Int) ≤ 64; decide
    · exact Int.le_refl 0
    · show (0 : Int) ≤ 64; decide
    · exact hm
  | some r =>
    have hx : Fa.askF p a b = (⟨mdel p.m ⟨a, b, Fa.bumpP p.ks a b⟩, p.clk, p.ks.set (a.toNat * 25 + b.toNat) (Fa.bumpP p.ks a b)⟩, Fa.fateOf r, 0) := by
      unfold Fa.askF
      rw [if_neg (by rw [hr]; simp), hg]
    obtain ⟨e, he, hre⟩ := mget_mem hg
    have hy := hm e he
    rw [hre] at hy
    have hb : (r.Kind = 1 ∧ r.By = 0) ∨ ((r.Kind = 2 ∨ r.Kind = 3) ∧ 1 ≤ r.By ∧ r.By ≤ 64) := by
      unfold Fa.mayB at hy
      simp only [Bool.and_eq_true] at hy
      obtain ⟨_, hy⟩ := hy
      by_cases c1 : r.Kind = 1
      · rw [if_pos c1] at hy; exact .inl ⟨c1, by simpa using hy⟩
      · rw [if_neg c1] at hy
        by_cases c2 : r.Kind = 2 ∨ r.Kind = 3
        · rw [if_pos c2] at hy; exact .inr ⟨c2, by simpa using hy⟩
        · rw [if_neg c2] at hy; cases hy
    have hf : 0 ≤ (Fa.fateOf r).Late ∧ (Fa.fateOf r).Late ≤ 64 ∧ 0 ≤ (Fa.fateOf r).Second ∧ (Fa.fateOf r).Second ≤ 64 := by
      unfold Fa.fateOf
      split
      · show (0 : Int) ≤ 0 ∧ (0 : Int) ≤ 64 ∧ 0 ≤ r.By ∧ r.By ≤ 64; omega
      · split
        · show (0 : Int) ≤ r.By ∧ r.By ≤ 64 ∧ (0 : Int) ≤ 0 ∧ (0 : Int) ≤ 64; omega
        · show (0 : Int) ≤ 0 ∧ (0 : Int) ≤ 64 ∧ (0 : Int) ≤ 0 ∧ (0 : Int) ≤ 64; omega
    refine ⟨?_, ?_, ?_, ?_, ?_, ?_⟩ <;> rw [hx]
    · exact hf.1
    · exact hf.2.1
    · exact hf.2.2.1
    · exact hf.2.2.2
    · exact fun e he => hm e (mdel_sub he)
theorem cost3 {s : NetS} (hL : s.L = (linksF L3).1) {a b : Int} (h : PairOk a b) : ¬ costF s a b = 0 := by
  unfold costF
  rw [hL]
  rcases h with ⟨rfl, rfl⟩ | ⟨rfl, rfl⟩ | ⟨rfl, rfl⟩ | ⟨rfl, rfl⟩ <;> decide +kernel
theorem atF_is {s : NetS} {by_ : Int} (h1 : 0 ≤ s.now) (h2 : s.now ≤ 1000) (h3 : 1 ≤ s.late) (h4 : s.late ≤ 6) (h5 : 0 ≤ by_) (h6 : by_ ≤ 64) : atF s by_ = s.now + s.late + by_ := by
  unfold atF
  rw [wrapU h5 (by omega), wrapU (by omega) (by omega)]
theorem putsL_cnt (s : NetS) (a b : Int) (m : List UInt8) (k : Nat) : ∀ c : Nat, cntK k (putsL s a b m c) = cntK k s.l + (if m = [UInt8.ofNat k] then (c : Int) else 0)
  | 0 => by show cntK k s.l = _; simp
  | 1 => by
    show cntK k (put_r s.l _) = _
    rw [cnt_put]
    unfold oneB
    by_cases e : m = [UInt8.ofNat k] <;> simp [e]
  | c + 2 => by
    show cntK k (put_r (putsL s a b m (c + 1)) _) = _
    rw [cnt_put, putsL_cnt s a b m k (c + 1)]
    unfold oneB
    by_cases e : m = [UInt8.ofNat k] <;> simp [e]; omega
theorem putsL_mem (s : NetS) (a b : Int) (m : List UInt8) : ∀ (c : Nat) {t : T_t124}, t ∈ putsL s a b m c → t ∈ s.l ∨ (t.v_Bytes = m ∧ (t.at_ = atF s (Fa.askF s.P a b).2.1.Late ∨ t.at_ = atF s (Fa.askF s.P a b).2.1.Second))
  | 0, t, h => .inl h
  | 1, t, h => by
    rcases put_r_mem.1 h with rfl | h
    · exact .inr ⟨rfl, .inl rfl⟩
    · exact .inl h
  | c + 2, t, h => by
    rcases put_r_mem.1 h with rfl | h
    · exact .inr ⟨rfl, .inr rfl⟩
    · exact putsL_mem s a b m (c + 1) h
theorem Bal.noX {late : Int} {s : NetS} {want got : List Int} {sent tk : Nat} (B : Bal late s want got sent tk) {a b : Int} (h : PairOk a b) : sendX s a b [UInt8.ofNat sent] ↔ upF s a b = false := by
  have := B.len
  have := B.sn
  constructor
  · rintro (c | c | c | c)
    · exact absurd c (cost3 B.L h)
    · simp at c
    · exact c
    · omega
  · exact fun c => .inr (.inr (.inl c))
theorem Bal.send {late : Int} {s : NetS} {want got : List Int} {sent tk : Nat} (B : Bal late s want got sent tk) {a b : Int} (h : PairOk a b) (hs : sent < 250) (hX : upF s a b = true) (ht : sent < tk) :
    Bal late (sendS s a b [UInt8.ofNat sent]) (want.set sent (copies s a b)) got (sent + 1) tk := by
  have hx : ¬ sendX s a b [UInt8.ofNat sent] := fun c => by rw [(B.noX h).1 c] at hX; cases hX
  have A := ask_good B.m h
  have hc := askF_cop s.P a b
  have hcn : ((copies s a b).toNat : Int) = copies s a b := by unfold copies; omega
  have hc2 : 0 ≤ copies s a b ∧ copies s a b ≤ 2 := by unfold copies; omega
  have hn := B.now
  have hk := B.tk
  have hn0 := B.now0
  have hl1 := B.l1
  have hl6 := B.l6
  have hlt := B.lt
  have a1 := atF_is (s := s) hn0 (by omega) (by omega) (by omega) A.l0 A.l1
  have a2 := atF_is (s := s) hn0 (by omega) (by omega) (by omega) A.s0 A.s1
  have al1 := A.l1
  have as1 := A.s1
  unfold sendS
  rw [if_neg hx]
  have hw0 : ∀ k, k < 256 → sent ≤ k → at' got k = 0 ∧ cntK k s.l = 0 := fun k hk hs => by
    have h1 := B.eq k hk
    rw [B.w0 k hk hs] at h1
    have h2 := B.nn k hk
    have h3 := cntK_nn k s.l
    omega
  refine ⟨by rw [List.length_set]; exact B.hw, B.hg, fun k hk => ?_, B.nn, fun k hk => ?_, fun k hk hs => ?_, fun t ht => ?_, fun t ht => ?_, ?_, ?_, hlt, hl1, hl6, B.L, B.R, A.m, by omega, by omega, hn0, hn, hk⟩
  · show at' got k + cntK k (putsL s a b _ (copies s a b).toNat) = _
    rw [putsL_cnt, at_set (by rw [B.hw]; exact hk)]
    by_cases e : sent = k
    · subst e
      have := hw0 sent hk (Nat.le_refl _)
      rw [if_pos rfl, if_pos rfl]; omega
    · rw [if_neg e, if_neg (fun c => e (ofNat_inj (by omega) hk (by simpa using c)))]
      have := B.eq k hk
      omega
  · rw [at_set (by rw [B.hw]; exact hk)]
    split
    · exact hc2.2
    · exact B.w2 k hk
  · rw [at_set (by rw [B.hw]; exact hk), if_neg (by omega)]
    exact B.w0 k hk (by omega)
  · rcases putsL_mem s a b _ _ ht with h | ⟨h, _⟩
    · obtain ⟨j, hj, e⟩ := B.by_ t h
      exact ⟨j, by omega, e⟩
    · exact ⟨sent, by omega, h⟩
  · rcases putsL_mem s a b _ _ ht with h | ⟨_, h | h⟩
    · exact B.at_ t h
    · show t.at_ ≤ s.now + 70; omega
    · show t.at_ ≤ s.now + 70; omega
  · show (putsL s a b _ (copies s a b).toNat).length ≤ _
    rw [putsL_len]
    have := B.len
    omega
  · show 0 ≤ s.last + ((copies s a b).toNat : Int) ∧ s.last + ((copies s a b).toNat : Int) ≤ _
    have := B.last
    omega
/-! ### Tick, to the end -/
/-- at the end -/
theorem Bal.done {late : Int} {s : NetS} {want got : List Int} {sent tk : Nat} (B : Bal late s want got sent tk) (h : s.l = []) (k : Nat) (hk : k < 256) : at' got k = at' want k := by
  have := B.eq k hk
  rw [h, cntK_nil] at this
  omega
end Go.Proofs.Ytmppehipfpkepaa.Dm
