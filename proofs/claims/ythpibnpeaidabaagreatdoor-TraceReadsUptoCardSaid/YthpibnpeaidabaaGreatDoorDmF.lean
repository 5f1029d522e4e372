/- The abstract machine, a part of it: operations, regions, code and calls run over values with named blocks; each step is shown of the real run. -/
import Derived.Test.YthpibnpeaidabaaGreatDoorDmE
set_option linter.unusedSimpArgs false
set_option linter.unusedVariables false
/- Names of blocks may be changed: a state is canonical when its own blocks are named in order. -/
namespace Go.Dm
mutual
/-- a value whose blocks are named anew -/
def ren (ρ : Nat → Nat) : Value → Value
  | .pointer (some ⟨b, o, s⟩) => .pointer (some ⟨ρ b, o, s⟩)
  | .slice (some ⟨b, o, none⟩) n c => .slice (some ⟨ρ b, o, none⟩) n c
  | .map (some b) => .map (some (ρ b))
  | .agg ⟨l⟩ => .agg ⟨renL ρ l⟩
  | .tuple ⟨l⟩ => .tuple ⟨renL ρ l⟩
  | .iface t v => .iface t (ren ρ v)
  | .func f ⟨a⟩ ⟨b⟩ => .func f ⟨renL ρ a⟩ ⟨renL ρ b⟩
  | v => v
def renL (ρ : Nat → Nat) : List Value → List Value
  | [] => []
  | v :: l => ren ρ v :: renL ρ l
end
def renE (ρ : Nat → Nat) (e : MapEntry) : MapEntry := { e with key := ren ρ e.key, val := ren ρ e.val }
def renO (ρ : Nat → Nat) : AObj → AObj
  | .cells rw esz vs => .cells rw esz (renL ρ vs)
  | .map es clk => .map (es.map (renE ρ)) clk
  | .iter s p => .iter s p
  | .miter m since seen c => .miter (ρ m) since seen c
  | .raw b vs => .raw b vs
theorem renL_map (ρ : Nat → Nat) : ∀ l, renL ρ l = l.map (ren ρ)
  | [] => rfl
  | v :: l => by rw [renL, renL_map ρ l]; rfl
theorem renL_append (ρ : Nat → Nat) (l m : List Value) : renL ρ (l ++ m) = renL ρ l ++ renL ρ m := by simp only [renL_map, List.map_append]
theorem renL_length (ρ : Nat → Nat) (l : List Value) : (renL ρ l).length = l.length := by simp only [renL_map, List.length_map]
/-- names read through -/
def Ren.via (φ : Ren) (ρ : Nat → Nat) : Ren := fun j => φ (ρ j)
mutual
theorem V.unren {φ : Ren} {ρ : Nat → Nat} : ∀ {v x : Value}, V φ (ren ρ v) x → V (φ.via ρ) v x := by
  intro v x h
  match v with
  | .bool b => cases h; exact .bool b
  | .int k n => cases h; exact .int k n
  | .float k n => cases h
  | .complex k a b => cases h
  | .string s => cases h; exact .str s
  | .pointer none => cases h; exact .nilp
  | .pointer (some ⟨b, o, s⟩) =>
    simp only [ren] at h
    cases h with
    | ptr _ _ L hL => exact .ptr _ _ L hL
  | .slice none n c => cases h; exact .nils
  | .slice (some ⟨b, o, none⟩) n c =>
    simp only [ren] at h
    generalize hb : ρ b = b' at h
    cases h with
    | slice _ _ _ _ c' L hL hn hc hl => exact .slice _ _ _ _ c' L (by rw [← hb] at hL; exact hL) hn hc hl
  | .slice (some ⟨b, o, some s⟩) n c =>
    have e : ren ρ (.slice (some ⟨b, o, some s⟩) n c) = .slice (some ⟨b, o, some s⟩) n c := by unfold ren; rfl
    rw [e] at h
    cases h
    exact .emp _ _
  | .map none => cases h; exact .nilm
  | .map (some b) =>
    simp only [ren] at h
    cases h with
    | map _ L hL => exact .map _ L hL
  | .chan r => cases h
  | .func f ⟨a⟩ ⟨b⟩ =>
    simp only [ren] at h
    cases h with
    | func _ _ a' _ b' ha hb => exact .func _ _ _ _ _ (Vs.unren ha) (Vs.unren hb)
  | .nilFunc => cases h; exact .nilf
  | .iface t v =>
    simp only [ren] at h
    cases h with
    | iface _ _ v' hv => exact .iface _ _ _ (V.unren hv)
  | .nilIface => cases h; exact .nili
  | .agg ⟨l⟩ =>
    simp only [ren] at h
    cases h with
    | agg _ l' hl => exact .agg _ _ (Vs.unren hl)
  | .tuple ⟨l⟩ =>
    simp only [ren] at h
    cases h with
    | tuple _ l' hl => exact .tuple _ _ (Vs.unren hl)
theorem Vs.unren {φ : Ren} {ρ : Nat → Nat} : ∀ {l m : List Value}, Vs φ (renL ρ l) m → Vs (φ.via ρ) l m := by
  intro l m h
  match l with
  | [] => cases h; exact .nil
  | v :: l =>
    simp only [renL] at h
    cases h with
    | cons _ x _ m hx hm => exact .cons _ _ _ _ (V.unren hx) (Vs.unren hm)
end
theorem Es.unren {φ : Ren} {ρ : Nat → Nat} : ∀ {l m : List MapEntry}, Es φ (l.map (renE ρ)) m → Es (φ.via ρ) l m := by
  intro l
  induction l with
  | nil => intro m h; cases h; exact .nil
  | cons e l ih =>
    intro m h
    simp only [List.map_cons] at h
    cases h with
    | cons _ x _ m hx hm => exact .cons _ _ _ _ ⟨V.unren hx.key, V.unren hx.val, hx.born⟩ (ih hm)
theorem OkObj.unren {φ : Ren} {ρ : Nat → Nat} {L : Loc} {o : AObj} {x : Option Obj} (h : OkObj φ L (renO ρ o) x) : OkObj (φ.via ρ) L o x := by
  cases o with
  | cells rw esz vs =>
    obtain ⟨he, c, t, fz, h1, h2, h3, h4, h5⟩ := h
    rw [renL_length] at h3 h4
    exact ⟨he, c, t, fz, h1, h2, h3, Vs.unren h4, h5⟩
  | map es clk => obtain ⟨es', h1, h2⟩ := h; exact ⟨es', h1, Es.unren h2⟩
  | iter s pos => exact h
  | miter m since seen c => exact h
  | raw b vs => exact h
theorem renO_rw (ρ : Nat → Nat) (o : AObj) : (renO ρ o).rw = o.rw := by cases o <;> rfl
/-- what is known of less, under other names -/
structure SubR (ρ : Nat → Nat) (base : Nat) (s' s : SS) : Prop where
  low : ∀ j, j < base → ρ j = j
  high : ∀ j, s'.top ≤ j → s.top ≤ ρ j
  inj : ∀ i j, i < s'.top → j < s'.top → ρ i = ρ j → i = j
  fr : ∀ t v, evT s'.fr t = some v → evT s.fr t = some (ren ρ v)
  hp : ∀ i o, s'.hp i = some o → s.hp (ρ i) = some (renO ρ o)
theorem HR.unren {φ : Ren} {own : Nat → Prop} {w : World} {hp hp' : Hp} {top top' : Nat} {ρ : Nat → Nat} (H : HR φ own hp w) (htop : ∀ j, top ≤ j → φ j = none)
    (high : ∀ j, top' ≤ j → top ≤ ρ j) (inj : ∀ i j, i < top' → j < top' → ρ i = ρ j → i = j) (hh : ∀ i o, hp' i = some o → hp (ρ i) = some (renO ρ o)) : HR (φ.via ρ) own hp' w := by
  have dom : ∀ i o, hp' i = some o → i < top' := by
    intro i o e
    rcases Nat.lt_or_ge i top' with h | h
    · exact h
    · obtain ⟨L, h1, _⟩ := H.obj _ _ (hh i o e)
      rw [htop _ (high i h)] at h1; cases h1
  refine ⟨?_, ?_, ?_, ?_, H.fresh⟩
  · intro i o e
    obtain ⟨L, h1, h2⟩ := H.obj _ _ (hh i o e)
    exact ⟨L, h1, OkObj.unren h2⟩
  · intro i j oi oj Li Lj hi hj hne hrw hLi hLj
    exact H.sep (ρ i) (ρ j) _ _ Li Lj (hh _ _ hi) (hh _ _ hj) (fun e => hne (inj i j (dom _ _ hi) (dom _ _ hj) e)) (by rw [renO_rw]; exact hrw) hLi hLj
  · intro i o L e hrw hL
    exact H.mine _ _ L (hh _ _ e) (by rw [renO_rw]; exact hrw) hL
  · intro i L hL
    exact H.val (ρ i) L hL
theorem SRv.subR {φ : Ren} {own : Nat → Prop} {sz : Nat} {ds : List Deferred} {w0 : World} {s s' : SS} {a : Act} {w : World} {ρ : Nat → Nat} {base : Nat} (S : SRv φ own sz ds w0 s a w) (h : SubR ρ base s' s) : SRv (φ.via ρ) own sz ds w0 s' a w :=
  ⟨⟨fun t v e => V.unren (S.fr.val t _ (h.fr t v e)), S.fr.size⟩, S.hr.unren S.top h.high h.inj h.hp, fun j hj => S.top _ (h.high j hj), S.k, S.ds⟩
theorem SubR.le {φ0 φ : Ren} {ρ : Nat → Nat} {base : Nat} {s s' : SS} (h : SubR ρ base s' s) (hb : ∀ j, base ≤ j → φ0 j = none) (hle : φ0.le φ) : φ0.le (φ.via ρ) := by
  intro i L e
  have hi : i < base := by
    rcases Nat.lt_or_ge i base with h | h
    · exact h
    · rw [hb i h] at e; cases e
  unfold Ren.via
  rw [h.low i hi]; exact hle _ _ e
theorem CW.weakenR {P : Program} {sz base : Nat} {c : Code} {s s' : SS} {Q : Exit → SS → Prop} {ρ : Nat → Nat} (hs : SubR ρ base s' s) (h : CW P sz base c s' Q) : CW P sz base c s Q := by
  intro φ0 φ own ds w0 a w hb hle S
  exact h φ0 _ own ds w0 a w hb (hs.le hb hle) (S.subR hs)
/-- the next round of a loop -/
def Round {α : Type} (base : Nat) (S : α → SS) (I : α → Prop) (μ : α → Nat) (x : α) (s' : SS) : Prop := ∃ y, I y ∧ μ y < μ x ∧ ∃ ρ, SubR ρ base (S y) s'
theorem Round.mk {α : Type} {base : Nat} {S : α → SS} {I : α → Prop} {μ : α → Nat} {x : α} {s' : SS} (y : α) (hI : I y) (hμ : μ y < μ x) (hS : ∃ ρ, SubR ρ base (S y) s') : Round base S I μ x s' := ⟨y, hI, hμ, hS⟩
theorem CW.loopR {P : Program} {sz base : Nat} {c : Code} {s : SS} {Q : Exit → SS → Prop} {α : Type} (S : α → SS) (I : α → Prop) (μ : α → Nat) (x0 : α) (h0 : I x0) (hs : ∃ ρ, SubR ρ base (S x0) s)
    (h : ∀ x, I x → CW P sz base c (S x) (thenQ (Round base S I μ x) Q)) : CW P sz base (.loop c) s Q := by
  intro φ0 φ own ds w0 a w hb hle S0
  have key : ∀ (m : Nat) (x : α) (φ : Ren) (a : Act) (w : World), I x → μ x ≤ m → φ0.le φ → SRv φ own sz ds w0 (S x) a w →
      crounds P c (fun x a' w' => x ≠ .outgrown ∧ ∃ φ' s', φ0.le φ' ∧ SRv φ' own sz ds w0 s' a' w' ∧ Q x s') (m + 1) a w := by
    intro m
    induction m with
    | zero =>
      intro x φ a w hI hm hle S1
      rw [crounds_succ]
      refine CRun.mono (h x hI φ0 φ own ds w0 a w hb hle S1) ?_
      rintro e a' w' ⟨hx, φ', s', h1, h2, h3⟩
      cases e with
      | normal => obtain ⟨y, _, hlt, _⟩ := h3; omega
      | _ => exact ⟨hx, φ', s', h1, h2, h3⟩
    | succ m ih =>
      intro x φ a w hI hm hle S1
      rw [crounds_succ]
      refine CRun.mono (h x hI φ0 φ own ds w0 a w hb hle S1) ?_
      rintro e a' w' ⟨hx, φ', s', h1, h2, h3⟩
      cases e with
      | normal =>
        obtain ⟨y, hy, hlt, ρ, hsub⟩ := h3
        exact ih y _ a' w' hy (by omega) (hsub.le hb h1) (h2.subR hsub)
      | _ => exact ⟨hx, φ', s', h1, h2, h3⟩
  obtain ⟨ρ, hs⟩ := hs
  exact CRun.loop_rounds (μ x0 + 1) (key (μ x0) x0 _ a w h0 (Nat.le_refl _) (hs.le hb hle) (S0.subR hs))
/-- a function's end -/
def retQ (tt : TTab) (rs : List ResultVar) (post : Value → Hp → Nat → Prop) : Exit → SS → Prop
  | .normal, s => sresOk tt s.fr s.hp rs ∧ post (tupA (sres tt s.fr s.hp rs)) s.hp s.top
  | .ret, s => sresOk tt s.fr s.hp rs ∧ post (tupA (sres tt s.fr s.hp rs)) s.hp s.top
  | _, _ => False
theorem CalledOk.of_fun {P : Program} {tt : TTab} (htt : TTOk P tt) {f : FuncId} {fn : Func} (F : FOk P f fn) {c : Code} (hc : fn.body = some c) (n : Nat) (hn : fn.ntmps = n) (rs : List ResultVar) (hrs : fn.results.toList = rs)
    {args : List Value} {hp : Hp} {top : Nat} {post : Value → Hp → Nat → Prop} (hle : args.length ≤ n)
    (h : CW P n top c ⟨sargs args 0, hp, top⟩ (retQ tt rs post)) : CalledOk P f args hp top post := by
  refine CalledOk.of_body htt F hc n hn rs hrs hle (h.mono ?_)
  intro x s h
  cases x with
  | normal => exact ⟨.inl rfl, h⟩
  | ret => exact ⟨.inr rfl, h⟩
  | _ => exact h.elim
/-! ### the condition of code, step by step -/
section
variable {P : Program} {tt : TTab} {G : FuncId → Con} {sz base : Nat} {keep : List Nat} {Q : Exit → SS → Prop} {K : SS → Prop} {s : SS} {a b : Code} {id j : Nat} {ops : Array Oper} {all os : List Oper} {o : Oper} {x : Operand}
theorem vc_skip : vc P tt G sz base keep .skip Q s = Q .normal s := rfl
theorem vc_reg : vc P tt G sz base keep (.region id ops false) Q s = wops tt G ops.toList ops.toList (regQ keep Q) s := rfl
theorem vc_draw : vc P tt G sz base keep (.region id ops true) Q s = (if leafR keep id = true then CW P sz base (.region id ops true) s Q else dops tt G ops.toList ops.toList (regQ keep Q) s) := by
  show (match leafR keep id with | true => _ | false => _) = _
  cases leafR keep id <;> simp
theorem ite_eq {g : Bool} {A B : Prop} : ((g = true → A) ∧ (g = false → B)) = (if g = true then A else B) := by
  cases g <;> simp
/-- two ways -/
structure condP (v : Bool) (K1 K2 : SS → Prop) (s : SS) : Prop where
  h1 : v = true → K1 s
  h2 : v = false → K2 s
theorem condP_t {K1 K2 : SS → Prop} : condP true K1 K2 s = K1 s := propext ⟨fun h => h.h1 rfl, fun h => ⟨fun _ => h, fun e => by cases e⟩⟩
theorem condP_f {K1 K2 : SS → Prop} : condP false K1 K2 s = K2 s := propext ⟨fun h => h.h2 rfl, fun h => ⟨fun e => (by cases e), fun _ => h⟩⟩
/-- the condition of code, not looked into yet -/
structure Vc (P : Program) (tt : TTab) (G : FuncId → Con) (sz base : Nat) (keep : List Nat) (c : Code) (Q : Exit → SS → Prop) (s : SS) : Prop where
  h : vc P tt G sz base keep c Q s
theorem Vc.mk' (h : vc P tt G sz base keep a Q s) : Vc P tt G sz base keep a Q s := ⟨h⟩
theorem vc_seqV : vc P tt G sz base keep (.seq a b) Q s = vc P tt G sz base keep a (thenQ (Vc P tt G sz base keep b Q) Q) s := by
  have : vc P tt G sz base keep b Q = Vc P tt G sz base keep b Q := funext fun s => propext ⟨fun h => ⟨h⟩, fun h => h.h⟩
  rw [← this]; rfl
theorem vc_cond : vc P tt G sz base keep (.cond x a b) Q s = (av s.fr x ∧ IsB (sev s.fr x).1 ∧ condP (boolOf (sev s.fr x).1) (vc P tt G sz base keep a Q) (vc P tt G sz base keep b Q) s) :=
  propext ⟨fun ⟨h1, h2, h3, h4⟩ => ⟨h1, h2, ⟨h3, h4⟩⟩, fun ⟨h1, h2, h3⟩ => ⟨h1, h2, h3.h1, h3.h2⟩⟩
theorem vc_block : vc P tt G sz base keep (.block id b) Q s = vc P tt G sz base keep b (blockQ id Q) s := rfl
theorem vc_loop : vc P tt G sz base keep (.loop b) Q s = CW P sz base (.loop b) s Q := rfl
theorem vc_exit : vc P tt G sz base keep (.exit id) Q s = Q (.exit id) s := rfl
theorem vc_ret : vc P tt G sz base keep .ret Q s = Q .ret s := rfl
theorem vc_label : vc P tt G sz base keep (.label id) Q s = Q .normal s := rfl
theorem wops_nil : wops tt G all [] K s = K s := rfl
theorem wops_cons : wops tt G all (o :: os) K s = ((sguard all s.fr o.guard).2 ∧ vstep tt G (sguard all s.fr o.guard).1 o s (wops tt G all os K)) := rfl
theorem dops_nil : dops tt G all [] K s = K s := rfl
theorem dops_cons : dops tt G all (o :: os) K s = ((sguard all s.fr o.guard).2 ∧ (match wrG G o.op with
    | true => (if (sguard all s.fr o.guard).1 = true then (swrG tt G s.fr s.hp s.top o.op).ob ∧
          dops tt G all os K ⟨sput s.fr o.dst (swrG tt G s.fr s.hp s.top o.op).v true, s.hp.sets (swrG tt G s.fr s.hp s.top o.op).us, (swrG tt G s.fr s.hp s.top o.op).top⟩
        else dops tt G all os K ⟨sput s.fr o.dst undef false, s.hp, s.top⟩)
    | false => ((sguard all s.fr o.guard).1 = true → (pv tt G s.fr s.hp o.op).2) ∧ dops tt G all os K ⟨sput s.fr o.dst (pv tt G s.fr s.hp o.op).1 (sguard all s.fr o.guard).1, s.hp, s.top⟩)) := by
  rw [← ite_eq]; rfl
theorem thenQ_n : thenQ K Q .normal s = K s := rfl
theorem thenQ_r : thenQ K Q .ret s = Q .ret s := rfl
theorem thenQ_e : thenQ K Q (.exit j) s = Q (.exit j) s := rfl
theorem blockQ_n : blockQ id Q .normal s = Q .normal s := rfl
theorem blockQ_r : blockQ id Q .ret s = Q .ret s := rfl
theorem blockQ_e : blockQ id Q (.exit j) s = (if j = id then Q .normal s else Q (.exit j) s) := rfl
theorem regQ_eq : regQ keep Q s = Q .normal ⟨keepF s.fr keep, s.hp, s.top⟩ := rfl
theorem retQ_n {rs : List ResultVar} {post : Value → Hp → Nat → Prop} : retQ tt rs post .normal s = (sresOk tt s.fr s.hp rs ∧ post (tupA (sres tt s.fr s.hp rs)) s.hp s.top) := rfl
theorem retQ_r {rs : List ResultVar} {post : Value → Hp → Nat → Prop} : retQ tt rs post .ret s = (sresOk tt s.fr s.hp rs ∧ post (tupA (sres tt s.fr s.hp rs)) s.hp s.top) := rfl
theorem vstep_eq {g : Bool} : vstep tt G g o s K = (match o.op with
    | .call { callee := .value f, args, .. } => scall G s.fr s.hp s.top g f args.toList o.dst K
    | .range t x => if g = true then av s.fr x ∧ isMapT tt t = true ∧ (rngOf s.hp (sev s.fr x).1).isSome = true ∧ K ⟨sput s.fr o.dst (.pointer (some ⟨s.top, 0, none⟩)) true, s.hp.sets [(s.top, rngO (rngOf s.hp (sev s.fr x).1))], s.top + 1⟩
        else K ⟨sput s.fr o.dst undef false, s.hp, s.top⟩
    | .next it str => if g = true then av s.fr it ∧ str = false ∧ NextP K s.fr s.hp s.top o.dst (sev s.fr it).1 else K ⟨sput s.fr o.dst undef false, s.hp, s.top⟩
    | .entry it => if g = true then av s.fr it ∧ (entOf s.hp (sev s.fr it).1).isSome = true ∧ K ⟨sput s.fr o.dst (entV (entOf s.hp (sev s.fr it).1)) true, s.hp, s.top⟩ else K ⟨sput s.fr o.dst undef false, s.hp, s.top⟩
    | op => match isWr op with
      | true => if g = true then (swrite tt s.fr s.hp s.top op).ob ∧ K ⟨sput s.fr o.dst (swrite tt s.fr s.hp s.top op).v true, s.hp.sets (swrite tt s.fr s.hp s.top op).us, (swrite tt s.fr s.hp s.top op).top⟩
          else K ⟨sput s.fr o.dst undef false, s.hp, s.top⟩
      | false => (g = true → (sread tt s.fr s.hp op).2) ∧ K ⟨sput s.fr o.dst (sread tt s.fr s.hp op).1 g, s.hp, s.top⟩) := by
  simp only [← ite_eq]
  rfl
theorem scall_eq {fr : SFr} {hp : Hp} {top : Nat} {g : Bool} {f : Operand} {args : List Operand} {dst : Option Nat} : scall G fr hp top g f args dst K = (match G (sfun fr f).1 with
    | .none => False
    | .pure pre res => (g = true → (sfun fr f).2.1 = true ∧ avs fr args ∧ pre ((sfun fr f).2.2.1 ++ svs fr args ++ (sfun fr f).2.2.2) hp) ∧
      K ⟨sput fr dst (res ((sfun fr f).2.2.1 ++ svs fr args ++ (sfun fr f).2.2.2) hp) g, hp, top⟩
    | .eff pre post => if g = true then (sfun fr f).2.1 = true ∧ avs fr args ∧ pre ((sfun fr f).2.2.1 ++ svs fr args ++ (sfun fr f).2.2.2) hp top ∧
      (∀ v hp' top', post ((sfun fr f).2.2.1 ++ svs fr args ++ (sfun fr f).2.2.2) hp top v hp' top' → Hold K ⟨sput fr dst v true, hp', top'⟩)
      else K ⟨sput fr dst undef false, hp, top⟩
    | .det pre res => if g = true then (sfun fr f).2.1 = true ∧ avs fr args ∧ pre ((sfun fr f).2.2.1 ++ svs fr args ++ (sfun fr f).2.2.2) hp top ∧
      K ⟨sput fr dst (res ((sfun fr f).2.2.1 ++ svs fr args ++ (sfun fr f).2.2.2) hp top).1 true, hp.sets (res ((sfun fr f).2.2.1 ++ svs fr args ++ (sfun fr f).2.2.2) hp top).2.1, (res ((sfun fr f).2.2.1 ++ svs fr args ++ (sfun fr f).2.2.2) hp top).2.2⟩
      else K ⟨sput fr dst undef false, hp, top⟩) := by
  simp only [← ite_eq]
  rfl
end
/-! ### names below the base stay, the others by a list -/
def rn (base : Nat) (bs : List Nat) (z j : Nat) : Nat := if j < base then j else (bs[j - base]?).getD z
theorem rn_low {base : Nat} {bs : List Nat} {z j : Nat} (h : j < base) : rn base bs z j = j := if_pos h
theorem rn_add (base : Nat) (bs : List Nat) (z i : Nat) : rn base bs z (base + i) = (bs[i]?).getD z := by
  unfold rn
  rw [if_neg (by omega), Nat.add_sub_cancel_left]
theorem rn_base (base : Nat) (bs : List Nat) (z : Nat) : rn base bs z base = (bs[0]?).getD z := rn_add base bs z 0
theorem rn_high {base : Nat} {bs : List Nat} {z j : Nat} (h : base + bs.length ≤ j) : rn base bs z j = z := by
  unfold rn
  rw [if_neg (by omega), List.getElem?_eq_none (by omega)]; rfl
theorem rn_inj {base : Nat} {bs : List Nat} {z : Nat} (hn : bs.Nodup) (hb : ∀ b ∈ bs, base ≤ b) : ∀ i j, i < base + bs.length → j < base + bs.length → rn base bs z i = rn base bs z j → i = j := by
  intro i j hi hj e
  unfold rn at e
  split at e
  · split at e
    · exact e
    · rw [List.getElem?_eq_getElem (by omega), Option.getD_some] at e
      have := hb _ (List.getElem_mem (show j - base < bs.length by omega))
      omega
  · rw [List.getElem?_eq_getElem (show i - base < bs.length by omega), Option.getD_some] at e
    split at e
    · have := hb _ (List.getElem_mem (show i - base < bs.length by omega))
      omega
    · rw [List.getElem?_eq_getElem (show j - base < bs.length by omega), Option.getD_some] at e
      have hp := List.pairwise_iff_getElem.1 hn
      rcases Nat.lt_trichotomy (i - base) (j - base) with h | h | h
      · exact absurd e (hp _ _ (by omega) (by omega) h)
      · omega
      · exact absurd e.symm (hp _ _ (by omega) (by omega) h)
/-! ### memory whose values name only what is below a bound -/
mutual
def Sc (n : Nat) : Value → Prop
  | .pointer (some ⟨b, _, _⟩) => b < n
  | .slice (some ⟨b, _, none⟩) _ _ => b < n
  | .map (some b) => b < n
  | .agg ⟨l⟩ => ScL n l
  | .tuple ⟨l⟩ => ScL n l
  | .iface _ v => Sc n v
  | .func _ ⟨a⟩ ⟨b⟩ => ScL n a ∧ ScL n b
  | _ => True
def ScL (n : Nat) : List Value → Prop
  | [] => True
  | v :: l => Sc n v ∧ ScL n l
end
def ScO (n : Nat) : AObj → Prop
  | .cells _ _ vs => ScL n vs
  | .map es _ => ∀ e ∈ es, Sc n e.key ∧ Sc n e.val
  | .iter _ _ => True
  | .miter m _ _ _ => m < n
  | .raw _ _ => True
mutual
theorem Sc.ren {n : Nat} {ρ : Nat → Nat} (hρ : ∀ j, j < n → ρ j = j) : ∀ {v : Value}, Sc n v → ren ρ v = v
  | .bool _, _ => rfl
  | .int _ _, _ => rfl
  | .float _ _, _ => rfl
  | .complex _ _ _, _ => rfl
  | .string _, _ => rfl
  | .pointer none, _ => rfl
  | .pointer (some ⟨b, o, s⟩), h => by simp only [Dm.ren, hρ b h]
  | .slice none _ _, _ => rfl
  | .slice (some ⟨b, o, none⟩) _ _, h => by simp only [Dm.ren, hρ b h]
  | .slice (some ⟨b, o, some s⟩) _ _, _ => by unfold Dm.ren; rfl
  | .map none, _ => rfl
  | .map (some b), h => by simp only [Dm.ren, hρ b h]
  | .chan _, _ => rfl
  | .func _ ⟨a⟩ ⟨b⟩, h => by simp only [Dm.ren, ScL.ren hρ h.1, ScL.ren hρ h.2]
  | .nilFunc, _ => rfl
  | .iface _ v, h => by simp only [Dm.ren, Sc.ren hρ (v := v) h]
  | .nilIface, _ => rfl
  | .agg ⟨l⟩, h => by simp only [Dm.ren, ScL.ren hρ (l := l) h]
  | .tuple ⟨l⟩, h => by simp only [Dm.ren, ScL.ren hρ (l := l) h]
theorem ScL.ren {n : Nat} {ρ : Nat → Nat} (hρ : ∀ j, j < n → ρ j = j) : ∀ {l : List Value}, ScL n l → renL ρ l = l
  | [], _ => rfl
  | v :: l, h => by simp only [Dm.renL, Sc.ren hρ h.1, ScL.ren hρ h.2]
end
theorem ScO.ren {n : Nat} {ρ : Nat → Nat} (hρ : ∀ j, j < n → ρ j = j) {o : AObj} (h : ScO n o) : renO ρ o = o := by
  cases o with
  | cells rw esz vs => simp only [renO, ScL.ren hρ h]
  | map es clk =>
    simp only [renO]
    congr 1
    rw [List.map_congr_left (g := id)]
    · simp
    · intro e he
      obtain ⟨h1, h2⟩ := h e he
      simp only [renE, Sc.ren hρ h1, Sc.ren hρ h2, id]
  | iter s p => rfl
  | miter m since seen c => simp only [renO]; rw [hρ m h]
  | raw b vs => rfl
mutual
theorem V.sc {φ : Ren} {n : Nat} (hn : ∀ j, n ≤ j → φ j = none) : ∀ {v x : Value}, V φ v x → Sc n v
  | _, _, .bool _ => trivial
  | _, _, .int _ _ => trivial
  | _, _, .str _ => trivial
  | _, _, .nilp => trivial
  | _, _, .ptr i o L h => by
    rcases Nat.lt_or_ge i n with h' | h'
    · exact h'
    · rw [hn i h'] at h; cases h
  | _, _, .nils => trivial
  | _, _, .slice i o m c c' L h _ _ _ => by
    rcases Nat.lt_or_ge i n with h' | h'
    · exact h'
    · rw [hn i h'] at h; cases h
  | _, _, .emp _ _ => trivial
  | _, _, .nilm => trivial
  | _, _, .map i L h => by
    rcases Nat.lt_or_ge i n with h' | h'
    · exact h'
    · rw [hn i h'] at h; cases h
  | _, _, .func _ _ _ _ _ ha hb => ⟨Vs.sc hn ha, Vs.sc hn hb⟩
  | _, _, .nilf => trivial
  | _, _, .iface _ v _ h => (V.sc hn h : Sc n v)
  | _, _, .nili => trivial
  | _, _, .agg _ _ h => Vs.sc hn h
  | _, _, .tuple _ _ h => Vs.sc hn h
theorem Vs.sc {φ : Ren} {n : Nat} (hn : ∀ j, n ≤ j → φ j = none) : ∀ {l m : List Value}, Vs φ l m → ScL n l
  | _, _, .nil => trivial
  | _, _, .cons _ _ _ _ hx hl => ⟨V.sc hn hx, Vs.sc hn hl⟩
end
theorem Es.sc {φ : Ren} {n : Nat} (hn : ∀ j, n ≤ j → φ j = none) : ∀ {l m : List MapEntry}, Es φ l m → ∀ e ∈ l, Sc n e.key ∧ Sc n e.val
  | _, _, .nil, e, he => by cases he
  | _, _, .cons a _ l _ hx hl, e, he => by
    cases he with
    | head => exact ⟨V.sc hn hx.key, V.sc hn hx.val⟩
    | tail _ h => exact Es.sc hn hl e h
/-- memory that is closed below a bound -/
structure Cl (hp : Hp) (n : Nat) : Prop where
  lt : ∀ i o, hp i = some o → i < n
  sc : ∀ i o, hp i = some o → ScO n o
theorem HR.cl {φ : Ren} {own : Nat → Prop} {hp : Hp} {w : World} {n : Nat} (H : HR φ own hp w) (hn : ∀ j, n ≤ j → φ j = none) : Cl hp n := by
  refine ⟨fun i o e => H.lt hn e, fun i o e => ?_⟩
  obtain ⟨L, h1, h2⟩ := H.obj i o e
  cases o with
  | cells rw esz vs => obtain ⟨_, _, _, _, _, _, _, h3, _⟩ := h2; exact Vs.sc hn h3
  | map es clk => obtain ⟨es', _, h3⟩ := h2; exact fun e he => Es.sc hn h3 e he
  | iter s p => trivial
  | miter m since seen c =>
    obtain ⟨_, M, h1, _⟩ := h2
    show m < n
    rcases Nat.lt_or_ge m n with h | h
    · exact h
    · rw [hn m h] at h1; cases h1
  | raw b vs => trivial
/-- a function whose arguments and memory are closed below the top -/
theorem CalledOk.closed {P : Program} {f : FuncId} {args : List Value} {hp : Hp} {top : Nat} {post : Value → Hp → Nat → Prop} (h : Cl hp top → ScL top args → CalledOk P f args hp top post) : CalledOk P f args hp top post := by
  intro φ own w args' ha H htop
  exact h (H.cl htop) (Vs.sc htop ha) φ own w args' ha H htop
/-- memory that was, but for some blocks -/
theorem subHp {hp h1 : Hp} {base : Nat} {ρ : Nat → Nat} (hcl : Cl hp base) (hlow : ∀ j, j < base → ρ j = j) (us : Upds)
    (hk : ∀ i, i < base → (∀ p ∈ us, p.1 ≠ i) → h1 i = hp i) (hu : ∀ p ∈ us, ∀ o, p.2 = some o → h1 (ρ p.1) = some (renO ρ o)) :
    ∀ i o, (hp.sets us) i = some o → h1 (ρ i) = some (renO ρ o) := by
  have key : ∀ (us : Upds) (hp : Hp) i o, (hp.sets us) i = some o → (∃ p ∈ us, p.1 = i ∧ p.2 = some o) ∨ ((∀ p ∈ us, p.1 ≠ i) ∧ hp i = some o) := by
    intro us
    induction us with
    | nil => intro hp i o h; exact .inr ⟨fun _ h => (by cases h), h⟩
    | cons p us ih =>
      intro hp i o h
      obtain ⟨a, x⟩ := p
      rw [sets_cons] at h
      rcases ih _ i o h with ⟨p, h1, h2, h3⟩ | ⟨h1, h2⟩
      · exact .inl ⟨p, List.mem_cons_of_mem _ h1, h2, h3⟩
      · by_cases e : i = a
        · subst e
          rw [set_same] at h2
          exact .inl ⟨(i, x), List.mem_cons_self .., rfl, h2⟩
        · rw [set_ne _ _ _ _ e] at h2
          refine .inr ⟨?_, h2⟩
          intro p hp'
          cases hp' with
          | head => exact fun e' => e e'.symm
          | tail _ h => exact h1 p h
  intro i o h
  rcases key us hp i o h with ⟨p, h2, h3, h4⟩ | ⟨h2, h3⟩
  · subst h3; exact hu p h2 o h4
  · have hi := hcl.lt i o h3
    rw [hlow i hi, hk i hi h2, h3, ScO.ren hlow (hcl.sc i o h3)]
theorem set_set (hp : Hp) (i : Nat) (a b : Option AObj) : (hp.set i a).set i b = hp.set i b := by
  funext j; unfold Hp.set; split <;> rfl
/-- memory below a bound is as it was, but for some blocks -/
def Keep (n : Nat) (ks : List Nat) (h1 hp : Hp) : Prop := ∀ i, i < n → i ∉ ks → h1 i = hp i
theorem Keep.refl (n : Nat) (ks : List Nat) (hp : Hp) : Keep n ks hp hp = True := eq_true fun _ _ _ => rfl
theorem Keep.set {n : Nat} {ks : List Nat} {h1 hp : Hp} {b : Nat} {o : Option AObj} (hb : n ≤ b) : Keep n ks (h1.set b o) hp = Keep n ks h1 hp := by
  refine propext ⟨fun h i hi hk => ?_, fun h i hi hk => ?_⟩
  · have := h i hi hk; rwa [set_ne _ _ _ _ (by omega)] at this
  · rw [set_ne _ _ _ _ (by omega)]; exact h i hi hk
theorem Keep.setK {n : Nat} {ks : List Nat} {h1 hp : Hp} {b : Nat} {o : Option AObj} (hb : b ∈ ks) : Keep n ks (h1.set b o) hp = Keep n ks h1 hp := by
  refine propext ⟨fun h i hi hk => ?_, fun h i hi hk => ?_⟩
  · have := h i hi hk; rwa [set_ne _ _ _ _ (fun e => hk (by rw [e]; exact hb))] at this
  · rw [set_ne _ _ _ _ (fun e => hk (by rw [e]; exact hb))]; exact h i hi hk
theorem Keep.nil {n : Nat} {h1 hp : Hp} (h : Keep n [] h1 hp) : ∀ i, i < n → h1 i = hp i := fun i hi => h i hi (by simp)
def renOO (ρ : Nat → Nat) : Option AObj → Option AObj
  | none => none
  | some o => some (renO ρ o)
/-- the blocks that are told lie where they should -/
def UpdOk (ρ : Nat → Nat) (h1 : Hp) (us : Upds) : Prop := ∀ p ∈ us, p.2 = none ∨ h1 (ρ p.1) = renOO ρ p.2
theorem UpdOk.nil {ρ : Nat → Nat} {h1 : Hp} : UpdOk ρ h1 [] = True := eq_true fun p h => by cases h
theorem UpdOk.cons {ρ : Nat → Nat} {h1 : Hp} {b : Nat} {o : Option AObj} {us : Upds} : UpdOk ρ h1 ((b, o) :: us) = ((o = none ∨ h1 (ρ b) = renOO ρ o) ∧ UpdOk ρ h1 us) := by
  simp [UpdOk]
theorem UpdOk.get {ρ : Nat → Nat} {h1 : Hp} {us : Upds} (h : UpdOk ρ h1 us) : ∀ p ∈ us, ∀ o, p.2 = some o → h1 (ρ p.1) = some (renO ρ o) := by
  intro p hp o e
  rcases h p hp with h | h
  · rw [h] at e; cases e
  · rw [h, e]; rfl
theorem renOO_some {ρ : Nat → Nat} {o : AObj} : renOO ρ (some o) = some (renO ρ o) := rfl
theorem renO_cells {ρ : Nat → Nat} {rw : Bool} {z : Nat} {vs : List Value} : renO ρ (.cells rw z vs) = .cells rw z (renL ρ vs) := rfl
theorem renO_map {ρ : Nat → Nat} {es : List MapEntry} {clk : Nat} : renO ρ (.map es clk) = .map (es.map (renE ρ)) clk := rfl
/-- a function's end: what it hands back, under canonical names -/
structure RetR (hp : Hp) (top : Nat) (bs : List Nat) (r : Value × Upds × Nat) (v1 : Value) (h1 : Hp) (top1 : Nat) : Prop where
  nodup : bs.Nodup
  ge : ∀ b ∈ bs, top ≤ b
  tp : r.2.2 = top + bs.length
  v : v1 = ren (rn top bs top1) r.1
  keep : Keep top (r.2.1.map (·.1)) h1 hp
  upd : UpdOk (rn top bs top1) h1 r.2.1
theorem CalledOk.mkDet {P : Program} {f : FuncId} {args : List Value} {hp : Hp} {top : Nat} {r : Value × Upds × Nat}
    (h : Cl hp top → ScL top args → CalledOk P f args hp top fun v1 h1 top1 => top ≤ top1 ∧ ∃ bs, RetR hp top bs r v1 h1 top1) :
    CalledOk P f args hp top fun v hp' top' => v = r.1 ∧ hp' = hp.sets r.2.1 ∧ top' = r.2.2 := by
  intro φ own w args' ha H htop
  have hcl := H.cl htop
  refine (h hcl (Vs.sc htop ha) φ own w args' ha H htop).mono ?_
  rintro e w' ⟨v1, h1, top1, v', φ1, rfl, ⟨ht, bs, R⟩, W⟩
  have hlow : ∀ j, j < top → rn top bs top1 j = j := fun j hj => rn_low hj
  have hhigh : ∀ j, r.2.2 ≤ j → top1 ≤ rn top bs top1 j := fun j hj => by rw [rn_high (by rw [← R.tp]; exact hj)]; exact Nat.le_refl _
  refine ⟨r.1, hp.sets r.2.1, r.2.2, v', φ1.via (rn top bs top1), rfl, ⟨rfl, rfl, rfl⟩, ⟨?_, ?_, ?_, W.k, ?_⟩⟩
  · intro i L e
    have hi : i < top := by
      rcases Nat.lt_or_ge i top with h | h
      · exact h
      · rw [htop i h] at e; cases e
    unfold Ren.via
    rw [hlow i hi]; exact W.le _ _ e
  · refine V.unren ?_
    rw [← R.v]; exact W.v
  · refine W.hr.unren W.top hhigh (by rw [R.tp]; exact rn_inj R.nodup R.ge) ?_
    exact subHp hcl hlow r.2.1 (fun i hi hk => R.keep i hi (fun hm => by obtain ⟨p, h1, h2⟩ := List.mem_map.1 hm; exact hk p h1 h2)) R.upd.get
  · intro j hj
    exact W.top _ (hhigh j hj)
theorem ConOk.mkDet {P : Program} {f : FuncId} {fn : Func} (F : FOk P f fn) {pre : List Value → Hp → Nat → Prop} {res : List Value → Hp → Nat → Value × Upds × Nat}
    (h : ∀ args hp top, pre args hp top → Cl hp top → ScL top args → CalledOk P f args hp top fun v1 h1 top1 => top ≤ top1 ∧ ∃ bs, RetR hp top bs (res args hp top) v1 h1 top1) : ConOk P f (.det pre res) :=
  ⟨⟨fn, F.toFTOk⟩, fun args hp top hp0 => CalledOk.mkDet (h args hp top hp0)⟩
/-- a canonical state behind another one -/
theorem SubR.mk' {hp h1 : Hp} {base : Nat} (bs : List Nat) (hcl : Cl hp base) {fr' fr : SFr} {us : Upds} {n top : Nat}
    (nodup : bs.Nodup) (ge : ∀ b ∈ bs, base ≤ b) (hn : n = bs.length)
    (hfr : ∀ t v, evT fr' t = some v → evT fr t = some (ren (rn base bs top) v))
    (keep : Keep base (us.map (·.1)) h1 hp)
    (upd : UpdOk (rn base bs top) h1 us) :
    ∃ ρ, SubR ρ base ⟨fr', hp.sets us, base + n⟩ ⟨fr, h1, top⟩ := by
  subst hn
  have hlow : ∀ j, j < base → rn base bs top j = j := fun j hj => rn_low hj
  exact ⟨rn base bs top, hlow, fun j hj => by rw [rn_high hj]; exact Nat.le_refl _, rn_inj nodup ge, hfr, subHp hcl hlow us (fun i hi hk => keep i hi (fun hm => by obtain ⟨p, h1, h2⟩ := List.mem_map.1 hm; exact hk p h1 h2)) upd.get⟩
theorem ConOk.mkRd {P : Program} {f : FuncId} {fn : Func} (F : FOk P f fn) {pre : List Value → Hp → Prop} {res : List Value → Hp → Value} (hr : ∀ args hp, pre args hp → plain 3 (res args hp) = true)
    (h : ∀ args hp, pre args hp → ∀ top, Cl hp top → ScL top args → CalledOk P f args hp top fun v hp' _ => v = res args hp ∧ Keep top [] hp' hp) : ConOk P f (.pure pre res) :=
  .mkRead F hr fun args hp h0 top φ own w args' ha H htop => (h args hp h0 top (H.cl htop) (Vs.sc htop ha) φ own w args' ha H htop).mono fun _ _ ⟨v, hp', top', v', φ', e, ⟨h1, h2⟩, W⟩ => ⟨v, hp', top', v', φ', e, ⟨h1, h2.nil⟩, W⟩
theorem wrap_id {k : IntKind} {n : Int} (h : (if k.signed then -(2 ^ (k.bits - 1) : Int) else 0) ≤ n) (h2 : n < (if k.signed then 2 ^ (k.bits - 1) else 2 ^ k.bits : Int)) : wrapA k n = n := by
  rw [wrapA_eq]
  unfold IntKind.wrap
  cases k <;> simp [IntKind.signed, IntKind.bits] at h h2 ⊢ <;> omega
theorem wrap64 {n : Int} (h : -9223372036854775808 ≤ n) (h2 : n < 9223372036854775808) : wrapA .i64 n = n := wrap_id (by simpa [IntKind.signed, IntKind.bits] using h) (by simpa [IntKind.signed, IntKind.bits] using h2)
theorem wrap_succ {k n : Nat} (h : k < n) (hn : n ≤ 9223372036854775807) : wrapA .i64 ((k : Int) + 1) = ((k + 1 : Nat) : Int) := by
  rw [wrap64 (by omega) (by omega)]; omega
theorem set_lt {b n : Nat} (hb : b < n) {hp : Hp} {i : Nat} {o : Option AObj} (hi : n ≤ i) : (hp.set i o) b = hp b := set_ne _ _ _ _ (by omega)
theorem oc_int {k : IntKind} {n : Int} : Value.oneCell' (.int k n) = true := rfl
theorem oc_bool {b : Bool} : Value.oneCell' (.bool b) = true := rfl
theorem oc_str {s : ByteArray} : Value.oneCell' (.string s) = true := rfl
theorem oc_ptr {a : Option Addr} : Value.oneCell' (.pointer a) = true := rfl
theorem oc_slice {a : Option Addr} {n c : Nat} : Value.oneCell' (.slice a n c) = true := rfl
theorem oc_map {a : Option Nat} : Value.oneCell' (.map a) = true := rfl
theorem oc_func {f : Fn} {a b : Array Value} : Value.oneCell' (.func f a b) = true := rfl
theorem oc_nilf : Value.oneCell' .nilFunc = true := rfl
theorem oc_iface {t : TypeId} {v : Value} : Value.oneCell' (.iface t v) = true := rfl
theorem oc_nili : Value.oneCell' .nilIface = true := rfl
theorem cl_agg {l : List Value} : cellsL (.agg ⟨l⟩) = l := rfl
theorem cl_int {k : IntKind} {n : Int} : cellsL (.int k n) = [.int k n] := rfl
theorem cl_bool {b : Bool} : cellsL (.bool b) = [.bool b] := rfl
theorem cl_str {s : ByteArray} : cellsL (.string s) = [.string s] := rfl
theorem cl_ptr {a : Option Addr} : cellsL (.pointer a) = [.pointer a] := rfl
theorem cl_slice {a : Option Addr} {n c : Nat} : cellsL (.slice a n c) = [.slice a n c] := rfl
theorem cl_map {a : Option Nat} : cellsL (.map a) = [.map a] := rfl
theorem cl_func {f : Fn} {a b : Array Value} : cellsL (.func f a b) = [.func f a b] := rfl
theorem cl_nilf : cellsL .nilFunc = [.nilFunc] := rfl
theorem cl_iface {t : TypeId} {v : Value} : cellsL (.iface t v) = [.iface t v] := rfl
theorem cl_nili : cellsL .nilIface = [.nilIface] := rfl
theorem nble_t {a b : Nat} (h : a ≤ b) : Nat.ble a b = true := Nat.ble_eq_true_of_le h
theorem flat_rep {n : Nat} {v : Value} : (List.replicate n [v]).flatten = reps n v := by simp [reps]
theorem rep1 {α : Type} {a : α} : List.replicate 1 a = [a] := rfl
theorem rep2 {α : Type} {a : α} : List.replicate 2 a = [a, a] := rfl
theorem rep3 {α : Type} {a : α} : List.replicate 3 a = [a, a, a] := rfl
theorem rep4 {α : Type} {a : α} : List.replicate 4 a = [a, a, a, a] := rfl
theorem splice_zero {cs xs : List Value} : splice cs 0 xs = xs ++ cs.drop xs.length := by simp [splice]
theorem splice_succ {c : Value} {cs xs : List Value} {n : Nat} : splice (c :: cs) (n + 1) xs = c :: splice cs n xs := by
  simp [splice, Nat.add_right_comm]
theorem splice_1add {c : Value} {cs xs : List Value} {n : Nat} : splice (c :: cs) (1 + n) xs = c :: splice cs n xs := by
  rw [Nat.add_comm]; exact splice_succ
theorem splice_one {cs : List Value} {v : Value} {n : Nat} (h : n < cs.length) : splice cs n [v] = cs.set n v := by
  simp only [splice, List.length_singleton]
  rw [List.set_eq_take_append_cons_drop, if_pos h]; simp
theorem get_1add {α : Type} {c : α} {l : List α} {n : Nat} : (c :: l)[1 + n]? = l[n]? := by rw [Nat.add_comm, List.getElem?_cons_succ]
theorem drop_1add {α : Type} {c : α} {l : List α} {n : Nat} : (c :: l).drop (1 + n) = l.drop n := by rw [Nat.add_comm, List.drop_succ_cons]
theorem renL_ints {ρ : Nat → Nat} {k : IntKind} {l : List Int} : renL ρ (l.map (Value.int k)) = l.map (Value.int k) := by
  rw [renL_map, List.map_map]; rfl
theorem renL_set {ρ : Nat → Nat} {l : List Value} {i : Nat} {v : Value} : renL ρ (l.set i v) = (renL ρ l).set i (ren ρ v) := by
  simp only [renL_map, List.map_set]
theorem eqI_dec (x y : Int) : eqI x y = decide (x = y) := by rw [eqI_eq]; rfl
/-- frames, slot by slot -/
def frSub (ρ : Nat → Nat) : SFr → SFr → Prop
  | [], _ => True
  | (t, v, g) :: l, fr => lkG fr t = some (bif g then ren ρ v else v, g) ∧ frSub ρ l fr
theorem frSub_ok {ρ : Nat → Nat} : ∀ {fr' fr : SFr}, frSub ρ fr' fr → ∀ t v, evT fr' t = some v → evT fr t = some (ren ρ v) := by
  intro fr'
  induction fr' with
  | nil => intro fr _ t v h; cases h
  | cons p l ih =>
    obtain ⟨j, x, g⟩ := p
    intro fr h t v hv
    obtain ⟨h1, h2⟩ := h
    simp only [evT, lkG] at hv ⊢
    cases hb : Nat.beq j t with
    | true =>
      rw [hb] at hv
      have := Nat.eq_of_beq_eq_true hb
      subst this
      cases hv
      rw [h1]
      cases g with
      | true => rfl
      | false => rfl
    | false =>
      rw [hb] at hv
      exact ih h2 t v hv
end Go.Dm
/- Slices of data: what they hold, as lists. -/
namespace Go.Dm
/-- how a datum lies in memory -/
structure Enc (α : Type) where
  enc : α → List Value
  dec : List Value → α
  size : Nat
  h : ∀ a, dec (enc a) = a
  len : ∀ a, (enc a).length = size
  one : ∀ a, oneCells (enc a) = true
/-- data without names of blocks -/
class Enc.Plain {α : Type} (E : Enc α) : Prop where
  pl : ∀ a ρ, renL ρ (E.enc a) = E.enc a
def Enc.flat {α : Type} (E : Enc α) (l : List α) : List Value := (l.map E.enc).flatten
def at' {α : Type} [Inhabited α] (l : List α) (i : Nat) : α := (l[i]?).getD default
theorem at'_get {α : Type} [Inhabited α] (l : List α) (i : Nat) (h : i < l.length) : at' l i = l[i] := by simp [at', h]
section
variable {α : Type} {E : Enc α}
theorem Enc.flat_nil : E.flat [] = [] := rfl
theorem Enc.flat_cons (a : α) (l : List α) : E.flat (a :: l) = E.enc a ++ E.flat l := rfl
theorem Enc.flat_append (l m : List α) : E.flat (l ++ m) = E.flat l ++ E.flat m := by simp [Enc.flat]
theorem Enc.flat_len (l : List α) : (E.flat l).length = l.length * E.size := by
  induction l with
  | nil => simp [Enc.flat_nil]
  | cons a l ih => rw [Enc.flat_cons, List.length_append, E.len, ih, List.length_cons, Nat.succ_mul]; omega
theorem Enc.flat_one (l : List α) : oneCells (E.flat l) = true := by
  have app : ∀ x y : List Value, oneCells (x ++ y) = (oneCells x && oneCells y) := by
    intro x y
    induction x with
    | nil => rfl
    | cons a x ih => simp only [List.cons_append, oneCells, ih, Bool.and_assoc]
  induction l with
  | nil => rfl
  | cons a l ih => rw [Enc.flat_cons, app, E.one, ih]; rfl
theorem Enc.flat_ren [E.Plain] (l : List α) (ρ : Nat → Nat) : renL ρ (E.flat l) = E.flat l := by
  induction l with
  | nil => rfl
  | cons a l ih => rw [Enc.flat_cons, renL_append, Enc.Plain.pl, ih]
theorem Enc.flat_drop (l : List α) : ∀ i, (E.flat l).drop (i * E.size) = E.flat (l.drop i) := by
  induction l with
  | nil => intro i; simp [Enc.flat_nil]
  | cons a l ih =>
    intro i
    cases i with
    | zero => simp
    | succ i =>
      rw [Enc.flat_cons, show (i + 1) * E.size = (E.enc a).length + i * E.size from by rw [E.len, Nat.succ_mul]; omega, List.drop_append]
      rw [List.drop_eq_nil_of_le (by omega), List.nil_append, show (E.enc a).length + i * E.size - (E.enc a).length = i * E.size from by omega, ih]
      rfl
theorem Enc.flat_take (l : List α) : ∀ i, (E.flat l).take (i * E.size) = E.flat (l.take i) := by
  induction l with
  | nil => intro i; simp [Enc.flat_nil]
  | cons a l ih =>
    intro i
    cases i with
    | zero => simp [Enc.flat_nil]
    | succ i =>
      rw [Enc.flat_cons, show (i + 1) * E.size = (E.enc a).length + i * E.size from by rw [E.len, Nat.succ_mul]; omega, List.take_append]
      rw [List.take_of_length_le (by omega), show (E.enc a).length + i * E.size - (E.enc a).length = i * E.size from by omega, ih]
      rfl
theorem Enc.flat_row [Inhabited α] (l : List α) (i : Nat) (h : i < l.length) : ((E.flat l).drop (i * E.size)).take E.size = E.enc (at' l i) := by
  rw [Enc.flat_drop, List.drop_eq_getElem_cons h, Enc.flat_cons, List.take_append, List.take_of_length_le (by rw [E.len]; omega), E.len, Nat.sub_self, List.take_zero, List.append_nil, at'_get _ _ h]
end
/-- v is a slice of the data l -/
inductive SlT {α : Type} (E : Enc α) (hp : Hp) : Value → List α → Prop
  | nils : SlT E hp (.slice none 0 0) []
  | emp : SlT E hp (.slice (some ⟨0, 0, some 0⟩) 0 0) []
  | rows (b o c : Nat) (rw : Bool) (vs : List Value) (l : List α) (hb : hp b = some (.cells rw E.size vs)) (hv : (vs.drop o).take (l.length * E.size) = E.flat l) (ho : o + l.length * E.size ≤ vs.length) (hc : l.length ≤ c) (hn : l.length ≤ 9223372036854775807) :
      SlT E hp (.slice (some ⟨b, o, none⟩) l.length c) l
/-- where a cell of a slice lies -/
def ptrS (v : Value) (d : Nat) : Value := match v with
  | .slice (some ⟨b, o, none⟩) _ _ => .pointer (some ⟨b, o + d, none⟩)
  | _ => undef
def Enc.rd {α : Type} (E : Enc α) (hp : Hp) (v : Value) : List α := match v with
  | .slice (some ⟨b, o, none⟩) n _ => match hp b with
    | some (.cells _ _ vs) => (List.range n).map fun i => E.dec ((vs.drop (o + i * E.size)).take E.size)
    | _ => []
  | _ => []
section
variable {α : Type} [Inhabited α] {E : Enc α} {hp : Hp} {v : Value} {l : List α} {tt : TTab} {t e : TypeId}
omit [Inhabited α] in
theorem SlT.le (h : SlT E hp v l) : l.length ≤ 9223372036854775807 := by cases h with
  | nils => simp
  | emp => simp
  | rows _ _ _ _ _ _ _ _ _ _ hn => exact hn
omit [Inhabited α] in
theorem SlT.len (h : SlT E hp v l) (hk : kindOf tt t = some (.slice e)) : slen tt hp t v = (.int .i64 (l.length : Int), True) := by
  obtain ⟨i, hi, hd⟩ := kindOf_some hk
  cases h <;> (unfold slen; simp [hk, lenA, hi, hd])
omit [Inhabited α] in
theorem SlT.len_any (h : SlT E hp v l) (hk : kindOf tt t = some (.slice e)) {hp' : Hp} : slen tt hp' t v = (.int .i64 (l.length : Int), True) := by
  obtain ⟨i, hi, hd⟩ := kindOf_some hk
  cases h <;> (unfold slen; simp [hk, lenA, hi, hd])
theorem SlT.at (h : SlT E hp v l) {i : Nat} (hi : i < l.length) : ∃ b o c rw vs, v = .slice (some ⟨b, o, none⟩) l.length c ∧ hp b = some (.cells rw E.size vs) ∧ (vs.drop (o + i * E.size)).take E.size = E.enc (at' l i) ∧ o + (i + 1) * E.size ≤ vs.length := by
  cases h with
  | nils => simp at hi
  | emp => simp at hi
  | rows b o c rw vs l hb hv ho hc hn =>
    have h1 : (i + 1) * E.size ≤ l.length * E.size := Nat.mul_le_mul_right _ hi
    refine ⟨b, o, c, rw, vs, rfl, hb, ?_, by omega⟩
    rw [← Enc.flat_row l i hi, ← hv, List.drop_take, List.take_take, List.drop_drop]
    congr 1
    rw [Nat.succ_mul] at h1
    omega
theorem SlT.rd (h : SlT E hp v l) : E.rd hp v = l := by
  cases hh : h with
  | nils => rfl
  | emp => rfl
  | rows b o c rw vs l hb hv ho hc hn =>
    simp only [Enc.rd, hb]
    apply List.ext_getElem
    · simp
    · intro i h1 h2
      obtain ⟨b', o', c', rw', vs', e1, e2, e3, e4⟩ := h.at h2
      cases e1
      rw [hb] at e2; cases e2
      simp only [List.getElem_map, List.getElem_range, e3, E.h, at'_get _ _ h2]
theorem SlT.idx (h : SlT E hp v l) {j : TI} (hk : kindOf tt t = some (.slice e)) (hj : tt e = some j) (hs : j.size = E.size) {k : IntKind} {n : Int} (h0 : 0 ≤ n) (h1 : n < l.length) :
    sindexAddr tt t v (.int k n) = (ptrS v (n.toNat * E.size), True) := by
  obtain ⟨b, o, c, rw, vs, rfl, hb, _⟩ := h.at (i := n.toNat) (by omega)
  unfold sindexAddr
  simp [hk, hj, hs, ptrS, h0, h1]
theorem SlT.load (h : SlT E hp v l) {j : TI} (hj : tt e = some j) (hs : j.size = E.size) (ha : aggD j.ud = true) {i : Nat} (hi : i < l.length) :
    sload tt hp e (ptrS v (i * E.size)) = (.agg ⟨E.enc (at' l i)⟩, True) := by
  obtain ⟨b, o, c, rw, vs, rfl, hb, hrow, hlen⟩ := h.at hi
  unfold sload
  rw [Nat.succ_mul] at hlen
  simp [ptrS, hj, hb, ha, hs, hrow]
  omega
theorem SlT.cell (h : SlT E hp v l) {j : TI} (hj : tt e = some j) (ha : aggD j.ud = false) {i f : Nat} (hi : i < l.length) (hf : f < E.size) :
    sload tt hp e (ptrS v (i * E.size + f)) = ((E.enc (at' l i))[f]?.getD undef, True) := by
  obtain ⟨b, o, c, rw, vs, rfl, hb, hrow, hlen⟩ := h.at hi
  unfold sload
  rw [Nat.succ_mul] at hlen
  have e1 : vs[o + (i * E.size + f)]? = (E.enc (at' l i))[f]? := by
    rw [← hrow, List.getElem?_take, List.getElem?_drop, if_pos hf, Nat.add_assoc]
  simp only [ptrS, hj, hb, ha, e1]
  simp only [Prod.mk.injEq, true_and, eq_iff_iff, iff_true]
  omega
/-- a sub-array of an element -/
theorem SlT.sub (h : SlT E hp v l) {j : TI} (hj : tt e = some j) (ha : aggD j.ud = true) {i f : Nat} (hi : i < l.length) (hf : f + j.size ≤ E.size) :
    sload tt hp e (ptrS v (i * E.size + f)) = (.agg ⟨((E.enc (at' l i)).drop f).take j.size⟩, True) := by
  obtain ⟨b, o, c, rw, vs, rfl, hb, hrow, hlen⟩ := h.at hi
  unfold sload
  rw [Nat.succ_mul] at hlen
  have e1 : (vs.drop (o + (i * E.size + f))).take j.size = ((E.enc (at' l i)).drop f).take j.size := by
    rw [← hrow, List.drop_take, List.take_take, List.drop_drop, Nat.min_eq_left (by omega), Nat.add_assoc]
  simp only [ptrS, hj, hb, ha, e1]
  simp only [Prod.mk.injEq, true_and, eq_iff_iff, iff_true]
  omega
theorem SlT.field (h : SlT E hp v l) {i : Nat} (hi : i < l.length) {s : TypeId} {f o d : Nat} (hf : ∀ b o, fieldAddrA tt s (.pointer (some ⟨b, o, none⟩)) f = some (.pointer (some ⟨b, o + d, none⟩))) :
    sfieldAddr tt s (ptrS v o) f = (ptrS v (o + d), True) := by
  obtain ⟨b, o', c, rw, vs, rfl, hb, _⟩ := h.at hi
  unfold sfieldAddr ptrS
  simp only [hf, Nat.add_assoc]
omit [Inhabited α] in
theorem SlT.mono {hp' : Hp} (h : SlT E hp v l) (hs : ∀ b o n c, v = .slice (some ⟨b, o, none⟩) n c → hp' b = hp b) : SlT E hp' v l := by
  cases h with
  | nils => exact .nils
  | emp => exact .emp
  | rows b o c rw vs l hb hv ho hc hn => exact .rows b o c rw vs l (by rw [hs _ _ _ _ rfl]; exact hb) hv ho hc hn
omit [Inhabited α] in
theorem SlT.low (h : SlT E hp v l) {n : Nat} (hcl : Cl hp n) : Sc n v := by
  cases h with
  | nils => trivial
  | emp => trivial
  | rows b o c rw vs l hb hv ho hc hn => exact hcl.lt _ _ hb
omit [Inhabited α] in
theorem SlT.set (h : SlT E hp v l) {n i : Nat} {o : Option AObj} (hl : Sc n v) (hi : n ≤ i) : SlT E (hp.set i o) v l := by
  refine h.mono fun b o n' c e => ?_
  subst e
  exact set_ne _ _ _ _ (by simp only [Sc] at hl; omega)
omit [Inhabited α] in
theorem SlT.sets (h : SlT E hp v l) {n : Nat} (hl : Sc n v) : ∀ (us : Upds), (∀ p ∈ us, n ≤ p.1) → SlT E (hp.sets us) v l := by
  intro us
  induction us generalizing hp with
  | nil => intro _; exact h
  | cons p us ih =>
    intro hu
    obtain ⟨i, o⟩ := p
    exact ih (h.set hl (hu _ (List.mem_cons_self ..))) fun q hq => hu q (List.mem_cons_of_mem _ hq)
omit [Inhabited α] in
theorem SlT.ren {n : Nat} {ρ : Nat → Nat} (_ : SlT E hp v l) (hl : Sc n v) (hρ : ∀ j, j < n → ρ j = j) : ren ρ v = v := Sc.ren hρ hl
theorem strip_ld {tt : TTab} {hp : Hp} {v : Value} {n : Nat} (hl : Sc n v) {i d : Nat} {o : Option AObj} {t : TypeId} (hi : n ≤ i) : sload tt (hp.set i o) t (ptrS v d) = sload tt hp t (ptrS v d) := by
  cases v with
  | slice a m c =>
    cases a with
    | none => rfl
    | some a =>
      obtain ⟨b, q, s⟩ := a
      cases s with
      | some s => rfl
      | none =>
      simp only [Sc] at hl
      have e := set_ne hp i b o (by omega)
      simp only [ptrS, sload]
      cases tt t <;> simp only [e]
  | _ => rfl
theorem strip_sl {α : Type} {E : Enc α} {l : List α} {tt : TTab} {hp hp0 : Hp} {v : Value} {n : Nat} (h : SlT E hp0 v l) (hl : Sc n v) {i : Nat} {o : Option AObj} {t e : TypeId} {lo hi : Option Value} (hk : kindOf tt t = some (.slice e)) (hi' : n ≤ i) : sslice tt (hp.set i o) t v lo hi = sslice tt hp t v lo hi := by
  cases h with
  | nils => unfold sslice; simp only [hk]
  | emp =>
    obtain ⟨i1, hi1, hd⟩ := kindOf_some hk
    unfold sslice
    simp only [hk, sliceA, hi1, hd]
  | rows b q c rw vs l hb hv ho hc hn =>
    simp only [Sc] at hl
    have e := set_ne hp i b o (by omega)
    unfold sslice
    simp only [hk, e]
theorem sload_ptr {tt : TTab} {hp : Hp} {t : TypeId} {b o : Nat} : sload tt hp t (.pointer (some ⟨b, o, none⟩)) = (match tt t with
    | some i => match hp b with
      | some (.cells _ _ vs) => match aggD i.ud with
        | true => (.agg ⟨(vs.drop o).take i.size⟩, o + i.size ≤ vs.length)
        | false => ((vs[o]?).getD undef, o < vs.length)
      | _ => (undef, False)
    | none => (undef, False)) := by
  unfold sload
  cases tt t with
  | none => rfl
  | some i => rfl
theorem sstore_ptr {tt : TTab} {hp : Hp} {t : TypeId} {b o : Nat} {x : Value} : sstore tt hp t (.pointer (some ⟨b, o, none⟩)) x = (match tt t with
    | some i => match hp b with
      | some (.cells true esz vs) => ([(b, some (.cells true esz (splice vs o (cellsL x))))], cellsOk x i.size ∧ o + i.size ≤ vs.length ∧ oneCells (cellsL x) = true)
      | _ => ([], False)
    | none => ([], False)) := by
  unfold sstore
  cases tt t with
  | none => rfl
  | some i => rfl
theorem sindexAddr_ptr {tt : TTab} {t : TypeId} {b o : Nat} {ix : Value} : sindexAddr tt t (.pointer (some ⟨b, o, none⟩)) ix = (match kindOf tt t with
    | some (.array len e) => match tt e with
      | some j => (.pointer (some ⟨b, o + (intOf ix).toNat * j.size, none⟩), IsN ix ∧ 0 ≤ intOf ix ∧ intOf ix < (len : Int))
      | none => (undef, False)
    | _ => (undef, False)) := by
  unfold sindexAddr
  cases kindOf tt t with
  | none => rfl
  | some d => cases d <;> rfl
/-- v is a slice of data -/
inductive SlP {α : Type} (E : Enc α) (hp : Hp) (v : Value) : Prop
  | mk (l : List α) (h : SlT E hp v l)
theorem SlT.P {α : Type} {E : Enc α} {hp : Hp} {v : Value} {l : List α} (h : SlT E hp v l) : SlP E hp v = True := eq_true ⟨l, h⟩
theorem SlT.oc {α : Type} {E : Enc α} {hp : Hp} {v : Value} {l : List α} (h : SlT E hp v l) : Value.oneCell' v = true := by cases h <;> rfl
theorem SlT.cl {α : Type} {E : Enc α} {hp : Hp} {v : Value} {l : List α} (h : SlT E hp v l) : cellsL v = [v] := by cases h <;> rfl
theorem SlT.back {α : Type} {E : Enc α} {hp : Hp} {v : Value} {l : List α} {n i : Nat} {o : Option AObj} (h : SlT E (hp.set i o) v l) (hl : Sc n v) (hi : n ≤ i) : SlT E hp v l :=
  h.mono fun b q n' c e => by subst e; exact (set_ne _ _ _ _ (by simp only [Sc] at hl; omega)).symm
theorem strip_P {α : Type} {E : Enc α} {hp : Hp} {v : Value} {n : Nat} (hl : Sc n v) {i : Nat} {o : Option AObj} (hi : n ≤ i) : SlP E (hp.set i o) v = SlP E hp v :=
  propext ⟨fun ⟨l, h⟩ => ⟨l, h.back hl hi⟩, fun ⟨l, h⟩ => ⟨l, h.set hl hi⟩⟩
theorem strip_rd {α : Type} {E : Enc α} {hp : Hp} {v : Value} {n : Nat} (hl : Sc n v) {i : Nat} {o : Option AObj} (hi : n ≤ i) : E.rd (hp.set i o) v = E.rd hp v := by
  cases v with
  | slice a m c =>
    cases a with
    | none => rfl
    | some a =>
      obtain ⟨b, q, s⟩ := a
      cases s with
      | some s => rfl
      | none =>
      simp only [Sc] at hl
      have e := set_ne hp i b o (by omega)
      simp only [Enc.rd, e]
  | _ => rfl
theorem sindexAddr_slc {tt : TTab} {t : TypeId} {b o n c : Nat} {ix : Value} : sindexAddr tt t (.slice (some ⟨b, o, none⟩) n c) ix = (match kindOf tt t with
    | some (.slice e) => match tt e with
      | some j => (.pointer (some ⟨b, o + (intOf ix).toNat * j.size, none⟩), IsN ix ∧ 0 ≤ intOf ix ∧ intOf ix < (n : Int))
      | none => (undef, False)
    | _ => (undef, False)) := by
  unfold sindexAddr
  cases kindOf tt t with
  | none => rfl
  | some d => cases d <;> rfl
/-! ### parts of a slice -/
def subS (sz : Nat) (v : Value) (a b : Nat) : Value := match v with
  | .slice (some ⟨k, o, none⟩) _ c => .slice (some ⟨k, o + a * sz, none⟩) (b - a) (c - a)
  | v => v
omit [Inhabited α] in
theorem SlT.slHi (h : SlT E hp v l) {j : TI} (hk : kindOf tt t = some (.slice e)) (hj : tt e = some j) {k : IntKind} {n : Int} (h0 : 0 ≤ n) (h1 : n ≤ l.length) :
    sslice tt hp t v none (some (.int k n)) = (subS E.size v 0 n.toNat, True) := by
  cases h with
  | nils =>
    have : n = 0 := by simp at h1; omega
    subst this
    simp [sslice, hk, hj, isBound, sbound, subS]
  | emp =>
    have : n = 0 := by simp at h1; omega
    subst this
    obtain ⟨i, hi, hd⟩ := kindOf_some hk
    have hb : boundsA none (some (.int k 0)) 0 0 = some (0, 0) := rfl
    simp [sslice, hk, subS, sliceA, hi, hd, hj, hb]
  | rows b o c rw vs l hb hv ho hc hn =>
    simp only [sslice, hk, hj, hb, isBound, sbound, subS, IsN_int, intOf_int, Nat.zero_mul, Nat.add_zero, Nat.sub_zero, true_and, Prod.mk.injEq, eq_iff_iff, iff_true]
    omega
omit [Inhabited α] in
theorem SlT.take (h : SlT E hp v l) {n : Nat} (h1 : n ≤ l.length) : SlT E hp (subS E.size v 0 n) (l.take n) := by
  cases h with
  | nils => simp [subS]; exact .nils
  | emp => simp [subS]; exact .emp
  | rows b o c rw vs l hb hv ho hc hn =>
    have hl : (l.take n).length = n := by rw [List.length_take]; omega
    have h2 : n * E.size ≤ l.length * E.size := Nat.mul_le_mul_right _ h1
    have := SlT.rows (E := E) (hp := hp) b o c rw vs (l.take n) hb (by rw [hl, ← Enc.flat_take, ← hv, List.take_take, Nat.min_eq_left h2]) (by rw [hl]; omega) (by omega) (by omega)
    rw [hl] at this
    simpa [subS] using this
end
/-- a slice's rest -/
def subL (sz : Nat) (v : Value) (a : Nat) : Value := match v with
  | .slice (some ⟨k, o, none⟩) n c => if a = 0 ∨ a < c then .slice (some ⟨k, o + a * sz, none⟩) (n - a) (c - a) else .slice (some ⟨0, 0, some 0⟩) 0 0
  | v => v
theorem SlT.slLo {α : Type} {E : Enc α} {hp : Hp} {v : Value} {l : List α} {tt : TTab} {t e : TypeId} (h : SlT E hp v l) {j : TI} (hk : kindOf tt t = some (.slice e)) (hj : tt e = some j) (hs : j.size = E.size) {k : IntKind} {n : Int} (h0 : 0 ≤ n) (h1 : n ≤ l.length) :
    sslice tt hp t v (some (.int k n)) none = (subL E.size v n.toNat, True) := by
  cases h with
  | nils =>
    have : n = 0 := by simp at h1; omega
    subst this
    simp [sslice, hk, hj, isBound, sbound, subL]
  | emp =>
    have : n = 0 := by simp at h1; omega
    subst this
    obtain ⟨i, hi, hd⟩ := kindOf_some hk
    have hb : boundsA (some (.int k 0)) none 0 0 = some (0, 0) := rfl
    simp [sslice, hk, subL, sliceA, hi, hd, hj, hb]
  | rows b o c rw vs l hb hv ho hc hn =>
    simp only [sslice, hk, hj, hb, isBound, sbound, subL, IsN_int, intOf_int, hs, Int.toNat_natCast, true_and, Prod.mk.injEq, eq_iff_iff, iff_true, true_or, and_true]
    refine ⟨?_, by omega⟩
    by_cases hh : n.toNat = 0 ∨ n < (c : Int)
    · rw [if_pos hh, if_pos (by omega)]
    · rw [if_neg hh, if_neg (by omega)]
theorem SlT.drop {α : Type} {E : Enc α} {hp : Hp} {v : Value} {l : List α} (h : SlT E hp v l) {n : Nat} (h1 : n ≤ l.length) : SlT E hp (subL E.size v n) (l.drop n) := by
  cases h with
  | nils => simp [subL]; exact .nils
  | emp => simp [subL]; exact .emp
  | rows b o c rw vs l hb hv ho hc hn =>
    simp only [subL]
    have hl : (l.drop n).length = l.length - n := by rw [List.length_drop]
    have h2 : n * E.size ≤ l.length * E.size := Nat.mul_le_mul_right _ h1
    split
    · have e1 : (l.length - n) * E.size = l.length * E.size - n * E.size := by rw [Nat.sub_mul]
      have := SlT.rows (E := E) (hp := hp) b (o + n * E.size) (c - n) rw vs (l.drop n) hb (by
        rw [hl, e1, ← Enc.flat_drop, ← hv, List.drop_take, List.drop_drop]) (by rw [hl, e1]; omega) (by omega) (by omega)
      rw [hl] at this
      exact this
    · rename_i hh
      have : l.drop n = [] := List.drop_eq_nil_of_le (by omega)
      rw [this]; exact .emp
/-! ### slices that are the function's own -/
def mkSl {α : Type} (b : Nat) (l : List α) : Value := match l with
  | [] => .slice none 0 0
  | _ :: l => .slice (some ⟨b, 0, none⟩) (l.length + 1) (l.length + 1)
def mkOb {α : Type} (E : Enc α) (l : List α) : Option AObj := match l with
  | [] => none
  | a :: l => some (.cells true E.size (E.flat (a :: l)))
section
variable {α : Type} {E : Enc α} {hp : Hp} {b : Nat} {l : List α} {v : Value}
theorem mkOb_nil : mkOb E ([] : List α) = none := rfl
theorem rwB_mkOb {α : Type} {E : Enc α} {l : List α} : rwB (mkOb E l) = True := by cases l <;> exact eq_true (by first | trivial | rfl)
theorem mkSl_nil : (mkSl b ([] : List α)) = .slice none 0 0 := rfl
theorem SlT.ownB (h : hp b = mkOb E l) (hn : l.length ≤ 9223372036854775807) : SlT E hp (mkSl b l) l := by
  cases l with
  | nil => exact .nils
  | cons a l =>
    have := SlT.rows (E := E) (hp := hp) b 0 (l.length + 1) true (E.flat (a :: l)) (a :: l) h (by rw [List.drop_zero, List.take_of_length_le]; rw [Enc.flat_len]; exact Nat.le_refl _) (by rw [Enc.flat_len]; omega) (by simp) (by omega)
    simpa [mkSl] using this
theorem SlT.own (h : hp b = mkOb E l) (hn : l.length ≤ 16777216) : SlT E hp (mkSl b l) l := SlT.ownB h (by omega)
theorem ren_mkSl {ρ : Nat → Nat} : ren ρ (mkSl b l) = mkSl (ρ b) l := by cases l <;> rfl
theorem renOO_mkOb [E.Plain] {ρ : Nat → Nat} : renOO ρ (mkOb E l) = mkOb E l := by
  cases l with
  | nil => rfl
  | cons a l => simp only [mkOb, renOO, renO, Enc.flat_ren]
/-- what an append does to memory -/
def appU (b : Nat) (l : List α) (top : Nat) (o : Option AObj) : Upds := match l with
  | [] => [(top, o)]
  | _ :: _ => [(b, none), (top, o)]
theorem sets_appU {top : Nat} {o : Option AObj} (h : hp b = mkOb E l) : hp.sets (appU b l top o) = (hp.set b none).set top o := by
  cases l with
  | nil =>
    have : hp.set b none = hp := by
      funext i
      unfold Hp.set
      split
      · rename_i e; rw [e, h]; rfl
      · rfl
    rw [this]; rfl
  | cons a l => rfl
theorem SlT.lenOfA (h : SlT E hp v l) : lenOfA v = some l.length := by cases h <;> rfl
theorem SlT.firstA (h : SlT E hp v l) : firstA hp E.size l.length v = some (E.flat l) := by
  cases h with
  | nils => simp [Dm.firstA, Enc.flat_nil]
  | emp => simp [Dm.firstA, Enc.flat_nil]
  | rows b' o c rw vs l' hb' hv ho hc hn' =>
    simp only [Dm.firstA, hb', hv, Enc.flat_len, Nat.beq_refl]
/-- an append to a slice of one's own -/
theorem appendA_ownR {tt : TTab} {top t0 t1 e : Nat} {i1 j : TI} {x : Value} {m : List α} (h0 : kindOf tt t0 = some (.slice e)) (h1 : tt t1 = some i1) (hi : isIntD i1.ud = false) (hj : tt e = some j) (hs : j.size = E.size) (hby : Nat.ble j.bytes 65536 = true)
    (h : hp b = mkOb E l) (hx : SlT E hp x m) (hn : roomB (l.length + m.length) j.bytes = true) :
    appendA tt hp top [t0, t1] (mkSl b l) x = some (mkSl top (l ++ m), appU b l top (mkOb E (l ++ m)), top + 1) := by
  obtain ⟨i, hi0, hd⟩ := kindOf_some h0
  have hf := hx.firstA
  have hlx := hx.lenOfA
  cases l with
  | nil =>
    cases m with
    | nil =>
      simp only [List.length_nil] at hf hlx
      simp [appendA, hi0, h1, hlx, hi, hd, hj, hs, hf, hby, Enc.flat_nil, oneCells, mkSl, mkOb, appU]
    | cons y m =>
      have h2 : roomB (y :: m).length j.bytes = true := by simpa using hn
      have h3 := E.flat_one (y :: m)
      have h4 : Nat.beq (E.flat (y :: m)).length ((y :: m).length * E.size) = true := by rw [Enc.flat_len]; simp
      have h5 : Nat.beq (y :: m).length 0 = false := rfl
      simp only [List.length_cons] at hf hlx h2 h4 h5
      simp only [appendA, hi0, h1, hlx, hi, hd, hj, hs, hf, hby, h2, h3, h4, h5, mkSl, mkOb, appU, List.nil_append, Bool.and_self, Bool.true_and]
  | cons a l =>
    have hb : hp b = some (.cells true E.size (E.flat (a :: l))) := h
    have h3 := E.flat_one m
    have h4 : Nat.beq (E.flat m).length (m.length * E.size) = true := by rw [Enc.flat_len]; simp
    have h5 : Nat.beq E.size E.size = true := by simp
    have h6 : (Nat.ble (l.length + 1 + m.length) (l.length + 1) && !Nat.beq (l.length + 1) (l.length + 1)) = false := by
      rw [Nat.beq_refl]; simp
    have h7 : (Nat.beq (0 + (l.length + 1) * E.size) (E.flat (a :: l)).length && roomB (l.length + 1 + m.length) j.bytes) = true := by
      rw [Bool.and_eq_true]
      exact ⟨by rw [Enc.flat_len]; simp, hn⟩
    simp only [appendA, hi0, h1, hlx, hi, hd, hj, hs, hf, hby, hb, h3, h4, h5, h6, h7, mkSl, mkOb, appU, Bool.and_self, List.cons_append, List.drop_zero]
    simp only [List.length_append, Enc.flat_cons, Enc.flat_append, List.append_assoc]
    have e1 : l.length + 1 + m.length = l.length + m.length + 1 := by omega
    rw [e1]
theorem appendA_own {tt : TTab} {top t0 t1 e : Nat} {i1 j : TI} {x : Value} {m : List α} (h0 : kindOf tt t0 = some (.slice e)) (h1 : tt t1 = some i1) (hi : isIntD i1.ud = false) (hj : tt e = some j) (hs : j.size = E.size) (hby : Nat.ble j.bytes 65536 = true)
    (h : hp b = mkOb E l) (hx : SlT E hp x m) (hn : l.length + m.length ≤ 16777216) :
    appendA tt hp top [t0, t1] (mkSl b l) x = some (mkSl top (l ++ m), appU b l top (mkOb E (l ++ m)), top + 1) :=
  appendA_ownR h0 h1 hi hj hs hby h hx (roomB_of hn (Nat.le_of_ble_eq_true hby))
theorem appendA_nilR {tt : TTab} {top t0 t1 e : Nat} {i1 j : TI} {x : Value} {m : List α} (h0 : kindOf tt t0 = some (.slice e)) (h1 : tt t1 = some i1) (hi : isIntD i1.ud = false) (hj : tt e = some j) (hs : j.size = E.size) (hby : Nat.ble j.bytes 65536 = true)
    (hx : SlT E hp x m) (hn : roomB m.length j.bytes = true) :
    appendA tt hp top [t0, t1] (.slice none 0 0) x = some (mkSl top m, [(top, mkOb E m)], top + 1) := by
  obtain ⟨i, hi0, hd⟩ := kindOf_some h0
  have hf := hx.firstA
  have hlx := hx.lenOfA
  cases m with
  | nil =>
    simp only [List.length_nil] at hf hlx
    simp [appendA, hi0, h1, hlx, hi, hd, hj, hs, hf, hby, Enc.flat_nil, oneCells, mkSl, mkOb]
  | cons y m =>
    have h2 : roomB (y :: m).length j.bytes = true := hn
    have h3 := E.flat_one (y :: m)
    have h4 : Nat.beq (E.flat (y :: m)).length ((y :: m).length * E.size) = true := by rw [Enc.flat_len]; simp
    have h5 : Nat.beq (y :: m).length 0 = false := rfl
    simp only [List.length_cons] at hf hlx h2 h4 h5
    simp only [appendA, hi0, h1, hlx, hi, hd, hj, hs, hf, hby, h2, h3, h4, h5, mkSl, mkOb, Bool.and_self, Bool.true_and]
theorem appendA_nil {tt : TTab} {top t0 t1 e : Nat} {i1 j : TI} {x : Value} {m : List α} (h0 : kindOf tt t0 = some (.slice e)) (h1 : tt t1 = some i1) (hi : isIntD i1.ud = false) (hj : tt e = some j) (hs : j.size = E.size) (hby : Nat.ble j.bytes 65536 = true)
    (hx : SlT E hp x m) (hn : m.length ≤ 16777216) :
    appendA tt hp top [t0, t1] (.slice none 0 0) x = some (mkSl top m, [(top, mkOb E m)], top + 1) :=
  appendA_nilR h0 h1 hi hj hs hby hx (roomB_of hn (Nat.le_of_ble_eq_true hby))
theorem own_P (h : hp b = mkOb E l) (hn : l.length ≤ 16777216) : SlP E hp (mkSl b l) = True := (SlT.own h hn).P
theorem own_rd [Inhabited α] (h : hp b = mkOb E l) (hn : l.length ≤ 16777216) : E.rd hp (mkSl b l) = l := (SlT.own h hn).rd
theorem mkSl_cl : cellsL (mkSl b l) = [mkSl b l] := by cases l <;> rfl
theorem mkSl_oc : Value.oneCell' (mkSl b l) = true := by cases l <;> rfl
theorem appendA_ownP [Inhabited α] {tt : TTab} {top t0 t1 e : Nat} {i1 j : TI} {x : Value} (h0 : kindOf tt t0 = some (.slice e)) (h1 : tt t1 = some i1) (hi : isIntD i1.ud = false) (hj : tt e = some j) (hs : j.size = E.size) (hby : Nat.ble j.bytes 65536 = true)
    (h : hp b = mkOb E l) (hx : SlP E hp x) (hn : l.length + (E.rd hp x).length ≤ 16777216) :
    appendA tt hp top [t0, t1] (mkSl b l) x = some (mkSl top (l ++ E.rd hp x), appU b l top (mkOb E (l ++ E.rd hp x)), top + 1) := by
  obtain ⟨m, hm⟩ := hx
  rw [hm.rd] at hn ⊢
  exact appendA_own h0 h1 hi hj hs hby h hm hn
theorem own_Pb (h : hp b = mkOb E l) (hn : l.length ≤ 9223372036854775807) : SlP E hp (mkSl b l) = True := (SlT.ownB h hn).P
theorem own_rdb [Inhabited α] (h : hp b = mkOb E l) (hn : l.length ≤ 9223372036854775807) : E.rd hp (mkSl b l) = l := (SlT.ownB h hn).rd
theorem appendA_nilPb [Inhabited α] {tt : TTab} {top t0 t1 e : Nat} {i1 j : TI} {x : Value} (h0 : kindOf tt t0 = some (.slice e)) (h1 : tt t1 = some i1) (hi : isIntD i1.ud = false) (hj : tt e = some j) (hs : j.size = E.size) (hby : Nat.ble j.bytes 65536 = true)
    (hx : SlP E hp x) (hn : roomB (E.rd hp x).length j.bytes = true) :
    appendA tt hp top [t0, t1] (.slice none 0 0) x = some (mkSl top (E.rd hp x), [(top, mkOb E (E.rd hp x))], top + 1) := by
  obtain ⟨m, hm⟩ := hx
  rw [hm.rd] at hn ⊢
  exact appendA_nilR h0 h1 hi hj hs hby hm hn
/-- one datum more -/
theorem SlT.one {k : Nat} {a : α} (h : hp k = some (.cells true E.size (E.enc a))) : SlT E hp (.slice (some ⟨k, 0, none⟩) 1 1) [a] := by
  have hl := E.len a
  exact SlT.rows (E := E) (hp := hp) k 0 1 true (E.enc a) [a] h (by simp [Enc.flat, ← hl]) (by simp [hl]) (by simp) (by simp)
theorem appendA_nilP [Inhabited α] {tt : TTab} {top t0 t1 e : Nat} {i1 j : TI} {x : Value} (h0 : kindOf tt t0 = some (.slice e)) (h1 : tt t1 = some i1) (hi : isIntD i1.ud = false) (hj : tt e = some j) (hs : j.size = E.size) (hby : Nat.ble j.bytes 65536 = true)
    (hx : SlP E hp x) (hn : (E.rd hp x).length ≤ 16777216) :
    appendA tt hp top [t0, t1] (.slice none 0 0) x = some (mkSl top (E.rd hp x), [(top, mkOb E (E.rd hp x))], top + 1) := by
  obtain ⟨m, hm⟩ := hx
  rw [hm.rd] at hn ⊢
  exact appendA_nil h0 h1 hi hj hs hby hm hn
theorem appendA_one {tt : TTab} {top t0 t1 e k : Nat} {i1 j : TI} {cs : List Value} (h0 : kindOf tt t0 = some (.slice e)) (h1 : tt t1 = some i1) (hi : isIntD i1.ud = false) (hj : tt e = some j) (hs : j.size = E.size) (hby : Nat.ble j.bytes 65536 = true)
    (h : hp b = mkOb E l) (hk : hp k = some (.cells true E.size cs)) (hc : E.enc (E.dec cs) = cs) (hn : l.length < 16777216) :
    appendA tt hp top [t0, t1] (mkSl b l) (.slice (some ⟨k, 0, none⟩) 1 1) = some (mkSl top (l ++ [E.dec cs]), appU b l top (mkOb E (l ++ [E.dec cs])), top + 1) :=
  appendA_own h0 h1 hi hj hs hby h (SlT.one (by rw [hc]; exact hk)) (by simp only [List.length_singleton]; omega)
def cellsOf : Option AObj → List Value
  | some (.cells _ _ cs) => cs
  | _ => []
theorem cellsOf_some {rw : Bool} {z : Nat} {cs : List Value} : cellsOf (some (.cells rw z cs)) = cs := rfl
theorem appendA_oneC {tt : TTab} {top t0 t1 e k : Nat} {i1 j : TI} (h0 : kindOf tt t0 = some (.slice e)) (h1 : tt t1 = some i1) (hi : isIntD i1.ud = false) (hj : tt e = some j) (hs : j.size = E.size) (hby : Nat.ble j.bytes 65536 = true)
    (h : hp b = mkOb E l) (hk : hp k = some (.cells true E.size (cellsOf (hp k)))) (hc : E.enc (E.dec (cellsOf (hp k))) = cellsOf (hp k)) (hn : l.length < 16777216) :
    appendA tt hp top [t0, t1] (mkSl b l) (.slice (some ⟨k, 0, none⟩) 1 1) = some (mkSl top (l ++ [E.dec (cellsOf (hp k))]), appU b l top (mkOb E (l ++ [E.dec (cellsOf (hp k))])), top + 1) :=
  appendA_one h0 h1 hi hj hs hby h hk hc hn
theorem appendA_zeroC {tt : TTab} {top t0 t1 e k : Nat} {i1 j : TI} (h0 : kindOf tt t0 = some (.slice e)) (h1 : tt t1 = some i1) (hi : isIntD i1.ud = false) (hj : tt e = some j) (hs : j.size = E.size) (hby : Nat.ble j.bytes 65536 = true)
    (hk : hp k = some (.cells true E.size (cellsOf (hp k)))) (hc : E.enc (E.dec (cellsOf (hp k))) = cellsOf (hp k)) :
    appendA tt hp top [t0, t1] (.slice none 0 0) (.slice (some ⟨k, 0, none⟩) 1 1) = some (mkSl top [E.dec (cellsOf (hp k))], [(top, mkOb E [E.dec (cellsOf (hp k))])], top + 1) :=
  appendA_nil h0 h1 hi hj hs hby (SlT.one (by rw [hc]; exact hk)) (by simp)
/-- an element of one's own -/
theorem own_idx [Inhabited α] {tt : TTab} {t e : TypeId} {j : TI} (hk : kindOf tt t = some (.slice e)) (hj : tt e = some j) {k : IntKind} {n : Int} (h0 : 0 ≤ n) (h1 : n < l.length) :
    sindexAddr tt t (mkSl b l) (.int k n) = (.pointer (some ⟨b, n.toNat * j.size, none⟩), True) := by
  cases l with
  | nil => simp at h1; omega
  | cons a l =>
    unfold sindexAddr mkSl
    simp at h1
    simp [hk, hj, h0]
    omega
/-! ### a write into a slice of one's own -/
theorem splice_flat [Inhabited α] {a' : α} {xs : List Value} {f : Nat} : ∀ {l : List α} {i : Nat}, i < l.length → f + xs.length ≤ E.size → E.enc a' = splice (E.enc (at' l i)) f xs → splice (E.flat l) (i * E.size + f) xs = E.flat (l.set i a') := by
  intro l
  induction l with
  | nil => intro i h; simp at h
  | cons a l ih =>
    intro i hi hf he
    have hl := E.len a
    cases i with
    | zero =>
      have h0 : at' (a :: l) 0 = a := rfl
      rw [h0] at he
      simp only [List.set_cons_zero, Enc.flat_cons, he, splice, Nat.zero_mul, Nat.zero_add]
      rw [List.take_append_of_le_length (by omega), List.drop_append_of_le_length (by omega)]
      simp only [List.append_assoc]
    | succ i =>
      have h1 : at' (a :: l) (i + 1) = at' l i := by simp [at']
      rw [h1] at he
      have := ih (by simpa using hi) hf he
      simp only [List.set_cons_succ, Enc.flat_cons, ← this, splice]
      have e : (i + 1) * E.size + f = (E.enc a).length + (i * E.size + f) := by rw [hl, Nat.succ_mul]; omega
      rw [e, List.take_length_add_append, Nat.add_assoc, List.drop_length_add_append]
      simp only [List.append_assoc]
theorem mkOb_set {i : Nat} {a : α} (h : i < l.length) : mkOb E (l.set i a) = some (.cells true E.size (E.flat (l.set i a))) := by
  cases l with
  | nil => simp at h
  | cons b l => cases i <;> rfl
theorem mkOb_pos {i : Nat} (h : i < l.length) : mkOb E l = some (.cells true E.size (E.flat l)) := by
  cases l with
  | nil => simp at h
  | cons b l => rfl
theorem ptrS_mkSl {i d : Nat} (h : i < l.length) : ptrS (mkSl b l) d = .pointer (some ⟨b, d, none⟩) := by
  cases l with
  | nil => simp at h
  | cons a l => simp [mkSl, ptrS]
theorem own_store [Inhabited α] {tt : TTab} {t : TypeId} {j : TI} {x : Value} {i f : Nat} (hj : tt t = some j) (h : hp b = mkOb E l) (hi : i < l.length) (hx : cellsOk x j.size) (hf : f + j.size ≤ E.size) (h1 : oneCells (cellsL x) = true)
    (he : E.enc (E.dec (splice (E.enc (at' l i)) f (cellsL x))) = splice (E.enc (at' l i)) f (cellsL x)) :
    sstore tt hp t (ptrS (mkSl b l) (i * E.size + f)) x = ([(b, mkOb E (l.set i (E.dec (splice (E.enc (at' l i)) f (cellsL x)))))], True) := by
  have hlen : (cellsL x).length = j.size := hx
  have h2 : (i + 1) * E.size ≤ l.length * E.size := Nat.mul_le_mul_right _ hi
  rw [Nat.succ_mul] at h2
  rw [ptrS_mkSl hi, mkOb_set hi]
  unfold sstore
  rw [mkOb_pos hi] at h
  simp only [hj, h]
  rw [splice_flat hi (by rw [hlen]; exact hf) he, Enc.flat_len]
  have h3 : i * E.size + f + j.size ≤ l.length * E.size := by omega
  simp [hx, h1, h3]
theorem own_storeA [Inhabited α] {tt : TTab} {t : TypeId} {j : TI} {cs : List Value} {i : Nat} (hj : tt t = some j) (hs : j.size = E.size) (h : hp b = mkOb E l) (hi : i < l.length) (hc : E.enc (E.dec cs) = cs) (h1 : oneCells cs = true) :
    sstore tt hp t (ptrS (mkSl b l) (i * E.size)) (.agg ⟨cs⟩) = ([(b, mkOb E (l.set i (E.dec cs)))], True) := by
  have hl : cs.length = E.size := by rw [← hc]; exact E.len _
  have e : splice (E.enc (at' l i)) 0 cs = cs := by
    simp only [splice, List.take_zero, List.nil_append, Nat.zero_add]
    rw [List.drop_eq_nil_of_le (by rw [E.len, hl]; exact Nat.le_refl _), List.append_nil]
  have := own_store (E := E) (hp := hp) (b := b) (l := l) (x := .agg ⟨cs⟩) (i := i) (f := 0) hj h hi (by show cs.length = j.size; rw [hl, hs]) (by omega) h1 (by show E.enc (E.dec (splice _ 0 cs)) = splice _ 0 cs; rw [e, hc])
  rw [Nat.add_zero] at this
  rw [this]
  show ([(b, mkOb E (l.set i (E.dec (splice _ 0 cs))))], True) = _
  rw [e]
theorem own_storeF [Inhabited α] {tt : TTab} {t : TypeId} {j : TI} {x : Value} {i f : Nat} {a' : α} (hj : tt t = some j) (h : hp b = mkOb E l) (hi : i < l.length) (hx : cellsOk x j.size) (hf : f + j.size ≤ E.size) (h1 : oneCells (cellsL x) = true)
    (he : E.enc a' = splice (E.enc (at' l i)) f (cellsL x)) :
    sstore tt hp t (ptrS (mkSl b l) (i * E.size + f)) x = ([(b, mkOb E (l.set i a'))], True) := by
  have := own_store (E := E) (hp := hp) (b := b) (l := l) (x := x) (i := i) (f := f) hj h hi hx hf h1 (by rw [← he, E.h])
  rw [this, ← he, E.h]
end
end Go.Dm
/- Maps of data. -/
namespace Go.Dm
/-- how keys of a type lie in memory -/
structure KT (tt : TTab) (kt : TypeId) (κ : Type) [DecidableEq κ] where
  ek : κ → Value
  eq : ∀ a b, eqA tt 64 kt (ek a) (ek b) = some (decide (a = b))
  key : ∀ a, keyA tt 64 kt (ek a) = true
  pl : ∀ a, plain 8 (ek a) = true
  bits : ∀ a, Instr.sameBits 10000 (ek a) (ek a) = true
  ren : ∀ ρ a, ren ρ (ek a) = ek a
section
variable {κ β : Type} [DecidableEq κ]
variable {tt : TTab} {kt : TypeId} (Q : KT tt kt κ) (ev : β → Value)
/-- a map's entries, as they are asked -/
def slookE (tt : TTab) (kt : TypeId) (z : Value) (k : Value) (es : List MapEntry) (ok : Bool) : Value × Prop :=
  let v := match findS tt kt k es with
    | some (_, v) => v
    | none => z
  (match ok with
    | true => .tuple ⟨[v, .bool (findS tt kt k es).isSome]⟩
    | false => v, keyA tt 64 kt k = true ∧ (findA tt kt k es 0).isSome = true)
end
/-- keys that are data of numbers -/
theorem sameBits_of {l : List Value} {n : Nat} (h : ∀ v ∈ l, Instr.sameBits n v v = true) : Instr.sameBits (n + 1) (.agg ⟨l⟩) (.agg ⟨l⟩) = true := by
  have : ∀ l : List Value, (∀ v ∈ l, Instr.sameBits n v v = true) → (l.zip l).all (fun (x, y) => Instr.sameBits n x y) = true := by
    intro l
    induction l with
    | nil => intro _; rfl
    | cons a l ih =>
      intro h
      simp only [List.zip_cons_cons, List.all_cons, h a (List.mem_cons_self ..), Bool.true_and]
      exact ih fun v hv => h v (List.mem_cons_of_mem _ hv)
  simp only [Instr.sameBits, beq_self_eq_true, Bool.true_and]
  exact this l h
end Go.Dm
/- Drawn regions whose reads are not ordered against all writes: each read is shown to come to the same at each time. -/
namespace Go.Dm
def inUn : List (Nat × Nat) → Nat → Nat → Bool
  | [], _, _ => false
  | (a, b) :: l, i, k => match Nat.beq a i, Nat.beq b k with
    | true, true => true
    | _, _ => inUn l i k
structure RdE where
  i : Nat
  g : Bool
  fr : SFr
  op : Op
  v : Value
def lateOk (tt : TTab) (G : FuncId → Con) (un : List (Nat × Nat)) (k : Nat) (hp : Hp) : List RdE → Prop
  | [] => True
  | e :: rs => (if inUn un e.i k = true then (e.g = true → (pv tt G e.fr hp e.op).2 ∧ (pv tt G e.fr hp e.op).1 = e.v) ∧ lateOk tt G un k hp rs else lateOk tt G un k hp rs)
def earlyOk (tt : TTab) (G : FuncId → Con) (un : List (Nat × Nat)) (i : Nat) (fr : SFr) (op : Op) (v : Value) : List (Nat × Hp) → Prop
  | [] => True
  | (k, hp) :: vs => (if inUn un i k = true then ((pv tt G fr hp op).2 ∧ (pv tt G fr hp op).1 = v) ∧ earlyOk tt G un i fr op v vs else earlyOk tt G un i fr op v vs)
def hasUn : List (Nat × Nat) → Nat → Bool
  | [], _ => false
  | (a, _) :: l, i => match Nat.beq a i with
    | true => true
    | false => hasUn l i
def addRd (un : List (Nat × Nat)) (e : RdE) (rs : List RdE) : List RdE := match hasUn un e.i with
  | true => e :: rs
  | false => rs
def dopsX (tt : TTab) (G : FuncId → Con) (all : List Oper) (un : List (Nat × Nat)) : Nat → List Oper → List RdE → List (Nat × Hp) → (SS → Prop) → SS → Prop
  | _, [], _, _, K, s => K s
  | i, o :: os, rs, vs, K, s => (sguard all s.fr o.guard).2 ∧ (match wrG G o.op with
    | true => (if (sguard all s.fr o.guard).1 = true then (swrG tt G s.fr s.hp s.top o.op).ob ∧ lateOk tt G un i (s.hp.sets (swrG tt G s.fr s.hp s.top o.op).us) rs ∧
          dopsX tt G all un (i + 1) os rs ((i, s.hp) :: vs) K ⟨sput s.fr o.dst (swrG tt G s.fr s.hp s.top o.op).v true, s.hp.sets (swrG tt G s.fr s.hp s.top o.op).us, (swrG tt G s.fr s.hp s.top o.op).top⟩
        else dopsX tt G all un (i + 1) os rs vs K ⟨sput s.fr o.dst undef false, s.hp, s.top⟩)
    | false => ((sguard all s.fr o.guard).1 = true → (pv tt G s.fr s.hp o.op).2 ∧ earlyOk tt G un i s.fr o.op (pv tt G s.fr s.hp o.op).1 vs) ∧
        dopsX tt G all un (i + 1) os (addRd un ⟨i, (sguard all s.fr o.guard).1, s.fr, o.op, (pv tt G s.fr s.hp o.op).1⟩ rs) vs K ⟨sput s.fr o.dst (pv tt G s.fr s.hp o.op).1 (sguard all s.fr o.guard).1, s.hp, s.top⟩)
theorem inUn_has {un : List (Nat × Nat)} {i k : Nat} (h : inUn un i k = true) : hasUn un i = true := by
  induction un with
  | nil => cases h
  | cons p l ih =>
    obtain ⟨a, b⟩ := p
    unfold inUn at h
    unfold hasUn
    cases ha : Nat.beq a i with
    | true => rfl
    | false => rw [ha] at h; exact ih h
theorem lateOk_mem {tt : TTab} {G : FuncId → Con} {un : List (Nat × Nat)} {k : Nat} {hp : Hp} : ∀ {rs : List RdE}, lateOk tt G un k hp rs → ∀ e ∈ rs, inUn un e.i k = true → e.g = true → (pv tt G e.fr hp e.op).2 ∧ (pv tt G e.fr hp e.op).1 = e.v := by
  intro rs
  induction rs with
  | nil => intro _ e he; cases he
  | cons a rs ih =>
    intro h e he hu hg
    unfold lateOk at h
    cases he with
    | head =>
      rw [if_pos hu] at h
      exact h.1 hg
    | tail _ he =>
      split at h
      · exact ih h.2 e he hu hg
      · exact ih h e he hu hg
theorem earlyOk_mem {tt : TTab} {G : FuncId → Con} {un : List (Nat × Nat)} {i : Nat} {fr : SFr} {op : Op} {v : Value} : ∀ {vs : List (Nat × Hp)}, earlyOk tt G un i fr op v vs → ∀ p ∈ vs, inUn un i p.1 = true → (pv tt G fr p.2 op).2 ∧ (pv tt G fr p.2 op).1 = v := by
  intro vs
  induction vs with
  | nil => intro _ e he; cases he
  | cons a vs ih =>
    intro h e he hu
    obtain ⟨k, hp⟩ := a
    unfold earlyOk at h
    cases he with
    | head =>
      rw [if_pos hu] at h
      exact h.1
    | tail _ he =>
      split at h
      · exact ih h.2 e he hu
      · exact ih h e he hu
/-- all that the condition says -/
structure DXF (tt : TTab) (G : FuncId → Con) (all : List Oper) (un : List (Nat × Nat)) (i : Nat) (os : List Oper) (rs : List RdE) (vs : List (Nat × Hp)) (s : SS) : Prop where
  step : ∀ k o, os[k]? = some o → DF tt G all o (stK tt G all os s k) (stK tt G all os s (k + 1))
  late0 : ∀ e ∈ rs, ∀ k o, os[k]? = some o → wrG G o.op = true → (sguard all (stK tt G all os s k).fr o.guard).1 = true → inUn un e.i (i + k) = true → e.g = true →
    (pv tt G e.fr (stK tt G all os s (k + 1)).hp e.op).2 ∧ (pv tt G e.fr (stK tt G all os s (k + 1)).hp e.op).1 = e.v
  early0 : ∀ p ∈ vs, ∀ k o, os[k]? = some o → wrG G o.op = false → (sguard all (stK tt G all os s k).fr o.guard).1 = true → inUn un (i + k) p.1 = true →
    (pv tt G (stK tt G all os s k).fr p.2 o.op).2 ∧ (pv tt G (stK tt G all os s k).fr p.2 o.op).1 = (pv tt G (stK tt G all os s k).fr (stK tt G all os s k).hp o.op).1
  late : ∀ q k oq ok, q < k → os[q]? = some oq → os[k]? = some ok → wrG G oq.op = false → (sguard all (stK tt G all os s q).fr oq.guard).1 = true → wrG G ok.op = true → (sguard all (stK tt G all os s k).fr ok.guard).1 = true → inUn un (i + q) (i + k) = true →
    (pv tt G (stK tt G all os s q).fr (stK tt G all os s (k + 1)).hp oq.op).2 ∧ (pv tt G (stK tt G all os s q).fr (stK tt G all os s (k + 1)).hp oq.op).1 = (pv tt G (stK tt G all os s q).fr (stK tt G all os s q).hp oq.op).1
  early : ∀ q k oq ok, q < k → os[q]? = some oq → os[k]? = some ok → wrG G oq.op = true → (sguard all (stK tt G all os s q).fr oq.guard).1 = true → wrG G ok.op = false → (sguard all (stK tt G all os s k).fr ok.guard).1 = true → inUn un (i + k) (i + q) = true →
    (pv tt G (stK tt G all os s k).fr (stK tt G all os s q).hp ok.op).2 ∧ (pv tt G (stK tt G all os s k).fr (stK tt G all os s q).hp ok.op).1 = (pv tt G (stK tt G all os s k).fr (stK tt G all os s k).hp ok.op).1
theorem dopsX_facts {tt : TTab} {G : FuncId → Con} {all : List Oper} {un : List (Nat × Nat)} {K : SS → Prop} : ∀ (os : List Oper) (i : Nat) (rs : List RdE) (vs : List (Nat × Hp)) (s : SS), dopsX tt G all un i os rs vs K s →
    K (stK tt G all os s os.length) ∧ DXF tt G all un i os rs vs s := by
  intro os
  induction os with
  | nil => intro i rs vs s h; exact ⟨h, ⟨fun k o hk => by simp at hk, fun e he k o hk => by simp at hk, fun p hp k o hk => by simp at hk, fun q k oq ok hq h1 => by simp at h1, fun q k oq ok hq h1 => by simp at h1⟩⟩
  | cons o os ih =>
    intro i rs vs s h
    obtain ⟨h1, h2⟩ := h
    have z : ∀ n, stK tt G all (o :: os) s (n + 1) = stK tt G all os (nxS tt G all o s) n := fun n => rfl
    have z0 : stK tt G all (o :: os) s 0 = s := rfl
    have sh : ∀ n : Nat, i + (n + 1) = (i + 1) + n := fun n => by omega
    cases hw : wrG G o.op with
    | true =>
      rw [hw] at h2
      dsimp only at h2
      cases hg : (sguard all s.fr o.guard).1 with
      | true =>
        rw [if_pos hg] at h2
        obtain ⟨h3, h4, h5⟩ := h2
        have hn : nxS tt G all o s = ⟨sput s.fr o.dst (swrG tt G s.fr s.hp s.top o.op).v true, s.hp.sets (swrG tt G s.fr s.hp s.top o.op).us, (swrG tt G s.fr s.hp s.top o.op).top⟩ := by simp only [nxS, hw, hg]
        rw [← hn] at h5
        obtain ⟨hK, F⟩ := ih _ _ _ _ h5
        refine ⟨hK, ⟨?_, ?_, ?_, ?_, ?_⟩⟩
        · intro k p hk
          cases k with
          | zero =>
            simp at hk; subst hk
            rw [z, z0, stK_zero]
            exact ⟨h1, fun _ _ => h3, fun e => (by rw [hw] at e; cases e), rfl⟩
          | succ k => exact F.step k p (by simpa using hk)
        · intro e he k p hk hwp hgp hu heg
          cases k with
          | zero =>
            simp at hk; subst hk
            rw [z, stK_zero, hn]
            exact lateOk_mem h4 e he (by simpa using hu) heg
          | succ k => exact F.late0 e he k p (by simpa using hk) hwp hgp (by rw [← sh]; exact hu) heg
        · intro e he k p hk hwp hgp hu
          cases k with
          | zero =>
            simp at hk; subst hk
            rw [hw] at hwp; cases hwp
          | succ k => exact F.early0 e (List.mem_cons_of_mem _ he) k p (by simpa using hk) hwp hgp (by rw [← sh]; exact hu)
        · intro q k oq ok hqk hq hk hwq hgq hwk hgk hu
          cases k with
          | zero => omega
          | succ k =>
            cases q with
            | zero =>
              simp at hq; subst hq
              rw [hw] at hwq; cases hwq
            | succ q => exact F.late q k oq ok (by omega) (by simpa using hq) (by simpa using hk) hwq hgq hwk hgk (by rw [← sh, ← sh]; exact hu)
        · intro q k oq ok hqk hq hk hwq hgq hwk hgk hu
          cases k with
          | zero => omega
          | succ k =>
            cases q with
            | zero =>
              simp at hq; subst hq
              exact F.early0 (i, s.hp) (List.mem_cons_self ..) k ok (by simpa using hk) hwk hgk (by rw [← sh]; simpa using hu)
            | succ q => exact F.early q k oq ok (by omega) (by simpa using hq) (by simpa using hk) hwq hgq hwk hgk (by rw [← sh, ← sh]; exact hu)
      | false =>
        rw [if_neg (by rw [hg]; simp)] at h2
        have hn : nxS tt G all o s = ⟨sput s.fr o.dst undef false, s.hp, s.top⟩ := by simp only [nxS, hw, hg]
        rw [← hn] at h2
        obtain ⟨hK, F⟩ := ih _ _ _ _ h2
        refine ⟨hK, ⟨?_, ?_, ?_, ?_, ?_⟩⟩
        · intro k p hk
          cases k with
          | zero =>
            simp at hk; subst hk
            rw [z, z0, stK_zero]
            exact ⟨h1, fun _ e => (by rw [hg] at e; cases e), fun e => (by rw [hw] at e; cases e), rfl⟩
          | succ k => exact F.step k p (by simpa using hk)
        · intro e he k p hk hwp hgp hu heg
          cases k with
          | zero =>
            simp at hk; subst hk
            rw [z0, hg] at hgp; cases hgp
          | succ k => exact F.late0 e he k p (by simpa using hk) hwp hgp (by rw [← sh]; exact hu) heg
        · intro e he k p hk hwp hgp hu
          cases k with
          | zero =>
            simp at hk; subst hk
            rw [hw] at hwp; cases hwp
          | succ k => exact F.early0 e he k p (by simpa using hk) hwp hgp (by rw [← sh]; exact hu)
        · intro q k oq ok hqk hq hk hwq hgq hwk hgk hu
          cases k with
          | zero => omega
          | succ k =>
            cases q with
            | zero =>
              simp at hq; subst hq
              rw [hw] at hwq; cases hwq
            | succ q => exact F.late q k oq ok (by omega) (by simpa using hq) (by simpa using hk) hwq hgq hwk hgk (by rw [← sh, ← sh]; exact hu)
        · intro q k oq ok hqk hq hk hwq hgq hwk hgk hu
          cases k with
          | zero => omega
          | succ k =>
            cases q with
            | zero =>
              simp at hq; subst hq
              rw [z0, hg] at hgq; cases hgq
            | succ q => exact F.early q k oq ok (by omega) (by simpa using hq) (by simpa using hk) hwq hgq hwk hgk (by rw [← sh, ← sh]; exact hu)
    | false =>
      rw [hw] at h2
      dsimp only at h2
      obtain ⟨h3, h4⟩ := h2
      have hn : nxS tt G all o s = ⟨sput s.fr o.dst (pv tt G s.fr s.hp o.op).1 (sguard all s.fr o.guard).1, s.hp, s.top⟩ := by simp only [nxS, hw]
      rw [← hn] at h4
      obtain ⟨hK, F⟩ := ih _ _ _ _ h4
      have hold : ∀ e ∈ rs, e ∈ addRd un ⟨i, (sguard all s.fr o.guard).1, s.fr, o.op, (pv tt G s.fr s.hp o.op).1⟩ rs := by
        intro e he
        unfold addRd
        split
        · exact List.mem_cons_of_mem _ he
        · exact he
      refine ⟨hK, ⟨?_, ?_, ?_, ?_, ?_⟩⟩
      · intro k p hk
        cases k with
        | zero =>
          simp at hk; subst hk
          rw [z, z0, stK_zero]
          exact ⟨h1, fun e => (by rw [hw] at e; cases e), fun _ e => (h3 e).1, rfl⟩
        | succ k => exact F.step k p (by simpa using hk)
      · intro e he k p hk hwp hgp hu heg
        cases k with
        | zero =>
          simp at hk; subst hk
          rw [hw] at hwp; cases hwp
        | succ k => exact F.late0 e (hold e he) k p (by simpa using hk) hwp hgp (by rw [← sh]; exact hu) heg
      · intro e he k p hk hwp hgp hu
        cases k with
        | zero =>
          simp at hk; subst hk
          rw [z0]
          exact earlyOk_mem (h3 hgp).2 e he (by simpa using hu)
        | succ k => exact F.early0 e he k p (by simpa using hk) hwp hgp (by rw [← sh]; exact hu)
      · intro q k oq ok hqk hq hk hwq hgq hwk hgk hu
        cases k with
        | zero => omega
        | succ k =>
          cases q with
          | zero =>
            simp at hq; subst hq
            have hm : (⟨i, (sguard all s.fr o.guard).1, s.fr, o.op, (pv tt G s.fr s.hp o.op).1⟩ : RdE) ∈ addRd un ⟨i, (sguard all s.fr o.guard).1, s.fr, o.op, (pv tt G s.fr s.hp o.op).1⟩ rs := by
              have hh : hasUn un i = true := inUn_has (k := i + (k + 1)) (by simpa using hu)
              simp only [addRd, hh, List.mem_cons, true_or]
            exact F.late0 _ hm k ok (by simpa using hk) hwk hgk (by rw [← sh]; simpa using hu) hgq
          | succ q => exact F.late q k oq ok (by omega) (by simpa using hq) (by simpa using hk) hwq hgq hwk hgk (by rw [← sh, ← sh]; exact hu)
      · intro q k oq ok hqk hq hk hwq hgq hwk hgk hu
        cases k with
        | zero => omega
        | succ k =>
          cases q with
          | zero =>
            simp at hq; subst hq
            rw [hw] at hwq; cases hwq
          | succ q => exact F.early q k oq ok (by omega) (by simpa using hq) (by simpa using hk) hwq hgq hwk hgk (by rw [← sh, ← sh]; exact hu)
/-! ### the look at the region -/
def unOk (G : FuncId → Con) (an : List Nat) (un : List (Nat × Nat)) (all : List Oper) : Bool := (List.range all.length).all fun i => match all[i]? with
  | none => true
  | some o => wrG G o.op || heapFree o.op || (List.range all.length).all fun k => match all[k]? with
    | none => true
    | some p => !wrG G p.op || inUn un i k || (match Nat.ble (k + 1) i with
      | true => bit (an.getD i 0) k
      | false => bit (an.getD k 0) i)
noncomputable def drawOkX (G : FuncId → Con) (un : List (Nat × Nat)) (ops : List Oper) : Bool := match ancs ops [] with
  | none => false
  | some an => distinct (writers ops 0) && modesOk ops && safeOps an (writers ops 0) ops ops 0 && wwOk G an ops && unOk G an un ops
theorem unOk_spec {G : FuncId → Con} {an : List Nat} {un : List (Nat × Nat)} {all : List Oper} (h : unOk G an un all = true) : ∀ i k oi ok, all[i]? = some oi → all[k]? = some ok → wrG G oi.op = false → heapFree oi.op = false → wrG G ok.op = true →
    inUn un i k = true ∨ ((k < i → bit (an.getD i 0) k = true) ∧ (¬ k < i → bit (an.getD k 0) i = true)) := by
  intro i k oi ok hi hk hwi hfi hwk
  have lt_of : ∀ (k : Nat) (o : Oper), all[k]? = some o → k < all.length := fun k o h => by
    rcases Nat.lt_or_ge k all.length with h2 | h2
    · exact h2
    · rw [List.getElem?_eq_none h2] at h; cases h
  unfold unOk at h
  rw [List.all_eq_true] at h
  have := h i (List.mem_range.2 (lt_of i oi hi))
  rw [hi] at this
  simp only [hwi, hfi, Bool.false_or, List.all_eq_true] at this
  have := this k (List.mem_range.2 (lt_of k ok hk))
  rw [hk] at this
  simp only [hwk, Bool.not_true, Bool.false_or, Bool.or_eq_true] at this
  rcases this with h1 | h1
  · exact .inl h1
  right
  constructor
  · intro hlt
    have hb : Nat.ble (k + 1) i = true := Nat.ble_eq_true_of_le hlt
    rw [hb] at h1; exact h1
  · intro hlt
    have hb : Nat.ble (k + 1) i = false := by
      cases hb : Nat.ble (k + 1) i with
      | false => rfl
      | true => exact absurd (Nat.le_of_ble_eq_true hb) hlt
    rw [hb] at h1
    exact h1
section
variable {P : Program} {tt : TTab} {G : FuncId → Con} {ops : Array Oper} {an : List Nat} {s0 : SS} {sz : Nat}
open Classical in
theorem FactsB.rdUn (F : FactsB P tt G ops an s0 sz) (un : List (Nat × Nat)) (hun : unOk G an un ops.toList = true) (hX : DXF tt G ops.toList un 0 ops.toList [] [] s0) : FactsW P tt G ops an s0 sz := by
  refine ⟨F, ?_⟩
  intro i o ho hwb hg p hp hcomp
  have hilt := FactsB.lt (ops := ops) i o ho
  have S := F.step i o ho
  have hpv := S.r hwb hg
  have ltk : ∀ k, AW tt G ops s0 k → k < ops.size := fun k ⟨ok, h1, _⟩ => FactsB.lt (ops := ops) k ok h1
  have free : heapFree o.op = true → isWr o.op = false := fun h => by
    cases h2 : isWr o.op with
    | false => rfl
    | true => rw [hf_of hwb h2] at h; cases h
  -- the read at memory p
  have key : heapFree o.op = false → (pv tt G (stAtS tt G ops s0 i).fr (stAtS tt G ops s0 p).hp o.op).2 ∧ (pv tt G (stAtS tt G ops s0 i).fr (stAtS tt G ops s0 p).hp o.op).1 = (pv tt G (stAtS tt G ops s0 i).fr (stAtS tt G ops s0 i).hp o.op).1 := by
    intro hf
    have un' : ∀ k, AW tt G ops s0 k → ((k < i ∧ ¬ k < p) ∨ (¬ k < i ∧ k < p)) → inUn un i k = true := by
      intro k hk hc
      obtain ⟨ok, h1, h2, h3⟩ := hk
      obtain ⟨c1, c2⟩ := hcomp k ok h1 ⟨ok, h1, h2, h3⟩
      rcases unOk_spec hun i k o ok (by simpa using ho) (by simpa using h1) hwb hf h2 with h4 | ⟨h4, h5⟩
      · exact h4
      · rcases hc with ⟨a, b⟩ | ⟨a, b⟩
        · exact absurd (c1 (h4 a)) b
        · have := h5 a; rw [c2 b] at this; cases this
    rcases Nat.le_total i p with hip | hip
    · by_cases hex : ∃ k, AW tt G ops s0 k ∧ i ≤ k ∧ k < p
      · -- the last writer ahead of p
        have : ∃ k, (AW tt G ops s0 k ∧ i ≤ k ∧ k < p) ∧ ∀ k', AW tt G ops s0 k' → i ≤ k' → k' < p → k' ≤ k := by
          have hb : ∀ n, (∃ k, AW tt G ops s0 k ∧ i ≤ k ∧ k < n) → ∃ k, (AW tt G ops s0 k ∧ i ≤ k ∧ k < n) ∧ ∀ k', AW tt G ops s0 k' → i ≤ k' → k' < n → k' ≤ k := by
            intro n
            induction n with
            | zero => rintro ⟨k, _, _, h⟩; omega
            | succ n ih =>
              intro h
              by_cases hn : AW tt G ops s0 n ∧ i ≤ n
              · exact ⟨n, ⟨hn.1, hn.2, by omega⟩, fun k' _ _ h => by omega⟩
              · obtain ⟨k, h1, h2, h3⟩ := h
                have hkn : k ≠ n := fun e => hn (e ▸ ⟨h1, h2⟩)
                obtain ⟨m, ⟨m1, m2, m3⟩, m4⟩ := ih ⟨k, h1, h2, by omega⟩
                refine ⟨m, ⟨m1, m2, by omega⟩, fun k' h1 h2 h3 => ?_⟩
                have : k' ≠ n := fun e => hn (e ▸ ⟨h1, h2⟩)
                exact m4 k' h1 h2 (by omega)
          exact hb p hex
        obtain ⟨k, ⟨k1, k2, k3⟩, k4⟩ := this
        have hgp := F.gap' hp (show k + 1 ≤ ops.size from ltk k k1) (fun k' hk' => by
          constructor
          · intro h
            rcases Nat.lt_or_ge k' i with h5 | h5
            · omega
            · have := k4 k' hk' h5 h; omega
          · intro h; omega)
        rw [hgp.1]
        obtain ⟨ok, h1, h2, h3⟩ := k1
        have hne : i ≠ k := fun e => by subst e; rw [ho] at h1; cases h1; rw [hwb] at h2; cases h2
        exact hX.late i k o ok (by omega) (by simpa using ho) (by simpa using h1) hwb hg h2 h3 (by simpa using un' k ⟨ok, h1, h2, h3⟩ (.inr ⟨by omega, k3⟩))
      · have hgp := F.gap' hp (Nat.le_of_lt hilt) (fun k' hk' => by
          constructor
          · intro h
            rcases Nat.lt_or_ge k' i with h5 | h5
            · exact h5
            · exact absurd ⟨k', hk', h5, h⟩ hex
          · intro h; omega)
        rw [hgp.1]; exact ⟨hpv, rfl⟩
    · by_cases hex : ∃ k, AW tt G ops s0 k ∧ p ≤ k ∧ k < i
      · have : ∃ k, (AW tt G ops s0 k ∧ p ≤ k ∧ k < i) ∧ ∀ k', AW tt G ops s0 k' → p ≤ k' → k' < i → k ≤ k' := by
          have hb : ∀ d n, n + d = i → (∃ k, AW tt G ops s0 k ∧ n ≤ k ∧ k < i) → ∃ k, (AW tt G ops s0 k ∧ n ≤ k ∧ k < i) ∧ ∀ k', AW tt G ops s0 k' → n ≤ k' → k' < i → k ≤ k' := by
            intro d
            induction d with
            | zero => rintro n hn ⟨k, _, h1, h2⟩; omega
            | succ d ih =>
              intro n hn h
              by_cases hc : AW tt G ops s0 n
              · exact ⟨n, ⟨hc, by omega, by omega⟩, fun k' _ h _ => h⟩
              · obtain ⟨k, h1, h2, h3⟩ := h
                have hkn : k ≠ n := fun e => hc (e ▸ h1)
                obtain ⟨m, ⟨m1, m2, m3⟩, m4⟩ := ih (n + 1) (by omega) ⟨k, h1, by omega, h3⟩
                refine ⟨m, ⟨m1, by omega, m3⟩, fun k' h1 h2 h3 => ?_⟩
                have : k' ≠ n := fun e => hc (e ▸ h1)
                exact m4 k' h1 (by omega) h3
          exact hb (i - p) p (by omega) hex
        obtain ⟨k, ⟨k1, k2, k3⟩, k4⟩ := this
        have hgp := F.gap' hp (Nat.le_of_lt (ltk k k1)) (fun k' hk' => by
          constructor
          · intro h; omega
          · intro h
            rcases Nat.lt_or_ge k' p with h5 | h5
            · exact h5
            · have := k4 k' hk' h5 (by omega); omega)
        rw [hgp.1]
        obtain ⟨ok, h1, h2, h3⟩ := k1
        exact hX.early k i ok o k3 (by simpa using h1) (by simpa using ho) h2 h3 hwb hg (by simpa using un' k ⟨ok, h1, h2, h3⟩ (.inl ⟨k3, by omega⟩))
      · have hgp := F.gap' hp (Nat.le_of_lt hilt) (fun k' hk' => by
          constructor
          · intro h; omega
          · intro h
            rcases Nat.lt_or_ge k' p with h5 | h5
            · exact h5
            · exact absurd ⟨k', hk', h5, h⟩ hex)
        rw [hgp.1]; exact ⟨hpv, rfl⟩
  constructor
  · intro hiw
    cases hf : heapFree o.op with
    | true => rw [free hf] at hiw; cases hiw
    | false => exact key hf
  · intro hiw
    cases hf : heapFree o.op with
    | true => rw [aopR_free (hp' := (stAtS tt G ops s0 i).hp) hf]; exact pv_mono (P := P) hiw hpv (fun _ _ e => e)
    | false =>
      obtain ⟨k1, k2⟩ := key hf
      rw [← k2]
      exact pv_mono (P := P) hiw k1 (fun _ _ e => e)
end
theorem CW.drawX {P : Program} {tt : TTab} {G : FuncId → Con} (E : EnvV P tt G) {sz base : Nat} {s : SS} {Q : Exit → SS → Prop} (id : Nat) {ops : Array Oper} (keep : List Nat) (un : List (Nat × Nat)) (hdst : dstOk sz ops = true) (hdr : drawOkX G un ops.toList = true)
    (h : dopsX tt G ops.toList un 0 ops.toList [] [] (regQ keep Q) s) : CW P sz base (.region id ops true) s Q := by
  unfold drawOkX at hdr
  split at hdr
  · cases hdr
  · rename_i an han
    simp only [Bool.and_eq_true] at hdr
    obtain ⟨⟨⟨⟨hdis, hmo⟩, hsafe⟩, hww⟩, hrw⟩ := hdr
    obtain ⟨hQ, hX⟩ := dopsX_facts _ _ _ _ _ h
    have hfacts := hX.step
    have hmem : ∀ (k : Nat) (o : Oper) (d : Nat), ops[k]? = some o → o.dst = some d → (d, k) ∈ writers ops.toList 0 := by
      intro k o d ho hd
      have := writers_mem ops.toList 0 k d o (by simpa using ho) hd
      simpa using this
    intro φ0 φ own ds w0 a w hb hle S
    have FB : FactsB P tt G ops an s sz := by
      refine ⟨E, dstOk_spec hdst, ancs_ok han, hmem, ?_, ?_, fun k o ho => hfacts k o (by simpa using ho), fun j k oj ok hj hk h1 h2 h3 => (wwOk_spec hww j k oj ok (by simpa using hj) (by simpa using hk) h1 h2 h3).imp (fun h => h) (fun h => ⟨h.1, fun i oi hi => h.2 i oi (by simpa using hi)⟩), fun i o hi => S.hr.lt S.top hi⟩
      · intro d k k' h1 h2
        exact distinct_spec _ hdis d k k' h1 h2 fun p hp q hq hpq => writers_one ops.toList 0 p q hp hq hpq
      · intro k o ho
        have := safeOps_spec an _ _ _ 0 hsafe k o (by simpa using ho)
        rw [Nat.zero_add] at this
        exact ⟨this.1, fun j want p d hg hp hd => this.2 j want p d hg (by simpa using hp) hd⟩
    have F : FactsW P tt G ops an s sz := FB.rdUn un hrw hX
    have hn : ops.toList.length = ops.size := by simp
    rw [hn] at hQ
    have all : ∀ md, Ranked md ops → wpAny P md ops (fun x a' w' => x ≠ .outgrown ∧ ∃ φ' s', φ0.le φ' ∧ SRv φ' own sz ds w0 s' a' w' ∧ Q x s') ops.size (Array.replicate ops.size false) a { w with drawn := w.drawn + 1 } := by
      intro md hrk
      have hf : ∀ k, ¬ ((Array.replicate ops.size false).getD k false = true) := by
        intro k hk
        simp [Array.getD_eq_getD_getElem?, Array.getElem?_replicate] at hk
        split at hk <;> simp at hk
      refine F.main (φ0 := φ) (own := own) (ds := ds) (w0 := w0) hrk ?_ ops.size _ φ 0 a _ (by simp) (left_start _) (Ren.le_refl _) ?_ ?_
      · intro φ' a' w' hle' S'
        exact ⟨nofun, φ', ⟨keepF (stAtS tt G ops s ops.size).fr keep, (stAtS tt G ops s ops.size).hp, (stAtS tt G ops s ops.size).top⟩, Ren.le_trans hle hle', S'.sub (Sub.keep (stAtS tt G ops s ops.size) keep), hQ⟩
      · intro k o _ hk; exact absurd hk (hf k)
      · exact InvW.start hf S
    have anyR : Ranked .any ops := ⟨fun k => k, fun k o hk e he hb => by
      have h1 := F.anc.lt k o (by simpa using hk) e he hb
      have h2 : k < ops.size := by
        rcases Nat.lt_or_ge k ops.size with h | h
        · exact h
        · rw [Array.getElem?_eq_none h] at hk; cases hk
      exact ⟨by omega, h1⟩⟩
    refine CRun.region_draw (dstOk_noDef hdst) (fun ⟨_, _, h, _⟩ => h rfl) fun t => ?_
    unfold Region.schedule
    split
    · exact wpAny_sound ops.size t _ a _ (all .any anyR)
    · rename_i hnd
      have hd : Region.departs ops = true := by
        cases hdp : Region.departs ops with
        | true => rfl
        | false => rw [hdp] at hnd; simp at hnd
      obtain ⟨r1, r2⟩ := modesOk_spec hmo hd
      split
      · exact wpAny_sound ops.size _ _ a _ (all .text r1)
      · exact wpAny_sound ops.size _ _ a _ (all .gc r2)
section
variable {tt : TTab} {G : FuncId → Con} {all os : List Oper} {un : List (Nat × Nat)} {o : Oper} {i : Nat} {rs : List RdE} {vs : List (Nat × Hp)} {K : SS → Prop} {s : SS}
theorem dopsX_nil : dopsX tt G all un i [] rs vs K s = K s := rfl
theorem dopsX_cons : dopsX tt G all un i (o :: os) rs vs K s = ((sguard all s.fr o.guard).2 ∧ (match wrG G o.op with
    | true => (if (sguard all s.fr o.guard).1 = true then (swrG tt G s.fr s.hp s.top o.op).ob ∧ lateOk tt G un i (s.hp.sets (swrG tt G s.fr s.hp s.top o.op).us) rs ∧
          dopsX tt G all un (i + 1) os rs ((i, s.hp) :: vs) K ⟨sput s.fr o.dst (swrG tt G s.fr s.hp s.top o.op).v true, s.hp.sets (swrG tt G s.fr s.hp s.top o.op).us, (swrG tt G s.fr s.hp s.top o.op).top⟩
        else dopsX tt G all un (i + 1) os rs vs K ⟨sput s.fr o.dst undef false, s.hp, s.top⟩)
    | false => ((sguard all s.fr o.guard).1 = true → (pv tt G s.fr s.hp o.op).2 ∧ earlyOk tt G un i s.fr o.op (pv tt G s.fr s.hp o.op).1 vs) ∧
        dopsX tt G all un (i + 1) os (addRd un ⟨i, (sguard all s.fr o.guard).1, s.fr, o.op, (pv tt G s.fr s.hp o.op).1⟩ rs) vs K ⟨sput s.fr o.dst (pv tt G s.fr s.hp o.op).1 (sguard all s.fr o.guard).1, s.hp, s.top⟩)) := rfl
end
end Go.Dm
/- A function without arguments that the machine runs. -/
namespace Go.Dm
theorem HR.stay {φ : Ren} {own : Nat → Prop} {hp : Hp} {w w' : World} (H : HR φ own hp w) (hk : K (fun b => w.heap.size ≤ b) w w') : HR φ own hp w' := by
  have same : ∀ b, b < w.heap.size → w'.heap[b]? = w.heap[b]? := fun b hb => hk.same b hb (by omega)
  refine ⟨?_, H.sep, H.mine, fun i L e => Nat.lt_of_lt_of_le (H.val i L e) hk.size, fun b hb => H.fresh b (Nat.le_trans hk.size hb)⟩
  intro i o e
  obtain ⟨L, h1, h2⟩ := H.obj i o e
  exact ⟨L, h1, by rw [same _ (H.val i L h1)]; exact h2⟩
theorem K.ofFresh {own : Nat → Prop} {w w' : World} (hf : ∀ b, w.heap.size ≤ b → own b) (hk : K (fun b => w.heap.size ≤ b) w w') : K own w w' :=
  ⟨hk.size, fun b hb _ => hk.same b hb (by omega), hk.os, hk.tape, hk.output⟩
end Go.Dm
