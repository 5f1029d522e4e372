/- The abstract machine, a part of it: operations, regions, code and calls run over values with named blocks; each step is shown of the real run. -/
import Derived.Test.YthlhnangbinhoaaGreatDoorDmC
import Derived.Orders
import Derived.LoopN
import Derived.Scope
import Derived.Below
import Derived.RowKit3
import Derived.KernelRfl
import GoSem.Op.Equal
set_option linter.unusedSimpArgs false
set_option linter.unusedVariables false
namespace Go.Dm
structure St where
  fr:T Value
  hp:T A7
  top:Nat
structure FR (φ:Ren) (sz:Nat) (fr:T Value) (a:Act):Prop where
  val:∀t v,fr.get t=some v→V φ v (a.tmps.getD t undef)
  size:a.tmps.size=sz
theorem FR.ev {φ:Ren}{sz:Nat}{fr:T Value}{a:Act}(h:FR φ sz fr a):∀x v,sr fr x=some v→V φ v (a.eval x):=by
  intro x v hv
  cases x with
  |tmp t=>exact h.val t v hv
  |const u=>
    simp only [sr] at hv
    split at hv
    · rename_i hp;cases hv;exact DL _ _ hp
    · cases hv
  |global g=>cases hv
  |func f=>cases hv;exact .func _ _ _ _ _ .nil .nil
theorem FR.mono {φ ψ:Ren}{sz:Nat}{fr:T Value}{a:Act}(h:FR φ sz fr a)(hle:φ.le ψ):FR ψ sz fr a:=⟨fun t v e=>(h.val t v e).mono hle,h.size⟩
noncomputable def Qw {γ:Type}(sz:Nat)(fr:T Value)(dst:Option Nat)(v:Value)(K:T Value→Option γ):Option γ:=
  match dst with
  |none=>K fr
  |some d=>match Nat.ble (d+1) sz with
    |true=>T.MP (some v) 40 fr d K
    |false=>none
theorem K3 {γ:Type}{sz:Nat}{fr:T Value}{dst:Option Nat}{v:Value}{K:T Value→Option γ}{r:γ}(h:Qw sz fr dst v K=some r) :
    ∃fr',K fr' = some r∧(∀(φ:Ren) (a:Act) (v':Value),FR φ sz fr a→V φ v v'→FR φ sz fr' (a.put dst v'))∧
      (∀t u,fr'.get t=some u→(dst=some t∧u=v)∨(dst≠some t∧fr.get t=some u))∧(∀d,dst=some d→d < sz):=by
  unfold Qw at h
  split at h
  · exact ⟨fr,h,fun _ _ _ hf _=>hf,fun t u e=> .inr ⟨by simp,e⟩,fun d e=>by cases e⟩
  · rename_i d
    split at h
    · rename_i hd
      have hd':d < sz:=Nat.le_of_ble_eq_true hd
      rw [T.RO] at h
      refine ⟨_,h, ?_, ?_,fun d' e=>by cases e;exact hd'⟩
      · intro φ a v' hf hv
        refine ⟨?_,by simp [Act.put,hf.size]⟩
        intro t u e
        simp only [Act.put]
        rcases T.P0 e with ⟨rfl,h2⟩ | ⟨hne,h2⟩
        · cases h2
          simp [Array.getD_eq_getD_getElem?,hf.size,hd',hv]
        · have:=hf.val t u h2
          simpa [Array.getD_eq_getD_getElem?,Array.getElem?_setIfInBounds,Ne.symm hne] using this
      · intro t u e
        rcases T.P0 e with ⟨rfl,h2⟩ | ⟨hne,h2⟩
        · cases h2;exact .inl ⟨rfl,rfl⟩
        · exact .inr ⟨by simpa using Ne.symm hne,h2⟩
    · cases h
def EE (ev:Operand→Option Value)(all:List Oper)(g:Option (Nat×Bool)):Option Bool:=
  match g with
  |none=>some true
  |some (j,want)=>match all[j]? with
    |none=>some false
    |some o=>match o.dst with
      |none=>some false
      |some d=>match ev (.tmp d) with
        |some (.bool b)=>some (b == want)
        |some (.tuple _)=>some false
        |_=>none
theorem DP {φ:Ren}{ev:Operand→Option Value}{all:Array Oper}{o:Oper}{a:Act}{b:Bool}{sz:Nat}(hsz:a.tmps.size=sz)(hd:∀(j:Nat) (p:Oper) d,all[j]? = some p→p.dst=some d→d < sz)
    (hev:∀x v,ev x=some v→V φ v (a.eval x)) (h:EE ev all.toList o.guard=some b):Region.wanted o (yielded all a.tmps)=b:=by
  unfold EE at h
  unfold Region.wanted
  split at h
  · rename_i hg;cases h;rw [hg]
  · rename_i j want hg
    rw [hg]
    dsimp only
    unfold yielded
    split at h
    · rename_i hj
      cases h
      have:all[j]? = none:=by simpa using hj
      rw [this];rfl
    · rename_i p hj
      have hj':all[j]? = some p:=by simpa using hj
      rw [hj']
      split at h
      · rename_i hd0;cases h;simp [hd0]
      · rename_i d hd0
        have hlt:=hd j p d hj' hd0
        have hget:a.tmps[d]? = some (a.tmps.getD d undef):=by
          simp [Array.getD_eq_getD_getElem?,hsz,hlt]
        simp only [Option.bind_some,hd0,hget]
        split at h
        · rename_i b' hb
          cases h
          have hv:=hev _ _ hb
          have e:a.eval (.tmp d)=a.tmps.getD d undef:=rfl
          rw [e] at hv
          rw [hv.GM]
          cases b' <;> cases want <;> rfl
        · rename_i l hb
          cases h
          have hv:=hev _ _ hb
          have e:a.eval (.tmp d)=a.tmps.getD d undef:=rfl
          rw [e] at hv
          generalize a.tmps.getD d undef=rv at hv ⊢
          cases hv with
          |tuple _ l' _=>rfl
        · cases h
noncomputable def iu {γ:Type}(tt:AO)(cl:Callee)(sz:Nat)(all:List Oper)(o:Oper)(st:St)(K:St→Option γ):Option γ:=
  match EE (sr st.fr) all o.guard with
  |none=>none
  |some false=>Qw sz st.fr o.dst undef fun fr=>K ⟨fr,st.hp,st.top⟩
  |some true=>match HB o.op with
    |true=>Wf tt cl (sr st.fr) st.hp st.top o.op fun v hp top=>Qw sz st.fr o.dst v fun fr=>K ⟨fr,hp,top⟩
    |false=>match DA tt (sr st.fr) st.hp.get o.op with
      |some v=>MQ v fun v=>Qw sz st.fr o.dst v fun fr=>K ⟨fr,st.hp,st.top⟩
      |none=>none
structure SR (φ:Ren) (own:Nat→Prop) (sz:Nat) (ds:List Deferred) (w0:World) (st:St) (a:Act) (w:World):Prop where
  fr:FR φ sz st.fr a
  hr:HR φ own st.hp.get w
  top:∀j,st.top≤j→φ j=none
  k:K own w0 w
  ds:a.defers=ds
structure Env (P:Program) (tt:AO) (cl:Callee):Prop where
  types:Ck P tt
  calls:iH P cl
  ABO:∀f args hp top r,cl f args hp top=some r→∃fn,FTOk P f fn
theorem Act.BS (a:Act)(d:Option Tmp)(v:Value):(a.put d v).defers=a.defers:=by cases d <;> rfl
theorem jv {P:Program}{tt:AO}(htt:Ck P tt){φ:Ren}{own:Nat→Prop}{hp:Hp}{w:World}(H:HR φ own hp w){ev:Operand→Option Value}{a:Act}
    (hev:∀x v,ev x=some v→V φ v (a.eval x)) {o:Oper} {v:Value} (h:DA tt ev hp o.op=some v) {K:Act→World→Prop} {Q:Exit→Act→World→Prop}
    (hK:∀v',V φ v v'→K (a.put o.dst v') w):o.wp P a w K Q:=by
  obtain ⟨v',h1,h2⟩:=nw htt H hev h
  unfold Oper.wp
  rw [h1]
  exact hK v' h2
theorem lj {P:Program}{tt:AO}{cl:Callee}(E:Env P tt cl){γ:Type}{sz:Nat}{all:Array Oper}{i:Nat}{o:Oper}{st:St}{KK:St→Option γ}{r:γ}
    (ho:all[i]? = some o) (hd:∀(j:Nat) (p:Oper) d,all[j]? = some p→p.dst=some d→d < sz) (h:iu tt cl sz all.toList o st KK=some r) :
    ∃st',KK st' = some r∧∀(φ:Ren) (own:Nat→Prop) ds w0 a w (K:Act→World→Prop) (Q:Exit→Act→World→Prop),SR φ own sz ds w0 st a w→
      (∀φ' a' w',φ.le φ'→SR φ' own sz ds w0 st' a' w'→K a' w')→wpOp P all Q i K a w:=by
  unfold iu at h
  split at h
  · cases h
  · rename_i hw
    obtain ⟨fr',h1,h2,_⟩:=K3 h
    refine ⟨_,h1, ?_⟩
    intro φ own ds w0 a w K Q S hK
    unfold wpOp
    rw [ho]
    dsimp only
    rw [DP S.fr.size hd S.fr.ev hw]
    simp only [Bool.false_eq_true,if_false]
    exact hK φ _ w (Ren.le_refl _) ⟨h2 φ a undef S.fr (.tuple _ _ .nil),S.hr,S.top,S.k,by rw [Act.BS];exact S.ds⟩
  · rename_i hw
    split at h
    · obtain ⟨v,hp',top',h3,h4⟩:=Wp E.types E.calls E.ABO h
      obtain ⟨fr',h1,h2,_⟩:=K3 h4
      refine ⟨_,h1, ?_⟩
      intro φ own ds w0 a w K Q S hK
      unfold wpOp
      rw [ho]
      dsimp only
      rw [DP S.fr.size hd S.fr.ev hw]
      simp only [if_true]
      left
      refine h3 φ own a w K Q S.fr.ev S.hr S.top ?_
      intro v' w' φ' W
      exact hK φ' _ w' W.le ⟨h2 φ' a v' (S.fr.mono W.le) W.v,W.hr,W.top,S.k.trans W.k,by rw [Act.BS];exact S.ds⟩
    · split at h
      · rename_i v hv
        rw [Kz] at h
        obtain ⟨fr',h1,h2,_⟩:=K3 h
        refine ⟨_,h1, ?_⟩
        intro φ own ds w0 a w K Q S hK
        unfold wpOp
        rw [ho]
        dsimp only
        rw [DP S.fr.size hd S.fr.ev hw]
        simp only [if_true]
        left
        refine jv E.types S.hr S.fr.ev hv ?_
        intro v' hvv
        exact hK φ _ w (Ren.le_refl _) ⟨h2 φ a v' S.fr hvv,S.hr,S.top,S.k,by rw [Act.BS];exact S.ds⟩
      · cases h
noncomputable def Vu (tt:AO)(cl:Callee)(sz:Nat)(all:List Oper)(ops:List Oper):St→Option St:=
  List.rec (fun st=>some st) (fun o _ ih st=>iu tt cl sz all o st ih) ops
theorem dw {P:Program}{tt:AO}{cl:Callee}(E:Env P tt cl){sz:Nat}{all:Array Oper}(hd:∀(j:Nat) (p:Oper) d,all[j]? = some p→p.dst=some d→d < sz) :
    ∀(n:Nat) (i:Nat) (st st':St),i+n=all.size→Vu tt cl sz all.toList (all.toList.drop i) st=some st'→
      ∀(φ:Ren) (own:Nat→Prop) ds w0 a w (Q:Exit→Act→World→Prop),SR φ own sz ds w0 st a w→
      (∀φ' a' w',φ.le φ'→SR φ' own sz ds w0 st' a' w'→Q .normal a' w')→wpOps P all Q (List.range' i n) a w:=by
  intro n
  induction n with
  |zero=>
    intro i st st' hi h φ own ds w0 a w Q S hQ
    have:all.toList.drop i= []:=List.drop_eq_nil_of_le (by simp;omega)
    rw [this] at h
    cases h
    simp only [List.range'_zero,wpOps]
    exact hQ φ a w (Ren.le_refl _) S
  |succ n ih=>
    intro i st st' hi h φ own ds w0 a w Q S hQ
    have hlt:i < all.toList.length:=by simp;omega
    rw [List.drop_eq_getElem_cons hlt] at h
    have ho:all[i]? = some all.toList[i]:=by simp
    obtain ⟨st1,h1,h2⟩:=lj E ho hd (KK:=Vu tt cl sz all.toList (all.toList.drop (i+1))) h
    rw [List.range'_succ,wpOps_cons]
    refine h2 φ own ds w0 a w _ Q S ?_
    intro φ' a' w' hle S'
    exact ih (i+1) st1 st' (by omega) h1 φ' own ds w0 a' w' Q S' fun φ2 a2 w2 hle2 S2=>hQ φ2 a2 w2 (Ren.le_trans hle hle2) S2
end Go.Dm
namespace Go.Dm
inductive XR where
  |norm
  |exit (id:Nat)
  |ret
def XR.to:XR→Exit
  | .norm=> .normal
  | .exit id=> .exit id
  | .ret=> .ret
abbrev Nw:=Nat→Array Oper→St→Option St
noncomputable def exec (tt:AO)(cl:Callee)(dr:Nw)(sz lf:Nat)(c:Code):St→Option (XR×St):=
  Code.rec (motive:=fun _=>St→Option (XR×St))
    (fun st=>some (.norm,st))
    (fun _ ops draw st=>Bool.rec
      (match Vu tt cl sz ops.toList ops.toList st with
        |some st'=>some (.norm,st')
        |none=>none)
      (match dr sz ops st with
        |some st'=>some (.norm,st')
        |none=>none) draw)
    (fun _ _ ia ib st=>match ia st with
      |some (.norm,st')=>ib st'
      |r=>r)
    (fun x _ _ ia ib st=>match sr st.fr x with
      |some (.bool true)=>ia st
      |some (.bool false)=>ib st
      |_=>none)
    (fun id _ ib st=>match ib st with
      |some (.exit j,st')=>match Nat.beq j id with
        |true=>some (.norm,st')
        |false=>some (.exit j,st')
      |r=>r)
    (fun _ ib st=>Nat.rec (fun _=>none) (fun _ ih st=>match ib st with
      |some (.norm,st')=>ih st'
      |r=>r) lf st)
    (fun _ _ _ _ _ _ _=>none)
    (fun id st=>some (.exit id,st))
    (fun _ ib st=>ib st)
    (fun _ st=>some (.norm,st))
    (fun _ _=>none)
    (fun st=>some (.ret,st))
    (fun _ _=>none)
    c
noncomputable def RW (ib:St→Option (XR×St))(lf:Nat):St→Option (XR×St):=
  Nat.rec (fun _=>none) (fun _ ih st=>match ib st with
      |some (.norm,st')=>ih st'
      |r=>r) lf
def P8 (ops:Array Oper):Bool:=ops.toList.all fun o=>match o.op with
  | .defer _=>false
  |_=>true
def KA (sz:Nat)(ops:Array Oper):Bool:=P8 ops && ops.toList.all fun o=>match o.dst with
  |none=>true
  |some d=>Nat.ble (d+1) sz
theorem Ke {sz:Nat}{ops:Array Oper}(h:KA sz ops=true):P8 ops=true:=by
  unfold KA at h
  rw [Bool.and_eq_true] at h
  exact h.1
theorem HG {sz:Nat}{ops:Array Oper}(h:KA sz ops=true)(j:Nat)(p:Oper)(d:Nat)(hp:ops[j]? = some p)(hd:p.dst=some d):d < sz:=by
  unfold KA at h
  rw [Bool.and_eq_true] at h
  have h:=h.2
  rw [List.all_eq_true] at h
  have:=h p (Array.mem_toList_iff.2 (Array.mem_of_getElem? hp))
  rw [hd] at this
  exact Nat.le_of_ble_eq_true this
def codeOk (sz:Nat):Code→Bool
  | .region _ ops _=>KA sz ops
  | .seq a b=>codeOk sz a && codeOk sz b
  | .cond _ a b=>codeOk sz a && codeOk sz b
  | .block _ b=>codeOk sz b
  | .loop b=>codeOk sz b
  | .rangeFunc _ _ a b=>codeOk sz a && codeOk sz b
  | .scope b=>codeOk sz b
  |_=>true
def Zd (P:Program)(dr:Nw):Prop:= ∀sz (ops:Array Oper) st st',dr sz ops st=some st'→KA sz ops=true→
  ∀(id:Nat) (φ:Ren) (own:Nat→Prop) ds w0 a w (Q:Exit→Act→World→Prop),SR φ own sz ds w0 st a w→
    (∀φ' a' w',φ.le φ'→SR φ' own sz ds w0 st' a' w'→Q .normal a' w')→(Code.region id ops true).wp P Q a w
theorem qY {P:Program}{tt:AO}{cl:Callee}(E:Env P tt cl){dr:Nw}(D:Zd P dr){sz lf:Nat}:∀(c:Code) (st st':St) (x:XR),codeOk sz c=true→exec tt cl dr sz lf c st=some (x,st')→
    ∀(φ:Ren) (own:Nat→Prop) ds w0 a w (Q:Exit→Act→World→Prop),SR φ own sz ds w0 st a w→
      (∀φ' a' w',φ.le φ'→SR φ' own sz ds w0 st' a' w'→Q x.to a' w')→c.wp P Q a w:=by
  intro c
  induction c with
  |skip=>
    intro st st' x _ h φ own ds w0 a w Q S hQ
    cases h
    exact wp_skip (hQ φ a w (Ren.le_refl _) S)
  |region id ops draw=>
    intro st st' x hk h φ own ds w0 a w Q S hQ
    cases draw with
    |false=>
      change (match Vu tt cl sz ops.toList ops.toList st with
        |some st'=>some (XR.norm,st')
        |none=>none)=some (x,st') at h
      split at h
      · rename_i st1 hr
        cases h
        refine wp_region ?_
        have:=dw E (HG hk) ops.size 0 st st' (by simp) (by simpa using hr) φ own ds w0 a w Q S hQ
        rwa [←List.range_eq_range'] at this
      · cases h
    |true=>
      change (match dr sz ops st with
        |some st'=>some (XR.norm,st')
        |none=>none)=some (x,st') at h
      split at h
      · rename_i st1 hr
        cases h
        exact D sz ops st st' hr hk id φ own ds w0 a w Q S hQ
      · cases h
  |seq c1 c2 ih1 ih2=>
    intro st st' x hk h φ own ds w0 a w Q S hQ
    simp only [codeOk,Bool.and_eq_true] at hk
    change (match exec tt cl dr sz lf c1 st with
      |some (.norm,st')=>exec tt cl dr sz lf c2 st'
      |r=>r)=some (x,st') at h
    refine wp_seq ?_
    split at h
    · rename_i st1 h1
      refine ih1 st st1 .norm hk.1 h1 φ own ds w0 a w _ S ?_
      intro φ' a' w' hle S'
      exact ih2 st1 st' x hk.2 h φ' own ds w0 a' w' Q S' fun φ2 a2 w2 hle2 S2=>hQ φ2 a2 w2 (Ren.le_trans hle hle2) S2
    · rename_i hn
      refine ih1 st st' x hk.1 h φ own ds w0 a w _ S ?_
      intro φ' a' w' hle S'
      have:=hQ φ' a' w' hle S'
      cases x with
      |norm=>exact absurd h (hn _)
      |exit id=>exact this
      |ret=>exact this
  |cond x0 c1 c2 ih1 ih2=>
    intro st st' x hk h φ own ds w0 a w Q S hQ
    simp only [codeOk,Bool.and_eq_true] at hk
    change (match sr st.fr x0 with
      |some (.bool true)=>exec tt cl dr sz lf c1 st
      |some (.bool false)=>exec tt cl dr sz lf c2 st
      |_=>none)=some (x,st') at h
    split at h
    · rename_i hb
      exact wp_cond_true (S.fr.ev _ _ hb).GM (ih1 st st' x hk.1 h φ own ds w0 a w Q S hQ)
    · rename_i hb
      exact wp_cond_false (S.fr.ev _ _ hb).GM (ih2 st st' x hk.2 h φ own ds w0 a w Q S hQ)
    · cases h
  |block id b ih=>
    intro st st' x hk h φ own ds w0 a w Q S hQ
    change (match exec tt cl dr sz lf b st with
      |some (.exit j,st')=>match Nat.beq j id with
        |true=>some (.norm,st')
        |false=>some (.exit j,st')
      |r=>r)=some (x,st') at h
    refine wp_block ?_
    split at h
    · rename_i j st1 h1
      refine ih st st1 (.exit j) hk h1 φ own ds w0 a w _ S ?_
      intro φ' a' w' hle S'
      simp only [XR.to,Exit.inBlock]
      split at h
      · rename_i hj
        have:j=id:=Nat.eq_of_beq_eq_true hj
        subst this
        cases h
        rw [if_pos rfl];exact hQ φ' a' w' hle S'
      · rename_i hj
        have:j≠id:=fun e=>by subst e;simp at hj
        cases h
        rw [if_neg this];exact hQ φ' a' w' hle S'
    · rename_i hn
      refine ih st st' x hk h φ own ds w0 a w _ S ?_
      intro φ' a' w' hle S'
      have:=hQ φ' a' w' hle S'
      cases x with
      |norm=>exact this
      |exit j=>exact absurd h (hn _ _)
      |ret=>exact this
  |loop b ih=>
    intro st st' x hk h φ own ds w0 a w Q S hQ
    change RW (exec tt cl dr sz lf b) lf st=some (x,st') at h
    have key:∀(n:Nat) (st:St) (φ:Ren) a w,RW (exec tt cl dr sz lf b) n st=some (x,st')→SR φ own sz ds w0 st a w→
        (∀φ' a' w',φ.le φ'→SR φ' own sz ds w0 st' a' w'→Q x.to a' w')→Code.rounds P b Q n a w:=by
      intro n
      induction n with
      |zero=>intro st φ a w h;cases h
      |succ n ihn=>
        intro st φ a w h S hQ
        change (match exec tt cl dr sz lf b st with
          |some (.norm,st')=>RW (exec tt cl dr sz lf b) n st'
          |r=>r)=some (x,st') at h
        rw [rounds_succ]
        split at h
        · rename_i st1 h1
          refine ih st st1 .norm hk h1 φ own ds w0 a w _ S ?_
          intro φ' a' w' hle S'
          exact ihn st1 φ' a' w' h S' fun φ2 a2 w2 hle2 S2=>hQ φ2 a2 w2 (Ren.le_trans hle hle2) S2
        · rename_i hn
          refine ih st st' x hk h φ own ds w0 a w _ S ?_
          intro φ' a' w' hle S'
          have:=hQ φ' a' w' hle S'
          cases x with
          |norm=>exact absurd h (hn _)
          |exit id=>exact this
          |ret=>exact this
    exact wp_loop_rounds lf (key lf st φ a w h S hQ)
  |rangeFunc f ps as b ih1 ih2=>intro st st' x _ h;cases h
  |exit id=>
    intro st st' x _ h φ own ds w0 a w Q S hQ
    cases h
    exact wp_exit (hQ φ a w (Ren.le_refl _) S)
  |scope b ih=>
    intro st st' x hk h φ own ds w0 a w Q S hQ
    change exec tt cl dr sz lf b st=some (x,st') at h
    refine wp_scope_straight ?_
    refine ih st st' x hk h φ own ds w0 a w _ S ?_
    intro φ' a' w' hle S'
    have:=hQ φ' a' w' hle S'
    cases x <;> exact this
  |label l=>
    intro st st' x _ h φ own ds w0 a w Q S hQ
    cases h
    exact wp_label (hQ φ a w (Ren.le_refl _) S)
  |goto l=>intro st st' x _ h;cases h
  |ret=>
    intro st st' x _ h φ own ds w0 a w Q S hQ
    cases h
    exact wp_ret (hQ φ a w (Ren.le_refl _) S)
  |refuse why=>intro st st' x _ h;cases h
noncomputable def sk (tt:AO)(fr:T Value)(hp:Hp)(r:ResultVar):Option Value:=
  match r with
  | .tmp t=>fr.get t
  | .cell a t=>match fr.get a,tt t with
    |some (.pointer (some ⟨b,o,none⟩)),some i=>Nn i hp b o
    |_,_=>none
noncomputable def UH (tt:AO)(fr:T Value)(hp:Hp):List ResultVar→Option (List Value)
  | []=>some []
  |r :: l=>match sk tt fr hp r with
    |none=>none
    |some v=>match UH tt fr hp l with
      |none=>none
      |some vs=>some (v :: vs)
def Gh:List Value→Value
  | [v]=>v
  |vs=> .tuple ⟨vs⟩
noncomputable def WL (l:List Value):Nat→T Value→T Value:=
  List.rec (fun _ t=>t) (fun v _ ih i t=>ih (i+1) (t.set i (some v))) l
noncomputable def Vq {β:Type}(l:List Value):Nat→T Value→(T Value→β)→β:=
  List.rec (fun _ t K=>K t) (fun v _ ih i t K=>T.MP (some v) 40 t i fun t=>ih (i+1) t K) l
theorem cv {β:Type}(l:List Value):∀(i:Nat) (t:T Value) (K:T Value→β),Vq l i t K=K (WL l i t):=by
  induction l with
  |nil=>intro i t K;rfl
  |cons v l ih=>
    intro i t K
    show (T.MP (some v) 40 t i fun t=>Vq l (i+1) t K)=_
    rw [T.RO,ih];rfl
theorem dp (l:List Value):∀(i:Nat) (t:T Value) (j:Nat) (v:Value),(WL l i t).get j=some v→(i≤j∧l[j - i]? = some v)∨((j < i∨i+l.length≤j)∧t.get j=some v):=by
  induction l with
  |nil=>intro i t j v h;right;exact ⟨by simp;omega,h⟩
  |cons x l ih=>
    intro i t j v h
    change (WL l (i+1) (t.set i (some x))).get j=some v at h
    rcases ih _ _ _ _ h with ⟨h1,h2⟩ | ⟨h1,h2⟩
    · left
      refine ⟨by omega, ?_⟩
      rw [show j - i=(j - (i+1))+1 from by omega,List.getElem?_cons_succ];exact h2
    · rcases T.P0 h2 with ⟨rfl,h3⟩ | ⟨h3,h4⟩
      · left;exact ⟨Nat.le_refl _,by simpa using h3⟩
      · right
        refine ⟨?_,h4⟩
        simp only [List.length_cons];omega
abbrev ACN:=Nat→Option Func
noncomputable def Rp (tt:AO)(ft:ACN)(dr:Callee→Nw)(lf:Nat)(d:Nat):Callee:=
  Nat.rec (fun _ _ _ _=>none) (fun _ ih f args hp top=>
    match ft f with
    |none=>none
    |some fn=>match fn.body with
      |none=>none
      |some c=>match Nat.ble args.length fn.ntmps with
        |false=>none
        |true=>Vq args 0 .nil fun fr=>match exec tt ih (dr ih) fn.ntmps lf c ⟨fr,hp,top⟩ with
          |some (.norm,st)=>match UH tt st.fr st.hp.get fn.results.toList with
            |some vs=>some (Gh vs,st.hp,st.top)
            |none=>none
          |some (.ret,st)=>match UH tt st.fr st.hp.get fn.results.toList with
            |some vs=>some (Gh vs,st.hp,st.top)
            |none=>none
          |_=>none) d
structure Aq (P:Program) (f:FuncId) (fn:Func):Prop extends FTOk P f fn where
  code:∀c,fn.body=some c→codeOk fn.ntmps c=true
def Je (tmps:Array Value):ResultVar→Sem Value
  | .tmp t=>pure (tmps.getD t undef)
  | .cell p t=>do loadVar t (←asAddr (tmps.getD p undef))
theorem Qx (fn:Func)(tmps:Array Value):results fn tmps=(do
    let vs ←fn.results.mapM (Je tmps)
    pure (if h:vs.size=1 then vs[0] else .tuple vs)):=rfl
theorem sP {P:Program}{tt:AO}(htt:Ck P tt){φ:Ren}{own:Nat→Prop}{sz:Nat}{ds:List Deferred}{w0:World}{st:St}{a:Act}{w:World}(S:SR φ own sz ds w0 st a w) :
    ∀ {l:List ResultVar} {vs:List Value},UH tt st.fr st.hp.get l=some vs→
      ∃vs',(l.mapM (Je a.tmps)).run P w= .ok vs' w∧Vs φ vs vs':=by
  intro l
  induction l with
  |nil=>intro vs h;cases h;exact ⟨[],rfl, .nil⟩
  |cons r l ih=>
    intro vs h
    simp only [UH] at h
    split at h
    · cases h
    · rename_i v hv
      split at h
      · cases h
      · rename_i us hus
        cases h
        obtain ⟨us',h1,h2⟩:=ih hus
        have one:∃v',((Je a.tmps) r).run P w= .ok v' w∧V φ v v':=by
          unfold sk at hv
          split at hv
          · rename_i t;exact ⟨_,rfl,S.fr.val _ _ hv⟩
          · rename_i p t
            split at hv
            · rename_i b o i hp hi
              have hva:=S.fr.val _ _ hp
              generalize hr:a.tmps.getD p undef=rp at hva
              cases hva with
              |ptr _ _ L hL=>
              obtain ⟨v',e1,e2⟩:=Tn S.hr (htt _ _ hi) hv hL
              exact ⟨v',by simp only [Je,hr,asAddr,Sem.run_bind,Sem.run_pure,Result.andThen_ok];exact e1,e2⟩
            · cases hv
        obtain ⟨v',e1,e2⟩:=one
        refine ⟨v' :: us', ?_, .cons _ _ _ _ e2 h2⟩
        rw [List.mapM_cons]
        simp only [Sem.run_bind,e1,h1,Result.andThen_ok,Sem.run_pure]
theorem Yh {P:Program}{tt:AO}(htt:Ck P tt){φ:Ren}{own:Nat→Prop}{sz:Nat}{ds:List Deferred}{w0:World}{st:St}{a:Act}{w:World}(S:SR φ own sz ds w0 st a w)
    {fn:Func} {vs:List Value} (h:UH tt st.fr st.hp.get fn.results.toList=some vs):∃v',(results fn a.tmps).run P w= .ok v' w∧V φ (Gh vs) v':=by
  obtain ⟨vs',h1,h2⟩:=sP htt S h
  have hm:(fn.results.mapM (Je a.tmps)).run P w= .ok vs'.toArray w:=by
    rw [Array.mapM_eq_mapM_toList]
    simp only [Sem.run_map,h1,Result.andThen_ok]
  refine ⟨if h:vs'.toArray.size=1 then vs'.toArray[0] else .tuple vs'.toArray, ?_, ?_⟩
  · rw [Qx]
    simp only [Sem.run_bind]
    rw [hm];rfl
  · cases h2 with
    |nil=>exact .tuple _ _ .nil
    |cons x x' l l' hx hl=>
      cases hl with
      |nil=>exact hx
      |cons y y' m m' hy hmm=>exact .tuple _ _ (.cons _ _ _ _ hx (.cons _ _ _ _ hy hmm))
theorem nH {P:Program}{tt:AO}(htt:Ck P tt){ft:ACN}(hft:∀f fn,ft f=some fn→Aq P f fn){dr:Callee→Nw}
    (hdr:∀cl,Env P tt cl→Zd P (dr cl)) (lf:Nat):∀d,Env P tt (Rp tt ft dr lf d):=by
  intro d
  induction d with
  |zero=>exact ⟨htt,(fun f args hp top v hp' top' h=>by cases h),(fun f args hp top r h=>by cases h)⟩
  |succ d ih=>
    have one:∀f args hp top r,Rp tt ft dr lf (d+1) f args hp top=some r→∃fn c st x vs,ft f=some fn∧fn.body=some c∧args.length≤fn.ntmps∧
        exec tt (Rp tt ft dr lf d) (dr (Rp tt ft dr lf d)) fn.ntmps lf c ⟨WL args 0 .nil,hp,top⟩=some (x,st)∧(x= .norm∨x= .ret)∧UH tt st.fr st.hp.get fn.results.toList=some vs∧r=(Gh vs,st.hp,st.top):=by
      intro f args hp top r h
      change (match ft f with
        |none=>none
        |some fn=>match fn.body with
          |none=>none
          |some c=>match Nat.ble args.length fn.ntmps with
            |false=>none
            |true=>Vq args 0 .nil fun fr=>match exec tt (Rp tt ft dr lf d) (dr (Rp tt ft dr lf d)) fn.ntmps lf c ⟨fr,hp,top⟩ with
              |some (.norm,st)=>match UH tt st.fr st.hp.get fn.results.toList with
                |some vs=>some (Gh vs,st.hp,st.top)
                |none=>none
              |some (.ret,st)=>match UH tt st.fr st.hp.get fn.results.toList with
                |some vs=>some (Gh vs,st.hp,st.top)
                |none=>none
              |_=>none)=some r at h
      split at h
      · cases h
      · rename_i fn hf
        split at h
        · cases h
        · rename_i c hc
          split at h
          · cases h
          · rename_i hle
            rw [cv] at h
            split at h
            · rename_i st hx
              split at h
              · rename_i vs hvs;cases h;exact ⟨fn,c,st,_,vs,hf,hc,Nat.le_of_ble_eq_true hle,hx, .inl rfl,hvs,rfl⟩
              · cases h
            · rename_i st hx
              split at h
              · rename_i vs hvs;cases h;exact ⟨fn,c,st,_,vs,hf,hc,Nat.le_of_ble_eq_true hle,hx, .inr rfl,hvs,rfl⟩
              · cases h
            · cases h
    refine ⟨htt, ?_,fun f args hp top r h=>by obtain ⟨fn,_,_,_,_,hf,_⟩:=one f args hp top r h;exact ⟨fn,(hft f fn hf).toFTOk⟩⟩
    intro f args hp top v hp' top' h φ own w args' hargs H htop
    obtain ⟨fn,c,st,x,vs,hf,hc,hle,hx,hxr,hvs,hr⟩:=one f args hp top _ h
    cases hr
    have F:=hft f fn hf
    refine calls_of_wp F.at_ hc ?_
    have hsz:((⟨args'⟩:Array Value) ++ Array.replicate (fn.ntmps - (⟨args'⟩:Array Value).size) undef).size=fn.ntmps:=by
      have:=hargs.length
      simp;omega
    have S:SR φ own fn.ntmps [] w ⟨WL args 0 .nil,hp,top⟩ {tmps:=(⟨args'⟩:Array Value) ++ Array.replicate (fn.ntmps - (⟨args'⟩:Array Value).size) undef,defers:= []} w:=by
      refine ⟨⟨?_,hsz⟩,H,htop,K.refl _ _,rfl⟩
      intro t u hu
      rcases dp args 0 .nil t u hu with ⟨_,h2⟩ | ⟨_,h2⟩
      · obtain ⟨u',h3,h4⟩:=hargs.get (by simpa using h2)
        have hlt:t < args'.length:=by
          rcases Nat.lt_or_ge t args'.length with h | h
          · exact h
          · rw [List.getElem?_eq_none h] at h3;cases h3
        have:((⟨args'⟩:Array Value) ++ Array.replicate (fn.ntmps - (⟨args'⟩:Array Value).size) undef).getD t undef=u':=by
          rw [Array.getD_eq_getD_getElem?,Array.getElem?_append_left (by simpa using hlt)]
          simp [h3]
        rw [this];exact h4
      · cases h2
    refine qY ih (hdr _ ih) c _ st x (F.code c hc) hx φ own [] w _ w _ S ?_
    intro φ' a' w' hle' S'
    obtain ⟨v',e1,e2⟩:=Yh htt S' hvs
    have fin:a'.defers= []∧∃v,(results fn a'.tmps).run P w' = .ok v w'∧∃v' φ'',Ending.returned v= .returned v'∧E9 φ own w (Gh vs) st.hp.get st.top v' w' φ'':=
      ⟨S'.ds,v',e1,v',φ',rfl,⟨hle',e2,S'.hr,S'.k,S'.top⟩⟩
    rcases hxr with rfl | rfl
    · exact fin
    · exact fin
end Go.Dm
namespace Go.Dm
def bit (m n:Nat):Bool:=Nat.beq (Nat.land 1 (Nat.shiftRight m n)) 1
theorem Vg (m n:Nat):bit m n=m.testBit n:=by
  unfold bit Nat.testBit
  have h:Nat.land 1 (Nat.shiftRight m n)=1 &&& (m >>> n):=rfl
  rw [h,Nat.one_and_eq_mod_two]
  have:=Nat.mod_two_eq_zero_or_one (m >>> n)
  rcases this with h | h <;> rw [h] <;> rfl
def Vl (f:Value→Value→Bool):List Value→List Value→Bool
  | [], []=>true
  |x :: l,y :: m=>f x y && Vl f l m
  |_,_=>false
def tY:Nat→Value→Value→Bool
  |0,_,_=>false
  |n+1,a,b=>
    match a,b with
    | .bool a, .bool b=>a == b
    | .int k x, .int k' y=>Nat.beq (eX k) (eX k') && eY x y
    | .string ⟨⟨x⟩⟩, .string ⟨⟨y⟩⟩=>Xl x y
    | .pointer none, .pointer none=>true
    | .pointer (some ⟨b,o,none⟩), .pointer (some ⟨b',o',none⟩)=>Nat.beq b b' && Nat.beq o o'
    | .slice none n c, .slice none n' c'=>Nat.beq n n' && Nat.beq c c'
    | .slice (some ⟨b,o,none⟩) n c, .slice (some ⟨b',o',none⟩) n' c'=>Nat.beq b b' && Nat.beq o o' && Nat.beq n n' && Nat.beq c c'
    | .map none, .map none=>true
    | .map (some a), .map (some b)=>Nat.beq a b
    | .nilFunc, .nilFunc=>true
    | .nilIface, .nilIface=>true
    | .iface t v, .iface t' v'=>Nat.beq t t' && tY n v v'
    | .agg ⟨x⟩, .agg ⟨y⟩=>Vl (tY n) x y
    | .tuple ⟨x⟩, .tuple ⟨y⟩=>Vl (tY n) x y
    | .func (.func f) ⟨a⟩ ⟨b⟩, .func (.func g) ⟨a'⟩ ⟨b'⟩=>Nat.beq f g && Vl (tY n) a a' && Vl (tY n) b b'
    |_,_=>false
theorem Py {f:Value→Value→Bool}(hf:∀a b,f a b=true→a=b):∀l m,Vl f l m=true→l=m:=by
  intro l
  induction l with
  |nil=>intro m h;cases m <;> simp [Vl] at h ⊢
  |cons x l ihl=>
    intro m h
    cases m with
    |nil=>simp [Vl] at h
    |cons y m=>
      simp only [Vl,Bool.and_eq_true] at h
      rw [hf _ _ h.1,ihl _ h.2]
theorem uJ:∀n a b,tY n a b=true→a=b:=by
  intro n
  induction n with
  |zero=>intro a b h;cases h
  |succ n ih=>
    intro a b h
    unfold tY at h
    split at h
    · simpa using h
    · simp only [Bool.and_eq_true] at h
      have e1:=Z6 h.1;have e2:=h.2;rw [VE] at e2
      subst e1;simp at e2;subst e2;rfl
    · rw [OW] at h;simp at h;subst h;rfl
    · rfl
    · simp only [Bool.and_eq_true,Nat.beq_eq] at h;rw [h.1,h.2]
    · simp only [Bool.and_eq_true,Nat.beq_eq] at h;rw [h.1,h.2]
    · simp only [Bool.and_eq_true,Nat.beq_eq] at h;rw [h.1.1.1,h.1.1.2,h.1.2,h.2]
    · rfl
    · simp only [Nat.beq_eq] at h;rw [h]
    · rfl
    · rfl
    · simp only [Bool.and_eq_true,Nat.beq_eq] at h;rw [h.1,ih _ _ h.2]
    · rw [Py ih _ _ h]
    · rw [Py ih _ _ h]
    · simp only [Bool.and_eq_true,Nat.beq_eq] at h;rw [h.1.1,Py ih _ _ h.1.2,Py ih _ _ h.2]
    · cases h
def RN (acc:List Nat):List Edge→Nat→Option Nat
  | [],a=>some a
  |e :: es,a=>match Region.binds .any e with
    |false=>RN acc es a
    |true=>match acc[e.on]? with
      |none=>none
      |some b=>RN acc es (Nat.lor (Nat.lor a (Nat.shiftLeft 1 e.on)) b)
def Y8:List Oper→List Nat→Option (List Nat)
  | [],acc=>some acc
  |o :: l,acc=>match RN acc o.after.toList 0 with
    |none=>none
    |some a=>Y8 l (acc ++ [a])
def Be:List Oper→Nat→List (Nat×Nat)
  | [],_=> []
  |o :: l,i=>match o.dst with
    |some d=>(d,i) :: Be l (i+1)
    |none=>Be l (i+1)
def safe (an:List Nat)(i s:Nat):List (Nat×Nat)→Bool
  | []=>true
  | (d,k) :: l=>match Nat.beq d s with
    |false=>safe an i s l
    |true=>match Nat.ble (k+1) i with
      |true=>bit (an.getD i 0) k && safe an i s l
      |false=>Nat.ble (i+1) k && bit (an.getD k 0) i && safe an i s l
noncomputable def ZF (fr:T Value)(sf:Nat→Bool)(x:Operand):Option Value:=
  match x with
  | .tmp s=>match sf s with
    |true=>fr.get s
    |false=>none
  |x=>sr fr x
structure UW where
  cls:Nat
  fr:T Value
  hp:T A7
  top:Nat
  v:Value
noncomputable def Rm (tt:AO)(cl:Callee)(sz:Nat)(all:List Oper)(ws:List (Nat×Nat))(an:List Nat)(ops:List Oper):Nat→St→Option (List UW×St):=
  List.rec (fun _ st=>some ([],st)) (fun o _ ih i st=>
    match EE (ZF st.fr (fun s=>safe an i s ws)) all o.guard with
    |none=>none
    |some false=>Qw sz st.fr o.dst undef fun fr=>match ih (i+1) ⟨fr,st.hp,st.top⟩ with
      |some (L,st')=>some (⟨0,st.fr,st.hp,st.top,undef⟩ :: L,st')
      |none=>none
    |some true=>match HB o.op with
      |true=>Wf tt cl (ZF st.fr (fun s=>safe an i s ws)) st.hp st.top o.op fun v hp top=>Qw sz st.fr o.dst v fun fr=>match ih (i+1) ⟨fr,hp,top⟩ with
        |some (L,st')=>some (⟨2,st.fr,st.hp,st.top,v⟩ :: L,st')
        |none=>none
      |false=>match DA tt (ZF st.fr (fun s=>safe an i s ws)) st.hp.get o.op with
        |some v=>MQ v fun v=>Qw sz st.fr o.dst v fun fr=>match ih (i+1) ⟨fr,st.hp,st.top⟩ with
          |some (L,st')=>some (⟨1,st.fr,st.hp,st.top,v⟩ :: L,st')
          |none=>none
        |none=>none) ops
def Ku:List UW→Nat→List Nat
  | [],_=> []
  |e :: l,i=>match Nat.beq e.cls 2 with
    |true=>i :: Ku l (i+1)
    |false=>Ku l (i+1)
def qt:List UW→T A7→Nat→T A7
  | [],h,_=>h
  |e :: _,_,0=>e.hp
  |_ :: l,h,p+1=>qt l h p
def WQ (an:List Nat)(i p:Nat):List Nat→Bool
  | []=>true
  |k :: l=>(match Nat.ble (k+1) p with
    |true=> !bit (an.getD k 0) i
    |false=> !bit (an.getD i 0) k) && WQ an i p l
def P6 (i p:Nat):List Nat→Bool
  | []=>true
  |k :: l=>(Nat.ble (k+1) p == Nat.ble (k+1) i) && P6 i p l
noncomputable def fy (tt:AO)(an:List Nat)(ws:List (Nat×Nat))(wl:List Nat)(hpp:Nat→T A7)(o:Oper)(e:UW)(i:Nat)(ps:List Nat):Bool:=
  ps.all fun p=>match P6 i p wl || !WQ an i p wl with
    |true=>true
    |false=>match DA tt (ZF e.fr (fun s=>safe an i s ws)) (hpp p).get o.op with
      |some v=>tY 4 v e.v
      |none=>false
noncomputable def jw (tt:AO)(an:List Nat)(ws:List (Nat×Nat))(wl ps:List Nat)(hpp:Nat→T A7):List Oper→List UW→Nat→Bool
  |o :: os,e :: es,i=>(match Nat.beq e.cls 1 with
    |true=>fy tt an ws wl hpp o e i ps
    |false=>true) && jw tt an ws wl ps hpp os es (i+1)
  |_,_,_=>true
def distinct:List (Nat×Nat)→Bool
  | []=>true
  | (d,_) :: l=>(l.all fun q=> !Nat.beq q.1 d) && distinct l
def xy (an wl:List Nat):Bool:=wl.all fun k=>wl.all fun j=> !Nat.ble (j+1) k || bit (an.getD k 0) j
def vC (ops:List Oper):Bool:=ops.any fun o=>o.after.toList.any fun e=> !Region.binds .any e
def Uq:List Oper→Nat→Bool
  | [],_=>true
  |o :: l,i=>(o.after.toList.all fun e=> !Region.binds .text e || Nat.ble (e.on+1) i) && Uq l (i+1)
def UX:List Edge→Nat→Nat
  | [],a=>a
  |e :: l,a=>match Region.binds .gc e with
    |true=>UX l (Nat.lor a (Nat.shiftLeft 1 e.on))
    |false=>UX l a
def lH (done:Nat):List Oper→Nat→Option Nat
  | [],_=>none
  |o :: l,i=>match bit done i with
    |true=>lH done l (i+1)
    |false=>match Nat.beq (Nat.land (UX o.after.toList 0) done) (UX o.after.toList 0) with
      |true=>some i
      |false=>lH done l (i+1)
def AAt (ops:List Oper):Nat→Nat→List (Nat×Nat)→List (Nat×Nat)
  |0,_,acc=>acc
  |n+1,done,acc=>match lH done ops 0 with
    |none=>acc
    |some i=>AAt ops n (Nat.lor done (Nat.shiftLeft 1 i)) ((i,n) :: acc)
def ig (top i:Nat):List (Nat×Nat)→Nat
  | []=>0
  | (j,n) :: l=>match Nat.beq i j with
    |true=>Nat.sub top n
    |false=>ig top i l
def lM (ops:List Oper):List Nat:=
  let o:=AAt ops ops.length 0 []
  (List.range ops.length).map fun i=>ig ops.length i o
def VV (rk:List Nat):List Oper→Nat→Bool
  | [],_=>true
  |o :: l,i=>(o.after.toList.all fun e=> !Region.binds .gc e || (Nat.ble (e.on+1) rk.length && Nat.ble (rk.getD e.on 0+1) (rk.getD i 0))) && VV rk l (i+1)
noncomputable def Nq (ops:List Oper):Bool:=match vC ops with
  |false=>true
  |true=>GW (lM ops) fun rk=>Uq ops 0 && VV rk ops 0 && Nat.beq rk.length ops.length
noncomputable def draw (tt:AO)(cl:Callee):Nw:=fun sz ops st=>
  match Y8 ops.toList [] with
  |none=>none
  |some an=>
    GW an fun an=>
    GW (Be ops.toList 0) fun ws=>
    match distinct ws && Nq ops.toList with
    |false=>none
    |true=>match Rm tt cl sz ops.toList ws an ops.toList 0 st with
      |none=>none
      |some (L,st')=>
        GW (Ku L 0) fun wl=>
        match wl with
        | []=>some st'
        |wl=>match xy an wl && jw tt an ws wl (0 :: wl.map (· + 1)) (qt L st'.hp) ops.toList L 0 with
          |true=>some st'
          |false=>none
end Go.Dm
namespace Go.Dm
theorem ZR {acc:List Nat}(D:Nat→Prop)(hacc:∀k b,acc[k]? = some b→D k→∀j,bit b j=true→D j) :
    ∀(es:List Edge) (a r:Nat),RN acc es a=some r→(∀j,bit a j=true→D j)→(∀e∈es,Region.binds .any e=true→D e.on)→∀j,bit r j=true→D j:=by
  intro es
  induction es with
  |nil=>intro a r h ha _;cases h;exact ha
  |cons e es ih=>
    intro a r h ha he
    simp only [RN] at h
    split at h
    · exact ih a r h ha fun e' h'=>he e' (List.mem_cons_of_mem _ h')
    · rename_i hb
      split at h
      · cases h
      · rename_i b hbb
        have hon:=he e (List.mem_cons_self ..) hb
        refine ih _ r h ?_ fun e' h'=>he e' (List.mem_cons_of_mem _ h')
        intro j hj
        rw [Vg] at hj
        have hj':((a ||| (1 <<< e.on)) ||| b).testBit j=true:=hj
        simp only [Nat.testBit_or,Bool.or_eq_true] at hj'
        rcases hj' with (h1 | h1) | h1
        · exact ha j (by rw [Vg];exact h1)
        · rw [Nat.one_shiftLeft,Nat.testBit_two_pow] at h1
          have:e.on=j:=by simpa using h1
          rw [←this];exact hon
        · exact hacc _ _ hbb hon j (by rw [Vg];exact h1)
theorem mz {acc:List Nat}:∀(es:List Edge) (a r:Nat),RN acc es a=some r→∀e∈es,Region.binds .any e=true→e.on < acc.length:=by
  intro es
  induction es with
  |nil=>intro a r _ e he;cases he
  |cons e0 es ih=>
    intro a r h e he hb
    simp only [RN] at h
    split at h
    · rename_i hn
      rcases List.mem_cons.1 he with rfl | he'
      · rw [hn] at hb;cases hb
      · exact ih a r h e he' hb
    · split at h
      · cases h
      · rename_i b hbb
        rcases List.mem_cons.1 he with rfl | he'
        · rcases Nat.lt_or_ge e.on acc.length with h2 | h2
          · exact h2
          · rw [List.getElem?_eq_none h2] at hbb;cases hbb
        · exact ih _ r h e he' hb
structure Sj (ops:List Oper) (an:List Nat):Prop where
  len:an.length=ops.length
  lt:∀(k:Nat) (o:Oper),ops[k]? = some o→∀e∈o.after.toList,Region.binds .any e=true→e.on < k
  up:∀(D:Nat→Prop),(∀(k:Nat) (o:Oper),ops[k]? = some o→D k→∀e∈o.after.toList,Region.binds .any e=true→D e.on)→
    (∀(k:Nat) (b:Nat),an[k]? = some b→D k→∀j,bit b j=true→D j)∧
    (∀(k:Nat) (o:Oper) (b:Nat),ops[k]? = some o→an[k]? = some b→(∀e∈o.after.toList,Region.binds .any e=true→D e.on)→∀j,bit b j=true→D j)
theorem dP:∀(rest:List Oper) (done:List Oper) (acc an:List Nat),Y8 rest acc=some an→Sj done acc→Sj (done ++ rest) an:=by
  intro rest
  induction rest with
  |nil=>intro done acc an h A;cases h;simpa using A
  |cons o rest ih=>
    intro done acc an h A
    simp only [Y8] at h
    split at h
    · cases h
    · rename_i a ha
      have:=ih (done ++ [o]) (acc ++ [a]) an h ?_
      · simpa using this
      · have hl:=A.len
        refine ⟨by simp [hl], ?_, ?_⟩
        · intro k p hk e he hb
          rw [List.getElem?_append] at hk
          split at hk
          · exact A.lt k p hk e he hb
          · rename_i hge
            have:k=done.length:=by
              rcases Nat.lt_or_ge k (done.length+1) with h2 | h2
              · omega
              · rw [List.getElem?_eq_none (by simp;omega)] at hk;cases hk
            subst this
            simp at hk;subst hk
            have:=mz _ _ _ ha e he hb
            omega
        · intro D hD
          have A2:=A.up D fun k p hk hd=>hD k p (by rw [List.getElem?_append_left (by
            rcases Nat.lt_or_ge k done.length with h2 | h2
            · exact h2
            · rw [List.getElem?_eq_none h2] at hk;cases hk)];exact hk) hd
          have new:(∀e∈o.after.toList,Region.binds .any e=true→D e.on)→∀j,bit a j=true→D j:=fun he=>
            ZR D A2.1 _ 0 a ha (fun j hj=>by rw [Vg] at hj;simp at hj) he
          constructor
          · intro k b hk hdk
            rw [List.getElem?_append] at hk
            split at hk
            · exact A2.1 k b hk hdk
            · rename_i hge
              have:k=acc.length:=by
                rcases Nat.lt_or_ge k (acc.length+1) with h2 | h2
                · omega
                · rw [List.getElem?_eq_none (by simp;omega)] at hk;cases hk
              subst this
              simp at hk;subst hk
              exact new (hD acc.length o (by rw [hl];simp) hdk)
          · intro k p b hp hk he
            rw [List.getElem?_append] at hk
            split at hk
            · rename_i hlt
              refine A2.2 k p b ?_ hk he
              rwa [List.getElem?_append_left (by omega)] at hp
            · rename_i hge
              have:k=acc.length:=by
                rcases Nat.lt_or_ge k (acc.length+1) with h2 | h2
                · omega
                · rw [List.getElem?_eq_none (by simp;omega)] at hk;cases hk
              subst this
              simp at hk;subst hk
              rw [hl] at hp;simp at hp;subst hp
              exact new he
theorem Ub {ops:List Oper}{an:List Nat}(h:Y8 ops [] = some an):Sj ops an:=by
  have:=dP ops [] [] an h ⟨rfl,fun k o hk=>by simp at hk,fun D _=>⟨fun k b hk=>by simp at hk,fun k o b hk=>by simp at hk⟩⟩
  simpa using this
theorem KI:∀(ops:List Oper) (i k d:Nat) (o:Oper),ops[k]? = some o→o.dst=some d→(d,i+k)∈Be ops i:=by
  intro ops
  induction ops with
  |nil=>intro i k d o h;simp at h
  |cons p ops ih=>
    intro i k d o h hd
    cases k with
    |zero=>
      simp at h;subst h
      simp only [Be,hd]
      exact List.mem_cons_self ..
    |succ k=>
      simp at h
      have:=ih (i+1) k d o h hd
      rw [show i+1+k=i+(k+1) from by omega] at this
      simp only [Be]
      split
      · exact List.mem_cons_of_mem _ this
      · exact this
theorem Oj (an:List Nat)(i s:Nat):∀(ws:List (Nat×Nat)),safe an i s ws=true→∀k,(s,k)∈ws→(k < i∧bit (an.getD i 0) k=true)∨(i < k∧bit (an.getD k 0) i=true):=by
  intro ws
  induction ws with
  |nil=>intro _ k h;cases h
  |cons p ws ih=>
    obtain ⟨d,k0⟩:=p
    intro h k hk
    simp only [safe] at h
    split at h
    · rename_i hd
      rcases List.mem_cons.1 hk with h2 | h2
      · cases h2;simp at hd
      · exact ih h k h2
    · split at h
      · rename_i hlt
        simp only [Bool.and_eq_true] at h
        rcases List.mem_cons.1 hk with h2 | h2
        · cases h2;exact .inl ⟨Nat.le_of_ble_eq_true hlt,h.1⟩
        · exact ih h.2 k h2
      · simp only [Bool.and_eq_true] at h
        rcases List.mem_cons.1 hk with h2 | h2
        · cases h2;exact .inr ⟨Nat.le_of_ble_eq_true h.1.1,h.1.2⟩
        · exact ih h.2 k h2
theorem H9:∀(ws:List (Nat×Nat)),distinct ws=true→∀d k k',(d,k)∈ws→(d,k')∈ws→(∀p∈ws,∀q∈ws,p.2=q.2→p=q)→k=k':=by
  intro ws
  induction ws with
  |nil=>intro _ d k k' h;cases h
  |cons p ws ih=>
    obtain ⟨d0,k0⟩:=p
    intro h d k k' h1 h2 hu
    simp only [distinct,Bool.and_eq_true,List.all_eq_true] at h
    rcases List.mem_cons.1 h1 with e1 | e1 <;> rcases List.mem_cons.1 h2 with e2 | e2
    · cases e1;cases e2;rfl
    · cases e1;have:=h.1 _ e2;simp at this
    · cases e2;have:=h.1 _ e1;simp at this
    · exact ih h.2 d k k' e1 e2 fun p hp q hq=>hu p (List.mem_cons_of_mem _ hp) q (List.mem_cons_of_mem _ hq)
structure W1 (P:Program) (tt:AO) (all:List Oper) (ev:Operand→Option Value) (o:Oper) (st:St) (e:UW) (st1:St):Prop where
  hp:e.hp=st.hp
  fr:e.fr=st.fr
  top:e.top=st.top
  put:∀t u,st1.fr.get t=some u→(o.dst=some t∧u=e.v)∨(o.dst≠some t∧st.fr.get t=some u)
  cls:(e.cls=0∧EE ev all o.guard=some false∧e.v=undef∧st1.hp=st.hp∧st1.top=st.top)∨
    (e.cls=1∧EE ev all o.guard=some true∧DA tt ev st.hp.get o.op=some e.v∧st1.hp=st.hp∧st1.top=st.top)∨
    (e.cls=2∧EE ev all o.guard=some true∧gN P ev st.hp st.top o e.v st1.hp st1.top)
inductive Tr (P:Program) (tt:AO) (all:List Oper) (ws:List (Nat×Nat)) (an:List Nat):Nat→List Oper→St→List UW→St→Prop
  |nil (i:Nat) (st:St):Tr P tt all ws an i [] st [] st
  |cons (i:Nat) (o:Oper) (os:List Oper) (st st1 stn:St) (e:UW) (L:List UW) (h:W1 P tt all (ZF st.fr fun s=>safe an i s ws) o st e st1)
      (t:Tr P tt all ws an (i+1) os st1 L stn):Tr P tt all ws an i (o :: os) st (e :: L) stn
theorem dJ {P:Program}{tt:AO}{cl:Callee}(E:Env P tt cl){sz:Nat}{all:List Oper}{ws:List (Nat×Nat)}{an:List Nat}:∀(ops:List Oper) (i:Nat) (st:St) (L:List UW) (stn:St),
    Rm tt cl sz all ws an ops i st=some (L,stn)→Tr P tt all ws an i ops st L stn:=by
  intro ops
  induction ops with
  |nil=>intro i st L stn h;cases h;exact .nil i st
  |cons o ops ih=>
    intro i st L stn h
    change (match EE (ZF st.fr (fun s=>safe an i s ws)) all o.guard with
    |none=>none
    |some false=>Qw sz st.fr o.dst undef fun fr=>match Rm tt cl sz all ws an ops (i+1) ⟨fr,st.hp,st.top⟩ with
      |some (L,st')=>some (⟨0,st.fr,st.hp,st.top,undef⟩ :: L,st')
      |none=>none
    |some true=>match HB o.op with
      |true=>Wf tt cl (ZF st.fr (fun s=>safe an i s ws)) st.hp st.top o.op fun v hp top=>Qw sz st.fr o.dst v fun fr=>match Rm tt cl sz all ws an ops (i+1) ⟨fr,hp,top⟩ with
        |some (L,st')=>some (⟨2,st.fr,st.hp,st.top,v⟩ :: L,st')
        |none=>none
      |false=>match DA tt (ZF st.fr (fun s=>safe an i s ws)) st.hp.get o.op with
        |some v=>MQ v fun v=>Qw sz st.fr o.dst v fun fr=>match Rm tt cl sz all ws an ops (i+1) ⟨fr,st.hp,st.top⟩ with
          |some (L,st')=>some (⟨1,st.fr,st.hp,st.top,v⟩ :: L,st')
          |none=>none
        |none=>none)=some (L,stn) at h
    split at h
    · cases h
    · rename_i hw
      obtain ⟨fr',h1,_,h3,_⟩:=K3 h
      split at h1
      · rename_i L' st' hgo
        cases h1
        exact .cons i o ops st ⟨fr',st.hp,st.top⟩ _ _ _ ⟨rfl,rfl,rfl,h3, .inl ⟨rfl,hw,rfl,rfl,rfl⟩⟩ (ih _ _ _ _ hgo)
      · cases h1
    · rename_i hw
      split at h
      · obtain ⟨v,hp',top',h4,h5⟩:=Wp E.types E.calls E.ABO h
        obtain ⟨fr',h1,_,h3,_⟩:=K3 h5
        split at h1
        · rename_i L' st' hgo
          cases h1
          exact .cons i o ops st ⟨fr',hp',top'⟩ _ _ _ ⟨rfl,rfl,rfl,h3, .inr (.inr ⟨rfl,hw,h4⟩)⟩ (ih _ _ _ _ hgo)
        · cases h1
      · split at h
        · rename_i v hv
          rw [Kz] at h
          obtain ⟨fr',h1,_,h3,_⟩:=K3 h
          split at h1
          · rename_i L' st' hgo
            cases h1
            exact .cons i o ops st ⟨fr',st.hp,st.top⟩ _ _ _ ⟨rfl,rfl,rfl,h3, .inr (.inl ⟨rfl,hw,hv,rfl,rfl⟩)⟩ (ih _ _ _ _ hgo)
          · cases h1
        · cases h
def Dc:List UW→St→Nat→St
  | [],s,_=>s
  |e :: _,_,0=>⟨e.fr,e.hp,e.top⟩
  |_ :: l,s,k+1=>Dc l s k
theorem fq (L:List UW)(s:St):Dc L s L.length=s:=by
  induction L with
  |nil=>rfl
  |cons e L ih=>exact ih
theorem pI:∀(L:List UW) (s:St) (k:Nat),qt L s.hp k=(Dc L s k).hp:=by
  intro L
  induction L with
  |nil=>intro s k;rfl
  |cons e L ih=>intro s k;cases k with
    |zero=>rfl
    |succ k=>exact ih s k
theorem Tr.facts {P:Program}{tt:AO}{all:List Oper}{ws:List (Nat×Nat)}{an:List Nat}:∀ {i:Nat} {ops:List Oper} {st stn:St} {L:List UW},Tr P tt all ws an i ops st L stn→
    L.length=ops.length∧Dc L stn 0=st∧∀k o,ops[k]? = some o→∃e,L[k]? = some e∧W1 P tt all (ZF (Dc L stn k).fr fun s=>safe an (i+k) s ws) o (Dc L stn k) e (Dc L stn (k+1)):=by
  intro i ops st stn L h
  induction h with
  |nil i st=>exact ⟨rfl,rfl,fun k o hk=>by simp at hk⟩
  |cons i o os st st1 stn e L h t ih=>
    obtain ⟨h1,h2,h3⟩:=ih
    have e0:Dc (e :: L) stn 0=st:=by
      show (⟨e.fr,e.hp,e.top⟩:St)=st
      rw [h.fr,h.hp,h.top]
    refine ⟨by simp [h1],e0, ?_⟩
    intro k p hk
    cases k with
    |zero=>
      simp at hk;subst hk
      refine ⟨e,rfl, ?_⟩
      rw [e0]
      show W1 P tt all _ o st e (Dc L stn 0)
      rw [h2];exact h
    |succ k=>
      simp at hk
      obtain ⟨e',h4,h5⟩:=h3 k p hk
      refine ⟨e',by simpa using h4, ?_⟩
      rw [show i+(k+1)=i+1+k from by omega]
      exact h5
theorem QB:∀(L:List UW) (i k:Nat),k∈Ku L i ↔ ∃j e,k=i+j∧L[j]? = some e∧e.cls=2:=by
  intro L
  induction L with
  |nil=>intro i k;simp [Ku]
  |cons e L ih=>
    intro i k
    simp only [Ku]
    have rest:k∈Ku L (i+1) ↔ ∃j e',k=i+(j+1)∧L[j]? = some e'∧e'.cls=2:=by
      rw [ih]
      constructor
      · rintro ⟨j,e',h1,h2⟩;exact ⟨j,e',by omega,h2⟩
      · rintro ⟨j,e',h1,h2⟩;exact ⟨j,e',by omega,h2⟩
    split
    · rename_i hc
      have hc':e.cls=2:=Nat.eq_of_beq_eq_true hc
      rw [List.mem_cons,rest]
      constructor
      · rintro (rfl | ⟨j,e',h1,h2⟩)
        · exact ⟨0,e,rfl,rfl,hc'⟩
        · exact ⟨j+1,e',h1,by simpa using h2⟩
      · rintro ⟨j,e',h1,h2,h3⟩
        cases j with
        |zero=>left;omega
        |succ j=>right;exact ⟨j,e',h1,by simpa using h2,h3⟩
    · rename_i hc
      rw [rest]
      constructor
      · rintro ⟨j,e',h1,h2⟩;exact ⟨j+1,e',h1,by simpa using h2⟩
      · rintro ⟨j,e',h1,h2,h3⟩
        cases j with
        |zero=>simp at h2;subst h2;rw [h3] at hc;cases hc
        |succ j=>exact ⟨j,e',h1,by simpa using h2,h3⟩
theorem kJ (an:List Nat)(i p:Nat):∀(wl:List Nat),(∀k∈wl,k < p→bit (an.getD k 0) i=false)→(∀k∈wl,¬k < p→bit (an.getD i 0) k=false)→WQ an i p wl=true:=by
  intro wl
  induction wl with
  |nil=>intro _ _;rfl
  |cons k wl ih=>
    intro h1 h2
    simp only [WQ,Bool.and_eq_true]
    refine ⟨?_,ih (fun j hj=>h1 j (List.mem_cons_of_mem _ hj)) (fun j hj=>h2 j (List.mem_cons_of_mem _ hj))⟩
    split
    · rename_i hlt
      rw [h1 k (List.mem_cons_self ..) (Nat.le_of_ble_eq_true hlt)];rfl
    · rename_i hlt
      rw [h2 k (List.mem_cons_self ..) (fun e=>by have:Nat.ble (k+1) p=true:=Nat.ble_eq_true_of_le e;rw [this] at hlt;cases hlt)];rfl
theorem UG (i p:Nat):∀(wl:List Nat),P6 i p wl=true→∀k∈wl,(k < p ↔ k < i):=by
  intro wl
  induction wl with
  |nil=>intro _ k hk;cases hk
  |cons j wl ih=>
    intro h k hk
    simp only [P6,Bool.and_eq_true,beq_iff_eq] at h
    rcases List.mem_cons.1 hk with rfl | hk
    · have h1:=h.1
      constructor
      · intro e
        have:Nat.ble (k+1) p=true:=Nat.ble_eq_true_of_le e
        rw [this] at h1;exact Nat.le_of_ble_eq_true h1.symm
      · intro e
        have:Nat.ble (k+1) i=true:=Nat.ble_eq_true_of_le e
        rw [this] at h1;exact Nat.le_of_ble_eq_true h1
    · exact ih h.2 k hk
theorem dK {tt:AO}{an:List Nat}{ws:List (Nat×Nat)}{wl ps:List Nat}{hpp:Nat→T A7}:∀(ops:List Oper) (L:List UW) (i:Nat),jw tt an ws wl ps hpp ops L i=true→
    ∀k o e,ops[k]? = some o→L[k]? = some e→e.cls=1→fy tt an ws wl hpp o e (i+k) ps=true:=by
  intro ops
  induction ops with
  |nil=>intro L i _ k o e hk;simp at hk
  |cons o ops ih=>
    intro L i h k p e hk he hc
    cases L with
    |nil=>simp at he
    |cons e0 L=>
      simp only [jw,Bool.and_eq_true] at h
      cases k with
      |zero=>
        simp at hk he;subst hk;subst he
        have h1:=h.1
        rw [show Nat.beq e0.cls 1=true by rw [hc];rfl] at h1
        exact h1
      |succ k=>
        simp at hk he
        rw [show i+(k+1)=i+1+k from by omega]
        exact ih L (i+1) h.2 k p e hk he hc
end Go.Dm
namespace Go.Dm
theorem eK {md:Region.Mode}{e:Edge}(h:Region.binds .any e=true):Region.binds md e=true:=by
  unfold Region.binds at *
  cases hg:e.ground <;> rw [hg] at h <;> first | rfl | exact Bool.noConfusion h
theorem Dp {md:Region.Mode}{ops:Array Oper}{listed:Array Bool}{i:Nat}(h:i∈Region.ready md ops listed) :
    i < ops.size∧listed.getD i true=false∧∃o,ops[i]? = some o∧∀e∈o.after.toList,Region.binds .any e=true→listed.getD e.on false=true:=by
  simp only [Region.ready,List.mem_filter,List.mem_range,Bool.and_eq_true,Bool.not_eq_true'] at h
  obtain ⟨h1,h2,h3⟩:=h
  refine ⟨h1,h2,ops[i],by simp [h1], ?_⟩
  simp only [h1,getElem?_pos,Option.map_some,Option.getD_some,Array.all_eq_true_iff_forall_mem] at h3
  intro e he hb
  have:=h3 e (Array.mem_toList_iff.1 he)
  rw [eK hb] at this;simpa using this
def Gb (md:Region.Mode)(ops:Array Oper):Prop:= ∃rank:Nat→Nat,∀(k:Nat) (o:Oper),ops[k]? = some o→∀e∈o.after.toList,Region.binds md e=true→e.on < ops.size∧rank e.on < rank k
theorem N0 {md:Region.Mode}{ops:Array Oper}{listed:Array Bool}(hlt:Gb md ops)
    (hsz:listed.size=ops.size) (h:Region.ready md ops listed= []):∀k,k < ops.size→listed.getD k false=true:=by
  obtain ⟨rank,hrank⟩:=hlt
  have key:∀(r k:Nat),rank k=r→k < ops.size→listed.getD k false=true:=by
   intro r
   induction r using Nat.strongRecOn with
   |_ r ih=>
    intro k hkr hk
    cases hl:listed.getD k false with
    |true=>rfl
    |false=>
      exfalso
      have hmem:k∈Region.ready md ops listed:=by
        simp only [Region.ready,List.mem_filter,List.mem_range,Bool.and_eq_true,Bool.not_eq_true']
        refine ⟨hk, ?_, ?_⟩
        · simp only [Array.getD_eq_getD_getElem?,hsz,hk,getElem?_pos,Option.getD_some] at hl ⊢
          exact hl
        · simp only [hk,getElem?_pos,Option.map_some,Option.getD_some,Array.all_eq_true_iff_forall_mem]
          intro e he
          cases hb:Region.binds md e with
          |false=>rfl
          |true=>
            have hlt':=hrank k ops[k] (by simp [hk]) e (Array.mem_toList_iff.2 he) hb
            have:=ih (rank e.on) (by omega) e.on rfl hlt'.1
            simp [this]
      rw [h] at hmem;cases hmem
  exact fun k hk=>key (rank k) k rfl hk
theorem Io {listed:Array Bool}{i j:Nat}(hi:i < listed.size):(listed.setIfInBounds i true).getD j false=true ↔ j=i∨listed.getD j false=true:=by
  simp only [Array.getD_eq_getD_getElem?,Array.getElem?_setIfInBounds]
  by_cases h:i=j
  · subst h;simp [hi]
  · simp [h,Ne.symm h]
def left (listed:Array Bool):Nat:=(listed.toList.filter fun b=> !b).length
theorem Q5 {listed:Array Bool}{i:Nat}(hi:i < listed.size)(hf:listed.getD i true=false):left (listed.setIfInBounds i true)+1=left listed:=by
  unfold left
  rw [Array.toList_setIfInBounds]
  have hi':i < listed.toList.length:=by simpa using hi
  have hv:listed.toList[i] = false:=by
    simp only [Array.getD_eq_getD_getElem?,hi,getElem?_pos,Option.getD_some] at hf
    simpa using hf
  rw [List.set_eq_take_append_cons_drop]
  simp only [hi',if_true]
  conv=>rhs;rw [←List.take_append_drop i listed.toList,List.drop_eq_getElem_cons hi',hv]
  simp [List.filter_append];omega
theorem OB {listed:Array Bool}(h:left listed=0):∀k,k < listed.size→listed.getD k false=true:=by
  intro k hk
  unfold left at h
  have h':=List.eq_nil_of_length_eq_zero h
  rw [List.filter_eq_nil_iff] at h'
  have:=h' listed[k] (by simp)
  simp only [Array.getD_eq_getD_getElem?,hk,getElem?_pos,Option.getD_some]
  simpa using this
theorem MS (n:Nat):left (Array.replicate n false)=n:=by simp [left]
section
variable {P:Program} {tt:AO} {ops:Array Oper} {ws:List (Nat×Nat)} {an:List Nat} {L:List UW} {st stn:St} {sz:Nat}
structure Ld (P:Program) (tt:AO) (ops:Array Oper) (ws:List (Nat×Nat)) (an:List Nat) (L:List UW) (st stn:St) (sz:Nat):Prop where
  types:Ck P tt
  len:L.length=ops.size
  dst:∀(j:Nat) (p:Oper) d,ops[j]? = some p→p.dst=some d→d < sz
  jm:Sj ops.toList an
  mem:∀(k:Nat) (o:Oper) (d:Nat),ops[k]? = some o→o.dst=some d→(d,k)∈ws
  one:∀d k k',(d,k)∈ws→(d,k')∈ws→k=k'
  zero:Dc L stn 0=st
  last:Dc L stn ops.size=stn
  step:∀(k:Nat) (o:Oper),ops[k]? = some o→∃e,L[k]? = some e∧W1 P tt ops.toList (ZF (Dc L stn k).fr fun s=>safe an k s ws) o (Dc L stn k) e (Dc L stn (k+1))
  wch:∀j k ej ek,L[j]? = some ej→L[k]? = some ek→ej.cls=2→ek.cls=2→j < k→bit (an.getD k 0) j=true
  rch:∀(i:Nat) (o:Oper) e,ops[i]? = some o→L[i]? = some e→e.cls=1→∀p,p≤ops.size→
    (∀k ek,L[k]? = some ek→ek.cls=2→k < p→bit (an.getD k 0) i=false)→(∀k ek,L[k]? = some ek→ek.cls=2→¬k < p→bit (an.getD i 0) k=false)→
    DA tt (ZF (Dc L stn i).fr fun s=>safe an i s ws) (Dc L stn p).hp.get o.op=some e.v
theorem Ld.slot (F:Ld P tt ops ws an L st stn sz):∀k,k≤ops.size→∀s u,(Dc L stn k).fr.get s=some u→
    (∃j o e,j < k∧ops[j]? = some o∧L[j]? = some e∧o.dst=some s∧u=e.v)∨((∀(j:Nat) (o:Oper),j < k→ops[j]? = some o→o.dst≠some s)∧st.fr.get s=some u):=by
  intro k
  induction k with
  |zero=>intro _ s u h;right;rw [F.zero] at h;exact ⟨fun j o hj=>by omega,h⟩
  |succ k ih=>
    intro hk s u h
    have ho:ops[k]? = some ops[k]:=by simp
    obtain ⟨e,he,S⟩:=F.step k _ ho
    rcases S.put s u h with ⟨h1,h2⟩ | ⟨h1,h2⟩
    · left;exact ⟨k,_,e,Nat.lt_succ_self k,ho,he,h1,h2⟩
    · rcases ih (by omega) s u h2 with ⟨j,o,e',h3,h4⟩ | ⟨h3,h4⟩
      · left;exact ⟨j,o,e',by omega,h4⟩
      · right
        refine ⟨fun j o hj hoj=> ?_,h4⟩
        rcases Nat.lt_or_ge j k with hlt | hge
        · exact h3 j o hlt hoj
        · have:j=k:=by omega
          subst this
          rw [ho] at hoj;cases hoj;exact h1
theorem Ld.gX (F:Ld P tt ops ws an L st stn sz):∀(d p:Nat),p+d≤ops.size→(∀k ek,L[k]? = some ek→ek.cls=2→p≤k→p+d≤k)→
    (Dc L stn (p+d)).hp=(Dc L stn p).hp∧(Dc L stn (p+d)).top=(Dc L stn p).top:=by
  intro d
  induction d with
  |zero=>intro p _ _;exact ⟨rfl,rfl⟩
  |succ d ih=>
    intro p hp h
    have ho:ops[p+d]? = some ops[p+d]:=by simp
    obtain ⟨e,he,S⟩:=F.step (p+d) _ ho
    have hne:e.cls≠2:=fun hc=>by have:=h _ _ he hc (by omega);omega
    have:=ih p (by omega) (fun k ek hk hc hpk=>by have:=h k ek hk hc hpk;omega)
    rcases S.cls with ⟨_,_,_,h1,h2⟩ | ⟨_,_,_,h1,h2⟩ | ⟨hc,_⟩
    · exact ⟨h1.trans this.1,h2.trans this.2⟩
    · exact ⟨h1.trans this.1,h2.trans this.2⟩
    · exact absurd hc hne
theorem Ld.Uy (F:Ld P tt ops ws an L st stn sz){p q:Nat}(hp:p≤ops.size)(hq:q≤ops.size)(h:∀k ek,L[k]? = some ek→ek.cls=2→(k < p ↔ k < q)) :
    (Dc L stn p).hp=(Dc L stn q).hp∧(Dc L stn p).top=(Dc L stn q).top:=by
  rcases Nat.le_total p q with hle | hle
  · obtain ⟨d,rfl⟩:=Nat.exists_eq_add_of_le hle
    have:=F.gX d p hq fun k ek hk hc hpk=>by have:=h k ek hk hc;omega
    exact ⟨this.1.symm,this.2.symm⟩
  · obtain ⟨d,rfl⟩:=Nat.exists_eq_add_of_le hle
    exact F.gX d q hp fun k ek hk hc hpk=>by have:=h k ek hk hc;omega
structure Inv (L:List UW) (st stn:St) (ops:Array Oper) (sz:Nat) (φ:Ren) (own:Nat→Prop) (ds:List Deferred) (w0:World) (D:Nat→Prop) (p:Nat) (a:Act) (w:World):Prop where
  hr:HR φ own (Dc L stn p).hp.get w
  top:∀j,(Dc L stn p).top≤j→φ j=none
  k:K own w0 w
  ds:a.defers=ds
  size:a.tmps.size=sz
  pl:p≤ops.size
  wr:∀k ek,L[k]? = some ek→ek.cls=2→(D k ↔ k < p)
  new:∀k o e s,ops[k]? = some o→L[k]? = some e→D k→o.dst=some s→V φ e.v (a.tmps.getD s undef)
  Js:∀s u,(∀(k:Nat) (o:Oper),ops[k]? = some o→D k→o.dst≠some s)→st.fr.get s=some u→V φ u (a.tmps.getD s undef)
theorem Ld.main (F:Ld P tt ops ws an L st stn sz){own:Nat→Prop}{ds:List Deferred}{w0:World}{φ0:Ren}{Q:Exit→Act→World→Prop}{md:Region.Mode}(hrk:Gb md ops)
    (hQ:∀φ' a' w',φ0.le φ'→SR φ' own sz ds w0 stn a' w'→Q .normal a' w') :
    ∀(fuel:Nat) (listed:Array Bool) (φ:Ren) (p:Nat) (a:Act) (w:World),listed.size=ops.size→left listed=fuel→φ0.le φ→
      (∀(k:Nat) (o:Oper),ops[k]? = some o→listed.getD k false=true→∀e∈o.after.toList,Region.binds .any e=true→listed.getD e.on false=true)→
      Inv L st stn ops sz φ own ds w0 (fun k=>listed.getD k false=true) p a w→wpAny P md ops Q fuel listed a w:=by
  have fin:∀(listed:Array Bool) (φ:Ren) (p:Nat) (a:Act) (w:World),(∀k,k < ops.size→listed.getD k false=true)→φ0.le φ→
      Inv L st stn ops sz φ own ds w0 (fun k=>listed.getD k false=true) p a w→Q .normal a w:=by
    intro listed φ p a w hall hle I
    have hL:∀k ek,L[k]? = some ek→ek.cls=2→k < ops.size:=by
      intro k ek hk _
      rcases Nat.lt_or_ge k ops.size with h | h
      · exact h
      · rw [List.getElem?_eq_none (by rw [F.len];exact h)] at hk;cases hk
    have hg:=F.Uy I.pl (Nat.le_refl _) fun k ek hk hc=>by
      have h1:=hL k ek hk hc
      have h2:=(I.wr k ek hk hc).1 (hall k h1)
      omega
    refine hQ φ a w hle ⟨⟨?_,I.size⟩, ?_, ?_,I.k,I.ds⟩
    · intro s u hs
      rw [←F.last] at hs
      rcases F.slot ops.size (Nat.le_refl _) s u hs with ⟨j,o,e,hj,ho,he,hd,rfl⟩ | ⟨h1,h2⟩
      · exact I.new j o e s ho he (hall j hj) hd
      · exact I.Js s u (fun k o ho hk=>h1 k o (by
          rcases Nat.lt_or_ge k ops.size with h | h
          · exact h
          · rw [Array.getElem?_eq_none h] at ho;cases ho) ho) h2
    · rw [←F.last,←hg.1];exact I.hr
    · rw [←F.last,←hg.2];exact I.top
  have step:∀(listed:Array Bool) (φ:Ren) (p:Nat) (a:Act) (w:World) (i:Nat) (Kn:Act→World→Prop),listed.size=ops.size→φ0.le φ→
      (∀(k:Nat) (o:Oper),ops[k]? = some o→listed.getD k false=true→∀e∈o.after.toList,Region.binds .any e=true→listed.getD e.on false=true)→
      Inv L st stn ops sz φ own ds w0 (fun k=>listed.getD k false=true) p a w→i∈Region.ready md ops listed→
      (∀φ' p' a' w',φ0.le φ'→Inv L st stn ops sz φ' own ds w0 (fun k=>(listed.setIfInBounds i true).getD k false=true) p' a' w'→Kn a' w')→wpOp P ops Q i Kn a w:=by
    intro listed φ p a w i Kn hsz hle hcl I hi hK
    obtain ⟨hilt,hil,o,ho,hpred⟩:=Dp hi
    obtain ⟨e,he,S⟩:=F.step i o ho
    have hil':¬listed.getD i false=true:=by
      simp only [Array.getD_eq_getD_getElem?,hsz,hilt,getElem?_pos,Option.getD_some] at hil ⊢
      simp [hil]
    have htl:∀(k:Nat) (o:Oper),ops.toList[k]? = some o→ops[k]? = some o:=fun k o h=>by simpa using h
    obtain ⟨up1,up2⟩:=F.jm.up (fun k=>listed.getD k false=true) fun k o hk hd=>hcl k o (htl k o hk) hd
    have anG:∀k,k < ops.size→an[k]? = some (an.getD k 0):=by
      intro k hk
      have:k < an.length:=by rw [F.jm.len];simpa using hk
      simp [List.getD_eq_getElem?_getD,this]
    have lt_of:∀(k:Nat) (o:Oper),ops[k]? = some o→k < ops.size:=fun k o h=>by
      rcases Nat.lt_or_ge k ops.size with h2 | h2
      · exact h2
      · rw [Array.getElem?_eq_none h2] at h;cases h
    have ltL:∀k ek,L[k]? = some ek→k < ops.size:=fun k ek hk=>by
      rcases Nat.lt_or_ge k ops.size with h | h
      · exact h
      · rw [List.getElem?_eq_none (by rw [F.len];exact h)] at hk;cases hk
    have ancI:∀j,bit (an.getD i 0) j=true→listed.getD j false=true:=up2 i o _ (by simpa using ho) (anG i hilt) hpred
    have ancK:∀k,k < ops.size→listed.getD k false=true→∀j,bit (an.getD k 0) j=true→listed.getD j false=true:=fun k hk hd=>up1 k _ (anG k hk) hd
    have hev:∀x u,ZF (Dc L stn i).fr (fun s=>safe an i s ws) x=some u→V φ u (a.eval x):=by
      intro x u hx
      have hc:FR φ sz .nil a:=⟨(fun t v h=>by cases h),I.size⟩
      cases x with
      |tmp s=>
        simp only [ZF] at hx
        split at hx
        · rename_i hs
          have sf:=Oj an i s ws hs
          rcases F.slot i (by omega) s u hx with ⟨j,oj,ej,hj,hoj,hej,hd,rfl⟩ | ⟨h1,h2⟩
          · rcases sf j (F.mem j oj s hoj hd) with ⟨_,hb⟩ | ⟨hb,_⟩
            · exact I.new j oj ej s hoj hej (ancI j hb) hd
            · omega
          · refine I.Js s u (fun k ok hok hdk hds=> ?_) h2
            rcases sf k (F.mem k ok s hok hds) with ⟨hlt,_⟩ | ⟨_,hb⟩
            · exact h1 k ok hlt hok hds
            · exact hil' (ancK k (lt_of k ok hok) hdk i hb)
        · cases hx
      |const v=>exact hc.ev (.const v) u hx
      |global g=>cases hx
      |func f=>exact hc.ev (.func f) u hx
    have put:∀(φ':Ren) (p':Nat) (v':Value) (w':World),φ.le φ'→V φ' e.v v'→HR φ' own (Dc L stn p').hp.get w'→(∀j,(Dc L stn p').top≤j→φ' j=none)→K own w0 w'→p'≤ops.size→
        (∀k ek,L[k]? = some ek→ek.cls=2→((k=i∨listed.getD k false=true) ↔ k < p'))→
        Inv L st stn ops sz φ' own ds w0 (fun k=>(listed.setIfInBounds i true).getD k false=true) p' (a.put o.dst v') w':=by
      intro φ' p' v' w' hle' hv hr ht hk hp' hw
      have hD:∀k,(listed.setIfInBounds i true).getD k false=true ↔ k=i∨listed.getD k false=true:=fun k=>Io (by omega)
      have other:∀s,o.dst≠some s→(a.put o.dst v').tmps.getD s undef=a.tmps.getD s undef:=by
        intro s hs
        cases hd:o.dst with
        |none=>rfl
        |some d=>
          have:d≠s:=fun e=>hs (by rw [hd,e])
          simp [Act.put,Array.getD_eq_getD_getElem?,this]
      refine ⟨hr,ht,hk,by rw [Act.BS];exact I.ds, ?_,hp',fun k ek h1 h2=>(hD k).trans (hw k ek h1 h2), ?_, ?_⟩
      · cases o.dst <;> simp [Act.put,I.size]
      · intro k ok ek s hok hek hdk hds
        rcases (hD k).1 hdk with rfl | hdk'
        · rw [ho] at hok;cases hok
          rw [he] at hek;cases hek
          have hlt:=F.dst k o s ho hds
          have:(a.put o.dst v').tmps.getD s undef=v':=by
            simp [hds,Act.put,Array.getD_eq_getD_getElem?,I.size,hlt]
          rw [this];exact hv
        · have hne:o.dst≠some s:=by
            intro hos
            have:=F.one s i k (F.mem i o s ho hos) (F.mem k ok s hok hds)
            subst this;exact hil' hdk'
          rw [other s hne]
          exact (I.new k ok ek s hok hek hdk' hds).mono hle'
      · intro s u hno hs
        have hne:o.dst≠some s:=hno i o ho ((hD i).2 (.inl rfl))
        rw [other s hne]
        exact (I.Js s u (fun k ok hok hdk=>hno k ok hok ((hD k).2 (.inr hdk))) hs).mono hle'
    have BH:e.cls≠2→∀k ek,L[k]? = some ek→ek.cls=2→((k=i∨listed.getD k false=true) ↔ k < p):=by
      intro hne k ek hk hc
      rw [←I.wr k ek hk hc]
      constructor
      · rintro (rfl | h)
        · rw [he] at hk;cases hk;exact absurd hc hne
        · exact h
      · exact .inr
    unfold wpOp
    rw [ho]
    dsimp only
    rcases S.cls with ⟨hc,hw,hv,_,_⟩ | ⟨hc,hw,hv,_,_⟩ | ⟨hc,hw,hstep⟩
    · rw [DP I.size F.dst hev hw]
      simp only [Bool.false_eq_true,if_false]
      exact hK φ p _ w hle (put φ p undef w (Ren.le_refl _) (by rw [hv];exact .tuple _ _ .nil) I.hr I.top I.k I.pl (BH (by omega)))
    · rw [DP I.size F.dst hev hw]
      simp only [if_true]
      left
      have hr:=F.rch i o e ho he hc p I.pl
        (fun k ek hk hck hlt=>by
          cases hb:bit (an.getD k 0) i with
          |false=>rfl
          |true=>exact absurd (ancK k (ltL k ek hk) ((I.wr k ek hk hck).2 hlt) i hb) hil')
        (fun k ek hk hck hge=>by
          cases hb:bit (an.getD i 0) k with
          |false=>rfl
          |true=>exact absurd ((I.wr k ek hk hck).1 (ancI k hb)) hge)
      refine jv F.types I.hr hev hr ?_
      intro v' hvv
      exact hK φ p _ w hle (put φ p v' w (Ren.le_refl _) hvv I.hr I.top I.k I.pl (BH (by omega)))
    · rw [DP I.size F.dst hev hw]
      simp only [if_true]
      left
      have hwi:∀k ek,L[k]? = some ek→ek.cls=2→(listed.getD k false=true ↔ k < i):=by
        intro k ek hk hck
        constructor
        · intro hd
          rcases Nat.lt_trichotomy k i with h | h | h
          · exact h
          · subst h;exact absurd hd hil'
          · exact absurd (ancK k (ltL k ek hk) hd i (F.wch i k e ek he hk hc hck h)) hil'
        · intro hlt;exact ancI k (F.wch k i ek e hk he hck hc hlt)
      have hg:=F.Uy I.pl (Nat.le_of_lt hilt) fun k ek hk hck=>by rw [←I.wr k ek hk hck];exact hwi k ek hk hck
      refine hstep φ own a w Kn Q hev (by rw [←hg.1];exact I.hr) (by rw [←hg.2];exact I.top) ?_
      intro v' w' φ' W
      refine hK φ' (i+1) _ w' (Ren.le_trans hle W.le) (put φ' (i+1) v' w' W.le W.v W.hr W.top (I.k.trans W.k) hilt ?_)
      intro k ek hk hck
      rw [hwi k ek hk hck]
      omega
  intro fuel
  induction fuel with
  |zero=>
    intro listed φ p a w hsz hl hle hcl I
    have hall:∀k,k < ops.size→listed.getD k false=true:=fun k hk=>OB hl k (by omega)
    refine ⟨?_,fin listed φ p a w hall hle I⟩
    apply List.eq_nil_iff_forall_not_mem.2
    intro i hi
    obtain ⟨h1,h2,_⟩:=Dp hi
    have:=hall i h1
    simp only [Array.getD_eq_getD_getElem?,hsz,h1,getElem?_pos,Option.getD_some] at h2 this
    rw [h2] at this;cases this
  |succ fuel ih=>
    intro listed φ p a w hsz hl hle hcl I
    refine ⟨fun hn=>fin listed φ p a w (N0 hrk hsz hn) hle I, ?_⟩
    intro i hi
    refine step listed φ p a w i _ hsz hle hcl I hi ?_
    intro φ' p' a' w' hle' I'
    obtain ⟨h1,h2,o,ho,hpred⟩:=Dp hi
    have hD:∀k,(listed.setIfInBounds i true).getD k false=true ↔ k=i∨listed.getD k false=true:=fun k=>Io (by omega)
    refine ih (listed.setIfInBounds i true) φ' p' a' w' (by simp [hsz]) ?_ hle' ?_ I'
    · have:=Q5 (by omega) h2;omega
    · intro k ok hok hdk e he hb
      rw [hD]
      right
      rcases (hD k).1 hdk with rfl | hdk'
      · rw [ho] at hok;cases hok;exact hpred e he hb
      · exact hcl k ok hok hdk' e he hb
end
theorem Region.ZE (ops:Array Oper)(h:vC ops.toList=false):Region.departs ops=false:=by
  unfold Region.departs
  rw [←Array.any_toList]
  unfold vC at h
  cases ha:ops.toList.any fun o=>o.after.any fun e=> !Region.binds .any e with
  |false=>rfl
  |true=>
    rw [List.any_eq_true] at ha
    obtain ⟨o,ho,he⟩:=ha
    rw [List.any_eq_false] at h
    have:=h o ho
    rw [←Array.any_toList] at he
    rw [he] at this;simp at this
theorem Wg:∀(l:List Oper) (i:Nat),Uq l i=true→∀k o,l[k]? = some o→∀e∈o.after.toList,Region.binds .text e=true→e.on < i+k:=by
  intro l
  induction l with
  |nil=>intro i _ k o hk;simp at hk
  |cons p l ih=>
    intro i h k o hk e he hb
    simp only [Uq,Bool.and_eq_true] at h
    cases k with
    |zero=>
      simp at hk;subst hk
      have:=List.all_eq_true.1 h.1 e he
      rw [hb] at this
      simp only [Bool.not_true,Bool.false_or] at this
      have:=Nat.le_of_ble_eq_true this;omega
    |succ k=>
      simp at hk
      have:=ih (i+1) h.2 k o hk e he hb;omega
theorem We (rk:List Nat):∀(l:List Oper) (i:Nat),VV rk l i=true→∀k o,l[k]? = some o→∀e∈o.after.toList,Region.binds .gc e=true→e.on < rk.length∧rk.getD e.on 0 < rk.getD (i+k) 0:=by
  intro l
  induction l with
  |nil=>intro i _ k o hk;simp at hk
  |cons p l ih=>
    intro i h k o hk e he hb
    simp only [VV,Bool.and_eq_true] at h
    cases k with
    |zero=>
      simp at hk;subst hk
      have:=List.all_eq_true.1 h.1 e he
      rw [hb] at this
      simp only [Bool.not_true,Bool.false_or,Bool.and_eq_true] at this
      have h1:=Nat.le_of_ble_eq_true this.1
      have h2:=Nat.le_of_ble_eq_true this.2
      exact ⟨by omega,h2⟩
    |succ k=>
      simp at hk
      have:=ih (i+1) h.2 k o hk e he hb
      rw [show i+(k+1)=i+1+k from by omega];exact this
theorem I6 {ops:Array Oper}(h:Nq ops.toList=true)(hd:Region.departs ops=true):Gb .text ops∧Gb .gc ops:=by
  unfold Nq at h
  split at h
  · rename_i hdep
    rw [Region.ZE ops hdep] at hd;cases hd
  · rw [Dz] at h
    simp only [Bool.and_eq_true] at h
    obtain ⟨⟨h1,h2⟩,h3⟩:=h
    have hlt:∀(k:Nat) (o:Oper),ops[k]? = some o→k < ops.size:=fun k o hk=>by
      rcases Nat.lt_or_ge k ops.size with h | h
      · exact h
      · rw [Array.getElem?_eq_none h] at hk;cases hk
    constructor
    · refine ⟨fun k=>k,fun k o hk e he hb=> ?_⟩
      have:=Wg _ 0 h1 k o (by simpa using hk) e he hb
      have:=hlt k o hk
      exact ⟨by omega,by show e.on < k;omega⟩
    · refine ⟨fun k=>(lM ops.toList).getD k 0,fun k o hk e he hb=> ?_⟩
      have:=We _ _ 0 h2 k o (by simpa using hk) e he hb
      have hl:=Nat.eq_of_beq_eq_true h3
      simp only [Array.length_toList] at hl
      rw [hl] at this
      simpa using this
theorem RG:∀(ops:List Oper) (i:Nat) (p:Nat×Nat),p∈Be ops i→i≤p.2:=by
  intro ops
  induction ops with
  |nil=>intro i p h;cases h
  |cons o ops ih=>
    intro i p h
    simp only [Be] at h
    split at h
    · rcases List.mem_cons.1 h with rfl | h
      · exact Nat.le_refl _
      · have:=ih _ _ h;omega
    · have:=ih _ _ h;omega
theorem KX:∀(ops:List Oper) (i:Nat) (p q:Nat×Nat),p∈Be ops i→q∈Be ops i→p.2=q.2→p=q:=by
  intro ops
  induction ops with
  |nil=>intro i p q h;cases h
  |cons o ops ih=>
    intro i p q hp hq hpq
    simp only [Be] at hp hq
    split at hp
    · rename_i d hd
      rw [hd] at hq
      rcases List.mem_cons.1 hp with rfl | hp <;> rcases List.mem_cons.1 hq with rfl | hq
      · rfl
      · have:=RG _ _ _ hq;dsimp only at hpq;omega
      · have:=RG _ _ _ hp;dsimp only at hpq;omega
      · exact ih _ _ _ hp hq hpq
    · rename_i hd
      rw [hd] at hq
      exact ih _ _ _ hp hq hpq
theorem cz:∀(wl:List Nat) (p:Nat),∃q∈(0 :: wl.map (· + 1)),q≤p∧∀k∈wl,(k < q ↔ k < p):=by
  intro wl
  induction wl with
  |nil=>intro p;exact ⟨0,List.mem_cons_self ..,Nat.zero_le _,fun k hk=>by cases hk⟩
  |cons j wl ih=>
    intro p
    obtain ⟨q,hq,h1,h2⟩:=ih p
    by_cases hj:q≤j∧j < p
    · refine ⟨j+1,by simp,by omega, ?_⟩
      intro k hk
      rcases List.mem_cons.1 hk with rfl | hk
      · omega
      · have:=h2 k hk;omega
    · refine ⟨q, ?_,h1, ?_⟩
      · rcases List.mem_cons.1 hq with rfl | hq
        · simp
        · simp only [List.map_cons,List.mem_cons];right;right;exact hq
      · intro k hk
        rcases List.mem_cons.1 hk with rfl | hk
        · omega
        · exact h2 k hk
theorem sd {P:Program}{tt:AO}(cl:Callee)(E:Env P tt cl):Zd P (draw tt cl):=by
  intro sz ops st st' h hdst id φ own ds w0 a w Q S hQ
  unfold draw at h
  split at h
  · cases h
  · rename_i an han
    rw [Dz,Dz] at h
    split at h
    · cases h
    · rename_i hdis0
      simp only [Bool.and_eq_true] at hdis0
      obtain ⟨hdis,hmo⟩:=hdis0
      split at h
      · cases h
      · rename_i L stn hgo
        rw [Dz] at h
        have tr:=(dJ E _ _ _ _ _ hgo)
        obtain ⟨f1,f2,f3⟩:=tr.facts
        have hmem:∀(k:Nat) (o:Oper) (d:Nat),ops[k]? = some o→o.dst=some d→(d,k)∈Be ops.toList 0:=by
          intro k o d ho hd
          have:=KI ops.toList 0 k d o (by simpa using ho) hd
          simpa using this
        have key:st' = stn∧xy an (Ku L 0)=true∧jw tt an (Be ops.toList 0) (Ku L 0) (0 :: (Ku L 0).map (· + 1)) (qt L stn.hp) ops.toList L 0=true∨st' = stn∧Ku L 0= []:=by
          split at h
          · rename_i hw;cases h;exact .inr ⟨rfl,hw⟩
          · split at h
            · rename_i hw hc;cases h
              simp only [Bool.and_eq_true] at hc
              exact .inl ⟨rfl,hc.1,hc.2⟩
            · cases h
        have hst:st' = stn:=by rcases key with k | k <;> exact k.1
        subst hst
        have wmem:∀k ek,L[k]? = some ek→ek.cls=2→k∈Ku L 0:=fun k ek hk hc=>(QB L 0 k).2 ⟨k,ek,by omega,hk,hc⟩
        have F0:∀(k:Nat) (o:Oper),ops[k]? = some o→∃e,L[k]? = some e∧W1 P tt ops.toList (ZF (Dc L st' k).fr fun s=>safe an k s (Be ops.toList 0)) o (Dc L st' k) e (Dc L st' (k+1)):=by
          intro k o ho
          have:=f3 k o (by simpa using ho)
          simpa using this
        have F:Ld P tt ops (Be ops.toList 0) an L st st' sz:=by
          refine ⟨E.types,by simpa using f1,HG hdst,Ub han,hmem, ?_,f2, ?_,F0, ?_, ?_⟩
          · intro d k k' h1 h2
            refine H9 _ hdis d k k' h1 h2 ?_
            intro p hp q hq hpq
            exact KX ops.toList 0 p q hp hq hpq
          · have:=fq L st'
            rw [f1] at this;simpa using this
          · intro j k ej ek hj hk hcj hck hlt
            rcases key with ⟨_,hwc,_⟩ | ⟨_,hnil⟩
            · unfold xy at hwc
              rw [List.all_eq_true] at hwc
              have:=hwc k (wmem k ek hk hck)
              rw [List.all_eq_true] at this
              have:=this j (wmem j ej hj hcj)
              simp only [Bool.or_eq_true,Bool.not_eq_true'] at this
              rcases this with h2 | h2
              · have h3:Nat.ble (j+1) k=true:=Nat.ble_eq_true_of_le hlt
                rw [h3] at h2;cases h2
              · exact h2
            · have:=wmem k ek hk hck;rw [hnil] at this;cases this
          · intro i o e ho he hc p hp hA hB
            obtain ⟨e2,he2,S2⟩:=F0 i o ho
            rw [he] at he2;cases he2
            have hv:DA tt (ZF (Dc L st' i).fr fun s=>safe an i s (Be ops.toList 0)) (Dc L st' i).hp.get o.op=some e.v:=by
              rcases S2.cls with ⟨h0,_⟩ | ⟨_,_,h1,_⟩ | ⟨h0,_⟩
              · omega
              · exact h1
              · omega
            have ilt:i < ops.size:=by
              rcases Nat.lt_or_ge i ops.size with h2 | h2
              · exact h2
              · rw [Array.getElem?_eq_none h2] at ho;cases ho
            -- the gX is known by its lower end
            have gX:∀(p q:Nat),p≤ops.size→q≤ops.size→(∀k∈Ku L 0,(k < p ↔ k < q))→(Dc L st' p).hp=(Dc L st' q).hp:=by
              intro p q hp hq hpq
              have G:∀(d p:Nat),p+d≤ops.size→(∀k ek,L[k]? = some ek→ek.cls=2→p≤k→p+d≤k)→(Dc L st' (p+d)).hp=(Dc L st' p).hp:=by
                intro d
                induction d with
                |zero=>intro p _ _;rfl
                |succ d ih=>
                  intro p hp h
                  have ho:ops[p+d]? = some ops[p+d]:=by simp
                  obtain ⟨e,he,S⟩:=F0 (p+d) _ ho
                  have hne:e.cls≠2:=fun hc=>by have:=h _ _ he hc (by omega);omega
                  have:=ih p (by omega) (fun k ek hk hc hpk=>by have:=h k ek hk hc hpk;omega)
                  rcases S.cls with ⟨_,_,_,h1,h2⟩ | ⟨_,_,_,h1,h2⟩ | ⟨hc,_⟩
                  · exact h1.trans this
                  · exact h1.trans this
                  · exact absurd hc hne
              rcases Nat.le_total p q with hle | hle
              · obtain ⟨d,rfl⟩:=Nat.exists_eq_add_of_le hle
                exact (G d p hq fun k ek hk hc hpk=>by have:=hpq k (wmem k ek hk hc);omega).symm
              · obtain ⟨d,rfl⟩:=Nat.exists_eq_add_of_le hle
                exact G d q hp fun k ek hk hc hpk=>by have:=hpq k (wmem k ek hk hc);omega
            rcases key with ⟨_,_,hrc⟩ | ⟨_,hnil⟩
            · have hr1:=dK ops.toList L 0 hrc i o e (by simpa using ho) he hc
              unfold fy at hr1
              rw [Nat.zero_add,List.all_eq_true] at hr1
              -- the boundary of p's gX
              have hb:∃q∈(0 :: (Ku L 0).map (· + 1)),q≤p∧∀k∈Ku L 0,(k < q ↔ k < p):=cz (Ku L 0) p
              obtain ⟨q,hq,hqp,hqk⟩:=hb
              have hqn:q≤ops.size:=by omega
              have hgap:=gX q p hqn hp hqk
              have h1:=hr1 q hq
              have hmay:WQ an i q (Ku L 0)=true:=by
                refine kJ an i q _ ?_ ?_
                · intro k hk hlt
                  obtain ⟨j,ek,e1,e2,e3⟩:=(QB L 0 k).1 hk
                  have:j=k:=by omega
                  subst this
                  exact hA j ek e2 e3 ((hqk j hk).1 hlt)
                · intro k hk hlt
                  obtain ⟨j,ek,e1,e2,e3⟩:=(QB L 0 k).1 hk
                  have:j=k:=by omega
                  subst this
                  exact hB j ek e2 e3 fun h=>hlt ((hqk j hk).2 h)
              split at h1
              · rename_i hcond
                rw [hmay] at hcond
                simp only [Bool.not_true,Bool.or_false] at hcond
                have hs:=UG _ _ _ (by simpa using hcond)
                have hgi:=gX q i hqn (Nat.le_of_lt ilt) hs
                rw [←hgap,hgi];exact hv
              · split at h1
                · rename_i v hv2
                  have:=uJ 4 _ _ h1
                  subst this
                  have efr:e.fr=(Dc L st' i).fr:=S2.fr
                  rw [pI] at hv2
                  rw [←hgap,←efr]
                  simpa using hv2
                · cases h1
            · have:=gX p i hp (Nat.le_of_lt ilt) (by rw [hnil];intro k hk;cases hk)
              rw [this];exact hv
        have all:∀md,Gb md ops→wpAny P md ops Q ops.size (Array.replicate ops.size false) a {w with drawn:=w.drawn+1}:=by
         intro md hrk
         refine F.main (φ0:=φ) (own:=own) (ds:=ds) (w0:=w0) hrk hQ ops.size _ φ 0 a _ (by simp) (MS _) (Ren.le_refl _) ?_ ?_
         · intro k o _ hk
           simp [Array.getD_eq_getD_getElem?,Array.getElem?_replicate] at hk
           split at hk <;> simp at hk
         · have hf:∀k,¬((Array.replicate ops.size false).getD k false=true):=by
             intro k hk
             simp [Array.getD_eq_getD_getElem?,Array.getElem?_replicate] at hk
             split at hk <;> simp at hk
           refine ⟨by rw [f2];exact S.hr.drew _,by rw [f2];exact S.top,S.k.trans (K.drew _ _ _),S.ds,S.fr.size,Nat.zero_le _, ?_, ?_, ?_⟩
           · intro k ek _ _
             constructor
             · intro hk;exact absurd hk (hf k)
             · intro hk;omega
           · intro k o e s _ _ hk;exact absurd hk (hf k)
           · intro s u _ hs;exact S.fr.val s u hs
        have anyR:Gb .any ops:=⟨fun k=>k,fun k o hk e he hb=>by
          have h1:=F.jm.lt k o (by simpa using hk) e he hb
          have h2:k < ops.size:=by
            rcases Nat.lt_or_ge k ops.size with h | h
            · exact h
            · rw [Array.getElem?_eq_none h] at hk;cases hk
          exact ⟨by omega,h1⟩⟩
        refine wp_region_draw fun t=> ?_
        unfold Region.schedule
        split
        · exact wpAny_sound ops.size t _ a _ (all .any anyR)
        · rename_i hnd
          have hd:Region.departs ops=true:=by
            cases hdp:Region.departs ops with
            |true=>rfl
            |false=>rw [hdp] at hnd;simp at hnd
          obtain ⟨r1,r2⟩:=I6 hmo hd
          split
          · exact wpAny_sound ops.size _ _ a _ (all .text r1)
          · exact wpAny_sound ops.size _ _ a _ (all .gc r2)
end Go.Dm
namespace Go.Dm
def DV (n:Nat)(x:Value):List Value:=List.replicate n x
def T.wN {α:Type}:T α→Nat→Nat→List (Nat×α)
  | .nil,_,_=> []
  | .node l v r,a,b=>(match v with
    |some x=> [(b,x)]
    |none=> []) ++ (wN l (2 * a) (a+b) ++ wN r (2 * a) (2 * a+b))
theorem T.rC {α:Type}:∀(t:T α) (a b k:Nat) (x:α),t.get k=some x→(a * k+b,x)∈t.wN a b:=by
  intro t
  induction t with
  |nil=>intro a b k x h;cases h
  |node l v r ihl ihr=>
    intro a b k x h
    rw [T.IL] at h
    simp only [T.wN,List.mem_append]
    split at h
    · rename_i hk
      left;subst hk;subst h;simp
    · rename_i hk
      right
      split at h
      · rename_i h1
        left
        have:=ihl (2 * a) (a+b) _ x h
        have e:2 * a * (k / 2)+(a+b)=a * k+b:=by
          have:k=2 * (k / 2)+1:=by omega
          conv=>rhs;rw [this,Nat.mul_add,Nat.mul_one,←Nat.mul_assoc,Nat.mul_comm a 2]
          omega
        rwa [e] at this
      · rename_i h1
        right
        have:=ihr (2 * a) (2 * a+b) _ x h
        have e:2 * a * (k / 2 - 1)+(2 * a+b)=a * k+b:=by
          obtain ⟨m,hm⟩:∃m,k=2 * (m+1):=⟨k / 2 - 1,by omega⟩
          subst hm
          have:2 * (m+1) / 2 - 1=m:=by omega
          rw [this,show a * (2 * (m+1))=2 * a * (m+1) by rw [←Nat.mul_assoc,Nat.mul_comm a 2],Nat.mul_add,Nat.mul_one]
          omega
        rwa [e] at this
theorem T.af {α:Type}{t:T α}{k:Nat}{x:α}(h:t.get k=some x):(k,x)∈t.wN 1 0:=by
  have:=T.rC t 1 0 k x h
  simpa using this
theorem BO.of {P:Program}{t:TypeId}{i:TI}
    (h1:P.underlying t=some i.ud) (h2:(P.info? t).map (fun x=>(x.size,x.bytes,x.zero))=some (i.size,i.bytes,some i.zero))
    (h3:Go.Dm.plain 4 i.zero=true) (h4:(Nat.beq (match i.zero with | .agg ⟨l⟩=>l | v=> [v]).length i.size && Nat.blt i.size Bc)=true) (h5:i.cmp=true→P.stoodInHeld t=false∧P.eqGuardType P.depth t=false):BO P t i:=by
  cases hx:P.info? t with
  |none=>rw [hx] at h2;cases h2
  |some x=>
    rw [hx] at h2
    simp only [Option.map_some,Option.some.injEq,Prod.mk.injEq] at h2
    rw [Bool.and_eq_true] at h4
    exact ⟨h1,by simp [Program.cellsOf,hx,h2.1],by simp [Program.bytesOf,hx,h2.2.1],⟨x,hx,h2.2.2⟩,h3,Nat.eq_of_beq_eq_true h4.1,h5,Nat.le_of_ble_eq_true h4.2⟩
theorem Aq.AK {fn:Func}(h:(match fn.body with | some c=>codeOk fn.ntmps c | none=>true)=true):∀c,fn.body=some c→codeOk fn.ntmps c=true:=by
  intro c hc;rw [hc] at h;exact h
end Go.Dm
