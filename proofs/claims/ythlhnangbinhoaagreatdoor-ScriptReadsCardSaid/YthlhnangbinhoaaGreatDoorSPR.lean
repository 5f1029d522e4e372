/- The document's Parse, walked. -/
import Derived.Test.YthlhnangbinhoaaGreatDoorSPL
set_option linter.unusedVariables false
namespace Go.Proofs.YthlhnangbinhoaaGreatDoor.Dm
open Go.Dm
set_option maxHeartbeats 64000000
set_option maxRecDepth 20000
noncomputable def rh:FuncId→BE:=BV (BV GP2 53 Pk) 29 (GM (fun _=>True) DY)
theorem Qn:Bp Tryz.prog tt.get rh:=(Mr.add qI).add dG
theorem yr:rh 50=Zy:=rfl
theorem yt:rh 22=UL:=rfl
theorem yx:rh 51=Gi:=rfl
theorem yu:rh 52=Z0:=rfl
theorem yw:rh 53=Pk:=rfl
theorem ri:rh 29=GM (fun _=>True) DY:=rfl
def ia (c n:Int):Value:= .agg ⟨[.int .i64 c, .int .i64 n]⟩
def wg:Value:= .agg ⟨Eb S0 (.slice none 0 0) (.slice none 0 0) (.slice none 0 0) (.slice none 0 0)⟩
def rpV (x:(BW×List A0) ⊕ (Int×Nat))(t:Nat):Value×A6×Nat:=match x with
 | .inl (S,ops)=>(.tuple ⟨[.agg ⟨Eb S (AA t S.R) (AA (t+1) S.K) (AA (t+2) S.U) (AA (t+3) ops)⟩,ia 0 0]⟩, [(t,AD AU S.R),(t+1,AD AP S.K),(t+2,AD AO S.U),(t+3,AD Aw ops)],t+4)
 | .inr (c,n)=>(.tuple ⟨[wg,ia c n]⟩, [],t)
theorem XJ {c:Int}{n t:Nat}:rpV (.inr (c,n)) t=(.tuple ⟨[wg,ia c n]⟩, [],t):=rfl
theorem tF {S:BW}{ops:List A0}{t:Nat}:rpV (.inl (S,ops)) t=(.tuple ⟨[.agg ⟨Eb S (AA t S.R) (AA (t+1) S.K) (AA (t+2) S.U) (AA (t+3) ops)⟩,ia 0 0]⟩, [(t,AD AU S.R),(t+1,AD AP S.K),(t+2,AD AO S.U),(t+3,AD Aw ops)],t+4):=rfl
def Qb:BE:= .det (fun args hp _=>match args with | [.string ⟨⟨s⟩⟩]=>C8 hp | _=>False) (fun args _ top=>match args with | [s]=>rpV (Vj (strOf s)) top | _=>(undef, [],top))
def z8:Option A8:=some (.cells true 0 (Eb S0 (.slice none 0 0) (.slice none 0 0) (.slice none 0 0) (.slice none 0 0)))
def z2:Option A8:=some (.cells true 0 [.int .i64 0, .int .i64 0])
def fL (hp:Hp)(top:Nat)(L:Ec)(rest:List UInt8)(y:PR)(i:Nat):SS:=⟨[(2, .pointer (some ⟨top,0,none⟩),true),(3, .pointer (some ⟨top+1,0,none⟩),true),(4,AA (top+2) L,true),(5, .string ⟨⟨rest⟩⟩,true),(6, .pointer (some ⟨top+3,0,none⟩),true),(7, .int .i64 y.last,true),(8, .int .i64 y.Cf,true),(9, .int .i64 (i:Int),true)],
 hp.Ac [(top,z8),(top+1,z2),(top+2,AD AB L),(top+3,Cb y.S (AA (top+4) y.S.R) (AA (top+5) y.S.K) (AA (top+6) y.S.U) (AA (top+7) y.ops)),(top+4,AD AU y.S.R),(top+5,AD AP y.S.K),(top+6,AD AO y.S.U),(top+7,AD Aw y.ops)],top+8⟩
theorem Zj {hp h1:Hp}{top t:Nat}{fr:Cx}(L:Ec)(rest:List UInt8)(y:PR)(i:Nat)(a b c d:Nat)(hcl:Cl hp top)(nd: [a,b,c,d].Nodup)(ge:top+4≤a∧top+4≤b∧top+4≤c∧top+4≤d)
  (f2:Hx fr 2=some (.pointer (some ⟨top,0,none⟩),true)) (f3:Hx fr 3=some (.pointer (some ⟨top+1,0,none⟩),true)) (f4:Hx fr 4=some (AA (top+2) L,true)) (f5:Hx fr 5=some (.string ⟨⟨rest⟩⟩,true)) (f6:Hx fr 6=some (.pointer (some ⟨top+3,0,none⟩),true)) (f7:Hx fr 7=some (.int .i64 y.last,true)) (f8:Hx fr 8=some (.int .i64 y.Cf,true)) (f9:Hx fr 9=some (.int .i64 (i:Int),true))
  (hk:BK top [] h1 hp) (k0:h1 top=z8) (k1:h1 (top+1)=z2) (k2:h1 (top+2)=AD AB L) (m0:h1 (top+3)=Cb y.S (AA a y.S.R) (AA b y.S.K) (AA c y.S.U) (AA d y.ops))
  (m3:y.S.R= []∨h1 a=AD AU y.S.R) (m4:y.S.K= []∨h1 b=AD AP y.S.K) (m5:y.S.U= []∨h1 c=AD AO y.S.U) (m6:y.ops= []∨h1 d=AD Aw y.ops) :
  ∃ρ,Al ρ top (fL hp top L rest y i) ⟨fr,h1,t⟩:=by
 have r0:rn top [top,top+1,top+2,top+3,a,b,c,d] t top=top:=Eu _ _ _
 have r1:rn top [top,top+1,top+2,top+3,a,b,c,d] t (top+1)=top+1:=Ci top _ _ 1
 have r2:rn top [top,top+1,top+2,top+3,a,b,c,d] t (top+2)=top+2:=Ci top _ _ 2
 have r7:rn top [top,top+1,top+2,top+3,a,b,c,d] t (top+3)=top+3:=Ci top _ _ 3
 have r3:rn top [top,top+1,top+2,top+3,a,b,c,d] t (top+4)=a:=Ci top _ _ 4
 have r4:rn top [top,top+1,top+2,top+3,a,b,c,d] t (top+5)=b:=Ci top _ _ 5
 have r5:rn top [top,top+1,top+2,top+3,a,b,c,d] t (top+6)=c:=Ci top _ _ 6
 have r6:rn top [top,top+1,top+2,top+3,a,b,c,d] t (top+7)=d:=Ci top _ _ 7
 have nd8: [top,top+1,top+2,top+3,a,b,c,d].Nodup:=by
  simp at nd ⊢
  omega
 refine Al.mk' [top,top+1,top+2,top+3,a,b,c,d] hcl nd8 (by simp;omega) rfl (AF ?_) ?_ ?_
 ·simp [Ha,f2,f3,f4,f5,f6,f7,f8,f9,Ao,Av,r1,r2,r7]
 ·intro i hi hm
  exact hk i hi (by simp)
 ·have q:∀ {α:Type} (E:B6 α) (b:Nat) (l:List α),(l= []∨h1 b=AD E l)→(AD E l=none∨h1 b=AD E l):=fun E b l h=>h.imp (fun h=>by rw [h];rfl) id
  simp only [FQ.cons,FQ.nil,and_true,r0,r1,r2,r3,r4,r5,r6,r7,k0,k1,k2,m0,Ai]
  refine ⟨.inr ?_, .inr ?_, .inr trivial, .inr ?_,q _ _ _ m3,q _ _ _ m4,q _ _ _ m5,q _ _ _ m6⟩
  ·simp [z8,Eb,S0,GN,HE,Cg,Ao]
  ·simp [z2,GN,HE,Cg,Ao]
  ·simp [Cb,GN,HE,Cg,Ao,Av,r3,r4,r5,r6]
theorem Q6 {n:Nat}:∀ {s:List UInt8},s.length≤n→∀l∈(li s).1,l.length≤n
 | [],_,l,h=>by rw [li] at h;cases h
 |c :: r,hs,l,h=>by
  have hs:r.length+1≤n:=hs
  have ih:=Q6 (n:=n - 1) (s:=r) (by omega)
  rw [Pw] at h
  split at h
  ·rcases List.mem_cons.1 h with rfl | h
   ·exact Nat.zero_le _
   ·have:=ih l h;omega
  ·split at h
   ·cases h
   ·rename_i a b e
    rcases List.mem_cons.1 h with rfl | h
    ·have:=ih a (by rw [e];exact List.mem_cons_self ..)
     rw [List.length_cons];omega
    ·have:=ih l (by rw [e];exact List.mem_cons_of_mem _ h);omega
theorem lA {S S2:BW}{W:Ec}{c:Nat}(h:P2 S W=some (c,S2)):(c=1∧S2.R=S.R∧S2.K=S.K∧S2.U=S.U)∨(c=2∧∃el,S2= {S with R:=S.R ++ [el]})∨(c=3∧∃el,S2= {S with K:=S.K ++ [el]})∨(c=4∧∃el,S2= {S with U:=S.U ++ [el]}):=by
 unfold P2 at h
 split at h
 ·cases h
 ·split at h
  ·cases h;exact .inl ⟨rfl,rfl,rfl,rfl⟩
  split at h
  ·cases h;exact .inr (.inl ⟨rfl,_,rfl⟩)
  split at h
  ·cases h;exact .inr (.inr (.inl ⟨rfl,_,rfl⟩))
  split at h
  ·cases h;exact .inr (.inr (.inr ⟨rfl,_,rfl⟩))
  split at h
  ·cases h;exact .inr (.inr (.inr ⟨rfl,_,rfl⟩))
  split at h
  ·cases h;exact .inr (.inr (.inr ⟨rfl,_,rfl⟩))
  ·cases h
theorem xA (top:Nat){S S2:BW}{W:Ec}{n:Nat}(h:P2 S W=some (n,S2)):∃us t a b c,top+9≤t∧ [a,b,c,top+7].Nodup∧(top+4≤a∧top+4≤b∧top+4≤c)∧
  Lv (P5 S (AA (top+4) S.R) (AA (top+5) S.K) (AA (top+6) S.U)) (top+9) (P2 S W)=(.tuple ⟨[P5 S2 (AA a S2.R) (AA b S2.K) (AA c S2.U), .bool true]⟩,us,t)∧S2.R.length+S2.K.length+S2.U.length≤S.R.length+S.K.length+S.U.length+1∧
  ∀h:Hp,(h.Ac us top=h top∧h.Ac us (top+1)=h (top+1)∧h.Ac us (top+2)=h (top+2)∧h.Ac us (top+3)=h (top+3)∧h.Ac us (top+7)=h (top+7)∧∀i,i < top→h.Ac us i=h i)∧
   (h (top+4)=AD AU S.R→h (top+5)=AD AP S.K→h (top+6)=AD AO S.U→h.Ac us a=AD AU S2.R∧h.Ac us b=AD AP S2.K∧h.Ac us c=AD AO S2.U):=by
 have zb:∀ {α:Type} (l:List α) (d:Nat),Jm (AA d l) (top+9)=d∨Jm (AA d l) (top+9)=top+9:=fun l d=>by cases l <;> simp [Jm,AA]
 have z1:=zb S.R (top+4)
 have z2:=zb S.K (top+5)
 have z3:=zb S.U (top+6)
 rw [h]
 refine ⟨(Lv (P5 S (AA (top+4) S.R) (AA (top+5) S.K) (AA (top+6) S.U)) (top+9) (some (n,S2))).2.1,(Lv (P5 S (AA (top+4) S.R) (AA (top+5) S.K) (AA (top+6) S.U)) (top+9) (some (n,S2))).2.2,if n=2 then top+9 else top+4,if n=3 then top+9 else top+5,if n=4 then top+9 else top+6, ?_⟩
 rcases lA h with ⟨rfl,e1,e2,e3⟩ | ⟨rfl,el,rfl⟩ | ⟨rfl,el,rfl⟩ | ⟨rfl,el,rfl⟩
 all_goals
  rcases z1 with z1 | z1 <;> rcases z2 with z2 | z2 <;> rcases z3 with z3 | z3
  all_goals
   simp only [Lv,cl4,cl5,cl6,z1,z2,z3]
   refine ⟨by simp,by simp,by simp, ?_, ?_,fun h=>⟨?_,fun a1 a2 a3=> ?_⟩⟩
   ·simp
    try simp [e1,e2,e3]
   ·try rw [e1,e2,e3]
    try simp only [List.length_append,List.length_singleton]
    omega
   ·simp [BR,Bh,Hp.set]
    try (intro i hi;repeat (first | rfl | omega | split))
   ·simp [BR,Bh,Hp.set,a1,a2,a3]
    try simp [e1,e2,e3]
structure PI (s:List UInt8) (y:PR) (i:Nat):Prop where
 le:i≤(li s).1.length
 run:RZ ⟨S0, [], -1, -1⟩ (li s).1 0=RZ y ((li s).1.drop i) i
 len:y.S.R.length+y.S.K.length+y.S.U.length+y.ops.length≤i
 pl:y.Cf≤i
theorem wC:Ag Tryz.prog 18 Qb:=by
  refine .Eh aF ?_
  intro args hp top hpre hcl hsc
  match args,hpre with
  | [.string ⟨⟨s⟩⟩],hv=>
  have ht5:=Em hcl hv
  simp only [AH]
  refine AJ.Af Am aF rfl 131 rfl [.cell 2 29, .cell 3 57] rfl (show 1≤131 by decide) ?_
  by_cases c:65536 < s.length
  · have e:Vj s= .inr (3,0):=by unfold Vj;rw [if_pos c]
    rw [e,XJ]
    have c':((65536:Int) < (s.length:Int))=True:=eq_true (by omega)
    refine CW.vc Qn [0,2,3,4,5,6,7,8,9,10,11,12,13,14,15,18,29,33,43,50,68,92,105,115,124] (by kernel_rfl) ?_
    (repeat ((try refine Vc.mk' ?_);simp (maxSteps:=6000000) only [go_sem,Ap,c',decide_true]))
    (refine ⟨[],by simp,by simp,by simp, ?_, ?_, ?_⟩ <;> simp [wg,Eb,S0,ia])
  have c':((65536:Int) < (s.length:Int))=False:=eq_false (by omega)
  have c2:=eq_false c
  have s1:(s.length≤16000000)=True:=eq_true (by omega)
  refine CW.vc Qn [0,2,3,4,5,6,7,8,9,10,11,12,13,14,15,18,29,33,43,50,68,92,105,115,124] (by kernel_rfl) ?_
  (repeat ((try refine Vc.mk' ?_);simp (maxSteps:=6000000) only [go_sem,Ap,c',decide_false,yr,Zy,s1,AH]))
  refine CW.Bc (fun x:PR×Nat=>fL hp top (li s).1 (li s).2 x.1 x.2) (fun x=>PI s x.1 x.2) (fun x=>(li s).1.length - x.2) (⟨S0, [], -1, -1⟩,0) ⟨Nat.zero_le _,rfl,by simp [S0],by decide⟩ ?_ ?_
  · refine Zj (li s).1 (li s).2 ⟨S0, [], -1, -1⟩ 0 (top+4) (top+5) (top+6) (top+7) hcl (by simp) ⟨by omega,by omega,by omega,by omega⟩ ?_ ?_ ?_ ?_ ?_ ?_ ?_ ?_ ?_ ?_ ?_ ?_ ?_ ?_ ?_ ?_ ?_ <;> first | rfl | (simp [];done) | (simp [Aj,AY,z8,z2,Eb,S0,Cb,AA];done) | (simp [Aj,AY,Cb];done) | exact .inl rfl | (right;simp [Aj,AY];done)
  rintro ⟨y,i⟩ hx
  obtain ⟨hle,hrun,hlen,hpl⟩:=hx
  dsimp only at hle hrun hlen hpl
  have hLl:(li s).1.length≤65536:=by
    have:=(M9 (s:=s) s.length (Nat.le_refl _)).2.1
    rw [Yn s]
    show (FT s s.length).1.length≤_
    omega
  have hLw:∀l∈(li s).1,l.length≤65536:=Q6 (by omega)
  have hF:Vj s=match RZ ⟨S0, [], -1, -1⟩ (li s).1 0 with
      | .inr e=> .inr e
      | .inl x=>if (li s).2≠ []∨x.Cf < 0 then .inr (12,(li s).1.length) else if DY x.S=0 then .inl (x.S,x.ops) else .inr (DY x.S,x.Cf.toNat):=by unfold Vj;rw [if_neg c];rfl
  obtain ⟨L,hL⟩:∃L,L=(li s).1:=⟨_,rfl⟩
  obtain ⟨rest,hrest⟩:∃r,r=(li s).2:=⟨_,rfl⟩
  rw [←hL] at hle hrun hLl hLw hF ⊢
  rw [←hrest] at hF ⊢
  rw [hrun] at hF
  have KP:∀ {o0 o1 o2 o3 o4 o5 o6 o7:Option A8},BK top [] (hp.Ac [(top,o0),(top+1,o1),(top+2,o2),(top+3,o3),(top+4,o4),(top+5,o5),(top+6,o6),(top+7,o7)]) hp:=by
    intros;simp [BR,Bh,BK.set,BK.refl]
  by_cases hlt:i < L.length
  · have ii:((i:Int) < (L.length:Int))=True:=eq_true (by omega)
    have kk:Ad .i64 ((i:Int)+1)=((i+1:Nat):Int):=Ae hlt (by omega)
    have ixl:∀ {b:Nat},AZ tt.get 67 (AA b L) (.int .i64 (i:Int))=(Ah (AA b L) (i * 1),True):=fun {b}=>by
      have h0:BF AB (fun j=>if j=b then AD AB L else none) (AA b L) L:=BF.DK (by simp) (by omega)
      have:=Bo h0 (k:= .i64) (n:=(i:Int)) (by omega) (by omega)
      simpa using this
    have ldl:∀ {h':Hp} {b:Nat},h' b=AD AB L→BN tt.get h' 9 (Ah (AA b L) (i * 1))=(.string ⟨⟨at' L i⟩⟩,True):=fun e=>B9 (BF.DK e (by omega)) hlt
    have hll:=hLw (at' L i) (by rw [BS _ _ hlt];exact List.getElem_mem hlt)
    have hR:VK (at' L i)=ON (at' L i):=p7 (by omega)
    have w1:((at' L i).length≤100000000)=True:=eq_true (by omega)
    have w2:((at' L i).length≤16000000)=True:=eq_true (by omega)
    rw [Kk hlt] at hrun hF
    have hK:RZ y (at' L i :: L.drop (i+1)) i=match Cq y (at' L i) i with | .inr e=> .inr e | .inl y'=>RZ y' (L.drop (i+1)) (i+1):=rfl
    obtain ⟨W,hW⟩:∃W,W=Bl (at' L i):=⟨_,rfl⟩
    have hWne:W≠ []:=by rw [hW];exact Kc _
    have hWl:W.length≤65537:=by have:=K9 (at' L i);rw [←hW] at this;omega
    have hWm:∀w∈W,w.length≤65536:=fun w hw=>Nat.le_trans (JL _ w (hW ▸ hw)) hll
    have hW1:0 < W.length:=List.length_pos_iff.2 hWne
    have iw0:∀ {b:Nat},AZ tt.get 67 (AA b W) (.int .i64 0)=(Ah (AA b W) 0,True):=fun {b}=>by
      have h0:BF AB (fun j=>if j=b then AD AB W else none) (AA b W) W:=BF.DK (by simp) (by omega)
      have:=Bo h0 (k:= .i64) (n:=0) (by omega) (by omega)
      simpa using this
    have lw0:∀ {h':Hp} {b:Nat},h' b=AD AB W→BN tt.get h' 9 (Ah (AA b W) 0)=(.string ⟨⟨at' W 0⟩⟩,True):=fun e=>by
      have:=B9 (BF.DK e (by omega)) (i:=0) hW1
      simpa using this
    have wP:∀ {h':Hp} {b:Nat},h' b=AD AB W→Dy AB h' (AA b W)=True:=fun e=>eq_true ⟨W,BF.DK e (by omega)⟩
    have wR:∀ {h':Hp} {b:Nat},h' b=AD AB W→AB.rd h' (AA b W)=W:=fun e=>(BF.DK e (by omega)).rd
    have wO:Oj W=True:=eq_true ⟨by omega,fun w hw=>by have:=hWm w hw;omega⟩
    have wN:(W= [])=False:=eq_false hWne
    have SWv:∀ {h':Hp},h' (top+4)=AD AU y.S.R→h' (top+5)=AD AP y.S.K→h' (top+6)=AD AO y.S.U→gM h' (P5 y.S (AA (top+4) y.S.R) (AA (top+5) y.S.K) (AA (top+6) y.S.U)) y.S (top+4) (top+5) (top+6):=fun a b c=>⟨rfl,a,b,c,by omega,by omega,by omega⟩
    have hSW:∀ {h':Hp} {t:Nat},h' (top+4)=AD AU y.S.R→h' (top+5)=AD AP y.S.K→h' (top+6)=AD AO y.S.U→top+7≤t→(∃S r k u,gM h' (P5 y.S (AA (top+4) y.S.R) (AA (top+5) y.S.K) (AA (top+6) y.S.U)) S r k u∧r < t∧k < t∧u < t)=True:=fun a b c d=>eq_true ⟨_,_,_,_,SWv a b c,by omega,by omega,by omega⟩
    have hSd:∀ {h':Hp},h' (top+4)=AD AU y.S.R→h' (top+5)=AD AP y.S.K→h' (top+6)=AD AO y.S.U→GP h' (P5 y.S (AA (top+4) y.S.R) (AA (top+5) y.S.K) (AA (top+6) y.S.U))=y.S:=fun a b c=>(SWv a b c).d
    simp only [P5] at hSW hSd
    have hR1:RZ ⟨S0, [], -1, -1⟩ (li s).1 0=match Cq y (at' L i) i with | .inr e=> .inr e | .inl y'=>RZ y' ((li s).1.drop (i+1)) (i+1):=by rw [←hL,hrun,hK]
    have hl1:i+1≤(li s).1.length:=by rw [←hL];exact hlt
    refine ?x
    rcases Classical.em (0≤y.Cf) with hp0 | hp0
    case' x.inl=>
      have p:=And.intro hp0 (show ¬y.Cf < 0 by omega)
      rcases ho:ON (at' L i) with _ | o
    case' x.inl.none=>
      have hst:Cq y (at' L i) i= .inr (12,i):=by unfold Cq;rw [if_pos hp0,ho]
      have e:Vj s= .inr (12,i):=by rw [hF,hK,hst]
      have hf:ML (at' L i)= .tuple ⟨[.agg ⟨Aw.enc LF⟩, .bool false]⟩:=by unfold ML;rw [hR,ho]
      simp only [Az,LF] at hf
    case' x.inl.some=>
      have h2:ML (at' L i)= .tuple ⟨[.agg ⟨Aw.enc o⟩, .bool true]⟩:=by unfold ML;rw [hR,ho]
      simp only [Az] at h2
      rcases Classical.em (y.ops.length=512) with c5 | c5
    case' x.inl.some.inl=>
      have hst:Cq y (at' L i) i= .inr (3,i):=by unfold Cq;rw [if_pos hp0,ho];dsimp only;rw [if_pos c5]
      have e:Vj s= .inr (3,i):=by rw [hF,hK,hst]
      have hf:=And.intro h2 (show (y.ops.length:Int)=512 by omega)
    case' x.inl.some.inr=>
      have hst:Cq y (at' L i) i= .inl {y with ops:=y.ops ++ [o]}:=by unfold Cq;rw [if_pos hp0,ho];dsimp only;rw [if_neg c5]
      have hap:∀ {h':Hp} {q t:Nat},h' (top+7)=AD Aw y.ops→h' q=some (.cells true 7 (Aw.enc o))→AK tt.get h' t [27,27] (AA (top+7) y.ops) (.slice (some ⟨q,0,none⟩) 1 1)=some (AA t (y.ops ++ [o]),Bu (top+7) y.ops t (AD Aw (y.ops ++ [o])),t+1):=fun {h'} {q} {t} a1 a2=>by
        have e3:cellsOf (h' q)=Aw.enc o:=by rw [a2];rfl
        have:=V5 (hp:=h') (b:=top+7) (top:=t) (k:=q) a1 (by rw [e3];exact a2) (by rw [e3,Aw.h]) (CO (by omega) (by decide))
        rwa [e3,Aw.h] at this
      simp only [Az] at hap
      have hf:=And.intro h2 (And.intro @hap (show ¬(y.ops.length:Int)=512 by omega))
      have hi:PI s _ (i+1):=⟨hl1,by rw [hR1,hst],by show y.S.R.length+y.S.K.length+y.S.U.length+(y.ops ++ [o]).length≤i+1;rw [List.length_append];simp only [List.length_singleton];omega,by show y.Cf≤((i+1:Nat):Int);omega⟩
    case' x.inr=>
      have p:=And.intro hp0 (show y.Cf < 0 by omega)
      rcases Classical.em (at' L i= [112,108,97,121]∧0≤y.last) with hq | hq
    case' x.inr.inl=>
      have hst:Cq y (at' L i) i= .inl {y with Cf:=i}:=by unfold Cq;rw [if_neg hp0,if_pos hq]
      have hf:=And.intro hq (show ¬y.last < 0 by omega)
      have hi:PI s _ (i+1):=⟨hl1,by rw [hR1,hst],by show y.S.R.length+y.S.K.length+y.S.U.length+y.ops.length≤i+1;omega,by show (i:Int)≤((i+1:Nat):Int);omega⟩
    case' x.inr.inr=>
      have hnp:(decide (at' L i= [112,108,97,121]) && !decide (y.last < 0))=false:=by simpa using hq
      have hst0:Cq y (at' L i) i=if KY (Lo (at' W 0)) y.last then .inr (12,i) else match P2 y.S W with
          |none=> .inr (12,i)
          |some (_,S)=> .inl {y with S:=S,last:=Lo (at' W 0)}:=by unfold Cq;rw [if_neg hp0,if_neg hq,←hW];rfl
      rcases Classical.em (KY (Lo (at' W 0)) y.last) with hb | hb
    case' x.inr.inr.inl=>
      have hst:Cq y (at' L i) i= .inr (12,i):=by rw [hst0,if_pos hb]
      have e:Vj s= .inr (12,i):=by rw [hF,hK,hst]
      have hbb:(decide (Lo (at' W 0) < 0) || decide (Lo (at' W 0) < y.last) || !(decide (Lo (at' W 0)=0) == decide (y.last < 0)))=true:=by
        unfold KY at hb
        simp
        omega
      have hf:=And.intro hnp hbb
    case' x.inr.inr.inr=>
      have hbb:(decide (Lo (at' W 0) < 0) || decide (Lo (at' W 0) < y.last) || !(decide (Lo (at' W 0)=0) == decide (y.last < 0)))=false:=by
        unfold KY at hb
        simp
        omega
      rw [if_neg hb] at hst0
      rcases hsf:P2 y.S W with _ | ⟨n,S2⟩
    case' x.inr.inr.inr.none=>
      have hst:Cq y (at' L i) i= .inr (12,i):=by rw [hst0,hsf]
      have e:Vj s= .inr (12,i):=by rw [hF,hK,hst]
      have hres:∀t,Lv (P5 y.S (AA (top+4) y.S.R) (AA (top+5) y.S.K) (AA (top+6) y.S.U)) t (P2 y.S W)=(.tuple ⟨[P5 y.S (AA (top+4) y.S.R) (AA (top+5) y.S.K) (AA (top+6) y.S.U), .bool false]⟩, [],t):=fun t=>by rw [hsf];rfl
      simp only [P5] at hres
      have hf:=And.intro hnp (And.intro hbb hres)
    case' x.inr.inr.inr.some=>
      have hst:Cq y (at' L i) i= .inl {y with S:=S2,last:=Lo (at' W 0)}:=by rw [hst0,hsf]
      obtain ⟨us,t,a,b,c,ht,nd,ge,hres,hl',hu⟩:=xA top hsf
      have gn:¬a=top+3∧¬b=top+3∧¬c=top+3:=by omega
      have hu2:=fun h=>(hu h).2
      have hk:∀ {h':Hp},BK top [] h' hp→BK top [] (h'.Ac us) hp:=fun h i hi hm=>((hu _).1.2.2.2.2.2 i hi).trans (h i hi hm)
      have hu':=fun h=>(hu h).1
      simp only [P5] at hres
      have hf:=And.intro hnp (And.intro hbb (And.intro hres (And.intro hu' (And.intro hu2 (And.intro @hk gn)))))
      have hi:PI s _ (i+1):=⟨hl1,by rw [hR1,hst],by show S2.R.length+S2.K.length+S2.U.length+y.ops.length≤i+1;omega,by show y.Cf≤((i+1:Nat):Int);omega⟩
    all_goals
      try rw [e,XJ]
      refine CW.vc Qn [0,2,3,4,5,6,7,8,9,10,11,12,13,14,15,18,29,33,43,50,68,92,105,115,124] (by kernel_rfl) ?_
      (repeat ((try refine Vc.mk' ?_);simp (maxSteps:=6000000) only [go_sem,fL,Cb,z8,z2,Eb,S0,CN,ii,p,ixl,ldl,AH,decide_true,decide_false,Bool.not_true,Bool.not_false,Ay,yt,UL,w1,vz,yx,Gi,w2,←hW,yu,Z0,iw0,lw0,yw,Pk,hSW,hSd,wP,wR,wO,wN,Nat.le_refl,Nat.le_add_right,Nat.add_le_add_iff_left,kk,hf]))
      first
        | ((refine ⟨[],by simp,by simp,by simp, ?_, ?_, ?_⟩ <;> simp [wg,Eb,S0,ia]);done)
        | (refine .mk (_,i+1) hi (by show L.length - (i+1) < L.length - i;omega) ?_
           first
             |refine Zj L rest _ (i+1) a b c (top+7) hcl nd ⟨by omega,by omega,by omega,by omega⟩ ?_ ?_ ?_ ?_ ?_ ?_ ?_ ?_ ?_ ?_ ?_ ?_ ?_ ?_ ?_ ?_ ?_
             |have:= @hap;refine Zj L rest _ (i+1) (top+4) (top+5) (top+6) (top+10) hcl (by simp) ⟨by omega,by omega,by omega,by omega⟩ ?_ ?_ ?_ ?_ ?_ ?_ ?_ ?_ ?_ ?_ ?_ ?_ ?_ ?_ ?_ ?_ ?_
             |refine Zj L rest _ (i+1) (top+4) (top+5) (top+6) (top+7) hcl (by simp) ⟨by omega,by omega,by omega,by omega⟩ ?_ ?_ ?_ ?_ ?_ ?_ ?_ ?_ ?_ ?_ ?_ ?_ ?_ ?_ ?_ ?_ ?_
           all_goals first | rfl | (simp [];done) | (simp [BK.set,BK.refl,Aj,AY,z8,z2,Eb,S0,Cb,AA,hf];done) | (simp [Aj,AY,Cb,hf];done) | (right;simp [Aj,AY,hf];done))
  · have hi2:i=L.length:=by omega
    subst hi2
    have ii:((L.length:Int) < (L.length:Int))=False:=eq_false (by omega)
    have hF2:Vj s=if rest≠ []∨y.Cf < 0 then .inr (12,L.length) else if DY y.S=0 then .inl (y.S,y.ops) else .inr (DY y.S,y.Cf.toNat):=by rw [hF,List.drop_length];rfl
    by_cases hr:rest≠ []∨y.Cf < 0
    · have e:Vj s= .inr (12,L.length):=by rw [hF2,if_pos hr]
      rw [e,XJ]
      have hb:(!decide (rest= []) || decide (y.Cf < 0))=true:=by
        rcases hr with h | h
        · rw [decide_eq_false h];rfl
        · rw [decide_eq_true h,Bool.or_true]
      refine CW.vc Qn [0,2,3,4,5,6,7,8,9,10,11,12,13,14,15,18,29,33,43,50,68,92,105,115,124] (by kernel_rfl) ?_
      (repeat ((try refine Vc.mk' ?_);simp (maxSteps:=6000000) only [go_sem,fL,Cb,z8,z2,Eb,S0,CN,AH,decide_false,Ay,ii,hb]))
      (refine ⟨[],by simp,by simp,by simp, ?_, ?_, ?_⟩ <;> simp [wg,Eb,S0,ia])
    · have hr1:rest= []:=by
        by_cases h:rest= []
        · exact h
        · exact absurd (.inl h) hr
      have hr2:¬y.Cf < 0:=fun h=>hr (.inr h)
      rw [if_neg hr] at hF2
      have hb:(!decide (rest= []) || decide (y.Cf < 0))=false:=by rw [decide_eq_true hr1,decide_eq_false hr2];rfl
      have hSV:∀ {h':Hp},h' (top+4)=AD AU y.S.R→h' (top+5)=AD AP y.S.K→h' (top+6)=AD AO y.S.U→H5 h' (.agg ⟨[.int .i64 y.S.W, .int .i64 y.S.A, .int .i64 y.S.T, .int .i64 y.S.L,AA (top+4) y.S.R,AA (top+5) y.S.K,AA (top+6) y.S.U]⟩) y.S:=fun a b c=>⟨⟨_,_,_,rfl,BF.DK a (by omega),BF.DK b (by omega),BF.DK c (by omega)⟩,by omega,by omega,by omega⟩
      have hE:∀ {h':Hp},h' (top+4)=AD AU y.S.R→h' (top+5)=AD AP y.S.K→h' (top+6)=AD AO y.S.U→(∃S,H5 h' (.agg ⟨[.int .i64 y.S.W, .int .i64 y.S.A, .int .i64 y.S.T, .int .i64 y.S.L,AA (top+4) y.S.R,AA (top+5) y.S.K,AA (top+6) y.S.U]⟩) S)=True:=fun a b c=>eq_true ⟨_,hSV a b c⟩
      have hD:∀ {h':Hp},h' (top+4)=AD AU y.S.R→h' (top+5)=AD AP y.S.K→h' (top+6)=AD AO y.S.U→GP h' (.agg ⟨[.int .i64 y.S.W, .int .i64 y.S.A, .int .i64 y.S.T, .int .i64 y.S.L,AA (top+4) y.S.R,AA (top+5) y.S.K,AA (top+6) y.S.U]⟩)=y.S:=fun a b c=>(hSV a b c).d
      by_cases c3:DY y.S=0
      · rw [if_pos c3] at hF2
        rw [hF2,tF]
        have c4:=eq_true c3
        refine CW.vc Qn [0,2,3,4,5,6,7,8,9,10,11,12,13,14,15,18,29,33,43,50,68,92,105,115,124] (by kernel_rfl) ?_
        (repeat ((try refine Vc.mk' ?_);simp (maxSteps:=6000000) only [go_sem,fL,Cb,z8,z2,Eb,S0,CN,AH,decide_true,decide_false,Bool.not_true,Ay,ii,hb,ri,GM,hE,hD,hv,CR ht5,FO ht5,c4,and_true]))
        (refine ⟨[top+4,top+5,top+6,top+7],by simp,by simp,by simp, ?_, ?_, ?_⟩ <;> simp [ia,Av,Ai])
      · rw [if_neg c3] at hF2
        rw [hF2,XJ]
        have c4:=eq_false c3
        have hpt:((y.Cf.toNat:Nat):Int)=y.Cf:=Int.toNat_of_nonneg (by omega)
        refine CW.vc Qn [0,2,3,4,5,6,7,8,9,10,11,12,13,14,15,18,29,33,43,50,68,92,105,115,124] (by kernel_rfl) ?_
        (repeat ((try refine Vc.mk' ?_);simp (maxSteps:=6000000) only [go_sem,fL,Cb,z8,z2,Eb,S0,CN,AH,decide_false,Bool.not_false,Ay,ii,hb,ri,GM,hE,hD,hv,CR ht5,FO ht5,c4,and_true]))
        (refine ⟨[],by simp,by simp,by simp, ?_, ?_, ?_⟩ <;> simp [wg,Eb,S0,ia,hpt])
end Go.Proofs.YthlhnangbinhoaaGreatDoor.Dm
