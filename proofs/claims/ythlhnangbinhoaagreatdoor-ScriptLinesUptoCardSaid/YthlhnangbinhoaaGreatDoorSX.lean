/- The line that Print writes. -/
import Derived.Test.YthlhnangbinhoaaGreatDoorCCK
set_option linter.unusedVariables false
namespace Go.Proofs.YthlhnangbinhoaaGreatDoor.Dm
open Go.Dm
set_option maxHeartbeats 64000000
set_option maxRecDepth 20000
noncomputable def sX:FuncId→Bb:=Bw (Bw (Bw (XV (fun _=>True) Ia) 13 (bb (fun _=>True) Ia)) 25 TM) 27 Mk
theorem TF:A0 Tryz.prog 23 (Jl (fun _=>True) Ia):=mr
theorem U0:CQ Tryz.prog tt.get sX:=(((gW TF).add (zZ TF)).add AAA).add qG
theorem ZN:sX 25=TM:=rfl
theorem wv:sX 26=Nf:=rfl
def FW:List Int→List UInt8
 | []=> []
 |n :: l=>32 :: (Lib.itoa n ++ FW l)
theorem TU:∀(l:List Int) (n:Int),FW (l ++ [n])=FW l ++ 32 :: Lib.itoa n
 | [],n=>by simp [FW]
 |a :: l,n=>by show 32 :: (Lib.itoa a ++ FW (l ++ [n]))=_;rw [TU l n];simp [FW]
def DI (w tl:List UInt8)(ns:List Int):List UInt8:=w ++ (FW ns ++ (tl ++ [10]))
structure J4 (hp:Hp) (w tl:List UInt8) (v:Value) (i:Nat):Prop where
 ex:∃a j l q ns,Dh hp i a j l∧l.length+w.length+tl.length≤140737488000000∧v=AA q ns∧(ns= []∨hp q=AD AY ns)∧q≠i∧q≠j∧j≠1∧ns.length≤4∧∀n∈ns,Fh n
def Jm:Bb:= .det (fun args hp _=>match args with | [.string ⟨⟨w⟩⟩, .string ⟨⟨tl⟩⟩,v, .pointer (some ⟨i,0,none⟩)]=>J4 hp w tl v i∧w≠ []∧hp 1=some Tw∧2≤i | _=>False)
 (fun args hp top=>match args with | [w,tl,v, .pointer (some ⟨i,_,_⟩)]=>(.tuple ⟨[]⟩,YA hp i top (DI (strOf w) (strOf tl) (AY.rd hp v)),top+1) | _=>(undef, [],top))
def vm (hp:Hp)(top i jj:Nat)(l w tl:List UInt8)(q:Nat)(ns:List Int)(k:Nat):SS:=⟨[(1, .string ⟨⟨tl⟩⟩,true),(3, .pointer (some ⟨i,0,none⟩),true),(11,AA q ns,true),(12, .int .i64 (ns.length:Int),true),(13, .int .i64 (k:Int),true)],
 hp.Av [(jj,none),(top,Fi (l ++ (w ++ FW (ns.take k)))),(i,B6 (.pointer (some ⟨i,0,none⟩)) (AA top (l ++ (w ++ FW (ns.take k)))))],top+1⟩
theorem Oh:∀ {l:List Int},(∀n∈l,Fh n)→(FW l).length≤22 * l.length
 | [],_=>Nat.le_refl _
 |n :: l,h=>by
  have h1:=Lib.itoa_length_le n (h n (List.mem_cons_self ..)).1 (h n (List.mem_cons_self ..)).2
  have h2:=Oh fun m hm=>h m (List.mem_cons_of_mem _ hm)
  show (32 :: (Lib.itoa n ++ FW l)).length≤_
  simp only [List.length_cons,List.length_append];omega
theorem Bx {h':Hp}{i q:Nat}{T:List UInt8}(hq:q≠i)(a:h' i=B6 (.pointer (some ⟨i,0,none⟩)) (AA q T))(b:h' q=Fi T):Dh h' i (.pointer (some ⟨i,0,none⟩)) q T:=⟨a, .inr rfl,b,hq⟩
theorem ABa:A0 Tryz.prog 24 Jm:=by
 refine .Hq VK ?_
 intro args hp top hpre hcl hsc
 match args,hpre with
 | [.string ⟨⟨w⟩⟩, .string ⟨⟨tl⟩⟩,v, .pointer (some ⟨i,0,none⟩)],⟨⟨a,j,l,q,ns,hB,hr,hv,hq,hqi,hqj,hj1,hn,hI⟩,hw,h1,hi2⟩=>
 subst hv
 have mQ:∀ {h':Hp},(ns= []∨h' q=AD AY ns)→BP AY h' (AA q ns) ns:=fun {h'} h=>by
  rcases h with h | h
  ·subst h;exact .nils
  ·exact BP.JF h (by omega)
 have hS:BP AY hp (AA q ns) ns:=mQ hq
 have s1:=hS.low hcl
 have hlt:i < top:=hcl.lt _ _ hB.o
 have hp1:(∃a j l,Dh hp i a j l∧l.length+w.length≤140737488355328)=True:=eq_true ⟨a,j,l,hB,by omega⟩
 have hl:=hB.Kj
 have hjq0:GR hp i top≠i∧(ns= []∨q≠GR hp i top)∧GR hp i top≠1:=by
  by_cases e:l= []
  ·subst e;rw [hB.SZ]
   refine ⟨by omega, ?_,by omega⟩
   by_cases e2:ns= []
   ·exact .inl e2
   ·have:=s1
    cases ns with
    |nil=>exact absurd rfl e2
    |cons n ns=>exact .inr (by have:q < top:=this;omega)
  ·rw [hB.Ma e];exact ⟨hB.ne, .inr hqj,hj1⟩
 have hti:¬top=i:=by omega
 have hti1:¬top+1=i:=by omega
 have hlw:l ++ w≠ []:=by simp [hw]
 obtain ⟨hjj,hqq,hjj1⟩:=hjq0
 generalize hjq:GR hp i top=jj at hjj hqq hjj1
 simp only [hS.rd,AH]
 refine AR.A5 BA VK rfl 25 rfl [] rfl (show 4≤25 by decide) ?_
 refine CW.vc U0 [0,1,2,3,8,11,12,13,14] (by kernel_rfl) ?_
 (repeat ((try refine Vc.mk' ?_);simp (maxSteps:=6000000) only [go_sem,ZN,TM,hp1,hw,AH,YA,hl,hjq,Xb hS]))
 refine CW.DC (vm hp top i jj l w tl q ns) (fun k=>k≤ns.length) (fun k=>ns.length - k) 0 (Nat.zero_le _) ?_ ?_
 ·exact (by refine BR.mk' [top] hcl (by simp) (by simp) rfl (AU ?_) ?_ ?_ <;> simp [FW,AB hlt,Sc.Az (fun j hj=>AB hj) s1,Iv,LK,Ab,hti])
 ·intro k hk
  have n1:¬1=i:=by omega
  have n2:¬1=top:=by omega
  have n3:¬1=jj:=by omega
  have hT1:l ++ (w ++ FW (ns.take k))≠ []:=by simp [hw]
  have hT2:(l ++ (w ++ FW (ns.take k))).length+tl.length≤140737488000100:=by
   have:=Oh (l:=ns.take k) (fun n hm=>hI n (List.mem_of_mem_take hm))
   rw [List.length_take] at this
   simp only [List.length_append];omega
  by_cases hlt2:k < ns.length
  ·have kk:Ap .i64 ((k:Int)+1)=((k+1:Nat):Int):=Bf hlt2 (by omega)
   have ii:((k:Int) < (ns.length:Int)):=by omega
   have hne:ns≠ []:=by intro e;rw [e] at hlt2;simp at hlt2
   have hqj2:=hqq.resolve_left hne
   have hq:=hq.resolve_left hne
   have hqt:q < top:=by
    cases ns with
    |nil=>exact absurd rfl hne
    |cons n ns=>exact s1
   have q1:¬q=i:=hqi
   have q2:¬q=top:=by omega
   have q3:¬q=jj:=hqj2
   have ix:Aa tt.get 68 (AA q ns) (.int .i64 (k:Int))=(Ag (AA q ns) (k * 1),True):=by
    have:=Ib hS (k:= .i64) (n:=(k:Int)) (by omega) (by omega)
    simpa using this
   have ld:∀ {h':Hp},h' q=AD AY ns→A4 tt.get h' 3 (Ag (AA q ns) (k * 1))=(.int .i64 (at' ns k),True):=fun e=>M6 (mQ (.inr e)) hlt2
   have hI1:Fh (at' ns k):=hI _ (by rw [CO _ _ hlt2];exact List.getElem_mem hlt2)
   have hI2:=eq_true hI1
   have hil:=Lib.itoa_length_le _ hI1.1 hI1.2
   have hst:FW (ns.take (k+1))=FW (ns.take k) ++ 32 :: Lib.itoa (at' ns k):=by rw [DN hlt2,TU]
   generalize hT:l ++ (w ++ FW (ns.take k))=T at hT1 hT2
   have hpre:∀ {h':Hp},h' i=B6 (.pointer (some ⟨i,0,none⟩)) (AA top T)→h' top=Fi T→(∃a j l_1,Dh h' i a j l_1∧l_1.length+((Lib.itoa (at' ns k)).length+1)≤140737488355328)=True:=fun a b=>eq_true ⟨_,_,_,Bx (by omega) a b,by omega⟩
   have hbL:∀ {h':Hp},h' i=B6 (.pointer (some ⟨i,0,none⟩)) (AA top T)→h' top=Fi T→IQ h' i=T:=fun a b=>(Bx (by omega) a b).Kj
   have hbJ:∀ {h':Hp} {t:Nat},h' i=B6 (.pointer (some ⟨i,0,none⟩)) (AA top T)→h' top=Fi T→GR h' i t=top:=fun a b=>(Bx (by omega) a b).Ma hT1
   have s5:(1+(Lib.itoa (at' ns k)).length≤4611686018427387904)=True:=eq_true (by omega)
   have s6:l ++ (w ++ FW (ns.take (k+1)))=T ++ 32 :: Lib.itoa (at' ns k):=by rw [hst,←hT];simp [List.append_assoc]
   refine CW.vc U0 [0,1,2,3,8,11,12,13,14] (by kernel_rfl) ?_
   (repeat ((try refine Vc.mk' ?_);simp (maxSteps:=6000000) only [go_sem,vm,hT,ZN,TM,wv,Nf,AH,intOf_int,YA,ii,ix,ld,q1,q2,q3,hq,hI2,hti,n1,n2,n3,h1,s5,hpre,hbL,hbJ,kk]))
   refine .mk (k+1) hlt2 (by omega) ((by refine BR.mk' [top+1] hcl (by simp) (by simp) rfl (AU ?_) ?_ ?_ <;> simp [s6,AB hlt,Sc.Az (fun j hj=>AB hj) s1,Iv,LK,Ab,hti1]))
  ·have hk2:k=ns.length:=by omega
   subst hk2
   have ii:¬((ns.length:Int) < (ns.length:Int)):=by omega
   rw [List.take_length] at hT1 hT2
   generalize hT:l ++ (w ++ FW ns)=T at hT1 hT2
   have hpre:∀ {h':Hp},h' i=B6 (.pointer (some ⟨i,0,none⟩)) (AA top T)→h' top=Fi T→(∃a j l_1,Dh h' i a j l_1∧l_1.length+(tl ++ [10]).length≤140737488355328)=True:=fun a b=>eq_true ⟨_,_,_,Bx (by omega) a b,by simp only [List.length_append,List.length_cons,List.length_nil];omega⟩
   have hbL:∀ {h':Hp},h' i=B6 (.pointer (some ⟨i,0,none⟩)) (AA top T)→h' top=Fi T→IQ h' i=T:=fun a b=>(Bx (by omega) a b).Kj
   have hbJ:∀ {h':Hp} {t:Nat},h' i=B6 (.pointer (some ⟨i,0,none⟩)) (AA top T)→h' top=Fi T→GR h' i t=top:=fun a b=>(Bx (by omega) a b).Ma hT1
   have s5:(tl.length≤4611686018427387903)=True:=eq_true (by omega)
   have s6:(tl ++ [10] = [])=False:=by simp
   have hq2:l ++ DI w tl ns=T ++ (tl ++ [10]):=by rw [←hT];simp [DI,List.append_assoc]
   refine CW.vc U0 [0,1,2,3,8,11,12,13,14] (by kernel_rfl) ?_
   (repeat ((try refine Vc.mk' ?_);simp (maxSteps:=6000000) only [go_sem,vm,List.take_length,hT,ZN,TM,AH,YA,ii,decide_false,hti,s5,s6,hpre,hbL,hbJ,hq2]))
   (refine ⟨[top+1],by simp,by simp,by simp, ?_, ?_, ?_⟩ <;> simp [AB hlt,Iv,LK,Ab,hti1])
end Go.Proofs.YthlhnangbinhoaaGreatDoor.Dm
set_option linter.unusedVariables false
namespace Go.Proofs.YthlhnangbinhoaaGreatDoor.Dm
open Go.Dm
set_option maxHeartbeats 64000000
set_option maxRecDepth 20000
theorem SW {k:Int}{r:De}:∀ {l:List De},FP k l=some r→r∈l
 | [],h=>by cases h
 |x :: l,h=>by
  unfold FP at h
  split at h
  ·cases h;exact List.mem_cons_self ..
  ·exact List.mem_cons_of_mem _ (SW h)
theorem YO:∀r∈BV,r.word≠ []∧r.word.length≤6:=by decide
theorem dQ {o:Ax}{F:Int}(hm:Ct o F=true)(hO:GZ o){j:Nat}(hj:j < 6)(hh:Ay F (p2 j)=true):(Bu j o).length≤1024:=by
 have hcase:j=0∨j=1∨j=2∨j=3∨j=4∨j=5:=by omega
 rcases hcase with rfl | rfl | rfl | rfl | rfl | rfl
 ·exact ID hO.r
 ·exact ID hO.p
 ·exact ID hO.g
 ·exact ID ⟨by have:=hO.e0;omega,by have:=hO.e1;omega⟩
 ·exact UD (VN hm hh)
 ·exact ID hO.t
theorem VZ {o:Ax}{F:Int}(hm:Ct o F=true)(hO:GZ o):∀(n j:Nat) (ws:Ha),j+n=6→na j ws→Lib.join ws [32]≠ []→na 6 (CE F o n j ws)∧Lib.join (CE F o n j ws) [32]≠ []
 |0,j,ws,h,h1,h2=>by
  have:j=6:=by omega
  subst this;exact ⟨h1,h2⟩
 |n+1,j,ws,h,h1,h2=>by
  unfold CE
  by_cases hh:Ay F (p2 j)=true
  ·rw [if_pos hh]
   refine VZ hm hO n (j+1) _ (by omega) (h1.app (dQ hm hO (by omega) hh)) ?_
   rw [TV,if_neg (by have:=h1.one;omega)]
   simp
  ·rw [if_neg hh]
   exact VZ hm hO n (j+1) _ (by omega) h1.stay h2
theorem aQ {o:Ax}{s:List UInt8}(hO:GZ o)(h:IH o=some s):s.length≤8000∧s≠ []:=by
 unfold IH at h
 cases hf:FP o.Kind BV with
 |none=>rw [hf] at h;cases h
 |some r=>
  rw [hf] at h
  dsimp only at h
  split at h
  ·rename_i hm
   cases h
   obtain ⟨w1,w2⟩:=YO r (SW hf)
   obtain ⟨a1,a2⟩:=VZ hm hO 6 0 [r.word] rfl (AAJ w2) (by simpa [Lib.join] using w1)
   refine ⟨?_,a2⟩
   have:=a1.jn
   have:=a1.le
   omega
  ·cases h
def YU:List UInt8:= [119,111,114,108,100]
def NI:List UInt8:= [114,111,117,116,101,114]
def bP:List UInt8:= [108,105,110,107]
def ag:List UInt8:= [100,114,111,112]
def P3:List UInt8:= [100,111,117,98,108,101]
def Tj:List UInt8:= [100,101,108,97,121]
def aB:List UInt8:= [112,108,97,121]
def rA:List UInt8:= [32,105,110,103,114,101,115,115]
def CV (S:CK):List UInt8:=DI YU [] [S.W,S.A,S.T,S.L]
def C2 (c:B3):List UInt8:=DI NI (if c.Ey=true then rA else []) [c.Self,c.Claim]
def Eh (k:Ak):List UInt8:=DI bP [] [k.A,k.B,k.EB]
def FZ (r:BJ):List UInt8:=if r.Kind=1 then DI ag [] [r.Cj,r.To,r.JK] else if r.Kind=2 then DI P3 [] [r.Cj,r.To,r.JK,r.By] else DI Tj [] [r.Cj,r.To,r.JK,r.By]
def BK {α:Type}(f:α→List UInt8):List α→List UInt8
 | []=> []
 |a :: l=>f a ++ BK f l
theorem Ix {α:Type}{f:α→List UInt8}:∀ {l:List α} {a:α},BK f (l ++ [a])=BK f l ++ f a
 | [],a=>by simp [BK]
 |b :: l,a=>by show f b ++ BK f (l ++ [a])=_;rw [Ix];simp [BK,List.append_assoc]
theorem FI {α:Type}{f:α→List UInt8}{n:Nat}:∀ {l:List α},(∀a∈l,(f a).length≤n)→(BK f l).length≤n * l.length
 | [],_=>by simp [BK]
 |a :: l,h=>by
  have h1:=h a (List.mem_cons_self ..)
  have h2:=FI (l:=l) fun b hb=>h b (List.mem_cons_of_mem _ hb)
  show (f a ++ BK f l).length≤_
  rw [List.length_append,List.length_cons,Nat.mul_add];omega
theorem Fq {w tl:List UInt8}{ns:List Int}(h:∀n∈ns,Fh n):(DI w tl ns).length≤w.length+22 * ns.length+tl.length+1:=by
 have:=Oh h
 unfold DI
 simp only [List.length_append,List.length_cons,List.length_nil];omega
structure vU (S:CK):Prop where
 w:Fh S.W
 a:Fh S.A
 t:Fh S.T
 l:Fh S.L
 R:∀c∈S.R,Fh c.Self∧Fh c.Claim
 K:∀c∈S.K,Fh c.A∧Fh c.B∧Fh c.EB
 U:∀c∈S.U,Fh c.Cj∧Fh c.To∧Fh c.JK∧Fh c.Kind∧Fh c.By
theorem TH {c:B3}(h:Fh c.Self∧Fh c.Claim):(C2 c).length≤200:=by
 have:=Fq (w:=NI) (tl:=if c.Ey=true then rA else []) (ns:= [c.Self,c.Claim]) (by simp [h])
 have h2:(if c.Ey=true then rA else []).length≤8:=by split <;> decide
 have h3:NI.length=6:=rfl
 unfold C2
 simp only [List.length_cons,List.length_nil] at this ⊢;omega
theorem Sa {c:Ak}(h:Fh c.A∧Fh c.B∧Fh c.EB):(Eh c).length≤200:=by
 have:=Fq (w:=bP) (tl:= []) (ns:= [c.A,c.B,c.EB]) (by simp [h])
 have h3:bP.length=4:=rfl
 unfold Eh
 simp only [List.length_cons,List.length_nil] at this ⊢;omega
theorem TD {c:BJ}(h:Fh c.Cj∧Fh c.To∧Fh c.JK∧Fh c.Kind∧Fh c.By):(FZ c).length≤200:=by
 have a:=Fq (w:=ag) (tl:= []) (ns:= [c.Cj,c.To,c.JK]) (by simp [h])
 have b:=Fq (w:=P3) (tl:= []) (ns:= [c.Cj,c.To,c.JK,c.By]) (by simp [h])
 have d:=Fq (w:=Tj) (tl:= []) (ns:= [c.Cj,c.To,c.JK,c.By]) (by simp [h])
 have h3:ag.length=4:=rfl
 have h4:P3.length=6:=rfl
 have h5:Tj.length=5:=rfl
 unfold FZ
 simp only [List.length_cons,List.length_nil] at a b d
 split
 ·omega
 ·split <;> omega
def Hr (S:CK):List UInt8:=CV S ++ BK C2 S.R ++ BK Eh S.K ++ BK FZ S.U ++ DI aB [] []
def cL:List Ax→Option (List UInt8)
 | []=>some []
 |o :: l=>match IH o with
  |none=>none
  |some s=>match cL l with
   |none=>none
   |some r=>some (DI s [] [] ++ r)
def J6 (o:Ax):List UInt8:=DI ((IH o).getD []) [] []
theorem TS:∀ {l:List Ax},(∀o∈l,(IH o).isSome=true)→cL l=some (BK J6 l)
 | [],_=>rfl
 |o :: l,h=>by
  have h1:=h o (List.mem_cons_self ..)
  unfold cL
  cases ho:IH o with
  |none=>rw [ho] at h1;cases h1
  |some s=>rw [TS fun b hb=>h b (List.mem_cons_of_mem _ hb)];simp [BK,J6,ho]
theorem Tf:∀ {l:List Ax} {o:Ax},o∈l→IH o=none→cL l=none
 |x :: l,o,hm,h=>by
  unfold cL
  cases hx:IH x with
  |none=>rfl
  |some s=>
   have:o∈l:=by
    rcases List.mem_cons.1 hm with rfl | h'
    ·rw [h] at hx;cases hx
    ·exact h'
   rw [Tf this h]
def nc (S:CK)(ops:List Ax):List UInt8×Int:=
 if Ia S≠0 then ([],Ia S) else if 512 < ops.length then ([],3) else match cL ops with
 |none=>([],2)
 |some r=>if 65536 < (Hr S ++ r).length then ([],3) else (Hr S ++ r,0)
structure mm (hp:Hp) (v:Value) (S:CK) (ops:List Ax):Prop where
 ex:∃r k u o,v= .agg ⟨Yl S r k u o⟩∧BP AL hp r S.R∧BP Ad hp k S.K∧BP AJ hp u S.U∧BP Aw hp o ops
 rl:S.R.length≤1000000
 kl:S.K.length≤1000000
 ul:S.U.length≤1000000
 ol:ops.length≤1000000
def Ws (hp:Hp)(v:Value):CK×List Ax:=(⟨intOf ((Ca v)[0]?.getD undef),intOf ((Ca v)[1]?.getD undef),intOf ((Ca v)[2]?.getD undef),intOf ((Ca v)[3]?.getD undef),AL.rd hp ((Ca v)[4]?.getD undef),Ad.rd hp ((Ca v)[5]?.getD undef),AJ.rd hp ((Ca v)[6]?.getD undef)⟩,Aw.rd hp ((Ca v)[7]?.getD undef))
theorem mm.d {hp:Hp}{v:Value}{S:CK}{ops:List Ax}(h:mm hp v S ops):Ws hp v=(S,ops):=by
 obtain ⟨r,k,u,o,rfl,h1,h2,h3,h4⟩:=h.ex
 simp [Ws,Yl,Ca,intOf,h1.rd,h2.rd,h3.rd,h4.rd]
def w5 (x:List UInt8×Int):Value:= .tuple ⟨[.string ⟨⟨x.1⟩⟩, .int .i64 x.2]⟩
def Z8:Bb:= .pure (fun args hp=>match args with | [v]=>(∃S ops,mm hp v S ops∧vU S∧∀o∈ops,GZ o)∧C7 hp | _=>False) (fun args hp=>match args with | [v]=>w5 (nc (Ws hp v).1 (Ws hp v).2) | _=>undef)
theorem iT {o:Ax}(hO:GZ o):(J6 o).length≤8001:=by
 unfold J6
 have:=Fq (w:=(IH o).getD []) (tl:= []) (ns:= []) (by simp)
 have h2:((IH o).getD []).length≤8000:=by
  cases h:IH o with
  |none=>simp
  |some s=>exact (aQ hO h).1
 simp only [List.length_nil] at this;omega
end Go.Proofs.YthlhnangbinhoaaGreatDoor.Dm
