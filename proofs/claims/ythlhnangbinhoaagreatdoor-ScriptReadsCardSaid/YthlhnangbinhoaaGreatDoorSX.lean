/- The line that Print writes. -/
import Derived.Test.YthlhnangbinhoaaGreatDoorCCK
set_option linter.unusedVariables false
namespace Go.Proofs.YthlhnangbinhoaaGreatDoor.Dm
open Go.Dm
set_option maxHeartbeats 64000000
set_option maxRecDepth 20000
noncomputable def nG:FuncId→BE:=BV (BV (BV (Vr (fun _=>True) DY) 13 (Qa (fun _=>True) DY)) 25 Sr) 27 Pg
theorem Sm:Ag Tryz.prog 23 (GM (fun _=>True) DY):=gh
theorem Ub:Bp Tryz.prog tt.get nG:=(((iI Sm).add (ABg Sm)).add ACd).add nX
theorem X5:nG 25=Sr:=rfl
theorem tg:nG 26=Mc:=rfl
def FJ:List Int→List UInt8
 | []=> []
 |n :: l=>32 :: (Lib.itoa n ++ FJ l)
theorem TT:∀(l:List Int) (n:Int),FJ (l ++ [n])=FJ l ++ 32 :: Lib.itoa n
 | [],n=>by simp [FJ]
 |a :: l,n=>by show 32 :: (Lib.itoa a ++ FJ (l ++ [n]))=_;rw [TT l n];simp [FJ]
def EJ(w tl:List UInt8)(ns:List Int):List UInt8:=w ++ (FJ ns ++ (tl ++ [10]))
structure Zi(hp:Hp)(w tl:List UInt8)(v:Value)(i:Nat):Prop where
 ex:∃a j l q ns,DZ hp i a j l∧l.length+w.length+tl.length≤140737488000000∧v=AA q ns∧(ns= []∨hp q=AD AL ns)∧q≠i∧q≠j∧j≠1∧ns.length≤4∧∀n∈ns,Ev n
def Mi:BE:= .det (fun args hp _=>match args with | [.string ⟨⟨w⟩⟩, .string ⟨⟨tl⟩⟩,v, .pointer (some ⟨i,0,none⟩)]=>Zi hp w tl v i∧w≠ []∧hp 1=some VH∧2≤i | _=>False)
 (fun args hp top=>match args with | [w,tl,v, .pointer (some ⟨i,_,_⟩)]=>(.tuple ⟨[]⟩,ff hp i top (EJ (strOf w) (strOf tl) (AL.rd hp v)),top+1) | _=>(undef, [],top))
def w5 (hp:Hp)(top i jj:Nat)(l w tl:List UInt8)(q:Nat)(ns:List Int)(k:Nat):SS:=⟨[(1, .string ⟨⟨tl⟩⟩,true),(3, .pointer (some ⟨i,0,none⟩),true),(11,AA q ns,true),(12, .int .i64 (ns.length:Int),true),(13, .int .i64 (k:Int),true)],
 hp.Ac [(jj,none),(top,JT (l ++ (w ++ FJ (ns.take k)))),(i,Cz (.pointer (some ⟨i,0,none⟩)) (AA top (l ++ (w ++ FJ (ns.take k)))))],top+1⟩
theorem OK:∀ {l:List Int},(∀n∈l,Ev n)→(FJ l).length≤22 * l.length
 | [],_=>Nat.le_refl _
 |n :: l,h=>by
  have h1:=Lib.itoa_length_le n (h n (List.mem_cons_self ..)).1 (h n (List.mem_cons_self ..)).2
  have h2:=OK fun m hm=>h m (List.mem_cons_of_mem _ hm)
  show (32 :: (Lib.itoa n ++ FJ l)).length≤_
  simp only [List.length_cons,List.length_append];omega
theorem FC {h':Hp}{i q:Nat}{T:List UInt8}(hq:q≠i)(a:h' i=Cz (.pointer (some ⟨i,0,none⟩)) (AA q T))(b:h' q=JT T):DZ h' i (.pointer (some ⟨i,0,none⟩)) q T:=⟨a, .inr rfl,b,hq⟩
theorem ABm:Ag Tryz.prog 24 Mi:=by
 refine .Eh aK ?_
 intro args hp top hpre hcl hsc
 match args,hpre with
 | [.string ⟨⟨w⟩⟩, .string ⟨⟨tl⟩⟩,v, .pointer (some ⟨i,0,none⟩)],⟨⟨a,j,l,q,ns,hB,hr,hv,hq,hqi,hqj,hj1,hn,hI⟩,hw,h1,hi2⟩=>
 subst hv
 have mQ:∀ {h':Hp},(ns= []∨h' q=AD AL ns)→BF AL h' (AA q ns) ns:=fun {h'} h=>by
  rcases h with h | h
  ·subst h;exact .nils
  ·exact BF.DK h (by omega)
 have hS:BF AL hp (AA q ns) ns:=mQ hq
 have s1:=hS.low hcl
 have hlt:i < top:=hcl.lt _ _ hB.o
 have hp1:(∃a j l,DZ hp i a j l∧l.length+w.length≤140737488355328)=True:=eq_true ⟨a,j,l,hB,by omega⟩
 have hl:=hB.PX
 have hjq0:Hi hp i top≠i∧(ns= []∨q≠Hi hp i top)∧Hi hp i top≠1:=by
  by_cases e:l= []
  ·subst e;rw [hB.TF]
   refine ⟨by omega, ?_,by omega⟩
   by_cases e2:ns= []
   ·exact .inl e2
   ·have:=s1
    cases ns with
    |nil=>exact absurd rfl e2
    |cons n ns=>exact .inr (by have:q < top:=this;omega)
  ·rw [hB.SG e];exact ⟨hB.ne, .inr hqj,hj1⟩
 have hti:¬top=i:=by omega
 have hti1:¬top+1=i:=by omega
 have hlw:l ++ w≠ []:=by simp [hw]
 obtain ⟨hjj,hqq,hjj1⟩:=hjq0
 generalize hjq:Hi hp i top=jj at hjj hqq hjj1
 simp only [hS.rd,AH]
 refine AJ.Af Am aK rfl 25 rfl [] rfl (show 4≤25 by decide) ?_
 refine CW.vc Ub [0,1,2,3,8,11,12,13,14] (by kernel_rfl) ?_
 (repeat ((try refine Vc.mk' ?_);simp (maxSteps:=6000000) only [go_sem,X5,Sr,hp1,hw,AH,ff,hl,hjq,Ef hS]))
 refine CW.Bc (w5 hp top i jj l w tl q ns) (fun k=>k≤ns.length) (fun k=>ns.length - k) 0 (Nat.zero_le _) ?_ ?_
 ·exact (by refine Al.mk' [top] hcl (by simp) (by simp) rfl (AF ?_) ?_ ?_ <;> simp [FJ,AE hlt,Sc.Ao (fun j hj=>AE hj) s1,IX,K3,Av,hti])
 ·intro k hk
  have n1:¬1=i:=by omega
  have n2:¬1=top:=by omega
  have n3:¬1=jj:=by omega
  have hT1:l ++ (w ++ FJ (ns.take k))≠ []:=by simp [hw]
  have hT2:(l ++ (w ++ FJ (ns.take k))).length+tl.length≤140737488000100:=by
   have:=OK (l:=ns.take k) (fun n hm=>hI n (List.mem_of_mem_take hm))
   rw [List.length_take] at this
   simp only [List.length_append];omega
  by_cases hlt2:k < ns.length
  ·have kk:Ad .i64 ((k:Int)+1)=((k+1:Nat):Int):=Ae hlt2 (by omega)
   have ii:((k:Int) < (ns.length:Int)):=by omega
   have hne:ns≠ []:=by intro e;rw [e] at hlt2;simp at hlt2
   have hqj2:=hqq.resolve_left hne
   have hq:=hq.resolve_left hne
   have hqt:q < top:=by
    cases ns with
    |nil=>exact absurd rfl hne
    |cons n ns=>exact s1
   have q1:¬q=i:=hqi
   have q2:¬q=top:=by omega
   have q3:¬q=jj:=hqj2
   have ix:AZ tt.get 68 (AA q ns) (.int .i64 (k:Int))=(Ah (AA q ns) (k * 1),True):=by
    have:=Ct hS (k:= .i64) (n:=(k:Int)) (by omega) (by omega)
    simpa using this
   have ld:∀ {h':Hp},h' q=AD AL ns→BN tt.get h' 3 (Ah (AA q ns) (k * 1))=(.int .i64 (at' ns k),True):=fun e=>Dh (mQ (.inr e)) hlt2
   have hI1:Ev (at' ns k):=hI _ (by rw [BS _ _ hlt2];exact List.getElem_mem hlt2)
   have hI2:=eq_true hI1
   have hil:=Lib.itoa_length_le _ hI1.1 hI1.2
   have hst:FJ (ns.take (k+1))=FJ (ns.take k) ++ 32 :: Lib.itoa (at' ns k):=by rw [Bj hlt2,TT]
   generalize hT:l ++ (w ++ FJ (ns.take k))=T at hT1 hT2
   have hpre:∀ {h':Hp},h' i=Cz (.pointer (some ⟨i,0,none⟩)) (AA top T)→h' top=JT T→(∃a j l_1,DZ h' i a j l_1∧l_1.length+((Lib.itoa (at' ns k)).length+1)≤140737488355328)=True:=fun a b=>eq_true ⟨_,_,_,FC (by omega) a b,by omega⟩
   have hbL:∀ {h':Hp},h' i=Cz (.pointer (some ⟨i,0,none⟩)) (AA top T)→h' top=JT T→L0 h' i=T:=fun a b=>(FC (by omega) a b).PX
   have hbJ:∀ {h':Hp} {t:Nat},h' i=Cz (.pointer (some ⟨i,0,none⟩)) (AA top T)→h' top=JT T→Hi h' i t=top:=fun a b=>(FC (by omega) a b).SG hT1
   have s5:(1+(Lib.itoa (at' ns k)).length≤4611686018427387904)=True:=eq_true (by omega)
   have s6:l ++ (w ++ FJ (ns.take (k+1)))=T ++ 32 :: Lib.itoa (at' ns k):=by rw [hst,←hT];simp [List.append_assoc]
   refine CW.vc Ub [0,1,2,3,8,11,12,13,14] (by kernel_rfl) ?_
   (repeat ((try refine Vc.mk' ?_);simp (maxSteps:=6000000) only [go_sem,w5,hT,X5,Sr,tg,Mc,AH,intOf_int,ff,ii,ix,ld,q1,q2,q3,hq,hI2,hti,n1,n2,n3,h1,s5,hpre,hbL,hbJ,kk]))
   refine .mk (k+1) hlt2 (by omega) ((by refine Al.mk' [top+1] hcl (by simp) (by simp) rfl (AF ?_) ?_ ?_ <;> simp [s6,AE hlt,Sc.Ao (fun j hj=>AE hj) s1,IX,K3,Av,hti1]))
  ·have hk2:k=ns.length:=by omega
   subst hk2
   have ii:¬((ns.length:Int) < (ns.length:Int)):=by omega
   rw [List.take_length] at hT1 hT2
   generalize hT:l ++ (w ++ FJ ns)=T at hT1 hT2
   have hpre:∀ {h':Hp},h' i=Cz (.pointer (some ⟨i,0,none⟩)) (AA top T)→h' top=JT T→(∃a j l_1,DZ h' i a j l_1∧l_1.length+(tl ++ [10]).length≤140737488355328)=True:=fun a b=>eq_true ⟨_,_,_,FC (by omega) a b,by simp only [List.length_append,List.length_cons,List.length_nil];omega⟩
   have hbL:∀ {h':Hp},h' i=Cz (.pointer (some ⟨i,0,none⟩)) (AA top T)→h' top=JT T→L0 h' i=T:=fun a b=>(FC (by omega) a b).PX
   have hbJ:∀ {h':Hp} {t:Nat},h' i=Cz (.pointer (some ⟨i,0,none⟩)) (AA top T)→h' top=JT T→Hi h' i t=top:=fun a b=>(FC (by omega) a b).SG hT1
   have s5:(tl.length≤4611686018427387903)=True:=eq_true (by omega)
   have s6:(tl ++ [10] = [])=False:=by simp
   have hq2:l ++ EJ w tl ns=T ++ (tl ++ [10]):=by rw [←hT];simp [EJ,List.append_assoc]
   refine CW.vc Ub [0,1,2,3,8,11,12,13,14] (by kernel_rfl) ?_
   (repeat ((try refine Vc.mk' ?_);simp (maxSteps:=6000000) only [go_sem,w5,List.take_length,hT,X5,Sr,AH,ff,ii,decide_false,hti,s5,s6,hpre,hbL,hbJ,hq2]))
   (refine ⟨[top+1],by simp,by simp,by simp, ?_, ?_, ?_⟩ <;> simp [AE hlt,IX,K3,Av,hti1])
end Go.Proofs.YthlhnangbinhoaaGreatDoor.Dm
set_option linter.unusedVariables false
namespace Go.Proofs.YthlhnangbinhoaaGreatDoor.Dm
open Go.Dm
set_option maxHeartbeats 64000000
set_option maxRecDepth 20000
theorem S7 {k:Int}{r:Da}:∀ {l:List Da},FG k l=some r→r∈l
 | [],h=>by cases h
 |x :: l,h=>by
  unfold FG at h
  split at h
  ·cases h;exact List.mem_cons_self ..
  ·exact List.mem_cons_of_mem _ (S7 h)
theorem ZC:∀r∈BI,r.word≠ []∧r.word.length≤6:=by decide
theorem fc {o:A0}{F:Int}(hm:CX o F=true)(hO:GS o){j:Nat}(hj:j < 6)(hh:A3 F (p2 j)=true):(Bk j o).length≤1024:=by
 have hcase:j=0∨j=1∨j=2∨j=3∨j=4∨j=5:=by omega
 rcases hcase with rfl | rfl | rfl | rfl | rfl | rfl
 ·exact Hm hO.r
 ·exact Hm hO.p
 ·exact Hm hO.g
 ·exact Hm ⟨by have:=hO.e0;omega,by have:=hO.e1;omega⟩
 ·exact Up (U6 hm hh)
 ·exact Hm hO.t
theorem UB {o:A0}{F:Int}(hm:CX o F=true)(hO:GS o):∀(n j:Nat) (ws:Ec),j+n=6→mi j ws→Lib.join ws [32]≠ []→mi 6 (B8 F o n j ws)∧Lib.join (B8 F o n j ws) [32]≠ []
 |0,j,ws,h,h1,h2=>by
  have:j=6:=by omega
  subst this;exact ⟨h1,h2⟩
 |n+1,j,ws,h,h1,h2=>by
  unfold B8
  by_cases hh:A3 F (p2 j)=true
  ·rw [if_pos hh]
   refine UB hm hO n (j+1) _ (by omega) (h1.app (fc hm hO (by omega) hh)) ?_
   rw [TG,if_neg (by have:=h1.one;omega)]
   simp
  ·rw [if_neg hh]
   exact UB hm hO n (j+1) _ (by omega) h1.stay h2
theorem bS {o:A0}{s:List UInt8}(hO:GS o)(h:Ik o=some s):s.length≤8000∧s≠ []:=by
 unfold Ik at h
 cases hf:FG o.Kind BI with
 |none=>rw [hf] at h;cases h
 |some r=>
  rw [hf] at h
  dsimp only at h
  split at h
  ·rename_i hm
   cases h
   obtain ⟨w1,w2⟩:=ZC r (S7 hf)
   obtain ⟨a1,a2⟩:=UB hm hO 6 0 [r.word] rfl (ABM w2) (by simpa [Lib.join] using w1)
   refine ⟨?_,a2⟩
   have:=a1.jn
   have:=a1.le
   omega
  ·cases h
def Za:List UInt8:= [119,111,114,108,100]
def P9:List UInt8:= [114,111,117,116,101,114]
def cY:List UInt8:= [108,105,110,107]
def cX:List UInt8:= [100,114,111,112]
def P8:List UInt8:= [100,111,117,98,108,101]
def Vb:List UInt8:= [100,101,108,97,121]
def cZ:List UInt8:= [112,108,97,121]
def rJ:List UInt8:= [32,105,110,103,114,101,115,115]
def CY(S:BW):List UInt8:=EJ Za [] [S.W,S.A,S.T,S.L]
def DL (c:CF):List UInt8:=EJ P9 (if c.Er=true then rJ else []) [c.Self,c.Claim]
def Eg(k:AQ):List UInt8:=EJ cY [] [k.A,k.B,k.Dx]
def Hd(r:Aq):List UInt8:=if r.Kind=1 then EJ cX [] [r.C1,r.To,r.Kg]else if r.Kind=2 then EJ P8 [] [r.C1,r.To,r.Kg,r.By]else EJ Vb [] [r.C1,r.To,r.Kg,r.By]
def BA{α:Type}(f:α→List UInt8):List α→List UInt8
 | []=> []
 |a :: l=>f a ++ BA f l
theorem IL {α:Type}{f:α→List UInt8}:∀ {l:List α} {a:α},BA f (l ++ [a])=BA f l ++ f a
 | [],a=>by simp [BA]
 |b :: l,a=>by show f b ++ BA f (l ++ [a])=_;rw [IL];simp [BA,List.append_assoc]
theorem E4 {α:Type}{f:α→List UInt8}{n:Nat}:∀ {l:List α},(∀a∈l,(f a).length≤n)→(BA f l).length≤n * l.length
 | [],_=>by simp [BA]
 |a :: l,h=>by
  have h1:=h a (List.mem_cons_self ..)
  have h2:=E4 (l:=l) fun b hb=>h b (List.mem_cons_of_mem _ hb)
  show (f a ++ BA f l).length≤_
  rw [List.length_append,List.length_cons,Nat.mul_add];omega
theorem Ff{w tl:List UInt8}{ns:List Int}(h:∀n∈ns,Ev n):(EJ w tl ns).length≤w.length+22 * ns.length+tl.length+1:=by
 have:=OK h
 unfold EJ
 simp only[List.length_append,List.length_cons,List.length_nil];omega
structure tr(S:BW):Prop where
 w:Ev S.W
 a:Ev S.A
 t:Ev S.T
 l:Ev S.L
 R:∀c∈S.R,Ev c.Self∧Ev c.Claim
 K:∀c∈S.K,Ev c.A∧Ev c.B∧Ev c.Dx
 U:∀c∈S.U,Ev c.C1∧Ev c.To∧Ev c.Kg∧Ev c.Kind∧Ev c.By
theorem Ss {c:CF}(h:Ev c.Self∧Ev c.Claim):(DL c).length≤200:=by
 have:=Ff (w:=P9) (tl:=if c.Er=true then rJ else []) (ns:= [c.Self,c.Claim]) (by simp [h])
 have h2:(if c.Er=true then rJ else []).length≤8:=by split <;> decide
 have h3:P9.length=6:=rfl
 unfold DL
 simp only [List.length_cons,List.length_nil] at this ⊢;omega
theorem TK {c:AQ}(h:Ev c.A∧Ev c.B∧Ev c.Dx):(Eg c).length≤200:=by
 have:=Ff (w:=cY) (tl:= []) (ns:= [c.A,c.B,c.Dx]) (by simp [h])
 have h3:cY.length=4:=rfl
 unfold Eg
 simp only [List.length_cons,List.length_nil] at this ⊢;omega
theorem Tf {c:Aq}(h:Ev c.C1∧Ev c.To∧Ev c.Kg∧Ev c.Kind∧Ev c.By):(Hd c).length≤200:=by
 have a:=Ff (w:=cX) (tl:= []) (ns:= [c.C1,c.To,c.Kg]) (by simp [h])
 have b:=Ff (w:=P8) (tl:= []) (ns:= [c.C1,c.To,c.Kg,c.By]) (by simp [h])
 have d:=Ff (w:=Vb) (tl:= []) (ns:= [c.C1,c.To,c.Kg,c.By]) (by simp [h])
 have h3:cX.length=4:=rfl
 have h4:P8.length=6:=rfl
 have h5:Vb.length=5:=rfl
 unfold Hd
 simp only [List.length_cons,List.length_nil] at a b d
 split
 ·omega
 ·split <;> omega
def Hb(S:BW):List UInt8:=CY S ++ BA DL S.R ++ BA Eg S.K ++ BA Hd S.U ++ EJ cZ [] []
def eI:List A0→Option (List UInt8)
 | []=>some []
 |o :: l=>match Ik o with
  |none=>none
  |some s=>match eI l with
   |none=>none
   |some r=>some (EJ s [] [] ++ r)
def KU (o:A0):List UInt8:=EJ ((Ik o).getD []) [] []
theorem TW:∀ {l:List A0},(∀o∈l,(Ik o).isSome=true)→eI l=some (BA KU l)
 | [],_=>rfl
 |o :: l,h=>by
  have h1:=h o (List.mem_cons_self ..)
  unfold eI
  cases ho:Ik o with
  |none=>rw [ho] at h1;cases h1
  |some s=>rw [TW fun b hb=>h b (List.mem_cons_of_mem _ hb)];simp [BA,KU,ho]
theorem TV:∀ {l:List A0} {o:A0},o∈l→Ik o=none→eI l=none
 |x :: l,o,hm,h=>by
  unfold eI
  cases hx:Ik x with
  |none=>rfl
  |some s=>
   have:o∈l:=by
    rcases List.mem_cons.1 hm with rfl | h'
    ·rw [h] at hx;cases hx
    ·exact h'
   rw [TV this h]
def mz(S:BW)(ops:List A0):List UInt8×Int:=
 if DY S≠0 then([],DY S)else if 512 < ops.length then([],3)else match eI ops with
 |none=>([],2)
 |some r=>if 65536 < (Hb S ++ r).length then([],3)else(Hb S ++ r,0)
structure QI (hp:Hp) (v:Value) (S:BW) (ops:List A0):Prop where
 ex:∃r k u o,v= .agg ⟨Eb S r k u o⟩∧BF AU hp r S.R∧BF AP hp k S.K∧BF AO hp u S.U∧BF Aw hp o ops
 rl:S.R.length≤1000000
 kl:S.K.length≤1000000
 ul:S.U.length≤1000000
 ol:ops.length≤1000000
def XM (hp:Hp)(v:Value):BW×List A0:=(⟨intOf ((B7 v)[0]?.getD undef),intOf ((B7 v)[1]?.getD undef),intOf ((B7 v)[2]?.getD undef),intOf ((B7 v)[3]?.getD undef),AU.rd hp ((B7 v)[4]?.getD undef),AP.rd hp ((B7 v)[5]?.getD undef),AO.rd hp ((B7 v)[6]?.getD undef)⟩,Aw.rd hp ((B7 v)[7]?.getD undef))
theorem QI.d {hp:Hp}{v:Value}{S:BW}{ops:List A0}(h:QI hp v S ops):XM hp v=(S,ops):=by
 obtain ⟨r,k,u,o,rfl,h1,h2,h3,h4⟩:=h.ex
 simp [XM,Eb,B7,intOf,h1.rd,h2.rd,h3.rd,h4.rd]
def yc (x:List UInt8×Int):Value:= .tuple ⟨[.string ⟨⟨x.1⟩⟩, .int .i64 x.2]⟩
def Zz:BE:= .pure (fun args hp=>match args with | [v]=>(∃S ops,QI hp v S ops∧tr S∧∀o∈ops,GS o)∧C8 hp | _=>False) (fun args hp=>match args with | [v]=>yc (mz (XM hp v).1 (XM hp v).2) | _=>undef)
theorem jy {o:A0}(hO:GS o):(KU o).length≤8001:=by
 unfold KU
 have:=Ff (w:=(Ik o).getD []) (tl:= []) (ns:= []) (by simp)
 have h2:((Ik o).getD []).length≤8000:=by
  cases h:Ik o with
  |none=>simp
  |some s=>exact (bS hO h).1
 simp only [List.length_nil] at this;omega
end Go.Proofs.YthlhnangbinhoaaGreatDoor.Dm
