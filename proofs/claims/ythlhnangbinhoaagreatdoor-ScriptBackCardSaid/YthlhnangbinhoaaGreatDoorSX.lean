/- The line that Print writes. -/
import Derived.Test.YthlhnangbinhoaaGreatDoorCCK
set_option linter.unusedSimpArgs false
set_option linter.unusedVariables false
namespace Go.Proofs.YthlhnangbinhoaaGreatDoor.Dm
open Go.Dm
set_option maxHeartbeats 64000000
set_option maxRecDepth 20000
noncomputable def o8:FuncId→Bz:=Cx (Cx (Cx (YJ (fun _=>True) Fl) 13 (Hu (fun _=>True) Fl)) 25 TX) 27 Nf
theorem T6:BR Tryz.prog 23 (LG (fun _=>True) Fl):=gw
theorem Uq:DU Tryz.prog tt.get o8:=(((gq T6).add (ABF T6)).add ABh).add sB
theorem Yn:o8 25=TX:=rfl
theorem wx:o8 26=Ns:=rfl
def Ff:List Int→List UInt8
 | []=> []
 |n :: l=>32 :: (Lib.itoa n ++ Ff l)
theorem TJ:∀(l:List Int) (n:Int),Ff (l ++ [n])=Ff l ++ 32 :: Lib.itoa n
 | [],n=>by simp [Ff]
 |a :: l,n=>by show 32 :: (Lib.itoa a ++ Ff (l ++ [n]))=_;rw [TJ l n];simp [Ff]
def DM (w tl:List UInt8)(ns:List Int):List UInt8:=w ++ (Ff ns ++ (tl ++ [10]))
structure L9 (hp:Hp) (w tl:List UInt8) (v:Value) (i:Nat):Prop where
 ex:∃a j l q ns,EL hp i a j l∧l.length+w.length+tl.length≤140737488000000∧v=AA q ns∧(ns= []∨hp q=AE Ad ns)∧q≠i∧q≠j∧j≠1∧ns.length≤4∧∀n∈ns,IE n
def LI:Bz:= .det (fun args hp _=>match args with | [.string ⟨⟨w⟩⟩, .string ⟨⟨tl⟩⟩,v, .pointer (some ⟨i,0,none⟩)]=>L9 hp w tl v i∧w≠ []∧hp 1=some Sm∧2≤i | _=>False)
 (fun args hp top=>match args with | [w,tl,v, .pointer (some ⟨i,_,_⟩)]=>(.tuple ⟨[]⟩,YX hp i top (DM (strOf w) (strOf tl) (Ad.rd hp v)),top+1) | _=>(undef, [],top))
def wh (hp:Hp)(top i jj:Nat)(l w tl:List UInt8)(q:Nat)(ns:List Int)(k:Nat):SS:=⟨[(1, .string ⟨⟨tl⟩⟩,true),(3, .pointer (some ⟨i,0,none⟩),true),(11,AA q ns,true),(12, .int .i64 (ns.length:Int),true),(13, .int .i64 (k:Int),true)],
 hp.A6 [(jj,none),(top,G7 (l ++ (w ++ Ff (ns.take k)))),(i,CJ (.pointer (some ⟨i,0,none⟩)) (AA top (l ++ (w ++ Ff (ns.take k)))))],top+1⟩
theorem PC:∀ {l:List Int},(∀n∈l,IE n)→(Ff l).length≤22 * l.length
 | [],_=>Nat.le_refl _
 |n :: l,h=>by
  have h1:=Lib.itoa_length_le n (h n (List.mem_cons_self ..)).1 (h n (List.mem_cons_self ..)).2
  have h2:=PC fun m hm=>h m (List.mem_cons_of_mem _ hm)
  show (32 :: (Lib.itoa n ++ Ff l)).length≤_
  simp only [List.length_cons,List.length_append];omega
theorem CA {h':Hp}{i q:Nat}{T:List UInt8}(hq:q≠i)(a:h' i=CJ (.pointer (some ⟨i,0,none⟩)) (AA q T))(b:h' q=G7 T):EL h' i (.pointer (some ⟨i,0,none⟩)) q T:=⟨a, .inr rfl,b,hq⟩
theorem ABi:BR Tryz.prog 24 LI:=by
 refine .Jq Ut ?_
 intro args hp top hpre hcl hsc
 match args,hpre with
 | [.string ⟨⟨w⟩⟩, .string ⟨⟨tl⟩⟩,v, .pointer (some ⟨i,0,none⟩)],⟨⟨a,j,l,q,ns,hB,hr,hv,hq,hqi,hqj,hj1,hn,hI⟩,hw,h1,hi2⟩=>
 subst hv
 have mQ:∀ {h':Hp},(ns= []∨h' q=AE Ad ns)→BJ Ad h' (AA q ns) ns:=fun {h'} h=>by
  rcases h with h | h
  ·subst h;exact .nils
  ·exact BJ.IP h (by omega)
 have hS:BJ Ad hp (AA q ns) ns:=mQ hq
 have s1:=hS.low hcl
 have hlt:i < top:=hcl.lt _ _ hB.o
 have hp1:(∃a j l,EL hp i a j l∧l.length+w.length≤140737488355328)=True:=eq_true ⟨a,j,l,hB,by omega⟩
 have hl:=hB.MA
 have hjq0:Hh hp i top≠i∧(ns= []∨q≠Hh hp i top)∧Hh hp i top≠1:=by
  by_cases e:l= []
  ·subst e;rw [hB.TV]
   refine ⟨by omega, ?_,by omega⟩
   by_cases e2:ns= []
   ·exact .inl e2
   ·have:=s1
    cases ns with
    |nil=>exact absurd rfl e2
    |cons n ns=>exact .inr (by have:q < top:=this;omega)
  ·rw [hB.NJ e];exact ⟨hB.ne, .inr hqj,hj1⟩
 have hti:¬top=i:=by omega
 have hti1:¬top+1=i:=by omega
 have hlw:l ++ w≠ []:=by simp [hw]
 obtain ⟨hjj,hqq,hjj1⟩:=hjq0
 generalize hjq:Hh hp i top=jj at hjj hqq hjj1
 simp only [hS.rd,AU]
 refine Ae.Bn Bu Ut rfl 25 rfl [] rfl (show 4≤25 by decide) ?_
 refine CW.vc Uq [0,1,2,3,8,11,12,13,14] (by kernel_rfl) ?_
 (repeat ((try refine Vc.mk' ?_);simp (maxSteps:=6000000) only [go_sem,Yn,TX,hp1,hw,AU,YX,hl,hjq,DQ hS,Cg hS,DD hS,EB hS,ED hS,hS.P,hS.oc,hS.cl,hS.rd,hS.ref,Aj s1,AZ s1,AY s1,AX hS s1 Cq]))
 refine CW.D9 (wh hp top i jj l w tl q ns) (fun k=>k≤ns.length) (fun k=>ns.length - k) 0 (Nat.zero_le _) ?_ ?_
 ·exact (by refine Bj.mk' [top] hcl (by simp) (by simp) rfl (Ac ?_) ?_ ?_ <;> simp [Ff,AB hlt,Sc.Av (fun j hj=>AB hj) s1,Jv,Mg,Al,hlt,hti,hti1])
 ·intro k hk
  have n1:¬1=i:=by omega
  have n2:¬1=top:=by omega
  have n3:¬1=jj:=by omega
  have hT1:l ++ (w ++ Ff (ns.take k))≠ []:=by simp [hw]
  have hT2:(l ++ (w ++ Ff (ns.take k))).length+tl.length≤140737488000100:=by
   have:=PC (l:=ns.take k) (fun n hm=>hI n (List.mem_of_mem_take hm))
   rw [List.length_take] at this
   simp only [List.length_append];omega
  by_cases hlt2:k < ns.length
  ·have kk:Ar .i64 ((k:Int)+1)=((k+1:Nat):Int):=B0 hlt2 (by omega)
   have ii:((k:Int) < (ns.length:Int)):=by omega
   have hne:ns≠ []:=by intro e;rw [e] at hlt2;simp at hlt2
   have hqj2:=hqq.resolve_left hne
   have hq:=hq.resolve_left hne
   have hqt:q < top:=by
    cases ns with
    |nil=>exact absurd rfl hne
    |cons n ns=>exact s1
   have q1:¬q=i:=hqi
   have q2:¬q=top:=by omega
   have q3:¬q=jj:=hqj2
   have ix:Ak tt.get 68 (AA q ns) (.int .i64 (k:Int))=(Ag (AA q ns) (k * 1),True):=by
    have:=Cg hS (k:= .i64) (n:=(k:Int)) (by omega) (by omega)
    simpa using this
   have ld:∀ {h':Hp},h' q=AE Ad ns→BA tt.get h' 3 (Ag (AA q ns) (k * 1))=(.int .i64 (at' ns k),True):=fun e=>DD (mQ (.inr e)) hlt2
   have hI1:IE (at' ns k):=hI _ (by rw [Cb _ _ hlt2];exact List.getElem_mem hlt2)
   have hI2:=eq_true hI1
   have hil:=Lib.itoa_length_le _ hI1.1 hI1.2
   have hst:Ff (ns.take (k+1))=Ff (ns.take k) ++ 32 :: Lib.itoa (at' ns k):=by rw [DV hlt2,TJ]
   generalize hT:l ++ (w ++ Ff (ns.take k))=T at hT1 hT2
   have hpre:∀ {h':Hp},h' i=CJ (.pointer (some ⟨i,0,none⟩)) (AA top T)→h' top=G7 T→(∃a j l_1,EL h' i a j l_1∧l_1.length+((Lib.itoa (at' ns k)).length+1)≤140737488355328)=True:=fun a b=>eq_true ⟨_,_,_,CA (by omega) a b,by omega⟩
   have hbL:∀ {h':Hp},h' i=CJ (.pointer (some ⟨i,0,none⟩)) (AA top T)→h' top=G7 T→KG h' i=T:=fun a b=>(CA (by omega) a b).MA
   have hbJ:∀ {h':Hp} {t:Nat},h' i=CJ (.pointer (some ⟨i,0,none⟩)) (AA top T)→h' top=G7 T→Hh h' i t=top:=fun a b=>(CA (by omega) a b).NJ hT1
   have s5:(1+(Lib.itoa (at' ns k)).length≤4611686018427387904)=True:=eq_true (by omega)
   have s6:l ++ (w ++ Ff (ns.take (k+1)))=T ++ 32 :: Lib.itoa (at' ns k):=by rw [hst,←hT];simp [List.append_assoc]
   refine CW.vc Uq [0,1,2,3,8,11,12,13,14] (by kernel_rfl) ?_
   (repeat ((try refine Vc.mk' ?_);simp (maxSteps:=6000000) only [go_sem,wh,hT,Yn,TX,wx,Ns,AU,intOf_int,YX,ii,ix,ld,q1,q2,q3,hq,hI2,hti,n1,n2,n3,h1,s5,hpre,hbL,hbJ,kk]))
   refine .mk (k+1) hlt2 (by omega) ((by refine Bj.mk' [top+1] hcl (by simp) (by simp) rfl (Ac ?_) ?_ ?_ <;> simp [s6,AB hlt,Sc.Av (fun j hj=>AB hj) s1,Jv,Mg,Al,hlt,hti,hti1]))
  ·have hk2:k=ns.length:=by omega
   subst hk2
   have ii:¬((ns.length:Int) < (ns.length:Int)):=by omega
   rw [List.take_length] at hT1 hT2
   generalize hT:l ++ (w ++ Ff ns)=T at hT1 hT2
   have hpre:∀ {h':Hp},h' i=CJ (.pointer (some ⟨i,0,none⟩)) (AA top T)→h' top=G7 T→(∃a j l_1,EL h' i a j l_1∧l_1.length+(tl ++ [10]).length≤140737488355328)=True:=fun a b=>eq_true ⟨_,_,_,CA (by omega) a b,by simp only [List.length_append,List.length_cons,List.length_nil];omega⟩
   have hbL:∀ {h':Hp},h' i=CJ (.pointer (some ⟨i,0,none⟩)) (AA top T)→h' top=G7 T→KG h' i=T:=fun a b=>(CA (by omega) a b).MA
   have hbJ:∀ {h':Hp} {t:Nat},h' i=CJ (.pointer (some ⟨i,0,none⟩)) (AA top T)→h' top=G7 T→Hh h' i t=top:=fun a b=>(CA (by omega) a b).NJ hT1
   have s5:(tl.length≤4611686018427387903)=True:=eq_true (by omega)
   have s6:(tl ++ [10] = [])=False:=by simp
   have hq2:l ++ DM w tl ns=T ++ (tl ++ [10]):=by rw [←hT];simp [DM,List.append_assoc]
   refine CW.vc Uq [0,1,2,3,8,11,12,13,14] (by kernel_rfl) ?_
   (repeat ((try refine Vc.mk' ?_);simp (maxSteps:=6000000) only [go_sem,wh,List.take_length,hT,Yn,TX,AU,YX,ii,decide_false,hti,s5,s6,hpre,hbL,hbJ,hq2]))
   (refine ⟨[top+1],by simp,by simp,by simp, ?_, ?_, ?_⟩ <;> simp [AB hlt,Jv,Mg,Al,hlt,hti,hti1])
end Go.Proofs.YthlhnangbinhoaaGreatDoor.Dm
set_option linter.unusedSimpArgs false
set_option linter.unusedVariables false
namespace Go.Proofs.YthlhnangbinhoaaGreatDoor.Dm
open Go.Dm
set_option maxHeartbeats 64000000
set_option maxRecDepth 20000
theorem PT {k:Int}{r:GI}:∀ {l:List GI},Ib k l=some r→r∈l
 | [],h=>by cases h
 |x :: l,h=>by
  unfold Ib at h
  split at h
  ·cases h;exact List.mem_cons_self ..
  ·exact List.mem_cons_of_mem _ (PT h)
theorem RE:∀r∈B6,r.word≠ []∧r.word.length≤6:=by decide
theorem eF {o:Aq}{F:Int}(hm:Dr o F=true)(hO:Gy o){j:Nat}(hj:j < 6)(hh:Au F (p2 j)=true):(DY j o).length≤1024:=by
 have hcase:j=0∨j=1∨j=2∨j=3∨j=4∨j=5:=by omega
 rcases hcase with rfl | rfl | rfl | rfl | rfl | rfl
 ·exact JZ hO.r
 ·exact JZ hO.p
 ·exact JZ hO.g
 ·exact JZ ⟨by have:=hO.e0;omega,by have:=hO.e1;omega⟩
 ·exact bC (fJ hm hh)
 ·exact JZ hO.t
theorem Un {o:Aq}{F:Int}(hm:Dr o F=true)(hO:Gy o):∀(n j:Nat) (ws:Ld),j+n=6→nM j ws→Lib.join ws [32]≠ []→nM 6 (DN F o n j ws)∧Lib.join (DN F o n j ws) [32]≠ []
 |0,j,ws,h,h1,h2=>by
  have:j=6:=by omega
  subst this;exact ⟨h1,h2⟩
 |n+1,j,ws,h,h1,h2=>by
  unfold DN
  by_cases hh:Au F (p2 j)=true
  ·rw [if_pos hh]
   refine Un hm hO n (j+1) _ (by omega) (h1.app (eF hm hO (by omega) hh)) ?_
   rw [PN,if_neg (by have:=h1.one;omega)]
   simp
  ·rw [if_neg hh]
   exact Un hm hO n (j+1) _ (by omega) h1.stay h2
theorem Nq {o:Aq}{s:List UInt8}(hO:Gy o)(h:LH o=some s):s.length≤8000∧s≠ []:=by
 unfold LH at h
 cases hf:Ib o.Kind B6 with
 |none=>rw [hf] at h;cases h
 |some r=>
  rw [hf] at h
  dsimp only at h
  split at h
  ·rename_i hm
   cases h
   obtain ⟨w1,w2⟩:=RE r (PT hf)
   obtain ⟨a1,a2⟩:=Un hm hO 6 0 [r.word] rfl (AAb w2) (by simpa [Lib.join] using w1)
   refine ⟨?_,a2⟩
   have:=a1.jn
   have:=a1.le
   omega
  ·cases h
def Zq:List UInt8:= [119,111,114,108,100]
def H4:List UInt8:= [114,111,117,116,101,114]
def Ni:List UInt8:= [108,105,110,107]
def N2:List UInt8:= [100,114,111,112]
def H8:List UInt8:= [100,111,117,98,108,101]
def K3:List UInt8:= [100,101,108,97,121]
def br:List UInt8:= [112,108,97,121]
def Us:List UInt8:= [32,105,110,103,114,101,115,115]
def Cr (S:CR):List UInt8:=DM Zq [] [S.W,S.A,S.T,S.L]
def De (c:CI):List UInt8:=DM H4 (if c.F6=true then Us else []) [c.Self,c.Claim]
def Fh (k:Ap):List UInt8:=DM Ni [] [k.A,k.B,k.Er]
def Gl (r:BX):List UInt8:=if r.Kind=1 then DM N2 [] [r.C9,r.To,r.KM] else if r.Kind=2 then DM H8 [] [r.C9,r.To,r.KM,r.By] else DM K3 [] [r.C9,r.To,r.KM,r.By]
def A1 {α:Type}(f:α→List UInt8):List α→List UInt8
 | []=> []
 |a :: l=>f a ++ A1 f l
theorem GR {α:Type}{f:α→List UInt8}:∀ {l:List α} {a:α},A1 f (l ++ [a])=A1 f l ++ f a
 | [],a=>by simp [A1]
 |b :: l,a=>by show f b ++ A1 f (l ++ [a])=_;rw [GR];simp [A1,List.append_assoc]
theorem FZ {α:Type}{f:α→List UInt8}{n:Nat}:∀ {l:List α},(∀a∈l,(f a).length≤n)→(A1 f l).length≤n * l.length
 | [],_=>by simp [A1]
 |a :: l,h=>by
  have h1:=h a (List.mem_cons_self ..)
  have h2:=FZ (l:=l) fun b hb=>h b (List.mem_cons_of_mem _ hb)
  show (f a ++ A1 f l).length≤_
  rw [List.length_append,List.length_cons,Nat.mul_add];omega
theorem GJ {w tl:List UInt8}{ns:List Int}(h:∀n∈ns,IE n):(DM w tl ns).length≤w.length+22 * ns.length+tl.length+1:=by
 have:=PC h
 unfold DM
 simp only [List.length_append,List.length_cons,List.length_nil];omega
structure rG (S:CR):Prop where
 w:IE S.W
 a:IE S.A
 t:IE S.T
 l:IE S.L
 R:∀c∈S.R,IE c.Self∧IE c.Claim
 K:∀c∈S.K,IE c.A∧IE c.B∧IE c.Er
 U:∀c∈S.U,IE c.C9∧IE c.To∧IE c.KM∧IE c.Kind∧IE c.By
theorem Th {c:CI}(h:IE c.Self∧IE c.Claim):(De c).length≤200:=by
 have:=GJ (w:=H4) (tl:=if c.F6=true then Us else []) (ns:= [c.Self,c.Claim]) (by simp [h])
 have h2:(if c.F6=true then Us else []).length≤8:=by split <;> decide
 have h3:H4.length=6:=rfl
 unfold De
 simp only [List.length_cons,List.length_nil] at this ⊢;omega
theorem TC {c:Ap}(h:IE c.A∧IE c.B∧IE c.Er):(Fh c).length≤200:=by
 have:=GJ (w:=Ni) (tl:= []) (ns:= [c.A,c.B,c.Er]) (by simp [h])
 have h3:Ni.length=4:=rfl
 unfold Fh
 simp only [List.length_cons,List.length_nil] at this ⊢;omega
theorem UA {c:BX}(h:IE c.C9∧IE c.To∧IE c.KM∧IE c.Kind∧IE c.By):(Gl c).length≤200:=by
 have a:=GJ (w:=N2) (tl:= []) (ns:= [c.C9,c.To,c.KM]) (by simp [h])
 have b:=GJ (w:=H8) (tl:= []) (ns:= [c.C9,c.To,c.KM,c.By]) (by simp [h])
 have d:=GJ (w:=K3) (tl:= []) (ns:= [c.C9,c.To,c.KM,c.By]) (by simp [h])
 have h3:N2.length=4:=rfl
 have h4:H8.length=6:=rfl
 have h5:K3.length=5:=rfl
 unfold Gl
 simp only [List.length_cons,List.length_nil] at a b d
 split
 ·omega
 ·split <;> omega
def Io (S:CR):List UInt8:=Cr S ++ A1 De S.R ++ A1 Fh S.K ++ A1 Gl S.U ++ DM br [] []
def dI:List Aq→Option (List UInt8)
 | []=>some []
 |o :: l=>match LH o with
  |none=>none
  |some s=>match dI l with
   |none=>none
   |some r=>some (DM s [] [] ++ r)
def DL (o:Aq):List UInt8:=DM ((LH o).getD []) [] []
theorem Od:∀ {l:List Aq},(∀o∈l,(LH o).isSome=true)→dI l=some (A1 DL l)
 | [],_=>rfl
 |o :: l,h=>by
  have h1:=h o (List.mem_cons_self ..)
  unfold dI
  cases ho:LH o with
  |none=>rw [ho] at h1;cases h1
  |some s=>rw [Od fun b hb=>h b (List.mem_cons_of_mem _ hb)];simp [A1,DL,ho]
theorem Tn:∀ {l:List Aq} {o:Aq},o∈l→LH o=none→dI l=none
 |x :: l,o,hm,h=>by
  unfold dI
  cases hx:LH x with
  |none=>rfl
  |some s=>
   have:o∈l:=by
    rcases List.mem_cons.1 hm with rfl | h'
    ·rw [h] at hx;cases hx
    ·exact h'
   rw [Tn this h]
def e9 (S:CR)(ops:List Aq):List UInt8×Int:=
 if Fl S≠0 then ([],Fl S) else if 512 < ops.length then ([],3) else match dI ops with
 |none=>([],2)
 |some r=>if 65536 < (Io S ++ r).length then ([],3) else (Io S ++ r,0)
structure Zs (hp:Hp) (v:Value) (S:CR) (ops:List Aq):Prop where
 ex:∃r k u o,v= .agg ⟨Z0 S r k u o⟩∧BJ AL hp r S.R∧BJ Af hp k S.K∧BJ AJ hp u S.U∧BJ A7 hp o ops
 rl:S.R.length≤1000000
 kl:S.K.length≤1000000
 ul:S.U.length≤1000000
 ol:ops.length≤1000000
def Tm (hp:Hp)(v:Value):CR×List Aq:=(⟨intOf ((Cm v)[0]?.getD undef),intOf ((Cm v)[1]?.getD undef),intOf ((Cm v)[2]?.getD undef),intOf ((Cm v)[3]?.getD undef),AL.rd hp ((Cm v)[4]?.getD undef),Af.rd hp ((Cm v)[5]?.getD undef),AJ.rd hp ((Cm v)[6]?.getD undef)⟩,A7.rd hp ((Cm v)[7]?.getD undef))
theorem Zs.d {hp:Hp}{v:Value}{S:CR}{ops:List Aq}(h:Zs hp v S ops):Tm hp v=(S,ops):=by
 obtain ⟨r,k,u,o,rfl,h1,h2,h3,h4⟩:=h.ex
 simp [Tm,Z0,Cm,intOf,h1.rd,h2.rd,h3.rd,h4.rd]
def tJ (x:List UInt8×Int):Value:= .tuple ⟨[.string ⟨⟨x.1⟩⟩, .int .i64 x.2]⟩
def Nx:Bz:= .pure (fun args hp=>match args with | [v]=>(∃S ops,Zs hp v S ops∧rG S∧∀o∈ops,Gy o)∧Cp hp | _=>False) (fun args hp=>match args with | [v]=>tJ (e9 (Tm hp v).1 (Tm hp v).2) | _=>undef)
theorem fP {o:Aq}(hO:Gy o):(DL o).length≤8001:=by
 unfold DL
 have:=GJ (w:=(LH o).getD []) (tl:= []) (ns:= []) (by simp)
 have h2:((LH o).getD []).length≤8000:=by
  cases h:LH o with
  |none=>simp
  |some s=>exact (Nq hO h).1
 simp only [List.length_nil] at this;omega
end Go.Proofs.YthlhnangbinhoaaGreatDoor.Dm
