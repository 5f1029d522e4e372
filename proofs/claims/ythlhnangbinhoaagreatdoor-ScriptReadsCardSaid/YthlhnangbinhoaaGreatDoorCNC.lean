/- The document's net of a setup, walked. -/
import Derived.Test.YthlhnangbinhoaaGreatDoorCWD
set_option linter.unusedVariables false
namespace Go.Proofs.YthlhnangbinhoaaGreatDoor.Dm
open Go.Dm
set_option maxHeartbeats 16000000
set_option maxRecDepth 20000
theorem OI {κ β:Type}[DecidableEq κ] :∀ {m:List (κ×β×Nat)} {k k':κ} {v:β} {c:Nat},GH (KO m k v c) k' = if k' = k then some v else GH m k'
 | [],k,k',v,c=>by
  unfold KO
  simp only [GH]
 |x :: m,k,k',v,c=>by
  unfold KO
  by_cases e:k=x.1
  ·rw [if_pos e]
   simp only [GH]
   by_cases e2:k' = k
   ·rw [if_pos e2,if_pos e2]
   ·rw [if_neg e2,if_neg e2,if_neg (fun e3=>e2 (e3.trans e.symm))]
  ·rw [if_neg e]
   simp only [GH]
   rw [OI (m:=m)]
   by_cases e2:k' = k
   ·rw [if_pos e2,if_pos e2,if_neg (fun e3=>e (e2.symm.trans e3))]
   ·rw [if_neg e2,if_neg e2]
theorem Rc{a b:Aq}:Hq a b=true ↔ Fa.PW a=Fa.PW b:=by simp[Hq,Fa.PW]
theorem Wn:∀(l done:List Aq) (k:Nat) (m:Fa.R9),(∀r,(GH m (Fa.PW r)).isSome=done.any (Hq · r))→
  (match Fa.mq l k m with | .error (i,e)=>(i,e) | .ok _=>((0:Nat),(0:Int)))=Wm done l k
 | [],_,_,_,_=>rfl
 |r :: l,done,k,m,h=>by
  unfold Fa.mq Wm
  by_cases h1:Fa.CX r=false
  ·rw [if_pos h1,if_pos h1]
  ·rw [if_neg h1,if_neg h1,h r]
   by_cases h2:done.any (Hq · r)=true
   ·rw [if_pos h2,if_pos h2]
   ·rw [if_neg h2,if_neg h2]
    refine Wn l (done ++ [r]) (k+1) _ ?_
    intro a
    rw [OI,List.any_append,←h a]
    by_cases e:Fa.PW a=Fa.PW r
    ·rw [if_pos e]
     have:Hq r a=true:=Rc.2 e.symm
     simp [this]
    ·rw [if_neg e]
     have:Hq r a=false:=by
      cases hs:Hq r a with
      |false=>rfl
      |true=>exact absurd (Rc.1 hs).symm e
     simp [this]
theorem RM (l:List Aq):(match Fa.FK l with | .error (i,e)=>(i,e) | .ok _=>((0:Nat),(0:Int)))=Fg l:=by
 unfold Fa.FK Fg
 by_cases h:64 < l.length
 ·rw [if_pos h,if_pos h]
 ·rw [if_neg h,if_neg h]
  exact Wn l [] 0 [] (fun r=>rfl)
theorem kE{l:List Aq}{p:Nat×Int}(h:Fa.FK l= .error p):(Fg l).2=p.2:=by
 have:=RM l
 rw[h]at this
 rw[←this]
theorem pq{l:List Aq}{m:Fa.R9}(h:Fa.FK l= .ok m):(Fg l).2=0:=by
 have:=RM l
 rw[h]at this
 rw[←this]
theorem pJ (R:List Int)(l:List AQ)(rl:List Aq)(late:Int)(rv lv uv:Value) :
  (HB R l rl late≠0∧∀top,TO rv lv uv R l rl late top=(.tuple ⟨[.pointer none, .int .i64 (HB R l rl late)]⟩, [],top))∨
  (HB R l rl late=0∧∀top,TO rv lv uv R l rl late top=(.tuple ⟨[.pointer (some ⟨top,0,none⟩), .int .i64 0]⟩, [(top,Tb ⟨rv,lv,uv,top+1, .slice none 0 0⟩ (eP R l rl late)),(top+1,yT (List.replicate l.length false))],top+2)):=by
 unfold TO HB
 by_cases c1:Gr.Ee R l=0
 ·rw [if_neg (by simp [c1])]
  by_cases c2:late < 1∨64 < late
  ·left
   rw [if_pos c2]
   exact ⟨by decide,fun top=>by rw [if_neg (by simp [c1]),if_pos c2]⟩
  ·rw [if_neg c2]
   cases hx:Fa.FK rl with
   |error p=>
    have e:=kE hx
    have hp:=Fa.Kz hx
    refine .inl ⟨hp,fun top=> ?_⟩
    rw [if_neg (by simp [c1]),if_neg c2,if_pos (by rw [e];exact hp),e]
   |ok m=>
    have e:=pq hx
    refine .inr ⟨rfl,fun top=> ?_⟩
    rw [if_neg (by simp [c1]),if_neg c2,if_neg (by simp [e])]
 ·left
  rw [if_pos c1]
  exact ⟨c1,fun top=>by rw [if_pos c1]⟩
noncomputable def RC (k u:Value)(S:BW)(top:Nat):Value×A6×Nat:=
 if HB (BM S.R) S.K S.U S.L=0 then (.tuple ⟨[.pointer (some ⟨top,0,none⟩), .int .i64 0]⟩, [(top,Tb ⟨AA (top+2) (BM S.R),k,u,top+1, .slice none 0 0⟩ (eP (BM S.R) S.K S.U S.L)),(top+1,yT (List.replicate S.K.length false)),(top+2,AD AL (BM S.R))],top+3)
 else (.tuple ⟨[.pointer none, .int .i64 (HB (BM S.R) S.K S.U S.L)]⟩, [],top)
noncomputable def Md:BE:= .det (fun args hp _=>match args with | [v]=> ∃S,H5 hp v S | _=>False) (fun args hp top=>match args with | [v]=>RC ((B7 v)[5]?.getD undef) ((B7 v)[6]?.getD undef) (GP hp v) top | _=>(undef, [],top))
def qc (hp:Hp)(top:Nat)(S:BW)(r k u:Value)(i:Nat):SS:=⟨[(1, .pointer (some ⟨top,0,none⟩),true),(4,AA (top+1) (BM (S.R.take i)),true),(5, .int .i64 (i:Int),true)],hp.Ac [(top,BO S r k u),(top+1,AD AL (BM (S.R.take i)))],top+2⟩
theorem pI:Ag Tryz.prog 70 Md:=by
 refine .Eh au ?_
 intro args hp top hpre hcl hsc
 match args,hpre with
 | [v],⟨S,hS⟩=>
 have hd:=hS.d
 obtain ⟨r,k,u,rfl,h1,h2,h3⟩:=hS.ex
 have l1:=hS.rl
 have s1:=h1.low hcl
 have s2:=h2.low hcl
 have s3:=h3.low hcl
 simp only [hd]
 refine AJ.Af Am au rfl 32 rfl [.tmp 2, .tmp 3] rfl (show 1≤32 by decide) ?_
 refine CW.vc S6 [0,1,2,3,4,5,10] (by kernel_rfl) ?_
 (repeat ((try refine Vc.mk' ?_);simp (maxSteps:=6000000) only [go_sem]))
 refine CW.Bc (qc hp top S r k u) (fun i=>i≤S.R.length) (fun i=>S.R.length - i) 0 (Nat.zero_le _) ?_ ?_
 ·exact (by refine Al.mk' [top,top+1] hcl (by simp) (by simp) rfl (AF ?_) ?_ ?_ <;> simp [Sc.Ao (fun j hj=>AE hj) s1,DD,Dp,BO,BM,Sc.Ao (fun j hj=>AE hj) s2,Sc.Ao (fun j hj=>AE hj) s3])
 ·intro i hi
  by_cases hlt:i < S.R.length
  ·have ii:((i:Int) < (S.R.length:Int)):=by omega
   have kk:Ad .i64 ((i:Int)+1)=((i+1:Nat):Int):=Ae hlt (by omega)
   have hap:∀ {h':Hp} {q t:Nat},h' (top+1)=AD AL (BM (S.R.take i))→h' q=some (.cells true 1 [.int .i64 (at' S.R i).Self])→AK tt.get h' t [68,68] (AA (top+1) (BM (S.R.take i))) (.slice (some ⟨q,0,none⟩) 1 1)=some (AA t (BM (S.R.take (i+1))),Bu (top+1) (BM (S.R.take i)) t (AD AL (BM (S.R.take (i+1)))),t+1):=fun {h'} {q} {t} a1 a2=>by
    have e3:cellsOf (h' q)=AL.enc (at' S.R i).Self:=by rw [a2];rfl
    have hl:(BM (S.R.take i)).length≤1000000:=by unfold BM;rw [List.length_map,List.length_take];omega
    have:=IA (hp:=h') (b:=top+1) (top:=t) (k:=q) a1 (by rw [e3];exact a2) (by rw [e3,AL.h]) (CO (by omega) (by decide))
    rwa [e3,AL.h,←XN hlt] at this
   refine CW.vc S6 [0,1,2,3,4,5,10] (by kernel_rfl) ?_
   (repeat ((try refine Vc.mk' ?_);simp (maxSteps:=6000000) only [go_sem,qc,BO,ii,hlt,CS h1,DA h1,JI h1,JH h1,Ab s1,hap,kk]))
   refine .mk (i+1) hlt (by omega) ((by refine Al.mk' [top,top+3] hcl (by simp) (by simp) rfl (AF ?_) ?_ ?_ <;> simp [Sc.Ao (fun j hj=>AE hj) s1,BO,Sc.Ao (fun j hj=>AE hj) s2,Sc.Ao (fun j hj=>AE hj) s3]))
  ·have hk2:i=S.R.length:=by omega
   subst hk2
   have kR:∀ {h':Hp},h' (top+1)=AD AL (BM S.R)→Dy AL h' (AA (top+1) (BM S.R))=True:=fun {h'} e=>eq_true ⟨BM S.R,BF.DK e (by unfold BM;rw [List.length_map];omega)⟩
   have rR:∀ {h':Hp},h' (top+1)=AD AL (BM S.R)→AL.rd h' (AA (top+1) (BM S.R))=BM S.R:=fun {h'} e=>KV e (by unfold BM;rw [List.length_map];omega)
   have k2:∀ {h':Hp},BK top [] h' hp→Dy AP h' k=True:=fun {h'} hk=>(h2.Ax s2 hk).P
   have k3:∀ {h':Hp},BK top [] h' hp→Dy AO h' u=True:=fun {h'} hk=>(h3.Ax s3 hk).P
   have r2:∀ {h':Hp},BK top [] h' hp→AP.rd h' k=S.K:=fun {h'} hk=>(h2.Ax s2 hk).rd
   have r3:∀ {h':Hp},BK top [] h' hp→AO.rd h' u=S.U:=fun {h'} hk=>(h3.Ax s3 hk).rd
   rcases pJ (BM S.R) S.K S.U S.L (AA (top+1) (BM S.R)) k u with ⟨c1,c2⟩ | ⟨c1,c2⟩
   ·unfold RC
    rw [if_neg c1]
    refine CW.vc S6 [0,1,2,3,4,5,10] (by kernel_rfl) ?_
    (repeat ((try refine Vc.mk' ?_);simp (maxSteps:=6000000) only [go_sem,qc,BO,Int.lt_irrefl,decide_false,sD,Mf,List.take_length,kR,rR,k2,k3,r2,r3,c2,intOf_int,CS h1]))
    (refine ⟨[],by simp,by simp,by simp, ?_, ?_, ?_⟩ <;> simp [])
   ·unfold RC
    rw [if_pos c1]
    refine CW.vc S6 [0,1,2,3,4,5,10] (by kernel_rfl) ?_
    (repeat ((try refine Vc.mk' ?_);simp (maxSteps:=6000000) only [go_sem,qc,BO,Int.lt_irrefl,decide_false,sD,Mf,List.take_length,kR,rR,k2,k3,r2,r3,c2,intOf_int,Tb,eP,yT,CS h1]))
    (refine ⟨[top+2,top+3,top+1],by simp,by simp,by simp, ?_, ?_, ?_⟩ <;> simp [Tc,icV,List.length_replicate,Sc.Ao (fun j hj=>AE hj) s2,Sc.Ao (fun j hj=>AE hj) s3])
end Go.Proofs.YthlhnangbinhoaaGreatDoor.Dm
set_option linter.unusedVariables false
namespace Go.Proofs.YthlhnangbinhoaaGreatDoor.Dm
open Go.Dm
set_option maxHeartbeats 16000000
set_option maxRecDepth 20000
def cg(x:mf)(n:Int):Int:=(GH x.1 n).getD default
theorem UG {x:mf}{a n:Int}:cg (bump x a) n=if n=a then Ad .i64 (cg x a+1) else cg x n:=by
 unfold cg bump
 dsimp only
 rw [OI]
 split
 ·rfl
 ·rfl
def Nh (K:List AQ)(n:Int):Nat:=K.countP fun l=>decide (l.A=n) || decide (l.B=n)
theorem WM {l:AQ}{ls:List AQ}{n:Int}:Nh (l :: ls) n=Nh ls n+if n=l.A∨n=l.B then 1 else 0:=by
 unfold Nh
 rw [List.countP_cons]
 congr 1
 by_cases h:n=l.A∨n=l.B
 ·rw [if_pos h,if_pos]
  rcases h with h | h <;> simp [h]
 ·rw [if_neg h,if_neg]
  simp only [Bool.or_eq_true,decide_eq_true_eq]
  rintro (h1 | h1)
  ·exact h (.inl h1.symm)
  ·exact h (.inr h1.symm)
theorem Zm:∀(ls:List AQ) (x:mf),(∀n,0≤cg x n∧cg x n≤16)→(∀l∈ls,l.A≠l.B)→((∃n,(16:Int) < cg x n+(Nh ls n:Int))∧MW x ls=3)∨((∀n,cg x n+(Nh ls n:Int)≤16)∧MW x ls=0)
 | [],x,hx,_=> .inr ⟨fun n=>by have:=hx n;show cg x n+((0:Nat):Int)≤16;omega,rfl⟩
 |l :: ls,x,hx,hl=>by
  have hab:=hl l (List.mem_cons_self ..)
  have h2:∀n,cg (Ed x l) n=cg x n+if n=l.A∨n=l.B then 1 else 0:=fun n=>by
   have ha:=hx l.A
   have hb:=hx l.B
   have eB:cg (bump x l.A) l.B=cg x l.B:=by rw [UG,if_neg (fun h=>hab h.symm)]
   unfold Ed
   rw [UG,eB,UG,wrap64 (by omega) (by omega),wrap64 (by omega) (by omega)]
   by_cases e1:n=l.B
   ·rw [if_pos e1,if_pos (.inr e1),e1]
   ·rw [if_neg e1]
    by_cases e2:n=l.A
    ·rw [if_pos e2,if_pos (.inl e2),e2]
    ·rw [if_neg e2,if_neg (by rintro (h | h);exact e2 h;exact e1 h)];omega
  have hs:∀n,cg x n+(Nh (l :: ls) n:Int)=cg (Ed x l) n+(Nh ls n:Int):=fun n=>by
   rw [h2,WM]
   split <;> simp <;> omega
  unfold MW
  cases hf:Mz (Ed x l) l with
  |true=>
   rw [if_pos rfl]
   refine .inl ⟨?_,rfl⟩
   unfold Mz at hf
   rcases Bool.or_eq_true_iff.1 hf with h | h
   ·exact ⟨l.A,by rw [hs];have h:16 < cg (Ed x l) l.A:=of_decide_eq_true h;omega⟩
   ·exact ⟨l.B,by rw [hs];have h:16 < cg (Ed x l) l.B:=of_decide_eq_true h;omega⟩
  |false=>
   rw [if_neg (by simp)]
   have hf2:cg (Ed x l) l.A≤16∧cg (Ed x l) l.B≤16:=by
    unfold Mz at hf
    have:=Bool.or_eq_false_iff.1 hf
    exact ⟨Int.not_lt.1 (of_decide_eq_false this.1),Int.not_lt.1 (of_decide_eq_false this.2)⟩
   have hx2:∀n,0≤cg (Ed x l) n∧cg (Ed x l) n≤16:=fun n=>by
    have h0:=hx n
    have e:=h2 n
    by_cases c:n=l.A∨n=l.B
    ·rw [if_pos c] at e
     refine ⟨by omega, ?_⟩
     rcases c with c | c
     ·rw [c];exact hf2.1
     ·rw [c];exact hf2.2
    ·rw [if_neg c] at e
     omega
   rcases Zm ls (Ed x l) hx2 (fun y hy=>hl y (List.mem_cons_of_mem _ hy)) with ⟨⟨n,hn⟩,h⟩ | ⟨hn,h⟩
   ·exact .inl ⟨⟨n,by rw [hs];exact hn⟩,h⟩
   ·exact .inr ⟨fun n=>by rw [hs];exact hn n,h⟩
theorem RD {R:List Int}{l:List AQ}{rl:List Aq}{late:Int}(h:HB R l rl late=0):l.length≤48∧∀x∈l,x.A≠x.B∧x.A∈R∧x.B∈R:=by
 unfold HB at h
 split at h
 ·rename_i h1;exact absurd h h1
 ·rename_i h1
  have h1:Gr.Ee R l=0:=by simpa using h1
  obtain ⟨_,h2,h3⟩:=Gr.Qs h1
  refine ⟨h2,fun x hx=> ?_⟩
  have:=((Gr.Um l [] h3).1 x hx).1
  unfold Gr.Cc at this
  simp [Gr.JX] at this
  exact ⟨this.1.1.1,this.1.1.2,this.1.2⟩
def cu (R:List Int)(K:List AQ):Int:=if R.any (fun n=>decide (16 < Nh K n))=true then 3 else 0
theorem tw {R:List Int}{l:List AQ}{rl:List Aq}{late:Int}(h:HB R l rl late=0):MW ([],0) l=cu R l:=by
 obtain ⟨_,hl⟩:=RD h
 have hz:∀n,cg ([],0) n=0:=fun n=>rfl
 rcases Zm l ([],0) (fun n=>by rw [hz];decide) (fun x hx=>(hl x hx).1) with ⟨⟨n,hn⟩,e⟩ | ⟨hn,e⟩
 ·rw [hz] at hn
  rw [e]
  unfold cu
  rw [if_pos]
  rw [List.any_eq_true]
  have hd:0 < Nh l n:=by omega
  obtain ⟨x,hx,hp⟩:=List.countP_pos_iff.1 hd
  refine ⟨n, ?_,decide_eq_true (by omega)⟩
  rcases Bool.or_eq_true_iff.1 hp with h | h
  ·rw [←of_decide_eq_true h];exact (hl x hx).2.1
  ·rw [←of_decide_eq_true h];exact (hl x hx).2.2
 ·rw [e]
  unfold cu
  rw [if_neg]
  rw [List.any_eq_true]
  rintro ⟨n,_,h⟩
  have:=hn n
  rw [hz] at this
  have:=of_decide_eq_true h
  omega
end Go.Proofs.YthlhnangbinhoaaGreatDoor.Dm
set_option linter.unusedVariables false
namespace Go.Proofs.YthlhnangbinhoaaGreatDoor.Dm
open Go.Dm
set_option maxHeartbeats 64000000
set_option maxRecDepth 20000
noncomputable def GW2:FuncId→BE:=BV (BV (BV GW1 68 Fm) 70 Md) 69 (Hn fun n=>GC n 1 24)
theorem IJ:Bp Tryz.prog tt.get GW2:=((S6.add mP).add pI).add kW
theorem sG:GW2 68=Fm:=rfl
theorem sE:GW2 70=Md:=rfl
theorem sF:GW2 69=Hn fun n=>GC n 1 24:=rfl
theorem uJ (c:CF):(!GC c.Self 1 24 || decide (c.Claim < 0) || decide (1024 < c.Claim))=Nu c:=by
 unfold Nu GC
 have e1:(!(decide (1≤c.Self) && decide (c.Self≤24)))=(decide (c.Self < 1) || decide (24 < c.Self)):=by
  rw [Bool.eq_iff_iff];simp
 rw [e1]
def kz (hp:Hp)(top:Nat)(S:BW)(r k u:Value)(i:Nat):SS:=⟨[(1, .pointer (some ⟨top,0,none⟩),true),(3, .int .i64 (i:Int),true)],hp.Ac [(top,BO S r k u)],top+1⟩
def wq (hp:Hp)(top:Nat)(S:BW)(r k u:Value)(i:Nat):SS:=⟨[(1, .pointer (some ⟨top,0,none⟩),true),(7, .int .i64 (i:Int),true)],hp.Ac [(top,BO S r k u)],top+1⟩
def fI (hp:Hp)(top:Nat)(S:BW)(r k u:Value)(i:Nat)(j:Nat):SS:=⟨[(1, .pointer (some ⟨top,0,none⟩),true),(7, .int .i64 (i:Int),true),(8, .int .i64 (Nh (S.K.take j) (at' S.R i).Self:Int),true),(9, .int .i64 (j:Int),true)],hp.Ac [(top,BO S r k u)],top+1⟩
theorem hJ {K:List AQ}{j:Nat}{n:Int}(h:j < K.length):Nh (K.take (j+1)) n=Nh (K.take j) n+if n=(at' K j).A∨n=(at' K j).B then 1 else 0:=by
 have e:Nh (K.take (j+1)) n=Nh (K.take j) n+Nh [at' K j] n:=by unfold Nh;rw [Bj h,List.countP_append]
 rw [e,WM]
 congr 1
 exact Nat.zero_add _
theorem ua{K:List AQ}{n:Int}:Nh K n≤K.length:=List.countP_le_length
theorem dG:Ag Tryz.prog 29 (GM (fun _=>True) DY):=by
 refine .EK aM (fun args hp h=> ?_) ?_
 ·match args,h with
  | [v],_=>rfl
 intro args hp hpre top hcl hsc
 match args,hpre with
 | [v],⟨⟨S,hS,_⟩,hv⟩=>
 have hd:=hS.d
 have hSv:=hS
 obtain ⟨r,k,u,rfl,h1,h2,h3⟩:=hS.ex
 have l1:=hS.rl
 have l2:=hS.kl
 have s1:=h1.low hcl
 have s2:=h2.low hcl
 have s3:=h3.low hcl
 simp only [hd]
 have kS:∀ {h':Hp},BK top [] h' hp→(∃S',H5 h' (.agg ⟨[.int .i64 S.W, .int .i64 S.A, .int .i64 S.T, .int .i64 S.L,r,k,u]⟩) S')=True:=fun {h'} hk=>eq_true ⟨S,⟨r,k,u,rfl,h1.Ax s1 hk,h2.Ax s2 hk,h3.Ax s3 hk⟩,hSv.rl,hSv.kl,hSv.ul⟩
 have kD:∀ {h':Hp},BK top [] h' hp→GP h' (.agg ⟨[.int .i64 S.W, .int .i64 S.A, .int .i64 S.T, .int .i64 S.L,r,k,u]⟩)=S:=fun {h'} hk=>H5.d ⟨⟨r,k,u,rfl,h1.Ax s1 hk,h2.Ax s2 hk,h3.Ax s3 hk⟩,hSv.rl,hSv.kl,hSv.ul⟩
 refine AJ.Af Am aM rfl 114 rfl [.tmp 2] rfl (show 1≤114 by decide) ?_
 cases hb:YO S with
 |true=>
  have e:DY S=2:=by unfold DY;rw [if_pos hb]
  rw [e]
  have hb2:=hb
  unfold YO at hb2
  refine CW.vc IJ [0,1,2,3,4,6,7,8,9,33,38,59,66,72,79,109,113] (by kernel_rfl) ?_
  (repeat ((try refine Vc.mk' ?_);simp (maxSteps:=6000000) only [go_sem,sG,Fm,intOf_int,hb2]))
 |false=>
 have hb2:=hb
 unfold YO at hb2
 refine CW.vc IJ [0,1,2,3,4,6,7,8,9,33,38,59,66,72,79,109,113] (by kernel_rfl) ?_
 (repeat ((try refine Vc.mk' ?_);simp (maxSteps:=6000000) only [go_sem,sG,Fm,intOf_int,hb2]))
 refine CW.Bc (kz hp top S r k u) (fun i=>i≤S.R.length∧(S.R.take i).any Nu=false) (fun i=>S.R.length - i) 0 ⟨Nat.zero_le _,rfl⟩ ?_ ?_
 ·exact (by refine Al.mk' [top] hcl (by simp) (by simp) rfl (AF ?_) ?_ ?_ <;> simp [Sc.Ao (fun j hj=>AE hj) s1,BO,Sc.Ao (fun j hj=>AE hj) s2,Sc.Ao (fun j hj=>AE hj) s3])
 rintro i ⟨hi,hall⟩
 by_cases hlt:i < S.R.length
 ·have ii:((i:Int) < (S.R.length:Int)):=by omega
  have kk:Ad .i64 ((i:Int)+1)=((i+1:Nat):Int):=Ae hlt (by omega)
  have hnx:(S.R.take (i+1)).any Nu=Nu (at' S.R i):=by rw [Bj hlt,List.any_append,hall];simp
  have hbr:=uJ (at' S.R i)
  cases hc:Nu (at' S.R i) with
  |true=>
   have e:DY S=2:=by
    unfold DY;rw [if_neg (by simp [hb]),if_pos]
    rw [List.any_eq_true]
    exact ⟨at' S.R i,by rw [BS _ _ hlt];exact List.getElem_mem hlt,hc⟩
   rw [e]
   rw [hc] at hbr
   refine CW.vc IJ [0,1,2,3,4,6,7,8,9,33,38,59,66,72,79,109,113] (by kernel_rfl) ?_
   (repeat ((try refine Vc.mk' ?_);simp (maxSteps:=6000000) only [go_sem,kz,BO,ii,hlt,CS h1,DA h1,F8 h1,Ab s1,sF,Hn,hbr]))
  |false=>
   rw [hc] at hbr
   refine CW.vc IJ [0,1,2,3,4,6,7,8,9,33,38,59,66,72,79,109,113] (by kernel_rfl) ?_
   (repeat ((try refine Vc.mk' ?_);simp (maxSteps:=6000000) only [go_sem,kz,BO,ii,hlt,CS h1,DA h1,F8 h1,Ab s1,sF,Hn,hbr,kk]))
   refine .mk (i+1) ⟨hlt,by rw [hnx];exact hc⟩ (by omega) ((by refine Al.mk' [top] hcl (by simp) (by simp) rfl (AF ?_) ?_ ?_ <;> simp [Sc.Ao (fun j hj=>AE hj) s1,BO,Sc.Ao (fun j hj=>AE hj) s2,Sc.Ao (fun j hj=>AE hj) s3]))
 have hk2:i=S.R.length:=by omega
 subst hk2
 rw [List.take_length] at hall
 by_cases c1:HB (BM S.R) S.K S.U S.L=0
 case neg=>
  have e:DY S=HB (BM S.R) S.K S.U S.L:=by unfold DY;rw [if_neg (by simp [hb]),if_neg (by simp [hall]),if_pos c1]
  rw [e]
  have c2:∀t,RC k u S t=(.tuple ⟨[.pointer none, .int .i64 (HB (BM S.R) S.K S.U S.L)]⟩, [],t):=fun t=>by unfold RC;rw [if_neg c1]
  refine CW.vc IJ [0,1,2,3,4,6,7,8,9,33,38,59,66,72,79,109,113] (by kernel_rfl) ?_
  (repeat ((try refine Vc.mk' ?_);simp (maxSteps:=6000000) only [go_sem,kz,BO,Int.lt_irrefl,decide_false,sE,Md,kS,kD,c1,c2,CS h1]))
 have e:DY S=cu (BM S.R) S.K:=by unfold DY;rw [if_neg (by simp [hb]),if_neg (by simp [hall]),if_neg (by simp [c1]),tw c1]
 rw [e]
 have c2:∀t,RC k u S t=(.tuple ⟨[.pointer (some ⟨t,0,none⟩), .int .i64 0]⟩, [(t,Tb ⟨AA (t+2) (BM S.R),k,u,t+1, .slice none 0 0⟩ (eP (BM S.R) S.K S.U S.L)),(t+1,yT (List.replicate S.K.length false)),(t+2,AD AL (BM S.R))],t+3):=fun t=>by unfold RC;rw [if_pos c1]
 have hk48:=(RD c1).1
 refine CW.vc IJ [0,1,2,3,4,6,7,8,9,33,38,59,66,72,79,109,113] (by kernel_rfl) ?_
 (repeat ((try refine Vc.mk' ?_);simp (maxSteps:=6000000) only [go_sem,kz,BO,Int.lt_irrefl,decide_false,sE,Md,kS,kD,c2,CS h1]))
 have hR:cu (BM S.R) S.K=if S.R.any (fun c=>decide (16 < Nh S.K c.Self))=true then 3 else 0:=by unfold cu BM;rw [List.any_map];rfl
 rw [hR]
 refine CW.Bc (wq hp top S r k u) (fun i=>i≤S.R.length∧(S.R.take i).any (fun c=>decide (16 < Nh S.K c.Self))=false) (fun i=>S.R.length - i) 0 ⟨Nat.zero_le _,rfl⟩ ?_ ?_
 ·exact (by refine Al.mk' [top] hcl (by simp) (by simp) rfl (AF ?_) ?_ ?_ <;> simp [Sc.Ao (fun j hj=>AE hj) s1,BO,Sc.Ao (fun j hj=>AE hj) s2,Sc.Ao (fun j hj=>AE hj) s3])
 rintro i ⟨hi,hall2⟩
 by_cases hlt:i < S.R.length
 ·have ii:((i:Int) < (S.R.length:Int)):=by omega
  have kk:Ad .i64 ((i:Int)+1)=((i+1:Nat):Int):=Ae hlt (by omega)
  refine CW.vc IJ [0,1,2,3,4,6,7,8,9,33,38,59,66,72,79,109,113] (by kernel_rfl) ?_
  (repeat ((try refine Vc.mk' ?_);simp (maxSteps:=6000000) only [go_sem,wq,BO,ii,CS h1]))
  refine CW.Bc (fI hp top S r k u i) (fun j=>j≤S.K.length) (fun j=>S.K.length - j) 0 (Nat.zero_le _) ?_ ?_
  ·exact (by refine Al.mk' [top] hcl (by simp) (by simp) rfl (AF ?_) ?_ ?_ <;> simp [Sc.Ao (fun j hj=>AE hj) s1,BO,Sc.Ao (fun j hj=>AE hj) s2,Sc.Ao (fun j hj=>AE hj) s3,show Nh [] (at' S.R i).Self=0 from rfl])
  intro j hj
  have hdl:=ua (K:=S.K.take j) (n:=(at' S.R i).Self)
  rw [List.length_take] at hdl
  by_cases jlt:j < S.K.length
  ·have jj:((j:Int) < (S.K.length:Int)):=by omega
   have kj:Ad .i64 ((j:Int)+1)=((j+1:Nat):Int):=Ae jlt (by omega)
   have hdt:=hJ (K:=S.K) (n:=(at' S.R i).Self) jlt
   have kd:Ad .i64 ((Nh (S.K.take j) (at' S.R i).Self:Int)+1)=((Nh (S.K.take j) (at' S.R i).Self+1:Nat):Int):=by rw [wrap64 (by omega) (by omega)];omega
   by_cases q1:(at' S.K j).A=(at' S.R i).Self
   ·rw [if_pos (.inl q1.symm)] at hdt
    have q1':=eq_true q1
    refine CW.vc IJ [0,1,2,3,4,6,7,8,9,33,38,59,66,72,79,109,113] (by kernel_rfl) ?_
    (repeat ((try refine Vc.mk' ?_);simp (maxSteps:=6000000) only [go_sem,fI,BO,jj,jlt,ii,hlt,DA h1,JI h1,JH h1,Ab s1,BH h2,BG h2,Fj h2,Fh h2,Fk h2,Fi h2,Ab s2,q1',kj,kd,decide_true]))
    refine .mk (j+1) jlt (by omega) ((by refine Al.mk' [top] hcl (by simp) (by simp) rfl (AF ?_) ?_ ?_ <;> simp [Sc.Ao (fun j hj=>AE hj) s1,BO,Sc.Ao (fun j hj=>AE hj) s2,Sc.Ao (fun j hj=>AE hj) s3,hdt]))
   ·have q1':=eq_false q1
    by_cases q2:(at' S.K j).B=(at' S.R i).Self
    ·rw [if_pos (.inr q2.symm)] at hdt
     have q2':=eq_true q2
     refine CW.vc IJ [0,1,2,3,4,6,7,8,9,33,38,59,66,72,79,109,113] (by kernel_rfl) ?_
     (repeat ((try refine Vc.mk' ?_);simp (maxSteps:=6000000) only [go_sem,fI,BO,jj,jlt,ii,hlt,DA h1,JI h1,JH h1,Ab s1,BH h2,BG h2,Fj h2,Fh h2,Fk h2,Fi h2,Ab s2,q1',q2',kj,kd,decide_true,decide_false]))
     refine .mk (j+1) jlt (by omega) ((by refine Al.mk' [top] hcl (by simp) (by simp) rfl (AF ?_) ?_ ?_ <;> simp [Sc.Ao (fun j hj=>AE hj) s1,BO,Sc.Ao (fun j hj=>AE hj) s2,Sc.Ao (fun j hj=>AE hj) s3,hdt]))
    ·rw [if_neg (by rintro (h | h);exact q1 h.symm;exact q2 h.symm),Nat.add_zero] at hdt
     have q2':=eq_false q2
     refine CW.vc IJ [0,1,2,3,4,6,7,8,9,33,38,59,66,72,79,109,113] (by kernel_rfl) ?_
     (repeat ((try refine Vc.mk' ?_);simp (maxSteps:=6000000) only [go_sem,fI,BO,jj,jlt,ii,hlt,DA h1,JI h1,JH h1,Ab s1,BH h2,BG h2,Fj h2,Fh h2,Fk h2,Fi h2,Ab s2,q1',q2',kj,decide_true,decide_false]))
     refine .mk (j+1) jlt (by omega) ((by refine Al.mk' [top] hcl (by simp) (by simp) rfl (AF ?_) ?_ ?_ <;> simp [Sc.Ao (fun j hj=>AE hj) s1,BO,Sc.Ao (fun j hj=>AE hj) s2,Sc.Ao (fun j hj=>AE hj) s3,hdt]))
  ·have hk3:j=S.K.length:=by omega
   subst hk3
   have hnx:(S.R.take (i+1)).any (fun c=>decide (16 < Nh S.K c.Self))=decide (16 < Nh S.K (at' S.R i).Self):=by rw [Bj hlt,List.any_append,hall2];simp
   by_cases q:16 < Nh S.K (at' S.R i).Self
   ·have q':((16:Int) < (Nh S.K (at' S.R i).Self:Int))=True:=eq_true (by omega)
    have hany:S.R.any (fun c=>decide (16 < Nh S.K c.Self))=true:=by
     rw [List.any_eq_true]
     exact ⟨at' S.R i,by rw [BS _ _ hlt];exact List.getElem_mem hlt,decide_eq_true q⟩
    rw [if_pos hany]
    refine CW.vc IJ [0,1,2,3,4,6,7,8,9,33,38,59,66,72,79,109,113] (by kernel_rfl) ?_
    (repeat ((try refine Vc.mk' ?_);simp (maxSteps:=6000000) only [go_sem,fI,BO,Int.lt_irrefl,List.take_length,BH h2,q',decide_true,decide_false]))
   ·have q':((16:Int) < (Nh S.K (at' S.R i).Self:Int))=False:=eq_false (by omega)
    refine CW.vc IJ [0,1,2,3,4,6,7,8,9,33,38,59,66,72,79,109,113] (by kernel_rfl) ?_
    (repeat ((try refine Vc.mk' ?_);simp (maxSteps:=6000000) only [go_sem,fI,BO,Int.lt_irrefl,List.take_length,BH h2,q',kk,decide_false]))
    refine .mk (i+1) ⟨hlt,by rw [hnx];exact decide_eq_false q⟩ (by omega) ((by refine Al.mk' [top] hcl (by simp) (by simp) rfl (AF ?_) ?_ ?_ <;> simp [Sc.Ao (fun j hj=>AE hj) s1,BO,Sc.Ao (fun j hj=>AE hj) s2,Sc.Ao (fun j hj=>AE hj) s3]))
 have hk2:i=S.R.length:=by omega
 subst hk2
 rw [List.take_length] at hall2
 rw [if_neg (by rw [hall2];simp)]
 refine CW.vc IJ [0,1,2,3,4,6,7,8,9,33,38,59,66,72,79,109,113] (by kernel_rfl) ?_
 (repeat ((try refine Vc.mk' ?_);simp (maxSteps:=6000000) only [go_sem,wq,BO,Int.lt_irrefl,CS h1,decide_false]))
end Go.Proofs.YthlhnangbinhoaaGreatDoor.Dm
