/- world.Check. -/
import Derived.Test.YthlhnangbinhoaaGreatDoorCNW
set_option linter.unusedVariables false
namespace Go.Proofs.YthlhnangbinhoaaGreatDoor.Dm
open Go.Dm
set_option maxHeartbeats 64000000
set_option maxRecDepth 20000
noncomputable def GN2:FuncId→Bb:=Bw uc 87 Mp
theorem TW:CQ Tryz.prog tt.get GN2:=Kd.add rV
theorem tf:GN2 87=Mp:=rfl
def FQ (S:CK)(r k u:Value):Option A7:=some (.cells true 0 [.int .i64 S.W, .int .i64 S.A, .int .i64 S.T, .int .i64 S.L,r,k,u])
def DS (l:List B3):List Int:=l.map (·.Self)
def KM:Bb:= .det (fun args hp _=>match args with | [v]=> ∃S,SH hp v S | _=>False) (fun args hp top=>match args with | [v]=>GU (DS (Lv hp v).R) (Lv hp v).K (Lv hp v).U (Lv hp v).L top | _=>(undef, [],top))
def rO (hp:Hp)(top:Nat)(S:CK)(r k u:Value)(i:Nat):SS:=⟨[(1, .pointer (some ⟨top,0,none⟩),true),(4,AA (top+1) (DS (S.R.take i)),true),(8,r,true),(9, .int .i64 (S.R.length:Int),true),(10, .int .i64 (i:Int),true)],hp.Av [(top,FQ S r k u),(top+1,AD AY (DS (S.R.take i)))],top+2⟩
theorem M8 (R:List Int)(l:List Ak)(rl:List BJ)(late:Int) :
  (RL R l rl late≠0∧∀top,GU R l rl late top=(.tuple ⟨[.pointer none, .int .i64 (RL R l rl late)]⟩, [],top))∨
  (RL R l rl late=0∧∃m,∀top,GU R l rl late top=(.tuple ⟨[.pointer (some ⟨top,0,none⟩), .int .i64 0]⟩,OK top (Pf R l m rl.length late),top+8)):=by
 unfold GU RL
 by_cases c1:Gr.Gs R l=0
 ·rw [if_neg (by simp [c1])]
  by_cases c2:late < 1∨64 < late
  ·left
   rw [if_pos c2]
   exact ⟨by decide,fun top=>by rw [if_pos (.inr c2)]⟩
  ·rw [if_neg c2]
   have c3:¬(¬Gr.Gs R l=0∨late < 1∨64 < late):=by rintro (h | h);exact h c1;exact c2 h
   simp only [if_neg c3]
   cases hx:Fa.Hg rl with
   |error p=>exact .inl ⟨Fa.N8 hx,fun _=>rfl⟩
   |ok m=>exact .inr ⟨rfl,m,fun _=>rfl⟩
 ·left
  rw [if_pos c1]
  exact ⟨c1,fun top=>by rw [if_pos (.inl c1)]⟩
theorem mJ {l:List B3}{i:Nat}(h:i < l.length):DS (l.take (i+1))=DS (l.take i) ++ [(at' l i).Self]:=by
 unfold DS;rw [DN h,List.map_append];rfl
theorem gD:A0 Tryz.prog 65 KM:=by
 refine .Hq Tg ?_
 intro args hp top hpre hcl hsc
 match args,hpre with
 | [v],⟨S,hS⟩=>
 have hd:=hS.d
 obtain ⟨r,k,u,rfl,h1,h2,h3⟩:=hS.ex
 have l1:=hS.rl
 have s1:=h1.low hcl
 have s2:=h2.low hcl
 have s3:=h3.low hcl
 simp only [hd]
 refine AR.A5 BA Tg rfl 30 rfl [.tmp 2, .tmp 3] rfl (show 1≤30 by decide) ?_
 refine CW.vc TW [0,1,2,3,4,6,8,9,10,11] (by kernel_rfl) ?_
 (repeat ((try refine Vc.mk' ?_);simp (maxSteps:=6000000) only [go_sem,OU h1]))
 refine CW.DC (rO hp top S r k u) (fun i=>i≤S.R.length) (fun i=>S.R.length - i) 0 (Nat.zero_le _) ?_ ?_
 ·exact (by refine BR.mk' [top,top+1] hcl (by simp) (by simp) rfl (AU ?_) ?_ ?_ <;> simp [Sc.Az (fun j hj=>AB hj) s1,Ex,GL,FQ,DS,Sc.Az (fun j hj=>AB hj) s2,Sc.Az (fun j hj=>AB hj) s3])
 ·intro i hi
  by_cases hlt:i < S.R.length
  ·have ii:((i:Int) < (S.R.length:Int)):=by omega
   have kk:Ap .i64 ((i:Int)+1)=((i+1:Nat):Int):=Bf hlt (by omega)
   have hap:∀ {h':Hp} {q t:Nat},h' (top+1)=AD AY (DS (S.R.take i))→h' q=some (.cells true 1 [.int .i64 (at' S.R i).Self])→AM tt.get h' t [68,68] (AA (top+1) (DS (S.R.take i))) (.slice (some ⟨q,0,none⟩) 1 1)=some (AA t (DS (S.R.take (i+1))),CC (top+1) (DS (S.R.take i)) t (AD AY (DS (S.R.take (i+1)))),t+1):=fun {h'} {q} {t} a1 a2=>by
    have e3:cellsOf (h' q)=AY.enc (at' S.R i).Self:=by rw [a2];rfl
    have hl:(DS (S.R.take i)).length≤1000000:=by unfold DS;rw [List.length_map,List.length_take];omega
    have:=N1 (hp:=h') (b:=top+1) (top:=t) (k:=q) a1 (by rw [e3];exact a2) (by rw [e3,AY.h]) (CL (by omega) (by decide))
    rwa [e3,AY.h,←mJ hlt] at this
   refine CW.vc TW [0,1,2,3,4,6,8,9,10,11] (by kernel_rfl) ?_
   (repeat ((try refine Vc.mk' ?_);simp (maxSteps:=6000000) only [go_sem,rO,FQ,ii,hlt,IX h1,Kr h1,Bh s1,hap,kk]))
   refine .mk (i+1) hlt (by omega) ((by refine BR.mk' [top,top+4] hcl (by simp) (by simp) rfl (AU ?_) ?_ ?_ <;> simp [Sc.Az (fun j hj=>AB hj) s1,FQ,Sc.Az (fun j hj=>AB hj) s2,Sc.Az (fun j hj=>AB hj) s3]))
  ·have hk2:i=S.R.length:=by omega
   subst hk2
   have kR:∀ {h':Hp},h' (top+1)=AD AY (DS S.R)→(∃R,BP AY h' (AA (top+1) (DS S.R)) R∧(R= []→AA (top+1) (DS S.R)= .slice none 0 0))=True:=fun {h'} e=>eq_true ⟨DS S.R,BP.JF e (by unfold DS;rw [List.length_map];omega),fun h=>by rw [h];rfl⟩
   have rR:∀ {h':Hp},h' (top+1)=AD AY (DS S.R)→AY.rd h' (AA (top+1) (DS S.R))=DS S.R:=fun {h'} e=>MJ e (by unfold DS;rw [List.length_map];omega)
   have k2:∀ {h':Hp},BQ top [] h' hp→GQ Ad h' k=True:=fun {h'} hk=>(h2.BH s2 hk).P
   have k3:∀ {h':Hp},BQ top [] h' hp→GQ AJ h' u=True:=fun {h'} hk=>(h3.BH s3 hk).P
   have r2:∀ {h':Hp},BQ top [] h' hp→Ad.rd h' k=S.K:=fun {h'} hk=>(h2.BH s2 hk).rd
   have r3:∀ {h':Hp},BQ top [] h' hp→AJ.rd h' u=S.U:=fun {h'} hk=>(h3.BH s3 hk).rd
   rcases M8 (DS S.R) S.K S.U S.L with ⟨c1,c2⟩ | ⟨c1,m,c2⟩
   ·refine CW.vc TW [0,1,2,3,4,6,8,9,10,11] (by kernel_rfl) ?_
    (repeat ((try refine Vc.mk' ?_);simp (maxSteps:=6000000) only [go_sem,rO,FQ,Int.lt_irrefl,decide_false,tf,Mp,List.take_length,kR,rR,k2,k3,r2,r3,c2,intOf_int]))
    (refine ⟨[],by simp,by simp,by simp, ?_, ?_, ?_⟩ <;> simp [])
   ·refine CW.vc TW [0,1,2,3,4,6,8,9,10,11] (by kernel_rfl) ?_
    (repeat ((try refine Vc.mk' ?_);simp (maxSteps:=6000000) only [go_sem,rO,FQ,Int.lt_irrefl,decide_false,tf,Mp,List.take_length,kR,rR,k2,k3,r2,r3,c2,intOf_int,OK]))
    (refine ⟨[top+2,top+3,top+4,top+5,top+6,top+7,top+8,top+9],by simp,by simp,by simp, ?_, ?_, ?_⟩ <;> simp [L0,Pf,PL,Fa.H7])
def tV (w:Int):Bool:= !decide (w < 8) && !decide (256 < w) && decide (CZ .and .i64 w (Ap .i64 (w - 1))=0)
def NN:Bb:= .pure (fun args _=>match args with | [.int .i64 _]=>True | _=>False) (fun args _=>match args with | [x]=> .bool (tV (intOf x)) | _=>undef)
theorem qa:A0 Tryz.prog 64 NN:=by
 refine .Fm Ux (fun args hp h=> ?_) ?_
 ·match args,h with
  | [.int .i64 w],_=>rfl
 intro args hp hpre top hcl hsc
 match args,hpre with
 | [.int .i64 w],_=>
 refine AR.A5 BA Ux rfl 16 rfl [.tmp 2] rfl (show 1≤16 by decide) ?_
 refine CW.vc TW [0,2] (by kernel_rfl) ?_
 (repeat ((try refine Vc.mk' ?_);simp (maxSteps:=6000000) only [go_sem]))
 rfl
noncomputable def GN3:FuncId→Bb:=Bw (Bw GN2 65 KM) 64 NN
theorem Mv:CQ Tryz.prog tt.get GN3:=(TW.add gD).add qa
theorem sn:GN3 65=KM:=rfl
theorem tk:GN3 64=NN:=rfl
abbrev x7:=GO×Nat
def bump (x:x7)(a:Int):x7:=(NR x.1 a (Ap .i64 ((Jp x.1 a).getD default+1)) x.2,Um x.1 a x.2)
def MA (x:x7)(l:Ak):x7:=bump (bump x l.A) l.B
def So (x:x7)(l:Ak):Bool:=decide (16 < (Jp x.1 l.A).getD default) || decide (16 < (Jp x.1 l.B).getD default)
def R0:x7→List Ak→Int
 |_, []=>0
 |x,l :: ls=>if So (MA x l) l=true then 3 else R0 (MA x l) ls
def ZB (c:B3):Bool:=decide (c.Self < 1) || decide (24 < c.Self) || decide (c.Claim < 0) || decide (1024 < c.Claim)
def rW (S:CK):Bool:= !tV S.W || decide (S.A < 1) || decide (64 < S.A) || decide (S.T < 0) || decide (64 < S.T)
def Ia (S:CK):Int:=if rW S=true then 2 else if S.R.any ZB=true then 2 else if RL (DS S.R) S.K S.U S.L≠0 then RL (DS S.R) S.K S.U S.L else R0 ([],0) S.K
def kC (hp:Hp)(top:Nat)(S:CK)(r k u:Value)(i:Nat):SS:=⟨[(1, .pointer (some ⟨top,0,none⟩),true),(35,r,true),(36, .int .i64 (S.R.length:Int),true),(37, .int .i64 (i:Int),true)],hp.Av [(top,FQ S r k u)],top+1⟩
def pA (hp:Hp)(top:Nat)(S:CK)(r k u:Value)(x:x7×Nat):SS:=⟨[(7, .map (some (top+1)),true),(70,k,true),(71, .int .i64 (S.K.length:Int),true),(72, .int .i64 (x.2:Int),true)],hp.Av [(top,FQ S r k u),(top+1,some (.map (Dn x.1.1) x.1.2))],top+2⟩
theorem mr:A0 Tryz.prog 23 (Jl (fun _=>True) Ia):=by
 refine .Fm UI (fun args hp h=> ?_) ?_
 ·match args,h with
  | [v],_=>rfl
 intro args hp hpre top hcl hsc
 match args,hpre with
 | [v],⟨⟨S,hS,_⟩,hv⟩=>
 have ht5:=Fc hcl hv
 have hd:=hS.d
 have hSv:=hS
 obtain ⟨r,k,u,rfl,h1,h2,h3⟩:=hS.ex
 have l1:=hS.rl
 have l2:=hS.kl
 have s1:=h1.low hcl
 have s2:=h2.low hcl
 have s3:=h3.low hcl
 have p1:GQ AL hp r=True:=h1.P
 simp only [hd]
 have kS:∀ {h':Hp},BQ top [] h' hp→(∃S',SH h' (.agg ⟨[.int .i64 S.W, .int .i64 S.A, .int .i64 S.T, .int .i64 S.L,r,k,u]⟩) S')=True:=fun {h'} hk=>eq_true ⟨S,⟨r,k,u,rfl,h1.BH s1 hk,h2.BH s2 hk,h3.BH s3 hk⟩,hSv.rl,hSv.kl,hSv.ul⟩
 have kD:∀ {h':Hp},BQ top [] h' hp→Lv h' (.agg ⟨[.int .i64 S.W, .int .i64 S.A, .int .i64 S.T, .int .i64 S.L,r,k,u]⟩)=S:=fun {h'} hk=>SH.d ⟨⟨r,k,u,rfl,h1.BH s1 hk,h2.BH s2 hk,h3.BH s3 hk⟩,hSv.rl,hSv.kl,hSv.ul⟩
 refine AR.A5 BA UI rfl 99 rfl [.tmp 2] rfl (show 1≤99 by decide) ?_
 cases hb:rW S with
 |true=>
  have e:Ia S=2:=by unfold Ia;rw [if_pos hb]
  rw [e]
  have hb2:=hb
  unfold rW at hb2
  refine CW.vc Mv [0,1,2,4,6,7,9,33,35,36,37,38,58,66,70,71,72,73,97] (by kernel_rfl) ?_
  (repeat ((try refine Vc.mk' ?_);simp (maxSteps:=6000000) only [go_sem,tk,NN,intOf_int,hb2]))
 |false=>
 have hb2:=hb
 unfold rW at hb2
 refine CW.vc Mv [0,1,2,4,6,7,9,33,35,36,37,38,58,66,70,71,72,73,97] (by kernel_rfl) ?_
 (repeat ((try refine Vc.mk' ?_);simp (maxSteps:=6000000) only [go_sem,tk,NN,intOf_int,hb2,OU h1]))
 refine CW.DC (kC hp top S r k u) (fun i=>i≤S.R.length∧(S.R.take i).any ZB=false) (fun i=>S.R.length - i) 0 ⟨Nat.zero_le _,rfl⟩ ?_ ?_
 ·exact (by refine BR.mk' [top] hcl (by simp) (by simp) rfl (AU ?_) ?_ ?_ <;> simp [Sc.Az (fun j hj=>AB hj) s1,FQ,Sc.Az (fun j hj=>AB hj) s2,Sc.Az (fun j hj=>AB hj) s3])
 ·rintro i ⟨hi,hall⟩
  by_cases hlt:i < S.R.length
  ·have ii:((i:Int) < (S.R.length:Int)):=by omega
   have kk:Ap .i64 ((i:Int)+1)=((i+1:Nat):Int):=Bf hlt (by omega)
   have hnx:(S.R.take (i+1)).any ZB=ZB (at' S.R i):=by rw [DN hlt,List.any_append,hall];simp
   cases hc:ZB (at' S.R i) with
   |true=>
    have e:Ia S=2:=by
     unfold Ia;rw [if_neg (by simp [hb]),if_pos]
     rw [List.any_eq_true]
     exact ⟨at' S.R i,by rw [CO _ _ hlt];exact List.getElem_mem hlt,hc⟩
    rw [e]
    have hc2:=hc
    unfold ZB at hc2
    refine CW.vc Mv [0,1,2,4,6,7,9,33,35,36,37,38,58,66,70,71,72,73,97] (by kernel_rfl) ?_
    (repeat ((try refine Vc.mk' ?_);simp (maxSteps:=6000000) only [go_sem,kC,FQ,ii,hlt,IX h1,Kr h1,Bh s1,hc2]))
   |false=>
    have hc2:=hc
    unfold ZB at hc2
    refine CW.vc Mv [0,1,2,4,6,7,9,33,35,36,37,38,58,66,70,71,72,73,97] (by kernel_rfl) ?_
    (repeat ((try refine Vc.mk' ?_);simp (maxSteps:=6000000) only [go_sem,kC,FQ,ii,hlt,IX h1,Kr h1,Bh s1,hc2,kk]))
    refine .mk (i+1) ⟨hlt,by rw [hnx];exact hc⟩ (by omega) ((by refine BR.mk' [top] hcl (by simp) (by simp) rfl (AU ?_) ?_ ?_ <;> simp [Sc.Az (fun j hj=>AB hj) s1,FQ,Sc.Az (fun j hj=>AB hj) s2,Sc.Az (fun j hj=>AB hj) s3]))
  ·have hk2:i=S.R.length:=by omega
   subst hk2
   rw [List.take_length] at hall
   rcases M8 (DS S.R) S.K S.U S.L with ⟨c1,c2⟩ | ⟨c1,m,c2⟩
   ·have e:Ia S=RL (DS S.R) S.K S.U S.L:=by unfold Ia;rw [if_neg (by simp [hb]),if_neg (by simp [hall]),if_pos c1]
    rw [e]
    refine CW.vc Mv [0,1,2,4,6,7,9,33,35,36,37,38,58,66,70,71,72,73,97] (by kernel_rfl) ?_
    (repeat ((try refine Vc.mk' ?_);simp (maxSteps:=6000000) only [go_sem,kC,FQ,Int.lt_irrefl,decide_false,sn,KM,kS,kD,c1,c2]))
   ·have e:Ia S=R0 ([],0) S.K:=by unfold Ia;rw [if_neg (by simp [hb]),if_neg (by simp [hall]),if_neg (by simp [c1])]
    rw [e]
    refine CW.vc Mv [0,1,2,4,6,7,9,33,35,36,37,38,58,66,70,71,72,73,97] (by kernel_rfl) ?_
    (repeat ((try refine Vc.mk' ?_);simp (maxSteps:=6000000) only [go_sem,kC,FQ,Int.lt_irrefl,decide_false,sn,KM,kS,kD,c2,OK,G4 h2]))
    refine CW.DC (pA hp top S r k u) (fun x=>x.2≤S.K.length∧R0 ([],0) S.K=R0 x.1 (S.K.drop x.2)) (fun x=>S.K.length - x.2) (([],0),0) ⟨Nat.zero_le _,rfl⟩ ?_ ?_
    ·exact (by refine BR.mk' [top,top+9] hcl (by simp) (by simp) rfl (AU ?_) ?_ ?_ <;> simp [Sc.Az (fun j hj=>AB hj) s1,FQ,Sc.Az (fun j hj=>AB hj) s2,Sc.Az (fun j hj=>AB hj) s3,show Dn [] = [] from rfl])
    ·rintro ⟨x,i⟩ ⟨hi,hrun⟩
     replace hi:i≤S.K.length:=hi
     replace hrun:R0 ([],0) S.K=R0 x (S.K.drop i):=hrun
     by_cases hlt:i < S.K.length
     ·have ii:((i:Int) < (S.K.length:Int)):=by omega
      have kk:Ap .i64 ((i:Int)+1)=((i+1:Nat):Int):=Bf hlt (by omega)
      rw [Pv hlt] at hrun
      cases hc:So (MA x (at' S.K i)) (at' S.K i) with
      |true=>
       have e:R0 ([],0) S.K=3:=by rw [hrun];show (if So (MA x (at' S.K i)) (at' S.K i)=true then (3:Int) else _)=_;rw [if_pos hc]
       rw [e]
       unfold So MA bump at hc
       refine CW.vc Mv [0,1,2,4,6,7,9,33,35,36,37,38,58,66,70,71,72,73,97] (by kernel_rfl) ?_
       (repeat ((try refine Vc.mk' ?_);simp (maxSteps:=6000000) only [go_sem,pA,FQ,ii,hlt,C1 h2,DY h2,Bh s2,hc]))
      |false=>
       have e:R0 ([],0) S.K=R0 (MA x (at' S.K i)) (S.K.drop (i+1)):=by rw [hrun];show (if So (MA x (at' S.K i)) (at' S.K i)=true then (3:Int) else _)=_;rw [if_neg (by simp [hc])]
       have hc2:=hc
       unfold So MA bump at hc2
       refine CW.vc Mv [0,1,2,4,6,7,9,33,35,36,37,38,58,66,70,71,72,73,97] (by kernel_rfl) ?_
       (repeat ((try refine Vc.mk' ?_);simp (maxSteps:=6000000) only [go_sem,pA,FQ,ii,hlt,C1 h2,DY h2,Bh s2,hc2,kk]))
       refine .mk (MA x (at' S.K i),i+1) ⟨hlt,e⟩ (by show S.K.length - (i+1) < S.K.length - i;omega) ((by refine BR.mk' [top,top+1] hcl (by simp) (by simp) rfl (AU ?_) ?_ ?_ <;> simp [Sc.Az (fun j hj=>AB hj) s1,FQ,Sc.Az (fun j hj=>AB hj) s2,Sc.Az (fun j hj=>AB hj) s3,MA,bump]))
     ·have hk2:i=S.K.length:=by omega
      subst hk2
      rw [hrun,List.drop_length]
      refine CW.vc Mv [0,1,2,4,6,7,9,33,35,36,37,38,58,66,70,71,72,73,97] (by kernel_rfl) ?_
      (repeat ((try refine Vc.mk' ?_);simp (maxSteps:=6000000) only [go_sem,pA,FQ,Int.lt_irrefl,decide_false]))
      rfl
end Go.Proofs.YthlhnangbinhoaaGreatDoor.Dm
