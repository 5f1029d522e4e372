/- The numbers of a line. -/
import Derived.Test.YthlhnangbinhoaaGreatDoorSI
set_option linter.unusedVariables false
namespace Go.Proofs.YthlhnangbinhoaaGreatDoor.Dm
open Go.Dm
set_option maxHeartbeats 16000000
set_option maxRecDepth 20000
def KV:List Int→Ha→Option (List Int)
 |xs, []=>some xs
 |xs,w :: l=>match El w with
  |some n=>KV (xs ++ [n]) l
  |none=>none
def EH (ws:Ha)(n:Int):Option (List Int):=if (ws.length:Int)=n then KV [] ws else none
def Ew (ws:Ha)(n:Int)(top:Nat):(Value×BI×Nat) ⊕ (Value×BI×Nat):=match EH ws n with
 |some xs=> .inl (AA top xs, [(top,AD AY xs)],top+1)
 |none=> .inr (En 12, [],top)
theorem Gp {ws:Ha}{n:Int}{xs:List Int}{top:Nat}(h:EH ws n=some xs):Ew ws n top= .inl (AA top xs, [(top,AD AY xs)],top+1):=by unfold Ew;rw [h]
theorem F7 {ws:Ha}{n:Int}{top:Nat}(h:EH ws n=none):Ew ws n top= .inr (En 12, [],top):=by unfold Ew;rw [h]
def Zm (ws:Ha):Prop:=ws.length≤1000000∧∀w∈ws,w.length≤1000000
def Au:Bb:= .pan (fun args hp _=>match args with | [v, .int .i64 _]=>GQ AE hp v∧Zm (AE.rd hp v)∧C7 hp | _=>False) (fun args hp top=>match args with | [v,n]=>Ew (AE.rd hp v) (intOf n) top | _=> .inr (undef, [],top))
def qW:FuncId→Bb:=Bw XY 15 Ow
theorem OL:CQ Tryz.prog tt.get qW:=Di.add zy
theorem mc:qW 37=Ac:=rfl
theorem iG:qW 75=EN:=rfl
def pQ (hp:Hp)(top:Nat)(v:Value)(ws:Ha)(x:List Int×Nat):SS:=⟨[(5,AA top x.1,true),(13,v,true),(14, .int .i64 (ws.length:Int),true),(15, .int .i64 (x.2:Int),true)],hp.Av [(top,AD AY x.1)],top+1⟩
theorem pC:A0 Tryz.prog 78 Au:=by
 refine .PC UO ?_
 intro args hp top hpre hcl hsc
 match args,hpre with
 | [v, .int .i64 n],⟨⟨ws,h⟩,hW,hv⟩=>
 have hs:=h.low hcl
 have ht5:=Fc hcl hv
 simp only [h.rd,intOf_int] at hW ⊢
 refine EI.A5 BA UO rfl 26 rfl [.tmp 4] rfl (show 2≤26 by decide) ?_
 by_cases c:(ws.length:Int)=n
 case neg=>
  rw [F7 (by unfold EH;rw [if_neg c])]
  refine CW.vc OL [0,1,4,5,7,13,14,15,16] (by kernel_rfl) ?_
  (repeat ((try refine Vc.mk' ?_);simp (maxSteps:=6000000) only [go_sem,FA h,c,decide_false,mc,Ac,BG]))
  (refine ⟨[],by simp,by simp,by simp, ?_, ?_, ?_⟩ <;> simp [])
 have hO:EH ws n=KV [] ws:=by unfold EH;rw [if_pos c]
 refine CW.vc OL [0,1,4,5,7,13,14,15,16] (by kernel_rfl) ?_
 (repeat ((try refine Vc.mk' ?_);simp (maxSteps:=6000000) only [go_sem,FA h,c,decide_true,mc,Ac,BU]))
 subst c
 refine CW.DC (pQ hp top v ws) (fun x=>x.2≤ws.length∧x.1.length=x.2∧KV [] ws=KV x.1 (ws.drop x.2)) (fun x=>ws.length - x.2) ([],0) ⟨Nat.zero_le _,rfl,rfl⟩ ?_ ?_
 ·exact (by refine BR.mk' [top] hcl (by simp) (by simp) rfl (AU ?_) ?_ ?_ <;> simp [Sc.Az (fun j hj=>AB hj) hs,Ex,GL])
 ·rintro ⟨xs,k⟩ ⟨hk,hx,hrun⟩
  replace hk:k≤ws.length:=hk
  replace hx:xs.length=k:=hx
  replace hrun:KV [] ws=KV xs (ws.drop k):=hrun
  have hWl:=hW.1
  by_cases hlt:k < ws.length
  ·have l1:((k:Int) < (ws.length:Int)):=by omega
   have kk:Ap .i64 ((k:Int)+1)=((k+1:Nat):Int):=Bf hlt (by omega)
   rw [Pv hlt] at hrun
   have hwl:=hW.2 (at' ws k) (by rw [CO _ _ hlt];exact List.getElem_mem hlt)
   have w1:((at' ws k).length≤281474976710656)=True:=eq_true (by omega)
   cases hn:El (at' ws k) with
   |none=>
    have e:EH ws (ws.length:Int)=none:=by rw [hO,hrun];show (match El (at' ws k) with | some n=>_ | none=>none)=none;rw [hn]
    have hu:∀t,E3 (at' ws k) t= .inr (En 12, [],t):=fun t=>by unfold E3;rw [hn]
    rw [F7 e]
    refine CW.vc OL [0,1,4,5,7,13,14,15,16] (by kernel_rfl) ?_
    (repeat ((try refine Vc.mk' ?_);simp (maxSteps:=6000000) only [go_sem,pQ,DM h,Dw h,Bh hs,l1,hlt,iG,EN,w1,hv,AQ ht5,hu]))
    (refine ⟨[],by simp,by simp,by simp, ?_, ?_, ?_⟩ <;> simp [])
   |some n=>
    have hr2:KV [] ws=KV (xs ++ [n]) (ws.drop (k+1)):=by rw [hrun];show (match El (at' ws k) with | some n=>_ | none=>none)=_;rw [hn]
    have hu:∀t,E3 (at' ws k) t= .inl (.int .i64 n, [],t):=fun t=>by unfold E3;rw [hn]
    have hap:∀ {h':Hp} {q t:Nat},h' top=AD AY xs→h' q=some (.cells true 1 [.int .i64 n])→AM tt.get h' t [68,68] (AA top xs) (.slice (some ⟨q,0,none⟩) 1 1)=some (AA t (xs ++ [n]),CC top xs t (AD AY (xs ++ [n])),t+1):=fun {h'} {q} {t} a1 a2=>by
     have e3:cellsOf (h' q)=AY.enc n:=by rw [a2];rfl
     have:=N1 (hp:=h') (b:=top) (top:=t) (k:=q) a1 (by rw [e3];exact a2) (by rw [e3,AY.h]) (CL (by omega) (by decide))
     rwa [e3,AY.h] at this
    refine CW.vc OL [0,1,4,5,7,13,14,15,16] (by kernel_rfl) ?_
    (repeat ((try refine Vc.mk' ?_);simp (maxSteps:=6000000) only [go_sem,pQ,DM h,Dw h,Bh hs,l1,hlt,kk,iG,EN,w1,hv,AQ ht5,hu,hap]))
    refine .mk (xs ++ [n],k+1) ⟨hlt,by show (xs ++ [n]).length=k+1;rw [List.length_append,hx];rfl,hr2⟩ (by show ws.length - (k+1) < ws.length - k;omega) ((by refine BR.mk' [top+2] hcl (by simp) (by simp) rfl (AU ?_) ?_ ?_ <;> simp [Sc.Az (fun j hj=>AB hj) hs,Ab,AP]))
  ·have hk2:k=ws.length:=by omega
   subst hk2
   have l1:¬((ws.length:Int) < (ws.length:Int)):=by omega
   have e:EH ws (ws.length:Int)=some xs:=by rw [hO,hrun,List.drop_length];rfl
   rw [Gp e]
   refine CW.vc OL [0,1,4,5,7,13,14,15,16] (by kernel_rfl) ?_
   (repeat ((try refine Vc.mk' ?_);simp (maxSteps:=6000000) only [go_sem,pQ,l1,decide_false]))
   (refine ⟨[top],by simp,by simp,by simp, ?_, ?_, ?_⟩ <;> simp [Ab,AP])
end Go.Proofs.YthlhnangbinhoaaGreatDoor.Dm
