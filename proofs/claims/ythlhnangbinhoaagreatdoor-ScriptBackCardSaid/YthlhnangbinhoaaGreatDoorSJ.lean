/- The numbers of a line. -/
import Derived.Test.YthlhnangbinhoaaGreatDoorSI
set_option linter.unusedSimpArgs false
set_option linter.unusedVariables false
namespace Go.Proofs.YthlhnangbinhoaaGreatDoor.Dm
open Go.Dm
set_option maxHeartbeats 16000000
set_option maxRecDepth 20000
def L6:List Int→Ld→Option (List Int)
 |xs, []=>some xs
 |xs,w :: l=>match Fj w with
  |some n=>L6 (xs ++ [n]) l
  |none=>none
def Ex (ws:Ld)(n:Int):Option (List Int):=if (ws.length:Int)=n then L6 [] ws else none
def Fz (ws:Ld)(n:Int)(top:Nat):(Value×BV×Nat) ⊕ (Value×BV×Nat):=match Ex ws n with
 |some xs=> .inl (AA top xs, [(top,AE Ad xs)],top+1)
 |none=> .inr (Fp 12, [],top)
theorem IB {ws:Ld}{n:Int}{xs:List Int}{top:Nat}(h:Ex ws n=some xs):Fz ws n top= .inl (AA top xs, [(top,AE Ad xs)],top+1):=by unfold Fz;rw [h]
theorem HY {ws:Ld}{n:Int}{top:Nat}(h:Ex ws n=none):Fz ws n top= .inr (Fp 12, [],top):=by unfold Fz;rw [h]
def cA (ws:Ld):Prop:=ws.length≤1000000∧∀w∈ws,w.length≤1000000
def A4:Bz:= .pan (fun args hp _=>match args with | [v, .int .i64 _]=>G6 AH hp v∧cA (AH.rd hp v)∧Cp hp | _=>False) (fun args hp top=>match args with | [v,n]=>Fz (AH.rd hp v) (intOf n) top | _=> .inr (undef, [],top))
def n6:FuncId→Bz:=Cx YP 15 Hj
theorem PW:DU Tryz.prog tt.get n6:=EN.add yp
theorem gN:n6 37=Ab:=rfl
theorem kp:n6 75=FH:=rfl
def sk (hp:Hp)(top:Nat)(v:Value)(ws:Ld)(x:List Int×Nat):SS:=⟨[(5,AA top x.1,true),(13,v,true),(14, .int .i64 (ws.length:Int),true),(15, .int .i64 (x.2:Int),true)],hp.A6 [(top,AE Ad x.1)],top+1⟩
theorem ry:BR Tryz.prog 78 A4:=by
 refine .Pr VB ?_
 intro args hp top hpre hcl hsc
 match args,hpre with
 | [v, .int .i64 n],⟨⟨ws,h⟩,hW,hv⟩=>
 have hs:=h.low hcl
 have ht5:=FE hcl hv
 simp only [h.rd,intOf_int] at hW ⊢
 refine Ey.Bn Bu VB rfl 26 rfl [.tmp 4] rfl (show 2≤26 by decide) ?_
 by_cases c:(ws.length:Int)=n
 case neg=>
  rw [HY (by unfold Ex;rw [if_neg c])]
  refine CW.vc PW [0,1,4,5,7,13,14,15,16] (by kernel_rfl) ?_
  (repeat ((try refine Vc.mk' ?_);simp (maxSteps:=6000000) only [go_sem,C4 h,CS h,Cf h,D5 h,DI h,h.P,h.oc,h.cl,h.rd,h.ref,Aj hs,AZ hs,AY hs,AX h hs CY,c,decide_false,gN,Ab,BT]))
  (refine ⟨[],by simp,by simp,by simp, ?_, ?_, ?_⟩ <;> simp [])
 have hO:Ex ws n=L6 [] ws:=by unfold Ex;rw [if_pos c]
 refine CW.vc PW [0,1,4,5,7,13,14,15,16] (by kernel_rfl) ?_
 (repeat ((try refine Vc.mk' ?_);simp (maxSteps:=6000000) only [go_sem,C4 h,CS h,Cf h,D5 h,DI h,h.P,h.oc,h.cl,h.rd,h.ref,Aj hs,AZ hs,AY hs,AX h hs CY,c,decide_true,gN,Ab,Bi]))
 subst c
 refine CW.D9 (sk hp top v ws) (fun x=>x.2≤ws.length∧x.1.length=x.2∧L6 [] ws=L6 x.1 (ws.drop x.2)) (fun x=>ws.length - x.2) ([],0) ⟨Nat.zero_le _,rfl,rfl⟩ ?_ ?_
 ·exact (by refine Bj.mk' [top] hcl (by simp) (by simp) rfl (Ac ?_) ?_ ?_ <;> simp [Sc.Av (fun j hj=>AB hj) hs,J1,OG])
 ·rintro ⟨xs,k⟩ ⟨hk,hx,hrun⟩
  replace hk:k≤ws.length:=hk
  replace hx:xs.length=k:=hx
  replace hrun:L6 [] ws=L6 xs (ws.drop k):=hrun
  have hWl:=hW.1
  by_cases hlt:k < ws.length
  ·have l1:((k:Int) < (ws.length:Int)):=by omega
   have kk:Ar .i64 ((k:Int)+1)=((k+1:Nat):Int):=B0 hlt (by omega)
   rw [QK hlt] at hrun
   have hwl:=hW.2 (at' ws k) (by rw [Cb _ _ hlt];exact List.getElem_mem hlt)
   have w1:((at' ws k).length≤281474976710656)=True:=eq_true (by omega)
   cases hn:Fj (at' ws k) with
   |none=>
    have e:Ex ws (ws.length:Int)=none:=by rw [hO,hrun];show (match Fj (at' ws k) with | some n=>_ | none=>none)=none;rw [hn]
    have hu:∀t,GA (at' ws k) t= .inr (Fp 12, [],t):=fun t=>by unfold GA;rw [hn]
    rw [HY e]
    refine CW.vc PW [0,1,4,5,7,13,14,15,16] (by kernel_rfl) ?_
    (repeat ((try refine Vc.mk' ?_);simp (maxSteps:=6000000) only [go_sem,sk,C4 h,CS h,Cf h,D5 h,DI h,h.P,h.oc,h.cl,h.rd,h.ref,Aj hs,AZ hs,AY hs,AX h hs CY,l1,hlt,kp,FH,w1,hv,AO ht5,AP ht5,hu]))
    (refine ⟨[],by simp,by simp,by simp, ?_, ?_, ?_⟩ <;> simp [])
   |some n=>
    have hr2:L6 [] ws=L6 (xs ++ [n]) (ws.drop (k+1)):=by rw [hrun];show (match Fj (at' ws k) with | some n=>_ | none=>none)=_;rw [hn]
    have hu:∀t,GA (at' ws k) t= .inl (.int .i64 n, [],t):=fun t=>by unfold GA;rw [hn]
    have hap:∀ {h':Hp} {q t:Nat},h' top=AE Ad xs→h' q=some (.cells true 1 [.int .i64 n])→AR tt.get h' t [68,68] (AA top xs) (.slice (some ⟨q,0,none⟩) 1 1)=some (AA t (xs ++ [n]),Ck top xs t (AE Ad (xs ++ [n])),t+1):=fun {h'} {q} {t} a1 a2=>by
     have e3:cellsOf (h' q)=Ad.enc n:=by rw [a2];rfl
     have:=TP (hp:=h') (b:=top) (top:=t) (k:=q) a1 (by rw [e3];exact a2) (by rw [e3,Ad.h]) (Dc (by omega) (by decide))
     rwa [e3,Ad.h] at this
    refine CW.vc PW [0,1,4,5,7,13,14,15,16] (by kernel_rfl) ?_
    (repeat ((try refine Vc.mk' ?_);simp (maxSteps:=6000000) only [go_sem,sk,C4 h,CS h,Cf h,D5 h,DI h,h.P,h.oc,h.cl,h.rd,h.ref,Aj hs,AZ hs,AY hs,AX h hs CY,l1,hlt,kk,kp,FH,w1,hv,AO ht5,AP ht5,hu,hap]))
    refine .mk (xs ++ [n],k+1) ⟨hlt,by show (xs ++ [n]).length=k+1;rw [List.length_append,hx];rfl,hr2⟩ (by show ws.length - (k+1) < ws.length - k;omega) ((by refine Bj.mk' [top+2] hcl (by simp) (by simp) rfl (Ac ?_) ?_ ?_ <;> simp [Sc.Av (fun j hj=>AB hj) hs,Al,Aa]))
  ·have hk2:k=ws.length:=by omega
   subst hk2
   have l1:¬((ws.length:Int) < (ws.length:Int)):=by omega
   have e:Ex ws (ws.length:Int)=some xs:=by rw [hO,hrun,List.drop_length];rfl
   rw [IB e]
   refine CW.vc PW [0,1,4,5,7,13,14,15,16] (by kernel_rfl) ?_
   (repeat ((try refine Vc.mk' ?_);simp (maxSteps:=6000000) only [go_sem,sk,C4 h,CS h,Cf h,D5 h,DI h,h.P,h.oc,h.cl,h.rd,h.ref,Aj hs,AZ hs,AY hs,AX h hs CY,l1,decide_false]))
   (refine ⟨[top],by simp,by simp,by simp, ?_, ?_, ?_⟩ <;> simp [Al,Aa])
end Go.Proofs.YthlhnangbinhoaaGreatDoor.Dm
