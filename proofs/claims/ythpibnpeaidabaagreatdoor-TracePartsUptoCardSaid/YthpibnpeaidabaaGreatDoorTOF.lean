/- The events of one packet. -/
import Derived.Test.YthpibnpeaidabaaGreatDoorTSM
set_option linter.unusedVariables false
namespace Go.Proofs.YthpibnpeaidabaaGreatDoor.Dm
open Go.Dm
set_option maxHeartbeats 16000000
set_option maxRecDepth 20000
def JR (l:List AM)(id:Int):List AM:=l.filter fun e=>decide (e.Id=id)
theorem aG {l:List AM}{id:Int}{k:Nat}(h:k < l.length):JR (l.take (k+1)) id=if (at' l k).Id=id then JR (l.take k) id ++ [at' l k] else JR (l.take k) id:=by
 unfold JR
 rw [PT h,List.filter_append]
 by_cases c:(at' l k).Id=id <;> simp [c]
theorem iL {l:List AM}{id:Int}{k:Nat}:(JR (l.take k) id).length≤l.length:=by
 have h1:=List.length_filter_le (fun e:AM=>decide (e.Id=id)) (l.take k)
 have h2:(l.take k).length≤l.length:=by rw [List.length_take];omega
 unfold JR;omega
theorem nN {n:Nat}(h:n≤1759218604400):CK n KM.bytes=true:=by
 unfold CK
 rw [Bool.and_eq_true,show KM.bytes=80 from rfl]
 exact ⟨Nat.ble_eq_true_of_le (by omega),Nat.ble_eq_true_of_le (by omega)⟩
def Q7:BB:= .det (fun args hp _=>match args with | [v, .int .u32 _]=>KR AE hp v∧(AE.rd hp v).length≤1759218604390 | _=>False) (fun args hp top=>match args with | [v, .int _ id]=>(Ao top (JR (AE.rd hp v) id), [(top,Af AE (JR (AE.rd hp v) id))],top+1) | _=>(undef, [],top))
def UK (hp:Hp)(top:Nat)(v:Value)(l:List AM)(id:Int)(k:Nat):SS:=⟨[(0,v,true),(1, .int .u32 id,true),(5,Ao top (JR (l.take k) id),true),(8,v,true),(9, .int .i64 (l.length:Int),true),(10, .int .i64 (k:Int),true)],hp.Am [(top,Af AE (JR (l.take k) id))],top+1⟩
theorem tU:A4 Tryz.prog 20 Q7:=by
 refine .Ci Nd ?_
 intro args hp top hpre hcl hsc
 match args,hpre with
 | [v, .int .u32 id],⟨⟨l,h⟩,hb⟩=>
 have hs:=h.low hcl
 simp only [h.rd] at hb ⊢
 refine AK.A5 BC Nd rfl 24 rfl [.tmp 4] rfl (show 2≤24 by decide) ?_
 refine CW.vc Rq [0,1,4,5,7,8,9,10,11,17] (by kernel_rfl) ?_
 (repeat ((try refine Vc.mk' ?_);simp (config:= {maxSteps:=6000000}) only [go_sem,CN h]))
 refine CW.Bp (UK hp top v l id) (fun k=>k≤l.length) (fun k=>l.length - k) 0 (Nat.zero_le _) ?_ ?_
 ·exact (by refine Ar.mk' [top] hcl (by simp) (by simp) rfl (AG ?_) ?_ ?_ <;> simp [Ac,Ba,A3,AA.nil,AA.cons,BG,AH.refl,Sc.A3 (fun j hj=>AP hj) hs,show JR [] id= [] from rfl,JE,Iy])
 ·intro k hi
  by_cases hlt:k < l.length
  ·have kk:AL .i64 ((k:Int)+1)=((k+1:Nat):Int):=Fp hlt (by omega)
   have hlO:=iL (l:=l) (id:=id) (k:=k)
   have hap:∀ {h':Hp} {j q t:Nat},h' j=Af AE (JR (l.take k) id)→h' q=some (.cells true 10 (AE.enc (at' l k)))→Aj tt.get h' t [22,22] (Ao j (JR (l.take k) id)) (.slice (some ⟨q,0,none⟩) 1 1)=some (Ao t (JR (l.take k) id ++ [at' l k]),DZ j (JR (l.take k) id) t (Af AE (JR (l.take k) id ++ [at' l k])),t+1):=fun {h'} {j} {q} {t} a1 a2=>by
    have e3:cellsOf (h' q)=AE.enc (at' l k):=by rw [a2];rfl
    have:=Rb (hp:=h') (b:=j) (top:=t) (k:=q) a1 (by rw [e3];exact a2) (by rw [e3,AE.h]) (nN (by omega))
    rwa [e3,AE.h] at this
   simp only [Gz] at hap
   have es:=aG (id:=id) hlt
   by_cases c:(at' l k).Id=id
   ·rw [if_pos c] at es
    refine CW.vc Rq [0,1,4,5,7,8,9,10,11,17] (by kernel_rfl) ?_
    (repeat ((try refine Vc.mk' ?_);simp (config:= {maxSteps:=6000000}) only [go_sem,reduceCtorEq,Nat.reduceAdd,Nat.reduceMul,Nat.reduceLT,Nat.reduceLeDiff,DG h,Dd h,Gf hs,UK,hlt,kk,c,hap,decide_true]))
    refine .mk (k+1) hlt (by omega) ((by refine Ar.mk' [top+3] hcl (by simp) (by simp) rfl (AG ?_) ?_ ?_ <;> simp [Ac,Ba,A3,AA.nil,AA.cons,B0,BG,Cs,AB,AH.set,AH.refl,Sc.A3 (fun j hj=>AP hj) hs,es]))
   ·rw [if_neg c] at es
    refine CW.vc Rq [0,1,4,5,7,8,9,10,11,17] (by kernel_rfl) ?_
    (repeat ((try refine Vc.mk' ?_);simp (config:= {maxSteps:=6000000}) only [go_sem,Nat.reduceAdd,Nat.reduceLT,DG h,Dd h,Gf hs,UK,hlt,kk,c,decide_false]))
    refine .mk (k+1) hlt (by omega) ((by refine Ar.mk' [top] hcl (by simp) (by simp) rfl (AG ?_) ?_ ?_ <;> simp [Ac,Ba,A3,AA.nil,AA.cons,B0,BG,Cs,AB,BH,AH.set,AH.refl,Sc.A3 (fun j hj=>AP hj) hs,es]))
  ·have hi2:k=l.length:=by omega
   subst hi2
   refine CW.vc Rq [0,1,4,5,7,8,9,10,11,17] (by kernel_rfl) ?_
   (repeat ((try refine Vc.mk' ?_);simp (config:= {maxSteps:=6000000}) only [go_sem,UK,Nat.lt_irrefl,decide_false]))
   (refine ⟨[top],by simp,by simp,by simp, ?_, ?_, ?_⟩ <;> simp [AA.nil,AA.cons,B0,BG,Cs,AB,AH.set,AH.refl,List.take_length])
end Go.Proofs.YthpibnpeaidabaaGreatDoor.Dm
