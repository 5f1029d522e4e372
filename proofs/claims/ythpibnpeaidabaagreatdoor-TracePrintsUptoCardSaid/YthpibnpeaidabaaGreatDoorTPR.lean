import Derived.Test.YthpibnpeaidabaaGreatDoorTBL
import Derived.Test.YthpibnpeaidabaaGreatDoorTPL
import Derived.Test.YthpibnpeaidabaaGreatDoorTSM
set_option linter.unusedVariables false
namespace Go.Proofs.YthpibnpeaidabaaGreatDoor.Dm
open Go.Dm
set_option maxHeartbeats 16000000
set_option maxRecDepth 20000
def Fq (l:List AE):Bool:=l.all LO
def TB (l:List AE):List UInt8:=if Fq l=true∧(Bf l).length≤65536 then Bf l else []
def SL (l:List AE):Int:=if Fq l=true then if (Bf l).length≤65536 then 0 else 3 else 2
def Jl (l:List AE):Value:= .tuple ⟨[.string ⟨⟨TB l⟩⟩, .int .i64 (SL l)]⟩
def Q9:BG:= .pure (fun args hp=>match args with | [v]=>HJ AA hp v∧(∀x∈AA.rd hp v,FY x)∧(AA.rd hp v).length≤16000000∧hp 0=some U9∧hp 1=some Rb | _=>False)
 (fun args hp=>match args with | [v]=>Jl (AA.rd hp v) | _=>undef)
theorem Ua {ρ:Nat→Nat}{a b:Value}:IZ ρ (EO a b)=EO (Ax ρ a) (Ax ρ b):=rfl
theorem WW {ρ:Nat→Nat}{l:List UInt8}:IZ ρ (Rv l)=Rv l:=by
 cases l with
 |nil=>rfl
 |cons a l=>
  show some (Ay.cells true ua (Bt ρ (J4 (a :: l))))=some (.cells true ua (J4 (a :: l)))
  have:∀l:List UInt8,Bt ρ (J4 l)=J4 l:=fun l=>by
   rw [FU,J4,List.map_map];rfl
  rw [this]
theorem VV {l:List AE}{x:AE}:Bf (l ++ [x])=Bf l ++ (C1 x ++ [10]):=by simp [Bf]
theorem N1 {l:List AE}{k:Nat}(h:k < l.length):Bf (l.take (k+1))=Bf (l.take k) ++ (C1 (at' l k) ++ [10]):=by rw [E9 h,VV]
theorem Kq {x:AE}(h:FY x):(C1 x).length≤2000:=by
 unfold C1
 split
 ·rename_i c;exact TY h (okF.1 c)
 ·exact Nat.zero_le _
theorem Gf:∀ {l:List AE},(∀x∈l,FY x)→(Bf l).length≤2001 * l.length
 | [],_=>Nat.le_refl _
 |x :: l,h=>by
  have h1:=Gf (l:=l) fun y hy=>h y (by simp [hy])
  have h2:=Kq (h x (by simp))
  rw [Mz]
  simp only [List.length_append,List.length_cons]
  omega
theorem at_mem {α:Type}[Inhabited α]{l:List α}{k:Nat}(h:k < l.length):at' l k∈l:=by rw [DV _ _ h];exact List.getElem_mem h
def Pp (top k:Nat):Value:=if k=0 then .pointer none else .pointer (some ⟨top,0,none⟩)
theorem fH {top k:Nat}:Pp top k= .pointer none∨Pp top k= .pointer (some ⟨top,0,none⟩):=by unfold Pp;split <;> simp
def Mf (hp:Hp)(top:Nat)(v:Value)(l:List AE)(k:Nat):SS:=⟨[(4, .pointer (some ⟨top,0,none⟩),true),(9,v,true),(10, .int .i64 (l.length:Int),true),(11, .int .i64 (k:Int),true)],hp.Al [(top,EO (Pp top k) (AR (top+1) (Bf (l.take k)))),(top+1,Rv (Bf (l.take k)))],top+2⟩
def yh:FuncId→BG:=BQ (BQ (BQ GT7 30 TM) 31 I1) 32 KL
theorem Ny:B4 Tryz.prog tt.get yh:=((xR.add vX).add mE).add mJ
theorem oz:yh 30=TM:=rfl
theorem gQ:yh 31=I1:=rfl
theorem od:yh 32=KL:=rfl
theorem du:yh 11=DU:=rfl
theorem tc:Aw Tryz.prog 10 Q9:=by
 refine .Ep P8 ?_ ?_
 ·intro args hp h
  match args,h with
  | [v],_=>rfl
 intro args hp hpre top hcl hsc
 match args,hpre with
 | [v],⟨⟨l,h⟩,hr,hb,ht,hp1⟩=>
 have hs:=h.low hcl
 have ht0:=hcl.lt _ _ ht
 have ht1:=hcl.lt _ _ hp1
 simp only [h.rd] at hb hr ⊢
 refine AK.Ar A7 P8 rfl 30 rfl [.tmp 2, .tmp 3] rfl (show 1≤30 by decide) ?_
 refine CW.vc Ny [0,2,3,4,6,7,8,9,10,11,12,21,28] (by kernel_rfl) ?_
 (repeat ((try refine Vc.mk' ?_);simp (maxSteps:=6000000) only [go_sem,BI h]))
 refine CW.Bs (Mf hp top v l) (fun k=>k≤l.length∧Fq (l.take k)=true) (fun k=>l.length - k) 0 ⟨Nat.zero_le _,rfl⟩ ?_ ?_
 ·exact (by refine Ao.mk' [top,top+1] hcl (by simp) (by simp) rfl (AG ?_) ?_ ?_ <;> simp [Ac,BU,Ax,Bt,AB.nil,AB.cons,A9,BA,Ap,DY,AD,BF,AJ.set,AJ.refl,Sc.Ax (fun j hj=>AM hj) hs,EC,show Pp top 0= .pointer none from rfl,show Bf ([] :List AE)= [] from rfl,show Rv [] = none from rfl,EO])
 ·rintro k ⟨hi,hok⟩
  by_cases hlt:k < l.length
  ·have hR:=hr _ (at_mem hlt)
   have kk:AP .i64 ((k:Int)+1)=((k+1:Nat):Int):=CL hlt (by omega)
   have hI:=Y1 hR
   have hE:=Df (x:=at' l k)
   simp only [Cs] at hI hE
   have hL:Hj (at' l k)= .tuple ⟨[.string ⟨⟨C1 (at' l k)⟩⟩, .int .i64 (if LO (at' l k) then 0 else 2)]⟩:=rfl
   by_cases c:LO (at' l k)=true
   ·have hts:=N1 hlt
    have hll:=Kq hR
    have hTl:=Gf (l:=l.take k) fun x hx=>hr x (List.mem_of_mem_take hx)
    have hTk:(l.take k).length≤16000000:=by rw [List.length_take];omega
    have n1:((C1 (at' l k)).length≤4611686018427387903)=True:=eq_true (by omega)
    generalize hT:Bf (l.take k)=T at hts hTl
    have hP:∀ {h':Hp},h' top=EO (Pp top k) (AR (top+1) T)→h' (top+1)=Rv T→Fj h' top (Pp top k) (top+1) T:=fun a b=>⟨a,fH,b,by omega⟩
    have hpre:∀ {h':Hp},h' top=EO (Pp top k) (AR (top+1) T)→h' (top+1)=Rv T→(∃a j l_1,Fj h' top a j l_1∧l_1.length+(C1 (at' l k) ++ [10]).length≤140737488355328)=True:=fun a b=>eq_true ⟨_,_,_,hP a b,by simp only [List.length_append,List.length_cons,List.length_nil];omega⟩
    have hbL:∀ {h':Hp},h' top=EO (Pp top k) (AR (top+1) T)→h' (top+1)=Rv T→Sj h' top=T:=fun a b=>(hP a b).gx
    have hb1:Pp top (k+1)= .pointer (some ⟨top,0,none⟩):=rfl
    have hnx:Fq (l.take (k+1))=true:=by rw [E9 hlt,Fq,List.all_append];simp [c];simpa [Fq] using hok
    by_cases k0:T= []
    ·have hbJ:∀ {h':Hp} {t:Nat},h' top=EO (Pp top k) (AR (top+1) T)→h' (top+1)=Rv T→OB h' top t=t:=fun a b=>by
      have:=hP a b
      rw [k0] at this
      exact this.dB
     refine CW.vc Ny [0,2,3,4,6,7,8,9,10,11,12,21,28] (by kernel_rfl) ?_
     (repeat ((try refine Vc.mk' ?_);simp (maxSteps:=6000000) only [go_sem,reduceCtorEq,Nat.reduceAdd,Nat.reduceLeDiff,Nat.reduceEqDiff,BW h,Cw h,Cf hs,Mf,hT,hlt,kk,du,DU,hI,hE,hL,c,if_true,ht,hp1,BS ht0,BS ht1,n1,oz,TM,hpre,yf,hbL,hbJ]))
     refine .mk (k+1) ⟨hlt,hnx⟩ (by omega) ((by refine Ao.mk' [top,top+3] hcl (by simp) (by simp) rfl (AG ?_) ?_ ?_ <;> simp [Ac,BU,Ax,AB.nil,AB.cons,Ap,DY,BJ,AD,BF,AJ.set,AJ.refl,Sc.Ax (fun j hj=>AM hj) hs,hts,Ua,WW,BJ,hb1]))
    ·have hbJ:∀ {h':Hp} {t:Nat},h' top=EO (Pp top k) (AR (top+1) T)→h' (top+1)=Rv T→OB h' top t=top+1:=fun a b=>(hP a b).kU k0
     refine CW.vc Ny [0,2,3,4,6,7,8,9,10,11,12,21,28] (by kernel_rfl) ?_
     (repeat ((try refine Vc.mk' ?_);simp (maxSteps:=6000000) only [go_sem,reduceCtorEq,Nat.reduceAdd,Nat.reduceLeDiff,Nat.reduceEqDiff,BW h,Cw h,Cf hs,Mf,hT,hlt,kk,du,DU,hI,hE,hL,c,if_true,ht,hp1,BS ht0,BS ht1,n1,oz,TM,hpre,yf,hbL,hbJ]))
     refine .mk (k+1) ⟨hlt,hnx⟩ (by omega) ((by refine Ao.mk' [top,top+3] hcl (by simp) (by simp) rfl (AG ?_) ?_ ?_ <;> simp [Ac,BU,Ax,AB.nil,AB.cons,Ap,DY,BJ,AD,BF,AJ.set,AJ.refl,Sc.Ax (fun j hj=>AM hj) hs,hts,Ua,WW,BJ,hb1]))
   ·have c':LO (at' l k)=false:=by simpa using c
    have hno:Fq l=false:=by
     rw [Fq,List.all_eq_false]
     exact ⟨_,at_mem hlt,by simpa using c⟩
    have e:Jl l= .tuple ⟨[.string ⟨⟨[]⟩⟩, .int .i64 2]⟩:=by simp [Jl,TB,SL,hno]
    rw [e]
    have hl0:C1 (at' l k)= []:=by unfold C1;rw [if_neg c]
    refine CW.vc Ny [0,2,3,4,6,7,8,9,10,11,12,21,28] (by kernel_rfl) ?_
    (repeat ((try refine Vc.mk' ?_);simp (maxSteps:=6000000) only [go_sem,Nat.reduceAdd,Int.reduceEq,BW h,Cw h,Cf hs,Mf,hlt,du,DU,hI,hE,hL,c',hl0,if_false,ht,hp1,BS ht0,BS ht1]))
  ·have hi2:k=l.length:=by omega
   subst hi2
   rw [List.take_length] at hok
   have hTl:=Gf (l:=l) hr
   have hP:∀ {h':Hp},h' top=EO (Pp top l.length) (AR (top+1) (Bf l))→h' (top+1)=Rv (Bf l)→Fj h' top (Pp top l.length) (top+1) (Bf l):=fun a b=>⟨a,fH,b,by omega⟩
   have hp2:∀ {h':Hp},h' top=EO (Pp top l.length) (AR (top+1) (Bf l))→h' (top+1)=Rv (Bf l)→(∃a j l_1,Fj h' top a j l_1)=True:=fun a b=>eq_true ⟨_,_,_,hP a b⟩
   have hp3:∀ {h':Hp},h' top=EO (Pp top l.length) (AR (top+1) (Bf l))→h' (top+1)=Rv (Bf l)→(∃a j l_1,Fj h' top a j l_1∧l_1.length≤140737488355328)=True:=fun a b=>eq_true ⟨_,_,_,hP a b,by omega⟩
   have hbL:∀ {h':Hp},h' top=EO (Pp top l.length) (AR (top+1) (Bf l))→h' (top+1)=Rv (Bf l)→Sj h' top=Bf l:=fun a b=>(hP a b).gx
   by_cases c:(Bf l).length≤65536
   ·have e:Jl l= .tuple ⟨[.string ⟨⟨Bf l⟩⟩, .int .i64 0]⟩:=by simp [Jl,TB,SL,hok,c]
    rw [e]
    have c':¬(65536:Int) < ((Bf l).length:Int):=by omega
    have hbJ:(∀ {h':Hp} {t:Nat},h' top=EO (Pp top l.length) (AR (top+1) (Bf l))→h' (top+1)=Rv (Bf l)→OB h' top t=t)∨(∀ {h':Hp} {t:Nat},h' top=EO (Pp top l.length) (AR (top+1) (Bf l))→h' (top+1)=Rv (Bf l)→OB h' top t=top+1):=by
     by_cases k0:Bf l= []
     ·refine .inl fun {h'} {t} a b=> ?_
      have:=hP a b
      rw [k0] at this
      exact this.dB
     ·exact .inr fun a b=>(hP a b).kU k0
    rcases hbJ with hbJ | hbJ
    ·refine CW.vc Ny [0,2,3,4,6,7,8,9,10,11,12,21,28] (by kernel_rfl) ?_
     (repeat ((try refine Vc.mk' ?_);simp (maxSteps:=6000000) only [go_sem,reduceCtorEq,Nat.reduceAdd,Mf,Nat.lt_irrefl,decide_false,List.take_length,gQ,I1,hp2,hbL,hbJ,c',od,KL,hp3]))
    ·refine CW.vc Ny [0,2,3,4,6,7,8,9,10,11,12,21,28] (by kernel_rfl) ?_
     (repeat ((try refine Vc.mk' ?_);simp (maxSteps:=6000000) only [go_sem,reduceCtorEq,Nat.reduceAdd,Mf,Nat.lt_irrefl,decide_false,List.take_length,gQ,I1,hp2,hbL,hbJ,c',od,KL,hp3]))
   ·have e:Jl l= .tuple ⟨[.string ⟨⟨[]⟩⟩, .int .i64 3]⟩:=by simp [Jl,TB,SL,hok,c]
    rw [e]
    have c':(65536:Int) < ((Bf l).length:Int):=by omega
    refine CW.vc Ny [0,2,3,4,6,7,8,9,10,11,12,21,28] (by kernel_rfl) ?_
    (repeat ((try refine Vc.mk' ?_);simp (maxSteps:=6000000) only [go_sem,reduceCtorEq,Mf,Nat.lt_irrefl,decide_false,List.take_length,gQ,I1,hp2,hbL,c']))
end Go.Proofs.YthpibnpeaidabaaGreatDoor.Dm
