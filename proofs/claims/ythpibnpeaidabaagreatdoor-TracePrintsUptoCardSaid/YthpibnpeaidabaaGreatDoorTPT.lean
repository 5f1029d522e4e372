import Derived.Test.YthpibnpeaidabaaGreatDoorTPR
import Derived.Test.YthpibnpeaidabaaGreatDoorTR3
set_option linter.unusedVariables false
namespace Go.Proofs.YthpibnpeaidabaaGreatDoor.Dm
open Go.Dm
set_option maxHeartbeats 16000000
set_option maxRecDepth 20000
def FJ (s:List UInt8):List Int:=s.map fun b=>(b.toNat:Int)
theorem Ia {s:List UInt8}:(FJ s).length=s.length:=by simp [FJ]
theorem Wt {s t:List UInt8}:FJ (s ++ t)=FJ s ++ FJ t:=by simp [FJ]
theorem UH {s:List UInt8}:bytesOf (FJ s)=s:=by
 unfold bytesOf FJ
 rw [List.map_map]
 conv=>rhs;rw [←List.map_id s]
 refine List.map_congr_left fun b _=> ?_
 simp
theorem Uy (l:List Int):Ae.flat l=l.map (Value.int .u8):=by
 induction l with
 |nil=>rfl
 |cons x l ih=>show Value.int .u8 x :: Ae.flat l=_;rw [ih];rfl
theorem eg {n:Nat}(h:n≤140737488355328):B6 n Z5.bytes=true:=by
 unfold B6
 rw [Bool.and_eq_true,show Z5.bytes=1 from rfl]
 exact ⟨Nat.ble_eq_true_of_le (by omega),Nat.ble_eq_true_of_le (by omega)⟩
theorem ZL {hp:Hp}{s:List UInt8}:Ck hp 1 s.length (.string ⟨⟨s⟩⟩)=some (Ae.flat (FJ s)):=by
 unfold Ck
 rw [Uy]
 simp [FJ,Nat.ble_eq_true_of_le (Nat.le_refl s.length)]
theorem sZ {hp:Hp}{b top:Nat}{l:List Int}{s:List UInt8}(h:hp b=AV Ae l)(hn:l.length+s.length≤140737488355328) :
  Ab tt.get hp top [60,9] (AR b l) (.string ⟨⟨s⟩⟩)=some (AR top (l ++ FJ s),CP b l top (AV Ae (l ++ FJ s)),top+1):=by
 have hf:=ZL (hp:=hp) (s:=s)
 have hlx:FO (.string ⟨⟨s⟩⟩)=some s.length:=rfl
 have hi:DB iy.ud=false:=rfl
 have hd:Ng.ud= .slice 5:=rfl
 have hs:Z5.size=1:=rfl
 have hby:Nat.ble Z5.bytes 65536=true:=rfl
 have h3:=Ae.GO (FJ s)
 have hfl:(Ae.flat (FJ s)).length=s.length:=by rw [Uy,List.length_map,Ia]
 have h4:Nat.beq (Ae.flat (FJ s)).length (s.length * 1)=true:=by rw [hfl];simp
 cases l with
 |nil=>
  cases s with
  |nil=>
   simp only [List.length_nil] at hf hlx
   simp [Ab,CQ,B2,hlx,hi,hd,EK,hs,hf,hby,FJ,Aq,AR,AV,CP,Bk.Dj]
  |cons y s=>
   have h2:=eg (n:=(y :: s).length) (by simpa using hn)
   have h5:Nat.beq (y :: s).length 0=false:=rfl
   simp only [Ab,CQ,B2,hlx,hi,hd,EK,hs,hf,hby,h2,h3,h4,h5,AR,AV,CP,List.nil_append,Bool.and_self]
   simp [FJ,Ae]
 |cons a l=>
  have hb:hp b=some (.cells true 1 (Ae.flat (a :: l))):=h
  have h6:(Nat.ble (l.length+1+s.length) (l.length+1) && !Nat.beq (l.length+1) (l.length+1))=false:=by
   rw [Nat.beq_refl];simp
  have h7:(Nat.beq (0+(l.length+1) * 1) (Ae.flat (a :: l)).length && B6 (l.length+1+s.length) Z5.bytes)=true:=by
   rw [Bool.and_eq_true]
   exact ⟨by rw [Uy];simp,eg (by simpa using hn)⟩
  have h5:Nat.beq 1 1=true:=rfl
  simp only [Ab,CQ,B2,hlx,hi,hd,EK,hs,hf,hby,hb,h3,h4,h5,h6,h7,AR,AV,CP,Bool.and_self,List.cons_append,List.drop_zero]
  simp only [List.length_append,Bk.CB,Bk.Ev,List.append_assoc,Ia]
  have e1:l.length+1+s.length=l.length+s.length+1:=by omega
  rw [e1]
  rfl
theorem ss {h':Hp}{t:Nat}{s:List UInt8}(e:h' t=AV Ae (FJ s)):BX tt.get h' 60 9 (AR t (FJ s))=(.string ⟨⟨s⟩⟩,True):=by
 cases s with
 |nil=>exact NT DN Ei OA
 |cons a s=>
  have hb:h' t=some (.cells true Ae.size (Ae.flat (FJ (a :: s)))):=e
  have:=G7 (o:=0) (n:=(FJ (a :: s)).length) (c:=(FJ (a :: s)).length) (l:=FJ (a :: s)) DN Ei OA hb (by rw [List.drop_zero,Uy];rw [List.take_of_length_le (by simp)]) (by rw [Uy];simp)
  rw [UH] at this
  exact this
def L3:BG:= .pure (fun args hp=>match args with | [v]=>HJ AA hp v∧(∀x∈AA.rd hp v,FY x)∧(AA.rd hp v).length≤16000000∧hp 0=some U9∧hp 1=some Rb | _=>False)
 (fun args hp=>match args with | [v]=>Jl (AA.rd hp v) | _=>undef)
def GRP:FuncId→BG:=BQ tU 50 DU
theorem Tw:B4 Tryz.prog tt.get GRP:=TC.add gy
theorem pg:GRP 50=DU:=rfl
def M7 (hp:Hp)(top:Nat)(v:Value)(l:List AE)(k:Nat):SS:=⟨[(0,v,true),(4,AR top (FJ (Bf (l.take k))),true),(5, .int .i64 (k:Int),true)],hp.Al [(top,AV Ae (FJ (Bf (l.take k))))],top+1⟩
theorem mK:Aw Tryz.prog 22 L3:=by
 refine .Ep QY ?_ ?_
 ·intro args hp h
  match args,h with
  | [v],_=>rfl
 intro args hp hpre top hcl hsc
 match args,hpre with
 | [v],⟨⟨l,h⟩,hr,hb,ht,hp1⟩=>
 have hs:=h.low hcl
 have ht0:=hcl.lt _ _ ht
 have ht1:=hcl.lt _ _ hp1
 simp only [h.rd] at hb hr ⊢
 refine AK.Ar A7 QY rfl 36 rfl [.tmp 2, .tmp 3] rfl (show 1≤36 by decide) ?_
 refine CW.vc Tw [0,2,3,4,5,6,7,11,23,33] (by kernel_rfl) ?_
 (repeat ((try refine Vc.mk' ?_);simp (maxSteps:=6000000) only [go_sem]))
 refine CW.Bs (M7 hp top v l) (fun k=>k≤l.length∧Fq (l.take k)=true) (fun k=>l.length - k) 0 ⟨Nat.zero_le _,rfl⟩ ?_ ?_
 ·exact (by refine Ao.mk' [top] hcl (by simp) (by simp) rfl (AG ?_) ?_ ?_ <;> simp [Ac,BU,Ax,AB.nil,AB.cons,Ap,AJ.refl,Sc.Ax (fun j hj=>AM hj) hs,EC,Et,show Bf ([] :List AE)= [] from rfl,show FJ [] = [] from rfl])
 ·rintro k ⟨hi,hok⟩
  by_cases hlt:k < l.length
  ·have hR:=hr _ (at_mem hlt)
   have kk:AP .i64 ((k:Int)+1)=((k+1:Nat):Int):=CL hlt (by omega)
   have hI:=Y1 hR
   have hE:=Df (x:=at' l k)
   simp only [Cs] at hI hE
   have hL:Hj (at' l k)= .tuple ⟨[.string ⟨⟨C1 (at' l k)⟩⟩, .int .i64 (if LO (at' l k) then 0 else 2)]⟩:=rfl
   by_cases c:LO (at' l k)=true
   ·have hts:=N1 hlt
    have hll:=Kq hR
    have hTl:=Gf (l:=l.take k) fun x hx=>hr x (List.mem_of_mem_take hx)
    have hTk:(l.take k).length≤16000000:=by rw [List.length_take];omega
    generalize hT:Bf (l.take k)=T at hts hTl
    obtain ⟨s,hls⟩:∃s,s=C1 (at' l k):=⟨_,rfl⟩
    rw [←hls] at hts hll hL
    have ha1:∀ {h':Hp} {j t:Nat},h' j=AV Ae (FJ T)→Ab tt.get h' t [60,9] (AR j (FJ T)) (.string ⟨⟨s⟩⟩)=some (AR t (FJ T ++ FJ s),CP j (FJ T) t (AV Ae (FJ T ++ FJ s)),t+1):=fun e=>sZ e (by rw [Ia];omega)
    have ha2:∀ {h':Hp} {j q t:Nat},h' j=AV Ae (FJ T ++ FJ s)→h' q=some (.cells true 1 [.int .u8 10])→Ab tt.get h' t [60,60] (AR j (FJ T ++ FJ s)) (.slice (some ⟨q,0,none⟩) 1 1)=some (AR t (FJ T ++ FJ s ++ [10]),CP j (FJ T ++ FJ s) t (AV Ae (FJ T ++ FJ s ++ [10])),t+1):=fun {h'} {j} {q} {t} a1 a2=>by
     have e3:cellsOf (h' q)= [.int .u8 10]:=by rw [a2];rfl
     have:=Se (hp:=h') (b:=j) (top:=t) (k:=q) a1 (by rw [e3];exact a2) (by rw [e3];rfl) (eg (by rw [List.length_append,Ia,Ia];omega))
     rw [e3] at this
     exact this
    have hb3:FJ (T ++ (s ++ [10]))=FJ T ++ FJ s ++ [10]:=by rw [Wt,Wt,List.append_assoc];rfl
    have hnx:Fq (l.take (k+1))=true:=by rw [E9 hlt,Fq,List.all_append];simp [c];simpa [Fq] using hok
    refine CW.vc Tw [0,2,3,4,5,6,7,11,23,33] (by kernel_rfl) ?_
    (repeat ((try refine Vc.mk' ?_);simp (maxSteps:=6000000) only [go_sem,Nat.reduceAdd,Nat.reduceMul,Nat.reduceLeDiff,Nat.reduceEqDiff,BI h,BW h,Cw h,Cf hs,M7,hT,hlt,kk,pg,DU,hI,hE,hL,c,if_true,ht,hp1,BS ht0,BS ht1,ha1,ha2,YV]))
    refine .mk (k+1) ⟨hlt,hnx⟩ (by omega) ((by refine Ao.mk' [top+3] hcl (by simp) (by simp) rfl (AG ?_) ?_ ?_ <;> simp [Ac,BU,Ax,AB.nil,AB.cons,Az,Ap,BJ,AD,AJ.set,AJ.refl,Sc.Ax (fun j hj=>AM hj) hs,hts,hb3]))
   ·have c':LO (at' l k)=false:=by simpa using c
    have hno:Fq l=false:=by
     rw [Fq,List.all_eq_false]
     exact ⟨_,at_mem hlt,by simpa using c⟩
    have e:Jl l= .tuple ⟨[.string ⟨⟨[]⟩⟩, .int .i64 2]⟩:=by simp [Jl,TB,SL,hno]
    rw [e]
    have hl0:C1 (at' l k)= []:=by unfold C1;rw [if_neg c]
    refine CW.vc Tw [0,2,3,4,5,6,7,11,23,33] (by kernel_rfl) ?_
    (repeat ((try refine Vc.mk' ?_);simp (maxSteps:=6000000) only [go_sem,Int.reduceEq,BI h,BW h,Cw h,Cf hs,M7,hlt,pg,DU,hI,hE,hL,c',hl0,if_false,ht,hp1,BS ht0,BS ht1]))
  ·have hi2:k=l.length:=by omega
   subst hi2
   rw [List.take_length] at hok
   have hTl:=Gf (l:=l) hr
   have hln:∀ {h':Hp} {t:Nat},Cj tt.get h' 60 (AR t (FJ (Bf l)))=(.int .i64 ((Bf l).length:Int),True):=fun {h'} {t}=>by
    have:=Y5 (b:=t) (l:=FJ (Bf l)) (hp2:=h')
    rwa [Ia] at this
   by_cases c:(Bf l).length≤65536
   ·have e:Jl l= .tuple ⟨[.string ⟨⟨Bf l⟩⟩, .int .i64 0]⟩:=by simp [Jl,TB,SL,hok,c]
    rw [e]
    have c':¬(65536:Int) < ((Bf l).length:Int):=by omega
    refine CW.vc Tw [0,2,3,4,5,6,7,11,23,33] (by kernel_rfl) ?_
    (repeat ((try refine Vc.mk' ?_);simp (maxSteps:=6000000) only [go_sem,BI h,M7,Nat.lt_irrefl,decide_false,List.take_length,hln,c',ss]))
   ·have e:Jl l= .tuple ⟨[.string ⟨⟨[]⟩⟩, .int .i64 3]⟩:=by simp [Jl,TB,SL,hok,c]
    rw [e]
    have c':(65536:Int) < ((Bf l).length:Int):=by omega
    refine CW.vc Tw [0,2,3,4,5,6,7,11,23,33] (by kernel_rfl) ?_
    (repeat ((try refine Vc.mk' ?_);simp (maxSteps:=6000000) only [go_sem,BI h,M7,Nat.lt_irrefl,decide_false,List.take_length,hln,c',decide_true]))
end Go.Proofs.YthpibnpeaidabaaGreatDoor.Dm
