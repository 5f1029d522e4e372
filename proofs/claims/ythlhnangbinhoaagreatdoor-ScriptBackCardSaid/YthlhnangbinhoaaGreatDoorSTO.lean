/- Short lines. -/
import Derived.Test.YthlhnangbinhoaaGreatDoorSVT
import Derived.Test.YthlhnangbinhoaaGreatDoorSKN
set_option linter.unusedSimpArgs false
set_option linter.unusedVariables false
namespace Go.Proofs.YthlhnangbinhoaaGreatDoor.Dm
open Go.Dm
set_option maxHeartbeats 16000000
set_option maxRecDepth 20000
theorem YU {o:Aq}(hO:Gy o)(hb:o.Bytes.length≤20)(j:Nat):(DY j o).length≤41:=by
 have hi:∀ {n:Int},IE n→(Lib.itoa n).length≤41:=fun {n} h=>by have:=Lib.itoa_length_le n h.1 h.2;omega
 have h4:(YW o.Bytes).length≤41:=by
  unfold YW
  split
  ·decide
  ·rw [KB];omega
 unfold DY
 split
 ·exact hi hO.r
 ·exact hi hO.p
 ·exact hi hO.g
 ·exact hi ⟨by have:=hO.e0;omega,by have:=hO.e1;omega⟩
 ·exact h4
 ·exact hi hO.t
theorem M8 {o:Aq}{F:Int}(hO:Gy o)(hb:o.Bytes.length≤20):∀(n j:Nat) (ws:Ld),1≤ws.length→(Lib.join ws [32]).length≤42 * ws.length→(Lib.join (DN F o n j ws) [32]).length≤42 * (ws.length+n)
 |0,_,ws,_,h=>by show (Lib.join ws [32]).length≤_;omega
 |n+1,j,ws,h1,h=>by
  unfold DN
  have hw:=YU hO hb j
  split
  ·have:=M8 hO hb (F:=F) n (j+1) (ws ++ [DY j o]) (by simp) (by
    rw [PN,if_neg (by omega)]
    simp only [List.length_append,List.length_cons,List.length_nil];omega)
   simp only [List.length_append,List.length_cons,List.length_nil] at this
   omega
  ·have:=M8 hO hb (F:=F) n (j+1) ws h1 h
   omega
theorem Ya {o:Aq}(hO:Gy o)(hb:o.Bytes.length≤20):(DL o).length≤300:=by
 unfold DL
 have h2:((LH o).getD []).length≤294:=by
  cases h:LH o with
  |none=>simp
  |some s=>
   unfold LH at h
   cases hf:Ib o.Kind B6 with
   |none=>rw [hf] at h;cases h
   |some r=>
    rw [hf] at h
    dsimp only at h
    split at h
    ·have h:=Option.some.inj h
     obtain ⟨w1,w2⟩:=RE r (PT hf)
     have:=M8 (F:=r.fields) hO hb 6 0 [r.word] (by simp) (by simp [Lib.join];omega)
     rw [h] at this
     simpa using this
    ·cases h
 have:=GJ (w:=(LH o).getD []) (tl:= []) (ns:= []) (by simp)
 simp only [List.length_nil] at this;omega
def opsOf (ds:List C6):List Aq:=(ds.take 30).map HH
theorem Rr {ds:List C6}(h:∀d∈ds,QH d):Mf (opsOf ds):=by
 intro o ho
 obtain ⟨d,hd,rfl⟩:=List.mem_map.1 ho
 have:=b9 (h d (List.mem_of_mem_take hd))
 exact ⟨this.1,this.2.1⟩
theorem TZ {ds:List C6}:(opsOf ds).length≤30:=by unfold opsOf;rw [List.length_map,List.length_take];omega
theorem TN {ds:List C6}(h:∀d∈ds,QH d){l:List Aq}(hl:∀o∈l,o∈opsOf ds):(A1 DL l).length≤300 * l.length:=
 FZ fun o ho=>by
  obtain ⟨d,hd,rfl⟩:=List.mem_map.1 (hl o ho)
  have:=b9 (h d (List.mem_of_mem_take hd))
  exact Ya this.1 this.2.2
end Go.Proofs.YthlhnangbinhoaaGreatDoor.Dm
set_option linter.unusedSimpArgs false
set_option linter.unusedVariables false
namespace Go.Proofs.YthlhnangbinhoaaGreatDoor.Dm
open Go.Dm
set_option maxHeartbeats 64000000
set_option maxRecDepth 20000
noncomputable def Uk:FuncId→Bz:=Cx XH 14 E3
theorem IK:DU Tryz.prog tt.get Uk:=Ep.add iw
theorem Kh:Uk 14=E3:=rfl
theorem Kk:Uk 17=JA:=rfl
theorem KW:Uk 20=I6:=rfl
theorem KO:Uk 12=Dw:=rfl
theorem LB:Uk 13=Hu (fun _=>True) Fl:=rfl
theorem Ki:Uk 15=Hj:=rfl
def qu:Bz:= .pure (fun args hp=>match args with | [v, .int .u8 a]=>G6 B8 hp v∧(∀d∈B8.rd hp v,QH d)∧0≤a∧a < 256∧Cp hp∧hp 7=dn | _=>False) (fun _ _=> .bool true)
def Co (l:List Aq)(k i:Nat):List UInt8:=if i≤k then Ca (l.take i) else Ca (l.take k) ++ (M4 ++ 10 :: A1 DL ((l.take i).drop k))
theorem cP {l:List Aq}{o:Aq}:Ca (l ++ [o])=Ca l ++ DL o:=by unfold Ca;rw [GR,List.append_assoc]
theorem qZ {l:List Aq}{k i:Nat}(h:i < k)(hi:i < l.length):Co l k (i+1)=Co l k i ++ DL (at' l i):=by
 unfold Co
 rw [if_pos (by omega),if_pos (by omega),DV hi,cP]
theorem rA {l:List Aq}{k i:Nat}(h:k < i)(hi:i < l.length):Co l k (i+1)=Co l k i ++ DL (at' l i):=by
 unfold Co
 rw [if_neg (by omega),if_neg (by omega),DV hi,List.drop_append_of_le_length (by rw [List.length_take];omega),GR]
 simp [List.append_assoc]
theorem nw {l:List Aq}{k:Nat}(hi:k < l.length):Co l k (k+1)=Co l k k ++ (M4 ++ [10]) ++ DL (at' l k):=by
 unfold Co
 rw [if_neg (by omega),if_pos (Nat.le_refl _),DV hi,List.drop_append_of_le_length (by rw [List.length_take];omega)]
 rw [List.drop_eq_nil_of_le (by rw [List.length_take];omega)]
 simp [A1,List.append_assoc]
theorem gn {l:List Aq}{k:Nat}(h:k < l.length):Co l k (l.length+1)=Co l k l.length:=by
 unfold Co
 have e:l.take (l.length+1)=l:=List.take_of_length_le (Nat.le_succ _)
 rw [if_neg (by omega),if_neg (by omega),e,List.take_length]
theorem eY {l:List Aq}:Co l l.length (l.length+1)=Co l l.length l.length ++ (M4 ++ [10]):=by
 unfold Co
 rw [if_neg (by omega),if_pos (Nat.le_refl _),List.take_of_length_le (Nat.le_succ _),List.take_length,List.drop_length]
 simp [A1]
theorem Wf {l:List Aq}{k:Nat}(h:k≤l.length):Co l k (l.length+1)=Ca (l.take k) ++ (M4 ++ 10 :: A1 DL (l.drop k)):=by
 unfold Co
 rw [if_neg (by omega),List.take_of_length_le (Nat.le_succ _)]
def dz (hp:Hp)(top:Nat)(v:Value)(l:List Aq)(k i:Nat):SS:=⟨[(0,v,true),(5, .int .i64 (l.length:Int),true),(6, .int .i64 (k:Int),true),(7, .string ⟨⟨Co l k i⟩⟩,true),(8, .int .i64 (i:Int),true)],hp.A6 [],top+0⟩
theorem qI:BR Tryz.prog 6 qu:=by
 refine .LN ZV ?_ ?_
 ·rintro args hp h
  match args,h with
  | [_, .int .u8 a],_=>rfl
 intro args hp hpre top hcl hsc
 match args,hpre with
 | [v, .int .u8 a],⟨⟨ds,h⟩,hD,a0,a1,hv,h7⟩=>
 rw [h.rd] at hD
 have hs:=h.low hcl
 have hp1:=hv.1
 have ht1:=hcl.lt _ _ hp1
 have ht5:=FE hcl hv
 have h70:=hcl.lt _ _ h7
 have hle:=h.le
 have hn30:=TZ (ds:=ds)
 have hgood:=Rr hD
 have hnl:(opsOf ds).length=min ds.length 30:=by unfold opsOf;rw [List.length_map,List.length_take,Nat.min_comm]
 have hmin:(bif decide ((30:Int) < (ds.length:Int)) then 30 else (ds.length:Int))=((opsOf ds).length:Int):=by
  rw [hnl]
  by_cases c:30 < ds.length
  ·rw [decide_eq_true (by omega)];simp;omega
  ·rw [decide_eq_false (by omega)];simp;omega
 have hat:∀i,i < (opsOf ds).length→at' (opsOf ds) i=HH (at' ds i)∧i < ds.length:=fun i hi=>by
  have h2:i < ds.length:=by omega
  refine ⟨?_,h2⟩
  rw [Cb _ _ hi,Cb _ _ h2]
  simp [opsOf]
 generalize hl:opsOf ds=l at *
 have w1:Ar .i64 ((l.length:Int)+1)=(l.length:Int)+1:=wrap64 (by omega) (by omega)
 have wa:Ar .i64 a=a:=wrap64 (by omega) (by omega)
 obtain ⟨k,hk,hkn⟩:∃k:Nat,a.tmod ((l.length:Int)+1)=(k:Int)∧k≤l.length:=by
  rw [Int.tmod_eq_emod_of_nonneg a0]
  have e0:=Int.emod_nonneg a (show (l.length:Int)+1≠0 by omega)
  have e1:=Int.emod_lt_of_pos a (show 0 < (l.length:Int)+1 by omega)
  exact ⟨(a % ((l.length:Int)+1)).toNat,by omega,by omega⟩
 have wn:((l.length:Int)+1=0)=False:=eq_false (by omega)
 refine Ae.Bn Bu ZV rfl 92 rfl [.tmp 4] rfl (show 2≤92 by decide) ?_
 refine CW.vc IK [0,1,4,5,6,7,8,9,10,11,12,13,24,29,34,45] (by kernel_rfl) ?_
 (repeat ((try refine Vc.mk' ?_);simp (maxSteps:=6000000) only [go_sem,MV h,MH h,PY h,Oa h,Oe h,J3 h,Je h,Jb h,J0 h,Jk h,KC h,J6 h,Jj h,Ji h,Ju h,Jd h,Jt h,J8 h,Jr h,h.P,h.oc,h.cl,h.rd,h.ref,Aj hs,AZ hs,AY hs,AX h hs Hz,hmin,w1,wa,hk,wn]))
 have hwl:∀i,i < l.length→∃w,LH (at' l i)=some w∧DL (at' l i)=w ++ [10]∧Gy (at' l i):=fun i hi=>by
  obtain ⟨g1,g2⟩:=hgood (at' l i) (by rw [Cb _ _ hi];exact List.getElem_mem hi)
  cases ho:LH (at' l i) with
  |none=>rw [ho] at g2;cases g2
  |some w=>exact ⟨w,rfl,by unfold DL;rw [ho];simp [DM,Ff],g1⟩
 have hTl:∀i,(Co l k i).length≤20000:=fun i=>by
  have hx:∀m:List Aq,(∀o∈m,o∈l)→m.length≤30→(A1 DL m).length≤9000:=fun m hm hml=>by
   have:=TN hD (l:=m) (fun o ho=>by rw [hl];exact hm o ho)
   omega
  have a1:=hx (l.take i) (fun o ho=>List.mem_of_mem_take ho) (by rw [List.length_take];omega)
  have a2:=hx (l.take k) (fun o ho=>List.mem_of_mem_take ho) (by rw [List.length_take];omega)
  have a3:=hx ((l.take i).drop k) (fun o ho=>List.mem_of_mem_take (List.mem_of_mem_drop ho)) (by rw [List.length_drop,List.length_take];omega)
  have a4:M4.length=6:=rfl
  unfold Co Ca
  split
  ·rw [List.length_append,Ec];omega
  ·simp only [List.length_append,List.length_cons,Ec];omega
 refine CW.D9 (dz hp top v l k) (fun i=>i≤l.length+1) (fun i=>l.length+1 - i) 0 (Nat.zero_le _) ?_ ?_
 ·exact (by refine Bj.mk' [] hcl (by simp) (by simp) rfl (Ac ?_) ?_ ?_ <;> simp [Sc.Av (fun j hj=>AB hj) hs,Co,Ca,A1,LJ])
 intro i hi
 have tL:=hTl i
 by_cases hin:i≤l.length
 ·have ii:((i:Int)≤(l.length:Int))=True:=eq_true (by omega)
  have ii2:¬((l.length:Int) < (i:Int)):=by omega
  have kk:Ar .i64 ((i:Int)+1)=((i+1:Nat):Int):=B0 (n:=4294967281) (by omega) (by omega)
  by_cases hlt:i < l.length
  ·obtain ⟨ha,hlt2⟩:=hat i hlt
   obtain ⟨w,hw,hw2,hO⟩:=hwl i hlt
   have jj:((i:Int) < (l.length:Int))=True:=eq_true (by omega)
   have jn:((i:Int) < (ds.length:Int)):=by omega
   have hDi:=hD (at' ds i) (by rw [Cb _ _ hlt2];exact List.getElem_mem hlt2)
   have hI:=AAW hDi
   have hE:=Qt (x:=at' ds i)
   simp only [JH] at hI hE
   have hIo:=Vy hO
   have hEo:=E8 (x:=at' l i)
   rw [ha] at hIo hEo hw hw2
   simp only [Aw] at hIo hEo
   have hlv:=bI hw
   have wl:w.length≤8000:=(Nq (by rw [←ha];exact hO) hw).1
   have s1:((Co l k i).length≤4611686018427387897)=True:=eq_true (by omega)
   have s2:((Co l k i).length+(7+w.length)≤4611686018427387904)=True:=eq_true (by omega)
   have s3:((Co l k i).length+(w.length+8)≤4611686018427387904)=True:=eq_true (by omega)
   have s4:((Co l k i).length+w.length≤4611686018427387904)=True:=eq_true (by omega)
   have s5:((Co l k i).length+(w.length+1)≤4611686018427387904)=True:=eq_true (by omega)
   have s6:((Co l k i).length+w.length≤4611686018427387903)=True:=eq_true (by omega)
   by_cases hik:i=k
   ·have e1:((i:Int)=(k:Int))=True:=eq_true (by omega)
    have e2:Co l k (i+1)=Co l k i ++ [116,111,99,107,32,57,10] ++ w ++ [10]:=by
     subst hik
     rw [nw hlt,ha,hw2];simp [M4,List.append_assoc]
    refine CW.vc IK [0,1,4,5,6,7,8,9,10,11,12,13,24,29,34,45] (by kernel_rfl) ?_
    (repeat ((try refine Vc.mk' ?_);simp (maxSteps:=6000000) only [go_sem,Kk,KW,KO,LB,Kh,Ki,JA,I6,Dw,Hu,E3,Hj,hv,hp1,h7,AG ht1,AG h70,AO ht5,AP ht5,I1,I2,AU,MV h,MH h,PY h,Oa h,Oe h,J3 h,Je h,Jb h,J0 h,Jk h,KC h,J6 h,Jj h,Ji h,Ju h,Jd h,Jt h,J8 h,Jr h,h.P,h.oc,h.cl,h.rd,h.ref,Aj hs,AZ hs,AY hs,AX h hs Hz,dz,ii,ii2,e1,jj,jn,hlt2,hI,hE,hIo,hEo,hlv,kk,s1,s2,s3,s4,s5,s6,decide_true,decide_false,List.length_append,List.append_assoc]))
    refine .mk (i+1) (by omega) (by omega) ((by refine Bj.mk' [] hcl (by simp) (by simp) rfl (Ac ?_) ?_ ?_ <;> simp [Sc.Av (fun j hj=>AB hj) hs,e2]))
   ·have e1:((i:Int)=(k:Int))=False:=eq_false (by omega)
    have e2:Co l k (i+1)=Co l k i ++ w ++ [10]:=by
     rcases Nat.lt_or_ge i k with c | c
     ·rw [qZ c hlt,ha,hw2];simp [List.append_assoc]
     ·rw [rA (by omega) hlt,ha,hw2];simp [List.append_assoc]
    refine CW.vc IK [0,1,4,5,6,7,8,9,10,11,12,13,24,29,34,45] (by kernel_rfl) ?_
    (repeat ((try refine Vc.mk' ?_);simp (maxSteps:=6000000) only [go_sem,Kk,KW,KO,LB,Kh,Ki,JA,I6,Dw,Hu,E3,Hj,hv,hp1,h7,AG ht1,AG h70,AO ht5,AP ht5,I1,I2,AU,MV h,MH h,PY h,Oa h,Oe h,J3 h,Je h,Jb h,J0 h,Jk h,KC h,J6 h,Jj h,Ji h,Ju h,Jd h,Jt h,J8 h,Jr h,h.P,h.oc,h.cl,h.rd,h.ref,Aj hs,AZ hs,AY hs,AX h hs Hz,dz,ii,ii2,e1,jj,jn,hlt2,hI,hE,hIo,hEo,hlv,kk,s1,s2,s3,s4,s5,s6,decide_true,decide_false,List.length_append,List.append_assoc]))
    refine .mk (i+1) (by omega) (by omega) ((by refine Bj.mk' [] hcl (by simp) (by simp) rfl (Ac ?_) ?_ ?_ <;> simp [Sc.Av (fun j hj=>AB hj) hs,e2]))
  ·have hik2:i=l.length:=by omega
   have jj:((i:Int) < (l.length:Int))=False:=eq_false (by omega)
   have s1:((Co l k i).length≤4611686018427387897)=True:=eq_true (by omega)
   by_cases hik:i=k
   ·have e1:((i:Int)=(k:Int))=True:=eq_true (by omega)
    have e2:Co l k (i+1)=Co l k i ++ [116,111,99,107,32,57,10]:=by
     rw [←hik,hik2,eY];rfl
    refine CW.vc IK [0,1,4,5,6,7,8,9,10,11,12,13,24,29,34,45] (by kernel_rfl) ?_
    (repeat ((try refine Vc.mk' ?_);simp (maxSteps:=6000000) only [go_sem,dz,ii,ii2,e1,jj,kk,s1,decide_true,decide_false,List.length_append,List.append_assoc]))
    refine .mk (i+1) (by omega) (by omega) ((by refine Bj.mk' [] hcl (by simp) (by simp) rfl (Ac ?_) ?_ ?_ <;> simp [Sc.Av (fun j hj=>AB hj) hs,e2]))
   ·have e1:((i:Int)=(k:Int))=False:=eq_false (by omega)
    have e2:Co l k (i+1)=Co l k i:=by rw [hik2,gn (by omega)]
    refine CW.vc IK [0,1,4,5,6,7,8,9,10,11,12,13,24,29,34,45] (by kernel_rfl) ?_
    (repeat ((try refine Vc.mk' ?_);simp (maxSteps:=6000000) only [go_sem,dz,ii,ii2,e1,jj,kk,s1,decide_true,decide_false,List.length_append,List.append_assoc]))
    refine .mk (i+1) (by omega) (by omega) ((by refine Bj.mk' [] hcl (by simp) (by simp) rfl (Ac ?_) ?_ ?_ <;> simp [Sc.Av (fun j hj=>AB hj) hs,e2]))
 ·have hi2:i=l.length+1:=by omega
  subst hi2
  have ii:((l.length:Int) < ((l.length+1:Nat):Int))=True:=eq_true (by omega)
  have ii2:¬(((l.length+1:Nat):Int)≤(l.length:Int)):=by omega
  have hT:Md Fl (Co l k (l.length+1))= .inr (12,6+k):=by
   rw [Wf hkn]
   have:=hTl (l.length+1)
   rw [Wf hkn] at this
   rw [iM (l:=l.take k) (fun o ho=>hgood o (List.mem_of_mem_take ho)) (by rw [List.length_take];omega) (by omega),List.length_take,Nat.min_eq_left hkn]
  have hTk:((Co l k (l.length+1)).length < 4294967281)=True:=eq_true (by have:=hTl (l.length+1);omega)
  have w6:Ar .i64 (6+(k:Int))=((6+k:Nat):Int):=by rw [wrap64 (by omega) (by omega)];omega
  refine CW.vc IK [0,1,4,5,6,7,8,9,10,11,12,13,24,29,34,45] (by kernel_rfl) ?_
  (repeat ((try refine Vc.mk' ?_);simp (maxSteps:=6000000) only [go_sem,Kk,KW,KO,LB,Kh,Ki,JA,I6,Dw,Hu,E3,Hj,hv,hp1,h7,AG ht1,AG h70,AO ht5,AP ht5,I1,I2,AU,dz,ii,ii2,hT,hTk,gz,w6,Y2,Y8,W2,RD,Lh,V7,XS,OD,decide_true,decide_false]))
  simp
end Go.Proofs.YthlhnangbinhoaaGreatDoor.Dm
