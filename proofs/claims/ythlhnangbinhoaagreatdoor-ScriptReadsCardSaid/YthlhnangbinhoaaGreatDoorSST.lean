/- The document's setup with one line more, walked. -/
import Derived.Test.YthlhnangbinhoaaGreatDoorSNB
set_option linter.unusedVariables false
namespace Go.Proofs.YthlhnangbinhoaaGreatDoor.Dm
open Go.Dm
set_option maxHeartbeats 64000000
set_option maxRecDepth 20000
noncomputable def GP2:FuncId→BE:=BV GP1 85 QY
theorem Mr:Bp Tryz.prog tt.get GP2:=WQ.add ABB
theorem Ze:GP2 85=QY:=rfl
def Qy (W:Ec):Bool:=decide (W.length=4) && decide (at' W 0= [114,111,117,116,101,114]) && decide (at' W 3= [105,110,103,114,101,115,115])
def Zc(W:Ec):Ec:=if Qy W=true then(W.take 3).drop 1 else W.drop 1
def P2 (S:BW)(W:Ec):Option (Nat×BW):=match Ck [] (Zc W) with
 |none=>none
 |some xs=>
  if at' W 0= [119,111,114,108,100]∧xs.length=4 then some (1, {S with W:=at' xs 0,A:=at' xs 1,T:=at' xs 2,L:=at' xs 3})
  else if at' W 0= [114,111,117,116,101,114]∧xs.length=2 then some (2, {S with R:=S.R ++ [⟨at' xs 0,at' xs 1,Qy W⟩]})
  else if at' W 0= [108,105,110,107]∧xs.length=3 then some (3, {S with K:=S.K ++ [⟨at' xs 0,at' xs 1,at' xs 2⟩]})
  else if at' W 0= [100,114,111,112]∧xs.length=3 then some (4, {S with U:=S.U ++ [⟨at' xs 0,at' xs 1,at' xs 2,1,0⟩]})
  else if at' W 0= [100,111,117,98,108,101]∧xs.length=4 then some (4, {S with U:=S.U ++ [⟨at' xs 0,at' xs 1,at' xs 2,2,at' xs 3⟩]})
  else if at' W 0= [100,101,108,97,121]∧xs.length=4 then some (4, {S with U:=S.U ++ [⟨at' xs 0,at' xs 1,at' xs 2,3,at' xs 3⟩]})
  else none
def P5 (S:BW)(r k u:Value):Value:= .agg ⟨[.int .i64 S.W, .int .i64 S.A, .int .i64 S.T, .int .i64 S.L,r,k,u]⟩
structure gM (hp:Hp) (v:Value) (S:BW) (r k u:Nat):Prop where
 e:v=P5 S (AA r S.R) (AA k S.K) (AA u S.U)
 R:hp r=AD AU S.R
 K:hp k=AD AP S.K
 U:hp u=AD AO S.U
 rt:S.R.length≤1000000
 kt:S.K.length≤1000000
 ut:S.U.length≤1000000
theorem gM.d {hp:Hp}{v:Value}{S:BW}{r k u:Nat}(h:gM hp v S r k u):GP hp v=S:=
  H5.d ⟨⟨_,_,_,h.e,BF.DK h.R (by have:=h.rt;omega),BF.DK h.K (by have:=h.kt;omega),BF.DK h.U (by have:=h.ut;omega)⟩,h.rt,h.kt,h.ut⟩
def cl(v:Value)(i:Nat):Value:=((B7 v)[i]?).getD undef
theorem cl4 {S:BW}{a b c:Value}:cl (P5 S a b c) 4=a:=rfl
theorem cl5 {S:BW}{a b c:Value}:cl (P5 S a b c) 5=b:=rfl
theorem cl6 {S:BW}{a b c:Value}:cl (P5 S a b c) 6=c:=rfl
theorem AAm {top:Nat}{ks:List Nat}{h1 hp:Hp}{r:Nat}(hz:hp r=none):BK top ks (h1.set r none) hp=BK top (r :: ks) h1 hp:=by
 refine propext ⟨fun h i hi hm=> ?_,fun h i hi hm=> ?_⟩
 ·have:=h i hi (fun c=>hm (List.mem_cons_of_mem _ c))
  rwa [Aj _ _ _ _ (fun c=>hm (by rw [c];exact List.mem_cons_self ..))] at this
 ·by_cases c:i=r
  ·rw [c,AY,hz]
  ·rw [Aj _ _ _ _ c]
   exact h i hi (by rw [List.mem_cons];rintro (e | e);exact c e;exact hm e)
theorem AAl {top:Nat}{ks:List Nat}{h1 hp:Hp}{r:Nat}{o:Option A8}(hm:r∈ks):BK top ks (h1.set r o) hp=BK top ks h1 hp:=by
 refine propext ⟨fun h i hi hk=> ?_,fun h i hi hk=> ?_⟩
 ·have:=h i hi hk
  rwa [Aj _ _ _ _ (fun c=>hk (by rw [c];exact hm))] at this
 ·rw [Aj _ _ _ _ (fun c=>hk (by rw [c];exact hm))]
  exact h i hi hk
theorem Mb {α:Type}{E:B6 α}{hp:Hp}{r top:Nat}{l:List α}(h:hp r=AD E l):(Jm (AA r l) top=r∧∀(ks:List Nat) (h1:Hp),r∈ks→BK top ks (h1.set r none) hp=BK top ks h1 hp)∨(Jm (AA r l) top=top∧∀(ks:List Nat) (h1:Hp),BK top ks (h1.set r none) hp=BK top (r :: ks) h1 hp):=by
 by_cases c:l= []
 ·exact .inr ⟨by rw [c];rfl,fun _ _=>AAm (by rw [h,c];rfl)⟩
 ·exact .inl ⟨nY c,fun _ _ h=>AAl h⟩
def Lv (v:Value)(top:Nat):Option (Nat×BW)→Value×A6×Nat
 |none=>(.tuple ⟨[v, .bool false]⟩, [],top)
 |some (1,S)=>(.tuple ⟨[P5 S (cl v 4) (cl v 5) (cl v 6), .bool true]⟩, [],top)
 |some (2,S)=>(.tuple ⟨[P5 S (AA top S.R) (cl v 5) (cl v 6), .bool true]⟩, [(Jm (cl v 4) top,none),(top,AD AU S.R)],top+1)
 |some (3,S)=>(.tuple ⟨[P5 S (cl v 4) (AA top S.K) (cl v 6), .bool true]⟩, [(Jm (cl v 5) top,none),(top,AD AP S.K)],top+1)
 |some (_,S)=>(.tuple ⟨[P5 S (cl v 4) (cl v 5) (AA top S.U), .bool true]⟩, [(Jm (cl v 6) top,none),(top,AD AO S.U)],top+1)
def Pk:BE:= .det (fun args hp top=>match args with | [v,wv]=>(∃S r k u,gM hp v S r k u∧r < top∧k < top∧u < top)∧Dy AB hp wv∧AB.rd hp wv≠ []∧Oj (AB.rd hp wv) | _=>False) (fun args hp top=>match args with | [v,wv]=>Lv v top (P2 (GP hp v) (AB.rd hp wv)) | _=>(undef, [],top))
theorem qI:Ag Tryz.prog 53 Pk:=by
  refine .Eh My ?_
  intro args hp top hpre hcl hsc
  match args,hpre with
  | [v,wv],⟨⟨S,r,k,u,hS,rt,kt,ut⟩,⟨W,h⟩,hne,hW⟩=>
  have hs:=h.low hcl
  have hd:=hS.d
  rw [h.rd] at hne hW
  simp only [h.rd,hd]
  have e:=hS.e
  subst e
  have hW1:0 < W.length:=List.length_pos_iff.2 hne
  have ix0:AZ tt.get 67 wv (.int .i64 0)=(Ah wv 0,True):=by
    have:=Bo h (k:= .i64) (n:=0) (by omega) (by omega)
    simpa using this
  have ld0:∀ {h':Hp},BK top [] h' hp→BN tt.get h' 9 (Ah wv 0)=(.string ⟨⟨at' W 0⟩⟩,True):=fun {h'} hk=>by
    have:=B9 (h.Ax hs hk) (i:=0) hW1
    simpa using this
  have ix3:3 < W.length→AZ tt.get 67 wv (.int .i64 3)=(Ah wv 3,True):=fun h3=>by
    have:=Bo h (k:= .i64) (n:=3) (by omega) (by omega)
    simpa using this
  have ld3:∀ {h':Hp},3 < W.length→BK top [] h' hp→BN tt.get h' 9 (Ah wv 3)=(.string ⟨⟨at' W 3⟩⟩,True):=fun {h'} h3 hk=>by
    have:=B9 (h.Ax hs hk) (i:=3) h3
    simpa using this
  have sl1:B5 tt.get hp 67 wv (some (.int .i64 1)) none=(Gf 1 wv 1,True):=by
    have:=HF h (k:= .i64) (n:=1) (by omega) (by omega)
    simpa using this
  have hl1:=h.drop (n:=1) (by omega)
  have hl3:=h.take (n:=3)
  have sc1:=hl1.low hcl
  have l4:(W.length:Int)=4 ↔ W.length=4:=by omega
  have hW1k:=hW.1
  have wok:Oj (Zc W):=by
    unfold Zc
    split
    · exact ⟨by rw [List.length_drop,List.length_take];omega,fun w hw=>hW.2 w (List.mem_of_mem_take (List.mem_of_mem_drop hw))⟩
    · exact ⟨by rw [List.length_drop];omega,fun w hw=>hW.2 w (List.mem_of_mem_drop hw)⟩
  have hN:∀ {h':Hp} {b:Nat} {xs:List Int},xs.length≤1000000→h' b=AD AL xs→BF AL h' (AA b xs) xs:=fun hl e=>BF.DK e (by omega)
  cases hI:Qy W with
  |true=>
    have hw:Zc W=(W.take 3).drop 1:=by unfold Zc;rw [if_pos hI]
    unfold Qy at hI
    simp only [Bool.and_eq_true,decide_eq_true_eq] at hI
    obtain ⟨⟨i1,i2⟩,i3⟩:=hI
    have hIt:Qy W=true:=by unfold Qy;rw [decide_eq_true i1,decide_eq_true i2,decide_eq_true i3];rfl
    have h3:BF AB hp (GK 1 wv 0 3) (W.take 3):=h.take (n:=3) (by omega)
    have hs3:=h3.low hcl
    have l3':(W.take 3).length=3:=by rw [List.length_take];omega
    have h31:BF AB hp (Gf 1 (GK 1 wv 0 3) 1) ((W.take 3).drop 1):=h3.drop (n:=1) (by omega)
    have sc31:=h31.low hcl
    have sl3:B5 tt.get hp 67 wv none (some (.int .i64 3))=(GK 1 wv 0 3,True):=by
      have:=Rm h (k:= .i64) (n:=3) (by omega) (by omega)
      simpa using this
    have sl31:B5 tt.get hp 67 (GK 1 wv 0 3) (some (.int .i64 1)) none=(Gf 1 (GK 1 wv 0 3) 1,True):=by
      have:=HF h3 (k:= .i64) (n:=1) (by omega) (by omega)
      simpa using this
    have at0:at' (W.take 3) 0=at' W 0:=by
      rw [BS _ _ (by omega),BS _ _ (by omega)]
      simp
    have iy0:AZ tt.get 67 (GK 1 wv 0 3) (.int .i64 0)=(Ah (GK 1 wv 0 3) 0,True):=by
      have:=Bo h3 (k:= .i64) (n:=0) (by omega) (by omega)
      simpa using this
    have ldy0:∀ {h':Hp},BK top [] h' hp→BN tt.get h' 9 (Ah (GK 1 wv 0 3) 0)=(.string ⟨⟨at' W 0⟩⟩,True):=fun {h'} hk=>by
      have:=B9 (h3.Ax hs3 hk) (i:=0) (by omega)
      rw [at0] at this
      simpa using this
    have P1:∀ {h':Hp},BK top [] h' hp→Dy AB h' (Gf 1 (GK 1 wv 0 3) 1)=True:=fun hk=>(h31.Ax sc31 hk).P
    have R1:∀ {h':Hp},BK top [] h' hp→AB.rd h' (Gf 1 (GK 1 wv 0 3) 1)=Zc W:=fun hk=>by rw [hw];exact (h31.Ax sc31 hk).rd
    have a4:((W.length:Int)=4)=True:=eq_true (by omega)
    have l3:(3 < W.length)=True:=eq_true (by omega)
    have a4n:(W.length=4)=True:=eq_true i1
    have fR:=eq_true i2
    have aI:=eq_true i3
    have fW:(at' W 0= [119,111,114,108,100])=False:=eq_false (by rw [i2];decide)
    rcases hn:Ck [] (Zc W) with _ | xs
    · have hst:P2 S W=none:=by unfold P2;rw [hn]
      have hv:=fun t=>je (top:=t) hn
      rw [hst]
      simp only [Lv]
      refine AJ.Af Am My rfl 193 rfl [.cell 4 26, .tmp 5] rfl (show 2≤193 by decide) ?_
      refine CW.vc Mr [0,1,2,4,5,6,7,8,24,34,37,63,86,111,136,164,1000009] (by kernel_rfl) ?_
      (repeat ((first | refine Vc.mk' ?_ | refine CW.Db Mr 9 [0,1,2,4,5,6,7,8,24,34,37,63,86,111,136,164,1000009] [(5,13),(8,13),(8,15),(11,13),(11,15),(11,17)] (by kernel_rfl) (by kernel_rfl) ?_ | skip);simp (maxSteps:=6000000) only [go_sem,P5,sl3,sl31,ix0,ld0,ix3,ld3,CC h,FN h hs Bz,FN h3 hs3 Bz,Ay,Ze,QY,P1,R1,wok,hv,fR,aI,a4,l3,decide_true,Bool.and_true]))
      (refine ⟨[],by simp,by simp,by simp, ?_, ?_, ?_⟩ <;> simp [AE rt,AE kt,AE ut])
    · have hv:=fun t=>jf (top:=t) hn
      have hxl2:xs.length=2:=by
        have:=IV hn
        rw [hw,List.length_drop,l3'] at this
        simpa using this
      have hst:P2 S W=some (2, {S with R:=S.R ++ [⟨at' xs 0,at' xs 1,true⟩]}):=by
        unfold P2
        rw [hn]
        simp only [fW,fR,hxl2,hIt,false_and,true_and,if_false,if_true]
      rw [hst]
      simp only [Lv,cl5,cl6,cl4]
      have hxl:xs.length≤1000000:=by omega
      have hR0:=hS.R
      have sr:∀ {h':Hp} {o:Option A8} {j:Nat},top≤j→h'.set r o j=h' j:=fun hj=>Aj _ _ _ _ (by omega)
      have hrt:=hS.rt
      have hbR:=Mb (top:=top) hS.R
      have ixn:∀ {b j:Nat},(j:Int) < (xs.length:Int)→AZ tt.get 68 (AA b xs) (.int .i64 (j:Int))=(Ah (AA b xs) (j * 1),True):=fun {b} {j} hj=>by
        have h0:BF AL (fun i=>if i=b then AD AL xs else none) (AA b xs) xs:=hN hxl (by simp)
        have:=Ct h0 (k:= .i64) (n:=(j:Int)) (by omega) (by omega)
        simpa using this
      have ldn:∀ {h':Hp} {b j:Nat},h' b=AD AL xs→(j:Int) < (xs.length:Int)→BN tt.get h' 3 (Ah (AA b xs) (j * 1))=(.int .i64 (at' xs j),True):=fun e hj=>Dh (hN hxl e) (by omega)
      have in0:∀ {b:Nat},(0:Int) < (xs.length:Int)→AZ tt.get 68 (AA b xs) (.int .i64 0)=(Ah (AA b xs) 0,True):=fun {b} h=>ixn (b:=b) (j:=0) h
      have ln0:∀ {h':Hp} {b:Nat},(0:Int) < (xs.length:Int)→h' b=AD AL xs→BN tt.get h' 3 (Ah (AA b xs) 0)=(.int .i64 (at' xs 0),True):=fun h e=>ldn (j:=0) e h
      have in1:∀ {b:Nat},(1:Int) < (xs.length:Int)→AZ tt.get 68 (AA b xs) (.int .i64 1)=(Ah (AA b xs) 1,True):=fun {b} h=>ixn (b:=b) (j:=1) h
      have ln1:∀ {h':Hp} {b:Nat},(1:Int) < (xs.length:Int)→h' b=AD AL xs→BN tt.get h' 3 (Ah (AA b xs) 1)=(.int .i64 (at' xs 1),True):=fun h e=>ldn (j:=1) e h
      have apR:=fun {h':Hp} {q t:Nat} (a1:h' r=AD AU S.R)=>Jk (q:=q) (t:=t) hrt a1 (el:=⟨at' xs 0,at' xs 1,true⟩)
      simp only [Iz] at apR
      have g2i:(xs.length:Int)=2:=by omega
      refine AJ.Af Am My rfl 193 rfl [.cell 4 26, .tmp 5] rfl (show 2≤193 by decide) ?_
      refine CW.vc Mr [0,1,2,4,5,6,7,8,24,34,37,63,86,111,136,164,1000009] (by kernel_rfl) ?_
      (repeat ((first | refine Vc.mk' ?_ | refine CW.Db Mr 9 [0,1,2,4,5,6,7,8,24,34,37,63,86,111,136,164,1000009] [(5,13),(8,13),(8,15),(11,13),(11,15),(11,17)] (by kernel_rfl) (by kernel_rfl) ?_ | skip);simp (maxSteps:=6000000) only [go_sem,P5,sl3,sl31,ix0,ld0,ix3,ld3,iy0,ldy0,CC h,FN h hs Bz,FN h3 hs3 Bz,Ay,Ze,QY,P1,R1,wok,hv,fR,aI,fW,a4,l3,Hc,g2i,in0,in1,ln0,ln1,hR0,Bw rt,sr,Nat.le_refl,Nat.le_add_right,apR,decide_true,decide_false,Bool.and_false,Bool.and_true]))
      rcases hbR with ⟨hb,kN⟩ | ⟨hb,kN⟩ <;> (rw [hb];(refine ⟨[top+4],by simp,by simp,by simp, ?_, ?_, ?_⟩ <;> simp [AE rt,AE kt,AE ut,Av,Ai,Nat.le_add_right,kN]))
  |false=>
    have hw:Zc W=W.drop 1:=by unfold Zc;rw [if_neg (by rw [hI];simp)]
    have P1:∀ {h':Hp},BK top [] h' hp→Dy AB h' (Gf 1 wv 1)=True:=fun hk=>(hl1.Ax sc1 hk).P
    have R1:∀ {h':Hp},BK top [] h' hp→AB.rd h' (Gf 1 wv 1)=Zc W:=fun hk=>by rw [hw];exact (hl1.Ax sc1 hk).rd
    have hing:W.length=4→at' W 0= [114,111,117,116,101,114]→(at' W 3= [105,110,103,114,101,115,115])=False:=fun a b=>eq_false fun c=>by
      unfold Qy at hI
      rw [decide_eq_true a,decide_eq_true b,decide_eq_true c] at hI
      cases hI
    have h4:(((W.length:Int)=4)=False∧(W.length=4)=False∧(W.length=4)=False)∨(((W.length:Int)=4)=True∧(W.length=4)=True∧(3 < W.length)=True):=by
      by_cases c:W.length=4
      · exact .inr ⟨eq_true (by omega),eq_true c,eq_true (by omega)⟩
      · exact .inl ⟨eq_false (by omega),eq_false c,eq_false c⟩
    rcases hn:Ck [] (Zc W) with _ | xs
    · have hst:P2 S W=none:=by unfold P2;rw [hn]
      have hv:=fun t=>je (top:=t) hn
      rw [hst]
      simp only [Lv]
      rcases six (at' W 0) with e0 | e0 | e0 | e0 | e0 | e0 | e0 <;> rcases h4 with ⟨a4,a4n,l3⟩ | ⟨a4,a4n,l3⟩ <;> (
        refine AJ.Af Am My rfl 193 rfl [.cell 4 26, .tmp 5] rfl (show 2≤193 by decide) ?_
        refine CW.vc Mr [0,1,2,4,5,6,7,8,24,34,37,63,86,111,136,164,1000009] (by kernel_rfl) ?_
        (repeat ((first | refine Vc.mk' ?_ | refine CW.Db Mr 9 [0,1,2,4,5,6,7,8,24,34,37,63,86,111,136,164,1000009] [(5,13),(8,13),(8,15),(11,13),(11,15),(11,17)] (by kernel_rfl) (by kernel_rfl) ?_ | skip);simp (maxSteps:=6000000) only [go_sem,P5,sl1,ix0,ld0,ix3,ld3,CC h,FN h hs Bz,Ay,Ze,QY,P1,R1,wok,hv,hing,e0,List.cons.injEq,u8n,a4,a4n,l3,decide_true,decide_false,Bool.and_false,Bool.and_true]))
        (refine ⟨[],by simp,by simp,by simp, ?_, ?_, ?_⟩ <;> simp [AE rt,AE kt,AE ut]))
    · have hv:=fun t=>jf (top:=t) hn
      have hxl:xs.length≤1000000:=by
        have:=IV hn
        have h2:=wok.1
        simp at this
        omega
      have hR0:=hS.R
      have hK0:=hS.K
      have hU0:=hS.U
      have sr:∀ {h':Hp} {o:Option A8} {j:Nat},top≤j→h'.set r o j=h' j:=fun hj=>Aj _ _ _ _ (by omega)
      have sk:∀ {h':Hp} {o:Option A8} {j:Nat},top≤j→h'.set k o j=h' j:=fun hj=>Aj _ _ _ _ (by omega)
      have su:∀ {h':Hp} {o:Option A8} {j:Nat},top≤j→h'.set u o j=h' j:=fun hj=>Aj _ _ _ _ (by omega)
      have hbR:=Mb (top:=top) hS.R
      have hbK:=Mb (top:=top) hS.K
      have hbU:=Mb (top:=top) hS.U
      have hrt:=hS.rt
      have hkt:=hS.kt
      have hut:=hS.ut
      have ixn:∀ {b j:Nat},(j:Int) < (xs.length:Int)→AZ tt.get 68 (AA b xs) (.int .i64 (j:Int))=(Ah (AA b xs) (j * 1),True):=fun {b} {j} hj=>by
        have h0:BF AL (fun i=>if i=b then AD AL xs else none) (AA b xs) xs:=hN hxl (by simp)
        have:=Ct h0 (k:= .i64) (n:=(j:Int)) (by omega) (by omega)
        simpa using this
      have ldn:∀ {h':Hp} {b j:Nat},h' b=AD AL xs→(j:Int) < (xs.length:Int)→BN tt.get h' 3 (Ah (AA b xs) (j * 1))=(.int .i64 (at' xs j),True):=fun e hj=>Dh (hN hxl e) (by omega)
      have in0:∀ {b:Nat},(0:Int) < (xs.length:Int)→AZ tt.get 68 (AA b xs) (.int .i64 0)=(Ah (AA b xs) 0,True):=fun {b} h=>ixn (b:=b) (j:=0) h
      have ln0:∀ {h':Hp} {b:Nat},(0:Int) < (xs.length:Int)→h' b=AD AL xs→BN tt.get h' 3 (Ah (AA b xs) 0)=(.int .i64 (at' xs 0),True):=fun h e=>ldn (j:=0) e h
      have in1:∀ {b:Nat},(1:Int) < (xs.length:Int)→AZ tt.get 68 (AA b xs) (.int .i64 1)=(Ah (AA b xs) 1,True):=fun {b} h=>ixn (b:=b) (j:=1) h
      have ln1:∀ {h':Hp} {b:Nat},(1:Int) < (xs.length:Int)→h' b=AD AL xs→BN tt.get h' 3 (Ah (AA b xs) 1)=(.int .i64 (at' xs 1),True):=fun h e=>ldn (j:=1) e h
      have in2:∀ {b:Nat},(2:Int) < (xs.length:Int)→AZ tt.get 68 (AA b xs) (.int .i64 2)=(Ah (AA b xs) 2,True):=fun {b} h=>ixn (b:=b) (j:=2) h
      have ln2:∀ {h':Hp} {b:Nat},(2:Int) < (xs.length:Int)→h' b=AD AL xs→BN tt.get h' 3 (Ah (AA b xs) 2)=(.int .i64 (at' xs 2),True):=fun h e=>ldn (j:=2) e h
      have in3:∀ {b:Nat},(3:Int) < (xs.length:Int)→AZ tt.get 68 (AA b xs) (.int .i64 3)=(Ah (AA b xs) 3,True):=fun {b} h=>ixn (b:=b) (j:=3) h
      have ln3:∀ {h':Hp} {b:Nat},(3:Int) < (xs.length:Int)→h' b=AD AL xs→BN tt.get h' 3 (Ah (AA b xs) 3)=(.int .i64 (at' xs 3),True):=fun h e=>ldn (j:=3) e h
      have apR:=fun {h':Hp} {q t:Nat} (a1:h' r=AD AU S.R)=>Jk (q:=q) (t:=t) hrt a1 (el:=⟨at' xs 0,at' xs 1,false⟩)
      have apK:=fun {h':Hp} {q t:Nat} (a1:h' k=AD AP S.K)=>V8 (q:=q) (t:=t) hkt a1 (el:=⟨at' xs 0,at' xs 1,at' xs 2⟩)
      have apD:=fun {h':Hp} {q t:Nat} (a1:h' u=AD AO S.U)=>IB (q:=q) (t:=t) hut a1 (el:=⟨at' xs 0,at' xs 1,at' xs 2,1,0⟩)
      have apB:=fun {h':Hp} {q t:Nat} (a1:h' u=AD AO S.U)=>IB (q:=q) (t:=t) hut a1 (el:=⟨at' xs 0,at' xs 1,at' xs 2,2,at' xs 3⟩)
      have apY:=fun {h':Hp} {q t:Nat} (a1:h' u=AD AO S.U)=>IB (q:=q) (t:=t) hut a1 (el:=⟨at' xs 0,at' xs 1,at' xs 2,3,at' xs 3⟩)
      simp only [Iz,Kr,Et] at apR apK apD apB apY
      have hln:((xs.length:Int)=4∧xs.length=4)∨((xs.length:Int)=2∧xs.length=2)∨((xs.length:Int)=3∧xs.length=3)∨(((xs.length:Int)=4)=False∧((xs.length:Int)=2)=False∧((xs.length:Int)=3)=False∧(xs.length=4)=False∧(xs.length=2)=False∧(xs.length=3)=False):=by
        simp only [eq_iff_iff,iff_false];omega
      rcases six (at' W 0) with e0 | e0 | e0 | e0 | e0 | e0 | e0 <;> rcases h4 with ⟨a4,a4n,l3⟩ | ⟨a4,a4n,l3⟩ <;> rcases hln with hl | hl | hl | hl <;> (
        simp only [P2,hn,hI,e0,hl,List.cons.injEq,u8n,and_true,true_and,and_false,false_and,if_true,if_false,Lv,cl4,cl5,cl6]
        refine AJ.Af Am My rfl 193 rfl [.cell 4 26, .tmp 5] rfl (show 2≤193 by decide) ?_
        refine CW.vc Mr [0,1,2,4,5,6,7,8,24,34,37,63,86,111,136,164,1000009] (by kernel_rfl) ?_
        (repeat ((first | refine Vc.mk' ?_ | refine CW.Db Mr 9 [0,1,2,4,5,6,7,8,24,34,37,63,86,111,136,164,1000009] [(5,13),(8,13),(8,15),(11,13),(11,15),(11,17)] (by kernel_rfl) (by kernel_rfl) ?_ | skip);simp (maxSteps:=6000000) only [go_sem,P5,sl1,ix0,ld0,ix3,ld3,CC h,FN h hs Bz,Ay,Ze,QY,P1,R1,wok,hv,hing,e0,List.cons.injEq,u8n,a4,a4n,l3,Int.cast_ofNat_Int,decide_true,decide_false,Bool.and_false,Bool.and_true,Hc,hl,in0,in1,in2,in3,ln0,ln1,ln2,ln3,hR0,hK0,hU0,Bw rt,Bw kt,Bw ut,sr,sk,su,Nat.le_refl,Nat.le_add_right,apR,apK,apD,apB,apY]))
        first | ((refine ⟨[],by simp,by simp,by simp, ?_, ?_, ?_⟩ <;> simp [AE rt,AE kt,AE ut]);done) | ((rcases hbR with ⟨hb,kN⟩ | ⟨hb,kN⟩) <;> (rw [hb];(refine ⟨[top+4],by simp,by simp,by simp, ?_, ?_, ?_⟩ <;> simp [AE rt,AE kt,AE ut,Av,Ai,Nat.le_add_right,kN]));done) | ((rcases hbK with ⟨hb,kN⟩ | ⟨hb,kN⟩) <;> (rw [hb];(refine ⟨[top+4],by simp,by simp,by simp, ?_, ?_, ?_⟩ <;> simp [AE rt,AE kt,AE ut,Av,Ai,Nat.le_add_right,kN]));done) | ((rcases hbU with ⟨hb,kN⟩ | ⟨hb,kN⟩) <;> (rw [hb];(refine ⟨[top+4],by simp,by simp,by simp, ?_, ?_, ?_⟩ <;> simp [AE rt,AE kt,AE ut,Av,Ai,Nat.le_add_right,kN]));done) | skip)
end Go.Proofs.YthlhnangbinhoaaGreatDoor.Dm
