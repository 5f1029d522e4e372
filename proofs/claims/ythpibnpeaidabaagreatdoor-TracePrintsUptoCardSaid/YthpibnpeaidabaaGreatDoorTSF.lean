import Derived.Test.YthpibnpeaidabaaGreatDoorTSD
set_option linter.unusedVariables false
namespace Go.Proofs.YthpibnpeaidabaaGreatDoor.Dm
open Go.Dm
open Go.Sort (ltInt swp)
set_option maxHeartbeats 64000000
set_option maxRecDepth 20000
def TT (hp:Hp)(v:Value):Prop:=v= .slice none 0 0∨∃q d,DX hp v q d
def Sb:BG:= .det (fun args hp _=>match args with | [v]=>TT hp v | _=>False)
 (fun args hp top=>match args with | [v]=>(.tuple ⟨[]⟩,U4 v (Go.Sort.sort ltInt (Hh hp v)),top) | _=>(undef, [],top))
def z6:FuncId→BG:=BQ (BQ G0 79 (IL 35184372088833)) 80 La
theorem ot:B4 Tryz.prog tt.get z6:=(Da.add (wF _)).add pf
theorem pM:z6 79=IL 35184372088833:=rfl
theorem qH:z6 80=La:=rfl
theorem X5 {b o m c:Nat}(hc:m≤c)(hm:m≤35184372088832):BM AF (fun _=>some (.cells true AF.size (List.replicate (o+m) (.int .u32 0)))) (.slice (some ⟨b,o,none⟩) m c) (List.replicate m 0):=by
 have hf:∀m:Nat,List.replicate m (Value.int .u32 0)=AF.flat (List.replicate m 0):=fun m=>by
  induction m with
  |zero=>rfl
  |succ m ih=>rw [List.replicate_succ,List.replicate_succ,ih];rfl
 have:=BM.rows (E:=AF) (hp:=fun _=>some (.cells true AF.size (List.replicate (o+m) (.int .u32 0)))) b o c true (List.replicate (o+m) (.int .u32 0)) (List.replicate m 0) rfl (by
  simp only [List.drop_replicate,List.take_replicate,List.length_replicate,show AF.size=1 from rfl,Nat.mul_one,Nat.add_sub_cancel_left,Nat.min_self]
  exact hf m) (by simp [show AF.size=1 from rfl]) (by simpa using hc) (by simp;omega)
 simpa using this
theorem RG {h':Hp}{b o m c:Nat}(hc:m≤c)(hm:m≤35184372088832):Cj tt.get h' 51 (.slice (some ⟨b,o,none⟩) m c)=(.int .i64 (m:Int),True):=by
 have:=Br (X5 (b:=b) (o:=o) hc hm) (hp':=h')
 simpa using this
theorem Wh {b o m c i:Nat}(hc:m≤c)(hm:m≤35184372088832)(h:i < m):Af tt.get 51 (.slice (some ⟨b,o,none⟩) m c) (.int .i64 (i:Int))=(.pointer (some ⟨b,o+i,none⟩),True):=by
 have:=C0 (X5 (b:=b) (o:=o) hc hm) (k:= .i64) (n:=(i:Int)) (by omega) (by simp;omega)
 simpa [BK] using this
theorem dS {h':Hp}{b m i:Nat}{d:Array Int}(e:h' b=AQ d)(hm:d.size=m)(h0:i < m)(hn:m≤35184372088832):Be tt.get h' 51 (.slice (some ⟨b,0,none⟩) m m) (some (.int .i64 (i:Int))) none=(.slice (some ⟨b,i,none⟩) (m - i) (m - i),True):=by
 subst hm
 have:=JT (Cu (n:=d.size) e rfl (by omega) hn).slt (k:= .i64) (n:=(i:Int)) (by omega) (by simp;omega)
 rw [this]
 simp [Gv,h0]
theorem qu {h':Hp}{b m i:Nat}{d:Array Int}(e:h' b=AQ d)(hm:d.size=m)(h0:i≤m)(hp0:0 < m)(hn:m≤35184372088832):Be tt.get h' 51 (.slice (some ⟨b,0,none⟩) m m) none (some (.int .i64 (i:Int)))=(.slice (some ⟨b,0,none⟩) i m,True):=by
 subst hm
 have:=JS (Cu (n:=d.size) e rfl hp0 hn).slt (k:= .i64) (n:=(i:Int)) (by omega) (by simp;omega)
 rw [this]
 simp [Hd]
theorem xk:Aw Tryz.prog 51 Sb:=by
 refine .Cg L4 ?_
 intro args hp top hpre hcl hsc
 match args,hpre with
 | [v],hpre=>
 have wc:∀ {n:Nat},n≤35184372088832→AP .u64 (n:Int)=(n:Int):=fun h=>by rw [cZ (by omega)];omega
 rcases hpre with rfl | ⟨q,d,hrow⟩
 ·have p0:∀ {h':Hp},Nx 35184372088833 h' (.slice none 0 0) 0 0 0=True:=fun {h'}=>eq_true ⟨by decide, .inl ⟨rfl,rfl,rfl⟩⟩
  have l0:∀ {h':Hp},Cj tt.get h' 51 (.slice none 0 0)=(.int .i64 0,True):=fun {h'}=>by
   have:=Br (BM.nils (E:=AF) (hp:=hp)) (hp':=h')
   simpa using this
  refine AK.Ar A7 L4 rfl 11 rfl [] rfl (show 1≤11 by decide) ?_
  refine CW.vc ot [0,2] (by kernel_rfl) ?_
  (repeat ((try refine Vc.mk' ?_);simp (maxSteps:=6000000) only [go_sem,Int.reduceLE,l0,qH,La,show AP .u64 0=0 from by decide,show Go.Sort.bitsLen 0=0 from rfl,show (0:Int).toNat=0 from rfl,show ((0:Nat):Int)=0 from rfl,pM,IL,p0,U4]))
  (refine ⟨[],by simp,by simp,by simp, ?_, ?_, ?_⟩ <;> simp [Ax,Bt,AB.nil,AJ.refl])
 ·have hn:d.size≤35184372088832:=hrow.le
  have h0:=hrow.pos
  have hqt:=hrow.Z4 hcl
  simp only [hrow.D5,hrow.MR]
  have hD0:=hrow.D5
  obtain ⟨rfl,ho,_,_⟩:=hrow
  generalize hR:Go.Sort.sort ltInt d=R
  have hR':Go.Sort.pdq ltInt d 0 d.size (Go.Sort.bitsLen d.size) true true=R:=hR
  have hb:=qa hn
  obtain ⟨bl,hbl⟩:∃z:Nat,z=Go.Sort.bitsLen d.size:=⟨_,rfl⟩
  rw [←hbl] at hb hR'
  have hbt:Go.Sort.bitsLen ((d.size:Int)).toNat=bl:=by rw [Int.toNat_natCast,hbl]
  have p0:∀ {h':Hp},h' q=AQ d→Nx 35184372088833 h' (.slice (some ⟨q,0,none⟩) d.size d.size) 0 (d.size:Int) (bl:Int)=True:=fun e=>eq_true ⟨by decide, .inr ⟨q,d,Cu e rfl h0 hn,by omega,by omega,by omega,by omega,by omega,by omega⟩⟩
  have hD:∀ {h':Hp},h' q=AQ d→Hh h' (.slice (some ⟨q,0,none⟩) d.size d.size)=d:=fun e=>(Cu e rfl h0 hn).D5
  have l0:=fun (h':Hp)=>RG (h':=h') (b:=q) (o:=0) (Nat.le_refl _) hn
  have wn:=wc hn
  have c1:((0:Int)≤(d.size:Int))=True:=eq_true (by omega)
  have c2:((d.size:Int)≤18446744073709551615)=True:=eq_true (by omega)
  refine AK.Ar A7 L4 rfl 11 rfl [] rfl (show 1≤11 by decide) ?_
  refine CW.vc ot [0,2] (by kernel_rfl) ?_
  (repeat ((try refine Vc.mk' ?_);simp (maxSteps:=6000000) only [go_sem,l0,wn,qH,La,c1,c2,hbl.symm,pM,IL,p0,ho,hD,show (Int.toNat 0)=0 from rfl,Int.toNat_natCast,hR',EG]))
  (refine ⟨[],by simp,by simp,by simp, ?_, ?_, ?_⟩ <;> simp [Ax,Bt,AB.nil,AB.cons,AD,AJ.A5,AJ.refl,AM hqt,AL])
end Go.Proofs.YthpibnpeaidabaaGreatDoor.Dm
set_option linter.unusedVariables false
namespace Go.Proofs.YthpibnpeaidabaaGreatDoor.Dm
open Go.Dm
set_option maxHeartbeats 64000000
set_option maxRecDepth 20000
def B3:List Int→List Int
 | []=> []
 | [x]=> [x]
 |x :: y :: l=>if x=y then B3 (y :: l) else x :: B3 (y :: l)
theorem RY:∀(l:List Int) (x:Int),B3 (x :: l)=x :: (B3 (x :: l)).tail
 | [],_=>rfl
 |y :: l,x=>by
  by_cases h:x=y
  ·subst h
   have e:B3 (x :: x :: l)=B3 (x :: l):=by rw [B3,if_pos rfl]
   rw [e];exact RY l x
  ·have e:B3 (x :: y :: l)=x :: B3 (y :: l):=by rw [B3,if_neg h]
   rw [e];rfl
theorem gz:∀(l:List Int),(B3 l).length≤l.length
 | []=>Nat.le_refl _
 | [_]=>Nat.le_refl _
 |x :: y :: l=>by
  have:=gz (y :: l)
  rw [B3]
  split
  ·exact Nat.le_succ_of_le this
  ·simpa using this
theorem drop_at {d:Array Int}{j:Nat}(h:j < d.size):d.toList.drop j=d[j]! :: d.toList.drop (j+1):=by
 rw [List.drop_eq_getElem_cons (by simpa using h)]
 simp [getElem!_pos d j h]
theorem Wc {d:Array Int}{j:Nat}(h:j+1 < d.size)(e:d[j]! = d[j+1]!):(B3 (d.toList.drop j)).tail=(B3 (d.toList.drop (j+1))).tail:=by
 rw [drop_at (show j < d.size by omega),drop_at h,B3,if_pos e]
theorem Wi {d:Array Int}{j:Nat}(h:j+1 < d.size)(e:d[j]! ≠d[j+1]!):(B3 (d.toList.drop j)).tail=d[j+1]! :: (B3 (d.toList.drop (j+1))).tail:=by
 rw [drop_at (show j < d.size by omega),drop_at h,B3,if_neg e,List.tail_cons,RY]
 simp
theorem ak {d:Array Int}{j:Nat}(h:d.size≤j+1):(B3 (d.toList.drop j)).tail= []:=by
 by_cases c:j < d.size
 ·rw [drop_at c,List.drop_eq_nil_of_le (by simpa using h)];rfl
 ·rw [List.drop_eq_nil_of_le (by simp;omega)];rfl
theorem UX {d:Array Int}{i:Nat}(h:i < d.size):d.toList.take (i+1)=d.toList.take i ++ [d[i]!]:=by
 rw [←List.take_append_getElem (by simpa using h)]
 simp [getElem!_pos d i h]
theorem YF {d:Array Int}{i:Nat}{x:Int}(h:i < d.size):(d.setIfInBounds i x).toList.take (i+1)=d.toList.take i ++ [x]:=by
 rw [UX (by simpa using h),Array.toList_setIfInBounds,List.take_set_of_le (Nat.le_refl _)]
 simp [h]
def KM (d:Array Int):Array Int:=(B3 d.toList ++ List.replicate (d.size - (B3 d.toList).length) 0).toArray
def uE (v:Value)(k:Nat):Value:=match v with | .slice (some p) _ m=> .slice (some p) k m | v=>v
theorem aL {d:Array Int}(h:B3 d.toList=d.toList):KM d=d:=by
 unfold KM;rw [h];simp
def UO:BG:= .det (fun args hp _=>match args with | [v]=>TT hp v | _=>False)
 (fun args hp top=>match args with | [v]=>(uE v (B3 (Hh hp v).toList).length,U4 v (KM (Hh hp v)),top) | _=>(undef, [],top))
theorem jh {h':Hp}{b m i:Nat}{d:Array Int}(e:h' b=AQ d)(hm:d.size=m)(h0:i < m):HB tt.get h' [51] (.slice (some ⟨b,i,none⟩) (m - i) (m - i))=some [(b,AQ (d.toList.take i ++ List.replicate (m - i) 0).toArray)]:=by
 subst hm
 have hf:∀l:List Int,AF.flat l=l.map (Value.int .u32):=fun l=>by
  induction l with
  |nil=>rfl
  |cons x l ih=>show Value.int .u32 x :: AF.flat l=_;rw [ih];rfl
 have hrow:∀l:List Int,l≠ []→AV AF l=some (.cells true 1 (l.map (Value.int .u32))):=fun l h=>by
  cases l with
  |nil=>exact absurd rfl h
  |cons x l=>show some (Ay.cells true AF.size (AF.flat (x :: l)))=_;rw [hf];rfl
 have hne:d.toList≠ []:=fun h=>by
  have:=congrArg List.length h
  simp only [Array.length_toList,List.length_nil] at this;omega
 have hz:∀n:Nat,DK Jf n=List.replicate n (Value.int .u32 0):=fun n=>by
  unfold DK
  rw [show Au Jf.zero= [Value.int .u32 0] from rfl]
  induction n with
  |zero=>rfl
  |succ n ih=>rw [List.replicate_succ,List.replicate_succ,List.flatten_cons,ih];rfl
 have hone:∀n:Nat,Aq (List.replicate n (Value.int .u32 0))=true:=fun n=>by
  induction n with
  |zero=>rfl
  |succ n ih=>rw [List.replicate_succ];simp [Aq,ih,Value.oneCell']
 have e1:h' b=some (.cells true 1 (d.toList.map (Value.int .u32))):=e.trans (hrow _ hne)
 have hb:Nat.beq (d.size - i) 0=false:=by
  obtain ⟨k,hk⟩:∃k,d.size - i=k+1:=⟨d.size - i - 1,by omega⟩
  rw [hk];rfl
 have hl:Nat.ble (i+(d.size - i) * Jf.size) (d.toList.map (Value.int .u32)).length=true:=by
  rw [Nat.ble_eq]
  simp [show Jf.size=1 from rfl]
  omega
 unfold HB
 simp only [Cr,hb,show OI.ud= .slice 29 from rfl,CH,e1,hl,hz,hone,Bool.and_self]
 unfold AQ
 rw [hrow _ (by
  intro h
  have:=congrArg List.length h
  simp at this;omega)]
 unfold Ag
 rw [List.length_replicate,List.drop_eq_nil_of_le (by simp;omega)]
 simp [List.map_take]
def oK (hp:Hp)(top:Nat)(q n:Nat)(d:Array Int)(i:Nat):SS:=⟨[(0, .slice (some ⟨q,0,none⟩) n n,true),(3, .int .i64 (i:Int),true)],hp.Al [(q,AQ d)],top+0⟩
def oJ (hp:Hp)(top:Nat)(q n m i0:Nat)(x:Nat×Nat×Array Int):SS:=⟨[(0, .slice (some ⟨q,0,none⟩) n n,true),(3, .int .i64 (x.1:Int),true),(4, .slice (some ⟨q,i0,none⟩) m m,true),(5, .int .i64 (x.2.1:Int),true)],hp.Al [(q,AQ x.2.2)],top+0⟩
theorem xa:Aw Tryz.prog 52 UO:=by
 refine .Cg KH ?_
 intro args hp top hpre hcl hsc
 match args,hpre with
 | [v],hpre=>
 rcases hpre with rfl | ⟨q,d,hrow⟩
 ·have l0:∀ {h':Hp},Cj tt.get h' 51 (.slice none 0 0)=(.int .i64 0,True):=fun {h'}=>by
   have:=Br (BM.nils (E:=AF) (hp:=hp)) (hp':=h')
   simpa using this
  refine AK.Ar A7 KH rfl 61 rfl [.tmp 2] rfl (show 1≤61 by decide) ?_
  refine CW.vc Da [0,2,3,4,5,8,13,25,32,44] (by kernel_rfl) ?_
  (repeat ((try refine Vc.mk' ?_);simp (maxSteps:=6000000) only [go_sem,Int.reduceLT,l0]))
  (refine ⟨[],by simp,by simp,by simp, ?_, ?_, ?_⟩ <;> simp [Ax,AB.nil,AJ.refl,U4,uE])
 have hn:d.size≤35184372088832:=hrow.le
 have h0:=hrow.pos
 have hqt:=hrow.Z4 hcl
 simp only [hrow.D5,hrow.MR]
 obtain ⟨rfl,ho,_,_⟩:=hrow
 obtain ⟨n,hnd⟩:∃n,n=d.size:=⟨_,rfl⟩
 rw [←hnd] at hn h0 ⊢
 have l0:=fun (h':Hp)=>RG (h':=h') (b:=q) (o:=0) (Nat.le_refl n) hn
 by_cases h2:n < 2
 ·have c2:((n:Int) < 2)=True:=eq_true (by omega)
  have hC:B3 d.toList=d.toList:=by
   have e:=drop_at (d:=d) (j:=0) (by omega)
   rw [List.drop_zero,List.drop_eq_nil_of_le (by simp;omega)] at e
   rw [e];rfl
  have hCl:(B3 d.toList).length=n:=by rw [hC,Array.length_toList,hnd]
  rw [hCl,aL hC]
  refine AK.Ar A7 KH rfl 61 rfl [.tmp 2] rfl (show 1≤61 by decide) ?_
  refine CW.vc Da [0,2,3,4,5,8,13,25,32,44] (by kernel_rfl) ?_
  (repeat ((try refine Vc.mk' ?_);simp (maxSteps:=6000000) only [go_sem,l0,c2,decide_true]))
  (refine ⟨[],by simp,by simp,by simp, ?_, ?_, ?_⟩ <;> simp [Ax,AB.nil,AB.cons,AJ.refl,AM hqt,AL,ho,uE])
 have c2:((n:Int) < 2)=False:=eq_false (by omega)
 refine AK.Ar A7 KH rfl 61 rfl [.tmp 2] rfl (show 1≤61 by decide) ?_
 refine CW.vc Da [0,2,3,4,5,8,13,25,32,44] (by kernel_rfl) ?_
 (repeat ((try refine Vc.mk' ?_);simp (maxSteps:=6000000) only [go_sem,l0,c2,decide_false]))
 obtain ⟨C,hC⟩:∃C,C=B3 d.toList:=⟨_,rfl⟩
 unfold KM
 rw [←hC,←hnd]
 have hC1:d.toList.take 1 ++ (B3 (d.toList.drop (1 - 1))).tail=C:=by
  have e:=drop_at (d:=d) (j:=0) (by omega)
  rw [List.drop_zero] at e
  rw [show 1 - 1=0 from rfl,List.drop_zero,hC,e,List.take_succ_cons,List.take_zero,RY];rfl
 refine CW.Bs (oK hp top q n d) (fun i=>1≤i∧i≤n∧d.toList.take i ++ (B3 (d.toList.drop (i - 1))).tail=C) (fun i=>n - i) 1 ⟨Nat.le_refl _,by omega,hC1⟩ ((by refine Ao.mk' [] hcl (by simp) (by simp) rfl (AG ?_) ?_ ?_ <;> simp [Ac,BU,Ax,AB.nil,AB.cons,AJ.refl,AM hqt,AL,ho])) ?_
 intro i ⟨hi1,hin,hiC⟩
 obtain ⟨im,him⟩:∃m:Nat,m=i - 1:=⟨_,rfl⟩
 have wm:AP .i64 ((i:Int) - 1)=((im:Nat):Int):=by rw [wrap64 (by omega) (by omega)];omega
 rw [←him] at hiC
 by_cases hlt:i < n
 ·have c3:((i:Int) < (n:Int))=True:=eq_true (by omega)
  have x0:=fun (bb:Nat)=>Am (b:=bb) hn hlt
  have l0':∀ {h':Hp},h' q=AQ d→Ad tt.get h' 29 (.pointer (some ⟨q,i,none⟩))=(.int .u32 d[i]!,True):=fun hee=>Aj hee (by omega) (by omega)
  have x1:=fun (bb:Nat)=>Am (b:=bb) hn (show im < n by omega)
  have l1:∀ {h':Hp},h' q=AQ d→Ad tt.get h' 29 (.pointer (some ⟨q,im,none⟩))=(.int .u32 d[im]!,True):=fun hee=>Aj hee (by omega) (by omega)
  by_cases heq:d[i]! = d[im]!
  ·have ce:(d[i]! = d[im]!)=True:=eq_true heq
   obtain ⟨m,hm⟩:∃m,m=n - i:=⟨_,rfl⟩
   have s0:∀ {h':Hp},h' q=AQ d→Be tt.get h' 51 (.slice (some ⟨q,0,none⟩) n n) (some (.int .i64 (i:Int))) none=(.slice (some ⟨q,i,none⟩) m m,True):=fun e=>by rw [hm];exact dS e hnd.symm hlt hn
   have hiC':d.toList.take i ++ (B3 (d.toList.drop (i+1 - 1))).tail=C:=by
    rw [←hiC,Wc (d:=d) (j:=im) (by omega) (by rw [show im+1=i by omega];exact heq.symm)]
    rw [show im+1=i by omega,Nat.add_sub_cancel]
   refine CW.vc Da [0,2,3,4,5,8,13,25,32,44] (by kernel_rfl) ?_
   (repeat ((try refine Vc.mk' ?_);simp (maxSteps:=6000000) only [go_sem,oK,l0,c3,decide_true,x0,l0',x1,l1,wm,ce,s0]))
   refine CW.Bs (oJ hp top q n m i) (fun x=>1≤x.2.1∧x.2.1≤m∧i≤x.1∧x.1+1≤i+x.2.1∧x.2.2.size=n∧(∀j,i+x.2.1 - 1≤j→j < n→x.2.2[j]! = d[j]!)∧x.2.2.toList.take x.1 ++ (B3 (d.toList.drop (i+x.2.1 - 1))).tail=C) (fun x=>m - x.2.1) (i,1,d) ⟨Nat.le_refl _,by dsimp only;omega,Nat.le_refl _,Nat.le_refl _,hnd.symm,fun _ _ _=>rfl,hiC'⟩ ((by refine Ao.mk' [] hcl (by simp) (by simp) rfl (AG ?_) ?_ ?_ <;> simp [Ac,BU,Ax,AB.nil,AB.cons,AD,AJ.A5,AJ.refl,AM hqt,AL])) ?_
   clear hiC' hiC ce heq x0 l0' x1 l1 wm s0
   rintro ⟨u,k,f⟩ ⟨hk1,hkm,hiu,huk,hfs,hfd,hfC⟩
   dsimp only at hk1 hkm hiu huk hfs hfd hfC ⊢
   have l2:=fun (h':Hp)=>RG (h':=h') (b:=q) (o:=i) (Nat.le_refl m) (show m≤35184372088832 by omega)
   by_cases hkl:k < m
   ·have c4:((k:Int) < (m:Int))=True:=eq_true (by omega)
    obtain ⟨km,hkm⟩:∃m:Nat,m=k - 1:=⟨_,rfl⟩
    have wkm:AP .i64 ((k:Int) - 1)=((km:Nat):Int):=by rw [wrap64 (by omega) (by omega)];omega
    obtain ⟨kp,hkp⟩:∃m:Nat,m=k+1:=⟨_,rfl⟩
    have wkp:AP .i64 ((k:Int)+1)=((kp:Nat):Int):=by rw [wrap64 (by omega) (by omega)];omega
    obtain ⟨p,hpp⟩:∃z:Nat,z=i+k:=⟨_,rfl⟩
    obtain ⟨pm,hpm⟩:∃m:Nat,m=i+km:=⟨_,rfl⟩
    have x2:=fun (bb:Nat)=>Wh (b:=bb) (o:=i) (Nat.le_refl m) (show m≤35184372088832 by omega) hkl
    have x3:=fun (bb:Nat)=>Wh (b:=bb) (o:=i) (Nat.le_refl m) (show m≤35184372088832 by omega) (show km < m by omega)
    rw [←hpp] at x2
    rw [←hpm] at x3
    have l2':∀ {h':Hp},h' q=AQ f→Ad tt.get h' 29 (.pointer (some ⟨q,p,none⟩))=(.int .u32 f[p]!,True):=fun hee=>Aj hee (by omega) (by omega)
    have l3:∀ {h':Hp},h' q=AQ f→Ad tt.get h' 29 (.pointer (some ⟨q,pm,none⟩))=(.int .u32 f[pm]!,True):=fun hee=>Aj hee (by omega) (by omega)
    have e2:=hfd p (by omega) (by omega)
    have e3:=hfd pm (by omega) (by omega)
    rw [show i+k - 1=pm by omega] at hfC
    by_cases hne:f[p]! = f[pm]!
    ·have ce:(f[p]! = f[pm]!)=True:=eq_true hne
     rw [Wc (d:=d) (j:=pm) (by omega) (by rw [show pm+1=p by omega,←e2,←e3];exact hne.symm)] at hfC
     refine CW.vc Da [0,2,3,4,5,8,13,25,32,44] (by kernel_rfl) ?_
     (repeat ((try refine Vc.mk' ?_);simp (maxSteps:=6000000) only [go_sem,oJ,l2,c4,decide_true,x2,l2',x3,l3,wkm,ce,Bool.not_true,wkp]))
     refine .mk (u,kp,f) ⟨by dsimp only;omega,by dsimp only;omega,hiu,by dsimp only;omega,hfs,fun j h1 h2=>hfd j (by dsimp only at h1;omega) h2,by dsimp only;rw [show i+kp - 1=pm+1 by omega];exact hfC⟩ (by dsimp only;omega) ((by refine Ao.mk' [] hcl (by simp) (by simp) rfl (AG ?_) ?_ ?_ <;> simp [Ac,BU,Ax,AB.nil,AB.cons,AD,AJ.A5,AJ.refl,AM hqt,AL]))
    ·have ce:(f[p]! = f[pm]!)=False:=eq_false hne
     rw [Wi (d:=d) (j:=pm) (by omega) (by rw [show pm+1=p by omega,←e2,←e3];exact fun h=>hne h.symm)] at hfC
     have x4:=fun (bb:Nat)=>Am (b:=bb) hn (show u < n by omega)
     have s4:∀ {h':Hp},h' q=AQ f→Ai tt.get h' 29 (.pointer (some ⟨q,u,none⟩)) (.int .u32 f[p]!)=([(q,AQ (f.setIfInBounds u f[p]!))],True):=fun hee=>BC hee (by omega)
     obtain ⟨up,hup⟩:∃m:Nat,m=u+1:=⟨_,rfl⟩
     have wup:AP .i64 ((u:Int)+1)=((up:Nat):Int):=by rw [wrap64 (by omega) (by omega)];omega
     refine CW.vc Da [0,2,3,4,5,8,13,25,32,44] (by kernel_rfl) ?_
     (repeat ((try refine Vc.mk' ?_);simp (maxSteps:=6000000) only [go_sem,oJ,l2,c4,decide_true,decide_false,x2,l2',x3,l3,wkm,ce,Bool.not_false,x4,s4,wup,wkp]))
     refine .mk (up,kp,f.setIfInBounds u f[p]!) ⟨by dsimp only;omega,by dsimp only;omega,by dsimp only;omega,by dsimp only;omega,by dsimp only;rw [Array.size_setIfInBounds];exact hfs,fun j h1 h2=> ?_, ?_⟩ (by dsimp only;omega) ((by refine Ao.mk' [] hcl (by simp) (by simp) rfl (AG ?_) ?_ ?_ <;> simp [Ac,BU,Ax,AB.nil,AB.cons,AD,AJ.A5,AJ.refl,AM hqt,AL]))
     ·dsimp only at h1 ⊢
      rw [←hfd j (by omega) h2]
      simp [getElem!_def,show u≠j by omega]
     ·dsimp only
      rw [hup,YF (by omega),show i+kp - 1=pm+1 by omega,←hfC,e2,show pm+1=p by omega]
      simp
   ·have c4:((k:Int) < (m:Int))=False:=eq_false (by omega)
    rw [ak (by omega),List.append_nil] at hfC
    have hCl:C.length=u:=by rw [←hfC,List.length_take,Array.length_toList];omega
    obtain ⟨w,hw⟩:∃w,w=n - u:=⟨_,rfl⟩
    have s5:∀ {h':Hp},h' q=AQ f→Be tt.get h' 51 (.slice (some ⟨q,0,none⟩) n n) (some (.int .i64 (u:Int))) none=(.slice (some ⟨q,u,none⟩) w w,True):=fun e=>by rw [hw];exact dS e hfs (by omega) hn
    have s6:∀ {h':Hp},h' q=AQ f→HB tt.get h' [51] (.slice (some ⟨q,u,none⟩) w w)=some [(q,AQ (C ++ List.replicate w 0).toArray)]:=fun e=>by rw [hw,←hfC];exact jh e hfs (by omega)
    have s7:∀ {h':Hp},h' q=AQ (C ++ List.replicate w 0).toArray→Be tt.get h' 51 (.slice (some ⟨q,0,none⟩) n n) none (some (.int .i64 (u:Int)))=(.slice (some ⟨q,0,none⟩) u n,True):=fun e=>qu e (by simp;omega) (by omega) h0 hn
    rw [hCl,←hw]
    refine CW.vc Da [0,2,3,4,5,8,13,25,32,44] (by kernel_rfl) ?_
    (repeat ((try refine Vc.mk' ?_);simp (maxSteps:=6000000) only [go_sem,reduceCtorEq,Nat.reduceEqDiff,oJ,l2,c4,decide_false,s5,s6,s7]))
    (refine ⟨[],by simp,by simp,by simp, ?_, ?_, ?_⟩ <;> simp [Ax,AB.nil,AB.cons,AD,AJ.A5,AJ.refl,AM hqt,AL,uE])
  ·have ce:(d[i]! = d[im]!)=False:=eq_false heq
   obtain ⟨ip,hip⟩:∃m:Nat,m=i+1:=⟨_,rfl⟩
   have wip:AP .i64 ((i:Int)+1)=((ip:Nat):Int):=by rw [wrap64 (by omega) (by omega)];omega
   refine CW.vc Da [0,2,3,4,5,8,13,25,32,44] (by kernel_rfl) ?_
   (repeat ((try refine Vc.mk' ?_);simp (maxSteps:=6000000) only [go_sem,oK,l0,c3,decide_true,decide_false,x0,l0',x1,l1,wm,ce,wip]))
   refine .mk ip ⟨by omega,by omega, ?_⟩ (by omega) ((by refine Ao.mk' [] hcl (by simp) (by simp) rfl (AG ?_) ?_ ?_ <;> simp [Ac,BU,Ax,AB.nil,AB.cons,AD,AJ.A5,AJ.refl,AM hqt,AL]))
   rw [←hiC,Wi (d:=d) (j:=im) (by omega) (by rw [show im+1=i by omega];exact fun h=>heq h.symm),hip,UX (by omega),show i+1 - 1=i by omega,show im+1=i by omega]
   simp
 ·have c3:((i:Int) < (n:Int))=False:=eq_false (by omega)
  rw [ak (by omega),List.append_nil,List.take_of_length_le (by simp;omega)] at hiC
  have hCl:C.length=n:=by rw [←hiC,Array.length_toList,hnd]
  have hCd:(C ++ List.replicate (n - C.length) 0).toArray=d:=by rw [hCl,Nat.sub_self,←hiC];simp
  rw [hCd,hCl]
  refine CW.vc Da [0,2,3,4,5,8,13,25,32,44] (by kernel_rfl) ?_
  (repeat ((try refine Vc.mk' ?_);simp (maxSteps:=6000000) only [go_sem,oK,l0,c3,decide_false]))
  (refine ⟨[],by simp,by simp,by simp, ?_, ?_, ?_⟩ <;> simp [Ax,AB.nil,AB.cons,AD,AJ.A5,AJ.refl,AM hqt,AL,uE])
end Go.Proofs.YthpibnpeaidabaaGreatDoor.Dm
