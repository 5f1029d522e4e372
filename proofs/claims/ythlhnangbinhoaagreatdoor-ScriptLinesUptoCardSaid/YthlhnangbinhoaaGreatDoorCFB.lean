/- The fate package: right, may, planned. -/
import Derived.Test.YthlhnangbinhoaaGreatDoorCGO
set_option linter.unusedVariables false
namespace Go.Proofs.YthlhnangbinhoaaGreatDoor.Fa
open Go.Dm Go.Proofs.YthlhnangbinhoaaGreatDoor.Dm
set_option maxHeartbeats 4000000
theorem Ee {a b:Bool}(h:a=true ↔ b=true):Value.bool a=Value.bool b:=by rw [Bool.eq_iff_iff.2 h]
def G0:FuncId→Bb:=fun _=> .none
theorem SF:CQ Tryz.prog tt.get G0:=⟨BA,fun _=>trivial⟩
def ZP (a b:Int):Bool:=decide (1≤a∧a≤24∧1≤b∧b≤24∧a≠b)
def Nh:Bb:= .pure (fun args _=>match args with | [x,y]=>Gx .i64 x∧Gx .i64 y | _=>False) (fun args _=>match args with | [x,y]=> .bool (ZP (intOf x) (intOf y)) | _=>undef)
theorem ju:A0 Tryz.prog 149 Nh:=by
 refine .mkPure RR ?_
 intro args hp hpre top
 match args,hpre with
 | [x,y],⟨hx,hy⟩=>
 rw [hx,hy]
 refine AR.A5 BA RR rfl 24 rfl [.tmp 4] rfl (show 2≤24 by decide) ?_
 refine CW.vc SF [0,1,4] (by kernel_rfl) ?_
 (repeat ((try refine Vc.mk' ?_);simp only [go_sem]))
 refine Ee ?_
 simp [ZP];omega
def G1:=Bw G0 149 Nh
theorem Pk:CQ Tryz.prog tt.get G1:=SF.add ju
theorem ff:G1 149=Nh:=rfl
def Ct (r:BJ):Bool:=
 ZP r.Cj r.To && decide (1≤r.JK∧r.JK≤1048576) && (if r.Kind=1 then decide (r.By=0) else if r.Kind=2∨r.Kind=3 then decide (1≤r.By∧r.By≤64) else false)
def Fv:Bb:= .pure (fun args _=>match args with | [.agg ⟨l⟩]=>AJ.enc (AJ.dec l)=l | _=>False) (fun args _=>match args with | [.agg ⟨l⟩]=> .bool (Ct (AJ.dec l)) | _=>undef)
theorem YK:A0 Tryz.prog 143 Fv:=by
 refine .Fm RP ?_ ?_
 ·intro args hp h
  match args,h with
  | [.agg ⟨l⟩],_=>rfl
 intro args hp hpre top hcl hsc
 match args,hpre with
 | [.agg ⟨l⟩],hl=>
 obtain ⟨r,rfl⟩:∃r,l=AJ.enc r:=⟨_,hl.symm⟩
 refine AR.A5 BA RP rfl 37 rfl [.tmp 2] rfl (show 1≤37 by decide) ?_
 refine CW.vc Pk [0,1,2,18,20,21,26] (by kernel_rfl) ?_
 repeat' first | refine Le.mk (fun _=> ?_) (fun _=> ?_) | refine Vc.mk' ?_ | simp only [go_sem,ff,Nh]
 all_goals grind [Ct]
set_option maxHeartbeats 4000000
def G2:=Bw G1 143 Fv
theorem r9:CQ Tryz.prog tt.get G2:=Pk.add YK
theorem xz:G2 143=Fv:=rfl
abbrev XF:=DZ
def bp (r:BJ):D0:=⟨r.Cj,r.To,r.JK⟩
def tJ:List BJ→Nat→XF→Except (Nat×Int) XF
 | [],_,m=> .ok m
 |r :: l,k,m=>if Ct r=false then .error (k,2) else if (Jp m (bp r)).isSome then .error (k,7) else tJ l (k+1) (NR m (bp r) r k)
def Hg (l:List BJ):Except (Nat×Int) XF:=if 64 < l.length then .error (64,3) else tJ l 0 []
def E7 (l:List BJ)(top:Nat):Value×BI×Nat:=match Hg l with
 | .error (i,e)=>(.tuple ⟨[.map none, .int .i64 (i:Int), .int .i64 e]⟩, [],top)
 | .ok m=>(.tuple ⟨[.map (some top), .int .i64 0, .int .i64 0]⟩, [(top,some (.map (Bo m) l.length))],top+1)
def HE:Bb:= .det (fun args hp _=>match args with | [v]=>GQ AJ hp v | _=>False) (fun args hp top=>match args with | [v]=>E7 (AJ.rd hp v) top | _=>(undef, [],top))
def stP (hp:Hp)(top:Nat)(v:Value)(l:List BJ)(x:Nat×XF):SS:=
 ⟨[(0,v,true),(2, .map none,true),(3, .int .i64 0,true),(4, .int .i64 0,true),(5, .map (some top),true),(13, .bool false,true),(15,v,true),(16, .int .i64 (l.length:Int),true),(17, .int .i64 (x.1:Int),true)],
  hp.Av [(top,some (.map (Bo x.2) x.1))],top+1⟩
set_option maxHeartbeats 2000000 in
theorem ZG:A0 Tryz.prog 129 HE:=by
 refine .Hq Qp ?_
 intro args hp top hpre hcl hsc
 match args,hpre with
 | [v],⟨l,h⟩=>
 have hs:=h.low hcl
 simp only [h.rd]
 refine AR.A5 BA Qp rfl 46 rfl [.tmp 2, .tmp 3, .tmp 4] rfl (show 1≤46 by decide) ?_
 refine CW.vc r9 [0,2,3,4,5,6,7,8,10,13,15,16,17,18,24,39] (by kernel_rfl) ?_
 (repeat ((try refine Vc.mk' ?_);simp only [go_sem,OI h]))
 refine Le.mk (fun h1=> ?_) (fun h1=> ?_)
 ·have h2:Hg l= .error (64,3):=by simp at h1;simp only [Hg,if_pos (show 64 < l.length by omega)]
  (repeat ((try refine Vc.mk' ?_);simp only [go_sem,E7,h2]))
  (refine ⟨[],by simp,by simp,by simp, ?_, ?_, ?_⟩ <;> simp [])
 have h1':¬64 < l.length:=by simp at h1;omega
 have hp1:Hg l=tJ l 0 []:=by simp only [Hg,if_neg h1']
 (repeat ((try refine Vc.mk' ?_);simp only [go_sem,OI h]))
 refine CW.DC (stP hp top v l) (fun x=>x.1≤l.length∧Hg l=tJ (l.drop x.1) x.1 x.2) (fun x=>l.length - x.1) (0, []) ⟨Nat.zero_le _,hp1⟩ ?_ ?_
 ·refine BR.mk' [top] hcl (by simp) (by simp) rfl (AU ?_) ?_ ?_
  ·simp [Sc.Az (fun j hj=>AB hj) hs];simpa using h1
  ·simp []
  ·simp [Bo]
 ·rintro ⟨k,m⟩ ⟨hk,hm⟩
  simp only at hk hm
  by_cases hlt:k < l.length
  ·have hd:l.drop k=at' l k :: l.drop (k+1):=by rw [CO _ _ hlt];exact List.drop_eq_getElem_cons hlt
   rw [hd,tJ] at hm
   refine CW.vc r9 [0,2,3,4,5,6,7,8,10,13,15,16,17,18,24,39] (by kernel_rfl) ?_
   (repeat ((try refine Vc.mk' ?_);simp only [go_sem,LO h,NY h,Bh hs,xz,Fv,hlt,stP]))
   refine Le.mk (fun c1=> ?_) (fun c1=> ?_)
   ·(repeat ((try refine Vc.mk' ?_);simp only [go_sem]))
    simp only [Bool.not_eq_true'] at c1
    rw [if_pos c1] at hm
    simp only [E7,hm]
    (refine ⟨[],by simp,by simp,by simp, ?_, ?_, ?_⟩ <;> simp [])
   ·(repeat ((try refine Vc.mk' ?_);simp only [go_sem]))
    simp only [Bool.not_eq_false'] at c1
    rw [if_neg (by simp [c1])] at hm
    refine Le.mk (fun c2=> ?_) (fun c2=> ?_)
    ·(repeat ((try refine Vc.mk' ?_);simp only [go_sem]))
     rw [if_pos (show (Jp m (bp (at' l k))).isSome=true from c2)] at hm
     simp only [E7,hm]
     (refine ⟨[],by simp,by simp,by simp, ?_, ?_, ?_⟩ <;> simp [])
    ·(repeat ((try refine Vc.mk' ?_);simp only [go_sem]))
     rw [if_neg (by simp [bp,c2])] at hm
     have hmc:Um m ⟨(at' l k).Cj,(at' l k).To,(at' l k).JK⟩ k=k+1:=by
      unfold Um
      cases hg:Jp m ⟨(at' l k).Cj,(at' l k).To,(at' l k).JK⟩ with
      |none=>rfl
      |some x=>rw [hg] at c2;cases c2
     refine .mk (k+1,NR m (bp (at' l k)) (at' l k) k) ⟨hlt,hm⟩ (show l.length - (k+1) < l.length - k by omega) (BR.mk' [top] hcl (by simp) (by simp) rfl (AU ?_) ?_ ?_)
     ·simp [Sc.Az (fun j hj=>AB hj) hs,Bf hlt h.le]
     ·simp []
     ·simp [hmc,bp]
  ·have hk2:k=l.length:=by omega
   subst hk2
   rw [List.drop_length,tJ] at hm
   refine CW.vc r9 [0,2,3,4,5,6,7,8,10,13,15,16,17,18,24,39] (by kernel_rfl) ?_
   (repeat ((try refine Vc.mk' ?_);simp only [go_sem,hlt,stP]))
   simp only [E7,hm]
   (refine ⟨[top],by simp,by simp,by simp, ?_, ?_, ?_⟩ <;> simp [])
end Go.Proofs.YthlhnangbinhoaaGreatDoor.Fa
set_option linter.unusedVariables false
namespace Go.Proofs.YthlhnangbinhoaaGreatDoor.Fa
open Go.Dm Go.Proofs.YthlhnangbinhoaaGreatDoor.Dm
set_option maxHeartbeats 4000000
def G3:=Bw G2 129 HE
theorem AEU:CQ Tryz.prog tt.get G3:=r9.add ZG
theorem Rh:G3 129=HE:=rfl
structure tZ where
 m:XF
 CI:Nat
 ks:List Int
def eg:List Int:=List.replicate 625 0
theorem jH:DV 625 (.int .i64 0)=eg.map (Value.int .i64):=WW
def H7 (mb:Nat)(ks:List Int):Option A7:=some (.cells true 0 (.map (some mb) :: ks.map (Value.int .i64)))
def T5 (mb b:Nat)(p:tZ):BI:= [(mb,some (.map (Bo p.m) p.CI)),(b,H7 mb p.ks)]
def Om (l:List BJ)(top:Nat):Value×BI×Nat:=match Hg l with
 | .error (_,e)=>(.tuple ⟨[.pointer none, .int .i64 e]⟩, [],top)
 | .ok m=>(.tuple ⟨[.pointer (some ⟨top+1,0,none⟩), .int .i64 0]⟩,T5 top (top+1) ⟨m,l.length,eg⟩,top+2)
def On:Bb:= .det (fun args hp _=>match args with | [v]=>GQ AJ hp v | _=>False) (fun args hp top=>match args with | [v]=>Om (AJ.rd hp v) top | _=>(undef, [],top))
theorem a7:∀(l:List BJ) (k:Nat) (m:XF) (i:Nat) (e:Int),tJ l k m= .error (i,e)→e=2∨e=7
 | [],_,_,_,_,h=>by cases h
 |r :: l,k,m,i,e,h=>by
  unfold tJ at h
  split at h
  ·cases h;exact .inl rfl
  ·split at h
   ·cases h;exact .inr rfl
   ·exact a7 l _ _ _ _ h
theorem N8 {l:List BJ}{i:Nat}{e:Int}(h:Hg l= .error (i,e)):e≠0:=by
 unfold Hg at h
 split at h
 ·cases h;decide
 ·rcases a7 _ _ _ _ _ h with rfl | rfl <;> decide
theorem ue:A0 Tryz.prog 104 On:=by
 refine .Hq Q3 ?_
 intro args hp top hpre hcl hsc
 match args,hpre with
 | [v],⟨l,h⟩=>
 refine AR.A5 BA Q3 rfl 19 rfl [.tmp 2, .tmp 3] rfl (show 1≤19 by decide) ?_
 refine CW.vc AEU [0,2,3,4,6,14] (by kernel_rfl) ?_
 have hpl:GQ AJ hp v:=⟨l,h⟩
 cases hx:Hg l with
 |error p=>
  obtain ⟨i,e⟩:=p
  have he:=N8 hx
  (repeat ((try refine Vc.mk' ?_);simp only [go_sem,Rh,HE,h.rd,E7,Om,hx,hpl,he]))
  (refine ⟨[],by simp,by simp,by simp, ?_, ?_, ?_⟩ <;> simp [])
 |ok m=>
  (repeat ((try refine Vc.mk' ?_);simp only [go_sem,Rh,HE,h.rd,E7,Om,hx,hpl]))
  (refine ⟨[top,top+1],by simp,by simp,by simp, ?_, ?_, ?_⟩ <;> simp [T5,H7,jH])
end Go.Proofs.YthlhnangbinhoaaGreatDoor.Fa
