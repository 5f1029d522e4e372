/- The fate package: right, may, planned. -/
import Derived.Test.YthlhnangbinhoaaGreatDoorCGO
set_option linter.unusedVariables false
namespace Go.Proofs.YthlhnangbinhoaaGreatDoor.Fa
open Go.Dm Go.Proofs.YthlhnangbinhoaaGreatDoor.Dm
set_option maxHeartbeats 4000000
theorem D5{a b:Bool}(h:a=true ↔ b=true):Value.bool a=Value.bool b:=by rw[Bool.eq_iff_iff.2 h]
def G0:FuncId→BE:=fun _=> .none
theorem SD:Bp Tryz.prog tt.get G0:=⟨Am,fun _=>trivial⟩
def RS (a b:Int):Bool:=decide (1≤a∧a≤24∧1≤b∧b≤24∧a≠b)
def Mk:BE:= .pure (fun args _=>match args with | [x,y]=>GR .i64 x∧GR .i64 y | _=>False) (fun args _=>match args with | [x,y]=> .bool (RS (intOf x) (intOf y)) | _=>undef)
theorem kT:Ag Tryz.prog 149 Mk:=by
 refine .mkPure Wj ?_
 intro args hp hpre top
 match args,hpre with
 | [x,y],⟨hx,hy⟩=>
 rw [hx,hy]
 refine AJ.Af Am Wj rfl 24 rfl [.tmp 4] rfl (show 2≤24 by decide) ?_
 refine CW.vc SD [0,1,4] (by kernel_rfl) ?_
 (repeat ((try refine Vc.mk' ?_);simp only [go_sem]))
 refine D5 ?_
 simp [RS];omega
def G1:=BV G0 149 Mk
theorem PV:Bp Tryz.prog tt.get G1:=SD.add kT
theorem fj:G1 149=Mk:=rfl
def CX (r:Aq):Bool:=
 RS r.C1 r.To && decide (1≤r.Kg∧r.Kg≤1048576) && (if r.Kind=1 then decide (r.By=0) else if r.Kind=2∨r.Kind=3 then decide (1≤r.By∧r.By≤64) else false)
def GF:BE:= .pure (fun args _=>match args with | [.agg ⟨l⟩]=>AO.enc (AO.dec l)=l | _=>False) (fun args _=>match args with | [.agg ⟨l⟩]=> .bool (CX (AO.dec l)) | _=>undef)
theorem Yr:Ag Tryz.prog 143 GF:=by
 refine .EK Wi ?_ ?_
 ·intro args hp h
  match args,h with
  | [.agg ⟨l⟩],_=>rfl
 intro args hp hpre top hcl hsc
 match args,hpre with
 | [.agg ⟨l⟩],hl=>
 obtain ⟨r,rfl⟩:∃r,l=AO.enc r:=⟨_,hl.symm⟩
 refine AJ.Af Am Wi rfl 37 rfl [.tmp 2] rfl (show 1≤37 by decide) ?_
 refine CW.vc PV [0,1,2,18,20,21,26] (by kernel_rfl) ?_
 repeat' first | refine JV.mk (fun _=> ?_) (fun _=> ?_) | refine Vc.mk' ?_ | simp only [go_sem,fj,Mk]
 all_goals grind [CX]
set_option maxHeartbeats 4000000
def G2:=BV G1 143 GF
theorem ny:Bp Tryz.prog tt.get G2:=PV.add Yr
theorem tP:G2 143=GF:=rfl
abbrev R9:=DP
def PW(r:Aq):Ds:=⟨r.C1,r.To,r.Kg⟩
def mq:List Aq→Nat→R9→Except (Nat×Int) R9
 | [],_,m=> .ok m
 |r :: l,k,m=>if CX r=false then .error (k,2) else if (GH m (PW r)).isSome then .error (k,7) else mq l (k+1) (KO m (PW r) r k)
def FK (l:List Aq):Except (Nat×Int) R9:=if 64 < l.length then .error (64,3) else mq l 0 []
def E0 (l:List Aq)(top:Nat):Value×A6×Nat:=match FK l with
 | .error (i,e)=>(.tuple ⟨[.map none, .int .i64 (i:Int), .int .i64 e]⟩, [],top)
 | .ok m=>(.tuple ⟨[.map (some top), .int .i64 0, .int .i64 0]⟩, [(top,some (.map (BZ m) l.length))],top+1)
def Gw:BE:= .det (fun args hp _=>match args with | [v]=>Dy AO hp v | _=>False) (fun args hp top=>match args with | [v]=>E0 (AO.rd hp v) top | _=>(undef, [],top))
def stP (hp:Hp)(top:Nat)(v:Value)(l:List Aq)(x:Nat×R9):SS:=
 ⟨[(0,v,true),(2, .map none,true),(3, .int .i64 0,true),(4, .int .i64 0,true),(5, .map (some top),true),(13, .bool false,true),(15,v,true),(16, .int .i64 (l.length:Int),true),(17, .int .i64 (x.1:Int),true)],
  hp.Ac [(top,some (.map (BZ x.2) x.1))],top+1⟩
set_option maxHeartbeats 2000000 in
theorem Y3:Ag Tryz.prog 129 Gw:=by
 refine .Eh Wg ?_
 intro args hp top hpre hcl hsc
 match args,hpre with
 | [v],⟨l,h⟩=>
 have hs:=h.low hcl
 simp only [h.rd]
 refine AJ.Af Am Wg rfl 46 rfl [.tmp 2, .tmp 3, .tmp 4] rfl (show 1≤46 by decide) ?_
 refine CW.vc ny [0,2,3,4,5,6,7,8,10,13,15,16,17,18,24,39] (by kernel_rfl) ?_
 (repeat ((try refine Vc.mk' ?_);simp only [go_sem,DB h]))
 refine JV.mk (fun h1=> ?_) (fun h1=> ?_)
 ·have h2:FK l= .error (64,3):=by simp at h1;simp only [FK,if_pos (show 64 < l.length by omega)]
  (repeat ((try refine Vc.mk' ?_);simp only [go_sem,E0,h2]))
  (refine ⟨[],by simp,by simp,by simp, ?_, ?_, ?_⟩ <;> simp [])
 have h1':¬64 < l.length:=by simp at h1;omega
 have hp1:FK l=mq l 0 []:=by simp only [FK,if_neg h1']
 (repeat ((try refine Vc.mk' ?_);simp only [go_sem,DB h]))
 refine CW.Bc (stP hp top v l) (fun x=>x.1≤l.length∧FK l=mq (l.drop x.1) x.1 x.2) (fun x=>l.length - x.1) (0, []) ⟨Nat.zero_le _,hp1⟩ ?_ ?_
 ·refine Al.mk' [top] hcl (by simp) (by simp) rfl (AF ?_) ?_ ?_
  ·simp [Sc.Ao (fun j hj=>AE hj) hs];simpa using h1
  ·simp []
  ·simp [BZ]
 ·rintro ⟨k,m⟩ ⟨hk,hm⟩
  simp only at hk hm
  by_cases hlt:k < l.length
  ·have hd:l.drop k=at' l k :: l.drop (k+1):=by rw [BS _ _ hlt];exact List.drop_eq_getElem_cons hlt
   rw [hd,mq] at hm
   refine CW.vc ny [0,2,3,4,5,6,7,8,10,13,15,16,17,18,24,39] (by kernel_rfl) ?_
   (repeat ((try refine Vc.mk' ?_);simp only [go_sem,FZ h,IU h,Ab hs,tP,GF,hlt,stP]))
   refine JV.mk (fun c1=> ?_) (fun c1=> ?_)
   ·(repeat ((try refine Vc.mk' ?_);simp only [go_sem]))
    simp only [Bool.not_eq_true'] at c1
    rw [if_pos c1] at hm
    simp only [E0,hm]
    (refine ⟨[],by simp,by simp,by simp, ?_, ?_, ?_⟩ <;> simp [])
   ·(repeat ((try refine Vc.mk' ?_);simp only [go_sem]))
    simp only [Bool.not_eq_false'] at c1
    rw [if_neg (by simp [c1])] at hm
    refine JV.mk (fun c2=> ?_) (fun c2=> ?_)
    ·(repeat ((try refine Vc.mk' ?_);simp only [go_sem]))
     rw [if_pos (show (GH m (PW (at' l k))).isSome=true from c2)] at hm
     simp only [E0,hm]
     (refine ⟨[],by simp,by simp,by simp, ?_, ?_, ?_⟩ <;> simp [])
    ·(repeat ((try refine Vc.mk' ?_);simp only [go_sem]))
     rw [if_neg (by simp [PW,c2])] at hm
     have hmc:U7 m ⟨(at' l k).C1,(at' l k).To,(at' l k).Kg⟩ k=k+1:=by
      unfold U7
      cases hg:GH m ⟨(at' l k).C1,(at' l k).To,(at' l k).Kg⟩ with
      |none=>rfl
      |some x=>rw [hg] at c2;cases c2
     refine .mk (k+1,KO m (PW (at' l k)) (at' l k) k) ⟨hlt,hm⟩ (show l.length - (k+1) < l.length - k by omega) (Al.mk' [top] hcl (by simp) (by simp) rfl (AF ?_) ?_ ?_)
     ·simp [Sc.Ao (fun j hj=>AE hj) hs,Ae hlt h.le]
     ·simp []
     ·simp [hmc,PW]
  ·have hk2:k=l.length:=by omega
   subst hk2
   rw [List.drop_length,mq] at hm
   refine CW.vc ny [0,2,3,4,5,6,7,8,10,13,15,16,17,18,24,39] (by kernel_rfl) ?_
   (repeat ((try refine Vc.mk' ?_);simp only [go_sem,hlt,stP]))
   simp only [E0,hm]
   (refine ⟨[top],by simp,by simp,by simp, ?_, ?_, ?_⟩ <;> simp [])
end Go.Proofs.YthlhnangbinhoaaGreatDoor.Fa
set_option linter.unusedVariables false
namespace Go.Proofs.YthlhnangbinhoaaGreatDoor.Fa
open Go.Dm Go.Proofs.YthlhnangbinhoaaGreatDoor.Dm
set_option maxHeartbeats 4000000
def G3:=BV G2 129 Gw
theorem AEH:Bp Tryz.prog tt.get G3:=ny.add Y3
theorem QC:G3 129=Gw:=rfl
structure sK where
 m:R9
 CG:Nat
 ks:List Int
def ma:List Int:=List.replicate 625 0
theorem mc:C3 625 (.int .i64 0)=ma.map (Value.int .i64):=XF
def Ho (mb:Nat)(ks:List Int):Option A8:=some (.cells true 0 (.map (some mb) :: ks.map (Value.int .i64)))
def VF (mb b:Nat)(p:sK):A6:= [(mb,some (.map (BZ p.m) p.CG)),(b,Ho mb p.ks)]
def OQ (l:List Aq)(top:Nat):Value×A6×Nat:=match FK l with
 | .error (_,e)=>(.tuple ⟨[.pointer none, .int .i64 e]⟩, [],top)
 | .ok m=>(.tuple ⟨[.pointer (some ⟨top+1,0,none⟩), .int .i64 0]⟩,VF top (top+1) ⟨m,l.length,ma⟩,top+2)
def Nz:BE:= .det (fun args hp _=>match args with | [v]=>Dy AO hp v | _=>False) (fun args hp top=>match args with | [v]=>OQ (AO.rd hp v) top | _=>(undef, [],top))
theorem bK:∀(l:List Aq) (k:Nat) (m:R9) (i:Nat) (e:Int),mq l k m= .error (i,e)→e=2∨e=7
 | [],_,_,_,_,h=>by cases h
 |r :: l,k,m,i,e,h=>by
  unfold mq at h
  split at h
  ·cases h;exact .inl rfl
  ·split at h
   ·cases h;exact .inr rfl
   ·exact bK l _ _ _ _ h
theorem Kz {l:List Aq}{i:Nat}{e:Int}(h:FK l= .error (i,e)):e≠0:=by
 unfold FK at h
 split at h
 ·cases h;decide
 ·rcases bK _ _ _ _ _ h with rfl | rfl <;> decide
theorem vP:Ag Tryz.prog 104 Nz:=by
 refine .Eh WX ?_
 intro args hp top hpre hcl hsc
 match args,hpre with
 | [v],⟨l,h⟩=>
 refine AJ.Af Am WX rfl 19 rfl [.tmp 2, .tmp 3] rfl (show 1≤19 by decide) ?_
 refine CW.vc AEH [0,2,3,4,6,14] (by kernel_rfl) ?_
 have hpl:Dy AO hp v:=⟨l,h⟩
 cases hx:FK l with
 |error p=>
  obtain ⟨i,e⟩:=p
  have he:=Kz hx
  (repeat ((try refine Vc.mk' ?_);simp only [go_sem,QC,Gw,h.rd,E0,OQ,hx,hpl,he]))
  (refine ⟨[],by simp,by simp,by simp, ?_, ?_, ?_⟩ <;> simp [])
 |ok m=>
  (repeat ((try refine Vc.mk' ?_);simp only [go_sem,QC,Gw,h.rd,E0,OQ,hx,hpl]))
  (refine ⟨[top,top+1],by simp,by simp,by simp, ?_, ?_, ?_⟩ <;> simp [VF,Ho,mc])
end Go.Proofs.YthlhnangbinhoaaGreatDoor.Fa
