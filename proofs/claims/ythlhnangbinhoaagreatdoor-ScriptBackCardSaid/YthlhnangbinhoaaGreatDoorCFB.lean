/- The fate package: right, may, planned. -/
import Derived.Test.YthlhnangbinhoaaGreatDoorCGO
set_option linter.unusedSimpArgs false
set_option linter.unusedVariables false
namespace Go.Proofs.YthlhnangbinhoaaGreatDoor.Fa
open Go.Dm Go.Proofs.YthlhnangbinhoaaGreatDoor.Dm
set_option maxHeartbeats 4000000
theorem KY {a b:Bool}(h:a=true ↔ b=true):Value.bool a=Value.bool b:=by rw [Bool.eq_iff_iff.2 h]
def G0:FuncId→Bz:=fun _=> .none
theorem Ss:DU Tryz.prog tt.get G0:=⟨Bu,fun _=>trivial⟩
def ZP (a b:Int):Bool:=decide (1≤a∧a≤24∧1≤b∧b≤24∧a≠b)
def Nl:Bz:= .pure (fun args _=>match args with | [x,y]=>Iy .i64 x∧Iy .i64 y | _=>False) (fun args _=>match args with | [x,y]=> .bool (ZP (intOf x) (intOf y)) | _=>undef)
theorem mW:BR Tryz.prog 149 Nl:=by
 refine .mkPure Rh ?_
 intro args hp hpre top
 match args,hpre with
 | [x,y],⟨hx,hy⟩=>
 rw [hx,hy]
 refine Ae.Bn Bu Rh rfl 24 rfl [.tmp 4] rfl (show 2≤24 by decide) ?_
 refine CW.vc Ss [0,1,4] (by kernel_rfl) ?_
 (repeat ((try refine Vc.mk' ?_);simp only [go_sem]))
 refine KY ?_
 simp [ZP];omega
def G1:=Cx G0 149 Nl
theorem QE:DU Tryz.prog tt.get G1:=Ss.add mW
theorem hC:G1 149=Nl:=rfl
def Dr (r:BX):Bool:=
 ZP r.C9 r.To && decide (1≤r.KM∧r.KM≤1048576) && (if r.Kind=1 then decide (r.By=0) else if r.Kind=2∨r.Kind=3 then decide (1≤r.By∧r.By≤64) else false)
def Fm:Bz:= .pure (fun args _=>match args with | [.agg ⟨l⟩]=>AJ.enc (AJ.dec l)=l | _=>False) (fun args _=>match args with | [.agg ⟨l⟩]=> .bool (Dr (AJ.dec l)) | _=>undef)
theorem Zd:BR Tryz.prog 143 Fm:=by
 refine .LN Rl ?_ ?_
 ·intro args hp h
  match args,h with
  | [.agg ⟨l⟩],_=>rfl
 intro args hp hpre top hcl hsc
 match args,hpre with
 | [.agg ⟨l⟩],hl=>
 obtain ⟨r,rfl⟩:∃r,l=AJ.enc r:=⟨_,hl.symm⟩
 refine Ae.Bn Bu Rl rfl 37 rfl [.tmp 2] rfl (show 1≤37 by decide) ?_
 refine CW.vc QE [0,1,2,18,20,21,26] (by kernel_rfl) ?_
 repeat' first | refine Rj.mk (fun _=> ?_) (fun _=> ?_) | refine Vc.mk' ?_ | simp only [go_sem,hC,Nl]
 all_goals grind [Dr]
set_option maxHeartbeats 4000000
def G2:=Cx G1 143 Fm
theorem oe:DU Tryz.prog tt.get G2:=QE.add Zd
theorem VS:G2 143=Fm:=rfl
abbrev X7:=EF
def dA (r:BX):Ei:=⟨r.C9,r.To,r.KM⟩
def tH:List BX→Nat→X7→Except (Nat×Int) X7
 | [],_,m=> .ok m
 |r :: l,k,m=>if Dr r=false then .error (k,2) else if (LP m (dA r)).isSome then .error (k,7) else tH l (k+1) (NW m (dA r) r k)
def I7 (l:List BX):Except (Nat×Int) X7:=if 64 < l.length then .error (64,3) else tH l 0 []
def F9 (l:List BX)(top:Nat):Value×BV×Nat:=match I7 l with
 | .error (i,e)=>(.tuple ⟨[.map none, .int .i64 (i:Int), .int .i64 e]⟩, [],top)
 | .ok m=>(.tuple ⟨[.map (some top), .int .i64 0, .int .i64 0]⟩, [(top,some (.map (B1 m) l.length))],top+1)
def Ip:Bz:= .det (fun args hp _=>match args with | [v]=>G6 AJ hp v | _=>False) (fun args hp top=>match args with | [v]=>F9 (AJ.rd hp v) top | _=>(undef, [],top))
def stP (hp:Hp)(top:Nat)(v:Value)(l:List BX)(x:Nat×X7):SS:=
 ⟨[(0,v,true),(2, .map none,true),(3, .int .i64 0,true),(4, .int .i64 0,true),(5, .map (some top),true),(13, .bool false,true),(15,v,true),(16, .int .i64 (l.length:Int),true),(17, .int .i64 (x.1:Int),true)],
  hp.A6 [(top,some (.map (B1 x.2) x.1))],top+1⟩
set_option maxHeartbeats 2000000 in
theorem ZL:BR Tryz.prog 129 Ip:=by
 refine .Jq SE ?_
 intro args hp top hpre hcl hsc
 match args,hpre with
 | [v],⟨l,h⟩=>
 have hs:=h.low hcl
 simp only [h.rd]
 refine Ae.Bn Bu SE rfl 46 rfl [.tmp 2, .tmp 3, .tmp 4] rfl (show 1≤46 by decide) ?_
 refine CW.vc oe [0,2,3,4,5,6,7,8,10,13,15,16,17,18,24,39] (by kernel_rfl) ?_
 (repeat ((try refine Vc.mk' ?_);simp only [go_sem,GO h,GN h,Hf h,He h,Hk h,FW h,E4 h,FO h,FQ h,FI h,E5 h,E6 h,E7 h,FF h,E9 h,h.P,h.oc,h.cl,h.rd,h.ref,Aj hs,AZ hs,AY hs,AX h hs DW,VS,Fm]))
 refine Rj.mk (fun h1=> ?_) (fun h1=> ?_)
 ·have h2:I7 l= .error (64,3):=by simp at h1;simp only [I7,if_pos (show 64 < l.length by omega)]
  (repeat ((try refine Vc.mk' ?_);simp only [go_sem,F9,h2]))
  (refine ⟨[],by simp,by simp,by simp, ?_, ?_, ?_⟩ <;> simp [])
 have h1':¬64 < l.length:=by simp at h1;omega
 have hp1:I7 l=tH l 0 []:=by simp only [I7,if_neg h1']
 (repeat ((try refine Vc.mk' ?_);simp only [go_sem,GO h,GN h,Hf h,He h,Hk h,FW h,E4 h,FO h,FQ h,FI h,E5 h,E6 h,E7 h,FF h,E9 h,h.P,h.oc,h.cl,h.rd,h.ref,Aj hs,AZ hs,AY hs,AX h hs DW,VS,Fm]))
 refine CW.D9 (stP hp top v l) (fun x=>x.1≤l.length∧I7 l=tH (l.drop x.1) x.1 x.2) (fun x=>l.length - x.1) (0, []) ⟨Nat.zero_le _,hp1⟩ ?_ ?_
 ·refine Bj.mk' [top] hcl (by simp) (by simp) rfl (Ac ?_) ?_ ?_
  ·simp [Sc.Av (fun j hj=>AB hj) hs];simpa using h1
  ·simp []
  ·simp [B1]
 ·rintro ⟨k,m⟩ ⟨hk,hm⟩
  simp only at hk hm
  by_cases hlt:k < l.length
  ·have hd:l.drop k=at' l k :: l.drop (k+1):=by rw [Cb _ _ hlt];exact List.drop_eq_getElem_cons hlt
   rw [hd,tH] at hm
   refine CW.vc oe [0,2,3,4,5,6,7,8,10,13,15,16,17,18,24,39] (by kernel_rfl) ?_
   (repeat ((try refine Vc.mk' ?_);simp only [go_sem,GO h,GN h,Hf h,He h,Hk h,FW h,E4 h,FO h,FQ h,FI h,E5 h,E6 h,E7 h,FF h,E9 h,h.P,h.oc,h.cl,h.rd,h.ref,Aj hs,AZ hs,AY hs,AX h hs DW,VS,Fm,hlt,stP]))
   refine Rj.mk (fun c1=> ?_) (fun c1=> ?_)
   ·(repeat ((try refine Vc.mk' ?_);simp only [go_sem]))
    simp only [Bool.not_eq_true'] at c1
    rw [if_pos c1] at hm
    simp only [F9,hm]
    (refine ⟨[],by simp,by simp,by simp, ?_, ?_, ?_⟩ <;> simp [])
   ·(repeat ((try refine Vc.mk' ?_);simp only [go_sem]))
    simp only [Bool.not_eq_false'] at c1
    rw [if_neg (by simp [c1])] at hm
    refine Rj.mk (fun c2=> ?_) (fun c2=> ?_)
    ·(repeat ((try refine Vc.mk' ?_);simp only [go_sem]))
     rw [if_pos (show (LP m (dA (at' l k))).isSome=true from c2)] at hm
     simp only [F9,hm]
     (refine ⟨[],by simp,by simp,by simp, ?_, ?_, ?_⟩ <;> simp [])
    ·(repeat ((try refine Vc.mk' ?_);simp only [go_sem]))
     rw [if_neg (by simp [dA,c2])] at hm
     have hmc:WS m ⟨(at' l k).C9,(at' l k).To,(at' l k).KM⟩ k=k+1:=by
      unfold WS
      cases hg:LP m ⟨(at' l k).C9,(at' l k).To,(at' l k).KM⟩ with
      |none=>rfl
      |some x=>rw [hg] at c2;cases c2
     refine .mk (k+1,NW m (dA (at' l k)) (at' l k) k) ⟨hlt,hm⟩ (show l.length - (k+1) < l.length - k by omega) (Bj.mk' [top] hcl (by simp) (by simp) rfl (Ac ?_) ?_ ?_)
     ·simp [Sc.Av (fun j hj=>AB hj) hs,B0 hlt h.le]
     ·simp []
     ·simp [hmc,dA]
  ·have hk2:k=l.length:=by omega
   subst hk2
   rw [List.drop_length,tH] at hm
   refine CW.vc oe [0,2,3,4,5,6,7,8,10,13,15,16,17,18,24,39] (by kernel_rfl) ?_
   (repeat ((try refine Vc.mk' ?_);simp only [go_sem,GO h,GN h,Hf h,He h,Hk h,FW h,E4 h,FO h,FQ h,FI h,E5 h,E6 h,E7 h,FF h,E9 h,h.P,h.oc,h.cl,h.rd,h.ref,Aj hs,AZ hs,AY hs,AX h hs DW,VS,Fm,hlt,stP]))
   simp only [F9,hm]
   (refine ⟨[top],by simp,by simp,by simp, ?_, ?_, ?_⟩ <;> simp [])
end Go.Proofs.YthlhnangbinhoaaGreatDoor.Fa
set_option linter.unusedSimpArgs false
set_option linter.unusedVariables false
namespace Go.Proofs.YthlhnangbinhoaaGreatDoor.Fa
open Go.Dm Go.Proofs.YthlhnangbinhoaaGreatDoor.Dm
set_option maxHeartbeats 4000000
def G3:=Cx G2 129 Ip
theorem ADb:DU Tryz.prog tt.get G3:=oe.add ZL
theorem Rt:G3 129=Ip:=rfl
structure tg where
 m:X7
 Cc:Nat
 ks:List Int
def kn:List Int:=List.replicate 625 0
theorem gO:Dp 625 (.int .i64 0)=kn.map (Value.int .i64):=Qq
def JQ (mb:Nat)(ks:List Int):Option BI:=some (.cells true 0 (.map (some mb) :: ks.map (Value.int .i64)))
def WN (mb b:Nat)(p:tg):BV:= [(mb,some (.map (B1 p.m) p.Cc)),(b,JQ mb p.ks)]
def HJ (l:List BX)(top:Nat):Value×BV×Nat:=match I7 l with
 | .error (_,e)=>(.tuple ⟨[.pointer none, .int .i64 e]⟩, [],top)
 | .ok m=>(.tuple ⟨[.pointer (some ⟨top+1,0,none⟩), .int .i64 0]⟩,WN top (top+1) ⟨m,l.length,kn⟩,top+2)
def HN:Bz:= .det (fun args hp _=>match args with | [v]=>G6 AJ hp v | _=>False) (fun args hp top=>match args with | [v]=>HJ (AJ.rd hp v) top | _=>(undef, [],top))
theorem aV:∀(l:List BX) (k:Nat) (m:X7) (i:Nat) (e:Int),tH l k m= .error (i,e)→e=2∨e=7
 | [],_,_,_,_,h=>by cases h
 |r :: l,k,m,i,e,h=>by
  unfold tH at h
  split at h
  ·cases h;exact .inl rfl
  ·split at h
   ·cases h;exact .inr rfl
   ·exact aV l _ _ _ _ h
theorem PI {l:List BX}{i:Nat}{e:Int}(h:I7 l= .error (i,e)):e≠0:=by
 unfold I7 at h
 split at h
 ·cases h;decide
 ·rcases aV _ _ _ _ _ h with rfl | rfl <;> decide
theorem vi:BR Tryz.prog 104 HN:=by
 refine .Jq SL ?_
 intro args hp top hpre hcl hsc
 match args,hpre with
 | [v],⟨l,h⟩=>
 refine Ae.Bn Bu SL rfl 19 rfl [.tmp 2, .tmp 3] rfl (show 1≤19 by decide) ?_
 refine CW.vc ADb [0,2,3,4,6,14] (by kernel_rfl) ?_
 have hpl:G6 AJ hp v:=⟨l,h⟩
 cases hx:I7 l with
 |error p=>
  obtain ⟨i,e⟩:=p
  have he:=PI hx
  (repeat ((try refine Vc.mk' ?_);simp only [go_sem,Rt,Ip,h.rd,F9,HJ,hx,hpl,he]))
  (refine ⟨[],by simp,by simp,by simp, ?_, ?_, ?_⟩ <;> simp [])
 |ok m=>
  (repeat ((try refine Vc.mk' ?_);simp only [go_sem,Rt,Ip,h.rd,F9,HJ,hx,hpl]))
  (refine ⟨[top,top+1],by simp,by simp,by simp, ?_, ?_, ?_⟩ <;> simp [WN,JQ,gO])
end Go.Proofs.YthlhnangbinhoaaGreatDoor.Fa
