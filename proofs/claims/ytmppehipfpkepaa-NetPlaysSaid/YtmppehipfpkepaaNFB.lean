/- The fate package: right, may, planned. -/
import Derived.Test.YtmppehipfpkepaaDmK
set_option linter.unusedVariables false
namespace Go.Proofs.Ytmppehipfpkepaa.Fa
open Go.Dm Go.Proofs.Ytmppehipfpkepaa.Dm
set_option maxHeartbeats 4000000
theorem OJ {a b:Bool}(h:a=true ↔ b=true):Value.bool a=Value.bool b:=by rw [Bool.eq_iff_iff.2 h]
def G0:FuncId→Bp:=fun _=> .none
theorem Tl:Cf Try.prog tt.get G0:=⟨BE,fun _=>trivial⟩
def LP (a b:Int):Bool:=decide (1≤a∧a≤24∧1≤b∧b≤24∧a≠b)
def Fx:Bp:= .pure (fun args _=>match args with | [x,y]=>EO .i64 x∧EO .i64 y | _=>False) (fun args _=>match args with | [x,y]=> .bool (LP (intOf x) (intOf y)) | _=>undef)
theorem nt:BK Try.prog 56 Fx:=by
 refine .mkPure XW ?_
 intro args hp hpre top
 match args,hpre with
 | [x,y],⟨hx,hy⟩=>
 rw [hx,hy]
 refine AL.Au BE XW rfl 24 rfl [.tmp 4] rfl (show 2≤24 by decide) ?_
 refine CW.vc Tl [0,1,4] (by kernel_rfl) ?_
 (repeat ((try refine Vc.mk' ?_);simp only [go_sem]))
 refine OJ ?_
 simp [LP];omega
def G1:=Bu G0 56 Fx
theorem I5:Cf Try.prog tt.get G1:=Tl.add nt
theorem kB:G1 56=Fx:=rfl
def LQ (r:A8):Bool:=
 LP r.B2 r.To && decide (1≤r.RF∧r.RF≤1048576) && (if r.Kind=1 then decide (r.By=0) else if r.Kind=2∨r.Kind=3 then decide (1≤r.By∧r.By≤64) else false)
def Wb:Bp:= .pure (fun args _=>match args with | [.agg ⟨l⟩]=>Ap.enc (Ap.dec l)=l | _=>False) (fun args _=>match args with | [.agg ⟨l⟩]=> .bool (LQ (Ap.dec l)) | _=>undef)
theorem xC:BK Try.prog 86 Wb:=by
 refine .Gx WX ?_ ?_
 ·intro args hp h
  match args,h with
  | [.agg ⟨l⟩],_=>rfl
 intro args hp hpre top hcl hsc
 match args,hpre with
 | [.agg ⟨l⟩],hl=>
 obtain ⟨r,rfl⟩:∃r,l=Ap.enc r:=⟨_,hl.symm⟩
 refine AL.Au BE WX rfl 37 rfl [.tmp 2] rfl (show 1≤37 by decide) ?_
 refine CW.vc I5 [0,1,2,18,20,21,26] (by kernel_rfl) ?_
 repeat' first | refine Le.mk (fun _=> ?_) (fun _=> ?_) | refine Vc.mk' ?_ | simp only [go_sem,Nat.reduceAdd,Nat.reduceLT,kB,Fx]
 all_goals grind [LQ]
set_option maxHeartbeats 4000000
def G2:=Bu G1 86 Wb
theorem a7:Cf Try.prog tt.get G2:=I5.add xC
theorem zZ:G2 86=Wb:=rfl
abbrev KG:=Cw
def LR (r:A8):EK:=⟨r.B2,r.To,r.RF⟩
def b7:List A8→Nat→KG→Except (Nat×Int) KG
 | [],_,m=> .ok m
 |r :: l,k,m=>if LQ r=false then .error (k,2) else if (BV m (LR r)).isSome then .error (k,7) else b7 l (k+1) (Fs m (LR r) r k)
def Dw (l:List A8):Except (Nat×Int) KG:=if 64 < l.length then .error (64,3) else b7 l 0 []
def GH (l:List A8)(top:Nat):Value×BC×Nat:=match Dw l with
 | .error (i,e)=>(.tuple ⟨[.map none, .int .i64 (i:Int), .int .i64 e]⟩, [],top)
 | .ok m=>(.tuple ⟨[.map (some top), .int .i64 0, .int .i64 0]⟩, [(top,some (.map (BI m) l.length))],top+1)
def JR:Bp:= .det (fun args hp _=>match args with | [v]=>Dp Ap hp v | _=>False) (fun args hp top=>match args with | [v]=>GH (Ap.rd hp v) top | _=>(undef, [],top))
def stP (hp:Hp)(top:Nat)(v:Value)(l:List A8)(x:Nat×KG):SS:=
 ⟨[(0,v,true),(2, .map none,true),(3, .int .i64 0,true),(4, .int .i64 0,true),(5, .map (some top),true),(13, .bool false,true),(15,v,true),(16, .int .i64 (l.length:Int),true),(17, .int .i64 (x.1:Int),true)],
  hp.AZ [(top,some (.map (BI x.2) x.1))],top+1⟩
set_option maxHeartbeats 2000000 in
theorem ay:BK Try.prog 70 JR:=by
 refine .Cc W4 ?_
 intro args hp top hpre hcl hsc
 match args,hpre with
 | [v],⟨l,h⟩=>
 have hs:=h.low hcl
 simp only [h.rd]
 refine AL.Au BE W4 rfl 46 rfl [.tmp 2, .tmp 3, .tmp 4] rfl (show 1≤46 by decide) ?_
 refine CW.vc a7 [0,2,3,4,5,6,7,8,10,13,15,16,17,18,24,39] (by kernel_rfl) ?_
 (repeat ((try refine Vc.mk' ?_);simp only [go_sem,FY h]))
 refine Le.mk (fun h1=> ?_) (fun h1=> ?_)
 ·have h2:Dw l= .error (64,3):=by simp at h1;simp only [Dw,if_pos (show 64 < l.length by omega)]
  (repeat ((try refine Vc.mk' ?_);simp only [go_sem,GH,h2]))
  (refine ⟨[],by simp,by simp,by simp, ?_, ?_, ?_⟩ <;> simp [Ad,Ag,AD.nil,AE.refl])
 have h1':¬64 < l.length:=by simp at h1;omega
 have hp1:Dw l=b7 l 0 []:=by simp only [Dw,if_neg h1']
 (repeat ((try refine Vc.mk' ?_);simp only [go_sem,FY h]))
 refine CW.CZ (stP hp top v l) (fun x=>x.1≤l.length∧Dw l=b7 (l.drop x.1) x.1 x.2) (fun x=>l.length - x.1) (0, []) ⟨Nat.zero_le _,hp1⟩ ?_ ?_
 ·refine BO.mk' [top] hcl (by simp) (by simp) rfl (AV ?_) ?_ ?_
  ·simp [Ax,Cd,Ad,AM,Sc.Ad (fun j hj=>AA hj) hs];simpa using h1
  ·simp [AE.set,AE.refl]
  ·simp [AD.nil,AD.cons,AF,BZ,AM,AB,BI]
 ·rintro ⟨k,m⟩ ⟨hk,hm⟩
  simp only at hk hm
  by_cases hlt:k < l.length
  ·have hd:l.drop k=Aj l k :: l.drop (k+1):=by rw [Bj _ _ hlt];exact List.drop_eq_getElem_cons hlt
   rw [hd,b7] at hm
   refine CW.vc a7 [0,2,3,4,5,6,7,8,10,13,15,16,17,18,24,39] (by kernel_rfl) ?_
   (repeat ((try refine Vc.mk' ?_);simp only [go_sem,Nat.reduceAdd,JA h,Oh h,Ao hs,zZ,Wb,hlt,stP]))
   refine Le.mk (fun c1=> ?_) (fun c1=> ?_)
   ·(repeat ((try refine Vc.mk' ?_);simp only [go_sem]))
    simp only [Bool.not_eq_true'] at c1
    rw [if_pos c1] at hm
    simp only [GH,hm]
    (refine ⟨[],by simp,by simp,by simp, ?_, ?_, ?_⟩ <;> simp [Ad,Ag,AD.nil,AE.set,AE.refl])
   ·(repeat ((try refine Vc.mk' ?_);simp only [go_sem,reduceCtorEq,Nat.reduceAdd,Nat.reduceLT,Nat.reduceLeDiff]))
    simp only [Bool.not_eq_false'] at c1
    rw [if_neg (by simp [c1])] at hm
    refine Le.mk (fun c2=> ?_) (fun c2=> ?_)
    ·(repeat ((try refine Vc.mk' ?_);simp only [go_sem]))
     rw [if_pos (show (BV m (LR (Aj l k))).isSome=true from c2)] at hm
     simp only [GH,hm]
     (refine ⟨[],by simp,by simp,by simp, ?_, ?_, ?_⟩ <;> simp [Ad,Ag,AD.nil,AE.set,AE.refl])
    ·(repeat ((try refine Vc.mk' ?_);simp only [go_sem,reduceCtorEq,Nat.reduceAdd,Nat.reduceEqDiff]))
     rw [if_neg (by simp [LR,c2])] at hm
     have hmc:LD m ⟨(Aj l k).B2,(Aj l k).To,(Aj l k).RF⟩ k=k+1:=by
      unfold LD
      cases hg:BV m ⟨(Aj l k).B2,(Aj l k).To,(Aj l k).RF⟩ with
      |none=>rfl
      |some x=>rw [hg] at c2;cases c2
     refine .mk (k+1,Fs m (LR (Aj l k)) (Aj l k) k) ⟨hlt,hm⟩ (show l.length - (k+1) < l.length - k by omega) (BO.mk' [top] hcl (by simp) (by simp) rfl (AV ?_) ?_ ?_)
     ·simp [Ax,Cd,Ad,AM,Sc.Ad (fun j hj=>AA hj) hs,Av hlt h.le]
     ·simp [AE.set,AE.refl]
     ·simp [AD.nil,AD.cons,AF,BZ,AM,AB,Ai,hmc,LR]
  ·have hk2:k=l.length:=by omega
   subst hk2
   rw [List.drop_length,b7] at hm
   refine CW.vc a7 [0,2,3,4,5,6,7,8,10,13,15,16,17,18,24,39] (by kernel_rfl) ?_
   (repeat ((try refine Vc.mk' ?_);simp only [go_sem,hlt,stP]))
   simp only [GH,hm]
   (refine ⟨[top],by simp,by simp,by simp, ?_, ?_, ?_⟩ <;> simp [Ad,Ag,AD.nil,AD.cons,AF,BZ,AM,AB,AE.set,AE.refl,Ai])
end Go.Proofs.Ytmppehipfpkepaa.Fa
/- The fate package: New, Ask. -/
set_option linter.unusedVariables false
namespace Go.Proofs.Ytmppehipfpkepaa.Fa
open Go.Dm Go.Proofs.Ytmppehipfpkepaa.Dm
set_option maxHeartbeats 4000000
def G3:=Bu G2 70 JR
theorem ABw:Cf Try.prog tt.get G3:=a7.add ay
theorem S7:G3 70=JR:=rfl
structure Gl where
 m:KG
 CC:Nat
 ks:List Int
def dN:List Int:=List.replicate 625 0
theorem lW:Gw 625 (.int .i64 0)=dN.map (Value.int .i64):=Yo
def B7 (mb:Nat)(ks:List Int):Option BB:=some (.cells true 0 (.map (some mb) :: ks.map (Value.int .i64)))
def Cm (mb b:Nat)(p:Gl):BC:= [(mb,some (.map (BI p.m) p.CC)),(b,B7 mb p.ks)]
/-- New -/
def L4 (l:List A8)(top:Nat):Value×BC×Nat:=match Dw l with
 | .error (_,e)=>(.tuple ⟨[.pointer none, .int .i64 e]⟩, [],top)
 | .ok m=>(.tuple ⟨[.pointer (some ⟨top+1,0,none⟩), .int .i64 0]⟩,Cm top (top+1) ⟨m,l.length,dN⟩,top+2)
def JH:Bp:= .det (fun args hp _=>match args with | [v]=>Dp Ap hp v | _=>False) (fun args hp top=>match args with | [v]=>L4 (Ap.rd hp v) top | _=>(undef, [],top))
theorem dS:∀(l:List A8) (k:Nat) (m:KG) (i:Nat) (e:Int),b7 l k m= .error (i,e)→e=2∨e=7
 | [],_,_,_,_,h=>by cases h
 |r :: l,k,m,i,e,h=>by
  unfold b7 at h
  split at h
  ·cases h;exact .inl rfl
  ·split at h
   ·cases h;exact .inr rfl
   ·exact dS l _ _ _ _ h
theorem JB {l:List A8}{i:Nat}{e:Int}(h:Dw l= .error (i,e)):e≠0:=by
 unfold Dw at h
 split at h
 ·cases h;decide
 ·rcases dS _ _ _ _ _ h with rfl | rfl <;> decide
theorem Sv:BK Try.prog 39 JH:=by
 refine .Cc Xo ?_
 intro args hp top hpre hcl hsc
 match args,hpre with
 | [v],⟨l,h⟩=>
 refine AL.Au BE Xo rfl 19 rfl [.tmp 2, .tmp 3] rfl (show 1≤19 by decide) ?_
 refine CW.vc ABw [0,2,3,4,6,14] (by kernel_rfl) ?_
 have hpl:Dp Ap hp v:=⟨l,h⟩
 cases hx:Dw l with
 |error p=>
  obtain ⟨i,e⟩:=p
  have he:=JB hx
  (repeat ((try refine Vc.mk' ?_);simp only [go_sem,S7,JR,h.rd,GH,L4,hx,hpl,he]))
  (refine ⟨[],by simp,by simp,by simp, ?_, ?_, ?_⟩ <;> simp [Ad,Ag,AD.nil,AE.refl])
 |ok m=>
  (repeat ((try refine Vc.mk' ?_);simp only [go_sem,Nat.reduceAdd,Nat.reduceLeDiff,S7,JR,h.rd,GH,L4,hx,hpl]))
  (refine ⟨[top,top+1],by simp,by simp,by simp, ?_, ?_, ?_⟩ <;> simp [Ad,Ag,BX,AD.nil,AD.cons,AF,AG,BZ,AM,Aw,AB,AH,AE.set,AE.refl,Ai,Cm,B7,lW])
def G4:=Bu G3 39 JH
theorem ABC:Cf Try.prog tt.get G4:=ABw.add Sv
/-- a T9 that is read -/
def WH (hp:Hp)(v:Value):Option (Nat×Nat×Gl):=match v with
 | .pointer (some ⟨b,0,none⟩)=>match hp b with
  |some (.cells _ _ (.map (some mb) :: ks))=>match hp mb with
   |some (.map es CC)=>some (b,mb,⟨E9 es,CC,ks.map intOf⟩)
   |_=>none
  |_=>none
 |_=>none
/-- a T9 that is there -/
inductive Nu (hp:Hp):Value→Nat→Nat→Gl→Prop
 |mk (b mb:Nat) (p:Gl) (hb:hp b=B7 mb p.ks) (hm:hp mb=some (.map (BI p.m) p.CC)) (hl:p.ks.length=625):Nu hp (.pointer (some ⟨b,0,none⟩)) b mb p
theorem HT (l:List Int):(l.map (Value.int .i64)).map intOf=l:=by rw [List.map_map];exact (List.map_congr_left (fun _ _=>rfl)).trans (List.map_id l)
theorem Nu.rd {hp:Hp}{v:Value}{b mb:Nat}{p:Gl}(h:Nu hp v b mb p):WH hp v=some (b,mb,p):=by
 cases h with
 |mk b mb p hb hm hl=>simp only [WH,hb,B7,hm,FE,HT]
def SP (hp:Hp)(v:Value):Prop:= ∃b mb p,Nu hp v b mb p
theorem Nu.ne {hp:Hp}{v:Value}{b mb:Nat}{p:Gl}(h:Nu hp v b mb p):b≠mb:=by
 cases h with
 |mk b mb p hb hm hl=>intro e;subst e;rw [hm] at hb;cases hb
def Jv:Bp:= .pure (fun args hp=>match args with | [v]=>v= .pointer none∨SP hp v | _=>False) (fun args _=>match args with | [.pointer none]=> .bool true | _=> .bool false)
theorem tN:BK Try.prog 55 Jv:=by
 refine .Gx Wh ?_ ?_
 ·intro args hp h
  match args,h with
  | [v],_=>split <;> rfl
 intro args hp hpre top hcl hsc
 match args,hpre with
 | [v],h=>
 refine AL.Au BE Wh rfl 12 rfl [.tmp 2] rfl (show 1≤12 by decide) ?_
 refine CW.vc ABC [0,2] (by kernel_rfl) ?_
 rcases h with rfl | ⟨b,mb,p,h⟩
 ·(repeat ((try refine Vc.mk' ?_);simp only [go_sem]))
 ·cases h with
  |mk b mb p hb hm hl=>
  (repeat ((try refine Vc.mk' ?_);simp only [go_sem,hb,B7]))
def G5:=Bu G4 55 Jv
theorem EY:Cf Try.prog tt.get G5:=ABC.add tN
theorem PG:G5 55=Jv:=rfl
theorem Lu:G5 56=Fx:=rfl
set_option maxHeartbeats 4000000
def IT (r:A8):FT:=if r.Kind=2 then ⟨2,0,r.By⟩ else if r.Kind=3 then ⟨1,r.By,0⟩ else ⟨0,0,0⟩
def Ig (ks:List Int)(x y:Int):Int:=BQ .i64 ((ks[x.toNat * 25+y.toNat]?).getD 0+1)
def Cr (p:Gl)(x y:Int):Gl×FT×Int:=
 if LP x y=false then (p,⟨0,0,0⟩,2) else
 match BV p.m ⟨x,y,Ig p.ks x y⟩ with
 |none=>({p with ks:=p.ks.set (x.toNat * 25+y.toNat) (Ig p.ks x y)},⟨1,0,0⟩,0)
 |some r=>(⟨Ix p.m ⟨x,y,Ig p.ks x y⟩,p.CC,p.ks.set (x.toNat * 25+y.toNat) (Ig p.ks x y)⟩,IT r,0)
def Th (b mb:Nat)(p:Gl)(x y:Int)(top:Nat):Value×BC×Nat:=
 (.tuple ⟨[.agg ⟨JV.enc (Cr p x y).2.1⟩, .int .i64 (Cr p x y).2.2]⟩,Cm mb b (Cr p x y).1,top)
def Pb:Bp:= .det (fun args hp _=>match args with | [v,x,y]=>SP hp v∧EO .i64 x∧EO .i64 y | _=>False) (fun args hp top=>match args with
 | [v,x,y]=>(match WH hp v with
  |some (b,mb,p)=>Th b mb p (intOf x) (intOf y) top
  |none=>(undef, [],top))
 |_=>(undef, [],top))
set_option maxHeartbeats 4000000 in
theorem ym:BK Try.prog 33 Pb:=by
 refine .Cc WC ?_
 intro args hp top hpre hcl hsc
 match args,hpre with
 | [v,x,y],⟨⟨b,mb,p,h⟩,hx,hy⟩=>
 rw [hx,hy]
 generalize intOf x=x,intOf y=y
 have hi:SP hp v:=⟨b,mb,p,h⟩
 have hr:=h.rd
 have hne:=h.ne
 simp only [hr,Th,BA]
 refine AL.Au BE WC rfl 75 rfl [.cell 6 28, .tmp 7] rfl (show 3≤75 by decide) ?_
 cases h with
 |mk b mb p hb hm hl=>
 have hbt:=hcl.lt _ _ hb
 have hmt:=hcl.lt _ _ hm
 have hi2:∀o,SP (hp.set top o) (.pointer (some ⟨b,0,none⟩)):=fun o=>⟨b,mb,p, .mk b mb p ((AS hbt (Nat.le_refl _)).trans hb) ((AS hmt (Nat.le_refl _)).trans hm) hl⟩
 cases hrt:LP x y with
 |false=>
  refine CW.vc EY [0,1,2,6,7,8,9,10,11,15,55,63,64,69] (by kernel_rfl) ?_
  (repeat ((try refine Vc.mk' ?_);simp only [go_sem,Nat.reduceAdd,PG,Jv,Lu,Fx,hrt,hi2]))
  simp only [Cr,hrt,if_true,Cm]
  refine ⟨[],by simp,by simp,by simp,by simp [Ad,Ag],by simp [AE.set,AE.refl], ?_⟩
  simp [Ad,Ag,BX,AD.nil,AD.cons,AF,AG,BZ,Ai,hb,B7,hm,AS hbt,AS hmt,AA hbt,AA hmt]
 |true=>
  obtain ⟨r1,r2,r3,r4,r5⟩:=of_decide_eq_true (show decide (1≤x∧x≤24∧1≤y∧y≤24∧x≠y)=true from hrt)
  have hix:x.toNat * 25+y.toNat < 625:=by omega
  have hx0:0≤x:=by omega
  have hy0:0≤y:=by omega
  have hx1:x < ((25:Nat):Int):=by omega
  have hy1:y < ((25:Nat):Int):=by omega
  have hb1:1+(x.toNat * 25+y.toNat) < 626:=by omega
  have hb2:1+(x.toNat * 25+(y.toNat+1))≤626:=by omega
  cases hg:BV p.m ⟨x,y,Ig p.ks x y⟩ with
  |none=>
   have hf:Cr p x y=({p with ks:=p.ks.set (x.toNat * 25+y.toNat) (Ig p.ks x y)},⟨1,0,0⟩,0):=by simp [Cr,hrt,hg]
   have hg2:=hg
   simp only [Ig] at hg2
   refine CW.vc EY [0,1,2,6,7,8,9,10,11,15,55,63,64,69] (by kernel_rfl) ?_
   (repeat ((try refine Vc.mk' ?_);simp only [go_sem,reduceCtorEq,Nat.reduceAdd,Nat.reduceLeDiff,PG,Jv,Lu,Fx,hb,B7,hm,AS hbt,AS hmt,Nz hbt,hne.symm,hrt,hi2,H7,Fy,hl,List.length_set,hix,hx0,hy0,hx1,hy1,hb1,hb2,Nat.mul_one,List.getElem?_set_self,hg2,hf]))
   refine ⟨[],by simp,by simp,by simp,by simp [Ad,Ag],by simp [AE.set,AE.B5,AE.refl,Cm], ?_⟩
   simp [Ad,Ag,PV,BX,AD.nil,AD.cons,AF,AG,BZ,AB,AH,Ai,Cm,Ig,B7,hm,AS hbt,AS hmt,AA hbt,AA hmt,hne.symm]
  |some r=>
   have hg2:=hg
   simp only [Ig] at hg2
   have hf:Cr p x y=(⟨Ix p.m ⟨x,y,Ig p.ks x y⟩,p.CC,p.ks.set (x.toNat * 25+y.toNat) (Ig p.ks x y)⟩,IT r,0):=by simp [Cr,hrt,hg]
   by_cases h2:r.Kind=2
   ·have hf2:IT r=⟨2,0,r.By⟩:=by simp [IT,h2]
    rw [hf2] at hf
    refine CW.vc EY [0,1,2,6,7,8,9,10,11,15,55,63,64,69] (by kernel_rfl) ?_
    (repeat ((try refine Vc.mk' ?_);simp only [go_sem,reduceCtorEq,Nat.reduceAdd,Nat.reduceLT,Nat.reduceLeDiff,Nat.reduceEqDiff,PG,Jv,Lu,Fx,hb,B7,hm,AS hbt,AS hmt,Nz hbt,Nz hmt,hne.symm,hrt,hi2,H7,Fy,hl,List.length_set,hix,hx0,hy0,hx1,hy1,hb1,hb2,Nat.mul_one,List.getElem?_set_self,hg2,hf,h2]))
    refine ⟨[],by simp,by simp,by simp,by simp [Ad,Ag],by simp [AE.set,AE.B5,AE.refl,Cm], ?_⟩
    simp [Ad,Ag,PV,BX,AD.nil,AD.cons,AF,AG,BZ,AB,AH,Ai,Cm,Ig,B7,AS hbt,AS hmt,AA hbt,AA hmt,hne]
   by_cases h3:r.Kind=3
   ·have hf2:IT r=⟨1,r.By,0⟩:=by simp [IT,h3]
    rw [hf2] at hf
    refine CW.vc EY [0,1,2,6,7,8,9,10,11,15,55,63,64,69] (by kernel_rfl) ?_
    (repeat ((try refine Vc.mk' ?_);simp only [go_sem,reduceCtorEq,Nat.reduceAdd,Nat.reduceLT,Nat.reduceLeDiff,Nat.reduceEqDiff,Int.reduceEq,PG,Jv,Lu,Fx,hb,B7,hm,AS hbt,AS hmt,Nz hbt,Nz hmt,hne.symm,hrt,hi2,H7,Fy,hl,List.length_set,hix,hx0,hy0,hx1,hy1,hb1,hb2,Nat.mul_one,List.getElem?_set_self,hg2,hf,h3]))
    refine ⟨[],by simp,by simp,by simp,by simp [Ad,Ag],by simp [AE.set,AE.B5,AE.refl,Cm], ?_⟩
    simp [Ad,Ag,PV,BX,AD.nil,AD.cons,AF,AG,BZ,AB,AH,Ai,Cm,Ig,B7,AS hbt,AS hmt,AA hbt,AA hmt,hne]
   ·have hf2:IT r=⟨0,0,0⟩:=by simp [IT,h2,h3]
    rw [hf2] at hf
    refine CW.vc EY [0,1,2,6,7,8,9,10,11,15,55,63,64,69] (by kernel_rfl) ?_
    (repeat ((try refine Vc.mk' ?_);simp only [go_sem,reduceCtorEq,Nat.reduceAdd,Nat.reduceLT,Nat.reduceLeDiff,Nat.reduceEqDiff,PG,Jv,Lu,Fx,hb,B7,hm,AS hbt,AS hmt,Nz hbt,Nz hmt,hne.symm,hrt,hi2,H7,Fy,hl,List.length_set,hix,hx0,hy0,hx1,hy1,hb1,hb2,Nat.mul_one,List.getElem?_set_self,hg2,hf,h2,h3]))
    refine ⟨[],by simp,by simp,by simp,by simp [Ad,Ag],by simp [AE.set,AE.B5,AE.refl,Cm], ?_⟩
    simp [Ad,Ag,PV,BX,AD.nil,AD.cons,AF,AG,BZ,AB,AH,Ai,Cm,Ig,B7,AS hbt,AS hmt,AA hbt,AA hmt,hne]
end Go.Proofs.Ytmppehipfpkepaa.Fa
