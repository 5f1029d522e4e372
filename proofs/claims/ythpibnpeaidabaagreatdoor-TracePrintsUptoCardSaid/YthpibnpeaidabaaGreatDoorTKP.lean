import Derived.Test.YthpibnpeaidabaaGreatDoorTOF
set_option linter.unusedVariables false
namespace Go.Proofs.YthpibnpeaidabaaGreatDoor.Dm
open Go.Dm
set_option maxHeartbeats 16000000
set_option maxRecDepth 20000
def BH:AE:=⟨0,77,0,0,0,0,0,0,0,0⟩
def Hn (top n:Nat):Value:= .slice (some ⟨top,0,none⟩) n (n+1)
def Qe:BG:= .det (fun args hp _=>match args with | [v]=>HJ AA hp v∧(AA.rd hp v).length≤16000000 | _=>False) (fun args hp top=>match args with | [v]=>(Hn top (AA.rd hp v).length, [(top,AV AA (AA.rd hp v ++ [BH]))],top+1) | _=>(undef, [],top))
theorem tF {h':Hp}{t:Nat}{l:List AE}(hn:l.length≤16000000)(e:h' t=AV AA (l ++ [BH])):Be tt.get h' 22 (AR t (l ++ [BH])) none (some (.int .i64 (l.length:Int)))=(Hn t l.length,True):=by
 have hl:(l ++ [BH]).length=l.length+1:=by simp
 have:=YY (BM.own (E:=AA) (hp:=h') (b:=t) (l:=l ++ [BH]) e (by omega)) (k:= .i64) (n:=(l.length:Int)) (by omega) (by omega)
 rw [this]
 have hm:AR t (l ++ [BH])= .slice (some ⟨t,0,none⟩) (l.length+1) (l.length+1):=by
  cases l with
  |nil=>rfl
  |cons a r=>unfold AR;simp
 rw [hm,Int.toNat_natCast]
 simp [Hd,Hn]
theorem rN:Aw Tryz.prog 21 Qe:=by
 refine .Cg RM ?_
 intro args hp top hpre hcl hsc
 match args,hpre with
 | [v],⟨⟨l,h⟩,hb⟩=>
 have hs:=h.low hcl
 simp only [h.rd] at hb ⊢
 have hap:∀ {h':Hp} {j q t:Nat},h' j=AV AA l→h' q=some (.cells true 10 (AA.enc BH))→Ab tt.get h' t [22,22] (AR j l) (.slice (some ⟨q,0,none⟩) 1 1)=some (AR t (l ++ [BH]),CP j l t (AV AA (l ++ [BH])),t+1):=fun {h'} {j} {q} {t} a1 a2=>by
  have e3:cellsOf (h' q)=AA.enc BH:=by rw [a2];rfl
  have:=IB (hp:=h') (b:=j) (top:=t) (k:=q) a1 (by rw [e3];exact a2) (by rw [e3,AA.h]) (H5 (by omega) (by decide))
  rwa [e3,AA.h] at this
 simp only [Cs,show BH.Kind=77 from rfl,show BH.At=0 from rfl,show BH.Bp=0 from rfl,show BH.DI=0 from rfl,show BH.Id=0 from rfl,show BH.Set=0 from rfl,show BH.EM=0 from rfl,show BH.D9=0 from rfl,show BH.EF=0 from rfl,show BH.D8=0 from rfl] at hap
 have h16:l.length≤16777216:=by omega
 refine AK.Ar A7 RM rfl 13 rfl [.tmp 2] rfl (show 1≤13 by decide) ?_
 refine CW.vc Dt [0,2,3] (by kernel_rfl) ?_
 (repeat ((try refine Vc.mk' ?_);simp (maxSteps:=6000000) only [go_sem,reduceCtorEq,Nat.reduceAdd,Nat.reduceMul,Nat.reduceLeDiff,BI h,h.P,h.rd,hap,tF hb,h16]))
 (refine ⟨[top+2],by simp,by simp,by simp, ?_, ?_, ?_⟩ <;> simp [Ax,AB.nil,AB.cons,Az,Ap,AD,AJ.set,AJ.refl,Hn])
end Go.Proofs.YthpibnpeaidabaaGreatDoor.Dm
set_option linter.unusedVariables false
namespace Go.Proofs.YthpibnpeaidabaaGreatDoor.Dm
open Go.Dm
set_option maxHeartbeats 16000000
set_option maxRecDepth 20000
theorem RW {h':Hp}{t:Nat}{l:List AE}(hn:l.length≤16000000)(e:h' t=AV AA (l ++ [BH])):BM AA h' (Hn t l.length) l:=by
 have e2:h' t=some (.cells true AA.size (AA.flat (l ++ [BH]))):=by rw [e];cases l <;> rfl
 have hf:AA.flat (l ++ [BH])=AA.flat l ++ AA.flat [BH]:=by simp [Bk.flat]
 refine BM.rows t 0 (l.length+1) true _ l e2 ?_ ?_ (by omega) (by omega)
 ·rw [List.drop_zero,hf];exact List.take_left' (Bk.Bb l)
 ·rw [hf,List.length_append,Bk.Bb];omega
theorem bO {h':Hp}{t:Nat}{l:List AE}(e:h' t=AV AA (l ++ [BH])):Be tt.get h' 22 (Hn t l.length) none (some (.int .i64 ((l.length+1:Nat):Int)))=(AR t (l ++ [BH]),True):=by
 have e2:h' t=some (.cells true AA.size (AA.flat (l ++ [BH]))):=by rw [e];cases l <;> rfl
 have hm:AR t (l ++ [BH])= .slice (some ⟨t,0,none⟩) (l.length+1) (l.length+1):=by
  cases l with
  |nil=>rfl
  |cons a r=>unfold AR;simp
 rw [hm]
 unfold Be Hn
 simp only [Cv,Ch,e2]
 simp [Bh,DG,Hs,intOf]
 omega
def GT8:FuncId→BG:=BQ ux 18 (JO AA)
theorem wu:B4 Tryz.prog tt.get GT8:=Dt.add Oy
theorem wC:GT8 18=JO AA:=rfl
def MA:BG:= .pure (fun args hp=>match args with | [v,w]=> ∃b l,v=Hn b l.length∧hp b=AV AA (l ++ [BH])∧l.length≤16000000∧BM AA hp w l | _=>False) (fun _ _=> .bool true)
theorem nV:Aw Tryz.prog 26 MA:=by
 refine .Ep QS ?_ ?_
 ·intro args hp h
  match args,h with
  | [u,v],_=>rfl
 intro args hp hpre top hcl hsc
 match args,hpre with
 | [_,w],⟨b,l,rfl,hb,hn,h⟩=>
 have hs:=h.low hcl
 have so:=RW hn hb
 have p1:HJ AA hp (Hn b l.length)=True:=so.P
 have r1:AA.rd hp (Hn b l.length)=l:=so.rd
 have hL:(l ++ [BH]).length=l.length+1:=by simp
 have hA:=BM.own (E:=AA) (hp:=hp) (b:=b) (l:=l ++ [BH]) hb (by omega)
 have hlt:l.length < (l ++ [BH]).length:=by omega
 have hlt2:(l.length:Int) < ((l ++ [BH]).length:Int):=by omega
 have ww:AP .i64 ((l.length:Int)+1)=((l.length+1:Nat):Int):=by rw [wrap64 (by omega) (by omega)];omega
 have fu:=bO hb
 have ha:at' (l ++ [BH]) l.length=BH:=by rw [DV _ _ hlt];simp
 have ix:=BW hA (k:= .i64) (n:=(l.length:Int)) (by omega) hlt2
 rw [Int.toNat_natCast] at ix
 have fi:=T7 hA hlt
 have fc:=TH hA hlt
 rw [ha] at fc
 have f77:BH.Kind=77:=rfl
 refine AK.Ar A7 QS rfl 21 rfl [.tmp 4] rfl (show 2≤21 by decide) ?_
 refine CW.vc wu [0,1,4] (by kernel_rfl) ?_
 (repeat ((try refine Vc.mk' ?_);simp (maxSteps:=6000000) only [go_sem,BI h,h.P,h.rd,wC,JO,p1,r1,decide_true,ww,fu,ix,fi,fc,f77]))
end Go.Proofs.YthpibnpeaidabaaGreatDoor.Dm
