/- strings.Builder as the engine has it: Len, String. -/
import Derived.Test.YthlhnangbinhoaaGreatDoorTBC
import Derived.Test.YthlhnangbinhoaaGreatDoorSC
set_option linter.unusedSimpArgs false
set_option linter.unusedVariables false
namespace Go.Proofs.YthlhnangbinhoaaGreatDoor.Dm
open Go.Dm Go.RowKit
set_option maxHeartbeats 4000000
set_option maxRecDepth 100000
def Nf:Bz:= .pure (fun args hp=>match args with | [.pointer (some ⟨i,0,none⟩)]=>(∃a j l,EL hp i a j l) | _=>False)
 (fun args hp=>match args with | [.pointer (some ⟨i,_,_⟩)]=> .int .i64 (KG hp i).length | _=>undef)
theorem sd {h':Hp}{j:Nat}{l:List UInt8}:CQ tt.get h' 69 (AA j l)=(.int .i64 (l.length:Int),True):=by
 unfold CQ
 simp only [Gd]
 cases l <;> simp [AA,Eb,FA,Ud]
theorem sB:BR Tryz.prog 27 Nf:=by
 refine .LN Uo ?_ ?_
 ·rintro args hp h
  match args,h with
  | [.pointer (some ⟨i,0,none⟩)],⟨a,j,l,hB⟩=>rfl
 intro args hp hpre top hcl hsc
 match args,hpre with
 | [.pointer (some ⟨i,0,none⟩)],⟨a,j,l,hB⟩=>
 have h1:=hB.o
 unfold CJ at h1
 simp only [hB.MA]
 refine Ae.Bn Bu Uo rfl 8 rfl [.tmp 2] rfl (show 1≤8 by decide) ?_
 refine CW.vc Ss [0,2] (by kernel_rfl) ?_
 (repeat ((try refine Vc.mk' ?_);simp only [go_sem,h1,sd]))
theorem bV {φ:Dm.Ren}:∀ {l m:List Value} {k:Nat} {v:Value},Vs φ l m→l[k]? = some v→∃v',m[k]? = some v'∧V φ v v'
 |_,_,k,v, .nil,h=>by simp at h
 |_,_,0,v, .cons x x' l m hx hl,h=>by
  simp only [List.getElem?_cons_zero,Option.some.injEq] at h
  subst h
  exact ⟨x',rfl,hx⟩
 |_,_,k+1,v, .cons x x' l m hx hl,h=>by
  rw [List.getElem?_cons_succ] at h
  rw [List.getElem?_cons_succ]
  exact bV hl h
theorem vj {t m:Nat}(h1:1+5+4096 * 0=1+t+4096 * m)(h2:t < 4095):t=5:=by omega
theorem cd {w:World}{g n k:Nat}(hn:n≠0)(hk:k≠g):(w.freeze ⟨g,0,none⟩ n).heap[k]? = w.heap[k]? :=by
 simp only [World.freeze,if_neg hn,Array.getElem?_modify]
 rw [if_neg (Ne.symm hk)]
theorem eZ {w:World}{g n:Nat}:(w.freeze ⟨g,0,none⟩ n).heap.size=w.heap.size:=by
 unfold World.freeze
 split
 ·rfl
 ·simp
theorem LR {w:World}{a:Addr}{n:Nat}:(w.freeze a n).os=w.os∧(w.freeze a n).tape=w.tape∧(w.freeze a n).output=w.output:=by
 unfold World.freeze
 split <;> exact ⟨rfl,rfl,rfl⟩
def Kw:Bz:= .det (fun args hp _=>match args with | [.pointer (some ⟨i,0,none⟩)]=>(∃a j l,EL hp i a j l∧l.length≤140737488355328) | _=>False)
 (fun args hp top=>match args with | [.pointer (some ⟨i,_,_⟩)]=>(.string ⟨⟨KG hp i⟩⟩, [(Hh hp i top,none)],top+1) | _=>(undef, [],top))
theorem pE:BR Tryz.prog 28 Kw:=by
 refine ⟨⟨_,aE.toFTOk⟩,fun args hp top hpre=> ?_⟩
 match args,hpre with
 | [.pointer (some ⟨i,0,none⟩)],⟨a,j,l,hB,hroom⟩=>
 intro φ own w args' hargs H htop
 cases hargs with
 |cons _ _ _ _ hx hl=>
 cases hl
 cases hx with
 |ptr _ _ L hL=>
 obtain ⟨h0,hlim,hesz,x,y,fz,hh,va,vb,hfz⟩:=Lu H hB.o hL
 have hc1:w.cell? ⟨L.Bt,1,none⟩=some y:=by simp [World.cell?,hh]
 rw [h0]
 simp only [hB.MA]
 have hset:∀k o,hp.A6 [(Hh hp i top,none)] k=some o→hp k=some o:=fun k o hk=>by
  simp only [B5,CZ,Hp.set] at hk
  split at hk
  ·cases hk
  ·exact hk
 by_cases hl:l= []
 ·subst hl
  cases vb
  refine Calls.mono (qH L.Bt w hc1) ?_
  rintro e w' ⟨rfl,rfl⟩
  exact ⟨_,_,_,_,φ,rfl,⟨rfl,rfl,rfl⟩,⟨Dm.Ren.le_refl _, .str _,(H.sub hset).drew _,Dm.K.drew _ _ _,fun k hk=>htop k (by omega)⟩⟩
 ·have hl0:l.length≠0:=by simpa using hl
  have hj:=hB.b
  rw [G7,SU hl] at hj
  rw [MT hl] at vb
  cases vb with
  |slice _ _ _ _ c' M hM hnc hcc hlm=>
  obtain ⟨M',hM',he,c,t,fz2,hg,hsz,hle,hvs,hfz2⟩:=H.obj j _ hj
  rw [hM] at hM';cases hM'
  obtain ⟨m,m1,m2,m3,m4⟩:=hfz2.2.2 rfl Y3
  rw [U9] at m1
  have ht:=vj m1 m2
  subst ht
  rw [m3] at hvs hle hc1
  rw [FY,List.drop_zero] at hvs
  rw [FY,Nat.zero_add] at hle
  have hcell:∀k x,l[k]? = some x→w.cell? ⟨M.Bt,k,none⟩=some (.int .u8 x.toNat):=fun k x hk=>by
   obtain ⟨v',hv',vv⟩:=bV (k:=k) (v:= .int .u8 x.toNat) hvs (by simp [LD,hk])
   cases vv
   rw [List.getElem?_take] at hv'
   split at hv'
   ·have:c[k]? = some (.int .u8 x.toNat):=by rw [←Array.getElem?_toList];exact hv'
    simp [World.cell?,hg,this]
   ·cases hv'
  have hsz':l.length≤c.size:=by rw [hsz];exact hle
  refine Calls.mono (uP L.Bt M.Bt c' l c fz2 w hl hcc hsz' (by omega) hc1 hg hcell) ?_
  rintro e w' ⟨rfl,rfl⟩
  have hw1:∀k,k≠M.Bt→(w.drew.freeze ⟨M.Bt,0,none⟩ l.length).heap[k]? = w.heap[k]? :=fun k hk=>cd hl0 hk
  have hw2:(w.drew.freeze ⟨M.Bt,0,none⟩ l.length).heap.size=w.heap.size:=eZ
  have own1:=H.Ev j _ M hj rfl hM
  refine ⟨_,_,_,_,φ,rfl,⟨rfl,rfl,rfl⟩,⟨Dm.Ren.le_refl _, .str _, ?_,⟨Nat.le_of_eq hw2.symm,fun k _ hn=>hw1 k fun e=>hn (e ▸ own1),LR.1,LR.2.1,LR.2.2⟩,fun k hk=>htop k (by omega)⟩⟩
  have hsub:=H.sub hset
  refine ⟨fun k o hk=> ?_,hsub.sep,hsub.Ev,fun k N hN=>by rw [hw2];exact H.val k N hN,fun k hk=>H.fresh k (by rw [hw2] at hk;exact hk)⟩
  have hkj:j≠k:=fun e=>by
   subst e
   rw [hB.NJ hl] at hk
   simp only [B5,CZ,Hp.set,if_true] at hk
   cases hk
  have hk':=hset k o hk
  obtain ⟨N,hN,ok⟩:=H.obj k o hk'
  refine ⟨N,hN, ?_⟩
  rw [hw1 N.Bt (Ne.symm (H.sep j k _ o M N hj hk' hkj rfl hM hN))]
  exact ok
end Go.Proofs.YthlhnangbinhoaaGreatDoor.Dm
set_option linter.unusedSimpArgs false
set_option linter.unusedVariables false
namespace Go.Proofs.YthlhnangbinhoaaGreatDoor.Dm
open Go.Dm
set_option maxHeartbeats 16000000
set_option maxRecDepth 20000
def zF:List UInt8:= [48,49,50,51,52,53,54,55,56,57,97,98,99,100,101,102]
def RR (n:Nat):UInt8:=(zF[n]?).getD 0
def Dy (b:List UInt8):List UInt8:=b.flatMap fun c=> [RR (c.toNat / 16),RR (c.toNat % 16)]
theorem KB (b:List UInt8):(Dy b).length=2 * b.length:=by
 induction b with
 |nil=>rfl
 |cons a b ih=>
  have:Dy (a :: b)=RR (a.toNat / 16) :: RR (a.toNat % 16) :: Dy b:=rfl
  rw [this];simp only [List.length_cons,ih];omega
theorem dS {b:List UInt8}{c:UInt8}:Dy (b ++ [c])=Dy b ++ [RR (c.toNat / 16)] ++ [RR (c.toNat % 16)]:=by simp [Dy]
theorem DV {α:Type}[Inhabited α]{l:List α}{k:Nat}(h:k < l.length):l.take (k+1)=l.take k ++ [at' l k]:=by rw [Cb _ _ h,List.take_add_one,List.getElem?_eq_getElem h];rfl
theorem dR {b:List UInt8}{k:Nat}(h:k < b.length):Dy (b.take (k+1))=Dy (b.take k) ++ [RR ((at' b k).toNat / 16)] ++ [RR ((at' b k).toNat % 16)]:=by rw [DV h,dS]
theorem Jv {ρ:Nat→Nat}{a b:Value}:Jm ρ (CJ a b)=CJ (Av ρ a) (Av ρ b):=rfl
theorem Mg {ρ:Nat→Nat}{l:List UInt8}:Jm ρ (G7 l)=G7 l:=by
 cases l with
 |nil=>rfl
 |cons a l=>
  show some (BI.cells true qO (DA ρ (LD (a :: l))))=some (.cells true qO (LD (a :: l)))
  have:∀l:List UInt8,DA ρ (LD l)=LD l:=fun l=>by
   rw [Gf,LD,List.map_map];rfl
  rw [this]
def WX (top k:Nat):Value:=if k=0 then .pointer none else .pointer (some ⟨top,0,none⟩)
theorem mi {top k:Nat}:WX top k= .pointer none∨WX top k= .pointer (some ⟨top,0,none⟩):=by unfold WX;split <;> simp
theorem jg {b:List UInt8}{k:Nat}(h:k < b.length):(b[k]?).getD 0=at' b k:=by rw [Cb _ _ h,List.getElem?_eq_getElem h];rfl
theorem tW (c:UInt8):(Int.ofNat c.toNat < 256)=True:=eq_true (by have:=c.toNat_lt;simp;omega)
theorem tn (c:UInt8):(0≤Int.ofNat c.toNat)=True:=eq_true (Int.natCast_nonneg _)
theorem zx (c:UInt8):(Int.ofNat c.toNat).fdiv (Int.ofNat (Nat.pow 2 ((Int.toNat 4).min 8)))=((c.toNat / 16:Nat):Int):=by
 have:∀n:Fin 256,(Int.ofNat n.val).fdiv (Int.ofNat (Nat.pow 2 ((Int.toNat 4).min 8)))=((n.val / 16:Nat):Int):=by decide +kernel
 exact this ⟨c.toNat,c.toNat_lt⟩
theorem tA (c:UInt8):Cu .and .u8 (Int.ofNat c.toNat) 15=((c.toNat % 16:Nat):Int):=by
 have:∀n:Fin 256,Cu .and .u8 (Int.ofNat n.val) 15=((n.val % 16:Nat):Int):=by decide +kernel
 exact this ⟨c.toNat,c.toNat_lt⟩
theorem mN (n:Nat):([48,49,50,51,52,53,54,55,56,57,97,98,99,100,101,102] :List UInt8)[n]?.getD 0=RR n:=rfl
theorem kC (c:UInt8):UInt8.ofNat (Int.ofNat c.toNat).toNat=c:=by simp
def WL:Bz:= .pure (fun args _=>match args with | [.string ⟨⟨b⟩⟩]=>b.length≤512 | _=>False) (fun args _=>match args with | [b]=> .string ⟨⟨Dy (strOf b)⟩⟩ | _=>undef)
def GS6:FuncId→Bz:=Cx (Cx (Cx GS5 40 MS) 101 Ww) 28 Kw
theorem Ta:DU Tryz.prog tt.get GS6:=((tS.add qU).add AAP).add pE
theorem uA:GS6 101=Ww:=rfl
theorem tk:GS6 28=Kw:=rfl
def Xv (hp:Hp)(top:Nat)(b:List UInt8)(k:Nat):SS:=⟨[(0, .string ⟨⟨b⟩⟩,true),(3, .pointer (some ⟨top,0,none⟩),true),(6, .int .i64 (b.length:Int),true),(7, .int .i64 (k:Int),true)],hp.A6 [(top,CJ (WX top k) (AA (top+1) (Dy (b.take k)))),(top+1,G7 (Dy (b.take k)))],top+2⟩
theorem ur:BR Tryz.prog 81 WL:=by
 refine .LN VD ?_ ?_
 ·intro args hp h
  match args,h with
  | [.string ⟨⟨b⟩⟩],_=>rfl
 intro args hp hpre top hcl hsc
 match args,hpre with
 | [.string ⟨⟨b⟩⟩],hb=>
 simp only [AU]
 refine Ae.Bn Bu VD rfl 24 rfl [.tmp 2] rfl (show 1≤24 by decide) ?_
 refine CW.vc Ta [0,2,3,4,6,7,8] (by kernel_rfl) ?_
 (repeat ((try refine Vc.mk' ?_);simp (maxSteps:=6000000) only [go_sem,CV]))
 refine CW.D9 (Xv hp top b) (fun k=>k≤b.length) (fun k=>b.length - k) 0 (Nat.zero_le _) ?_ ?_
 ·exact (by refine Bj.mk' [top,top+1] hcl (by simp) (by simp) rfl (Ac ?_) ?_ ?_ <;> simp [J1,show WX top 0= .pointer none from rfl,show Dy (b.take 0)= [] from rfl,show Dy ([] :List UInt8)= [] from rfl,show G7 [] = none from rfl,CJ])
 ·intro k hi
  by_cases hlt:k < b.length
  ·have kk:Ar .i64 ((k:Int)+1)=((k+1:Nat):Int):=B0 hlt (by omega)
   have hts:=dR hlt
   have hTl:=KB (b.take k)
   have hTk:(b.take k).length≤512:=by rw [List.length_take];omega
   have hc:=jg hlt
   have h16:(at' b k).toNat / 16 < 16:=by have:=(at' b k).toNat_lt;omega
   have h16':(at' b k).toNat % 16 < 16:=Nat.mod_lt _ (by decide)
   generalize hT:Dy (b.take k)=T at hts hTl
   have hb1:WX top (k+1)= .pointer (some ⟨top,0,none⟩):=rfl
   have hP:∀ {h':Hp},h' top=CJ (WX top k) (AA (top+1) T)→h' (top+1)=G7 T→EL h' top (WX top k) (top+1) T:=fun a b=>⟨a,mi,b,by omega⟩
   have hpre:∀ {h':Hp},h' top=CJ (WX top k) (AA (top+1) T)→h' (top+1)=G7 T→(∃a j l_1,EL h' top a j l_1∧l_1.length≤140737488355327)=True:=fun a b=>eq_true ⟨_,_,_,hP a b,by omega⟩
   have hbL:∀ {h':Hp},h' top=CJ (WX top k) (AA (top+1) T)→h' (top+1)=G7 T→KG h' top=T:=fun a b=>(hP a b).MA
   generalize hd1:RR ((at' b k).toNat / 16)=d1 at hts
   generalize hd2:RR ((at' b k).toNat % 16)=d2 at hts
   have hP2:∀ {h':Hp} {q:Nat},h' top=CJ (.pointer (some ⟨top,0,none⟩)) (AA (top+2+1) (T ++ [d1]))→h' (top+2+1)=G7 (T ++ [d1])→EL h' top (.pointer (some ⟨top,0,none⟩)) (top+2+1) (T ++ [d1]):=fun a b=>⟨a, .inr rfl,b,by omega⟩
   have hpre2:∀ {h':Hp},h' top=CJ (.pointer (some ⟨top,0,none⟩)) (AA (top+2+1) (T ++ [d1]))→h' (top+2+1)=G7 (T ++ [d1])→(∃a j l_1,EL h' top a j l_1∧l_1.length≤140737488355327)=True:=fun a b=>eq_true ⟨_,_,_,hP2 (q:=0) a b,by simp only [List.length_append,List.length_cons,List.length_nil];omega⟩
   have hbL2:∀ {h':Hp},h' top=CJ (.pointer (some ⟨top,0,none⟩)) (AA (top+2+1) (T ++ [d1]))→h' (top+2+1)=G7 (T ++ [d1])→KG h' top=T ++ [d1]:=fun a b=>(hP2 (q:=0) a b).MA
   have hbJ2:∀ {h':Hp} {t:Nat},h' top=CJ (.pointer (some ⟨top,0,none⟩)) (AA (top+2+1) (T ++ [d1]))→h' (top+2+1)=G7 (T ++ [d1])→Hh h' top t=top+2+1:=fun a b=>(hP2 (q:=0) a b).NJ (by simp)
   by_cases k0:T= []
   ·have hbJ:∀ {h':Hp} {t:Nat},h' top=CJ (WX top k) (AA (top+1) T)→h' (top+1)=G7 T→Hh h' top t=t:=fun a b=>by
     have:=hP a b
     rw [k0] at this
     exact this.TV
    refine CW.vc Ta [0,2,3,4,6,7,8] (by kernel_rfl) ?_
    (repeat ((try refine Vc.mk' ?_);simp (maxSteps:=6000000) only [go_sem,Xv,hT,hlt,kk,uA,Ww,CV,hc,zx,tA,h16,h16',mN,hd1,hd2,tW,tn,kC,hpre,wbU,hbL,hbJ,hpre2,hbL2,hbJ2]))
    refine .mk (k+1) hlt (by omega) ((by refine Bj.mk' [top,top+5] hcl (by simp) (by simp) rfl (Ac ?_) ?_ ?_ <;> simp [hts,Jv,Mg,Al,hb1]))
   ·have hbJ:∀ {h':Hp} {t:Nat},h' top=CJ (WX top k) (AA (top+1) T)→h' (top+1)=G7 T→Hh h' top t=top+1:=fun a b=>(hP a b).NJ k0
    refine CW.vc Ta [0,2,3,4,6,7,8] (by kernel_rfl) ?_
    (repeat ((try refine Vc.mk' ?_);simp (maxSteps:=6000000) only [go_sem,Xv,hT,hlt,kk,uA,Ww,CV,hc,zx,tA,h16,h16',mN,hd1,hd2,tW,tn,kC,hpre,wbU,hbL,hbJ,hpre2,hbL2,hbJ2]))
    refine .mk (k+1) hlt (by omega) ((by refine Bj.mk' [top,top+5] hcl (by simp) (by simp) rfl (Ac ?_) ?_ ?_ <;> simp [hts,Jv,Mg,Al,hb1]))
  ·have hi2:k=b.length:=by omega
   subst hi2
   have hTl:=KB b
   have hP:∀ {h':Hp},h' top=CJ (WX top b.length) (AA (top+1) (Dy b))→h' (top+1)=G7 (Dy b)→EL h' top (WX top b.length) (top+1) (Dy b):=fun a b=>⟨a,mi,b,by omega⟩
   have hp3:∀ {h':Hp},h' top=CJ (WX top b.length) (AA (top+1) (Dy b))→h' (top+1)=G7 (Dy b)→(∃a j l_1,EL h' top a j l_1∧l_1.length≤140737488355328)=True:=fun a b=>eq_true ⟨_,_,_,hP a b,by omega⟩
   have hbL:∀ {h':Hp},h' top=CJ (WX top b.length) (AA (top+1) (Dy b))→h' (top+1)=G7 (Dy b)→KG h' top=Dy b:=fun a b=>(hP a b).MA
   have hbJ:(∀ {h':Hp} {t:Nat},h' top=CJ (WX top b.length) (AA (top+1) (Dy b))→h' (top+1)=G7 (Dy b)→Hh h' top t=t)∨(∀ {h':Hp} {t:Nat},h' top=CJ (WX top b.length) (AA (top+1) (Dy b))→h' (top+1)=G7 (Dy b)→Hh h' top t=top+1):=by
    by_cases k0:Dy b= []
    ·refine .inl fun {h'} {t} a b=> ?_
     have:=hP a b
     rw [k0] at this
     exact this.TV
    ·exact .inr fun a b=>(hP a b).NJ k0
   rcases hbJ with hbJ | hbJ
   ·refine CW.vc Ta [0,2,3,4,6,7,8] (by kernel_rfl) ?_
    (repeat ((try refine Vc.mk' ?_);simp (maxSteps:=6000000) only [go_sem,Xv,Nat.lt_irrefl,decide_false,List.take_length,hbL,hbJ,tk,Kw,hp3,CV]))
   ·refine CW.vc Ta [0,2,3,4,6,7,8] (by kernel_rfl) ?_
    (repeat ((try refine Vc.mk' ?_);simp (maxSteps:=6000000) only [go_sem,Xv,Nat.lt_irrefl,decide_false,List.take_length,hbL,hbJ,tk,Kw,hp3,CV]))
end Go.Proofs.YthlhnangbinhoaaGreatDoor.Dm
