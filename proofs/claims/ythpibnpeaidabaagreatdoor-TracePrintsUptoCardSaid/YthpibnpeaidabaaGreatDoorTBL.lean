import Derived.Test.YthpibnpeaidabaaGreatDoorTBC
set_option linter.unusedVariables false
namespace Go.Proofs.YthpibnpeaidabaaGreatDoor.Dm
open Go.Dm Go.RowKit
set_option maxHeartbeats 4000000
set_option maxRecDepth 100000
def I1:BG:= .pure (fun args hp=>match args with | [.pointer (some ⟨i,0,none⟩)]=>(∃a j l,Fj hp i a j l) | _=>False)
 (fun args hp=>match args with | [.pointer (some ⟨i,_,_⟩)]=> .int .i64 (Sj hp i).length | _=>undef)
theorem oO {h':Hp}{j:Nat}{l:List UInt8}:Cj tt.get h' 60 (AR j l)=(.int .i64 (l.length:Int),True):=by
 unfold Cj
 simp only [DN]
 cases l <;> simp [AR,El,CQ,Ng]
theorem mE:Aw Tryz.prog 31 I1:=by
 refine .Ep Qs ?_ ?_
 ·rintro args hp h
  match args,h with
  | [.pointer (some ⟨i,0,none⟩)],⟨a,j,l,hB⟩=>rfl
 intro args hp hpre top hcl hsc
 match args,hpre with
 | [.pointer (some ⟨i,0,none⟩)],⟨a,j,l,hB⟩=>
 have h1:=hB.o
 unfold EO at h1
 simp only [hB.gx]
 refine AK.Ar A7 Qs rfl 8 rfl [.tmp 2] rfl (show 1≤8 by decide) ?_
 refine CW.vc Da [0,2] (by kernel_rfl) ?_
 (repeat ((try refine Vc.mk' ?_);simp only [go_sem,Nat.reduceAdd,h1,oO]))
theorem Xl {φ:Dm.Ren}:∀ {l m:List Value} {k:Nat} {v:Value},Vs φ l m→l[k]? = some v→∃v',m[k]? = some v'∧V φ v v'
 |_,_,k,v, .nil,h=>by simp at h
 |_,_,0,v, .cons x x' l m hx hl,h=>by
  simp only [List.getElem?_cons_zero,Option.some.injEq] at h
  subst h
  exact ⟨x',rfl,hx⟩
 |_,_,k+1,v, .cons x x' l m hx hl,h=>by
  rw [List.getElem?_cons_succ] at h
  rw [List.getElem?_cons_succ]
  exact Xl hl h
theorem uc {t m:Nat}(h1:1+5+4096 * 0=1+t+4096 * m)(h2:t < 4095):t=5:=by omega
theorem ZD {w:World}{g n k:Nat}(hn:n≠0)(hk:k≠g):(w.freeze ⟨g,0,none⟩ n).heap[k]? = w.heap[k]? :=by
 simp only [World.freeze,if_neg hn,Array.getElem?_modify]
 rw [if_neg (Ne.symm hk)]
theorem Zg {w:World}{g n:Nat}:(w.freeze ⟨g,0,none⟩ n).heap.size=w.heap.size:=by
 unfold World.freeze
 split
 ·rfl
 ·simp
theorem IQ {w:World}{a:Addr}{n:Nat}:(w.freeze a n).os=w.os∧(w.freeze a n).tape=w.tape∧(w.freeze a n).output=w.output:=by
 unfold World.freeze
 split <;> exact ⟨rfl,rfl,rfl⟩
def KL:BG:= .det (fun args hp _=>match args with | [.pointer (some ⟨i,0,none⟩)]=>(∃a j l,Fj hp i a j l∧l.length≤140737488355328) | _=>False)
 (fun args hp top=>match args with | [.pointer (some ⟨i,_,_⟩)]=>(.string ⟨⟨Sj hp i⟩⟩, [(OB hp i top,none)],top+1) | _=>(undef, [],top))
theorem mJ:Aw Tryz.prog 32 KL:=by
 refine ⟨⟨_,Xm.toFTOk⟩,fun args hp top hpre=> ?_⟩
 match args,hpre with
 | [.pointer (some ⟨i,0,none⟩)],⟨a,j,l,hB,hroom⟩=>
 intro φ own w args' hargs H htop
 cases hargs with
 |cons _ _ _ _ hx hl=>
 cases hl
 cases hx with
 |ptr _ _ L hL=>
 obtain ⟨h0,hlim,hesz,x,y,fz,hh,va,vb,hfz⟩:=N2 H hB.o hL
 have hc1:w.cell? ⟨L.BR,1,none⟩=some y:=by simp [World.cell?,hh]
 rw [h0]
 simp only [hB.gx]
 have hset:∀k o,hp.Al [(OB hp i top,none)] k=some o→hp k=some o:=fun k o hk=>by
  simp only [CA,DQ,Hp.set] at hk
  split at hk
  ·cases hk
  ·exact hk
 by_cases hl:l= []
 ·subst hl
  cases vb
  refine Calls.mono (oM L.BR w hc1) ?_
  rintro e w' ⟨rfl,rfl⟩
  exact ⟨_,_,_,_,φ,rfl,⟨rfl,rfl,rfl⟩,⟨Dm.Ren.le_refl _, .str _,(H.sub hset).drew _,Dm.K.drew _ _ _,fun k hk=>htop k (by omega)⟩⟩
 ·have hl0:l.length≠0:=by simpa using hl
  have hj:=hB.b
  rw [Rv,Pb hl] at hj
  rw [Iy hl] at vb
  cases vb with
  |slice _ _ _ _ c' M hM hnc hcc hlm=>
  obtain ⟨M',hM',he,c,t,fz2,hg,hsz,hle,hvs,hfz2⟩:=H.obj j _ hj
  rw [hM] at hM';cases hM'
  obtain ⟨m,m1,m2,m3,m4⟩:=hfz2.2.2 rfl gW
  rw [XS] at m1
  have ht:=uc m1 m2
  subst ht
  rw [m3] at hvs hle hc1
  rw [Eh,List.drop_zero] at hvs
  rw [Eh,Nat.zero_add] at hle
  have hcell:∀k x,l[k]? = some x→w.cell? ⟨M.BR,k,none⟩=some (.int .u8 x.toNat):=fun k x hk=>by
   obtain ⟨v',hv',vv⟩:=Xl (k:=k) (v:= .int .u8 x.toNat) hvs (by simp [J4,hk])
   cases vv
   rw [List.getElem?_take] at hv'
   split at hv'
   ·have:c[k]? = some (.int .u8 x.toNat):=by rw [←Array.getElem?_toList];exact hv'
    simp [World.cell?,hg,this]
   ·cases hv'
  have hsz':l.length≤c.size:=by rw [hsz];exact hle
  refine Calls.mono (rh L.BR M.BR c' l c fz2 w hl hcc hsz' (by omega) hc1 hg hcell) ?_
  rintro e w' ⟨rfl,rfl⟩
  have hw1:∀k,k≠M.BR→(w.drew.freeze ⟨M.BR,0,none⟩ l.length).heap[k]? = w.heap[k]? :=fun k hk=>ZD hl0 hk
  have hw2:(w.drew.freeze ⟨M.BR,0,none⟩ l.length).heap.size=w.heap.size:=Zg
  have own1:=H.DC j _ M hj rfl hM
  refine ⟨_,_,_,_,φ,rfl,⟨rfl,rfl,rfl⟩,⟨Dm.Ren.le_refl _, .str _, ?_,⟨Nat.le_of_eq hw2.symm,fun k _ hn=>hw1 k fun e=>hn (e ▸ own1),IQ.1,IQ.2.1,IQ.2.2⟩,fun k hk=>htop k (by omega)⟩⟩
  have hsub:=H.sub hset
  refine ⟨fun k o hk=> ?_,hsub.sep,hsub.DC,fun k N hN=>by rw [hw2];exact H.val k N hN,fun k hk=>H.fresh k (by rw [hw2] at hk;exact hk)⟩
  have hkj:j≠k:=fun e=>by
   subst e
   rw [hB.kU hl] at hk
   simp only [CA,DQ,Hp.set,if_true] at hk
   cases hk
  have hk':=hset k o hk
  obtain ⟨N,hN,ok⟩:=H.obj k o hk'
  refine ⟨N,hN, ?_⟩
  rw [hw1 N.BR (Ne.symm (H.sep j k _ o M N hj hk' hkj rfl hM hN))]
  exact ok
end Go.Proofs.YthpibnpeaidabaaGreatDoor.Dm
