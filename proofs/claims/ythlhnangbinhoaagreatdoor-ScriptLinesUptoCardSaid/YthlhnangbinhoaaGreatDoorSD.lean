/- strings.Builder as the engine has it: Len, String. -/
import Derived.Test.YthlhnangbinhoaaGreatDoorTBC
import Derived.Test.YthlhnangbinhoaaGreatDoorSC
set_option linter.unusedVariables false
namespace Go.Proofs.YthlhnangbinhoaaGreatDoor.Dm
open Go.Dm Go.RowKit
set_option maxHeartbeats 4000000
set_option maxRecDepth 100000
def Mk:Bb:= .pure (fun args hp=>match args with | [.pointer (some ⟨i,0,none⟩)]=>(∃a j l,Dh hp i a j l) | _=>False)
 (fun args hp=>match args with | [.pointer (some ⟨i,_,_⟩)]=> .int .i64 (IQ hp i).length | _=>undef)
theorem qB {h':Hp}{j:Nat}{l:List UInt8}:CF tt.get h' 69 (AA j l)=(.int .i64 (l.length:Int),True):=by
 unfold CF
 simp only [DT]
 cases l <;> simp [AA,D9,DW,T9]
theorem qG:A0 Tryz.prog 27 Mk:=by
 refine .Fm U6 ?_ ?_
 ·rintro args hp h
  match args,h with
  | [.pointer (some ⟨i,0,none⟩)],⟨a,j,l,hB⟩=>rfl
 intro args hp hpre top hcl hsc
 match args,hpre with
 | [.pointer (some ⟨i,0,none⟩)],⟨a,j,l,hB⟩=>
 have h1:=hB.o
 unfold B6 at h1
 simp only [hB.Kj]
 refine AR.A5 BA U6 rfl 8 rfl [.tmp 2] rfl (show 1≤8 by decide) ?_
 refine CW.vc SF [0,2] (by kernel_rfl) ?_
 (repeat ((try refine Vc.mk' ?_);simp only [go_sem,h1,qB]))
theorem Z0 {φ:Dm.Ren}:∀ {l m:List Value} {k:Nat} {v:Value},Vs φ l m→l[k]? = some v→∃v',m[k]? = some v'∧V φ v v'
 |_,_,k,v, .nil,h=>by simp at h
 |_,_,0,v, .cons x x' l m hx hl,h=>by
  simp only [List.getElem?_cons_zero,Option.some.injEq] at h
  subst h
  exact ⟨x',rfl,hx⟩
 |_,_,k+1,v, .cons x x' l m hx hl,h=>by
  rw [List.getElem?_cons_succ] at h
  rw [List.getElem?_cons_succ]
  exact Z0 hl h
theorem uo {t m:Nat}(h1:1+5+4096 * 0=1+t+4096 * m)(h2:t < 4095):t=5:=by omega
theorem eA {w:World}{g n k:Nat}(hn:n≠0)(hk:k≠g):(w.freeze ⟨g,0,none⟩ n).heap[k]? = w.heap[k]? :=by
 simp only [World.freeze,if_neg hn,Array.getElem?_modify]
 rw [if_neg (Ne.symm hk)]
theorem eD {w:World}{g n:Nat}:(w.freeze ⟨g,0,none⟩ n).heap.size=w.heap.size:=by
 unfold World.freeze
 split
 ·rfl
 ·simp
theorem J3 {w:World}{a:Addr}{n:Nat}:(w.freeze a n).os=w.os∧(w.freeze a n).tape=w.tape∧(w.freeze a n).output=w.output:=by
 unfold World.freeze
 split <;> exact ⟨rfl,rfl,rfl⟩
def JA:Bb:= .det (fun args hp _=>match args with | [.pointer (some ⟨i,0,none⟩)]=>(∃a j l,Dh hp i a j l∧l.length≤140737488355328) | _=>False)
 (fun args hp top=>match args with | [.pointer (some ⟨i,_,_⟩)]=>(.string ⟨⟨IQ hp i⟩⟩, [(GR hp i top,none)],top+1) | _=>(undef, [],top))
theorem rE:A0 Tryz.prog 28 JA:=by
 refine ⟨⟨_,a8.toFTOk⟩,fun args hp top hpre=> ?_⟩
 match args,hpre with
 | [.pointer (some ⟨i,0,none⟩)],⟨a,j,l,hB,hroom⟩=>
 intro φ own w args' hargs H htop
 cases hargs with
 |cons _ _ _ _ hx hl=>
 cases hl
 cases hx with
 |ptr _ _ L hL=>
 obtain ⟨h0,hlim,hesz,x,y,fz,hh,va,vb,hfz⟩:=KW H hB.o hL
 have hc1:w.cell? ⟨L.Bi,1,none⟩=some y:=by simp [World.cell?,hh]
 rw [h0]
 simp only [hB.Kj]
 have hset:∀k o,hp.Av [(GR hp i top,none)] k=some o→hp k=some o:=fun k o hk=>by
  simp only [Bt,CG,Hp.set] at hk
  split at hk
  ·cases hk
  ·exact hk
 by_cases hl:l= []
 ·subst hl
  cases vb
  refine Calls.mono (nv L.Bi w hc1) ?_
  rintro e w' ⟨rfl,rfl⟩
  exact ⟨_,_,_,_,φ,rfl,⟨rfl,rfl,rfl⟩,⟨Dm.Ren.le_refl _, .str _,(H.sub hset).drew _,Dm.K.drew _ _ _,fun k hk=>htop k (by omega)⟩⟩
 ·have hl0:l.length≠0:=by simpa using hl
  have hj:=hB.b
  rw [Fi,QM hl] at hj
  rw [LH hl] at vb
  cases vb with
  |slice _ _ _ _ c' M hM hnc hcc hlm=>
  obtain ⟨M',hM',he,c,t,fz2,hg,hsz,hle,hvs,hfz2⟩:=H.obj j _ hj
  rw [hM] at hM';cases hM'
  obtain ⟨m,m1,m2,m3,m4⟩:=hfz2.2.2 rfl YY
  rw [Th] at m1
  have ht:=uo m1 m2
  subst ht
  rw [m3] at hvs hle hc1
  rw [Eb,List.drop_zero] at hvs
  rw [Eb,Nat.zero_add] at hle
  have hcell:∀k x,l[k]? = some x→w.cell? ⟨M.Bi,k,none⟩=some (.int .u8 x.toNat):=fun k x hk=>by
   obtain ⟨v',hv',vv⟩:=Z0 (k:=k) (v:= .int .u8 x.toNat) hvs (by simp [Jj,hk])
   cases vv
   rw [List.getElem?_take] at hv'
   split at hv'
   ·have:c[k]? = some (.int .u8 x.toNat):=by rw [←Array.getElem?_toList];exact hv'
    simp [World.cell?,hg,this]
   ·cases hv'
  have hsz':l.length≤c.size:=by rw [hsz];exact hle
  refine Calls.mono (w7 L.Bi M.Bi c' l c fz2 w hl hcc hsz' (by omega) hc1 hg hcell) ?_
  rintro e w' ⟨rfl,rfl⟩
  have hw1:∀k,k≠M.Bi→(w.drew.freeze ⟨M.Bi,0,none⟩ l.length).heap[k]? = w.heap[k]? :=fun k hk=>eA hl0 hk
  have hw2:(w.drew.freeze ⟨M.Bi,0,none⟩ l.length).heap.size=w.heap.size:=eD
  have own1:=H.D8 j _ M hj rfl hM
  refine ⟨_,_,_,_,φ,rfl,⟨rfl,rfl,rfl⟩,⟨Dm.Ren.le_refl _, .str _, ?_,⟨Nat.le_of_eq hw2.symm,fun k _ hn=>hw1 k fun e=>hn (e ▸ own1),J3.1,J3.2.1,J3.2.2⟩,fun k hk=>htop k (by omega)⟩⟩
  have hsub:=H.sub hset
  refine ⟨fun k o hk=> ?_,hsub.sep,hsub.D8,fun k N hN=>by rw [hw2];exact H.val k N hN,fun k hk=>H.fresh k (by rw [hw2] at hk;exact hk)⟩
  have hkj:j≠k:=fun e=>by
   subst e
   rw [hB.Ma hl] at hk
   simp only [Bt,CG,Hp.set,if_true] at hk
   cases hk
  have hk':=hset k o hk
  obtain ⟨N,hN,ok⟩:=H.obj k o hk'
  refine ⟨N,hN, ?_⟩
  rw [hw1 N.Bi (Ne.symm (H.sep j k _ o M N hj hk' hkj rfl hM hN))]
  exact ok
end Go.Proofs.YthlhnangbinhoaaGreatDoor.Dm
set_option linter.unusedVariables false
namespace Go.Proofs.YthlhnangbinhoaaGreatDoor.Dm
open Go.Dm
set_option maxHeartbeats 16000000
set_option maxRecDepth 20000
def AAZ:List UInt8:= [48,49,50,51,52,53,54,55,56,57,97,98,99,100,101,102]
def MK (n:Nat):UInt8:=(AAZ[n]?).getD 0
def CY (b:List UInt8):List UInt8:=b.flatMap fun c=> [MK (c.toNat / 16),MK (c.toNat % 16)]
theorem Ea (b:List UInt8):(CY b).length=2 * b.length:=by
 induction b with
 |nil=>rfl
 |cons a b ih=>
  have:CY (a :: b)=MK (a.toNat / 16) :: MK (a.toNat % 16) :: CY b:=rfl
  rw [this];simp only [List.length_cons,ih];omega
theorem eL {b:List UInt8}{c:UInt8}:CY (b ++ [c])=CY b ++ [MK (c.toNat / 16)] ++ [MK (c.toNat % 16)]:=by simp [CY]
theorem DN {α:Type}[Inhabited α]{l:List α}{k:Nat}(h:k < l.length):l.take (k+1)=l.take k ++ [at' l k]:=by rw [CO _ _ h,List.take_add_one,List.getElem?_eq_getElem h];rfl
theorem TG {b:List UInt8}{k:Nat}(h:k < b.length):CY (b.take (k+1))=CY (b.take k) ++ [MK ((at' b k).toNat / 16)] ++ [MK ((at' b k).toNat % 16)]:=by rw [DN h,eL]
theorem Iv {ρ:Nat→Nat}{a b:Value}:IU ρ (B6 a b)=B6 (Az ρ a) (Az ρ b):=rfl
theorem LK {ρ:Nat→Nat}{l:List UInt8}:IU ρ (Fi l)=Fi l:=by
 cases l with
 |nil=>rfl
 |cons a l=>
  show some (A7.cells true q7 (Co ρ (Jj (a :: l))))=some (.cells true q7 (Jj (a :: l)))
  have:∀l:List UInt8,Co ρ (Jj l)=Jj l:=fun l=>by
   rw [FK,Jj,List.map_map];rfl
  rw [this]
def V3 (top k:Nat):Value:=if k=0 then .pointer none else .pointer (some ⟨top,0,none⟩)
theorem iI {top k:Nat}:V3 top k= .pointer none∨V3 top k= .pointer (some ⟨top,0,none⟩):=by unfold V3;split <;> simp
theorem PU {b:List UInt8}{k:Nat}(h:k < b.length):(b[k]?).getD 0=at' b k:=by rw [CO _ _ h,List.getElem?_eq_getElem h];rfl
theorem W5 (c:UInt8):(Int.ofNat c.toNat < 256)=True:=eq_true (by have:=c.toNat_lt;simp;omega)
theorem XS (c:UInt8):(0≤Int.ofNat c.toNat)=True:=eq_true (Int.natCast_nonneg _)
theorem ABs (c:UInt8):(Int.ofNat c.toNat).fdiv (Int.ofNat (Nat.pow 2 ((Int.toNat 4).min 8)))=((c.toNat / 16:Nat):Int):=by
 have:∀n:Fin 256,(Int.ofNat n.val).fdiv (Int.ofNat (Nat.pow 2 ((Int.toNat 4).min 8)))=((n.val / 16:Nat):Int):=by decide +kernel
 exact this ⟨c.toNat,c.toNat_lt⟩
theorem tD (c:UInt8):CZ .and .u8 (Int.ofNat c.toNat) 15=((c.toNat % 16:Nat):Int):=by
 have:∀n:Fin 256,CZ .and .u8 (Int.ofNat n.val) 15=((n.val % 16:Nat):Int):=by decide +kernel
 exact this ⟨c.toNat,c.toNat_lt⟩
theorem RT (n:Nat):([48,49,50,51,52,53,54,55,56,57,97,98,99,100,101,102] :List UInt8)[n]?.getD 0=MK n:=rfl
theorem Tx (c:UInt8):UInt8.ofNat (Int.ofNat c.toNat).toNat=c:=by simp
def Ti:Bb:= .pure (fun args _=>match args with | [.string ⟨⟨b⟩⟩]=>b.length≤512 | _=>False) (fun args _=>match args with | [b]=> .string ⟨⟨CY (strOf b)⟩⟩ | _=>undef)
def GS6:FuncId→Bb:=Bw (Bw (Bw GS5 40 K5) 101 Xd) 28 JA
theorem Te:CQ Tryz.prog tt.get GS6:=((tU.add pE).add zn).add rE
theorem tI:GS6 101=Xd:=rfl
theorem td:GS6 28=JA:=rfl
def X5 (hp:Hp)(top:Nat)(b:List UInt8)(k:Nat):SS:=⟨[(0, .string ⟨⟨b⟩⟩,true),(3, .pointer (some ⟨top,0,none⟩),true),(6, .int .i64 (b.length:Int),true),(7, .int .i64 (k:Int),true)],hp.Av [(top,B6 (V3 top k) (AA (top+1) (CY (b.take k)))),(top+1,Fi (CY (b.take k)))],top+2⟩
theorem vH:A0 Tryz.prog 81 Ti:=by
 refine .Fm Vr ?_ ?_
 ·intro args hp h
  match args,h with
  | [.string ⟨⟨b⟩⟩],_=>rfl
 intro args hp hpre top hcl hsc
 match args,hpre with
 | [.string ⟨⟨b⟩⟩],hb=>
 simp only [AH]
 refine AR.A5 BA Vr rfl 24 rfl [.tmp 2] rfl (show 1≤24 by decide) ?_
 refine CW.vc Te [0,2,3,4,6,7,8] (by kernel_rfl) ?_
 (repeat ((try refine Vc.mk' ?_);simp (maxSteps:=6000000) only [go_sem,A8]))
 refine CW.DC (X5 hp top b) (fun k=>k≤b.length) (fun k=>b.length - k) 0 (Nat.zero_le _) ?_ ?_
 ·exact (by refine BR.mk' [top,top+1] hcl (by simp) (by simp) rfl (AU ?_) ?_ ?_ <;> simp [Ex,show V3 top 0= .pointer none from rfl,show CY ([] :List UInt8)= [] from rfl,show Fi [] = none from rfl,B6])
 ·intro k hi
  by_cases hlt:k < b.length
  ·have kk:Ap .i64 ((k:Int)+1)=((k+1:Nat):Int):=Bf hlt (by omega)
   have hts:=TG hlt
   have hTl:=Ea (b.take k)
   have hTk:(b.take k).length≤512:=by rw [List.length_take];omega
   have hc:=PU hlt
   have h16:(at' b k).toNat / 16 < 16:=by have:=(at' b k).toNat_lt;omega
   have h16':(at' b k).toNat % 16 < 16:=Nat.mod_lt _ (by decide)
   generalize hT:CY (b.take k)=T at hts hTl
   have hb1:V3 top (k+1)= .pointer (some ⟨top,0,none⟩):=rfl
   have hP:∀ {h':Hp},h' top=B6 (V3 top k) (AA (top+1) T)→h' (top+1)=Fi T→Dh h' top (V3 top k) (top+1) T:=fun a b=>⟨a,iI,b,by omega⟩
   have hpre:∀ {h':Hp},h' top=B6 (V3 top k) (AA (top+1) T)→h' (top+1)=Fi T→(∃a j l_1,Dh h' top a j l_1∧l_1.length≤140737488355327)=True:=fun a b=>eq_true ⟨_,_,_,hP a b,by omega⟩
   have hbL:∀ {h':Hp},h' top=B6 (V3 top k) (AA (top+1) T)→h' (top+1)=Fi T→IQ h' top=T:=fun a b=>(hP a b).Kj
   generalize hd1:MK ((at' b k).toNat / 16)=d1 at hts
   generalize hd2:MK ((at' b k).toNat % 16)=d2 at hts
   have hP2:∀ {h':Hp} {q:Nat},h' top=B6 (.pointer (some ⟨top,0,none⟩)) (AA (top+2+1) (T ++ [d1]))→h' (top+2+1)=Fi (T ++ [d1])→Dh h' top (.pointer (some ⟨top,0,none⟩)) (top+2+1) (T ++ [d1]):=fun a b=>⟨a, .inr rfl,b,by omega⟩
   have hpre2:∀ {h':Hp},h' top=B6 (.pointer (some ⟨top,0,none⟩)) (AA (top+2+1) (T ++ [d1]))→h' (top+2+1)=Fi (T ++ [d1])→(∃a j l_1,Dh h' top a j l_1∧l_1.length≤140737488355327)=True:=fun a b=>eq_true ⟨_,_,_,hP2 (q:=0) a b,by simp only [List.length_append,List.length_cons,List.length_nil];omega⟩
   have hbL2:∀ {h':Hp},h' top=B6 (.pointer (some ⟨top,0,none⟩)) (AA (top+2+1) (T ++ [d1]))→h' (top+2+1)=Fi (T ++ [d1])→IQ h' top=T ++ [d1]:=fun a b=>(hP2 (q:=0) a b).Kj
   have hbJ2:∀ {h':Hp} {t:Nat},h' top=B6 (.pointer (some ⟨top,0,none⟩)) (AA (top+2+1) (T ++ [d1]))→h' (top+2+1)=Fi (T ++ [d1])→GR h' top t=top+2+1:=fun a b=>(hP2 (q:=0) a b).Ma (by simp)
   by_cases k0:T= []
   ·have hbJ:∀ {h':Hp} {t:Nat},h' top=B6 (V3 top k) (AA (top+1) T)→h' (top+1)=Fi T→GR h' top t=t:=fun a b=>by
     have:=hP a b
     rw [k0] at this
     exact this.SZ
    refine CW.vc Te [0,2,3,4,6,7,8] (by kernel_rfl) ?_
    (repeat ((try refine Vc.mk' ?_);simp (maxSteps:=6000000) only [go_sem,X5,hT,hlt,kk,tI,Xd,hc,ABs,tD,h16,h16',RT,hd1,hd2,W5,XS,Tx,hpre,wbU,hbL,hbJ,hpre2,hbL2,hbJ2]))
    refine .mk (k+1) hlt (by omega) ((by refine BR.mk' [top,top+5] hcl (by simp) (by simp) rfl (AU ?_) ?_ ?_ <;> simp [hts,Iv,LK,Ab,hb1]))
   ·have hbJ:∀ {h':Hp} {t:Nat},h' top=B6 (V3 top k) (AA (top+1) T)→h' (top+1)=Fi T→GR h' top t=top+1:=fun a b=>(hP a b).Ma k0
    refine CW.vc Te [0,2,3,4,6,7,8] (by kernel_rfl) ?_
    (repeat ((try refine Vc.mk' ?_);simp (maxSteps:=6000000) only [go_sem,X5,hT,hlt,kk,tI,Xd,hc,ABs,tD,h16,h16',RT,hd1,hd2,W5,XS,Tx,hpre,wbU,hbL,hbJ,hpre2,hbL2,hbJ2]))
    refine .mk (k+1) hlt (by omega) ((by refine BR.mk' [top,top+5] hcl (by simp) (by simp) rfl (AU ?_) ?_ ?_ <;> simp [hts,Iv,LK,Ab,hb1]))
  ·have hi2:k=b.length:=by omega
   subst hi2
   have hTl:=Ea b
   have hP:∀ {h':Hp},h' top=B6 (V3 top b.length) (AA (top+1) (CY b))→h' (top+1)=Fi (CY b)→Dh h' top (V3 top b.length) (top+1) (CY b):=fun a b=>⟨a,iI,b,by omega⟩
   have hp3:∀ {h':Hp},h' top=B6 (V3 top b.length) (AA (top+1) (CY b))→h' (top+1)=Fi (CY b)→(∃a j l_1,Dh h' top a j l_1∧l_1.length≤140737488355328)=True:=fun a b=>eq_true ⟨_,_,_,hP a b,by omega⟩
   have hbL:∀ {h':Hp},h' top=B6 (V3 top b.length) (AA (top+1) (CY b))→h' (top+1)=Fi (CY b)→IQ h' top=CY b:=fun a b=>(hP a b).Kj
   have hbJ:(∀ {h':Hp} {t:Nat},h' top=B6 (V3 top b.length) (AA (top+1) (CY b))→h' (top+1)=Fi (CY b)→GR h' top t=t)∨(∀ {h':Hp} {t:Nat},h' top=B6 (V3 top b.length) (AA (top+1) (CY b))→h' (top+1)=Fi (CY b)→GR h' top t=top+1):=by
    by_cases k0:CY b= []
    ·refine .inl fun {h'} {t} a b=> ?_
     have:=hP a b
     rw [k0] at this
     exact this.SZ
    ·exact .inr fun a b=>(hP a b).Ma k0
   rcases hbJ with hbJ | hbJ
   ·refine CW.vc Te [0,2,3,4,6,7,8] (by kernel_rfl) ?_
    (repeat ((try refine Vc.mk' ?_);simp (maxSteps:=6000000) only [go_sem,X5,Nat.lt_irrefl,decide_false,List.take_length,hbL,hbJ,td,JA,hp3]))
   ·refine CW.vc Te [0,2,3,4,6,7,8] (by kernel_rfl) ?_
    (repeat ((try refine Vc.mk' ?_);simp (maxSteps:=6000000) only [go_sem,X5,Nat.lt_irrefl,decide_false,List.take_length,hbL,hbJ,td,JA,hp3]))
end Go.Proofs.YthlhnangbinhoaaGreatDoor.Dm
