import Derived.Test.YthpibnpeaidabaaGreatDoorTB4
set_option linter.unusedVariables false
namespace Go.Proofs.YthpibnpeaidabaaGreatDoor.Dm
open Go.Dm Go.RowKit
set_option maxHeartbeats 4000000
set_option maxRecDepth 100000
theorem UT:∃j,Tryz.prog.info? 65=some j∧j.size=2:=by
 have h:(Tryz.prog.info? 65).map (·.size)=some 2:=by kernel_rfl
 obtain ⟨j,hj,hs⟩:=Option.map_eq_some_iff.1 h
 exact ⟨j,hj,hs⟩
theorem Zi (b:Nat)(w:World)(h0:w.cell? ⟨b,0,none⟩=some (.pointer (some ⟨b,0,none⟩))) :
  Calls Tryz.prog 58 #[.pointer (some ⟨b,0,none⟩)] w fun e w'=>e= .returned (.tuple #[])∧w' = w:=by
 obtain ⟨j,hj,_⟩:=UT
 go_enter Tryz.func58,Tryz.ntmps58
 go_wp2
 rw [Lib.run_neq_ptr_same w _ Tryz.underlying63 hj]
 go_wp2
 go_end0
 exact ⟨rfl,rfl⟩
theorem VG (b:Nat)(w:World)(h0:w.cell? ⟨b,0,none⟩=some (.pointer none))(hsh:w.shape? b=some (65,2))(hfz:w.frozen? ⟨b,0,none⟩=false) :
  Calls Tryz.prog 58 #[.pointer (some ⟨b,0,none⟩)] w fun e w'=>e= .returned (.tuple #[])∧w' = w.setCell ⟨b,0,none⟩ (.pointer (some ⟨b,0,none⟩)):=by
 obtain ⟨j,hj,hjs⟩:=UT
 have hl:liesAt Tryz.prog Tryz.prog.depth 65 (2 / Tryz.prog.cellsOf 65) 0 65 1=true:=by kernel_rfl
 go_enter Tryz.func58,Tryz.ntmps58
 go_wp2
 rw [Lib.run_to_unsafe w ⟨b,0,none⟩ Tryz.underlying63 Tryz.underlying110 hj (by rw [hjs];decide) hsh (Nat.zero_lt_succ 1)]
 simp only [Result.andThen]
 rw [Oper.upon_value]
 go_wp2
 rw [run_callFunc_extern Tryz.func82 (by kernel_rfl) (by kernel_rfl) (by kernel_rfl) (e:=Extern.AbiNoEscape.same) (by kernel_rfl)]
 rw [Lib.run_noEscape]
 simp only [Result.andThen]
 rw [Oper.upon_value]
 go_wp2
 rw [Lib.run_from_unsafe w ⟨b,0,none⟩ Tryz.underlying110 Tryz.underlying63 hj hsh hl]
 simp only [Result.andThen]
 rw [Oper.upon_value]
 go_wp2
 go_end0
 exact ⟨rfl,rfl⟩
def EO (a b:Value):Option Ay:=some (.cells true DR [a,b])
def UK (hp:Hp)(i:Nat):Value:=match hp i with
 |some (.cells _ _ [_,b])=>b
 |_=>undef
theorem Gb {hp:Hp}{i:Nat}{a b:Value}(h:hp i=EO a b):UK hp i=b:=by unfold UK;rw [h];rfl
theorem iK {t m Dp:Nat}(h1:1+65+4096 * 2=1+t+4096 * m)(h2:t < 4095)(h4:m=0∨m=Dp):t=65∧Dp=2:=by omega
theorem N2 {φ:Dm.Ren}{own:Nat→Prop}{hp:Hp}{w:World}(H:HR φ own hp w){i:Nat}{a b:Value}(h:hp i=EO a b){L:Dm.Loc}(hL:φ i=some L) :
  L.off=0∧L.Dp=2∧L.BO=0∧∃x y fz,w.heap[L.BR]? = some (.cells #[x,y] 65 fz)∧V φ a x∧V φ b y∧fz.2≤fz.1:=by
 obtain ⟨L',hL',he,c,t,fz,hx,hsz,hlim,hvs,hfz⟩:=H.obj i _ h
 rw [hL] at hL';cases hL'
 obtain ⟨m,h1,h2,h3,h4⟩:=hfz.2.2 rfl (by decide)
 have h5:DR / BB=1+65+4096 * 2:=by decide
 rw [h5] at h1
 obtain ⟨ht,hl⟩:=iK h1 h2 h4
 subst ht
 have hE:L.BO=0:=by rw [←he];decide
 refine ⟨h3,hl,hE, ?_⟩
 rw [hl] at hsz
 obtain ⟨l⟩:=c
 match l,hsz with
 | [x,y],_=>
  rw [h3] at hvs
  cases hvs with
  |cons _ _ _ _ v1 hr=>
  cases hr with
  |cons _ _ _ _ v2 _=>
  exact ⟨x,y,fz,hx,v1,v2,hfz.1 rfl⟩
def oG:BG:= .det (fun args hp _=>match args with | [.pointer (some ⟨i,0,none⟩)]=> ∃a b,hp i=EO a b∧(a= .pointer none∨a= .pointer (some ⟨i,0,none⟩)) | _=>False)
 (fun args hp top=>match args with | [.pointer (some ⟨i,_,_⟩)]=>(.tuple ⟨[]⟩, [(i,EO (.pointer (some ⟨i,0,none⟩)) (UK hp i))],top) | _=>(undef, [],top))
theorem Px:Aw Tryz.prog 58 oG:=by
 refine ⟨⟨_,XV.toFTOk⟩,fun args hp top hpre=> ?_⟩
 match args,hpre with
 | [.pointer (some ⟨i,0,none⟩)],⟨a,b,hi,ha⟩=>
 intro φ own w args' hargs H htop
 cases hargs with
 |cons _ _ _ _ hx hl=>
 cases hl
 cases hx with
 |ptr _ _ L hL=>
 obtain ⟨h0,hlim,hesz,x,y,fz,hh,va,vb,hfz⟩:=N2 H hi hL
 rw [h0]
 have hlt:L.BR < w.heap.size:=(Array.getElem?_eq_some_iff.1 hh).1
 have hp2:V φ (.pointer (some ⟨i,0,none⟩)) (.pointer (some ⟨L.BR,0,none⟩)):=by
  have:=V.ptr (φ:=φ) i 0 L hL
  rwa [h0] at this
 have hset:hp.Al [(i,EO (.pointer (some ⟨i,0,none⟩)) b)] = hp.Ij i (.cells true DR [.pointer (some ⟨i,0,none⟩),b]):=by
  funext j;simp only [CA,DQ,Hp.set,Hp.Ij,EO]
 have okn:∀z,V φ (.pointer (some ⟨i,0,none⟩)) z→DH φ L (.cells true DR [.pointer (some ⟨i,0,none⟩),b]) (some (.cells #[z,y] 65 fz)):=fun z hz=>by
  refine ⟨by rw [hesz];decide,_,_,fz,rfl,by rw [hlim];rfl,by rw [h0,hlim];exact Nat.le_refl 2, ?_,⟨fun _=>hfz,(fun e=>by cases e),fun _ _=>⟨2,by decide,by decide,h0, .inr hlim.symm⟩⟩⟩
  rw [h0]
  exact .cons _ _ _ _ hz (.cons _ _ _ _ vb .nil)
 rcases ha with rfl | rfl
 ·cases va
  have c0:w.cell? ⟨L.BR,0,none⟩=some (.pointer none):=by simp [World.cell?,hh]
  have sh:w.shape? L.BR=some (65,2):=by simp [World.shape?,hh]
  have fr:w.frozen? ⟨L.BR,0,none⟩=false:=by simp [World.frozen?,hh];omega
  refine Calls.mono (VG L.BR w c0 sh fr) ?_
  rintro e w' ⟨rfl,rfl⟩
  have e1:(w.setCell ⟨L.BR,0,none⟩ (.pointer (some ⟨L.BR,0,none⟩))).heap[L.BR]? = some (.cells #[.pointer (some ⟨L.BR,0,none⟩),y] 65 fz):=by
   simp [World.setCell,Array.getElem?_modify,hh]
  have e2:∀k,k≠L.BR→(w.setCell ⟨L.BR,0,none⟩ (.pointer (some ⟨L.BR,0,none⟩))).heap[k]? = w.heap[k]? :=fun k hk=>by
   simp only [World.setCell,Array.getElem?_modify]
   rw [if_neg (Ne.symm hk)]
  have e3:(w.setCell ⟨L.BR,0,none⟩ (.pointer (some ⟨L.BR,0,none⟩))).heap.size=w.heap.size:=by simp [World.setCell]
  refine ⟨_,_,_,_,φ,rfl,⟨rfl,rfl,rfl⟩,⟨Dm.Ren.le_refl _, .tuple _ _ .nil, ?_,⟨Nat.le_of_eq e3.symm,fun k _ hn=>e2 k fun e=>hn (e ▸ H.DC i _ L hi rfl hL),rfl,rfl,rfl⟩,htop⟩⟩
  simp only [Gb hi]
  rw [hset]
  exact H.put i _ _ L hi rfl hL e3 e2 (by rw [e1];exact okn _ hp2)
 ·have hz:x= .pointer (some ⟨L.BR,0,none⟩):=by
   cases va with
   |ptr _ _ L2 hL2=>rw [hL] at hL2;cases hL2;rw [h0]
  subst hz
  have c0:w.cell? ⟨L.BR,0,none⟩=some (.pointer (some ⟨L.BR,0,none⟩)):=by simp [World.cell?,hh]
  refine Calls.mono (Zi L.BR w c0) ?_
  rintro e w' ⟨rfl,rfl⟩
  refine ⟨_,_,_,_,φ,rfl,⟨rfl,rfl,rfl⟩,⟨Dm.Ren.le_refl _, .tuple _ _ .nil, ?_,K.refl _ _,htop⟩⟩
  simp only [Gb hi]
  rw [hset]
  exact H.put i _ _ L hi rfl hL rfl (fun _ _=>rfl) (by rw [hh];exact okn _ hp2)
end Go.Proofs.YthpibnpeaidabaaGreatDoor.Dm
