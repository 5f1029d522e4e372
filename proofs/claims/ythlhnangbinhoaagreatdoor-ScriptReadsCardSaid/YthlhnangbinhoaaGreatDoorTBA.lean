/- strings.Builder: copyCheck, as the world has it. -/
import Derived.Test.YthlhnangbinhoaaGreatDoorSA
set_option linter.unusedVariables false
namespace Go.Proofs.YthlhnangbinhoaaGreatDoor.Dm
open Go.Dm Go.RowKit
set_option maxHeartbeats 4000000
set_option maxRecDepth 100000
theorem V9:∃j,Tryz.prog.info? 73=some j∧j.size=2:=by
 have h:(Tryz.prog.info? 73).map (·.size)=some 2:=by kernel_rfl
 obtain ⟨j,hj,hs⟩:=Option.map_eq_some_iff.1 h
 exact ⟨j,hj,hs⟩
theorem dJ (b:Nat)(w:World)(h0:w.cell? ⟨b,0,none⟩=some (.pointer (some ⟨b,0,none⟩))) :
  Calls Tryz.prog 66 #[.pointer (some ⟨b,0,none⟩)] w fun e w'=>e= .returned (.tuple #[])∧w' = w:=by
 obtain ⟨j,hj,_⟩:=V9
 go_enter Tryz.func66,Tryz.ntmps66
 go_wp2
 rw [Lib.run_neq_ptr_same w _ Tryz.underlying71 hj]
 go_wp2
 go_end0
 exact ⟨rfl,rfl⟩
theorem YS (b:Nat)(w:World)(h0:w.cell? ⟨b,0,none⟩=some (.pointer none))(hsh:w.shape? b=some (73,2))(hfz:w.frozen? ⟨b,0,none⟩=false) :
  Calls Tryz.prog 66 #[.pointer (some ⟨b,0,none⟩)] w fun e w'=>e= .returned (.tuple #[])∧w' = w.setCell ⟨b,0,none⟩ (.pointer (some ⟨b,0,none⟩)):=by
 obtain ⟨j,hj,hjs⟩:=V9
 have hl:liesAt Tryz.prog Tryz.prog.depth 73 (2 / Tryz.prog.cellsOf 73) 0 73 1=true:=by kernel_rfl
 go_enter Tryz.func66,Tryz.ntmps66
 go_wp2
 rw [Lib.run_to_unsafe w ⟨b,0,none⟩ Tryz.underlying71 Tryz.underlying109 hj (by rw [hjs];decide) hsh (Nat.zero_lt_succ 1)]
 simp only [Result.andThen]
 rw [Oper.upon_value]
 go_wp2
 rw [run_callFunc_extern Tryz.func88 (by kernel_rfl) (by kernel_rfl) (by kernel_rfl) (e:=Extern.AbiNoEscape.same) (by kernel_rfl)]
 rw [Lib.run_noEscape]
 simp only [Result.andThen]
 rw [Oper.upon_value]
 go_wp2
 rw [Lib.run_from_unsafe w ⟨b,0,none⟩ Tryz.underlying109 Tryz.underlying71 hj hsh hl]
 simp only [Result.andThen]
 rw [Oper.upon_value]
 go_wp2
 go_end0
 exact ⟨rfl,rfl⟩
def Cz (a b:Value):Option A8:=some (.cells true CV [a,b])
def WA (hp:Hp)(i:Nat):Value:=match hp i with
 |some (.cells _ _ [_,b])=>b
 |_=>undef
theorem Gv{hp:Hp}{i:Nat}{a b:Value}(h:hp i=Cz a b):WA hp i=b:=by unfold WA;rw[h];rfl
theorem hC{t m PY:Nat}(h1:1+73+4096 * 2=1+t+4096 * m)(h2:t < 4095)(h4:m=0∨m=PY):t=73∧PY=2:=by omega
theorem Jl {φ:Dm.Ren}{own:Nat→Prop}{hp:Hp}{w:World}(H:HR φ own hp w){i:Nat}{a b:Value}(h:hp i=Cz a b){L:Dm.Loc}(hL:φ i=some L) :
  L.off=0∧L.PY=2∧L.CA=0∧∃x y fz,w.heap[L.BT]? = some (.cells #[x,y] 73 fz)∧V φ a x∧V φ b y∧fz.2≤fz.1:=by
 obtain ⟨L',hL',he,c,t,fz,hx,hsz,hlim,hvs,hfz⟩:=H.obj i _ h
 rw [hL] at hL';cases hL'
 obtain ⟨m,h1,h2,h3,h4⟩:=hfz.2.2 rfl (by decide)
 have h5:CV / BQ=1+73+4096 * 2:=by decide
 rw [h5] at h1
 obtain ⟨ht,hl⟩:=hC h1 h2 h4
 subst ht
 have hE:L.CA=0:=by rw [←he];decide
 refine ⟨h3,hl,hE, ?_⟩
 rw [hl] at hsz
 obtain ⟨l⟩:=c
 match l,hsz with
 | [x,y],_=>
  rw [h3] at hvs
  cases hvs with
  |cons _ _ _ _ v1 hr=>
  cases hr with
  |cons _ _ _ _ v2 _=>
  exact ⟨x,y,fz,hx,v1,v2,hfz.1 rfl⟩
def nj:BE:= .det (fun args hp _=>match args with | [.pointer (some ⟨i,0,none⟩)]=> ∃a b,hp i=Cz a b∧(a= .pointer none∨a= .pointer (some ⟨i,0,none⟩)) | _=>False)
 (fun args hp top=>match args with | [.pointer (some ⟨i,_,_⟩)]=>(.tuple ⟨[]⟩, [(i,Cz (.pointer (some ⟨i,0,none⟩)) (WA hp i))],top) | _=>(undef, [],top))
theorem Pm:Ag Tryz.prog 66 nj:=by
 refine ⟨⟨_,oM.toFTOk⟩,fun args hp top hpre=> ?_⟩
 match args,hpre with
 | [.pointer (some ⟨i,0,none⟩)],⟨a,b,hi,ha⟩=>
 intro φ own w args' hargs H htop
 cases hargs with
 |cons _ _ _ _ hx hl=>
 cases hl
 cases hx with
 |ptr _ _ L hL=>
 obtain ⟨h0,hlim,hesz,x,y,fz,hh,va,vb,hfz⟩:=Jl H hi hL
 rw [h0]
 have hlt:L.BT < w.heap.size:=(Array.getElem?_eq_some_iff.1 hh).1
 have hp2:V φ (.pointer (some ⟨i,0,none⟩)) (.pointer (some ⟨L.BT,0,none⟩)):=by
  have:=V.ptr (φ:=φ) i 0 L hL
  rwa [h0] at this
 have hset:hp.Ac [(i,Cz (.pointer (some ⟨i,0,none⟩)) b)] = hp.Jb i (.cells true CV [.pointer (some ⟨i,0,none⟩),b]):=by
  funext j;simp only [BR,Bh,Hp.set,Hp.Jb,Cz]
 have okn:∀z,V φ (.pointer (some ⟨i,0,none⟩)) z→EA φ L (.cells true CV [.pointer (some ⟨i,0,none⟩),b]) (some (.cells #[z,y] 73 fz)):=fun z hz=>by
  refine ⟨by rw [hesz];decide,_,_,fz,rfl,by rw [hlim];rfl,by rw [h0,hlim];exact Nat.le_refl 2, ?_,⟨fun _=>hfz,(fun e=>by cases e),fun _ _=>⟨2,by decide,by decide,h0, .inr hlim.symm⟩⟩⟩
  rw [h0]
  exact .cons _ _ _ _ hz (.cons _ _ _ _ vb .nil)
 rcases ha with rfl | rfl
 ·cases va
  have c0:w.cell? ⟨L.BT,0,none⟩=some (.pointer none):=by simp [World.cell?,hh]
  have sh:w.shape? L.BT=some (73,2):=by simp [World.shape?,hh]
  have fr:w.frozen? ⟨L.BT,0,none⟩=false:=by simp [World.frozen?,hh];omega
  refine Calls.mono (YS L.BT w c0 sh fr) ?_
  rintro e w' ⟨rfl,rfl⟩
  have e1:(w.setCell ⟨L.BT,0,none⟩ (.pointer (some ⟨L.BT,0,none⟩))).heap[L.BT]? = some (.cells #[.pointer (some ⟨L.BT,0,none⟩),y] 73 fz):=by
   simp [World.setCell,Array.getElem?_modify,hh]
  have e2:∀k,k≠L.BT→(w.setCell ⟨L.BT,0,none⟩ (.pointer (some ⟨L.BT,0,none⟩))).heap[k]? = w.heap[k]? :=fun k hk=>by
   simp only [World.setCell,Array.getElem?_modify]
   rw [if_neg (Ne.symm hk)]
  have e3:(w.setCell ⟨L.BT,0,none⟩ (.pointer (some ⟨L.BT,0,none⟩))).heap.size=w.heap.size:=by simp [World.setCell]
  refine ⟨_,_,_,_,φ,rfl,⟨rfl,rfl,rfl⟩,⟨Dm.Ren.le_refl _, .tuple _ _ .nil, ?_,⟨Nat.le_of_eq e3.symm,fun k _ hn=>e2 k fun e=>hn (e ▸ H.D0 i _ L hi rfl hL),rfl,rfl,rfl⟩,htop⟩⟩
  simp only [Gv hi]
  rw [hset]
  exact H.put i _ _ L hi rfl hL e3 e2 (by rw [e1];exact okn _ hp2)
 ·have hz:x= .pointer (some ⟨L.BT,0,none⟩):=by
   cases va with
   |ptr _ _ L2 hL2=>rw [hL] at hL2;cases hL2;rw [h0]
  subst hz
  have c0:w.cell? ⟨L.BT,0,none⟩=some (.pointer (some ⟨L.BT,0,none⟩)):=by simp [World.cell?,hh]
  refine Calls.mono (dJ L.BT w c0) ?_
  rintro e w' ⟨rfl,rfl⟩
  refine ⟨_,_,_,_,φ,rfl,⟨rfl,rfl,rfl⟩,⟨Dm.Ren.le_refl _, .tuple _ _ .nil, ?_,K.refl _ _,htop⟩⟩
  simp only [Gv hi]
  rw [hset]
  exact H.put i _ _ L hi rfl hL rfl (fun _ _=>rfl) (by rw [hh];exact okn _ hp2)
end Go.Proofs.YthlhnangbinhoaaGreatDoor.Dm
set_option linter.unusedVariables false
namespace Go.Proofs.YthlhnangbinhoaaGreatDoor.Dm
open Go.Dm Go.RowKit
set_option maxHeartbeats 4000000
set_option maxRecDepth 100000
def pD:Nat:=1+BQ * (1+5)
def JU(s:List UInt8):List Value:=s.map fun b=> .int .u8 b.toNat
def sS (z:Nat)(s:List UInt8):Option A8:=match s with
 | []=>none
 |a :: s=>some (.cells true z (JU (a :: s)))
theorem ES{s:List UInt8}:(JU s).length=s.length:=by simp[JU]
theorem Zt {l s:List UInt8}:JU (l ++ s)=JU l ++ JU s:=by simp [JU]
theorem na (s:List UInt8):Au (JU s)=true:=by
 induction s with
 |nil=>rfl
 |cons a s ih=>rw [JU,List.map_cons,Au];exact Bool.and_eq_true_iff.2 ⟨rfl,ih⟩
theorem QX {z:Nat}{s:List UInt8}(h:s≠ []):sS z s=some (.cells true z (JU s)):=by
 cases s with
 |nil=>exact absurd rfl h
 |cons a s=>rfl
theorem Kx {b:Nat}{s:List UInt8}(h:s≠ []):AA b s= .slice (some ⟨b,0,none⟩) s.length s.length:=by
 cases s with
 |nil=>exact absurd rfl h
 |cons a s=>rfl
theorem bW:dT true pD=1:=by decide
theorem U8:pD / BQ=1+5+4096 * 0:=by decide
theorem Ka {hp:Hp}{b top:Nat}{l:List UInt8}{o:Option A8}{z:Nat}(h:hp b=sS z l):hp.Ac (Bu b l top o)=(hp.set b none).set top o:=by
 cases l with
 |nil=>
  funext j
  simp only [Bu,Hp.Ac,Hp.set]
  by_cases e:j=b
  ·subst e;simp only [if_true];rw [h];rfl
  ·simp only [if_neg e]
 |cons a l=>rfl
theorem YM {P:Program}{w w':World}{t0 t1 e r:TypeId}{i i1 j:TI}{n sl c g o:Nat}{x':Value}{new:List Value}
    (h0:Ly P t0 i) (hud:i.ud= .slice e) (h1:Ly P t1 i1) (hni:Dz i1.ud=false) (hj:Ly P e j)
    (hlr:(Builtin.lenOf x').run P w= .ok n w) (hnr:(Builtin.firstCells j.size n x').run P w= .ok ⟨new⟩ w) (hle:sl+n≤c)
    (f1:(storeCells ⟨g,o+sl * j.size,none⟩ new 0).run P w= .ok () w') :
    (Builtin.append_ #[t0,t1] r #[.slice (some ⟨g,o,none⟩) sl c,x']).run P w= .ok (.slice (some ⟨g,o,none⟩) (sl+n) c) w':=by
  have hdn:=Yw hni
  have a0:(#[t0,t1] :Array TypeId)[0]? = some t0:=rfl
  have a1:(#[t0,t1] :Array TypeId)[1]? = some t1:=rfl
  have b0:(#[Value.slice (some ⟨g,o,none⟩) sl c,x'] :Array Value)[0]? = some (.slice (some ⟨g,o,none⟩) sl c):=rfl
  have b1:(#[Value.slice (some ⟨g,o,none⟩) sl c,x'] :Array Value)[1]? = some x':=rfl
  cases hd1:i1.ud <;> first
    |exact absurd hd1 (hdn _)
    | (simp only [Builtin.append_,a0,a1,b0,b1,Sem.run_bind,h0.A7,hud,Result.andThen_ok,hj.Bd,h1.A7,hd1,Sem.run_pure,Bool.false_eq_true,if_false,hlr,hle,if_true,Bool.not_false,hnr,addr_add]
       rw [f1];rfl)
theorem V7 {P:Program}{φ:Dm.Ren}{own:Nat→Prop}{hp:Hp}{w:World}{top:Nat}(H:HR φ own hp w)(htop:∀j,top≤j→φ j=none)
  {t0 t1 r:TypeId} {i i1 j:TI} {z e:Nat} (h0:Ly P t0 i) (hud:i.ud= .slice e) (h1:Ly P t1 i1) (hni:Dz i1.ud=false) (hj:Ly P e j) (hjs:j.size=1) (hjb:j.bytes=1)
  (hze:dT true z=1) (hzd:z / BQ=1+e+4096 * 0) (hzg:BQ≤z) (hes:e < 4095)
  {b:Nat} {l s:List UInt8} (hb:hp b=sS z l) {y:Value} (hy:V φ (AA b l) y) (hroom:l.length+s.length≤140737488355328) (hs:s≠ [])
  {xa x':Value} (hx:V φ xa x') (hnew:Co hp 1 s.length xa=some (JU s)) (hlen:G9 xa=some s.length) :
  ∃v' w' φ',(Builtin.append_ #[t0,t1] r #[y,x']).run P w= .ok v' w'∧E8 φ own w (AA top (l ++ s)) (hp.Ac (Bu b l top (sS z (l ++ s)))) (top+1) v' w' φ':=by
 obtain ⟨new',hnrd,hnv⟩:=IK (P:=P) H hnew hx
 have hnr:=hnrd w.drawn
 have hlr:=Q5 (P:=P) w hlen hx
 have hnl:new'.length=s.length:=by rw [hnv.length,ES]
 have a0:(#[t0,t1] :Array TypeId)[0]? = some t0:=rfl
 have a1:(#[t0,t1] :Array TypeId)[1]? = some t1:=rfl
 have hr:Cu (l.length+s.length) j.bytes=true:=by
  unfold Cu
  rw [hjb,Bool.and_eq_true]
  exact ⟨Nat.ble_eq_true_of_le (by omega),Nat.ble_eq_true_of_le (by omega)⟩
 have hjb':j.bytes≤65536:=by rw [hjb];decide
 rw [←hjs] at hnr hnrd
 rw [Ka hb]
 by_cases hl:l= []
 ·subst hl
  cases hy
  have hbn:hp b=none:=hb
  have hset0:hp.set b none=hp:=by
   funext k;simp only [Hp.set];split
   ·rename_i e;rw [e,hbn]
   ·rfl
  rw [hset0,List.nil_append]
  have hs0:s.length≠0:=by simpa using hs
  obtain ⟨cap,extra,g1,g2,g3⟩:=HQ (r:=r) (base:=none) (sl:=0) (c:=0) (MR:= []) h0 hud h1 hni hj hlr hnr rfl hjb' (by simpa using hr) (by omega) (fun _=>rfl) hnrd
  obtain ⟨L,k1,k2,k3,k4,k5,k6,k7,k8,k9⟩:=E5 H htop hnv z e extra (w.drawn+1) (fun _=>⟨0,hzd,hes, .inl rfl⟩)
  rw [hze] at k3
  refine ⟨.slice (some ⟨L.BT,L.off+0,none⟩) s.length cap,_,_, ?_,⟨k5, ?_, ?_,k8,k9⟩⟩
  ·rw [g3,k1,k2];simp
  ·rw [Kx hs]
   refine .slice _ _ _ _ _ L k6 (Nat.le_refl _) (by omega) ?_
   rw [k2,k3,k4,g2,ES,hjs];omega
  ·rw [QX hs];exact k7
 ·have hl0:l.length≠0:=by simpa using hl
  have hls:l ++ s≠ []:=by simp [hl]
  rw [Kx hl] at hy
  rw [QX hl] at hb
  rw [Kx hls,QX hls]
  cases hy with
  |slice _ _ _ _ c' L hL hnc hcc hlim=>
  obtain ⟨L',hL',hok⟩:=H.obj _ _ hb
  rw [hL] at hL';cases hL'
  obtain ⟨he,cc,ty,fz,hg,hsz,hlim',hvs,hfz⟩:=hok
  have he0:=he
  rw [hze] at he
  obtain ⟨m,hm1,hm2,hm3,hm4⟩:=hfz.2.2 rfl hzg
  rw [←he] at hlim
  have b0:(#[Value.slice (some ⟨L.BT,L.off+0,none⟩) l.length c',x'] :Array Value)[0]? = some (.slice (some ⟨L.BT,L.off+0,none⟩) l.length c'):=rfl
  have b1:(#[Value.slice (some ⟨L.BT,L.off+0,none⟩) l.length c',x'] :Array Value)[1]? = some x':=rfl
  have hib:top≠b:=fun e=>by subst e;rw [htop _ (Nat.le_refl _)] at hL;cases hL
  have hold:Co hp j.size l.length (.slice (some ⟨b,0,none⟩) l.length l.length)=some (JU l):=by
   have h1:(List.drop 0 (JU l)).take (l.length * j.size)=JU l:=by rw [hjs,List.drop_zero,Nat.mul_one];exact List.take_of_length_le (by rw [ES];exact Nat.le_refl _)
   simp only [Co,hb,h1]
   have:Nat.beq (JU l).length (l.length * j.size)=true:=by rw [ES,hjs,Nat.mul_one];simp
   rw [this]
  by_cases hle:l.length+s.length≤c'
  ·obtain ⟨w',f1,f2,f3,f4,f5,f6,f7⟩:=E1 P L.BT (L.off+l.length) ty fz (hfz.1 rfl) new' 0 w cc hg (by rw [hnl,hsz];omega) (by rw [JE hnv];exact na s)
   refine ⟨.slice (some ⟨L.BT,L.off+0,none⟩) (l.length+s.length) c',w',φ.ext top ⟨L.BT,L.off,L.CA,L.PY⟩, ?_,⟨Dm.Ren.EZ (htop _ (Nat.le_refl _)), ?_, ?_,⟨by omega,fun k hk hn=>f4 k fun e=>hn (by subst e;exact H.D0 b _ L hb rfl hL),f5,f6,f7⟩,fun j hj=>Dm.Ren.J3 (htop j (by omega)) (by omega)⟩⟩
   ·refine YM h0 hud h1 hni hj hlr hnr hle ?_
    rw [hjs,show L.off+0+l.length * 1=L.off+l.length from by omega];exact f1
   ·rw [List.length_append]
    refine .slice top 0 _ _ _ ⟨L.BT,L.off,L.CA,L.PY⟩ (Dm.Ren.A9 ..) (Nat.le_refl _) hle ?_
    show L.off+0+c' * L.CA≤L.PY
    rw [←he];exact hlim
   ·have hm:=H.move top b _ (.cells true z (JU (l ++ s))) L ⟨L.BT,L.off,L.CA,L.PY⟩ hb rfl hL (htop _ (Nat.le_refl _)) rfl f3 f4 (by
     refine ⟨he0,_,ty,fz,f2, ?_, ?_, ?_,⟨hfz.1,(fun h=>by cases h),fun _ _=>⟨m,hm1,hm2,hm3,hm4⟩⟩⟩
     ·have:(A1 cc.toList (L.off+l.length+0) new').length=cc.toList.length:=Dw (by rw [hnl,show cc.toList.length=L.PY from hsz];omega)
      simpa [hsz] using this
     ·show L.off+(JU (l ++ s)).length≤L.PY
      rw [ES,List.length_append];omega
     ·have hcl:cc.toList.length=L.PY:=by simpa using hsz
      have hsp:((A1 cc.toList (L.off+l.length+0) new').drop L.off).take (JU (l ++ s)).length=((cc.toList.drop L.off).take (JU l).length) ++ new':=by
       apply List.ext_getElem?
       intro q
       unfold A1
       simp only [List.getElem?_take,List.getElem?_drop,List.getElem?_append,List.length_append,List.length_take,List.length_drop,hcl,hnl,Nat.add_zero,ES]
       repeat' split
       all_goals first
        |omega
        |rfl
        | (congr 1;omega)
        | (rw [List.getElem?_eq_none (by omega)];done)
        | (symm;rw [List.getElem?_eq_none (by omega)];done)
      show Vs _ (JU (l ++ s)) (((A1 cc.toList (L.off+l.length+0) new').drop L.off).take (JU (l ++ s)).length)
      rw [hsp,Zt]
      exact (hvs.append hnv).mono (Dm.Ren.EZ (htop _ (Nat.le_refl _))))
    refine hm.sub fun k ok hk=> ?_
    simp only [Hp.set] at hk
    split at hk
    ·rename_i hkt;simp only [hkt,if_true];exact hk
    ·rename_i hkt;simp only [hkt,if_false];exact hk
  ·obtain ⟨old',o1d,o2⟩:=IK (P:=P) H hold (.slice _ _ _ _ _ L hL hnc hcc (by rw [←he];exact hlim))
   have o1:=o1d w.drawn
   obtain ⟨cap,extra,g1,g2,g3⟩:=HQ (r:=r) h0 hud h1 hni hj hlr hnr o1 hjb' hr hle o1d hnrd
   obtain ⟨L2,k1,k2,k3,k4,k5,k6,k7,k8,k9⟩:=E5 H htop (o2.append hnv) z e extra (w.drawn+1) (fun _=>⟨0,hzd,hes, .inl rfl⟩)
   rw [hze] at k3
   refine ⟨.slice (some ⟨L2.BT,L2.off+0,none⟩) (l.length+s.length) cap,_,_, ?_,⟨k5, ?_, ?_,k8,k9⟩⟩
   ·rw [g3,k1,k2]
   ·rw [List.length_append]
    refine .slice _ _ _ _ _ L2 k6 (Nat.le_refl _) (by omega) ?_
    rw [k2,k3,k4,g2,hjs,List.length_append,ES,ES];omega
   ·rw [Zt]
    refine k7.sub fun k ok hk=> ?_
    simp only [Hp.set] at hk ⊢
    split at hk
    ·rename_i hkt;simp only [hkt,if_true];exact hk
    ·rename_i hkt;simp only [hkt,if_false]
     split at hk
     ·cases hk
     ·exact hk
theorem db {hp:Hp}{s:List UInt8}:Co hp 1 s.length (.string ⟨⟨s⟩⟩)=some (JU s):=by
 have:Nat.ble s.length s.length=true:=by simp
 simp only [Co,this,List.take_length];rfl
def JT(s:List UInt8):Option A8:=sS pD s
theorem Ys:BQ≤pD:=by decide
end Go.Proofs.YthlhnangbinhoaaGreatDoor.Dm
