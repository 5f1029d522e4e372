import Derived.Test.YthpibnpeaidabaaGreatDoorTD
set_option linter.unusedVariables false
namespace Go.Proofs.YthpibnpeaidabaaGreatDoor.Dm
open Go.Dm Go.RowKit
set_option maxHeartbeats 4000000
set_option maxRecDepth 100000
def ua:Nat:=1+BB * (1+5)
def J4 (s:List UInt8):List Value:=s.map fun b=> .int .u8 b.toNat
def uf (z:Nat)(s:List UInt8):Option Ay:=match s with
  | []=>none
  |a :: s=>some (.cells true z (J4 (a :: s)))
theorem Eh {s:List UInt8}:(J4 s).length=s.length:=by simp [J4]
theorem W6 {l s:List UInt8}:J4 (l ++ s)=J4 l ++ J4 s:=by simp [J4]
theorem kD (s:List UInt8):Aq (J4 s)=true:=by
  induction s with
  |nil=>rfl
  |cons a s ih=>rw [J4,List.map_cons,Aq];exact Bool.and_eq_true_iff.2 ⟨rfl,ih⟩
theorem Pb {z:Nat}{s:List UInt8}(h:s≠ []):uf z s=some (.cells true z (J4 s)):=by
  cases s with
  |nil=>exact absurd rfl h
  |cons a s=>rfl
theorem Iy {b:Nat}{s:List UInt8}(h:s≠ []):AR b s= .slice (some ⟨b,0,none⟩) s.length s.length:=by
  cases s with
  |nil=>exact absurd rfl h
  |cons a s=>rfl
theorem kF:Zr true ua=1:=by decide
theorem XS:ua / BB=1+5+4096 * 0:=by decide
theorem Md {hp:Hp}{b top:Nat}{l:List UInt8}{o:Option Ay}{z:Nat}(h:hp b=uf z l):hp.Al (CP b l top o)=(hp.set b none).set top o:=by
  cases l with
  |nil=>
    funext j
    simp only [CP,Hp.Al,Hp.set]
    by_cases e:j=b
    · subst e;simp only [if_true];rw [h];rfl
    · simp only [if_neg e]
  |cons a l=>rfl
theorem Va {P:Program}{w w':World}{t0 t1 e r:TypeId}{i i1 j:TI}{n sl c g o:Nat}{x':Value}{new:List Value}
    (h0:Bq P t0 i) (hud:i.ud= .slice e) (h1:Bq P t1 i1) (hni:DB i1.ud=false) (hj:Bq P e j)
    (hlr:(Builtin.lenOf x').run P w= .ok n w) (hnr:(Builtin.firstCells j.size n x').run P w= .ok ⟨new⟩ w) (hle:sl+n≤c)
    (f1:(storeCells ⟨g,o+sl * j.size,none⟩ new 0).run P w= .ok () w') :
    (Builtin.append_ #[t0,t1] r #[.slice (some ⟨g,o,none⟩) sl c,x']).run P w= .ok (.slice (some ⟨g,o,none⟩) (sl+n) c) w':=by
  have hdn:=VL hni
  have a0:(#[t0,t1] :Array TypeId)[0]? = some t0:=rfl
  have a1:(#[t0,t1] :Array TypeId)[1]? = some t1:=rfl
  have b0:(#[Value.slice (some ⟨g,o,none⟩) sl c,x'] :Array Value)[0]? = some (.slice (some ⟨g,o,none⟩) sl c):=rfl
  have b1:(#[Value.slice (some ⟨g,o,none⟩) sl c,x'] :Array Value)[1]? = some x':=rfl
  cases hd1:i1.ud <;> first
    |exact absurd hd1 (hdn _)
    | (simp only [Builtin.append_,a0,a1,b0,b1,Sem.run_bind,h0.A1,hud,Result.andThen_ok,hj.BP,h1.A1,hd1,Sem.run_pure,Bool.false_eq_true,if_false,hlr,hle,if_true,Bool.not_false,hnr,addr_add]
       rw [f1];rfl)
theorem fT {P:Program}{φ:Dm.Ren}{own:Nat→Prop}{hp:Hp}{w:World}{top:Nat}(H:HR φ own hp w)(htop:∀j,top≤j→φ j=none)
    {t0 t1 r:TypeId} {i i1 j:TI} {z e:Nat} (h0:Bq P t0 i) (hud:i.ud= .slice e) (h1:Bq P t1 i1) (hstr:i1.ud= .string) (hj:Bq P e j) (hjs:j.size=1) (hjb:j.bytes=1)
    (hze:Zr true z=1) (hzd:z / BB=1+e+4096 * 0) (hzg:BB≤z) (hes:e < 4095)
    {b:Nat} {l s:List UInt8} (hb:hp b=uf z l) {y:Value} (hy:V φ (AR b l) y) (hroom:l.length+s.length≤140737488355328) :
    ∃v' w' φ',(Builtin.append_ #[t0,t1] r #[y, .string ⟨⟨s⟩⟩]).run P w= .ok v' w'∧FD φ own w (AR top (l ++ s)) (hp.Al (CP b l top (uf z (l ++ s)))) (top+1) v' w' φ':=by
  have hx:V φ (.string ⟨⟨s⟩⟩) (.string ⟨⟨s⟩⟩):= .str _
  have hnew:Ck hp 1 s.length (.string ⟨⟨s⟩⟩)=some (J4 s):=by
    have:Nat.ble s.length s.length=true:=by simp
    simp only [Ck,this,List.take_length];rfl
  obtain ⟨new',hnrd,hnv⟩:=GS (P:=P) H hnew hx
  have hnr:=hnrd w.drawn
  have hlr:=NG (P:=P) w (show FO (.string ⟨⟨s⟩⟩)=some s.length from rfl) hx
  have hnl:new'.length=s.length:=by rw [hnv.length,Eh]
  have hni:DB i1.ud=false:=by rw [hstr];rfl
  have a0:(#[t0,t1] :Array TypeId)[0]? = some t0:=rfl
  have a1:(#[t0,t1] :Array TypeId)[1]? = some t1:=rfl
  have hr:B6 (l.length+s.length) j.bytes=true:=by
    unfold B6
    rw [hjb,Bool.and_eq_true]
    exact ⟨Nat.ble_eq_true_of_le (by omega),Nat.ble_eq_true_of_le (by omega)⟩
  have hjb':j.bytes≤65536:=by rw [hjb];decide
  rw [←hjs] at hnr hnrd
  rw [Md hb]
  by_cases hl:l= []
  · subst hl
    cases hy
    have hbn:hp b=none:=hb
    have hset0:hp.set b none=hp:=by
      funext k;simp only [Hp.set];split
      · rename_i e;rw [e,hbn]
      · rfl
    rw [hset0,List.nil_append]
    by_cases hs:s= []
    · subst hs
      refine ⟨.slice none 0 0,w,φ, ?_,⟨Dm.Ren.le_refl _, .nils,H.sub (fun k ok hk=>by
        simp only [Hp.set] at hk
        split at hk
        · cases hk
        · exact hk),Dm.K.refl _ _,fun j hj=>htop j (by omega)⟩⟩
      have b0:(#[Value.slice none 0 0, .string ⟨⟨[]⟩⟩] :Array Value)[0]? = some (.slice none 0 0):=rfl
      have b1:(#[Value.slice none 0 0, .string ⟨⟨[]⟩⟩] :Array Value)[1]? = some (.string ⟨⟨[]⟩⟩):=rfl
      have hlr':(Builtin.lenOf (.string ⟨⟨[]⟩⟩)).run P w= .ok 0 w:=hlr
      have hnr':(Builtin.firstCells j.size 0 (.string ⟨⟨[]⟩⟩)).run P w= .ok ⟨new'⟩ w:=hnr
      simp only [Builtin.append_,a0,a1,b0,b1,Sem.run_bind,h0.A1,hud,Result.andThen_ok,hj.BP,h1.A1,hstr,Sem.run_pure,Bool.false_eq_true,if_false,hlr',Nat.add_zero,Nat.le_refl,if_true,Bool.not_false,hnr']
    · have hs0:s.length≠0:=by simpa using hs
      obtain ⟨cap,extra,g1,g2,g3⟩:=Fx (r:=r) (base:=none) (sl:=0) (c:=0) (Je:= []) h0 hud h1 hni hj hlr hnr rfl hjb' (by simpa using hr) (by omega) (fun _=>rfl) hnrd
      obtain ⟨L,k1,k2,k3,k4,k5,k6,k7,k8,k9⟩:=EY H htop hnv z e extra (w.drawn+1) (fun _=>⟨0,hzd,hes, .inl rfl⟩)
      rw [hze] at k3
      refine ⟨.slice (some ⟨L.BR,L.off+0,none⟩) s.length cap,_,_, ?_,⟨k5, ?_, ?_,k8,k9⟩⟩
      · rw [g3,k1,k2];simp
      · rw [Iy hs]
        refine .slice _ _ _ _ _ L k6 (Nat.le_refl _) (by omega) ?_
        rw [k2,k3,k4,g2,Eh,hjs];omega
      · rw [Pb hs];exact k7
  · have hl0:l.length≠0:=by simpa using hl
    have hls:l ++ s≠ []:=by simp [hl]
    rw [Iy hl] at hy
    rw [Pb hl] at hb
    rw [Iy hls,Pb hls]
    cases hy with
    |slice _ _ _ _ c' L hL hnc hcc hlim=>
    obtain ⟨L',hL',hok⟩:=H.obj _ _ hb
    rw [hL] at hL';cases hL'
    obtain ⟨he,cc,ty,fz,hg,hsz,hlim',hvs,hfz⟩:=hok
    have he0:=he
    rw [hze] at he
    obtain ⟨m,hm1,hm2,hm3,hm4⟩:=hfz.2.2 rfl hzg
    rw [←he] at hlim
    have b0:(#[Value.slice (some ⟨L.BR,L.off+0,none⟩) l.length c', .string ⟨⟨s⟩⟩] :Array Value)[0]? = some (.slice (some ⟨L.BR,L.off+0,none⟩) l.length c'):=rfl
    have b1:(#[Value.slice (some ⟨L.BR,L.off+0,none⟩) l.length c', .string ⟨⟨s⟩⟩] :Array Value)[1]? = some (.string ⟨⟨s⟩⟩):=rfl
    have hib:top≠b:=fun e=>by subst e;rw [htop _ (Nat.le_refl _)] at hL;cases hL
    have hold:Ck hp j.size l.length (.slice (some ⟨b,0,none⟩) l.length l.length)=some (J4 l):=by
      have h1:(List.drop 0 (J4 l)).take (l.length * j.size)=J4 l:=by rw [hjs,List.drop_zero,Nat.mul_one];exact List.take_of_length_le (by rw [Eh];exact Nat.le_refl _)
      simp only [Ck,hb,h1]
      have:Nat.beq (J4 l).length (l.length * j.size)=true:=by rw [Eh,hjs,Nat.mul_one];simp
      rw [this]
    by_cases hle:l.length+s.length≤c'
    · obtain ⟨w',f1,f2,f3,f4,f5,f6,f7⟩:=Dr P L.BR (L.off+l.length) ty fz (hfz.1 rfl) new' 0 w cc hg (by rw [hnl,hsz];omega) (by rw [FQ hnv];exact kD s)
      refine ⟨.slice (some ⟨L.BR,L.off+0,none⟩) (l.length+s.length) c',w',φ.ext top ⟨L.BR,L.off,L.BO,L.Dp⟩, ?_,⟨Dm.Ren.DA (htop _ (Nat.le_refl _)), ?_, ?_,⟨by omega,fun k hk hn=>f4 k fun e=>hn (by subst e;exact H.DC b _ L hb rfl hL),f5,f6,f7⟩,fun j hj=>Dm.Ren.Hz (htop j (by omega)) (by omega)⟩⟩
      · refine Va h0 hud h1 hni hj hlr hnr hle ?_
        rw [hjs,show L.off+0+l.length * 1=L.off+l.length from by omega];exact f1
      · rw [List.length_append]
        refine .slice top 0 _ _ _ ⟨L.BR,L.off,L.BO,L.Dp⟩ (Dm.Ren.A4 ..) (Nat.le_refl _) hle ?_
        show L.off+0+c' * L.BO≤L.Dp
        rw [←he];exact hlim
      · have hm:=H.move top b _ (.cells true z (J4 (l ++ s))) L ⟨L.BR,L.off,L.BO,L.Dp⟩ hb rfl hL (htop _ (Nat.le_refl _)) rfl f3 f4 (by
          refine ⟨he0,_,ty,fz,f2, ?_, ?_, ?_,⟨hfz.1,(fun h=>by cases h),fun _ _=>⟨m,hm1,hm2,hm3,hm4⟩⟩⟩
          · have:(Ag cc.toList (L.off+l.length+0) new').length=cc.toList.length:=CK (by rw [hnl,show cc.toList.length=L.Dp from hsz];omega)
            simpa [hsz] using this
          · show L.off+(J4 (l ++ s)).length≤L.Dp
            rw [Eh,List.length_append];omega
          · have hcl:cc.toList.length=L.Dp:=by simpa using hsz
            have hsp:((Ag cc.toList (L.off+l.length+0) new').drop L.off).take (J4 (l ++ s)).length=((cc.toList.drop L.off).take (J4 l).length) ++ new':=by
              apply List.ext_getElem?
              intro q
              unfold Ag
              simp only [List.getElem?_take,List.getElem?_drop,List.getElem?_append,List.length_append,List.length_take,List.length_drop,hcl,hnl,Nat.add_zero,Eh]
              repeat' split
              all_goals first
                |omega
                |rfl
                | (congr 1;omega)
                | (rw [List.getElem?_eq_none (by omega)];done)
                | (symm;rw [List.getElem?_eq_none (by omega)];done)
            show Vs _ (J4 (l ++ s)) (((Ag cc.toList (L.off+l.length+0) new').drop L.off).take (J4 (l ++ s)).length)
            rw [hsp,W6]
            exact (hvs.append hnv).mono (Dm.Ren.DA (htop _ (Nat.le_refl _))))
        refine hm.sub fun k ok hk=> ?_
        simp only [Hp.set] at hk
        split at hk
        · rename_i hkt;simp only [hkt,if_true];exact hk
        · rename_i hkt;simp only [hkt,if_false];exact hk
    · obtain ⟨old',o1d,o2⟩:=GS (P:=P) H hold (.slice _ _ _ _ _ L hL hnc hcc (by rw [←he];exact hlim))
      have o1:=o1d w.drawn
      obtain ⟨cap,extra,g1,g2,g3⟩:=Fx (r:=r) h0 hud h1 hni hj hlr hnr o1 hjb' hr hle o1d hnrd
      obtain ⟨L2,k1,k2,k3,k4,k5,k6,k7,k8,k9⟩:=EY H htop (o2.append hnv) z e extra (w.drawn+1) (fun _=>⟨0,hzd,hes, .inl rfl⟩)
      rw [hze] at k3
      refine ⟨.slice (some ⟨L2.BR,L2.off+0,none⟩) (l.length+s.length) cap,_,_, ?_,⟨k5, ?_, ?_,k8,k9⟩⟩
      · rw [g3,k1,k2]
      · rw [List.length_append]
        refine .slice _ _ _ _ _ L2 k6 (Nat.le_refl _) (by omega) ?_
        rw [k2,k3,k4,g2,hjs,List.length_append,Eh,Eh];omega
      · rw [W6]
        refine k7.sub fun k ok hk=> ?_
        simp only [Hp.set] at hk ⊢
        split at hk
        · rename_i hkt;simp only [hkt,if_true];exact hk
        · rename_i hkt;simp only [hkt,if_false]
          split at hk
          · cases hk
          · exact hk
def Rv (s:List UInt8):Option Ay:=uf ua s
theorem gW:BB≤ua:=by decide
end Go.Proofs.YthpibnpeaidabaaGreatDoor.Dm
