/- The abstract machine, a part of it: operations, regions, code and calls run over values with named blocks; each step is shown of the real run. -/
import Derived.Test.YthlhnangbinhoaaGreatDoorDmB
set_option linter.unusedVariables false
namespace Go.Dm
theorem dm(need:Nat):∀(r c:Nat),c < need→Builtin.growBy need r c≤need+(need+768) / 4:=by
 intro r
 induction r with
 |zero=>intro c h;simp only[Builtin.growBy];omega
 |succ r ih=>
  intro c h
  simp only[Builtin.growBy]
  split
  ·omega
  ·by_cases h2:c+(c+768) / 4 < need
   ·exact ih _ h2
   ·cases r with
    |zero=>simp only[Builtin.growBy];omega
    |succ r=>simp only[Builtin.growBy];split <;> omega
theorem Yt{need MR:Nat}(h:MR < need):Builtin.nextslicecap need MR≤need+need / 4+705:=by
 unfold Builtin.nextslicecap
 split
 ·omega
 ·split
  ·omega
  ·have:=dm need 4 MR h;omega
theorem Yw{d:TypeDesc}(h:Dz d=false):∀k,d≠ .int k:=by
 intro k e;subst e;cases h
theorem Od(zero:Array Value)(n:Nat):(Builtin.zeroCells zero n).size=n * zero.size:=by simp[Builtin.zeroCells]
section
variable{P:Program}{tt:AM} (htt:Cy P tt){φ:Ren}{own:Nat→Prop}{hp:Hp}{w:World} (H:HR φ own hp w){top top':Nat} (htop:∀j,top≤j→φ j=none){v:Value}{us:A6}
theorem HQ {t0 t1 e r:TypeId}{i i1 j:TI}{n sl c:Nat}{base:Option Addr}{x':Value}{MR new:List Value}
    (h0:Ly P t0 i) (hud:i.ud= .slice e) (h1:Ly P t1 i1) (hni:Dz i1.ud=false) (hj:Ly P e j)
    (hlen:(Builtin.lenOf x').run P w= .ok n w) (_hnew:(Builtin.firstCells j.size n x').run P w= .ok ⟨new⟩ w) (_hold:(Builtin.firstCells j.size sl (.slice base sl c)).run P w= .ok ⟨MR⟩ w)
    (hb:j.bytes≤65536) (hroom:Cu (sl+n) j.bytes=true) (hc:¬sl+n≤c) (hbase:∀d,(Builtin.firstCells j.size sl (.slice base sl c)).run P {w with drawn:=d} = .ok ⟨MR⟩ {w with drawn:=d})
    (hnewd:∀d,(Builtin.firstCells j.size n x').run P {w with drawn:=d} = .ok ⟨new⟩ {w with drawn:=d}) :
    ∃cap extra,sl+n≤cap∧extra.length=(cap - (sl+n)) * j.size∧(Builtin.append_ #[t0,t1] r #[.slice base sl c,x']).run P w =
      .ok (.slice (some ⟨w.heap.size,0,none⟩) (sl+n) cap) {w with heap:=w.heap.push (.cells ⟨(MR ++ new) ++ extra⟩ e),drawn:=w.drawn+1}:=by
  obtain ⟨y,hy,_,hyb,_⟩:=hj.info
  have hti:∀w,(typeInfo e).run P w= .ok y w:=fun w=>by simp [typeInfo,hy]
  have hneed:sl+n≤281474976710656∧(sl+n) * j.bytes≤140737488355328:=by
    simp only [Cu,Bool.and_eq_true] at hroom
    exact ⟨Nat.le_of_ble_eq_true hroom.1,Nat.le_of_ble_eq_true hroom.2⟩
  obtain ⟨hneed,hneedB⟩:=hneed
  have hnc:=Yt (need:=sl+n) (MR:=c) (by omega)
  have hcap:¬(Builtin.nextslicecap (sl+n) c * y.bytes > 2 ^ 48):=by
    rw [hyb]
    have h1:=Nat.mul_le_mul_right j.bytes hnc
    have h2:(sl+n+(sl+n) / 4+705) * j.bytes=(sl+n) * j.bytes+(sl+n) / 4 * j.bytes+705 * j.bytes:=by rw [Nat.add_mul,Nat.add_mul]
    have h3:4 * ((sl+n) / 4 * j.bytes)≤(sl+n) * j.bytes:=by
      rw [←Nat.mul_assoc];exact Nat.mul_le_mul_right _ (by omega)
    have h4:705 * j.bytes≤705 * 65536:=Nat.mul_le_mul_left _ hb
    rw [h2] at h1
    generalize Builtin.nextslicecap (sl+n) c * j.bytes=A at *
    generalize (sl+n) / 4 * j.bytes=B at *
    generalize (sl+n) * j.bytes=M at *
    omega
  have hq:(Question.appendCap (sl+n) c e).forced=false:=rfl
  refine ⟨(Question.appendCap (sl+n) c e).cut (w.tape w.drawn (.appendCap (sl+n) c e)),(Builtin.zeroCells j.zero.cells ((Question.appendCap (sl+n) c e).cut (w.tape w.drawn (.appendCap (sl+n) c e)) - (sl+n))).toList, ?_, ?_, ?_⟩
  · simp only [Question.cut];omega
  · rw [Array.length_toList,Od,me hj]
  · have a0:(#[t0,t1] :Array TypeId)[0]? = some t0:=rfl
    have a1:(#[t0,t1] :Array TypeId)[1]? = some t1:=rfl
    have b0:(#[Value.slice base sl c,x'] :Array Value)[0]? = some (.slice base sl c):=rfl
    have b1:(#[Value.slice base sl c,x'] :Array Value)[1]? = some x':=rfl
    have hm:¬((((sl+n:Nat):Int) > IntKind.i64.max)∧(False∨y.bytes=0)):=by
      intro h;have:=h.1
      simp only [IntKind.max,IntKind.signed,IntKind.bits,if_true] at this;omega
    have hd:=Yw hni
    cases hd1:i1.ud <;> first
      |exact absurd hd1 (hd _)
      | (simp only [Builtin.append_,a0,a1,b0,b1,Sem.run_bind,h0.A7,hud,Result.andThen_ok,hj.Bd,h1.A7,hd1,Sem.run_pure,Bool.false_eq_true,if_false,hlen,if_neg hc]
         simp only [hti,Result.andThen_ok,Sem.run_ite,Bool.false_eq_true,if_neg hm,if_neg hcap,Sem.run_pure,Sem.run_bind,run_choose,hq,if_false,run_askRoom,hbase,hnewd,Bool.not_false,if_true,hj.Ek,newRow,run_newObj]
         congr 3
         simp)
include htt H htop
theorem cz {ts:List TypeId}{r:TypeId}{s x s' x':Value}(h:AK tt hp top ts s x=some (v,us,top'))(hs:V φ s s')(hx:V φ x x') :
    ∃v' w' φ',(Builtin.append_ ⟨ts⟩ r #[s',x']).run P w= .ok v' w'∧E8 φ own w v (hp.Ac us) top' v' w' φ':=by
  unfold AK at h
  split at h
  · rename_i t0 t1
    split at h
    · rename_i i i1 n hi hi1 hn
      have h0:=htt _ _ hi
      have h1:=htt _ _ hi1
      split at h
      · cases h
      · rename_i hni
        split at h
        · rename_i e hud
          split at h
          · cases h
          · rename_i j hj
            have htj:=htt _ _ hj
            split at h
            · cases h
            · rename_i new hnew
              split at h
              · cases h
              · rename_i hcond
                simp only [Bool.and_eq_true] at hcond
                obtain ⟨⟨c1,c2⟩,c3⟩:=hcond
                have c1':=Nat.le_of_ble_eq_true c1
                have c3':=Nat.eq_of_beq_eq_true c3
                obtain ⟨new',hnrd,hnv⟩:=IK (P:=P) H hnew hx
                have hnr:=hnrd w.drawn
                have hlr:=Q5 (P:=P) w hn hx
                have hdn:=Yw hni
                split at h
                · -- a nil slice
                  cases hs
                  split at h
                  · rename_i h00
                    have h00':=Nat.eq_of_beq_eq_true h00
                    subst h00'
                    cases h
                    refine ⟨.slice none 0 0,w,φ, ?_,⟨Ren.le_refl _, .nils,H.sub (fun k ok hk=>by
                      simp only [Hp.Ac,Hp.set] at hk
                      split at hk
                      · cases hk
                      · exact hk),K.refl _ _,fun j hj=>htop j (by omega)⟩⟩
                    have a0:(⟨[t0,t1]⟩:Array TypeId)[0]? = some t0:=rfl
                    have a1:(⟨[t0,t1]⟩:Array TypeId)[1]? = some t1:=rfl
                    have b0:(#[Value.slice none 0 0,x'] :Array Value)[0]? = some (.slice none 0 0):=rfl
                    have b1:(#[Value.slice none 0 0,x'] :Array Value)[1]? = some x':=rfl
                    cases hd1:i1.ud <;> first
                      |exact absurd hd1 (hdn _)
                      |simp only [Builtin.append_,a0,a1,b0,b1,Sem.run_bind,h0.A7,hud,Result.andThen_ok,htj.Bd,h1.A7,hd1,Sem.run_pure,Bool.false_eq_true,if_false,hlr,Nat.add_zero,Nat.le_refl,if_true,Bool.not_false,hnr]
                  · rename_i h00
                    have hne:n≠0:=fun e=>by subst e;simp at h00
                    split at h
                    · rename_i hle
                      cases h
                      obtain ⟨cap,extra,g1,g2,g3⟩:=HQ (r:=r) (base:=none) (sl:=0) (c:=0) (MR:= []) h0 hud h1 hni htj hlr hnr rfl c1' (by rw [Nat.zero_add];exact hle) (by omega) (fun _=>rfl) hnrd
                      obtain ⟨L,k1,k2,k3,k4,k5,k6,k7,k8,k9⟩:=E5 H htop hnv j.size e extra (w.drawn+1) (fun h=>absurd h (by have:=htj.small;omega))
                      rw [GX htj.small] at k3
                      refine ⟨.slice (some ⟨L.BT,L.off+0,none⟩) n cap,_,_, ?_,⟨k5, .slice _ _ _ _ _ L k6 (Nat.le_refl _) (by omega) ?_,k7,k8,k9⟩⟩
                      · rw [g3,k1,k2];simp
                      · rw [k2,k3,k4,g2,c3',←Nat.add_mul]
                        have:n+(cap - (0+n))=cap:=by omega
                        rw [this];omega
                    · cases h
                · -- a slice that owns its cells
                  rename_i b o sl c
                  split at h
                  · rename_i CA vs hb
                    split at h
                    · cases h
                    · rename_i hesz
                      have hesz':=Nat.eq_of_beq_eq_true hesz
                      cases hs with
                      |slice _ _ _ _ c' L hL hnc hcc hlim=>
                      obtain ⟨L',hL',hok⟩:=H.obj _ _ hb
                      rw [hL] at hL';cases hL'
                      obtain ⟨he,cc,ty,fz,hg,hsz,hlim',hvs,hfz⟩:=hok
                      have hel:=GX (rw:=true) (CA:=CA) (by rw [hesz'];exact htj.small)
                      rw [hel] at he
                      have a0:(⟨[t0,t1]⟩:Array TypeId)[0]? = some t0:=rfl
                      have a1:(⟨[t0,t1]⟩:Array TypeId)[1]? = some t1:=rfl
                      have b0:(#[Value.slice (some ⟨L.BT,L.off+o,none⟩) sl c',x'] :Array Value)[0]? = some (.slice (some ⟨L.BT,L.off+o,none⟩) sl c'):=rfl
                      have b1:(#[Value.slice (some ⟨L.BT,L.off+o,none⟩) sl c',x'] :Array Value)[1]? = some x':=rfl
                      split at h
                      · rename_i hroom
                        simp only [Bool.and_eq_true] at hroom
                        have hroom':=Nat.le_of_ble_eq_true hroom.1
                        split at h
                        · rename_i hfit
                          have hfit':=Nat.le_of_ble_eq_true hfit
                          cases h
                          obtain ⟨w',e1,e2,e3⟩:=Fv (P:=P) H hb hL hnv hfit' c2
                          refine ⟨.slice (some ⟨L.BT,L.off+o,none⟩) (sl+n) c',w',φ, ?_,⟨Ren.le_refl _, .slice _ _ _ _ _ L hL hroom' hcc hlim,e2,e3,htop⟩⟩
                          have hle:sl+n≤c':=by omega
                          cases hd1:i1.ud <;> first
                            |exact absurd hd1 (hdn _)
                            | (simp only [Builtin.append_,a0,a1,b0,b1,Sem.run_bind,h0.A7,hud,Result.andThen_ok,htj.Bd,h1.A7,hd1,Sem.run_pure,Bool.false_eq_true,if_false,hlr,hle,if_true,Bool.not_false,hnr,addr_add]
                               rw [show L.off+o+sl * j.size=L.off+(o+sl * j.size) from by omega,e1];rfl)
                        · cases h
                      · split at h
                        · rename_i hcnd
                          simp only [Bool.and_eq_true] at hcnd
                          have q1:=Nat.eq_of_beq_eq_true hcnd.1
                          have q2:=hcnd.2
                          cases h
                          have hib:top≠b:=fun e=>by subst e;rw [htop _ (Nat.le_refl _)] at hL;cases hL
                          have hold:Co hp j.size sl (.slice (some ⟨b,o,none⟩) sl c)=some (vs.drop o):=by
                            have hl:((vs.drop o).take (sl * j.size))=vs.drop o:=List.take_of_length_le (by simp;omega)
                            simp only [Co,hb,hl]
                            have:Nat.beq (vs.drop o).length (sl * j.size)=true:=by simp;omega
                            rw [this]
                          by_cases hle:sl+n≤c'
                          · -- in place
                            obtain ⟨w',f1,f2,f3,f4,f5,f6,f7⟩:=E1 P L.BT (L.off+(o+sl * j.size)) ty fz (hfz.1 rfl) new' 0 w cc hg (by
                              rw [hnv.length,c3',hsz]
                              have:(sl+n) * L.CA≤c' * L.CA:=Nat.mul_le_mul_right _ hle
                              rw [←he,hesz',Nat.add_mul] at this
                              rw [←he,hesz'] at hlim;omega) (by rw [JE hnv];exact c2)
                            refine ⟨.slice (some ⟨L.BT,L.off+o,none⟩) (sl+n) c',w',φ.ext top ⟨L.BT,L.off+o,CA,L.PY⟩, ?_,⟨Ren.EZ (htop _ (Nat.le_refl _)), ?_, ?_, ?_,fun j hj=>Ren.J3 (htop j (by omega)) (by omega)⟩⟩
                            cases hd1:i1.ud <;> first
                              |exact absurd hd1 (hdn _)
                              | (simp only [Builtin.append_,a0,a1,b0,b1,Sem.run_bind,h0.A7,hud,Result.andThen_ok,htj.Bd,h1.A7,hd1,Sem.run_pure,Bool.false_eq_true,if_false,hlr,hle,if_true,Bool.not_false,hnr,addr_add]
                                 rw [show L.off+o+sl * j.size=L.off+(o+sl * j.size) from by omega,f1];rfl)
                            · refine .slice top 0 _ _ _ _ (Ren.A9 ..) (Nat.le_refl _) hle ?_
                              show L.off+o+0+c' * CA≤L.PY
                              rw [he];exact hlim
                            · have hm:=H.move top b _ (.cells true CA (vs.drop o ++ new)) L ⟨L.BT,L.off+o,CA,L.PY⟩ hb rfl hL (htop _ (Nat.le_refl _)) rfl f3 f4 (by
                                refine ⟨hel,_,ty,fz,f2, ?_, ?_, ?_,⟨hfz.1,(fun h=>by cases h),fun _ h=>absurd h (by have:=htj.small;rw [hesz'];omega)⟩⟩
                                · have:(A1 cc.toList (L.off+(o+sl * j.size)+0) new').length=cc.toList.length:=Dw (by
                                    rw [hnv.length,c3',Array.length_toList,hsz]
                                    have:(sl+n) * L.CA≤c' * L.CA:=Nat.mul_le_mul_right _ hle
                                    rw [←he,hesz',Nat.add_mul] at this
                                    rw [←he,hesz'] at hlim;omega)
                                  simpa [hsz] using this
                                · simp only [List.length_append,List.length_drop]
                                  rw [c3']
                                  have:(sl+n) * L.CA≤c' * L.CA:=Nat.mul_le_mul_right _ hle
                                  rw [←he,hesz',Nat.add_mul] at this
                                  rw [←he,hesz'] at hlim;omega
                                · have hsp:((A1 cc.toList (L.off+(o+sl * j.size)+0) new').drop (L.off+o)).take (vs.drop o ++ new).length=((cc.toList.drop L.off).take vs.length).drop o ++ new':=by
                                    have hnl:=hnv.length
                                    have hcl:cc.toList.length=L.PY:=by simpa using hsz
                                    apply List.ext_getElem?
                                    intro q
                                    unfold A1
                                    simp only [List.getElem?_take,List.getElem?_drop,List.getElem?_append,List.length_append,List.length_take,List.length_drop,hcl,hnl,Nat.add_zero]
                                    repeat' split
                                    all_goals first
                                      |omega
                                      |rfl
                                      | (congr 1;omega)
                                      | (rw [List.getElem?_eq_none (by omega)];done)
                                      | (symm;rw [List.getElem?_eq_none (by omega)];done)
                                  rw [hsp]
                                  exact ((hvs.drop o).append hnv).mono (Ren.EZ (htop _ (Nat.le_refl _))))
                              refine hm.sub fun k ok hk=> ?_
                              simp only [Hp.Ac,Hp.set] at hk
                              split at hk
                              · rename_i hkt;simp only [hkt,if_true];exact hk
                              · rename_i hkt;simp only [hkt,if_false];exact hk
                            · exact ⟨by omega,fun k hk hn=>f4 k fun e=>hn (by subst e;exact H.D0 b _ L hb rfl hL),f5,f6,f7⟩
                          · -- new memory
                            obtain ⟨old',o1d,o2⟩:=IK (P:=P) H hold (.slice _ _ _ _ _ L hL hnc hcc hlim)
                            have o1:=o1d w.drawn
                            obtain ⟨cap,extra,g1,g2,g3⟩:=HQ (r:=r) h0 hud h1 hni htj hlr hnr o1 c1' q2 hle o1d hnrd
                            obtain ⟨L2,k1,k2,k3,k4,k5,k6,k7,k8,k9⟩:=E5 H htop (o2.append hnv) CA e extra (w.drawn+1) (fun h=>absurd h (by have:=htj.small;rw [hesz'];omega))
                            rw [GX (by rw [hesz'];exact htj.small)] at k3
                            refine ⟨.slice (some ⟨L2.BT,L2.off+0,none⟩) (sl+n) cap,_,_, ?_,⟨k5, .slice _ _ _ _ _ L2 k6 (Nat.le_refl _) (by omega) ?_, ?_,k8,k9⟩⟩
                            · rw [show (⟨[t0,t1]⟩:Array TypeId)= #[t0,t1] from rfl,g3,k1,k2]
                            · rw [k2,k3,k4,g2,hesz']
                              simp only [List.length_append,List.length_drop]
                              rw [c3']
                              have:(sl+n) * j.size+(cap - (sl+n)) * j.size=cap * j.size:=by rw [←Nat.add_mul];congr 1;omega
                              rw [Nat.add_mul] at this
                              omega
                            · refine k7.sub fun k ok hk=> ?_
                              simp only [Hp.Ac,Hp.set] at hk ⊢
                              split at hk
                              · rename_i hkt;simp only [hkt,if_true];exact hk
                              · rename_i hkt;simp only [hkt,if_false]
                                split at hk
                                · cases hk
                                · exact hk
                        · cases h
                  · cases h
                · cases h
        · cases h
    · cases h
  · cases h
end
end Go.Dm
namespace Go.Dm
theorem Es.set {φ:Ren}:∀ {l l':List MapEntry} (j:Nat) {e e':MapEntry},Es φ l l'→EV φ e e'→Es φ (l.set j e) (l'.set j e')
 |_,_,_,_,_, .nil,_=>by simp;exact .nil
 |_,_,0,_,_, .cons _ _ _ _ _ hl,he=>by simp only [List.set_cons_zero];exact .cons _ _ _ _ he hl
 |_,_,j+1,_,_, .cons _ _ _ _ h hl,he=>by simp only [List.set_cons_succ];exact .cons _ _ _ _ h (Es.set j hl he)
theorem Es.erase {φ:Ren}:∀ {l l':List MapEntry} (j:Nat),Es φ l l'→Es φ (l.eraseIdx j) (l'.eraseIdx j)
 |_,_,_, .nil=>by simp;exact .nil
 |_,_,0, .cons _ _ _ _ _ hl=>by simp only [List.eraseIdx_cons_zero];exact hl
 |_,_,j+1, .cons _ _ _ _ h hl=>by simp only [List.eraseIdx_cons_succ];exact .cons _ _ _ _ h (Es.erase j hl)
theorem Es.snoc {φ:Ren}:∀ {l l':List MapEntry} {e e':MapEntry},Es φ l l'→EV φ e e'→Es φ (l ++ [e]) (l' ++ [e'])
 |_,_,_,_, .nil,he=> .cons _ _ _ _ he .nil
 |_,_,_,_, .cons _ _ _ _ h hl,he=> .cons _ _ _ _ h (Es.snoc hl he)
theorem Es.get{φ:Ren}:∀ {l l':List MapEntry}{j:Nat}{e:MapEntry},Es φ l l'→l[j]? = some e→∃e',l'[j]? = some e'∧EV φ e e'
 |_,_,_,_, .nil,h=>by simp at h
 |_,_,0,_, .cons _ e' _ _ h _,hh=>by simp at hh;subst hh;exact⟨e',by simp,h⟩
 |_,_,j+1,_, .cons _ _ _ _ _ hl,hh=>by simp at hh ⊢;exact Es.get hl hh
section
variable{P:Program}{tt:AM} (htt:Cy P tt){φ:Ren}{own:Nat→Prop}{hp:Hp}{w:World} (H:HR φ own hp w){top top':Nat} (htop:∀j,top≤j→φ j=none){v:Value}{us:A6}
include htt H htop
theorem Pm {ts:List TypeId}{r:TypeId}{d x d' x':Value}(h:Su tt hp ts d x=some (v,us))(hd:V φ d d')(hx:V φ x x') :
  ∃v' w' φ',(Builtin.copy_ ⟨ts⟩ r #[d',x']).run P w= .ok v' w'∧E8 φ own w v (hp.Ac us) top v' w' φ':=by
 unfold Su at h
 split at h
 ·rename_i t0 ts
  have a0:(⟨t0 :: ts⟩:Array TypeId)[0]? = some t0:=rfl
  split at h
  ·rename_i i base dl c sl hi hsl
   have h0:=htt _ _ hi
   split at h
   ·rename_i e hud
    split at h
    ·cases h
    ·rename_i j hj
     have htj:=htt _ _ hj
     split at h
     ·cases h
     ·rename_i new hnew
      obtain ⟨new',hnr,hnv⟩:=da (P:=P) H hnew hx
      have hlr:=Q5 (P:=P) w hsl hx
      split at h
      ·cases h
       cases hd
       refine ⟨.int .i64 (Int.ofNat (Nat.min sl 0)),w,φ, ?_,⟨Ren.le_refl _, .int _ _,H,K.refl _ _,htop⟩⟩
       have b0:(#[Value.slice none 0 0,x'] :Array Value)[0]? = some (.slice none 0 0):=rfl
       have b1:(#[Value.slice none 0 0,x'] :Array Value)[1]? = some x':=rfl
       simp only [Builtin.copy_,a0,b0,b1,Sem.run_bind,h0.A7,hud,Result.andThen_ok,hlr,htj.Bd,hnr,Sem.run_pure]
       rfl
      ·rename_i b o
       split at h
       ·rename_i CA vs hb
        split at h
        ·rename_i hc
         cases h
         simp only [Bool.and_eq_true] at hc
         have hc1:=Nat.le_of_ble_eq_true hc.1
         cases hd with
         |slice _ _ _ _ c' L hL hn hcc hlim=>
         obtain ⟨w',e1,e2,e3⟩:=Fv (P:=P) H hb hL hnv hc1 hc.2
         refine ⟨.int .i64 (Int.ofNat (Nat.min sl dl)),w',φ, ?_,⟨Ren.le_refl _, .int _ _,e2,e3,htop⟩⟩
         have b0:(#[Value.slice (some ⟨L.BT,L.off+o,none⟩) dl c',x'] :Array Value)[0]? = some (.slice (some ⟨L.BT,L.off+o,none⟩) dl c'):=rfl
         have b1:(#[Value.slice (some ⟨L.BT,L.off+o,none⟩) dl c',x'] :Array Value)[1]? = some x':=rfl
         simp only [Builtin.copy_,a0,b0,b1,Sem.run_bind,h0.A7,hud,Result.andThen_ok,hlr,htj.Bd,hnr,e1,Sem.run_pure]
         rfl
        ·cases h
       ·cases h
      ·cases h
   ·cases h
  ·cases h
 ·cases h
theorem gm {ts:List TypeId}{r:TypeId}{x x':Value}(h:Nx tt hp ts x=some us)(hx:V φ x x') :
  ∃w' φ',(Builtin.clear_ ⟨ts⟩ r #[x']).run P w= .ok undef w'∧E8 φ own w undef (hp.Ac us) top undef w' φ':=by
 unfold Nx at h
 split at h
 ·rename_i t0 ts
  have a0:(⟨t0 :: ts⟩:Array TypeId)[0]? = some t0:=rfl
  have b0:(#[x'] :Array Value)[0]? = some x':=rfl
  have nop:E8 φ own w undef (hp.Ac []) top undef w φ:=⟨Ren.le_refl _, .tuple _ _ .nil,H,K.refl _ _,htop⟩
  split at h
  ·rename_i i hi
   cases h;cases hx
   refine ⟨w,φ, ?_,nop⟩
   simp only [Builtin.clear_,a0,b0,Sem.run_bind,(htt _ _ hi).A7,Result.andThen_ok,Sem.run_pure]
   rfl
  ·rename_i i n c hi
   cases h;cases hx
   refine ⟨w,φ, ?_,nop⟩
   simp only [Builtin.clear_,a0,b0,Sem.run_bind,(htt _ _ hi).A7,Result.andThen_ok,Sem.run_pure]
   rfl
  ·rename_i i b o n c hi
   cases hx with
   |slice _ _ _ _ c' L hL hn hcc hlim=>
   split at h
   ·rename_i h0
    have:=Nat.eq_of_beq_eq_true h0
    subst this
    cases h
    refine ⟨w,φ, ?_,nop⟩
    simp only [Builtin.clear_,a0,b0,Sem.run_bind,(htt _ _ hi).A7,Result.andThen_ok,Sem.run_pure]
    rfl
   ·rename_i h0
    have hne:n≠0:=fun e=>by subst e;simp at h0
    split at h
    ·rename_i e hud
     split at h
     ·rename_i j CA vs hj hb
      have htj:=htt _ _ hj
      split at h
      ·rename_i hc
       cases h
       simp only [Bool.and_eq_true] at hc
       have hc1:=Nat.le_of_ble_eq_true hc.1
       have hz:Vs φ (E2 j n) (Builtin.zeroCells j.zero.cells n).toList:=by
        unfold Builtin.zeroCells
        rw [HD _ _ _ rfl,Du]
        exact Vs.flatten (F1 (DG _ _ htj.plain))
       obtain ⟨w',e1,e2,e3⟩:=Fv (P:=P) H hb hL hz (by rw [Eo htj];exact hc1) hc.2
       refine ⟨w',φ, ?_,⟨Ren.le_refl _, .tuple _ _ .nil,e2,e3,htop⟩⟩
       obtain ⟨n,rfl⟩:∃m,n=m+1:=⟨n - 1,by omega⟩
       have b0:(#[Value.slice (some ⟨L.BT,L.off+o,none⟩) (n+1) c'] :Array Value)[0]? = some (.slice (some ⟨L.BT,L.off+o,none⟩) (n+1) c'):=rfl
       simp only [Builtin.clear_,a0,b0,Sem.run_bind,(htt _ _ hi).A7,Result.andThen_ok,Sem.run_pure,hud,htj.Ek,e1]
       rfl
      ·cases h
     ·cases h
    ·cases h
  ·cases h
 ·cases h
theorem K8 {b:Nat}{es:List MapEntry}{CG:Nat}{L:Loc}(hb:hp b=some (.map es CG))(hL:φ b=some L){es2:List MapEntry}{es2':Array MapEntry}{clk2:Nat}(he:Es φ es2 es2'.toList) :
  ∃w',(setObj L.BT (.map es2' clk2)).run P w= .ok () w'∧E8 φ own w undef (hp.Ac [(b,some (.map es2 clk2))]) top undef w' φ:=by
 have _:=htt
 obtain ⟨L',hL',hok⟩:=H.obj _ _ hb
 rw [hL] at hL';cases hL'
 obtain ⟨es',hg,_⟩:=hok
 refine ⟨{w with heap:=w.heap.setIfInBounds L.BT (.map es2' clk2)}, ?_,⟨Ren.le_refl _, .tuple _ _ .nil, ?_, ?_,htop⟩⟩
 ·simp only [setObj,Sem.run,hg]
 ·have hlt:=H.val b L hL
  refine H.put b _ (.map es2 clk2) L hb rfl hL (by simp) (fun k hk=>by simp [Ne.symm hk]) ⟨es2', ?_,he⟩
  simp [hlt]
 ·exact ⟨by simp,fun k hk hn=>by
   have:k≠L.BT:=fun e=>hn (by subst e;exact H.D0 b _ L hb rfl hL)
   simp [Ne.symm this],rfl,rfl,rfl⟩
theorem TL {t:TypeId}{m k x m' k' x':Value}(h:ET tt hp t m k x=some us)(hm:V φ m m')(hk:V φ k k')(hx:V φ x x') :
  ∃w' φ',(Instr.mapUpdate t m' k' x').run P w= .ok () w'∧E8 φ own w undef (hp.Ac us) top undef w' φ':=by
 unfold ET at h
 split at h
 ·rename_i i b hi
  have ht:=htt _ _ hi
  split at h
  ·rename_i kt et es CG hud hb
   split at h
   ·rename_i ki hkt hkey
    cases hm with
    |map _ L hL=>
    obtain ⟨L',hL',hok⟩:=H.obj _ _ hb
    rw [hL] at hL';cases hL'
    obtain ⟨es',hg,he⟩:=hok
    have hget:(getObj L.BT).run P w= .ok (.map es' CG) w:=by simp only [getObj,Sem.run,hg]
    split at h
    ·rename_i j v0 hf
     obtain ⟨r',hr,hfr⟩:=FY htt (htt _ _ hkt) w hk hf he
     cases hr with
     |some _ _ v0' hv=>
     split at h
     ·rename_i e0 he0
      split at h
      ·rename_i hc
       cases h
       simp only [Bool.and_eq_true] at hc
       obtain ⟨⟨p1,p2⟩,p3⟩:=hc
       obtain ⟨e0',hj,hev⟩:=Es.get he he0
       have q1:=XB 8 p1 hk
       have q2:=XB 8 p2 hev.key
       obtain ⟨w',g1,g2⟩:=K8 (P:=P) htt H htop hb hL (es2:=es.set j {e0 with key:=k,val:=x}) (es2':=es'.modify j fun e=> {e with key:=k',val:=x'}) (clk2:=CG) (by
        have:(es'.modify j fun e=> {e with key:=k',val:=x'}).toList=es'.toList.set j {e0' with key:=k',val:=x'}:=by
         apply List.ext_getElem?
         intro q
         simp only [Array.toList_modify,List.getElem?_modify,List.getElem?_set]
         by_cases hjq:j=q
         ·subst hjq
          have hlt:j < es'.toList.length:=by
           rcases Nat.lt_or_ge j es'.toList.length with h | h
           ·exact h
           ·rw [List.getElem?_eq_none h] at hj;cases hj
          simp only [if_true,hj,hlt];rfl
         ·simp [hjq]
        rw [this]
        exact Es.set j he ⟨hk,hx,hev.born⟩)
       refine ⟨w',φ, ?_,g2⟩
       have hjj:es'[j]? = some e0':=by simpa using hj
       have hkeep:(Instr.keyThatStays (((es'[j]?).map (·.key)).getD k') k').run P w= .ok k' w:=by
        rw [hjj]
        simp only [Option.map_some,Option.getD_some,Instr.keyThatStays,q1,q2,p3,if_true,Sem.run_pure]
       simp only [Instr.mapUpdate,Sem.run_bind,ht.A7,Result.andThen_ok,hud,hget,I9 htt _ w hkey hk,hfr,hkeep,g1]
      ·cases h
     ·cases h
    ·rename_i hf
     obtain ⟨r',hr,hfr⟩:=FY htt (htt _ _ hkt) w hk hf he
     cases hr
     cases h
     obtain ⟨w',g1,g2⟩:=K8 (P:=P) htt H htop hb hL (es2:=es ++ [{key:=k,val:=x,born:=CG}]) (es2':=es'.push {key:=k',val:=x',born:=CG}) (clk2:=CG+1) (by
      rw [Array.toList_push];exact Es.snoc he ⟨hk,hx,rfl⟩)
     refine ⟨w',φ, ?_,g2⟩
     simp only [Instr.mapUpdate,Sem.run_bind,ht.A7,Result.andThen_ok,hud,hget,I9 htt _ w hkey hk,hfr,g1]
    ·cases h
   ·cases h
  ·cases h
 ·cases h
theorem dK {ts:List TypeId}{r:TypeId}{m k m' k':Value}(h:Kp tt hp ts m k=some us)(hm:V φ m m')(hk:V φ k k') :
  ∃w' φ',(Builtin.delete_ ⟨ts⟩ r #[m',k']).run P w= .ok undef w'∧E8 φ own w undef (hp.Ac us) top undef w' φ':=by
 unfold Kp at h
 split at h
 ·rename_i t0 ts
  have a0:(⟨t0 :: ts⟩:Array TypeId)[0]? = some t0:=rfl
  have b0:(#[m',k'] :Array Value)[0]? = some m':=rfl
  have b1:(#[m',k'] :Array Value)[1]? = some k':=rfl
  split at h
  ·rename_i i hi
   split at h
   ·rename_i kt et hud
    split at h
    ·rename_i hkey
     cases h;cases hm
     refine ⟨w,φ, ?_,⟨Ren.le_refl _, .tuple _ _ .nil,H,K.refl _ _,htop⟩⟩
     simp only [Builtin.delete_,a0,b0,b1,Sem.run_bind,(htt _ _ hi).A7,hud,Result.andThen_ok,I9 htt _ w hkey hk,Sem.run_pure]
     rfl
    ·cases h
   ·cases h
  ·rename_i i b hi
   split at h
   ·rename_i kt et es CG hud hb
    split at h
    ·rename_i ki hkt hkey
     cases hm with
     |map _ L hL=>
     obtain ⟨L',hL',hok⟩:=H.obj _ _ hb
     rw [hL] at hL';cases hL'
     obtain ⟨es',hg,he⟩:=hok
     have hget:(getObj L.BT).run P w= .ok (.map es' CG) w:=by simp only [getObj,Sem.run,hg]
     have b0:(#[Value.map (some L.BT),k'] :Array Value)[0]? = some (.map (some L.BT)):=rfl
     have b1:(#[Value.map (some L.BT),k'] :Array Value)[1]? = some k':=rfl
     split at h
     ·rename_i j v0 hf
      obtain ⟨r',hr,hfr⟩:=FY htt (htt _ _ hkt) w hk hf he
      cases hr with
      |some _ _ v0' hv=>
      cases h
      obtain ⟨w',g1,g2⟩:=K8 (P:=P) htt H htop hb hL (es2':=es'.eraseIdxIfInBounds j) (clk2:=CG) (by
       have:(es'.eraseIdxIfInBounds j).toList=es'.toList.eraseIdx j:=by simp
       rw [this];exact Es.erase j he)
      refine ⟨w',φ, ?_,g2⟩
      simp only [Builtin.delete_,a0,b0,b1,Sem.run_bind,(htt _ _ hi).A7,hud,Result.andThen_ok,hget,I9 htt _ w hkey hk,hfr,g1,Sem.run_pure]
      rfl
     ·rename_i hf
      obtain ⟨r',hr,hfr⟩:=FY htt (htt _ _ hkt) w hk hf he
      cases hr
      cases h
      obtain ⟨w',g1,g2⟩:=K8 (P:=P) htt H htop hb hL (es2':=es') (clk2:=CG) he
      refine ⟨w',φ, ?_,g2⟩
      simp only [Builtin.delete_,a0,b0,b1,Sem.run_bind,(htt _ _ hi).A7,hud,Result.andThen_ok,hget,I9 htt _ w hkey hk,hfr,g1,Sem.run_pure]
      rfl
     ·cases h
    ·cases h
   ·cases h
  ·cases h
 ·cases h
end
end Go.Dm
namespace Go.Dm
def Fz (tt:AM)(ev:Operand→Option Value)(hp:Hp)(top:Nat)(op:Op):Option (Value×A6×Nat):=
 match op with
 | .alloc t=>Io tt top t
 | .box _ x=>match ev x with
  |some v=>some (gb top v)
  |none=>none
 | .buildSlice t n ps=>Ch tt ev top t n ps
 | .store t a x=>match ev a,ev x,tt t with
  |some (.pointer (some ⟨b,o,none⟩)),some v,some i=>match JM i hp b o v with
   |some us=>some (undef,us,top)
   |none=>none
  |_,_,_=>none
 | .makeMap t none=>DW tt top t none
 | .makeMap t (some r)=>match ev r with
  |some v=>DW tt top t (some v)
  |none=>none
 | .makeSlice t l c=>match ev l,ev c with
  |some a,some b=>Di tt top t a b
  |_,_=>none
 | .mapUpdate t m k x=>match ev m,ev k,ev x with
  |some a,some b,some c=>match ET tt hp t a b c with
   |some us=>some (undef,us,top)
   |none=>none
  |_,_,_=>none
 | .insert t m k x=>match ev m,ev k,ev x with
  |some a,some b,some c=>match ET tt hp t a b c with
   |some us=>some (undef,us,top)
   |none=>none
  |_,_,_=>none
 | .call {callee:= .builtin .append,args,argTypes}=>match args.toList with
  | [s,x]=>match ev s,ev x with
   |some a,some b=>AK tt hp top argTypes.toList a b
   |_,_=>none
  |_=>none
 | .call {callee:= .builtin .copy,args,argTypes}=>match args.toList with
  | [s,x]=>match ev s,ev x with
   |some a,some b=>match Su tt hp argTypes.toList a b with
    |some (v,us)=>some (v,us,top)
    |none=>none
   |_,_=>none
  |_=>none
 | .call {callee:= .builtin .clear,args,argTypes}=>match args.toList with
  | [s]=>match ev s with
   |some a=>match Nx tt hp argTypes.toList a with
    |some us=>some (undef,us,top)
    |none=>none
   |_=>none
  |_=>none
 | .call {callee:= .builtin .delete,args,argTypes}=>match args.toList with
  | [s,x]=>match ev s,ev x with
   |some a,some b=>match Kp tt hp argTypes.toList a b with
    |some us=>some (undef,us,top)
    |none=>none
   |_,_=>none
  |_=>none
 |_=>none
def Ends(n:Next)(v':Value):Prop:=n= .value v'∨(n= .skip∧v' = undef)
theorem Ks{α β γ:Type}{A B C:α→β→γ→Prop}(h:∃x y z,A x y z∧B x y z∧C x y z):∃x y z,A x y z∧B x y z:=by
 obtain⟨x,y,z,h1,h2,_⟩:=h
 exact⟨x,y,z,h1,h2⟩
theorem Zo {P:Program}{tt:AM}(htt:Cy P tt){φ:Ren}{own:Nat→Prop}{hp:Hp}{w:World}(H:HR φ own hp w){top top':Nat}(htop:∀j,top≤j→φ j=none){v:Value}{us:A6}
  {ev:Operand→Option Value} {ρ:Operand→Value} (hev:∀x v,ev x=some v→V φ v (ρ x)) {o:Oper} (h:Fz tt ev hp top o.op=some (v,us,top')) :
  ∃n v' w' φ',(execOp ρ o).run P w= .ok n w'∧Ends n v'∧E8 φ own w v (hp.Ac us) top' v' w' φ':=by
 obtain ⟨dst,op,ty,pos,after,guard⟩:=o
 dsimp only at h
 have sv:∀ {s:Sem Value},(∃v' w' φ',s.run P w= .ok v' w'∧E8 φ own w v (hp.Ac us) top' v' w' φ')→
   ∃n v' w' φ',(do pure (Next.value (←s)):Sem Next).run P w= .ok n w'∧Ends n v'∧E8 φ own w v (hp.Ac us) top' v' w' φ':=by
  rintro s ⟨v',w',φ',hs,hw⟩
  exact ⟨.value v',v',w',φ',by simp only [Sem.run_bind,hs,Result.andThen_ok,Sem.run_pure], .inl rfl,hw⟩
 have su:∀ {s:Sem Unit},v=undef→(∃w' φ',s.run P w= .ok () w'∧E8 φ own w undef (hp.Ac us) top' undef w' φ')→
   ∃n v' w' φ',(do s;pure Next.skip:Sem Next).run P w= .ok n w'∧Ends n v'∧E8 φ own w v (hp.Ac us) top' v' w' φ':=by
  rintro s rfl ⟨w',φ',hs,hw⟩
  exact ⟨.skip,undef,w',φ',by simp only [Sem.run_bind,hs,Result.andThen_ok,Sem.run_pure], .inr ⟨rfl,rfl⟩,hw⟩
 have sb:∀ {b:Builtin} {args:List Operand} {ats:List TypeId} {s:Sem Value},(∀cs,builtin b ⟨ats⟩ ty cs ⟨args.map ρ⟩=(do pure (Next.value (←s)):Sem Next))→
   (∃v' w' φ',s.run P w= .ok v' w'∧E8 φ own w v (hp.Ac us) top' v' w' φ')→
   ∃n v' w' φ',(execOp ρ ⟨dst, .call {callee:= .builtin b,args:=⟨args⟩,argTypes:=⟨ats⟩},ty,pos,after,guard⟩).run P w= .ok n w'∧Ends n v'∧E8 φ own w v (hp.Ac us) top' v' w' φ':=by
  rintro b args ats s hb hs
  obtain ⟨n,v',w',φ',h1,h2,h3⟩:=sv hs
  refine ⟨n,v',w',φ', ?_,h2,h3⟩
  simp only [execOp,resolve,Sem.run_bind,Sem.run_pure,Result.andThen_ok,invoke,List.map_toArray]
  rw [hb];simp only [Sem.run_bind] at h1 ⊢;exact h1
 unfold Fz at h
 split at h
 ·exact sv (Ks (V3 htt H htop h))
 ·rename_i t x
  split at h
  ·rename_i a ha
   cases h
   exact sv (Ks (TP htt H htop (hev _ _ ha) t))
  ·cases h
 ·exact sv (Ks (LM htt H htop hev h))
 ·rename_i t a x
  split at h
  ·rename_i b ofs u i ha hx hi
   split at h
   ·rename_i us' hs
    cases h
    refine su rfl ?_
    have hva:=hev _ _ ha
    generalize ρ a=ra at hva
    cases hva with
    |ptr _ _ L hL=>
    obtain ⟨w',h1,h2⟩:=lJ htt H htop hi hs hL (hev _ _ hx)
    exact ⟨w',φ,by simp only [Instr.storeAt,Instr.sureAddr,Sem.run_bind,Sem.run_pure,Result.andThen_ok];exact h1,h2⟩
   ·cases h
  ·cases h
 ·exact sv (Ks (JD htt H htop .none h))
 ·split at h
  ·rename_i r a ha;exact sv (Ks (JD htt H htop (.some _ _ (hev _ _ ha)) h))
  ·cases h
 ·split at h
  ·rename_i a b ha hb;exact sv (Ks (ND htt H htop (hev _ _ ha) (hev _ _ hb) h))
  ·cases h
 ·split at h
  ·rename_i a b c ha hb hc
   split at h
   ·rename_i us' hs
    cases h
    exact su rfl (TL htt H htop hs (hev _ _ ha) (hev _ _ hb) (hev _ _ hc))
   ·cases h
  ·cases h
 ·split at h
  ·rename_i a b c ha hb hc
   split at h
   ·rename_i us' hs
    cases h
    exact su rfl (TL htt H htop hs (hev _ _ ha) (hev _ _ hb) (hev _ _ hc))
   ·cases h
  ·cases h
 ·rename_i args ats
  obtain ⟨args⟩:=args
  obtain ⟨ats⟩:=ats
  split at h
  ·rename_i s x he
   dsimp only at he;subst he
   split at h
   ·rename_i a b ha hb
    exact sb (fun _=>rfl) (cz htt H htop h (hev _ _ ha) (hev _ _ hb))
   ·cases h
  ·cases h
 ·rename_i args ats
  obtain ⟨args⟩:=args
  obtain ⟨ats⟩:=ats
  split at h
  ·rename_i s x he
   dsimp only at he;subst he
   split at h
   ·rename_i a b ha hb
    split at h
    ·rename_i u us' hs
     cases h
     exact sb (fun _=>rfl) (Pm htt H htop hs (hev _ _ ha) (hev _ _ hb))
    ·cases h
   ·cases h
  ·cases h
 ·rename_i args ats
  obtain ⟨args⟩:=args
  obtain ⟨ats⟩:=ats
  split at h
  ·rename_i s he
   dsimp only at he;subst he
   split at h
   ·rename_i a ha
    split at h
    ·rename_i us' hs
     cases h
     obtain ⟨w',φ',h1,h2⟩:=gm htt H htop (r:=ty) hs (hev _ _ ha)
     exact sb (fun _=>rfl) ⟨_,w',φ',h1,h2⟩
    ·cases h
   ·cases h
  ·cases h
 ·rename_i args ats
  obtain ⟨args⟩:=args
  obtain ⟨ats⟩:=ats
  split at h
  ·rename_i s x he
   dsimp only at he;subst he
   split at h
   ·rename_i a b ha hb
    split at h
    ·rename_i us' hs
     cases h
     obtain ⟨w',φ',h1,h2⟩:=dK htt H htop (r:=ty) hs (hev _ _ ha) (hev _ _ hb)
     exact sb (fun _=>rfl) ⟨_,w',φ',h1,h2⟩
    ·cases h
   ·cases h
  ·cases h
 ·cases h
noncomputable def Yg {α β:Type}(l:List α):(List α→β)→β:=List.rec (fun K=>K []) (fun x _ ih K=>ih fun l'=>K (x :: l')) l
theorem de {α β:Type}(l:List α)(K:List α→β):Yg l K=K l:=by
 induction l generalizing K with
 |nil=>rfl
 |cons x l ih=>show Yg l (fun l'=>K (x :: l'))=_;rw [ih]
noncomputable def evA (fr:T Value)(x:Operand):Option Value:=
 match x with
 | .tmp t=>fr.get t
 | .const v=>match plain 3 v with
  |true=>some v
  |false=>none
 | .global _=>none
 | .func f=>some (.func (.func f) ⟨[]⟩ ⟨[]⟩)
abbrev Callee:=FuncId→List Value→T A8→Nat→Option (Value×T A8×Nat)
def tN (P:Program)(cl:Callee):Prop:= ∀f args hp top v hp' top',cl f args hp top=some (v,hp',top')→
 ∀φ own w args',Vs φ args args'→HR φ own hp.get w→(∀j,top≤j→φ j=none)→
  Calls P f ⟨args'⟩ w fun e w'=> ∃v' φ',e= .returned v'∧E8 φ own w v hp'.get top' v' w' φ'
def IM:Op→Bool
 | .alloc _ | .box _ _ | .buildSlice _ _ _ | .store _ _ _ | .makeMap _ _ | .makeSlice _ _ _ | .mapUpdate _ _ _ _ | .insert _ _ _ _=>true
 | .call {callee:= .builtin .append, ..} | .call {callee:= .builtin .copy, ..} | .call {callee:= .builtin .clear, ..} | .call {callee:= .builtin .delete, ..}=>true
 | .call {callee:= .value _, ..}=>true
 |_=>false
def tv (P:Program)(ev:Operand→Option Value)(hp:T A8)(top:Nat)(o:Oper)(v:Value)(hp':T A8)(top':Nat):Prop:=
 ∀(φ:Ren) (own:Nat→Prop) (a:Act) (w:World) (K:Act→World→Prop) (Q:Exit→Act→World→Prop),
  (∀x u,ev x=some u→V φ u (a.eval x))→HR φ own hp.get w→(∀j,top≤j→φ j=none)→
  (∀v' w' φ',E8 φ own w v hp'.get top' v' w' φ'→K (a.put o.dst v') w')→o.wp P a w K Q
structure FTOk(P:Program)(f:FuncId)(fn:Func):Prop where
 at_:P.funcs[f]? = some fn
 name:(fn.name == "runtime.NumGoroutine")=false
 body:fn.body.isNone=false
def Br:Op→Bool
 | .alloc _ | .box _ _ | .buildSlice _ _ _ | .makeMap _ _ | .makeSlice _ _ _=>true
 |_=>false
theorem gR {P:Program}{tt:AM}(htt:Cy P tt){φ:Ren}{own:Nat→Prop}{hp:Hp}{w:World}(H:HR φ own hp w){top top':Nat}(htop:∀j,top≤j→φ j=none){v:Value}{us:A6}
  {ev:Operand→Option Value} {ρ:Operand→Value} (hev:∀x v,ev x=some v→V φ v (ρ x)) {o:Oper} (hal:Br o.op=true) (h:Fz tt ev hp top o.op=some (v,us,top')) :
  ∃v' w' L,(execOp ρ o).run P w= .ok (.value v') w'∧E8 φ own w v (hp.Ac us) top' v' w' (φ.ext top L):=by
 obtain ⟨dst,op,ty,pos,after,guard⟩:=o
 dsimp only at h hal
 have sv:∀ {s:Sem Value},(∃v' w' φ',s.run P w= .ok v' w'∧E8 φ own w v (hp.Ac us) top' v' w' φ'∧∃L,φ' = φ.ext top L)→
   ∃v' w' L,(do pure (Next.value (←s)):Sem Next).run P w= .ok (.value v') w'∧E8 φ own w v (hp.Ac us) top' v' w' (φ.ext top L):=by
  rintro s ⟨v',w',φ',hs,hw,L,rfl⟩
  exact ⟨v',w',L,by simp only [Sem.run_bind,hs,Result.andThen_ok,Sem.run_pure],hw⟩
 unfold Fz at h
 split at h
 all_goals first
  | (simp [Br] at hal;done)
  |skip
 ·exact sv (V3 htt H htop h)
 ·rename_i t x
  split at h
  ·rename_i a ha
   cases h
   exact sv (TP htt H htop (hev _ _ ha) t)
  ·cases h
 ·exact sv (LM htt H htop hev h)
 ·exact sv (JD htt H htop .none h)
 ·split at h
  ·rename_i r a ha;exact sv (JD htt H htop (.some _ _ (hev _ _ ha)) h)
  ·cases h
 ·split at h
  ·rename_i a b ha hb;exact sv (ND htt H htop (hev _ _ ha) (hev _ _ hb) h)
  ·cases h
 ·cases h
end Go.Dm
