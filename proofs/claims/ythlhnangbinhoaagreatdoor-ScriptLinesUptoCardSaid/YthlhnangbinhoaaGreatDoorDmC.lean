/- The abstract machine, a part of it: operations, regions, code and calls run over values with named blocks; each step is shown of the real run. -/
import Derived.Test.YthlhnangbinhoaaGreatDoorDmB
set_option linter.unusedSimpArgs false
set_option linter.unusedVariables false
namespace Go.Dm
theorem dF (need:Nat):∀(r c:Nat),c < need→Builtin.growBy need r c≤need+(need+768) / 4:=by
  intro r
  induction r with
  |zero=>intro c h;simp only [Builtin.growBy];omega
  |succ r ih=>
    intro c h
    simp only [Builtin.growBy]
    split
    · omega
    · by_cases h2:c+(c+768) / 4 < need
      · exact ih _ h2
      · cases r with
        |zero=>simp only [Builtin.growBy];omega
        |succ r=>simp only [Builtin.growBy];split <;> omega
theorem Yo {need Js:Nat}(h:Js < need):Builtin.nextslicecap need Js≤need+need / 4+705:=by
  unfold Builtin.nextslicecap
  split
  · omega
  · split
    · omega
    · have:=dF need 4 Js h;omega
theorem Y2 {d:TypeDesc}(h:EA d=false):∀k,d≠ .int k:=by
  intro k e;subst e;cases h
theorem Og (zero:Array Value)(n:Nat):(Builtin.zeroCells zero n).size=n * zero.size:=by simp [Builtin.zeroCells]
section
variable {P:Program} {tt:AO} (htt:Ck P tt) {φ:Ren} {own:Nat→Prop} {hp:Hp} {w:World} (H:HR φ own hp w) {top top':Nat} (htop:∀j,top≤j→φ j=none) {v:Value} {us:BI}
theorem Hu {t0 t1 e r:TypeId}{i i1 j:TI}{n sl c:Nat}{base:Option Addr}{x':Value}{Js new:List Value}
    (h0:BO P t0 i) (hud:i.ud= .slice e) (h1:BO P t1 i1) (hni:EA i1.ud=false) (hj:BO P e j)
    (hlen:(Builtin.lenOf x').run P w= .ok n w) (_hnew:(Builtin.firstCells j.size n x').run P w= .ok ⟨new⟩ w) (_hold:(Builtin.firstCells j.size sl (.slice base sl c)).run P w= .ok ⟨Js⟩ w)
    (hb:j.bytes≤65536) (hroom:C5 (sl+n) j.bytes=true) (hc:¬sl+n≤c) (hbase:∀d,(Builtin.firstCells j.size sl (.slice base sl c)).run P {w with drawn:=d} = .ok ⟨Js⟩ {w with drawn:=d})
    (hnewd:∀d,(Builtin.firstCells j.size n x').run P {w with drawn:=d} = .ok ⟨new⟩ {w with drawn:=d}) :
    ∃cap extra,sl+n≤cap∧extra.length=(cap - (sl+n)) * j.size∧(Builtin.append_ #[t0,t1] r #[.slice base sl c,x']).run P w =
      .ok (.slice (some ⟨w.heap.size,0,none⟩) (sl+n) cap) {w with heap:=w.heap.push (.cells ⟨(Js ++ new) ++ extra⟩ e),drawn:=w.drawn+1}:=by
  obtain ⟨y,hy,_,hyb,_⟩:=hj.info
  have hti:∀w,(typeInfo e).run P w= .ok y w:=fun w=>by simp [typeInfo,hy]
  have hneed:sl+n≤281474976710656∧(sl+n) * j.bytes≤140737488355328:=by
    simp only [C5,Bool.and_eq_true] at hroom
    exact ⟨Nat.le_of_ble_eq_true hroom.1,Nat.le_of_ble_eq_true hroom.2⟩
  obtain ⟨hneed,hneedB⟩:=hneed
  have hnc:=Yo (need:=sl+n) (Js:=c) (by omega)
  have hcap:¬(Builtin.nextslicecap (sl+n) c * y.bytes > 2 ^ 48):=by
    rw [hyb]
    have h1:=Nat.mul_le_mul_right j.bytes hnc
    have h2:(sl+n+(sl+n) / 4+705) * j.bytes=(sl+n) * j.bytes+(sl+n) / 4 * j.bytes+705 * j.bytes:=by rw [Nat.add_mul,Nat.add_mul]
    have h3:4 * ((sl+n) / 4 * j.bytes)≤(sl+n) * j.bytes:=by
      rw [←Nat.mul_assoc];exact Nat.mul_le_mul_right _ (by omega)
    have h4:705 * j.bytes≤705 * 65536:=Nat.mul_le_mul_left _ hb
    rw [h2] at h1
    generalize Builtin.nextslicecap (sl+n) c * j.bytes=A at *
    generalize (sl+n) / 4 * j.bytes=B at *
    generalize (sl+n) * j.bytes=M at *
    omega
  have hq:(Question.appendCap (sl+n) c e).forced=false:=rfl
  refine ⟨(Question.appendCap (sl+n) c e).cut (w.tape w.drawn (.appendCap (sl+n) c e)),(Builtin.zeroCells j.zero.cells ((Question.appendCap (sl+n) c e).cut (w.tape w.drawn (.appendCap (sl+n) c e)) - (sl+n))).toList, ?_, ?_, ?_⟩
  · simp only [Question.cut];omega
  · rw [Array.length_toList,Og,iv hj]
  · have a0:(#[t0,t1] :Array TypeId)[0]? = some t0:=rfl
    have a1:(#[t0,t1] :Array TypeId)[1]? = some t1:=rfl
    have b0:(#[Value.slice base sl c,x'] :Array Value)[0]? = some (.slice base sl c):=rfl
    have b1:(#[Value.slice base sl c,x'] :Array Value)[1]? = some x':=rfl
    have hm:¬((((sl+n:Nat):Int) > IntKind.i64.max)∧(False∨y.bytes=0)):=by
      intro h;have:=h.1
      simp only [IntKind.max,IntKind.signed,IntKind.bits,if_true] at this;omega
    have hd:=Y2 hni
    cases hd1:i1.ud <;> first
      |exact absurd hd1 (hd _)
      | (simp only [Builtin.append_,a0,a1,b0,b1,Sem.run_bind,h0.BC,hud,Result.andThen_ok,hj.Bq,h1.BC,hd1,Sem.run_pure,Bool.false_eq_true,if_false,hlen,if_neg hc]
         simp only [hti,Result.andThen_ok,Sem.run_ite,Bool.false_eq_true,if_neg hm,if_neg hcap,Sem.run_pure,Sem.run_bind,run_choose,hq,if_false,run_askRoom,hbase,hnewd,Bool.not_false,if_true,hj.Ep,newRow,run_newObj]
         congr 3
         simp)
include htt H htop
theorem cX {ts:List TypeId}{r:TypeId}{s x s' x':Value}(h:AM tt hp top ts s x=some (v,us,top'))(hs:V φ s s')(hx:V φ x x') :
    ∃v' w' φ',(Builtin.append_ ⟨ts⟩ r #[s',x']).run P w= .ok v' w'∧E9 φ own w v (hp.Av us) top' v' w' φ':=by
  unfold AM at h
  split at h
  · rename_i t0 t1
    split at h
    · rename_i i i1 n hi hi1 hn
      have h0:=htt _ _ hi
      have h1:=htt _ _ hi1
      split at h
      · cases h
      · rename_i hni
        split at h
        · rename_i e hud
          split at h
          · cases h
          · rename_i j hj
            have htj:=htt _ _ hj
            split at h
            · cases h
            · rename_i new hnew
              split at h
              · cases h
              · rename_i hcond
                simp only [Bool.and_eq_true] at hcond
                obtain ⟨⟨c1,c2⟩,c3⟩:=hcond
                have c1':=Nat.le_of_ble_eq_true c1
                have c3':=Nat.eq_of_beq_eq_true c3
                obtain ⟨new',hnrd,hnv⟩:=IK (P:=P) H hnew hx
                have hnr:=hnrd w.drawn
                have hlr:=Qq (P:=P) w hn hx
                have hdn:=Y2 hni
                split at h
                · -- a nil slice
                  cases hs
                  split at h
                  · rename_i h00
                    have h00':=Nat.eq_of_beq_eq_true h00
                    subst h00'
                    cases h
                    refine ⟨.slice none 0 0,w,φ, ?_,⟨Ren.le_refl _, .nils,H.sub (fun k ok hk=>by
                      simp only [Hp.Av,Hp.set] at hk
                      split at hk
                      · cases hk
                      · exact hk),K.refl _ _,fun j hj=>htop j (by omega)⟩⟩
                    have a0:(⟨[t0,t1]⟩:Array TypeId)[0]? = some t0:=rfl
                    have a1:(⟨[t0,t1]⟩:Array TypeId)[1]? = some t1:=rfl
                    have b0:(#[Value.slice none 0 0,x'] :Array Value)[0]? = some (.slice none 0 0):=rfl
                    have b1:(#[Value.slice none 0 0,x'] :Array Value)[1]? = some x':=rfl
                    cases hd1:i1.ud <;> first
                      |exact absurd hd1 (hdn _)
                      |simp only [Builtin.append_,a0,a1,b0,b1,Sem.run_bind,h0.BC,hud,Result.andThen_ok,htj.Bq,h1.BC,hd1,Sem.run_pure,Bool.false_eq_true,if_false,hlr,Nat.add_zero,Nat.le_refl,if_true,Bool.not_false,hnr]
                  · rename_i h00
                    have hne:n≠0:=fun e=>by subst e;simp at h00
                    split at h
                    · rename_i hle
                      cases h
                      obtain ⟨cap,extra,g1,g2,g3⟩:=Hu (r:=r) (base:=none) (sl:=0) (c:=0) (Js:= []) h0 hud h1 hni htj hlr hnr rfl c1' (by rw [Nat.zero_add];exact hle) (by omega) (fun _=>rfl) hnrd
                      obtain ⟨L,k1,k2,k3,k4,k5,k6,k7,k8,k9⟩:=FH H htop hnv j.size e extra (w.drawn+1) (fun h=>absurd h (by have:=htj.small;omega))
                      rw [Gu htj.small] at k3
                      refine ⟨.slice (some ⟨L.Bi,L.off+0,none⟩) n cap,_,_, ?_,⟨k5, .slice _ _ _ _ _ L k6 (Nat.le_refl _) (by omega) ?_,k7,k8,k9⟩⟩
                      · rw [g3,k1,k2];simp
                      · rw [k2,k3,k4,g2,c3',←Nat.add_mul]
                        have:n+(cap - (0+n))=cap:=by omega
                        rw [this];omega
                    · cases h
                · -- a slice that owns its cells
                  rename_i b o sl c
                  split at h
                  · rename_i Bp vs hb
                    split at h
                    · cases h
                    · rename_i hesz
                      have hesz':=Nat.eq_of_beq_eq_true hesz
                      cases hs with
                      |slice _ _ _ _ c' L hL hnc hcc hlim=>
                      obtain ⟨L',hL',hok⟩:=H.obj _ _ hb
                      rw [hL] at hL';cases hL'
                      obtain ⟨he,cc,ty,fz,hg,hsz,hlim',hvs,hfz⟩:=hok
                      have hel:=Gu (rw:=true) (Bp:=Bp) (by rw [hesz'];exact htj.small)
                      rw [hel] at he
                      have a0:(⟨[t0,t1]⟩:Array TypeId)[0]? = some t0:=rfl
                      have a1:(⟨[t0,t1]⟩:Array TypeId)[1]? = some t1:=rfl
                      have b0:(#[Value.slice (some ⟨L.Bi,L.off+o,none⟩) sl c',x'] :Array Value)[0]? = some (.slice (some ⟨L.Bi,L.off+o,none⟩) sl c'):=rfl
                      have b1:(#[Value.slice (some ⟨L.Bi,L.off+o,none⟩) sl c',x'] :Array Value)[1]? = some x':=rfl
                      split at h
                      · rename_i hroom
                        simp only [Bool.and_eq_true] at hroom
                        have hroom':=Nat.le_of_ble_eq_true hroom.1
                        split at h
                        · rename_i hfit
                          have hfit':=Nat.le_of_ble_eq_true hfit
                          cases h
                          obtain ⟨w',e1,e2,e3⟩:=F4 (P:=P) H hb hL hnv hfit' c2
                          refine ⟨.slice (some ⟨L.Bi,L.off+o,none⟩) (sl+n) c',w',φ, ?_,⟨Ren.le_refl _, .slice _ _ _ _ _ L hL hroom' hcc hlim,e2,e3,htop⟩⟩
                          have hle:sl+n≤c':=by omega
                          cases hd1:i1.ud <;> first
                            |exact absurd hd1 (hdn _)
                            | (simp only [Builtin.append_,a0,a1,b0,b1,Sem.run_bind,h0.BC,hud,Result.andThen_ok,htj.Bq,h1.BC,hd1,Sem.run_pure,Bool.false_eq_true,if_false,hlr,hle,if_true,Bool.not_false,hnr,addr_add]
                               rw [show L.off+o+sl * j.size=L.off+(o+sl * j.size) from by omega,e1];rfl)
                        · cases h
                      · split at h
                        · rename_i hcnd
                          simp only [Bool.and_eq_true] at hcnd
                          have q1:=Nat.eq_of_beq_eq_true hcnd.1
                          have q2:=hcnd.2
                          cases h
                          have hib:top≠b:=fun e=>by subst e;rw [htop _ (Nat.le_refl _)] at hL;cases hL
                          have hold:Cq hp j.size sl (.slice (some ⟨b,o,none⟩) sl c)=some (vs.drop o):=by
                            have hl:((vs.drop o).take (sl * j.size))=vs.drop o:=List.take_of_length_le (by simp;omega)
                            simp only [Cq,hb,hl]
                            have:Nat.beq (vs.drop o).length (sl * j.size)=true:=by simp;omega
                            rw [this]
                          by_cases hle:sl+n≤c'
                          · -- in place
                            obtain ⟨w',f1,f2,f3,f4,f5,f6,f7⟩:=E6 P L.Bi (L.off+(o+sl * j.size)) ty fz (hfz.1 rfl) new' 0 w cc hg (by
                              rw [hnv.length,c3',hsz]
                              have:(sl+n) * L.Bp≤c' * L.Bp:=Nat.mul_le_mul_right _ hle
                              rw [←he,hesz',Nat.add_mul] at this
                              rw [←he,hesz'] at hlim;omega) (by rw [JG hnv];exact c2)
                            refine ⟨.slice (some ⟨L.Bi,L.off+o,none⟩) (sl+n) c',w',φ.ext top ⟨L.Bi,L.off+o,Bp,L.Pb⟩, ?_,⟨Ren.EM (htop _ (Nat.le_refl _)), ?_, ?_, ?_,fun j hj=>Ren.KS (htop j (by omega)) (by omega)⟩⟩
                            cases hd1:i1.ud <;> first
                              |exact absurd hd1 (hdn _)
                              | (simp only [Builtin.append_,a0,a1,b0,b1,Sem.run_bind,h0.BC,hud,Result.andThen_ok,htj.Bq,h1.BC,hd1,Sem.run_pure,Bool.false_eq_true,if_false,hlr,hle,if_true,Bool.not_false,hnr,addr_add]
                                 rw [show L.off+o+sl * j.size=L.off+(o+sl * j.size) from by omega,f1];rfl)
                            · refine .slice top 0 _ _ _ _ (Ren.BE ..) (Nat.le_refl _) hle ?_
                              show L.off+o+0+c' * Bp≤L.Pb
                              rw [he];exact hlim
                            · have hm:=H.move top b _ (.cells true Bp (vs.drop o ++ new)) L ⟨L.Bi,L.off+o,Bp,L.Pb⟩ hb rfl hL (htop _ (Nat.le_refl _)) rfl f3 f4 (by
                                refine ⟨hel,_,ty,fz,f2, ?_, ?_, ?_,⟨hfz.1,(fun h=>by cases h),fun _ h=>absurd h (by have:=htj.small;rw [hesz'];omega)⟩⟩
                                · have:(A6 cc.toList (L.off+(o+sl * j.size)+0) new').length=cc.toList.length:=D4 (by
                                    rw [hnv.length,c3',Array.length_toList,hsz]
                                    have:(sl+n) * L.Bp≤c' * L.Bp:=Nat.mul_le_mul_right _ hle
                                    rw [←he,hesz',Nat.add_mul] at this
                                    rw [←he,hesz'] at hlim;omega)
                                  simpa [hsz] using this
                                · simp only [List.length_append,List.length_drop]
                                  rw [c3']
                                  have:(sl+n) * L.Bp≤c' * L.Bp:=Nat.mul_le_mul_right _ hle
                                  rw [←he,hesz',Nat.add_mul] at this
                                  rw [←he,hesz'] at hlim;omega
                                · have hsp:((A6 cc.toList (L.off+(o+sl * j.size)+0) new').drop (L.off+o)).take (vs.drop o ++ new).length=((cc.toList.drop L.off).take vs.length).drop o ++ new':=by
                                    have hnl:=hnv.length
                                    have hcl:cc.toList.length=L.Pb:=by simpa using hsz
                                    apply List.ext_getElem?
                                    intro q
                                    unfold A6
                                    simp only [List.getElem?_take,List.getElem?_drop,List.getElem?_append,List.length_append,List.length_take,List.length_drop,hcl,hnl,Nat.add_zero]
                                    repeat' split
                                    all_goals first
                                      |omega
                                      |rfl
                                      | (congr 1;omega)
                                      | (rw [List.getElem?_eq_none (by omega)];done)
                                      | (symm;rw [List.getElem?_eq_none (by omega)];done)
                                  rw [hsp]
                                  exact ((hvs.drop o).append hnv).mono (Ren.EM (htop _ (Nat.le_refl _))))
                              refine hm.sub fun k ok hk=> ?_
                              simp only [Hp.Av,Hp.set] at hk
                              split at hk
                              · rename_i hkt;simp only [hkt,if_true];exact hk
                              · rename_i hkt;simp only [hkt,if_false];exact hk
                            · exact ⟨by omega,fun k hk hn=>f4 k fun e=>hn (by subst e;exact H.D8 b _ L hb rfl hL),f5,f6,f7⟩
                          · -- new memory
                            obtain ⟨old',o1d,o2⟩:=IK (P:=P) H hold (.slice _ _ _ _ _ L hL hnc hcc hlim)
                            have o1:=o1d w.drawn
                            obtain ⟨cap,extra,g1,g2,g3⟩:=Hu (r:=r) h0 hud h1 hni htj hlr hnr o1 c1' q2 hle o1d hnrd
                            obtain ⟨L2,k1,k2,k3,k4,k5,k6,k7,k8,k9⟩:=FH H htop (o2.append hnv) Bp e extra (w.drawn+1) (fun h=>absurd h (by have:=htj.small;rw [hesz'];omega))
                            rw [Gu (by rw [hesz'];exact htj.small)] at k3
                            refine ⟨.slice (some ⟨L2.Bi,L2.off+0,none⟩) (sl+n) cap,_,_, ?_,⟨k5, .slice _ _ _ _ _ L2 k6 (Nat.le_refl _) (by omega) ?_, ?_,k8,k9⟩⟩
                            · rw [show (⟨[t0,t1]⟩:Array TypeId)= #[t0,t1] from rfl,g3,k1,k2]
                            · rw [k2,k3,k4,g2,hesz']
                              simp only [List.length_append,List.length_drop]
                              rw [c3']
                              have:(sl+n) * j.size+(cap - (sl+n)) * j.size=cap * j.size:=by rw [←Nat.add_mul];congr 1;omega
                              rw [Nat.add_mul] at this
                              omega
                            · refine k7.sub fun k ok hk=> ?_
                              simp only [Hp.Av,Hp.set] at hk ⊢
                              split at hk
                              · rename_i hkt;simp only [hkt,if_true];exact hk
                              · rename_i hkt;simp only [hkt,if_false]
                                split at hk
                                · cases hk
                                · exact hk
                        · cases h
                  · cases h
                · cases h
        · cases h
    · cases h
  · cases h
end
end Go.Dm
namespace Go.Dm
theorem Es.set {φ:Ren}:∀ {l l':List MapEntry} (j:Nat) {e e':MapEntry},Es φ l l'→EV φ e e'→Es φ (l.set j e) (l'.set j e')
  |_,_,_,_,_, .nil,_=>by simp;exact .nil
  |_,_,0,_,_, .cons _ _ _ _ _ hl,he=>by simp only [List.set_cons_zero];exact .cons _ _ _ _ he hl
  |_,_,j+1,_,_, .cons _ _ _ _ h hl,he=>by simp only [List.set_cons_succ];exact .cons _ _ _ _ h (Es.set j hl he)
theorem Es.erase {φ:Ren}:∀ {l l':List MapEntry} (j:Nat),Es φ l l'→Es φ (l.eraseIdx j) (l'.eraseIdx j)
  |_,_,_, .nil=>by simp;exact .nil
  |_,_,0, .cons _ _ _ _ _ hl=>by simp only [List.eraseIdx_cons_zero];exact hl
  |_,_,j+1, .cons _ _ _ _ h hl=>by simp only [List.eraseIdx_cons_succ];exact .cons _ _ _ _ h (Es.erase j hl)
theorem Es.snoc {φ:Ren}:∀ {l l':List MapEntry} {e e':MapEntry},Es φ l l'→EV φ e e'→Es φ (l ++ [e]) (l' ++ [e'])
  |_,_,_,_, .nil,he=> .cons _ _ _ _ he .nil
  |_,_,_,_, .cons _ _ _ _ h hl,he=> .cons _ _ _ _ h (Es.snoc hl he)
theorem Es.get {φ:Ren}:∀ {l l':List MapEntry} {j:Nat} {e:MapEntry},Es φ l l'→l[j]? = some e→∃e',l'[j]? = some e'∧EV φ e e'
  |_,_,_,_, .nil,h=>by simp at h
  |_,_,0,_, .cons _ e' _ _ h _,hh=>by simp at hh;subst hh;exact ⟨e',by simp,h⟩
  |_,_,j+1,_, .cons _ _ _ _ _ hl,hh=>by simp at hh ⊢;exact Es.get hl hh
section
variable {P:Program} {tt:AO} (htt:Ck P tt) {φ:Ren} {own:Nat→Prop} {hp:Hp} {w:World} (H:HR φ own hp w) {top top':Nat} (htop:∀j,top≤j→φ j=none) {v:Value} {us:BI}
include htt H htop
theorem Pq {ts:List TypeId}{r:TypeId}{d x d' x':Value}(h:SU tt hp ts d x=some (v,us))(hd:V φ d d')(hx:V φ x x') :
    ∃v' w' φ',(Builtin.copy_ ⟨ts⟩ r #[d',x']).run P w= .ok v' w'∧E9 φ own w v (hp.Av us) top v' w' φ':=by
  unfold SU at h
  split at h
  · rename_i t0 ts
    have a0:(⟨t0 :: ts⟩:Array TypeId)[0]? = some t0:=rfl
    split at h
    · rename_i i base dl c sl hi hsl
      have h0:=htt _ _ hi
      split at h
      · rename_i e hud
        split at h
        · cases h
        · rename_i j hj
          have htj:=htt _ _ hj
          split at h
          · cases h
          · rename_i new hnew
            obtain ⟨new',hnr,hnv⟩:=dG (P:=P) H hnew hx
            have hlr:=Qq (P:=P) w hsl hx
            split at h
            · cases h
              cases hd
              refine ⟨.int .i64 (Int.ofNat (Nat.min sl 0)),w,φ, ?_,⟨Ren.le_refl _, .int _ _,H,K.refl _ _,htop⟩⟩
              have b0:(#[Value.slice none 0 0,x'] :Array Value)[0]? = some (.slice none 0 0):=rfl
              have b1:(#[Value.slice none 0 0,x'] :Array Value)[1]? = some x':=rfl
              simp only [Builtin.copy_,a0,b0,b1,Sem.run_bind,h0.BC,hud,Result.andThen_ok,hlr,htj.Bq,hnr,Sem.run_pure]
              rfl
            · rename_i b o
              split at h
              · rename_i Bp vs hb
                split at h
                · rename_i hc
                  cases h
                  simp only [Bool.and_eq_true] at hc
                  have hc1:=Nat.le_of_ble_eq_true hc.1
                  cases hd with
                  |slice _ _ _ _ c' L hL hn hcc hlim=>
                  obtain ⟨w',e1,e2,e3⟩:=F4 (P:=P) H hb hL hnv hc1 hc.2
                  refine ⟨.int .i64 (Int.ofNat (Nat.min sl dl)),w',φ, ?_,⟨Ren.le_refl _, .int _ _,e2,e3,htop⟩⟩
                  have b0:(#[Value.slice (some ⟨L.Bi,L.off+o,none⟩) dl c',x'] :Array Value)[0]? = some (.slice (some ⟨L.Bi,L.off+o,none⟩) dl c'):=rfl
                  have b1:(#[Value.slice (some ⟨L.Bi,L.off+o,none⟩) dl c',x'] :Array Value)[1]? = some x':=rfl
                  simp only [Builtin.copy_,a0,b0,b1,Sem.run_bind,h0.BC,hud,Result.andThen_ok,hlr,htj.Bq,hnr,e1,Sem.run_pure]
                  rfl
                · cases h
              · cases h
            · cases h
      · cases h
    · cases h
  · cases h
theorem kL {ts:List TypeId}{r:TypeId}{x x':Value}(h:N2 tt hp ts x=some us)(hx:V φ x x') :
    ∃w' φ',(Builtin.clear_ ⟨ts⟩ r #[x']).run P w= .ok undef w'∧E9 φ own w undef (hp.Av us) top undef w' φ':=by
  unfold N2 at h
  split at h
  · rename_i t0 ts
    have a0:(⟨t0 :: ts⟩:Array TypeId)[0]? = some t0:=rfl
    have b0:(#[x'] :Array Value)[0]? = some x':=rfl
    have nop:E9 φ own w undef (hp.Av []) top undef w φ:=⟨Ren.le_refl _, .tuple _ _ .nil,H,K.refl _ _,htop⟩
    split at h
    · rename_i i hi
      cases h;cases hx
      refine ⟨w,φ, ?_,nop⟩
      simp only [Builtin.clear_,a0,b0,Sem.run_bind,(htt _ _ hi).BC,Result.andThen_ok,Sem.run_pure]
      rfl
    · rename_i i n c hi
      cases h;cases hx
      refine ⟨w,φ, ?_,nop⟩
      simp only [Builtin.clear_,a0,b0,Sem.run_bind,(htt _ _ hi).BC,Result.andThen_ok,Sem.run_pure]
      rfl
    · rename_i i b o n c hi
      cases hx with
      |slice _ _ _ _ c' L hL hn hcc hlim=>
      split at h
      · rename_i h0
        have:=Nat.eq_of_beq_eq_true h0
        subst this
        cases h
        refine ⟨w,φ, ?_,nop⟩
        simp only [Builtin.clear_,a0,b0,Sem.run_bind,(htt _ _ hi).BC,Result.andThen_ok,Sem.run_pure]
        rfl
      · rename_i h0
        have hne:n≠0:=fun e=>by subst e;simp at h0
        split at h
        · rename_i e hud
          split at h
          · rename_i j Bp vs hj hb
            have htj:=htt _ _ hj
            split at h
            · rename_i hc
              cases h
              simp only [Bool.and_eq_true] at hc
              have hc1:=Nat.le_of_ble_eq_true hc.1
              have hz:Vs φ (E0 j n) (Builtin.zeroCells j.zero.cells n).toList:=by
                unfold Builtin.zeroCells
                rw [HY _ _ _ rfl,D5]
                exact Vs.flatten (GJ (DL _ _ htj.plain))
              obtain ⟨w',e1,e2,e3⟩:=F4 (P:=P) H hb hL hz (by rw [Et htj];exact hc1) hc.2
              refine ⟨w',φ, ?_,⟨Ren.le_refl _, .tuple _ _ .nil,e2,e3,htop⟩⟩
              obtain ⟨n,rfl⟩:∃m,n=m+1:=⟨n - 1,by omega⟩
              have b0:(#[Value.slice (some ⟨L.Bi,L.off+o,none⟩) (n+1) c'] :Array Value)[0]? = some (.slice (some ⟨L.Bi,L.off+o,none⟩) (n+1) c'):=rfl
              simp only [Builtin.clear_,a0,b0,Sem.run_bind,(htt _ _ hi).BC,Result.andThen_ok,Sem.run_pure,hud,htj.Ep,e1]
              rfl
            · cases h
          · cases h
        · cases h
    · cases h
  · cases h
theorem K9 {b:Nat}{es:List MapEntry}{CI:Nat}{L:Loc}(hb:hp b=some (.map es CI))(hL:φ b=some L){es2:List MapEntry}{es2':Array MapEntry}{clk2:Nat}(he:Es φ es2 es2'.toList) :
    ∃w',(setObj L.Bi (.map es2' clk2)).run P w= .ok () w'∧E9 φ own w undef (hp.Av [(b,some (.map es2 clk2))]) top undef w' φ:=by
  have _:=htt
  obtain ⟨L',hL',hok⟩:=H.obj _ _ hb
  rw [hL] at hL';cases hL'
  obtain ⟨es',hg,_⟩:=hok
  refine ⟨{w with heap:=w.heap.setIfInBounds L.Bi (.map es2' clk2)}, ?_,⟨Ren.le_refl _, .tuple _ _ .nil, ?_, ?_,htop⟩⟩
  · simp only [setObj,Sem.run,hg]
  · have hlt:=H.val b L hL
    refine H.put b _ (.map es2 clk2) L hb rfl hL (by simp) (fun k hk=>by simp [Ne.symm hk]) ⟨es2', ?_,he⟩
    simp [hlt]
  · exact ⟨by simp,fun k hk hn=>by
      have:k≠L.Bi:=fun e=>hn (by subst e;exact H.D8 b _ L hb rfl hL)
      simp [Ne.symm this],rfl,rfl,rfl⟩
theorem Se {t:TypeId}{m k x m' k' x':Value}(h:Eg tt hp t m k x=some us)(hm:V φ m m')(hk:V φ k k')(hx:V φ x x') :
    ∃w' φ',(Instr.mapUpdate t m' k' x').run P w= .ok () w'∧E9 φ own w undef (hp.Av us) top undef w' φ':=by
  unfold Eg at h
  split at h
  · rename_i i b hi
    have ht:=htt _ _ hi
    split at h
    · rename_i kt et es CI hud hb
      split at h
      · rename_i ki hkt hkey
        cases hm with
        |map _ L hL=>
        obtain ⟨L',hL',hok⟩:=H.obj _ _ hb
        rw [hL] at hL';cases hL'
        obtain ⟨es',hg,he⟩:=hok
        have hget:(getObj L.Bi).run P w= .ok (.map es' CI) w:=by simp only [getObj,Sem.run,hg]
        split at h
        · rename_i j v0 hf
          obtain ⟨r',hr,hfr⟩:=Ft htt (htt _ _ hkt) w hk hf he
          cases hr with
          |some _ _ v0' hv=>
          split at h
          · rename_i e0 he0
            split at h
            · rename_i hc
              cases h
              simp only [Bool.and_eq_true] at hc
              obtain ⟨⟨p1,p2⟩,p3⟩:=hc
              obtain ⟨e0',hj,hev⟩:=Es.get he he0
              have q1:=XW 8 p1 hk
              have q2:=XW 8 p2 hev.key
              obtain ⟨w',g1,g2⟩:=K9 (P:=P) htt H htop hb hL (es2:=es.set j {e0 with key:=k,val:=x}) (es2':=es'.modify j fun e=> {e with key:=k',val:=x'}) (clk2:=CI) (by
                have:(es'.modify j fun e=> {e with key:=k',val:=x'}).toList=es'.toList.set j {e0' with key:=k',val:=x'}:=by
                  apply List.ext_getElem?
                  intro q
                  simp only [Array.toList_modify,List.getElem?_modify,List.getElem?_set]
                  by_cases hjq:j=q
                  · subst hjq
                    have hlt:j < es'.toList.length:=by
                      rcases Nat.lt_or_ge j es'.toList.length with h | h
                      · exact h
                      · rw [List.getElem?_eq_none h] at hj;cases hj
                    simp only [if_true,hj,hlt];rfl
                  · simp [hjq]
                rw [this]
                exact Es.set j he ⟨hk,hx,hev.born⟩)
              refine ⟨w',φ, ?_,g2⟩
              have hjj:es'[j]? = some e0':=by simpa using hj
              have hkeep:(Instr.keyThatStays (((es'[j]?).map (·.key)).getD k') k').run P w= .ok k' w:=by
                rw [hjj]
                simp only [Option.map_some,Option.getD_some,Instr.keyThatStays,q1,q2,p3,if_true,Sem.run_pure]
              simp only [Instr.mapUpdate,Sem.run_bind,ht.BC,Result.andThen_ok,hud,hget,JD htt _ w hkey hk,hfr,hkeep,g1]
            · cases h
          · cases h
        · rename_i hf
          obtain ⟨r',hr,hfr⟩:=Ft htt (htt _ _ hkt) w hk hf he
          cases hr
          cases h
          obtain ⟨w',g1,g2⟩:=K9 (P:=P) htt H htop hb hL (es2:=es ++ [{key:=k,val:=x,born:=CI}]) (es2':=es'.push {key:=k',val:=x',born:=CI}) (clk2:=CI+1) (by
            rw [Array.toList_push];exact Es.snoc he ⟨hk,hx,rfl⟩)
          refine ⟨w',φ, ?_,g2⟩
          simp only [Instr.mapUpdate,Sem.run_bind,ht.BC,Result.andThen_ok,hud,hget,JD htt _ w hkey hk,hfr,g1]
        · cases h
      · cases h
    · cases h
  · cases h
theorem df {ts:List TypeId}{r:TypeId}{m k m' k':Value}(h:LP tt hp ts m k=some us)(hm:V φ m m')(hk:V φ k k') :
    ∃w' φ',(Builtin.delete_ ⟨ts⟩ r #[m',k']).run P w= .ok undef w'∧E9 φ own w undef (hp.Av us) top undef w' φ':=by
  unfold LP at h
  split at h
  · rename_i t0 ts
    have a0:(⟨t0 :: ts⟩:Array TypeId)[0]? = some t0:=rfl
    have b0:(#[m',k'] :Array Value)[0]? = some m':=rfl
    have b1:(#[m',k'] :Array Value)[1]? = some k':=rfl
    split at h
    · rename_i i hi
      split at h
      · rename_i kt et hud
        split at h
        · rename_i hkey
          cases h;cases hm
          refine ⟨w,φ, ?_,⟨Ren.le_refl _, .tuple _ _ .nil,H,K.refl _ _,htop⟩⟩
          simp only [Builtin.delete_,a0,b0,b1,Sem.run_bind,(htt _ _ hi).BC,hud,Result.andThen_ok,JD htt _ w hkey hk,Sem.run_pure]
          rfl
        · cases h
      · cases h
    · rename_i i b hi
      split at h
      · rename_i kt et es CI hud hb
        split at h
        · rename_i ki hkt hkey
          cases hm with
          |map _ L hL=>
          obtain ⟨L',hL',hok⟩:=H.obj _ _ hb
          rw [hL] at hL';cases hL'
          obtain ⟨es',hg,he⟩:=hok
          have hget:(getObj L.Bi).run P w= .ok (.map es' CI) w:=by simp only [getObj,Sem.run,hg]
          have b0:(#[Value.map (some L.Bi),k'] :Array Value)[0]? = some (.map (some L.Bi)):=rfl
          have b1:(#[Value.map (some L.Bi),k'] :Array Value)[1]? = some k':=rfl
          split at h
          · rename_i j v0 hf
            obtain ⟨r',hr,hfr⟩:=Ft htt (htt _ _ hkt) w hk hf he
            cases hr with
            |some _ _ v0' hv=>
            cases h
            obtain ⟨w',g1,g2⟩:=K9 (P:=P) htt H htop hb hL (es2':=es'.eraseIdxIfInBounds j) (clk2:=CI) (by
              have:(es'.eraseIdxIfInBounds j).toList=es'.toList.eraseIdx j:=by simp
              rw [this];exact Es.erase j he)
            refine ⟨w',φ, ?_,g2⟩
            simp only [Builtin.delete_,a0,b0,b1,Sem.run_bind,(htt _ _ hi).BC,hud,Result.andThen_ok,hget,JD htt _ w hkey hk,hfr,g1,Sem.run_pure]
            rfl
          · rename_i hf
            obtain ⟨r',hr,hfr⟩:=Ft htt (htt _ _ hkt) w hk hf he
            cases hr
            cases h
            obtain ⟨w',g1,g2⟩:=K9 (P:=P) htt H htop hb hL (es2':=es') (clk2:=CI) he
            refine ⟨w',φ, ?_,g2⟩
            simp only [Builtin.delete_,a0,b0,b1,Sem.run_bind,(htt _ _ hi).BC,hud,Result.andThen_ok,hget,JD htt _ w hkey hk,hfr,g1,Sem.run_pure]
            rfl
          · cases h
        · cases h
      · cases h
    · cases h
  · cases h
end
end Go.Dm
namespace Go.Dm
def Fl (tt:AO)(ev:Operand→Option Value)(hp:Hp)(top:Nat)(op:Op):Option (Value×BI×Nat):=
  match op with
  | .alloc t=>I7 tt top t
  | .box _ x=>match ev x with
    |some v=>some (ep top v)
    |none=>none
  | .buildSlice t n ps=>Cm tt ev top t n ps
  | .store t a x=>match ev a,ev x,tt t with
    |some (.pointer (some ⟨b,o,none⟩)),some v,some i=>match I9 i hp b o v with
      |some us=>some (undef,us,top)
      |none=>none
    |_,_,_=>none
  | .makeMap t none=>Da tt top t none
  | .makeMap t (some r)=>match ev r with
    |some v=>Da tt top t (some v)
    |none=>none
  | .makeSlice t l c=>match ev l,ev c with
    |some a,some b=>Du tt top t a b
    |_,_=>none
  | .mapUpdate t m k x=>match ev m,ev k,ev x with
    |some a,some b,some c=>match Eg tt hp t a b c with
      |some us=>some (undef,us,top)
      |none=>none
    |_,_,_=>none
  | .insert t m k x=>match ev m,ev k,ev x with
    |some a,some b,some c=>match Eg tt hp t a b c with
      |some us=>some (undef,us,top)
      |none=>none
    |_,_,_=>none
  | .call {callee:= .builtin .append,args,argTypes}=>match args.toList with
    | [s,x]=>match ev s,ev x with
      |some a,some b=>AM tt hp top argTypes.toList a b
      |_,_=>none
    |_=>none
  | .call {callee:= .builtin .copy,args,argTypes}=>match args.toList with
    | [s,x]=>match ev s,ev x with
      |some a,some b=>match SU tt hp argTypes.toList a b with
        |some (v,us)=>some (v,us,top)
        |none=>none
      |_,_=>none
    |_=>none
  | .call {callee:= .builtin .clear,args,argTypes}=>match args.toList with
    | [s]=>match ev s with
      |some a=>match N2 tt hp argTypes.toList a with
        |some us=>some (undef,us,top)
        |none=>none
      |_=>none
    |_=>none
  | .call {callee:= .builtin .delete,args,argTypes}=>match args.toList with
    | [s,x]=>match ev s,ev x with
      |some a,some b=>match LP tt hp argTypes.toList a b with
        |some us=>some (undef,us,top)
        |none=>none
      |_,_=>none
    |_=>none
  |_=>none
def Ends (n:Next)(v':Value):Prop:=n= .value v'∨(n= .skip∧v' = undef)
theorem LN {α β γ:Type}{A B C:α→β→γ→Prop}(h:∃x y z,A x y z∧B x y z∧C x y z):∃x y z,A x y z∧B x y z:=by
  obtain ⟨x,y,z,h1,h2,_⟩:=h
  exact ⟨x,y,z,h1,h2⟩
theorem UB {P:Program}{tt:AO}(htt:Ck P tt){φ:Ren}{own:Nat→Prop}{hp:Hp}{w:World}(H:HR φ own hp w){top top':Nat}(htop:∀j,top≤j→φ j=none){v:Value}{us:BI}
    {ev:Operand→Option Value} {ρ:Operand→Value} (hev:∀x v,ev x=some v→V φ v (ρ x)) {o:Oper} (h:Fl tt ev hp top o.op=some (v,us,top')) :
    ∃n v' w' φ',(execOp ρ o).run P w= .ok n w'∧Ends n v'∧E9 φ own w v (hp.Av us) top' v' w' φ':=by
  obtain ⟨dst,op,ty,pos,after,guard⟩:=o
  dsimp only at h
  have sv:∀ {s:Sem Value},(∃v' w' φ',s.run P w= .ok v' w'∧E9 φ own w v (hp.Av us) top' v' w' φ')→
      ∃n v' w' φ',(do pure (Next.value (←s)):Sem Next).run P w= .ok n w'∧Ends n v'∧E9 φ own w v (hp.Av us) top' v' w' φ':=by
    rintro s ⟨v',w',φ',hs,hw⟩
    exact ⟨.value v',v',w',φ',by simp only [Sem.run_bind,hs,Result.andThen_ok,Sem.run_pure], .inl rfl,hw⟩
  have su:∀ {s:Sem Unit},v=undef→(∃w' φ',s.run P w= .ok () w'∧E9 φ own w undef (hp.Av us) top' undef w' φ')→
      ∃n v' w' φ',(do s;pure Next.skip:Sem Next).run P w= .ok n w'∧Ends n v'∧E9 φ own w v (hp.Av us) top' v' w' φ':=by
    rintro s rfl ⟨w',φ',hs,hw⟩
    exact ⟨.skip,undef,w',φ',by simp only [Sem.run_bind,hs,Result.andThen_ok,Sem.run_pure], .inr ⟨rfl,rfl⟩,hw⟩
  have sb:∀ {b:Builtin} {args:List Operand} {ats:List TypeId} {s:Sem Value},(∀cs,builtin b ⟨ats⟩ ty cs ⟨args.map ρ⟩=(do pure (Next.value (←s)):Sem Next))→
      (∃v' w' φ',s.run P w= .ok v' w'∧E9 φ own w v (hp.Av us) top' v' w' φ')→
      ∃n v' w' φ',(execOp ρ ⟨dst, .call {callee:= .builtin b,args:=⟨args⟩,argTypes:=⟨ats⟩},ty,pos,after,guard⟩).run P w= .ok n w'∧Ends n v'∧E9 φ own w v (hp.Av us) top' v' w' φ':=by
    rintro b args ats s hb hs
    obtain ⟨n,v',w',φ',h1,h2,h3⟩:=sv hs
    refine ⟨n,v',w',φ', ?_,h2,h3⟩
    simp only [execOp,resolve,Sem.run_bind,Sem.run_pure,Result.andThen_ok,invoke,List.map_toArray]
    rw [hb];simp only [Sem.run_bind] at h1 ⊢;exact h1
  unfold Fl at h
  split at h
  · exact sv (LN (WZ htt H htop h))
  · rename_i t x
    split at h
    · rename_i a ha
      cases h
      exact sv (LN (TY htt H htop (hev _ _ ha) t))
    · cases h
  · exact sv (LN (L9 htt H htop hev h))
  · rename_i t a x
    split at h
    · rename_i b ofs u i ha hx hi
      split at h
      · rename_i us' hs
        cases h
        refine su rfl ?_
        have hva:=hev _ _ ha
        generalize ρ a=ra at hva
        cases hva with
        |ptr _ _ L hL=>
        obtain ⟨w',h1,h2⟩:=hC htt H htop hi hs hL (hev _ _ hx)
        exact ⟨w',φ,by simp only [Instr.storeAt,Instr.sureAddr,Sem.run_bind,Sem.run_pure,Result.andThen_ok];exact h1,h2⟩
      · cases h
    · cases h
  · exact sv (LN (I4 htt H htop .none h))
  · split at h
    · rename_i r a ha;exact sv (LN (I4 htt H htop (.some _ _ (hev _ _ ha)) h))
    · cases h
  · split at h
    · rename_i a b ha hb;exact sv (LN (Mw htt H htop (hev _ _ ha) (hev _ _ hb) h))
    · cases h
  · split at h
    · rename_i a b c ha hb hc
      split at h
      · rename_i us' hs
        cases h
        exact su rfl (Se htt H htop hs (hev _ _ ha) (hev _ _ hb) (hev _ _ hc))
      · cases h
    · cases h
  · split at h
    · rename_i a b c ha hb hc
      split at h
      · rename_i us' hs
        cases h
        exact su rfl (Se htt H htop hs (hev _ _ ha) (hev _ _ hb) (hev _ _ hc))
      · cases h
    · cases h
  · rename_i args ats
    obtain ⟨args⟩:=args
    obtain ⟨ats⟩:=ats
    split at h
    · rename_i s x he
      dsimp only at he;subst he
      split at h
      · rename_i a b ha hb
        exact sb (fun _=>rfl) (cX htt H htop h (hev _ _ ha) (hev _ _ hb))
      · cases h
    · cases h
  · rename_i args ats
    obtain ⟨args⟩:=args
    obtain ⟨ats⟩:=ats
    split at h
    · rename_i s x he
      dsimp only at he;subst he
      split at h
      · rename_i a b ha hb
        split at h
        · rename_i u us' hs
          cases h
          exact sb (fun _=>rfl) (Pq htt H htop hs (hev _ _ ha) (hev _ _ hb))
        · cases h
      · cases h
    · cases h
  · rename_i args ats
    obtain ⟨args⟩:=args
    obtain ⟨ats⟩:=ats
    split at h
    · rename_i s he
      dsimp only at he;subst he
      split at h
      · rename_i a ha
        split at h
        · rename_i us' hs
          cases h
          obtain ⟨w',φ',h1,h2⟩:=kL htt H htop (r:=ty) hs (hev _ _ ha)
          exact sb (fun _=>rfl) ⟨_,w',φ',h1,h2⟩
        · cases h
      · cases h
    · cases h
  · rename_i args ats
    obtain ⟨args⟩:=args
    obtain ⟨ats⟩:=ats
    split at h
    · rename_i s x he
      dsimp only at he;subst he
      split at h
      · rename_i a b ha hb
        split at h
        · rename_i us' hs
          cases h
          obtain ⟨w',φ',h1,h2⟩:=df htt H htop (r:=ty) hs (hev _ _ ha) (hev _ _ hb)
          exact sb (fun _=>rfl) ⟨_,w',φ',h1,h2⟩
        · cases h
      · cases h
    · cases h
  · cases h
noncomputable def GW {α β:Type}(l:List α):(List α→β)→β:=List.rec (fun K=>K []) (fun x _ ih K=>ih fun l'=>K (x :: l')) l
theorem Dz {α β:Type}(l:List α)(K:List α→β):GW l K=K l:=by
  induction l generalizing K with
  |nil=>rfl
  |cons x l ih=>show GW l (fun l'=>K (x :: l'))=_;rw [ih]
noncomputable def eh {β:Type}(n:Int)(K:Int→β):β:=Int.rec (fun a=>Cp a fun a=>K (.ofNat a)) (fun a=>Cp a fun a=>K (.negSucc a)) n
theorem dN {β:Type}(n:Int)(K:Int→β):eh n K=K n:=by
  cases n with
  |ofNat a=>exact B7 a fun a=>K (.ofNat a)
  |negSucc a=>exact B7 a fun a=>K (.negSucc a)
noncomputable def MQ {β:Type}(v:Value)(K:Value→β):β:=
  match v with
  | .int k n=>eh n fun n=>K (.int k n)
  | .agg ⟨l⟩=>GW l fun l=>K (.agg ⟨l⟩)
  | .tuple ⟨l⟩=>GW l fun l=>K (.tuple ⟨l⟩)
  | .bool b=>WJ b (K (.bool true)) (K (.bool false))
  | .string ⟨⟨l⟩⟩=>GW l fun l=>K (.string ⟨⟨l⟩⟩)
  | .slice a n c=>Cp n fun n=>Cp c fun c=>match a with
    |none=>K (.slice none n c)
    |some ⟨b,o,s⟩=>Cp b fun b=>Cp o fun o=>K (.slice (some ⟨b,o,s⟩) n c)
  | .pointer (some ⟨b,o,s⟩)=>Cp b fun b=>Cp o fun o=>K (.pointer (some ⟨b,o,s⟩))
  | .map (some b)=>Cp b fun b=>K (.map (some b))
  |v=>K v
theorem Kz {β:Type}(v:Value)(K:Value→β):MQ v K=K v:=by
  unfold MQ
  split
  · rw [dN]
  · rw [Dz]
  · rw [Dz]
  · rw [NQ];rename_i b;cases b <;> rfl
  · rw [Dz]
  · rw [B7,B7];split
    · rfl
    · rw [B7,B7]
  · rw [B7,B7]
  · rw [B7]
  · rfl
noncomputable def UA {β:Type}(o:Option A7)(K:Option A7→β):β:=
  match o with
  |some (.cells rw Bp vs)=>GW vs fun vs=>K (some (.cells rw Bp vs))
  |some (.map es c)=>GW es fun es=>Cp c fun c=>K (some (.map es c))
  |o=>K o
theorem cx {β:Type}(o:Option A7)(K:Option A7→β):UA o K=K o:=by
  unfold UA
  split
  · rw [Dz]
  · rw [Dz,B7]
  · rfl
noncomputable def WU (t:T A7):BI→T A7
  | []=>t
  | (i,o) :: us=>WU (t.set i o) us
noncomputable def YQ {β:Type}(us:BI):T A7→(T A7→β)→β:=
  List.rec (fun t K=>K t) (fun u _ ih t K=>Cp u.1 fun i=>UA u.2 fun o=>T.MP o 40 t i fun t=>ih t K) us
theorem cm {β:Type}(us:BI)(t:T A7)(K:T A7→β):YQ us t K=K (WU t us):=by
  induction us generalizing t with
  |nil=>rfl
  |cons u us ih=>
    show (Cp u.1 fun i=>UA u.2 fun o=>T.MP o 40 t i fun t=>YQ us t K)=_
    rw [B7,cx,T.RO,ih];rfl
theorem eP (us:BI):∀(t:T A7) (hp:Hp),(∀i o,t.get i=some o→hp i=some o)→∀i o,(WU t us).get i=some o→(hp.Av us) i=some o:=by
  induction us with
  |nil=>intro t hp h;exact h
  |cons u us ih=>
    intro t hp h
    refine ih (t.set u.1 u.2) (hp.set u.1 u.2) ?_
    intro i o hi
    rcases T.P0 hi with ⟨e,h2⟩ | ⟨e,h2⟩
    · simp [Hp.set,e,h2]
    · simp [Hp.set,e,h i o h2]
noncomputable def sr (fr:T Value)(x:Operand):Option Value:=
  match x with
  | .tmp t=>fr.get t
  | .const v=>match plain 3 v with
    |true=>some v
    |false=>none
  | .global _=>none
  | .func f=>some (.func (.func f) ⟨[]⟩ ⟨[]⟩)
abbrev Callee:=FuncId→List Value→T A7→Nat→Option (Value×T A7×Nat)
def iH (P:Program)(cl:Callee):Prop:= ∀f args hp top v hp' top',cl f args hp top=some (v,hp',top')→
  ∀φ own w args',Vs φ args args'→HR φ own hp.get w→(∀j,top≤j→φ j=none)→
    Calls P f ⟨args'⟩ w fun e w'=> ∃v' φ',e= .returned v'∧E9 φ own w v hp'.get top' v' w' φ'
def HB:Op→Bool
  | .alloc _ | .box _ _ | .buildSlice _ _ _ | .store _ _ _ | .makeMap _ _ | .makeSlice _ _ _ | .mapUpdate _ _ _ _ | .insert _ _ _ _=>true
  | .call {callee:= .builtin .append, ..} | .call {callee:= .builtin .copy, ..} | .call {callee:= .builtin .clear, ..} | .call {callee:= .builtin .delete, ..}=>true
  | .call {callee:= .value _, ..}=>true
  |_=>false
def Zz (ev:Operand→Option Value)(f:Operand)(args:List Operand):Option (FuncId×List Value):=
  match ev f,Ek ev args with
  |some (.func (.func g) ⟨first⟩ ⟨cap⟩),some l=>some (g,first ++ l ++ cap)
  |_,_=>none
noncomputable def Wf {γ:Type}(tt:AO)(cl:Callee)(ev:Operand→Option Value)(hp:T A7)(top:Nat)(op:Op)(K:Value→T A7→Nat→Option γ):Option γ:=
  match op with
  | .call {callee:= .value f,args, ..}=>match Zz ev f args.toList with
    |some (g,l)=>GW l fun l=>match cl g l hp top with
      |some (v,hp',top')=>MQ v fun v=>K v hp' top'
      |none=>none
    |none=>none
  |op=>match Fl tt ev hp.get top op with
    |some (v,us,top')=>MQ v fun v=>Cp top' fun top'=>YQ us hp fun hp'=>K v hp' top'
    |none=>none
def gN (P:Program)(ev:Operand→Option Value)(hp:T A7)(top:Nat)(o:Oper)(v:Value)(hp':T A7)(top':Nat):Prop:=
  ∀(φ:Ren) (own:Nat→Prop) (a:Act) (w:World) (K:Act→World→Prop) (Q:Exit→Act→World→Prop),
    (∀x u,ev x=some u→V φ u (a.eval x))→HR φ own hp.get w→(∀j,top≤j→φ j=none)→
    (∀v' w' φ',E9 φ own w v hp'.get top' v' w' φ'→K (a.put o.dst v') w')→o.wp P a w K Q
structure FTOk (P:Program) (f:FuncId) (fn:Func):Prop where
  at_:P.funcs[f]? = some fn
  name:(fn.name == "runtime.NumGoroutine")=false
  body:fn.body.isNone=false
theorem Wp {P:Program}{tt:AO}(htt:Ck P tt){cl:Callee}(hcl:iH P cl)(hfn:∀f args hp top r,cl f args hp top=some r→∃fn,FTOk P f fn){γ:Type}{ev:Operand→Option Value}{hp:T A7}{top:Nat}{o:Oper}{K:Value→T A7→Nat→Option γ}{r:γ}
    (h:Wf tt cl ev hp top o.op K=some r):∃v hp' top',gN P ev hp top o v hp' top'∧K v hp' top' = some r:=by
  obtain ⟨dst,op,ty,pos,after,guard⟩:=o
  dsimp only at h
  unfold Wf at h
  split at h
  · rename_i f args ats
    split at h
    · rename_i g l hcal
      rw [Dz] at h
      split at h
      · rename_i v hp' top' hc
        rw [Kz] at h
        refine ⟨v,hp',top', ?_,h⟩
        intro φ own a w K Q hev H htop hK
        unfold Zz at hcal
        split at hcal
        · rename_i g first cap l' hf hl
          cases hcal
          obtain ⟨args⟩:=args
          have hvf:=hev _ _ hf
          have hvl:=LI hev hl
          obtain ⟨fn,hfn1,hfn2,hfn3⟩:=hfn _ _ _ _ _ hc
          generalize hr:a.eval f=rf at hvf
          cases hvf with
          |func _ _ first' _ cap' hf1 hf2=>
          have hcall:=hcl _ _ _ _ _ _ _ hc φ own w _ ((hf1.append hvl).append hf2) H htop
          unfold Oper.wp
          have hrun:(execOp a.eval ⟨dst, .call {callee:= .value f,args:=⟨args⟩,argTypes:=ats},ty,pos,after,guard⟩).run P w= .ok (.enter g ⟨first' ++ args.map a.eval ++ cap'⟩) w:=by
            have hfe:(fn.name == "runtime.NumGoroutine")=false:=hfn2
            simp only [execOp,resolve,hr,Deferred.ofValue,Sem.run_bind,Sem.run_pure,Result.andThen_ok,invoke,callFunc,run_program,hfn1,hfe,hfn3,Bool.false_eq_true,if_false]
            simp
          rw [hrun]
          exact hcall.mono fun e w' hh=>by
            obtain ⟨v',φ',rfl,hw⟩:=hh
            exact hK v' w' φ' hw
        · cases hcal
      · cases h
    · cases h
  · split at h
    · rename_i v us top' hw
      rw [Kz,B7,cm] at h
      refine ⟨v,WU hp us,top', ?_,h⟩
      intro φ own a w K Q hev H htop hK
      obtain ⟨n,v',w',φ',h1,h2,h3⟩:=UB (P:=P) htt H htop (o:=⟨dst,op,ty,pos,after,guard⟩) hev hw
      unfold Oper.wp
      rw [h1]
      have h4:E9 φ own w v (WU hp us).get top' v' w' φ':=⟨h3.le,h3.v,h3.hr.sub (eP us hp hp.get fun _ _ e=>e),h3.k,h3.top⟩
      rcases h2 with rfl | ⟨rfl,rfl⟩
      · exact hK v' w' φ' h4
      · exact hK undef w' φ' h4
    · cases h
def B4:Op→Bool
  | .alloc _ | .box _ _ | .buildSlice _ _ _ | .makeMap _ _ | .makeSlice _ _ _=>true
  |_=>false
theorem mi {P:Program}{tt:AO}(htt:Ck P tt){φ:Ren}{own:Nat→Prop}{hp:Hp}{w:World}(H:HR φ own hp w){top top':Nat}(htop:∀j,top≤j→φ j=none){v:Value}{us:BI}
    {ev:Operand→Option Value} {ρ:Operand→Value} (hev:∀x v,ev x=some v→V φ v (ρ x)) {o:Oper} (hal:B4 o.op=true) (h:Fl tt ev hp top o.op=some (v,us,top')) :
    ∃v' w' L,(execOp ρ o).run P w= .ok (.value v') w'∧E9 φ own w v (hp.Av us) top' v' w' (φ.ext top L):=by
  obtain ⟨dst,op,ty,pos,after,guard⟩:=o
  dsimp only at h hal
  have sv:∀ {s:Sem Value},(∃v' w' φ',s.run P w= .ok v' w'∧E9 φ own w v (hp.Av us) top' v' w' φ'∧∃L,φ' = φ.ext top L)→
      ∃v' w' L,(do pure (Next.value (←s)):Sem Next).run P w= .ok (.value v') w'∧E9 φ own w v (hp.Av us) top' v' w' (φ.ext top L):=by
    rintro s ⟨v',w',φ',hs,hw,L,rfl⟩
    exact ⟨v',w',L,by simp only [Sem.run_bind,hs,Result.andThen_ok,Sem.run_pure],hw⟩
  unfold Fl at h
  split at h
  all_goals first
    | (simp [B4] at hal;done)
    |skip
  · exact sv (WZ htt H htop h)
  · rename_i t x
    split at h
    · rename_i a ha
      cases h
      exact sv (TY htt H htop (hev _ _ ha) t)
    · cases h
  · exact sv (L9 htt H htop hev h)
  · exact sv (I4 htt H htop .none h)
  · split at h
    · rename_i r a ha;exact sv (I4 htt H htop (.some _ _ (hev _ _ ha)) h)
    · cases h
  · split at h
    · rename_i a b ha hb;exact sv (Mw htt H htop (hev _ _ ha) (hev _ _ hb) h)
    · cases h
  · cases h
end Go.Dm
