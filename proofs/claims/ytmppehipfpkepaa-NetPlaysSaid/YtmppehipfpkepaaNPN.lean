/- Bc.New of any routers. -/
import Derived.Test.YtmppehipfpkepaaN6
set_option linter.unusedVariables false
namespace Go.Proofs.Ytmppehipfpkepaa.Dm
open Go.Dm
set_option maxHeartbeats 16000000
set_option maxRecDepth 20000
theorem Zp:∀(n:Nat) (l:List Int),l.Nodup→(∀x∈l,1≤x∧x≤(n:Int))→l.length≤n
 |0,l,_,hx=>by
  cases l with
  |nil=>exact Nat.le_refl _
  |cons a l=>have:=hx a (List.mem_cons_self ..);omega
 |n+1,l,hd,hx=>by
  have h1:=Zp n (l.filter fun x=>decide (x≠((n+1:Nat):Int))) (hd.filter _) fun x hm=>by
   obtain ⟨h1,h2⟩:=List.mem_filter.1 hm
   have:=hx x h1
   simp only [decide_eq_true_eq] at h2
   omega
  have h2:l.length≤(l.filter fun x=>decide (x≠((n+1:Nat):Int))).length+1:=by
   clear h1 hx
   induction l with
   |nil=>exact Nat.zero_le _
   |cons a l ih=>
    have ih:=ih (List.nodup_cons.1 hd).2
    rw [List.filter_cons]
    by_cases e:a=((n+1:Nat):Int)
    ·have:l.filter (fun x=>decide (x≠((n+1:Nat):Int)))=l:=List.filter_eq_self.2 fun x hm=>by
      have:x≠a:=fun e=>(List.nodup_cons.1 hd).1 (e ▸ hm)
      simpa [e] using this
     rw [if_neg (by simpa using e),this];exact Nat.le_refl _
    ·rw [if_pos (by simpa using e),List.length_cons,List.length_cons];omega
  omega
theorem Pa:∀(l done:List Int),Gr.UC done l=true→done.Nodup→(done ++ l).Nodup
 | [],done,_,hd=>by rw [List.append_nil];exact hd
 |n :: l,done,h,hd=>by
  have h0:=h
  unfold Gr.UC at h
  simp only [Bool.and_eq_true] at h
  have hn:n ∉ done:=fun hm=>by
   have:=h
   grind [List.any_eq_true,Gr.FQ]
  have:=Pa l (done ++ [n]) (by grind) (by rw [List.nodup_append];exact ⟨hd,by simp,fun a ha b hb e=>hn (by rw [List.mem_singleton] at hb;rw [←hb,←e];exact ha)⟩)
  rwa [List.append_assoc] at this
theorem RU {R:List Int}{l:List AX}(h:Gr.DS R l=0):R.length≤24:=by
 obtain ⟨h1,_⟩:=Gr.Cv h
 have hd:=Pa R [] h1 List.nodup_nil
 refine Zp 24 R hd fun x hx=> ?_
 have:=Gr.KA R [] h1 x hx
 simpa [Gr.BH] using this
def ZR (l:List Int)(top:Nat):Value×BC×Nat:=if l= [] then (.slice none 0 0, [],top) else (AK top l, [(top,AO Ab l)],top+1)
def KV:Bp:= .det (fun args hp _=>match args with | [v]=> ∃l,BU Ab hp v l∧(l= []→v= .slice none 0 0)∧l.length≤1000000 | _=>False) (fun args hp top=>match args with | [v]=>ZR (Ab.rd hp v) top | _=>(undef, [],top))
theorem gF:BK Try.prog 40 KV:=by
 refine .Cc O6 ?_
 intro args hp top hpre hcl hsc
 match args,hpre with
 | [v],⟨l,hS,hnil,hn⟩=>
 have hs:=hS.low hcl
 simp only [hS.rd]
 refine AL.Au BE O6 rfl 8 rfl [.tmp 2] rfl (show 1≤8 by decide) ?_
 have hS0:=hS
 by_cases hne:l= []
 ·subst hne
  have hv:=hnil rfl
  subst hv
  refine CW.vc DL [0,2,4] (by kernel_rfl) ?_
  (repeat ((try refine Vc.mk' ?_);simp only [go_sem]))
  simp only [ZR,if_true]
  (refine ⟨[],by simp,by simp,by simp, ?_, ?_, ?_⟩ <;> simp [Ad,AD.nil,AE.refl])
 cases hS with
 |nils=>exact absurd rfl hne
 |emp=>exact absurd rfl hne
 |rows b o c rw vs l hb hv ho hc hn2=>
  have hl:=hne
  simp only [ZR,if_neg hne]
  have hbt:b < top:=hs
  have hbt2:¬top=b:=by omega
  have hA:∀ {h':Hp} {x t:Nat},h' x=some (.cells true 1 [])→h' b=some (.cells rw 1 vs)→Ar tt.get h' t [40,40] (.slice (some ⟨x,0,none⟩) 0 0) (.slice (some ⟨b,o,none⟩) l.length c)=some (AK t l, [(x,none),(t,AO Ab l)],t+1):=fun {h'} {x} {t} h1 h2=>by
   rw [apI h1 (BU.rows (E:=Ab) b o c rw vs l h2 hv ho hc hn2) hn,(Vl (E:=Ab) hl t).1,(Vl (E:=Ab) hl t).2]
  replace hb:hp b=some (.cells rw 1 vs):=hb
  refine CW.vc DL [0,2,4] (by kernel_rfl) ?_
  (repeat ((try refine Vc.mk' ?_);simp only [go_sem,Nat.reduceAdd,Nat.reduceLeDiff,hA,hb,AS hbt,List.replicate_zero]))
  (refine ⟨[top+1],by simp,by simp,by simp, ?_, ?_, ?_⟩ <;> simp [AD.nil,AD.cons,AQ,AM,Af,AB,AE.set,AE.refl])
noncomputable def gR:FuncId→Bp:=Bu (Bu (Bu (Bu OS 40 KV) 38 Gr.ET) 39 Fa.JH) 10 Kz
theorem KE:Cf Try.prog tt.get gR:=(((DL.add gF).add Gr.vy).add Fa.Sv).add eN
theorem S8:gR 40=KV:=rfl
theorem M9:gR 38=Gr.ET:=rfl
theorem Pg:gR 39=Fa.JH:=rfl
theorem Uq:gR 41=JO:=rfl
theorem Ul:gR 30=B3:=rfl
def RJ:Bp:= .det (fun args hp _=>match args with | [u,v,r, .int .i64 _]=>(∃R,BU Ab hp u R∧(R= []→u= .slice none 0 0))∧Dp An hp v∧Dp Ap hp r | _=>False) (fun args hp top=>match args with
 | [u,v,r,late]=>Cu (Ab.rd hp u) (An.rd hp v) (Ap.rd hp r) (intOf late) top | _=>(undef, [],top))
theorem uU:BK Try.prog 21 RJ:=by
 refine .Cc PI ?_
 intro args hp top hpre hcl hsc
 match args,hpre with
 | [u,v,r, .int .i64 late],⟨⟨R,h,hR⟩,⟨l,g⟩,⟨rl,q⟩⟩=>
 have hs:=h.low hcl
 have gs:=g.low hcl
 have qs:=q.low hcl
 simp only [h.rd,g.rd,q.rd,BA]
 have e1:Dp Ab hp u=True:=h.P
 have e2:Dp An hp v=True:=g.P
 have r1:=h.rd
 have r2:=g.rd
 have kq:∀ {h':Hp},AE top [] h' hp→Dp Ap h' r=True:=fun {h'} hk=>(q.BT qs hk).P
 have kq2:∀ {h':Hp},AE top [] h' hp→Ap.rd h' r=rl:=fun {h'} hk=>(q.BT qs hk).rd
 have kr2:∀ {h':Hp},AE top [] h' hp→Ab.rd h' u=R:=fun {h'} hk=>(h.BT hs hk).rd
 refine AL.Au BE PI rfl 70 rfl [.tmp 8, .tmp 9] rfl (show 4≤70 by decide) ?_
 by_cases c1:Gr.DS R l=0
 case neg=>
  have e:Cu R l rl late top=(.tuple ⟨[.pointer none, .int .i64 (Gr.DS R l)]⟩, [],top):=by unfold Cu MM;rw [if_pos (.inl c1),if_pos c1]
  refine CW.vc KE [0,1,2,3,8,9,11,12,13,14,16,24,31,38,51,52,53,54] (by kernel_rfl) ?_
  (repeat ((try refine Vc.mk' ?_);simp only [go_sem,Nat.reduceAdd,g.P,g.rd,M9,Gr.ET,Gr.FF,e1,r1,c1]))
  rw [e]
  (refine ⟨[],by simp,by simp,by simp, ?_, ?_, ?_⟩ <;> simp [Ad,Ag,AD.nil,AE.set,AE.refl])
 by_cases c2:late < 1
 ·have e:Cu R l rl late top=(.tuple ⟨[.pointer none, .int .i64 2]⟩, [],top):=by unfold Cu MM;rw [if_pos (.inr (.inl c2)),if_neg (by simp [c1]),if_pos (.inl c2)]
  refine CW.vc KE [0,1,2,3,8,9,11,12,13,14,16,24,31,38,51,52,53,54] (by kernel_rfl) ?_
  (repeat ((try refine Vc.mk' ?_);simp only [go_sem,Nat.reduceAdd,g.P,g.rd,M9,Gr.ET,Gr.FF,e1,r1,c1,c2]))
  rw [e]
  (refine ⟨[],by simp,by simp,by simp, ?_, ?_, ?_⟩ <;> simp [Ad,Ag,AD.nil,AE.set,AE.refl])
 by_cases c3:64 < late
 ·have e:Cu R l rl late top=(.tuple ⟨[.pointer none, .int .i64 2]⟩, [],top):=by unfold Cu MM;rw [if_pos (.inr (.inr c3)),if_neg (by simp [c1]),if_pos (.inr c3)]
  refine CW.vc KE [0,1,2,3,8,9,11,12,13,14,16,24,31,38,51,52,53,54] (by kernel_rfl) ?_
  (repeat ((try refine Vc.mk' ?_);simp only [go_sem,Nat.reduceAdd,g.P,g.rd,M9,Gr.ET,Gr.FF,e1,r1,c1,c2,c3]))
  rw [e]
  (refine ⟨[],by simp,by simp,by simp, ?_, ?_, ?_⟩ <;> simp [Ad,Ag,AD.nil,AE.set,AE.refl])
 have hRn:=RU c1
 have kr:∀ {h':Hp},AE top [] h' hp→(∃l,BU Ab h' u l∧(l= []→u= .slice none 0 0)∧l.length≤1000000)=True:=fun {h'} hk=>eq_true ⟨R,h.BT hs hk,hR,by omega⟩
 unfold Cu
 rw [if_neg (by rintro (h | h | h);exact h c1;exact c2 h;exact c3 h)]
 cases hx:Fa.Dw rl with
 |error p=>
  obtain ⟨i,e⟩:=p
  have he:=Fa.JB hx
  refine CW.vc KE [0,1,2,3,8,9,11,12,13,14,16,24,31,38,51,52,53,54] (by kernel_rfl) ?_
  (repeat ((try refine Vc.mk' ?_);simp only [go_sem,Nat.reduceAdd,g.P,g.rd,M9,Gr.ET,Gr.FF,Pg,Fa.JH,Fa.L4,e1,r1,c1,c2,c3,kq,kq2,hx,he]))
  (refine ⟨[],by simp,by simp,by simp, ?_, ?_, ?_⟩ <;> simp [Ad,Ag,AD.nil,AE.set,AE.refl])
 |ok m=>
  by_cases hR0:R= []
  ·subst hR0
   refine CW.vc KE [0,1,2,3,8,9,11,12,13,14,16,24,31,38,51,52,53,54] (by kernel_rfl) ?_
   (repeat ((try refine Vc.mk' ?_);simp only [go_sem,Nat.reduceAdd,Nat.reduceLeDiff,CB g,g.P,g.rd,M9,Gr.ET,Gr.FF,Pg,Fa.JH,Fa.L4,S8,KV,Uq,JO,e1,r1,c1,c2,c3,kq,kq2,hx,kr,kr2,ZR,if_true,Fa.Cm]))
   have wl:BQ .u64 late=late:=PT (by omega) (by omega)
   refine CW.CZ (ON hp top v [] l m rl.length late) (fun k=>k≤l.length) (fun k=>l.length - k) 0 (Nat.zero_le _) ?_ ?_
   ·exact (by refine BO.mk' [top+9,top+5,top+6,top+7,top+4,top+3,top+8,top+2] hcl (by simp) (by simp) rfl (AV ?_) ?_ ?_ <;> simp [Ax,Cd,Ad,Ag,BX,AD.nil,AD.cons,AF,AG,BZ,AM,Aw,AB,AH,AE.set,AE.refl,Ai,Dh,EN,Sc.Ad (fun j hj=>AA hj) gs,FZ,Bi,GV,Gb,Bv,Fa.B7,wl,yA,x7,zD])
   ·intro k hk
    by_cases hlt:k < l.length
    ·have hst:=ML hlt
     refine CW.vc KE [0,1,2,3,8,9,11,12,13,14,16,24,31,38,51,52,53,54] (by kernel_rfl) ?_
     (repeat ((try refine Vc.mk' ?_);simp only [go_sem,reduceCtorEq,Nat.reduceAdd,Nat.reduceLT,Nat.reduceEqDiff,B4 g,DN g,Ao gs,Ul,B3,ON,FZ,Bi,GV,hlt]))
     refine .mk (k+1) hlt (by omega) ((by refine BO.mk' [top,top+1,top+2,top+3,top+4,top+5,top+6,top+7] hcl (by simp) (by simp) rfl (AV ?_) ?_ ?_ <;> simp [Ax,Cd,Ad,Ag,BX,AD.nil,AD.cons,AF,AG,BZ,AQ,AM,Aw,Af,AB,AH,AE.set,AE.refl,C9,Ai,Cn,ES,Sc.Ad (fun j hj=>AA hj) gs,FZ,Bi,GV,Bv,Fa.B7,hst,H9,pk,Av hlt g.le]))
    ·have hk2:k=l.length:=by omega
     subst hk2
     refine CW.vc KE [0,1,2,3,8,9,11,12,13,14,16,24,31,38,51,52,53,54] (by kernel_rfl) ?_
     (repeat ((try refine Vc.mk' ?_);simp only [go_sem,ON,FZ,Bi,GV,Int.lt_irrefl,decide_false,List.take_length]))
     (refine ⟨[top,top+1,top+2,top+3,top+4,top+5,top+6,top+7],by simp,by simp,by simp, ?_, ?_, ?_⟩ <;> simp [Ad,Ag,BX,AD.nil,AD.cons,AF,AG,BZ,AQ,AM,Aw,Af,AB,AH,AE.set,AE.refl,C9,Ai,Cn,ES,Bv,Fa.B7])
  ·skip
   refine CW.vc KE [0,1,2,3,8,9,11,12,13,14,16,24,31,38,51,52,53,54] (by kernel_rfl) ?_
   (repeat ((try refine Vc.mk' ?_);simp only [go_sem,Nat.reduceAdd,Nat.reduceLeDiff,CB g,g.P,g.rd,M9,Gr.ET,Gr.FF,Pg,Fa.JH,Fa.L4,S8,KV,Uq,JO,e1,r1,c1,c2,c3,kq,kq2,hx,kr,kr2,ZR,if_neg hR0,Fa.Cm]))
   have wl:BQ .u64 late=late:=PT (by omega) (by omega)
   have hm1:∀ {b:Nat},Ad (rn top [top+10,top+6,top+7,top+8,top+4,top+3,top+9,top+5] (top+11)) (AK (top+7) R)=AK (top+5) R:=fun {b}=>by
    cases R with
    |nil=>rfl
    |cons a R=>simp [AK,Ad,rn]
   refine CW.CZ (ON hp top v R l m rl.length late) (fun k=>k≤l.length) (fun k=>l.length - k) 0 (Nat.zero_le _) ?_ ?_
   ·exact (by refine BO.mk' [top+10,top+6,top+7,top+8,top+4,top+3,top+9,top+5] hcl (by simp) (by simp) rfl (AV ?_) ?_ ?_ <;> simp [Ax,Cd,Ad,Ag,BX,AD.nil,AD.cons,AF,AG,BZ,AQ,AM,Aw,Af,AB,AH,AE.set,AE.refl,Ai,Sc.Ad (fun j hj=>AA hj) gs,FZ,Bi,GV,Gb,Bv,Fa.B7,wl,yA,x7,zD])
   ·intro k hk
    by_cases hlt:k < l.length
    ·have hst:=ML hlt
     refine CW.vc KE [0,1,2,3,8,9,11,12,13,14,16,24,31,38,51,52,53,54] (by kernel_rfl) ?_
     (repeat ((try refine Vc.mk' ?_);simp only [go_sem,reduceCtorEq,Nat.reduceAdd,Nat.reduceLT,Nat.reduceEqDiff,B4 g,DN g,Ao gs,Ul,B3,ON,FZ,Bi,GV,hlt]))
     refine .mk (k+1) hlt (by omega) ((by refine BO.mk' [top,top+1,top+2,top+3,top+4,top+5,top+6,top+7] hcl (by simp) (by simp) rfl (AV ?_) ?_ ?_ <;> simp [Ax,Cd,Ad,Ag,BX,AD.nil,AD.cons,AF,AG,BZ,AQ,AM,Aw,Af,AB,AH,AE.set,AE.refl,C9,Ai,Cn,ES,Sc.Ad (fun j hj=>AA hj) gs,FZ,Bi,GV,Bv,Fa.B7,hst,H9,pk,Av hlt g.le]))
    ·have hk2:k=l.length:=by omega
     subst hk2
     refine CW.vc KE [0,1,2,3,8,9,11,12,13,14,16,24,31,38,51,52,53,54] (by kernel_rfl) ?_
     (repeat ((try refine Vc.mk' ?_);simp only [go_sem,ON,FZ,Bi,GV,Int.lt_irrefl,decide_false,List.take_length]))
     (refine ⟨[top,top+1,top+2,top+3,top+4,top+5,top+6,top+7],by simp,by simp,by simp, ?_, ?_, ?_⟩ <;> simp [Ad,Ag,BX,AD.nil,AD.cons,AF,AG,BZ,AQ,AM,Aw,Af,AB,AH,AE.set,AE.refl,C9,Ai,Cn,ES,Bv,Fa.B7])
end Go.Proofs.Ytmppehipfpkepaa.Dm
