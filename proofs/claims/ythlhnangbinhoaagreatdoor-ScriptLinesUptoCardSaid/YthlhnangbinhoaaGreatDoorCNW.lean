/- net.New of any routers. -/
import Derived.Test.YthlhnangbinhoaaGreatDoorSQ
import Derived.Test.YthlhnangbinhoaaGreatDoorCFB
set_option linter.unusedVariables false
namespace Go.Proofs.YthlhnangbinhoaaGreatDoor.Dm
open Go.Dm
set_option maxHeartbeats 16000000
set_option maxRecDepth 20000
structure vx where
 R:List Int
 L:Dk
 lc:Nat
 C:H3
 cc:Nat
 S:Ja
 sc:Nat
 P:Fa.tZ
 late:Int
 now:Int
 last:Int
theorem tS {n:Int}(h:0≤n)(h2:n < 18446744073709551616):Ap .u64 n=n:=Gg (by simpa [IntKind.signed,IntKind.bits] using h) (by simpa [IntKind.signed,IntKind.bits] using h2)
def L0 (n:Nat)(s:vx):Option A7:=some (.cells true 0 [AA (n+7) s.R, .map (some (n+1)), .map (some (n+2)), .map (some (n+3)), .pointer (some ⟨n+4,0,none⟩), .int .u64 s.late, .int .u64 s.now, .pointer (some ⟨n+6,0,none⟩)])
def pk (a b:Int):HQ:=⟨min a b,max a b⟩
theorem ACi {x y:Int}:(bif decide (y < x) then y else x)=min x y:=by
 by_cases h:y < x
 ·simp [h];omega
 ·simp [h];omega
theorem zw {x y:Int}:(bif decide (x < y) then y else x)=max x y:=by
 by_cases h:x < y
 ·simp [h];omega
 ·simp [h];omega
def Nj:Bb:= .pure (fun args _=>match args with | [x,y]=>Gx .i64 x∧Gx .i64 y | _=>False) (fun args _=>match args with | [x,y]=> .agg ⟨[.int .i64 (min (intOf x) (intOf y)), .int .i64 (max (intOf x) (intOf y))]⟩ | _=>undef)
theorem pH:A0 Tryz.prog 107 Nj:=by
 refine .Fm QO ?_ ?_
 ·intro args hp h
  match args,h with
  | [x,y],_=>rfl
 intro args hp hpre top hcl hsc
 match args,hpre with
 | [x,y],⟨hx,hy⟩=>
 rw [hx,hy]
 generalize intOf x=x,intOf y=y
 refine AR.A5 BA QO rfl 12 rfl [.cell 4 202] rfl (show 2≤12 by decide) ?_
 refine CW.vc Oa [0,1,4] (by kernel_rfl) ?_
 (repeat ((try refine Vc.mk' ?_);simp (maxSteps:=6000000) only [go_sem,ACi,zw]))
def PL (last:Int)(lv:Value):Option A7:=some (.cells true 0 [.bool true, .int .i64 last,lv])
def J7:Bb:= .det (fun args _ _=>args= []) (fun _ _ top=>(.pointer (some ⟨top,0,none⟩), [(top,some (.cells true 0 [.bool true, .int .i64 0, .slice none 0 0]))],top+1))
theorem iC:A0 Tryz.prog 106 J7:=by
 refine .Hq Q6 ?_
 intro args hp top hpre hcl hsc
 subst hpre
 refine AR.A5 BA Q6 rfl 3 rfl [.tmp 0] rfl (show 0≤3 by decide) ?_
 refine CW.vc Oa [0] (by kernel_rfl) ?_
 (repeat ((try refine Vc.mk' ?_);simp (maxSteps:=6000000) only [go_sem]))
 (refine ⟨[top],by simp,by simp,by simp, ?_, ?_, ?_⟩ <;> simp [])
theorem apI {h':Hp}{b t:Nat}{v:Value}{l:List Int}(hb:h' b=some (.cells true 1 []))(h:BP AY h' v l)(hn:l.length≤1000000) :
  AM tt.get h' t [68,68] (.slice (some ⟨b,0,none⟩) 0 0) v=some (vn t l.length, [(b,none),(t,AAe AY l)],t+1):=by
 have e1:=h.HC
 have e2:Cq h' 1 l.length v=some (AY.flat l):=h.Cq
 have e3:A3 (AY.flat l)=true:=B8.Nu l
 have e4:(AY.flat l).length=l.length * 1:=B8.C3 ..
 have e5:C5 l.length Nb.bytes=true:=CL (by omega) (by decide)
 have hs:Nb.size=1:=rfl
 have hb2:Nat.ble Nb.bytes 65536=true:=rfl
 have e6:(Nat.ble l.length 0 && !Nat.beq 0 0)=false:=by simp
 have e7:Nat.beq (AY.flat l).length (l.length * 1)=true:=by rw [e4];exact Nat.beq_refl _
 simp only [AM,HP,R8,e1,EA,BX,hb,hs,e2,hb2,e3,e7,Bool.and_self,Nat.beq_refl,Nat.zero_add,Nat.zero_mul,List.length_nil,e5,List.drop_nil,List.nil_append,Bool.not_true,Bool.and_false]
 rfl
theorem kF {α:Type}{E:B8 α}{l:List α}(h:l≠ [])(b:Nat):vn b l.length=AA b l∧AAe E l=AD E l:=by
 cases l with
 |nil=>exact absurd rfl h
 |cons a l=>exact ⟨rfl,rfl⟩
def M1 (x:Dk×Nat)(l:Ak):Dk×Nat:=(NR x.1 (pk l.A l.B) l.EB x.2,Um x.1 (pk l.A l.B) x.2)
def Jc (l:List Ak):Dk×Nat:=l.foldl M1 ([],0)
theorem PJ {l:List Ak}{k:Nat}(h:k < l.length):Jc (l.take (k+1))=M1 (Jc (l.take k)) (at' l k):=by
 rw [DN h];unfold Jc;rw [List.foldl_append];rfl
def Pf (R:List Int)(l:List Ak)(m:Fa.XF)(c:Nat)(late:Int):vx:=⟨R,(Jc l).1,(Jc l).2, [],0, [],0,⟨m,c,Fa.eg⟩,late,0,0⟩
def OK (n:Nat)(s:vx):BI:= [(n,L0 n s),(n+1,some (.map (Dy s.L) s.lc)),(n+2,some (.map (FL s.C) s.cc)),(n+3,some (.map (GA s.S) s.sc)),(n+4,Fa.H7 (n+5) s.P.ks),(n+5,some (.map (Bo s.P.m) s.P.CI)),(n+6,PL s.last (.slice none 0 0)),(n+7,AD AY s.R)]
def RL (R:List Int)(l:List Ak)(rl:List BJ)(late:Int):Int:=if ¬Gr.Gs R l=0 then Gr.Gs R l else if late < 1∨64 < late then 2 else match Fa.Hg rl with
 | .error (_,e)=>e
 | .ok _=>0
def GU (R:List Int)(l:List Ak)(rl:List BJ)(late:Int)(top:Nat):Value×BI×Nat:=if ¬Gr.Gs R l=0∨late < 1∨64 < late then (.tuple ⟨[.pointer none, .int .i64 (RL R l rl late)]⟩, [],top) else match Fa.Hg rl with
 | .error (_,e)=>(.tuple ⟨[.pointer none, .int .i64 e]⟩, [],top)
 | .ok m=>(.tuple ⟨[.pointer (some ⟨top,0,none⟩), .int .i64 0]⟩,OK top (Pf R l m rl.length late),top+8)
def Su (hp:Hp)(top:Nat)(v:Value)(R:List Int)(l:List Ak)(m:Fa.XF)(c:Nat)(late:Int)(k:Nat):SS:=
 ⟨[(14, .pointer (some ⟨top,0,none⟩),true),(51,v,true),(52, .int .i64 (l.length:Int),true),(53, .int .i64 (k:Int),true)],hp.Av (OK top {Pf R l m c late with L:=(Jc (l.take k)).1,lc:=(Jc (l.take k)).2}),top+8⟩
theorem AAB:Dy [] = []:=rfl
theorem ACV:FL [] = []:=rfl
theorem ACb:GA [] = []:=rfl
theorem WT:∀(n:Nat) (l:List Int),l.Nodup→(∀x∈l,1≤x∧x≤(n:Int))→l.length≤n
 |0,l,_,hx=>by
  cases l with
  |nil=>exact Nat.le_refl _
  |cons a l=>have:=hx a (List.mem_cons_self ..);omega
 |n+1,l,hd,hx=>by
  have h1:=WT n (l.filter fun x=>decide (x≠((n+1:Nat):Int))) (hd.filter _) fun x hm=>by
   obtain ⟨h1,h2⟩:=List.mem_filter.1 hm
   have:=hx x h1
   simp only [decide_eq_true_eq] at h2
   omega
  have h2:l.length≤(l.filter fun x=>decide (x≠((n+1:Nat):Int))).length+1:=by
   clear h1 hx
   induction l with
   |nil=>exact Nat.zero_le _
   |cons a l ih=>
    have ih:=ih (List.nodup_cons.1 hd).2
    rw [List.filter_cons]
    by_cases e:a=((n+1:Nat):Int)
    ·have:l.filter (fun x=>decide (x≠((n+1:Nat):Int)))=l:=List.filter_eq_self.2 fun x hm=>by
      have:x≠a:=fun e=>(List.nodup_cons.1 hd).1 (e ▸ hm)
      simpa [e] using this
     rw [if_neg (by simpa using e),this];exact Nat.le_refl _
    ·rw [if_pos (by simpa using e),List.length_cons,List.length_cons];omega
  omega
theorem TO:∀(l done:List Int),Gr.aG done l=true→done.Nodup→(done ++ l).Nodup
 | [],done,_,hd=>by rw [List.append_nil];exact hd
 |n :: l,done,h,hd=>by
  have h0:=h
  unfold Gr.aG at h
  simp only [Bool.and_eq_true] at h
  have hn:n ∉ done:=fun hm=>by
   have:=h
   grind [List.any_eq_true,Gr.SC]
  have:=TO l (done ++ [n]) (by grind) (by rw [List.nodup_append];exact ⟨hd,by simp,fun a ha b hb e=>hn (by rw [List.mem_singleton] at hb;rw [←hb,←e];exact ha)⟩)
  rwa [List.append_assoc] at this
theorem rz {R:List Int}{l:List Ak}(h:Gr.Gs R l=0):R.length≤24:=by
 obtain ⟨h1,_⟩:=Gr.jg h
 have hd:=TO R [] h1 List.nodup_nil
 refine WT 24 R hd fun x hx=> ?_
 have:=Gr.ZO R [] h1 x hx
 simpa [Gr.CM] using this
def Xi (l:List Int)(top:Nat):Value×BI×Nat:=if l= [] then (.slice none 0 0, [],top) else (AA top l, [(top,AD AY l)],top+1)
def IP:Bb:= .det (fun args hp _=>match args with | [v]=> ∃l,BP AY hp v l∧(l= []→v= .slice none 0 0)∧l.length≤1000000 | _=>False) (fun args hp top=>match args with | [v]=>Xi (AY.rd hp v) top | _=>(undef, [],top))
theorem cK:A0 Tryz.prog 105 IP:=by
 refine .Hq QS ?_
 intro args hp top hpre hcl hsc
 match args,hpre with
 | [v],⟨l,hS,hnil,hn⟩=>
 have hs:=hS.low hcl
 simp only [hS.rd]
 refine AR.A5 BA QS rfl 8 rfl [.tmp 2] rfl (show 1≤8 by decide) ?_
 have hS0:=hS
 by_cases hne:l= []
 ·subst hne
  have hv:=hnil rfl
  subst hv
  refine CW.vc Oa [0,2,4] (by kernel_rfl) ?_
  (repeat ((try refine Vc.mk' ?_);simp (maxSteps:=6000000) only [go_sem]))
  simp only [Xi,if_true]
  (refine ⟨[],by simp,by simp,by simp, ?_, ?_, ?_⟩ <;> simp [])
 cases hS with
 |nils=>exact absurd rfl hne
 |emp=>exact absurd rfl hne
 |rows b o c rw vs l hb hv ho hc hn2=>
  have hl:=hne
  simp only [Xi,if_neg hne]
  have hbt:b < top:=hs
  have hbt2:¬top=b:=by omega
  have hA:∀ {h':Hp} {x t:Nat},h' x=some (.cells true 1 [])→h' b=some (.cells rw 1 vs)→AM tt.get h' t [68,68] (.slice (some ⟨x,0,none⟩) 0 0) (.slice (some ⟨b,o,none⟩) l.length c)=some (AA t l, [(x,none),(t,AD AY l)],t+1):=fun {h'} {x} {t} h1 h2=>by
   rw [apI h1 (BP.rows (E:=AY) b o c rw vs l h2 hv ho hc hn2) hn,(kF (E:=AY) hl t).1,(kF (E:=AY) hl t).2]
  replace hb:hp b=some (.cells rw 1 vs):=hb
  refine CW.vc Oa [0,2,4] (by kernel_rfl) ?_
  (repeat ((try refine Vc.mk' ?_);simp (maxSteps:=6000000) only [go_sem,hA,hb,Ae hbt,List.replicate_zero]))
  (refine ⟨[top+1],by simp,by simp,by simp, ?_, ?_, ?_⟩ <;> simp [])
noncomputable def uc:FuncId→Bb:=Bw (Bw (Bw (Bw (Bw wy 107 Nj) 106 J7) 105 IP) 103 Gr.Mj) 104 Fa.On
theorem Kd:CQ Tryz.prog tt.get uc:=((((Oa.add pH).add iC).add cK).add Gr.AAz).add Fa.ue
theorem Sk:uc 105=IP:=rfl
theorem Ok:uc 103=Gr.Mj:=rfl
theorem RY:uc 104=Fa.On:=rfl
theorem Xf:uc 106=J7:=rfl
theorem XK:uc 107=Nj:=rfl
def Mp:Bb:= .det (fun args hp _=>match args with | [u,v,r, .int .i64 _]=>(∃R,BP AY hp u R∧(R= []→u= .slice none 0 0))∧GQ Ad hp v∧GQ AJ hp r | _=>False) (fun args hp top=>match args with
 | [u,v,r,late]=>GU (AY.rd hp u) (Ad.rd hp v) (AJ.rd hp r) (intOf late) top | _=>(undef, [],top))
theorem rV:A0 Tryz.prog 87 Mp:=by
 refine .Hq Ty ?_
 intro args hp top hpre hcl hsc
 match args,hpre with
 | [u,v,r, .int .i64 late],⟨⟨R,h,hR⟩,⟨l,g⟩,⟨rl,q⟩⟩=>
 have hs:=h.low hcl
 have gs:=g.low hcl
 have qs:=q.low hcl
 simp only [h.rd,g.rd,q.rd,intOf_int]
 have e1:GQ AY hp u=True:=h.P
 have e2:GQ Ad hp v=True:=g.P
 have r1:=h.rd
 have r2:=g.rd
 have kq:∀ {h':Hp},BQ top [] h' hp→GQ AJ h' r=True:=fun {h'} hk=>(q.BH qs hk).P
 have kq2:∀ {h':Hp},BQ top [] h' hp→AJ.rd h' r=rl:=fun {h'} hk=>(q.BH qs hk).rd
 have kr2:∀ {h':Hp},BQ top [] h' hp→AY.rd h' u=R:=fun {h'} hk=>(h.BH hs hk).rd
 refine AR.A5 BA Ty rfl 70 rfl [.tmp 8, .tmp 9] rfl (show 4≤70 by decide) ?_
 by_cases c1:Gr.Gs R l=0
 case neg=>
  have e:GU R l rl late top=(.tuple ⟨[.pointer none, .int .i64 (Gr.Gs R l)]⟩, [],top):=by unfold GU RL;rw [if_pos (.inl c1),if_pos c1]
  refine CW.vc Kd [0,1,2,3,8,9,11,12,13,14,16,24,31,38,51,52,53,54] (by kernel_rfl) ?_
  (repeat ((try refine Vc.mk' ?_);simp (maxSteps:=6000000) only [go_sem,g.P,g.rd,Ok,Gr.Mj,Gr.J2,e1,r1,c1]))
  rw [e]
  (refine ⟨[],by simp,by simp,by simp, ?_, ?_, ?_⟩ <;> simp [])
 by_cases c2:late < 1
 ·have e:GU R l rl late top=(.tuple ⟨[.pointer none, .int .i64 2]⟩, [],top):=by unfold GU RL;rw [if_pos (.inr (.inl c2)),if_neg (by simp [c1]),if_pos (.inl c2)]
  refine CW.vc Kd [0,1,2,3,8,9,11,12,13,14,16,24,31,38,51,52,53,54] (by kernel_rfl) ?_
  (repeat ((try refine Vc.mk' ?_);simp (maxSteps:=6000000) only [go_sem,g.P,g.rd,Ok,Gr.Mj,Gr.J2,e1,r1,c1,c2]))
  rw [e]
  (refine ⟨[],by simp,by simp,by simp, ?_, ?_, ?_⟩ <;> simp [])
 by_cases c3:64 < late
 ·have e:GU R l rl late top=(.tuple ⟨[.pointer none, .int .i64 2]⟩, [],top):=by unfold GU RL;rw [if_pos (.inr (.inr c3)),if_neg (by simp [c1]),if_pos (.inr c3)]
  refine CW.vc Kd [0,1,2,3,8,9,11,12,13,14,16,24,31,38,51,52,53,54] (by kernel_rfl) ?_
  (repeat ((try refine Vc.mk' ?_);simp (maxSteps:=6000000) only [go_sem,g.P,g.rd,Ok,Gr.Mj,Gr.J2,e1,r1,c1,c2,c3]))
  rw [e]
  (refine ⟨[],by simp,by simp,by simp, ?_, ?_, ?_⟩ <;> simp [])
 have hRn:=rz c1
 have kr:∀ {h':Hp},BQ top [] h' hp→(∃l,BP AY h' u l∧(l= []→u= .slice none 0 0)∧l.length≤1000000)=True:=fun {h'} hk=>eq_true ⟨R,h.BH hs hk,hR,by omega⟩
 unfold GU
 rw [if_neg (by rintro (h | h | h);exact h c1;exact c2 h;exact c3 h)]
 cases hx:Fa.Hg rl with
 |error p=>
  obtain ⟨i,e⟩:=p
  have he:=Fa.N8 hx
  refine CW.vc Kd [0,1,2,3,8,9,11,12,13,14,16,24,31,38,51,52,53,54] (by kernel_rfl) ?_
  (repeat ((try refine Vc.mk' ?_);simp (maxSteps:=6000000) only [go_sem,g.P,g.rd,Ok,Gr.Mj,Gr.J2,RY,Fa.On,Fa.Om,e1,r1,c1,c2,c3,kq,kq2,hx,he]))
  (refine ⟨[],by simp,by simp,by simp, ?_, ?_, ?_⟩ <;> simp [])
 |ok m=>
  by_cases hR0:R= []
  ·subst hR0
   refine CW.vc Kd [0,1,2,3,8,9,11,12,13,14,16,24,31,38,51,52,53,54] (by kernel_rfl) ?_
   (repeat ((try refine Vc.mk' ?_);simp (maxSteps:=6000000) only [go_sem,G4 g,g.P,g.rd,Ok,Gr.Mj,Gr.J2,RY,Fa.On,Fa.Om,Sk,IP,Xf,J7,e1,r1,c1,c2,c3,kq,kq2,hx,kr,kr2,Xi,if_true,Fa.T5]))
   have wl:Ap .u64 late=late:=tS (by omega) (by omega)
   refine CW.DC (Su hp top v [] l m rl.length late) (fun k=>k≤l.length) (fun k=>l.length - k) 0 (Nat.zero_le _) ?_ ?_
   ·exact (by refine BR.mk' [top+9,top+5,top+6,top+7,top+4,top+3,top+8,top+2] hcl (by simp) (by simp) rfl (AU ?_) ?_ ?_ <;> simp [Ex,GL,Sc.Az (fun j hj=>AB hj) gs,OK,L0,Pf,Jc,PL,Fa.H7,wl,AAB,ACV,ACb])
   ·intro k hk
    by_cases hlt:k < l.length
    ·have hst:=PJ hlt
     refine CW.vc Kd [0,1,2,3,8,9,11,12,13,14,16,24,31,38,51,52,53,54] (by kernel_rfl) ?_
     (repeat ((try refine Vc.mk' ?_);simp (maxSteps:=6000000) only [go_sem,C1 g,DY g,Bh gs,XK,Nj,Su,OK,L0,Pf,hlt]))
     refine .mk (k+1) hlt (by omega) ((by refine BR.mk' [top,top+1,top+2,top+3,top+4,top+5,top+6,top+7] hcl (by simp) (by simp) rfl (AU ?_) ?_ ?_ <;> simp [Sc.Az (fun j hj=>AB hj) gs,OK,L0,Pf,PL,Fa.H7,hst,M1,pk,Bf hlt g.le]))
    ·have hk2:k=l.length:=by omega
     subst hk2
     refine CW.vc Kd [0,1,2,3,8,9,11,12,13,14,16,24,31,38,51,52,53,54] (by kernel_rfl) ?_
     (repeat ((try refine Vc.mk' ?_);simp (maxSteps:=6000000) only [go_sem,Su,OK,L0,Pf,Int.lt_irrefl,decide_false,List.take_length]))
     (refine ⟨[top,top+1,top+2,top+3,top+4,top+5,top+6,top+7],by simp,by simp,by simp, ?_, ?_, ?_⟩ <;> simp [PL,Fa.H7])
  ·skip
   refine CW.vc Kd [0,1,2,3,8,9,11,12,13,14,16,24,31,38,51,52,53,54] (by kernel_rfl) ?_
   (repeat ((try refine Vc.mk' ?_);simp (maxSteps:=6000000) only [go_sem,G4 g,g.P,g.rd,Ok,Gr.Mj,Gr.J2,RY,Fa.On,Fa.Om,Sk,IP,Xf,J7,e1,r1,c1,c2,c3,kq,kq2,hx,kr,kr2,Xi,if_neg hR0,Fa.T5]))
   have wl:Ap .u64 late=late:=tS (by omega) (by omega)
   have hm1:∀ {b:Nat},Az (rn top [top+10,top+6,top+7,top+8,top+4,top+3,top+9,top+5] (top+11)) (AA (top+7) R)=AA (top+5) R:=fun {b}=>by
    cases R with
    |nil=>rfl
    |cons a R=>simp [AA,Az,rn]
   refine CW.DC (Su hp top v R l m rl.length late) (fun k=>k≤l.length) (fun k=>l.length - k) 0 (Nat.zero_le _) ?_ ?_
   ·exact (by refine BR.mk' [top+10,top+6,top+7,top+8,top+4,top+3,top+9,top+5] hcl (by simp) (by simp) rfl (AU ?_) ?_ ?_ <;> simp [Sc.Az (fun j hj=>AB hj) gs,OK,L0,Pf,Jc,PL,Fa.H7,wl,AAB,ACV,ACb])
   ·intro k hk
    by_cases hlt:k < l.length
    ·have hst:=PJ hlt
     refine CW.vc Kd [0,1,2,3,8,9,11,12,13,14,16,24,31,38,51,52,53,54] (by kernel_rfl) ?_
     (repeat ((try refine Vc.mk' ?_);simp (maxSteps:=6000000) only [go_sem,C1 g,DY g,Bh gs,XK,Nj,Su,OK,L0,Pf,hlt]))
     refine .mk (k+1) hlt (by omega) ((by refine BR.mk' [top,top+1,top+2,top+3,top+4,top+5,top+6,top+7] hcl (by simp) (by simp) rfl (AU ?_) ?_ ?_ <;> simp [Sc.Az (fun j hj=>AB hj) gs,OK,L0,Pf,PL,Fa.H7,hst,M1,pk,Bf hlt g.le]))
    ·have hk2:k=l.length:=by omega
     subst hk2
     refine CW.vc Kd [0,1,2,3,8,9,11,12,13,14,16,24,31,38,51,52,53,54] (by kernel_rfl) ?_
     (repeat ((try refine Vc.mk' ?_);simp (maxSteps:=6000000) only [go_sem,Su,OK,L0,Pf,Int.lt_irrefl,decide_false,List.take_length]))
     (refine ⟨[top,top+1,top+2,top+3,top+4,top+5,top+6,top+7],by simp,by simp,by simp, ?_, ?_, ?_⟩ <;> simp [PL,Fa.H7])
end Go.Proofs.YthlhnangbinhoaaGreatDoor.Dm
