/- net.New of any routers. -/
import Derived.Test.YthlhnangbinhoaaGreatDoorSQ
import Derived.Test.YthlhnangbinhoaaGreatDoorCFB
set_option linter.unusedVariables false
namespace Go.Proofs.YthlhnangbinhoaaGreatDoor.Dm
open Go.Dm
set_option maxHeartbeats 16000000
set_option maxRecDepth 20000
structure tn where
 R:List Int
 L:Dc
 lc:Nat
 C:Hg
 cc:Nat
 S:Il
 sc:Nat
 P:Fa.sK
 late:Int
 now:Int
 last:Int
theorem tM {n:Int}(h:0≤n)(h2:n < 18446744073709551616):Ad .u64 n=n:=Gh (by simpa [IntKind.signed,IntKind.bits] using h) (by simpa [IntKind.signed,IntKind.bits] using h2)
def Ln (n:Nat)(s:tn):Option A8:=some (.cells true 0 [AA (n+7) s.R, .map (some (n+1)), .map (some (n+2)), .map (some (n+3)), .pointer (some ⟨n+4,0,none⟩), .int .u64 s.late, .int .u64 s.now, .pointer (some ⟨n+6,0,none⟩)])
def pk(a b:Int):Gq:=⟨min a b,max a b⟩
theorem AA5 {x y:Int}:(bif decide (y < x) then y else x)=min x y:=by
 by_cases h:y < x
 ·simp [h];omega
 ·simp [h];omega
theorem AA6 {x y:Int}:(bif decide (x < y) then y else x)=max x y:=by
 by_cases h:x < y
 ·simp [h];omega
 ·simp [h];omega
def Mh:BE:= .pure (fun args _=>match args with | [x,y]=>GR .i64 x∧GR .i64 y | _=>False) (fun args _=>match args with | [x,y]=> .agg ⟨[.int .i64 (min (intOf x) (intOf y)), .int .i64 (max (intOf x) (intOf y))]⟩ | _=>undef)
theorem pj:Ag Tryz.prog 107 Mh:=by
 refine .EK Wa ?_ ?_
 ·intro args hp h
  match args,h with
  | [x,y],_=>rfl
 intro args hp hpre top hcl hsc
 match args,hpre with
 | [x,y],⟨hx,hy⟩=>
 rw [hx,hy]
 generalize intOf x=x,intOf y=y
 refine AJ.Af Am Wa rfl 12 rfl [.cell 4 202] rfl (show 2≤12 by decide) ?_
 refine CW.vc N4 [0,1,4] (by kernel_rfl) ?_
 (repeat ((try refine Vc.mk' ?_);simp (maxSteps:=6000000) only [go_sem,AA5,AA6]))
def Om (last:Int)(lv:Value):Option A8:=some (.cells true 0 [.bool true, .int .i64 last,lv])
def Ju:BE:= .det (fun args _ _=>args= []) (fun _ _ top=>(.pointer (some ⟨top,0,none⟩), [(top,some (.cells true 0 [.bool true, .int .i64 0, .slice none 0 0]))],top+1))
theorem jm:Ag Tryz.prog 106 Ju:=by
 refine .Eh WZ ?_
 intro args hp top hpre hcl hsc
 subst hpre
 refine AJ.Af Am WZ rfl 3 rfl [.tmp 0] rfl (show 0≤3 by decide) ?_
 refine CW.vc N4 [0] (by kernel_rfl) ?_
 (repeat ((try refine Vc.mk' ?_);simp (maxSteps:=6000000) only [go_sem]))
 (refine ⟨[top],by simp,by simp,by simp, ?_, ?_, ?_⟩ <;> simp [])
theorem apI {h':Hp}{b t:Nat}{v:Value}{l:List Int}(hb:h' b=some (.cells true 1 []))(h:BF AL h' v l)(hn:l.length≤1000000) :
  AK tt.get h' t [68,68] (.slice (some ⟨b,0,none⟩) 0 0) v=some (v7 t l.length, [(b,none),(t,ABd AL l)],t+1):=by
 have e1:=h.G9
 have e2:Co h' 1 l.length v=some (AL.flat l):=h.Co
 have e3:Au (AL.flat l)=true:=B6.Mx l
 have e4:(AL.flat l).length=l.length * 1:=B6.EH ..
 have e5:Cu l.length MT.bytes=true:=CO (by omega) (by decide)
 have hs:MT.size=1:=rfl
 have hb2:Nat.ble MT.bytes 65536=true:=rfl
 have e6:(Nat.ble l.length 0 && !Nat.beq 0 0)=false:=by simp
 have e7:Nat.beq (AL.flat l).length (l.length * 1)=true:=by rw [e4];exact Nat.beq_refl _
 simp only [AK,HH,VX,e1,Dz,BX,hb,hs,e2,hb2,e3,e7,Bool.and_self,Nat.beq_refl,Nat.zero_add,Nat.zero_mul,List.length_nil,e5,List.drop_nil,List.nil_append,Bool.not_true,Bool.and_false]
 rfl
theorem j7{α:Type}{E:B6 α}{l:List α}(h:l≠ [])(b:Nat):v7 b l.length=AA b l∧ABd E l=AD E l:=by
 cases l with
 |nil=>exact absurd rfl h
 |cons a l=>exact⟨rfl,rfl⟩
def NC (x:Dc×Nat)(l:AQ):Dc×Nat:=(KO x.1 (pk l.A l.B) l.Dx x.2,U7 x.1 (pk l.A l.B) x.2)
def JC (l:List AQ):Dc×Nat:=l.foldl NC ([],0)
theorem PA {l:List AQ}{k:Nat}(h:k < l.length):JC (l.take (k+1))=NC (JC (l.take k)) (at' l k):=by
 rw [Bj h];unfold JC;rw [List.foldl_append];rfl
def Pa(R:List Int)(l:List AQ)(m:Fa.R9)(c:Nat)(late:Int):tn:=⟨R,(JC l).1,(JC l).2, [],0, [],0,⟨m,c,Fa.ma⟩,late,0,0⟩
def OJ (n:Nat)(s:tn):A6:= [(n,Ln n s),(n+1,some (.map (Dv s.L) s.lc)),(n+2,some (.map (FH s.C) s.cc)),(n+3,some (.map (Fq s.S) s.sc)),(n+4,Fa.Ho (n+5) s.P.ks),(n+5,some (.map (BZ s.P.m) s.P.CG)),(n+6,Om s.last (.slice none 0 0)),(n+7,AD AL s.R)]
def HB (R:List Int)(l:List AQ)(rl:List Aq)(late:Int):Int:=if ¬Gr.Ee R l=0 then Gr.Ee R l else if late < 1∨64 < late then 2 else match Fa.FK rl with
 | .error (_,e)=>e
 | .ok _=>0
def GI (R:List Int)(l:List AQ)(rl:List Aq)(late:Int)(top:Nat):Value×A6×Nat:=if ¬Gr.Ee R l=0∨late < 1∨64 < late then (.tuple ⟨[.pointer none, .int .i64 (HB R l rl late)]⟩, [],top) else match Fa.FK rl with
 | .error (_,e)=>(.tuple ⟨[.pointer none, .int .i64 e]⟩, [],top)
 | .ok m=>(.tuple ⟨[.pointer (some ⟨top,0,none⟩), .int .i64 0]⟩,OJ top (Pa R l m rl.length late),top+8)
def Tj (hp:Hp)(top:Nat)(v:Value)(R:List Int)(l:List AQ)(m:Fa.R9)(c:Nat)(late:Int)(k:Nat):SS:=
 ⟨[(14, .pointer (some ⟨top,0,none⟩),true),(51,v,true),(52, .int .i64 (l.length:Int),true),(53, .int .i64 (k:Int),true)],hp.Ac (OJ top {Pa R l m c late with L:=(JC (l.take k)).1,lc:=(JC (l.take k)).2}),top+8⟩
theorem AA0:Dv [] = []:=rfl
theorem AAz:FH [] = []:=rfl
theorem AA1:Fq [] = []:=rfl
theorem W6:∀(n:Nat) (l:List Int),l.Nodup→(∀x∈l,1≤x∧x≤(n:Int))→l.length≤n
 |0,l,_,hx=>by
  cases l with
  |nil=>exact Nat.le_refl _
  |cons a l=>have:=hx a (List.mem_cons_self ..);omega
 |n+1,l,hd,hx=>by
  have h1:=W6 n (l.filter fun x=>decide (x≠((n+1:Nat):Int))) (hd.filter _) fun x hm=>by
   obtain ⟨h1,h2⟩:=List.mem_filter.1 hm
   have:=hx x h1
   simp only [decide_eq_true_eq] at h2
   omega
  have h2:l.length≤(l.filter fun x=>decide (x≠((n+1:Nat):Int))).length+1:=by
   clear h1 hx
   induction l with
   |nil=>exact Nat.zero_le _
   |cons a l ih=>
    have ih:=ih (List.nodup_cons.1 hd).2
    rw [List.filter_cons]
    by_cases e:a=((n+1:Nat):Int)
    ·have:l.filter (fun x=>decide (x≠((n+1:Nat):Int)))=l:=List.filter_eq_self.2 fun x hm=>by
      have:x≠a:=fun e=>(List.nodup_cons.1 hd).1 (e ▸ hm)
      simpa [e] using this
     rw [if_neg (by simpa using e),this];exact Nat.le_refl _
    ·rw [if_pos (by simpa using e),List.length_cons,List.length_cons];omega
  omega
theorem TA:∀(l done:List Int),Gr.Vh done l=true→done.Nodup→(done ++ l).Nodup
 | [],done,_,hd=>by rw [List.append_nil];exact hd
 |n :: l,done,h,hd=>by
  have h0:=h
  unfold Gr.Vh at h
  simp only [Bool.and_eq_true] at h
  have hn:n ∉ done:=fun hm=>by
   have:=h
   grind [List.any_eq_true,Gr.JX]
  have:=TA l (done ++ [n]) (by grind) (by rw [List.nodup_append];exact ⟨hd,by simp,fun a ha b hb e=>hn (by rw [List.mem_singleton] at hb;rw [←hb,←e];exact ha)⟩)
  rwa [List.append_assoc] at this
theorem n5 {R:List Int}{l:List AQ}(h:Gr.Ee R l=0):R.length≤24:=by
 obtain ⟨h1,_⟩:=Gr.Qs h
 have hd:=TA R [] h1 List.nodup_nil
 refine W6 24 R hd fun x hx=> ?_
 have:=Gr.Un R [] h1 x hx
 simpa [Gr.BP] using this
def WG(l:List Int)(top:Nat):Value×A6×Nat:=if l= []then(.slice none 0 0, [],top)else(AA top l, [(top,AD AL l)],top+1)
def IG:BE:= .det (fun args hp _=>match args with | [v]=> ∃l,BF AL hp v l∧(l= []→v= .slice none 0 0)∧l.length≤1000000 | _=>False) (fun args hp top=>match args with | [v]=>WG (AL.rd hp v) top | _=>(undef, [],top))
theorem dI:Ag Tryz.prog 105 IG:=by
 refine .Eh WY ?_
 intro args hp top hpre hcl hsc
 match args,hpre with
 | [v],⟨l,hS,hnil,hn⟩=>
 have hs:=hS.low hcl
 simp only [hS.rd]
 refine AJ.Af Am WY rfl 8 rfl [.tmp 2] rfl (show 1≤8 by decide) ?_
 have hS0:=hS
 by_cases hne:l= []
 ·subst hne
  have hv:=hnil rfl
  subst hv
  refine CW.vc N4 [0,2,4] (by kernel_rfl) ?_
  (repeat ((try refine Vc.mk' ?_);simp (maxSteps:=6000000) only [go_sem]))
  simp only [WG,if_true]
  (refine ⟨[],by simp,by simp,by simp, ?_, ?_, ?_⟩ <;> simp [])
 cases hS with
 |nils=>exact absurd rfl hne
 |emp=>exact absurd rfl hne
 |rows b o c rw vs l hb hv ho hc hn2=>
  have hl:=hne
  simp only [WG,if_neg hne]
  have hbt:b < top:=hs
  have hbt2:¬top=b:=by omega
  have hA:∀ {h':Hp} {x t:Nat},h' x=some (.cells true 1 [])→h' b=some (.cells rw 1 vs)→AK tt.get h' t [68,68] (.slice (some ⟨x,0,none⟩) 0 0) (.slice (some ⟨b,o,none⟩) l.length c)=some (AA t l, [(x,none),(t,AD AL l)],t+1):=fun {h'} {x} {t} h1 h2=>by
   rw [apI h1 (BF.rows (E:=AL) b o c rw vs l h2 hv ho hc hn2) hn,(j7 (E:=AL) hl t).1,(j7 (E:=AL) hl t).2]
  replace hb:hp b=some (.cells rw 1 vs):=hb
  refine CW.vc N4 [0,2,4] (by kernel_rfl) ?_
  (repeat ((try refine Vc.mk' ?_);simp (maxSteps:=6000000) only [go_sem,hA,hb,Bw hbt,List.replicate_zero]))
  (refine ⟨[top+1],by simp,by simp,by simp, ?_, ?_, ?_⟩ <;> simp [])
noncomputable def tQ:FuncId→BE:=BV (BV (BV (BV (BV tY 107 Mh) 106 Ju) 105 IG) 103 Gr.F4) 104 Fa.Nz
theorem J2:Bp Tryz.prog tt.get tQ:=((((N4.add pj).add jm).add dI).add Gr.ABE).add Fa.vP
theorem Sb:tQ 105=IG:=rfl
theorem Nj:tQ 103=Gr.F4:=rfl
theorem QD:tQ 104=Fa.Nz:=rfl
theorem Vk:tQ 106=Ju:=rfl
theorem Vl:tQ 107=Mh:=rfl
def Me:BE:= .det (fun args hp _=>match args with | [u,v,r, .int .i64 _]=>(∃R,BF AL hp u R∧(R= []→u= .slice none 0 0))∧Dy AP hp v∧Dy AO hp r | _=>False) (fun args hp top=>match args with
 | [u,v,r,late]=>GI (AL.rd hp u) (AP.rd hp v) (AO.rd hp r) (intOf late) top | _=>(undef, [],top))
theorem pK:Ag Tryz.prog 87 Me:=by
 refine .Eh bD ?_
 intro args hp top hpre hcl hsc
 match args,hpre with
 | [u,v,r, .int .i64 late],⟨⟨R,h,hR⟩,⟨l,g⟩,⟨rl,q⟩⟩=>
 have hs:=h.low hcl
 have gs:=g.low hcl
 have qs:=q.low hcl
 simp only [h.rd,g.rd,q.rd,intOf_int]
 have e1:Dy AL hp u=True:=h.P
 have e2:Dy AP hp v=True:=g.P
 have r1:=h.rd
 have r2:=g.rd
 have kq:∀ {h':Hp},BK top [] h' hp→Dy AO h' r=True:=fun {h'} hk=>(q.Ax qs hk).P
 have kq2:∀ {h':Hp},BK top [] h' hp→AO.rd h' r=rl:=fun {h'} hk=>(q.Ax qs hk).rd
 have kr2:∀ {h':Hp},BK top [] h' hp→AL.rd h' u=R:=fun {h'} hk=>(h.Ax hs hk).rd
 refine AJ.Af Am bD rfl 70 rfl [.tmp 8, .tmp 9] rfl (show 4≤70 by decide) ?_
 by_cases c1:Gr.Ee R l=0
 case neg=>
  have e:GI R l rl late top=(.tuple ⟨[.pointer none, .int .i64 (Gr.Ee R l)]⟩, [],top):=by unfold GI HB;rw [if_pos (.inl c1),if_pos c1]
  refine CW.vc J2 [0,1,2,3,8,9,11,12,13,14,16,24,31,38,51,52,53,54] (by kernel_rfl) ?_
  (repeat ((try refine Vc.mk' ?_);simp (maxSteps:=6000000) only [go_sem,g.P,g.rd,Nj,Gr.F4,Gr.GO,e1,r1,c1]))
  rw [e]
  (refine ⟨[],by simp,by simp,by simp, ?_, ?_, ?_⟩ <;> simp [])
 by_cases c2:late < 1
 ·have e:GI R l rl late top=(.tuple ⟨[.pointer none, .int .i64 2]⟩, [],top):=by unfold GI HB;rw [if_pos (.inr (.inl c2)),if_neg (by simp [c1]),if_pos (.inl c2)]
  refine CW.vc J2 [0,1,2,3,8,9,11,12,13,14,16,24,31,38,51,52,53,54] (by kernel_rfl) ?_
  (repeat ((try refine Vc.mk' ?_);simp (maxSteps:=6000000) only [go_sem,g.P,g.rd,Nj,Gr.F4,Gr.GO,e1,r1,c1,c2]))
  rw [e]
  (refine ⟨[],by simp,by simp,by simp, ?_, ?_, ?_⟩ <;> simp [])
 by_cases c3:64 < late
 ·have e:GI R l rl late top=(.tuple ⟨[.pointer none, .int .i64 2]⟩, [],top):=by unfold GI HB;rw [if_pos (.inr (.inr c3)),if_neg (by simp [c1]),if_pos (.inr c3)]
  refine CW.vc J2 [0,1,2,3,8,9,11,12,13,14,16,24,31,38,51,52,53,54] (by kernel_rfl) ?_
  (repeat ((try refine Vc.mk' ?_);simp (maxSteps:=6000000) only [go_sem,g.P,g.rd,Nj,Gr.F4,Gr.GO,e1,r1,c1,c2,c3]))
  rw [e]
  (refine ⟨[],by simp,by simp,by simp, ?_, ?_, ?_⟩ <;> simp [])
 have hRn:=n5 c1
 have kr:∀ {h':Hp},BK top [] h' hp→(∃l,BF AL h' u l∧(l= []→u= .slice none 0 0)∧l.length≤1000000)=True:=fun {h'} hk=>eq_true ⟨R,h.Ax hs hk,hR,by omega⟩
 unfold GI
 rw [if_neg (by rintro (h | h | h);exact h c1;exact c2 h;exact c3 h)]
 cases hx:Fa.FK rl with
 |error p=>
  obtain ⟨i,e⟩:=p
  have he:=Fa.Kz hx
  refine CW.vc J2 [0,1,2,3,8,9,11,12,13,14,16,24,31,38,51,52,53,54] (by kernel_rfl) ?_
  (repeat ((try refine Vc.mk' ?_);simp (maxSteps:=6000000) only [go_sem,g.P,g.rd,Nj,Gr.F4,Gr.GO,QD,Fa.Nz,Fa.OQ,e1,r1,c1,c2,c3,kq,kq2,hx,he]))
  (refine ⟨[],by simp,by simp,by simp, ?_, ?_, ?_⟩ <;> simp [])
 |ok m=>
  by_cases hR0:R= []
  ·subst hR0
   refine CW.vc J2 [0,1,2,3,8,9,11,12,13,14,16,24,31,38,51,52,53,54] (by kernel_rfl) ?_
   (repeat ((try refine Vc.mk' ?_);simp (maxSteps:=6000000) only [go_sem,BH g,g.P,g.rd,Nj,Gr.F4,Gr.GO,QD,Fa.Nz,Fa.OQ,Sb,IG,Vk,Ju,e1,r1,c1,c2,c3,kq,kq2,hx,kr,kr2,WG,if_true,Fa.VF]))
   have wl:Ad .u64 late=late:=tM (by omega) (by omega)
   refine CW.Bc (Tj hp top v [] l m rl.length late) (fun k=>k≤l.length) (fun k=>l.length - k) 0 (Nat.zero_le _) ?_ ?_
   ·exact (by refine Al.mk' [top+9,top+5,top+6,top+7,top+4,top+3,top+8,top+2] hcl (by simp) (by simp) rfl (AF ?_) ?_ ?_ <;> simp [DD,Dp,Sc.Ao (fun j hj=>AE hj) gs,OJ,Ln,Pa,JC,Om,Fa.Ho,wl,AA0,AAz,AA1])
   ·intro k hk
    by_cases hlt:k < l.length
    ·have hst:=PA hlt
     refine CW.vc J2 [0,1,2,3,8,9,11,12,13,14,16,24,31,38,51,52,53,54] (by kernel_rfl) ?_
     (repeat ((try refine Vc.mk' ?_);simp (maxSteps:=6000000) only [go_sem,BG g,B4 g,Ab gs,Vl,Mh,Tj,OJ,Ln,Pa,hlt]))
     refine .mk (k+1) hlt (by omega) ((by refine Al.mk' [top,top+1,top+2,top+3,top+4,top+5,top+6,top+7] hcl (by simp) (by simp) rfl (AF ?_) ?_ ?_ <;> simp [Sc.Ao (fun j hj=>AE hj) gs,OJ,Ln,Pa,Om,Fa.Ho,hst,NC,pk,Ae hlt g.le]))
    ·have hk2:k=l.length:=by omega
     subst hk2
     refine CW.vc J2 [0,1,2,3,8,9,11,12,13,14,16,24,31,38,51,52,53,54] (by kernel_rfl) ?_
     (repeat ((try refine Vc.mk' ?_);simp (maxSteps:=6000000) only [go_sem,Tj,OJ,Ln,Pa,Int.lt_irrefl,decide_false,List.take_length]))
     (refine ⟨[top,top+1,top+2,top+3,top+4,top+5,top+6,top+7],by simp,by simp,by simp, ?_, ?_, ?_⟩ <;> simp [Om,Fa.Ho])
  ·skip
   refine CW.vc J2 [0,1,2,3,8,9,11,12,13,14,16,24,31,38,51,52,53,54] (by kernel_rfl) ?_
   (repeat ((try refine Vc.mk' ?_);simp (maxSteps:=6000000) only [go_sem,BH g,g.P,g.rd,Nj,Gr.F4,Gr.GO,QD,Fa.Nz,Fa.OQ,Sb,IG,Vk,Ju,e1,r1,c1,c2,c3,kq,kq2,hx,kr,kr2,WG,if_neg hR0,Fa.VF]))
   have wl:Ad .u64 late=late:=tM (by omega) (by omega)
   have hm1:∀ {b:Nat},Ao (rn top [top+10,top+6,top+7,top+8,top+4,top+3,top+9,top+5] (top+11)) (AA (top+7) R)=AA (top+5) R:=fun {b}=>by
    cases R with
    |nil=>rfl
    |cons a R=>simp [AA,Ao,rn]
   refine CW.Bc (Tj hp top v R l m rl.length late) (fun k=>k≤l.length) (fun k=>l.length - k) 0 (Nat.zero_le _) ?_ ?_
   ·exact (by refine Al.mk' [top+10,top+6,top+7,top+8,top+4,top+3,top+9,top+5] hcl (by simp) (by simp) rfl (AF ?_) ?_ ?_ <;> simp [Sc.Ao (fun j hj=>AE hj) gs,OJ,Ln,Pa,JC,Om,Fa.Ho,wl,AA0,AAz,AA1])
   ·intro k hk
    by_cases hlt:k < l.length
    ·have hst:=PA hlt
     refine CW.vc J2 [0,1,2,3,8,9,11,12,13,14,16,24,31,38,51,52,53,54] (by kernel_rfl) ?_
     (repeat ((try refine Vc.mk' ?_);simp (maxSteps:=6000000) only [go_sem,BG g,B4 g,Ab gs,Vl,Mh,Tj,OJ,Ln,Pa,hlt]))
     refine .mk (k+1) hlt (by omega) ((by refine Al.mk' [top,top+1,top+2,top+3,top+4,top+5,top+6,top+7] hcl (by simp) (by simp) rfl (AF ?_) ?_ ?_ <;> simp [Sc.Ao (fun j hj=>AE hj) gs,OJ,Ln,Pa,Om,Fa.Ho,hst,NC,pk,Ae hlt g.le]))
    ·have hk2:k=l.length:=by omega
     subst hk2
     refine CW.vc J2 [0,1,2,3,8,9,11,12,13,14,16,24,31,38,51,52,53,54] (by kernel_rfl) ?_
     (repeat ((try refine Vc.mk' ?_);simp (maxSteps:=6000000) only [go_sem,Tj,OJ,Ln,Pa,Int.lt_irrefl,decide_false,List.take_length]))
     (refine ⟨[top,top+1,top+2,top+3,top+4,top+5,top+6,top+7],by simp,by simp,by simp, ?_, ?_, ?_⟩ <;> simp [Om,Fa.Ho])
end Go.Proofs.YthlhnangbinhoaaGreatDoor.Dm
set_option linter.unusedVariables false
namespace Go.Proofs.YthlhnangbinhoaaGreatDoor.Dm
open Go.Dm
set_option maxHeartbeats 64000000
set_option maxRecDepth 20000
noncomputable def GN2:FuncId→BE:=BV tQ 87 Me
theorem Sy:Bp Tryz.prog tt.get GN2:=J2.add pK
theorem rX:GN2 87=Me:=rfl
def BO (S:BW)(r k u:Value):Option A8:=some (.cells true 0 [.int .i64 S.W, .int .i64 S.A, .int .i64 S.T, .int .i64 S.L,r,k,u])
def BM (l:List CF):List Int:=l.map (·.Self)
def Jt:BE:= .det (fun args hp _=>match args with | [v]=> ∃S,H5 hp v S | _=>False) (fun args hp top=>match args with | [v]=>GI (BM (GP hp v).R) (GP hp v).K (GP hp v).U (GP hp v).L top | _=>(undef, [],top))
def qb (hp:Hp)(top:Nat)(S:BW)(r k u:Value)(i:Nat):SS:=⟨[(1, .pointer (some ⟨top,0,none⟩),true),(4,AA (top+1) (BM (S.R.take i)),true),(8,r,true),(9, .int .i64 (S.R.length:Int),true),(10, .int .i64 (i:Int),true)],hp.Ac [(top,BO S r k u),(top+1,AD AL (BM (S.R.take i)))],top+2⟩
theorem NI (R:List Int)(l:List AQ)(rl:List Aq)(late:Int) :
  (HB R l rl late≠0∧∀top,GI R l rl late top=(.tuple ⟨[.pointer none, .int .i64 (HB R l rl late)]⟩, [],top))∨
  (HB R l rl late=0∧∃m,∀top,GI R l rl late top=(.tuple ⟨[.pointer (some ⟨top,0,none⟩), .int .i64 0]⟩,OJ top (Pa R l m rl.length late),top+8)):=by
 unfold GI HB
 by_cases c1:Gr.Ee R l=0
 ·rw [if_neg (by simp [c1])]
  by_cases c2:late < 1∨64 < late
  ·left
   rw [if_pos c2]
   exact ⟨by decide,fun top=>by rw [if_pos (.inr c2)]⟩
  ·rw [if_neg c2]
   have c3:¬(¬Gr.Ee R l=0∨late < 1∨64 < late):=by rintro (h | h);exact h c1;exact c2 h
   simp only [if_neg c3]
   cases hx:Fa.FK rl with
   |error p=>exact .inl ⟨Fa.Kz hx,fun _=>rfl⟩
   |ok m=>exact .inr ⟨rfl,m,fun _=>rfl⟩
 ·left
  rw [if_pos c1]
  exact ⟨c1,fun top=>by rw [if_pos (.inl c1)]⟩
theorem XN {l:List CF}{i:Nat}(h:i < l.length):BM (l.take (i+1))=BM (l.take i) ++ [(at' l i).Self]:=by
 unfold BM;rw [Bj h,List.map_append];rfl
theorem jl:Ag Tryz.prog 65 Jt:=by
 refine .Eh ak ?_
 intro args hp top hpre hcl hsc
 match args,hpre with
 | [v],⟨S,hS⟩=>
 have hd:=hS.d
 obtain ⟨r,k,u,rfl,h1,h2,h3⟩:=hS.ex
 have l1:=hS.rl
 have s1:=h1.low hcl
 have s2:=h2.low hcl
 have s3:=h3.low hcl
 simp only [hd]
 refine AJ.Af Am ak rfl 30 rfl [.tmp 2, .tmp 3] rfl (show 1≤30 by decide) ?_
 refine CW.vc Sy [0,1,2,3,4,6,8,9,10,11] (by kernel_rfl) ?_
 (repeat ((try refine Vc.mk' ?_);simp (maxSteps:=6000000) only [go_sem,CS h1]))
 refine CW.Bc (qb hp top S r k u) (fun i=>i≤S.R.length) (fun i=>S.R.length - i) 0 (Nat.zero_le _) ?_ ?_
 ·exact (by refine Al.mk' [top,top+1] hcl (by simp) (by simp) rfl (AF ?_) ?_ ?_ <;> simp [Sc.Ao (fun j hj=>AE hj) s1,DD,Dp,BO,BM,Sc.Ao (fun j hj=>AE hj) s2,Sc.Ao (fun j hj=>AE hj) s3])
 ·intro i hi
  by_cases hlt:i < S.R.length
  ·have ii:((i:Int) < (S.R.length:Int)):=by omega
   have kk:Ad .i64 ((i:Int)+1)=((i+1:Nat):Int):=Ae hlt (by omega)
   have hap:∀ {h':Hp} {q t:Nat},h' (top+1)=AD AL (BM (S.R.take i))→h' q=some (.cells true 1 [.int .i64 (at' S.R i).Self])→AK tt.get h' t [68,68] (AA (top+1) (BM (S.R.take i))) (.slice (some ⟨q,0,none⟩) 1 1)=some (AA t (BM (S.R.take (i+1))),Bu (top+1) (BM (S.R.take i)) t (AD AL (BM (S.R.take (i+1)))),t+1):=fun {h'} {q} {t} a1 a2=>by
    have e3:cellsOf (h' q)=AL.enc (at' S.R i).Self:=by rw [a2];rfl
    have hl:(BM (S.R.take i)).length≤1000000:=by unfold BM;rw [List.length_map,List.length_take];omega
    have:=IA (hp:=h') (b:=top+1) (top:=t) (k:=q) a1 (by rw [e3];exact a2) (by rw [e3,AL.h]) (CO (by omega) (by decide))
    rwa [e3,AL.h,←XN hlt] at this
   refine CW.vc Sy [0,1,2,3,4,6,8,9,10,11] (by kernel_rfl) ?_
   (repeat ((try refine Vc.mk' ?_);simp (maxSteps:=6000000) only [go_sem,qb,BO,ii,hlt,DA h1,F8 h1,Ab s1,hap,kk]))
   refine .mk (i+1) hlt (by omega) ((by refine Al.mk' [top,top+4] hcl (by simp) (by simp) rfl (AF ?_) ?_ ?_ <;> simp [Sc.Ao (fun j hj=>AE hj) s1,BO,Sc.Ao (fun j hj=>AE hj) s2,Sc.Ao (fun j hj=>AE hj) s3]))
  ·have hk2:i=S.R.length:=by omega
   subst hk2
   have kR:∀ {h':Hp},h' (top+1)=AD AL (BM S.R)→(∃R,BF AL h' (AA (top+1) (BM S.R)) R∧(R= []→AA (top+1) (BM S.R)= .slice none 0 0))=True:=fun {h'} e=>eq_true ⟨BM S.R,BF.DK e (by unfold BM;rw [List.length_map];omega),fun h=>by rw [h];rfl⟩
   have rR:∀ {h':Hp},h' (top+1)=AD AL (BM S.R)→AL.rd h' (AA (top+1) (BM S.R))=BM S.R:=fun {h'} e=>KV e (by unfold BM;rw [List.length_map];omega)
   have k2:∀ {h':Hp},BK top [] h' hp→Dy AP h' k=True:=fun {h'} hk=>(h2.Ax s2 hk).P
   have k3:∀ {h':Hp},BK top [] h' hp→Dy AO h' u=True:=fun {h'} hk=>(h3.Ax s3 hk).P
   have r2:∀ {h':Hp},BK top [] h' hp→AP.rd h' k=S.K:=fun {h'} hk=>(h2.Ax s2 hk).rd
   have r3:∀ {h':Hp},BK top [] h' hp→AO.rd h' u=S.U:=fun {h'} hk=>(h3.Ax s3 hk).rd
   rcases NI (BM S.R) S.K S.U S.L with ⟨c1,c2⟩ | ⟨c1,m,c2⟩
   ·refine CW.vc Sy [0,1,2,3,4,6,8,9,10,11] (by kernel_rfl) ?_
    (repeat ((try refine Vc.mk' ?_);simp (maxSteps:=6000000) only [go_sem,qb,BO,Int.lt_irrefl,decide_false,rX,Me,List.take_length,kR,rR,k2,k3,r2,r3,c2,intOf_int]))
    (refine ⟨[],by simp,by simp,by simp, ?_, ?_, ?_⟩ <;> simp [])
   ·refine CW.vc Sy [0,1,2,3,4,6,8,9,10,11] (by kernel_rfl) ?_
    (repeat ((try refine Vc.mk' ?_);simp (maxSteps:=6000000) only [go_sem,qb,BO,Int.lt_irrefl,decide_false,rX,Me,List.take_length,kR,rR,k2,k3,r2,r3,c2,intOf_int,OJ]))
    (refine ⟨[top+2,top+3,top+4,top+5,top+6,top+7,top+8,top+9],by simp,by simp,by simp, ?_, ?_, ?_⟩ <;> simp [Ln,Pa,Om,Fa.Ho])
def Xy (w:Int):Bool:= !decide (w < 8) && !decide (256 < w) && decide (DS .and .i64 w (Ad .i64 (w - 1))=0)
def Fm:BE:= .pure (fun args _=>match args with | [.int .i64 _]=>True | _=>False) (fun args _=>match args with | [x]=> .bool (Xy (intOf x)) | _=>undef)
theorem rN:Ag Tryz.prog 64 Fm:=by
 refine .EK aj (fun args hp h=> ?_) ?_
 ·match args,h with
  | [.int .i64 w],_=>rfl
 intro args hp hpre top hcl hsc
 match args,hpre with
 | [.int .i64 w],_=>
 refine AJ.Af Am aj rfl 16 rfl [.tmp 2] rfl (show 1≤16 by decide) ?_
 refine CW.vc Sy [0,2] (by kernel_rfl) ?_
 (repeat ((try refine Vc.mk' ?_);simp (maxSteps:=6000000) only [go_sem]))
 rfl
noncomputable def GN3:FuncId→BE:=BV (BV GN2 65 Jt) 64 Fm
theorem Mq:Bp Tryz.prog tt.get GN3:=(Sy.add jl).add rN
theorem rY:GN3 65=Jt:=rfl
theorem rZ:GN3 64=Fm:=rfl
abbrev mf:=Fw×Nat
def bump (x:mf)(a:Int):mf:=(KO x.1 a (Ad .i64 ((GH x.1 a).getD default+1)) x.2,U7 x.1 a x.2)
def Ed (x:mf)(l:AQ):mf:=bump (bump x l.A) l.B
def Mz (x:mf)(l:AQ):Bool:=decide (16 < (GH x.1 l.A).getD default) || decide (16 < (GH x.1 l.B).getD default)
def MW:mf→List AQ→Int
 |_, []=>0
 |x,l :: ls=>if Mz (Ed x l) l=true then 3 else MW (Ed x l) ls
def Nu (c:CF):Bool:=decide (c.Self < 1) || decide (24 < c.Self) || decide (c.Claim < 0) || decide (1024 < c.Claim)
def YO (S:BW):Bool:= !Xy S.W || decide (S.A < 1) || decide (64 < S.A) || decide (S.T < 0) || decide (64 < S.T)
def DY (S:BW):Int:=if YO S=true then 2 else if S.R.any Nu=true then 2 else if HB (BM S.R) S.K S.U S.L≠0 then HB (BM S.R) S.K S.U S.L else MW ([],0) S.K
def ky (hp:Hp)(top:Nat)(S:BW)(r k u:Value)(i:Nat):SS:=⟨[(1, .pointer (some ⟨top,0,none⟩),true),(35,r,true),(36, .int .i64 (S.R.length:Int),true),(37, .int .i64 (i:Int),true)],hp.Ac [(top,BO S r k u)],top+1⟩
def qV (hp:Hp)(top:Nat)(S:BW)(r k u:Value)(x:mf×Nat):SS:=⟨[(7, .map (some (top+1)),true),(70,k,true),(71, .int .i64 (S.K.length:Int),true),(72, .int .i64 (x.2:Int),true)],hp.Ac [(top,BO S r k u),(top+1,some (.map (Dj x.1.1) x.1.2))],top+2⟩
theorem gh:Ag Tryz.prog 23 (GM (fun _=>True) DY):=by
 refine .EK aJ (fun args hp h=> ?_) ?_
 ·match args,h with
  | [v],_=>rfl
 intro args hp hpre top hcl hsc
 match args,hpre with
 | [v],⟨⟨S,hS,_⟩,hv⟩=>
 have ht5:=Em hcl hv
 have hd:=hS.d
 have hSv:=hS
 obtain ⟨r,k,u,rfl,h1,h2,h3⟩:=hS.ex
 have l1:=hS.rl
 have l2:=hS.kl
 have s1:=h1.low hcl
 have s2:=h2.low hcl
 have s3:=h3.low hcl
 have p1:Dy AU hp r=True:=h1.P
 simp only [hd]
 have kS:∀ {h':Hp},BK top [] h' hp→(∃S',H5 h' (.agg ⟨[.int .i64 S.W, .int .i64 S.A, .int .i64 S.T, .int .i64 S.L,r,k,u]⟩) S')=True:=fun {h'} hk=>eq_true ⟨S,⟨r,k,u,rfl,h1.Ax s1 hk,h2.Ax s2 hk,h3.Ax s3 hk⟩,hSv.rl,hSv.kl,hSv.ul⟩
 have kD:∀ {h':Hp},BK top [] h' hp→GP h' (.agg ⟨[.int .i64 S.W, .int .i64 S.A, .int .i64 S.T, .int .i64 S.L,r,k,u]⟩)=S:=fun {h'} hk=>H5.d ⟨⟨r,k,u,rfl,h1.Ax s1 hk,h2.Ax s2 hk,h3.Ax s3 hk⟩,hSv.rl,hSv.kl,hSv.ul⟩
 refine AJ.Af Am aJ rfl 99 rfl [.tmp 2] rfl (show 1≤99 by decide) ?_
 cases hb:YO S with
 |true=>
  have e:DY S=2:=by unfold DY;rw [if_pos hb]
  rw [e]
  have hb2:=hb
  unfold YO at hb2
  refine CW.vc Mq [0,1,2,4,6,7,9,33,35,36,37,38,58,66,70,71,72,73,97] (by kernel_rfl) ?_
  (repeat ((try refine Vc.mk' ?_);simp (maxSteps:=6000000) only [go_sem,rZ,Fm,intOf_int,hb2]))
 |false=>
 have hb2:=hb
 unfold YO at hb2
 refine CW.vc Mq [0,1,2,4,6,7,9,33,35,36,37,38,58,66,70,71,72,73,97] (by kernel_rfl) ?_
 (repeat ((try refine Vc.mk' ?_);simp (maxSteps:=6000000) only [go_sem,rZ,Fm,intOf_int,hb2,CS h1]))
 refine CW.Bc (ky hp top S r k u) (fun i=>i≤S.R.length∧(S.R.take i).any Nu=false) (fun i=>S.R.length - i) 0 ⟨Nat.zero_le _,rfl⟩ ?_ ?_
 ·exact (by refine Al.mk' [top] hcl (by simp) (by simp) rfl (AF ?_) ?_ ?_ <;> simp [Sc.Ao (fun j hj=>AE hj) s1,BO,Sc.Ao (fun j hj=>AE hj) s2,Sc.Ao (fun j hj=>AE hj) s3])
 ·rintro i ⟨hi,hall⟩
  by_cases hlt:i < S.R.length
  ·have ii:((i:Int) < (S.R.length:Int)):=by omega
   have kk:Ad .i64 ((i:Int)+1)=((i+1:Nat):Int):=Ae hlt (by omega)
   have hnx:(S.R.take (i+1)).any Nu=Nu (at' S.R i):=by rw [Bj hlt,List.any_append,hall];simp
   cases hc:Nu (at' S.R i) with
   |true=>
    have e:DY S=2:=by
     unfold DY;rw [if_neg (by simp [hb]),if_pos]
     rw [List.any_eq_true]
     exact ⟨at' S.R i,by rw [BS _ _ hlt];exact List.getElem_mem hlt,hc⟩
    rw [e]
    have hc2:=hc
    unfold Nu at hc2
    refine CW.vc Mq [0,1,2,4,6,7,9,33,35,36,37,38,58,66,70,71,72,73,97] (by kernel_rfl) ?_
    (repeat ((try refine Vc.mk' ?_);simp (maxSteps:=6000000) only [go_sem,ky,BO,ii,hlt,DA h1,F8 h1,Ab s1,hc2]))
   |false=>
    have hc2:=hc
    unfold Nu at hc2
    refine CW.vc Mq [0,1,2,4,6,7,9,33,35,36,37,38,58,66,70,71,72,73,97] (by kernel_rfl) ?_
    (repeat ((try refine Vc.mk' ?_);simp (maxSteps:=6000000) only [go_sem,ky,BO,ii,hlt,DA h1,F8 h1,Ab s1,hc2,kk]))
    refine .mk (i+1) ⟨hlt,by rw [hnx];exact hc⟩ (by omega) ((by refine Al.mk' [top] hcl (by simp) (by simp) rfl (AF ?_) ?_ ?_ <;> simp [Sc.Ao (fun j hj=>AE hj) s1,BO,Sc.Ao (fun j hj=>AE hj) s2,Sc.Ao (fun j hj=>AE hj) s3]))
  ·have hk2:i=S.R.length:=by omega
   subst hk2
   rw [List.take_length] at hall
   rcases NI (BM S.R) S.K S.U S.L with ⟨c1,c2⟩ | ⟨c1,m,c2⟩
   ·have e:DY S=HB (BM S.R) S.K S.U S.L:=by unfold DY;rw [if_neg (by simp [hb]),if_neg (by simp [hall]),if_pos c1]
    rw [e]
    refine CW.vc Mq [0,1,2,4,6,7,9,33,35,36,37,38,58,66,70,71,72,73,97] (by kernel_rfl) ?_
    (repeat ((try refine Vc.mk' ?_);simp (maxSteps:=6000000) only [go_sem,ky,BO,Int.lt_irrefl,decide_false,rY,Jt,kS,kD,c1,c2]))
   ·have e:DY S=MW ([],0) S.K:=by unfold DY;rw [if_neg (by simp [hb]),if_neg (by simp [hall]),if_neg (by simp [c1])]
    rw [e]
    refine CW.vc Mq [0,1,2,4,6,7,9,33,35,36,37,38,58,66,70,71,72,73,97] (by kernel_rfl) ?_
    (repeat ((try refine Vc.mk' ?_);simp (maxSteps:=6000000) only [go_sem,ky,BO,Int.lt_irrefl,decide_false,rY,Jt,kS,kD,c2,OJ,BH h2]))
    refine CW.Bc (qV hp top S r k u) (fun x=>x.2≤S.K.length∧MW ([],0) S.K=MW x.1 (S.K.drop x.2)) (fun x=>S.K.length - x.2) (([],0),0) ⟨Nat.zero_le _,rfl⟩ ?_ ?_
    ·exact (by refine Al.mk' [top,top+9] hcl (by simp) (by simp) rfl (AF ?_) ?_ ?_ <;> simp [Sc.Ao (fun j hj=>AE hj) s1,BO,Sc.Ao (fun j hj=>AE hj) s2,Sc.Ao (fun j hj=>AE hj) s3,show Dj [] = [] from rfl])
    ·rintro ⟨x,i⟩ ⟨hi,hrun⟩
     replace hi:i≤S.K.length:=hi
     replace hrun:MW ([],0) S.K=MW x (S.K.drop i):=hrun
     by_cases hlt:i < S.K.length
     ·have ii:((i:Int) < (S.K.length:Int)):=by omega
      have kk:Ad .i64 ((i:Int)+1)=((i+1:Nat):Int):=Ae hlt (by omega)
      rw [Kk hlt] at hrun
      cases hc:Mz (Ed x (at' S.K i)) (at' S.K i) with
      |true=>
       have e:MW ([],0) S.K=3:=by rw [hrun];show (if Mz (Ed x (at' S.K i)) (at' S.K i)=true then (3:Int) else _)=_;rw [if_pos hc]
       rw [e]
       unfold Mz Ed bump at hc
       refine CW.vc Mq [0,1,2,4,6,7,9,33,35,36,37,38,58,66,70,71,72,73,97] (by kernel_rfl) ?_
       (repeat ((try refine Vc.mk' ?_);simp (maxSteps:=6000000) only [go_sem,qV,BO,ii,hlt,BG h2,B4 h2,Ab s2,hc]))
      |false=>
       have e:MW ([],0) S.K=MW (Ed x (at' S.K i)) (S.K.drop (i+1)):=by rw [hrun];show (if Mz (Ed x (at' S.K i)) (at' S.K i)=true then (3:Int) else _)=_;rw [if_neg (by simp [hc])]
       have hc2:=hc
       unfold Mz Ed bump at hc2
       refine CW.vc Mq [0,1,2,4,6,7,9,33,35,36,37,38,58,66,70,71,72,73,97] (by kernel_rfl) ?_
       (repeat ((try refine Vc.mk' ?_);simp (maxSteps:=6000000) only [go_sem,qV,BO,ii,hlt,BG h2,B4 h2,Ab s2,hc2,kk]))
       refine .mk (Ed x (at' S.K i),i+1) ⟨hlt,e⟩ (by show S.K.length - (i+1) < S.K.length - i;omega) ((by refine Al.mk' [top,top+1] hcl (by simp) (by simp) rfl (AF ?_) ?_ ?_ <;> simp [Sc.Ao (fun j hj=>AE hj) s1,BO,Sc.Ao (fun j hj=>AE hj) s2,Sc.Ao (fun j hj=>AE hj) s3,Ed,bump]))
     ·have hk2:i=S.K.length:=by omega
      subst hk2
      rw [hrun,List.drop_length]
      refine CW.vc Mq [0,1,2,4,6,7,9,33,35,36,37,38,58,66,70,71,72,73,97] (by kernel_rfl) ?_
      (repeat ((try refine Vc.mk' ?_);simp (maxSteps:=6000000) only [go_sem,qV,BO,Int.lt_irrefl,decide_false]))
      rfl
end Go.Proofs.YthlhnangbinhoaaGreatDoor.Dm
