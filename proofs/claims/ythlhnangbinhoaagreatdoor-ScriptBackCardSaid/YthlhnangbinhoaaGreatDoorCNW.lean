/- net.New of any routers. -/
import Derived.Test.YthlhnangbinhoaaGreatDoorSQ
import Derived.Test.YthlhnangbinhoaaGreatDoorCFB
set_option linter.unusedSimpArgs false
set_option linter.unusedVariables false
namespace Go.Proofs.YthlhnangbinhoaaGreatDoor.Dm
open Go.Dm
set_option maxHeartbeats 16000000
set_option maxRecDepth 20000
structure vH where
 R:List Int
 L:EW
 lc:Nat
 C:JO
 cc:Nat
 S:Ky
 sc:Nat
 P:Fa.tg
 late:Int
 now:Int
 last:Int
theorem tV {n:Int}(h:0≤n)(h2:n < 18446744073709551616):Ar .u64 n=n:=Qd (by simpa [IntKind.signed,IntKind.bits] using h) (by simpa [IntKind.signed,IntKind.bits] using h2)
def LF (n:Nat)(s:vH):Option BI:=some (.cells true 0 [AA (n+7) s.R, .map (some (n+1)), .map (some (n+2)), .map (some (n+3)), .pointer (some ⟨n+4,0,none⟩), .int .u64 s.late, .int .u64 s.now, .pointer (some ⟨n+6,0,none⟩)])
def pk (a b:Int):Iw:=⟨min a b,max a b⟩
theorem ABe {x y:Int}:(bif decide (y < x) then y else x)=min x y:=by
 by_cases h:y < x
 ·simp [h];omega
 ·simp [h];omega
theorem ABS {x y:Int}:(bif decide (x < y) then y else x)=max x y:=by
 by_cases h:x < y
 ·simp [h];omega
 ·simp [h];omega
def Fe:Bz:= .pure (fun args _=>match args with | [x,y]=>Iy .i64 x∧Iy .i64 y | _=>False) (fun args _=>match args with | [x,y]=> .agg ⟨[.int .i64 (min (intOf x) (intOf y)), .int .i64 (max (intOf x) (intOf y))]⟩ | _=>undef)
theorem qc:BR Tryz.prog 107 Fe:=by
 refine .LN Rf ?_ ?_
 ·intro args hp h
  match args,h with
  | [x,y],_=>rfl
 intro args hp hpre top hcl hsc
 match args,hpre with
 | [x,y],⟨hx,hy⟩=>
 rw [hx,hy]
 generalize intOf x=x,intOf y=y
 refine Ae.Bn Bu Rf rfl 12 rfl [.cell 4 202] rfl (show 2≤12 by decide) ?_
 refine CW.vc PG [0,1,4] (by kernel_rfl) ?_
 (repeat ((try refine Vc.mk' ?_);simp (maxSteps:=6000000) only [go_sem,ABe,ABS]))
def Pt (last:Int)(lv:Value):Option BI:=some (.cells true 0 [.bool true, .int .i64 last,lv])
def EG:Bz:= .det (fun args _ _=>args= []) (fun _ _ top=>(.pointer (some ⟨top,0,none⟩), [(top,some (.cells true 0 [.bool true, .int .i64 0, .slice none 0 0]))],top+1))
theorem fM:BR Tryz.prog 106 EG:=by
 refine .Jq SB ?_
 intro args hp top hpre hcl hsc
 subst hpre
 refine Ae.Bn Bu SB rfl 3 rfl [.tmp 0] rfl (show 0≤3 by decide) ?_
 refine CW.vc PG [0] (by kernel_rfl) ?_
 (repeat ((try refine Vc.mk' ?_);simp (maxSteps:=6000000) only [go_sem]))
 (refine ⟨[top],by simp,by simp,by simp, ?_, ?_, ?_⟩ <;> simp [])
theorem apI {h':Hp}{b t:Nat}{v:Value}{l:List Int}(hb:h' b=some (.cells true 1 []))(h:BJ Ad h' v l)(hn:l.length≤1000000) :
  AR tt.get h' t [68,68] (.slice (some ⟨b,0,none⟩) 0 0) v=some (xb t l.length, [(b,none),(t,zv Ad l)],t+1):=by
 have e1:=h.Ij
 have e2:DG h' 1 l.length v=some (Ad.flat l):=h.DG
 have e3:A9 (Ad.flat l)=true:=B9.OS l
 have e4:(Ad.flat l).length=l.length * 1:=B9.Df ..
 have e5:DX l.length NQ.bytes=true:=Dc (by omega) (by decide)
 have hs:NQ.size=1:=rfl
 have hb2:Nat.ble NQ.bytes 65536=true:=rfl
 have e6:(Nat.ble l.length 0 && !Nat.beq 0 0)=false:=by simp
 have e7:Nat.beq (Ad.flat l).length (l.length * 1)=true:=by rw [e4];exact Nat.beq_refl _
 simp only [AR,JM,VI,e1,Et,Bk,hb,hs,e2,hb2,e3,e7,Bool.and_self,Nat.beq_refl,Nat.zero_add,e6,Nat.zero_mul,List.length_nil,e5,List.drop_nil,List.nil_append,Bool.not_true,Bool.and_false]
 rfl
theorem jV {α:Type}{E:B9 α}{l:List α}(h:l≠ [])(b:Nat):xb b l.length=AA b l∧zv E l=AE E l:=by
 cases l with
 |nil=>exact absurd rfl h
 |cons a l=>exact ⟨rfl,rfl⟩
def OC (x:EW×Nat)(l:Ap):EW×Nat:=(NW x.1 (pk l.A l.B) l.Er x.2,WS x.1 (pk l.A l.B) x.2)
def KZ (l:List Ap):EW×Nat:=l.foldl OC ([],0)
theorem P4 {l:List Ap}{k:Nat}(h:k < l.length):KZ (l.take (k+1))=OC (KZ (l.take k)) (at' l k):=by
 rw [DV h];unfold KZ;rw [List.foldl_append];rfl
def Np (R:List Int)(l:List Ap)(m:Fa.X7)(c:Nat)(late:Int):vH:=⟨R,(KZ l).1,(KZ l).2, [],0, [],0,⟨m,c,Fa.kn⟩,late,0,0⟩
def Ml (n:Nat)(s:vH):BV:= [(n,LF n s),(n+1,some (.map (En s.L) s.lc)),(n+2,some (.map (Gh s.C) s.cc)),(n+3,some (.map (HT s.S) s.sc)),(n+4,Fa.JQ (n+5) s.P.ks),(n+5,some (.map (B1 s.P.m) s.P.Cc)),(n+6,Pt s.last (.slice none 0 0)),(n+7,AE Ad s.R)]
def SY (R:List Int)(l:List Ap)(rl:List BX)(late:Int):Int:=if ¬Gr.IC R l=0 then Gr.IC R l else if late < 1∨64 < late then 2 else match Fa.I7 rl with
 | .error (_,e)=>e
 | .ok _=>0
def Hs (R:List Int)(l:List Ap)(rl:List BX)(late:Int)(top:Nat):Value×BV×Nat:=if ¬Gr.IC R l=0∨late < 1∨64 < late then (.tuple ⟨[.pointer none, .int .i64 (SY R l rl late)]⟩, [],top) else match Fa.I7 rl with
 | .error (_,e)=>(.tuple ⟨[.pointer none, .int .i64 e]⟩, [],top)
 | .ok m=>(.tuple ⟨[.pointer (some ⟨top,0,none⟩), .int .i64 0]⟩,Ml top (Np R l m rl.length late),top+8)
def Tl (hp:Hp)(top:Nat)(v:Value)(R:List Int)(l:List Ap)(m:Fa.X7)(c:Nat)(late:Int)(k:Nat):SS:=
 ⟨[(14, .pointer (some ⟨top,0,none⟩),true),(51,v,true),(52, .int .i64 (l.length:Int),true),(53, .int .i64 (k:Int),true)],hp.A6 (Ml top {Np R l m c late with L:=(KZ (l.take k)).1,lc:=(KZ (l.take k)).2}),top+8⟩
theorem ze:En [] = []:=rfl
theorem AAV:Gh [] = []:=rfl
theorem AA5:HT [] = []:=rfl
theorem Wd:∀(n:Nat) (l:List Int),l.Nodup→(∀x∈l,1≤x∧x≤(n:Int))→l.length≤n
 |0,l,_,hx=>by
  cases l with
  |nil=>exact Nat.le_refl _
  |cons a l=>have:=hx a (List.mem_cons_self ..);omega
 |n+1,l,hd,hx=>by
  have h1:=Wd n (l.filter fun x=>decide (x≠((n+1:Nat):Int))) (hd.filter _) fun x hm=>by
   obtain ⟨h1,h2⟩:=List.mem_filter.1 hm
   have:=hx x h1
   simp only [decide_eq_true_eq] at h2
   omega
  have h2:l.length≤(l.filter fun x=>decide (x≠((n+1:Nat):Int))).length+1:=by
   clear h1 hx
   induction l with
   |nil=>exact Nat.zero_le _
   |cons a l ih=>
    have ih:=ih (List.nodup_cons.1 hd).2
    rw [List.filter_cons]
    by_cases e:a=((n+1:Nat):Int)
    ·have:l.filter (fun x=>decide (x≠((n+1:Nat):Int)))=l:=List.filter_eq_self.2 fun x hm=>by
      have:x≠a:=fun e=>(List.nodup_cons.1 hd).1 (e ▸ hm)
      simpa [e] using this
     rw [if_neg (by simpa using e),this];exact Nat.le_refl _
    ·rw [if_pos (by simpa using e),List.length_cons,List.length_cons];omega
  omega
theorem Te:∀(l done:List Int),Gr.bA done l=true→done.Nodup→(done ++ l).Nodup
 | [],done,_,hd=>by rw [List.append_nil];exact hd
 |n :: l,done,h,hd=>by
  have h0:=h
  unfold Gr.bA at h
  simp only [Bool.and_eq_true] at h
  have hn:n ∉ done:=fun hm=>by
   have:=h
   grind [List.any_eq_true,Gr.Sv]
  have:=Te l (done ++ [n]) (by grind) (by rw [List.nodup_append];exact ⟨hd,by simp,fun a ha b hb e=>hn (by rw [List.mem_singleton] at hb;rw [←hb,←e];exact ha)⟩)
  rwa [List.append_assoc] at this
theorem pG {R:List Int}{l:List Ap}(h:Gr.IC R l=0):R.length≤24:=by
 obtain ⟨h1,_⟩:=Gr.gB h
 have hd:=Te R [] h1 List.nodup_nil
 refine Wd 24 R hd fun x hx=> ?_
 have:=Gr.Yp R [] h1 x hx
 simpa [Gr.Ci] using this
def W5 (l:List Int)(top:Nat):Value×BV×Nat:=if l= [] then (.slice none 0 0, [],top) else (AA top l, [(top,AE Ad l)],top+1)
def Db:Bz:= .det (fun args hp _=>match args with | [v]=> ∃l,BJ Ad hp v l∧(l= []→v= .slice none 0 0)∧l.length≤1000000 | _=>False) (fun args hp top=>match args with | [v]=>W5 (Ad.rd hp v) top | _=>(undef, [],top))
theorem eA:BR Tryz.prog 105 Db:=by
 refine .Jq Q8 ?_
 intro args hp top hpre hcl hsc
 match args,hpre with
 | [v],⟨l,hS,hnil,hn⟩=>
 have hs:=hS.low hcl
 simp only [hS.rd]
 refine Ae.Bn Bu Q8 rfl 8 rfl [.tmp 2] rfl (show 1≤8 by decide) ?_
 have hS0:=hS
 by_cases hne:l= []
 ·subst hne
  have hv:=hnil rfl
  subst hv
  refine CW.vc PG [0,2,4] (by kernel_rfl) ?_
  (repeat ((try refine Vc.mk' ?_);simp (maxSteps:=6000000) only [go_sem]))
  simp only [W5,if_true]
  (refine ⟨[],by simp,by simp,by simp, ?_, ?_, ?_⟩ <;> simp [])
 cases hS with
 |nils=>exact absurd rfl hne
 |emp=>exact absurd rfl hne
 |rows b o c rw vs l hb hv ho hc hn2=>
  have hl:=hne
  simp only [W5,if_neg hne]
  have hbt:b < top:=hs
  have hbt2:¬top=b:=by omega
  have hA:∀ {h':Hp} {x t:Nat},h' x=some (.cells true 1 [])→h' b=some (.cells rw 1 vs)→AR tt.get h' t [68,68] (.slice (some ⟨x,0,none⟩) 0 0) (.slice (some ⟨b,o,none⟩) l.length c)=some (AA t l, [(x,none),(t,AE Ad l)],t+1):=fun {h'} {x} {t} h1 h2=>by
   rw [apI h1 (BJ.rows (E:=Ad) b o c rw vs l h2 hv ho hc hn2) hn,(jV (E:=Ad) hl t).1,(jV (E:=Ad) hl t).2]
  replace hb:hp b=some (.cells rw 1 vs):=hb
  refine CW.vc PG [0,2,4] (by kernel_rfl) ?_
  (repeat ((try refine Vc.mk' ?_);simp (maxSteps:=6000000) only [go_sem,hA,hb,AG hbt,List.replicate_zero]))
  (refine ⟨[top+1],by simp,by simp,by simp, ?_, ?_, ?_⟩ <;> simp [hbt2])
noncomputable def uc:FuncId→Bz:=Cx (Cx (Cx (Cx (Cx vP 107 Fe) 106 EG) 105 Db) 103 Gr.E3) 104 Fa.HN
theorem L5:DU Tryz.prog tt.get uc:=((((PG.add qc).add fM).add eA).add Gr.iw).add Fa.vi
theorem Ek:uc 105=Db:=rfl
theorem JK:uc 103=Gr.E3:=rfl
theorem F4:uc 104=Fa.HN:=rfl
theorem Ft:uc 106=EG:=rfl
theorem Fq:uc 107=Fe:=rfl
def NT:Bz:= .det (fun args hp _=>match args with | [u,v,r, .int .i64 _]=>(∃R,BJ Ad hp u R∧(R= []→u= .slice none 0 0))∧G6 Af hp v∧G6 AJ hp r | _=>False) (fun args hp top=>match args with
 | [u,v,r,late]=>Hs (Ad.rd hp u) (Af.rd hp v) (AJ.rd hp r) (intOf late) top | _=>(undef, [],top))
theorem nv:BR Tryz.prog 87 NT:=by
 refine .Jq V6 ?_
 intro args hp top hpre hcl hsc
 match args,hpre with
 | [u,v,r, .int .i64 late],⟨⟨R,h,hR⟩,⟨l,g⟩,⟨rl,q⟩⟩=>
 have hs:=h.low hcl
 have gs:=g.low hcl
 have qs:=q.low hcl
 simp only [h.rd,g.rd,q.rd,intOf_int]
 have e1:G6 Ad hp u=True:=h.P
 have e2:G6 Af hp v=True:=g.P
 have r1:=h.rd
 have r2:=g.rd
 have kq:∀ {h':Hp},Bc top [] h' hp→G6 AJ h' r=True:=fun {h'} hk=>(q.BU qs hk).P
 have kq2:∀ {h':Hp},Bc top [] h' hp→AJ.rd h' r=rl:=fun {h'} hk=>(q.BU qs hk).rd
 have kr2:∀ {h':Hp},Bc top [] h' hp→Ad.rd h' u=R:=fun {h'} hk=>(h.BU hs hk).rd
 refine Ae.Bn Bu V6 rfl 70 rfl [.tmp 8, .tmp 9] rfl (show 4≤70 by decide) ?_
 by_cases c1:Gr.IC R l=0
 case neg=>
  have e:Hs R l rl late top=(.tuple ⟨[.pointer none, .int .i64 (Gr.IC R l)]⟩, [],top):=by unfold Hs SY;rw [if_pos (.inl c1),if_pos c1]
  refine CW.vc L5 [0,1,2,3,8,9,11,12,13,14,16,24,31,38,51,52,53,54] (by kernel_rfl) ?_
  (repeat ((try refine Vc.mk' ?_);simp (maxSteps:=6000000) only [go_sem,BM g,BL g,Bq g,Bp g,Bo g,BD g,BC g,BB g,BG g,BF g,BE g,g.P,g.oc,g.cl,g.rd,g.ref,Aj gs,AZ gs,AY gs,AX g gs BZ,JK,Gr.E3,Gr.Il,F4,Fa.HN,Fa.HJ,Ek,Db,Ft,EG,Fq,Fe,e1,e2,r1,r2,c1]))
  rw [e]
  (refine ⟨[],by simp,by simp,by simp, ?_, ?_, ?_⟩ <;> simp [])
 by_cases c2:late < 1
 ·have e:Hs R l rl late top=(.tuple ⟨[.pointer none, .int .i64 2]⟩, [],top):=by unfold Hs SY;rw [if_pos (.inr (.inl c2)),if_neg (by simp [c1]),if_pos (.inl c2)]
  refine CW.vc L5 [0,1,2,3,8,9,11,12,13,14,16,24,31,38,51,52,53,54] (by kernel_rfl) ?_
  (repeat ((try refine Vc.mk' ?_);simp (maxSteps:=6000000) only [go_sem,BM g,BL g,Bq g,Bp g,Bo g,BD g,BC g,BB g,BG g,BF g,BE g,g.P,g.oc,g.cl,g.rd,g.ref,Aj gs,AZ gs,AY gs,AX g gs BZ,JK,Gr.E3,Gr.Il,F4,Fa.HN,Fa.HJ,Ek,Db,Ft,EG,Fq,Fe,e1,e2,r1,r2,c1,c2]))
  rw [e]
  (refine ⟨[],by simp,by simp,by simp, ?_, ?_, ?_⟩ <;> simp [])
 by_cases c3:64 < late
 ·have e:Hs R l rl late top=(.tuple ⟨[.pointer none, .int .i64 2]⟩, [],top):=by unfold Hs SY;rw [if_pos (.inr (.inr c3)),if_neg (by simp [c1]),if_pos (.inr c3)]
  refine CW.vc L5 [0,1,2,3,8,9,11,12,13,14,16,24,31,38,51,52,53,54] (by kernel_rfl) ?_
  (repeat ((try refine Vc.mk' ?_);simp (maxSteps:=6000000) only [go_sem,BM g,BL g,Bq g,Bp g,Bo g,BD g,BC g,BB g,BG g,BF g,BE g,g.P,g.oc,g.cl,g.rd,g.ref,Aj gs,AZ gs,AY gs,AX g gs BZ,JK,Gr.E3,Gr.Il,F4,Fa.HN,Fa.HJ,Ek,Db,Ft,EG,Fq,Fe,e1,e2,r1,r2,c1,c2,c3]))
  rw [e]
  (refine ⟨[],by simp,by simp,by simp, ?_, ?_, ?_⟩ <;> simp [])
 have hRn:=pG c1
 have kr:∀ {h':Hp},Bc top [] h' hp→(∃l,BJ Ad h' u l∧(l= []→u= .slice none 0 0)∧l.length≤1000000)=True:=fun {h'} hk=>eq_true ⟨R,h.BU hs hk,hR,by omega⟩
 unfold Hs
 rw [if_neg (by rintro (h | h | h);exact h c1;exact c2 h;exact c3 h)]
 cases hx:Fa.I7 rl with
 |error p=>
  obtain ⟨i,e⟩:=p
  have he:=Fa.PI hx
  refine CW.vc L5 [0,1,2,3,8,9,11,12,13,14,16,24,31,38,51,52,53,54] (by kernel_rfl) ?_
  (repeat ((try refine Vc.mk' ?_);simp (maxSteps:=6000000) only [go_sem,BM g,BL g,Bq g,Bp g,Bo g,BD g,BC g,BB g,BG g,BF g,BE g,g.P,g.oc,g.cl,g.rd,g.ref,Aj gs,AZ gs,AY gs,AX g gs BZ,JK,Gr.E3,Gr.Il,F4,Fa.HN,Fa.HJ,Ek,Db,Ft,EG,Fq,Fe,e1,e2,r1,r2,c1,c2,c3,kq,kq2,hx,he]))
  (refine ⟨[],by simp,by simp,by simp, ?_, ?_, ?_⟩ <;> simp [])
 |ok m=>
  by_cases hR0:R= []
  ·subst hR0
   refine CW.vc L5 [0,1,2,3,8,9,11,12,13,14,16,24,31,38,51,52,53,54] (by kernel_rfl) ?_
   (repeat ((try refine Vc.mk' ?_);simp (maxSteps:=6000000) only [go_sem,BM g,BL g,Bq g,Bp g,Bo g,BD g,BC g,BB g,BG g,BF g,BE g,g.P,g.oc,g.cl,g.rd,g.ref,Aj gs,AZ gs,AY gs,AX g gs BZ,JK,Gr.E3,Gr.Il,F4,Fa.HN,Fa.HJ,Ek,Db,Ft,EG,Fq,Fe,e1,e2,r1,r2,c1,c2,c3,kq,kq2,hx,kr,kr2,W5,if_true,Fa.WN]))
   have wl:Ar .u64 late=late:=tV (by omega) (by omega)
   refine CW.D9 (Tl hp top v [] l m rl.length late) (fun k=>k≤l.length) (fun k=>l.length - k) 0 (Nat.zero_le _) ?_ ?_
   ·exact (by refine Bj.mk' [top+9,top+5,top+6,top+7,top+4,top+3,top+8,top+2] hcl (by simp) (by simp) rfl (Ac ?_) ?_ ?_ <;> simp [J1,OG,Sc.Av (fun j hj=>AB hj) gs,Ml,LF,Np,KZ,Pt,Fa.JQ,wl,ze,AAV,AA5])
   ·intro k hk
    by_cases hlt:k < l.length
    ·have hst:=P4 hlt
     refine CW.vc L5 [0,1,2,3,8,9,11,12,13,14,16,24,31,38,51,52,53,54] (by kernel_rfl) ?_
     (repeat ((try refine Vc.mk' ?_);simp (maxSteps:=6000000) only [go_sem,BM g,BL g,Bq g,Bp g,Bo g,BD g,BC g,BB g,BG g,BF g,BE g,g.P,g.oc,g.cl,g.rd,g.ref,Aj gs,AZ gs,AY gs,AX g gs BZ,JK,Gr.E3,Gr.Il,F4,Fa.HN,Fa.HJ,Ek,Db,Ft,EG,Fq,Fe,Tl,Ml,LF,Np,hlt]))
     refine .mk (k+1) hlt (by omega) ((by refine Bj.mk' [top,top+1,top+2,top+3,top+4,top+5,top+6,top+7] hcl (by simp) (by simp) rfl (Ac ?_) ?_ ?_ <;> simp [Sc.Av (fun j hj=>AB hj) gs,Ml,LF,Np,Pt,Fa.JQ,hst,OC,pk,B0 hlt g.le]))
    ·have hk2:k=l.length:=by omega
     subst hk2
     refine CW.vc L5 [0,1,2,3,8,9,11,12,13,14,16,24,31,38,51,52,53,54] (by kernel_rfl) ?_
     (repeat ((try refine Vc.mk' ?_);simp (maxSteps:=6000000) only [go_sem,BM g,BL g,Bq g,Bp g,Bo g,BD g,BC g,BB g,BG g,BF g,BE g,g.P,g.oc,g.cl,g.rd,g.ref,Aj gs,AZ gs,AY gs,AX g gs BZ,JK,Gr.E3,Gr.Il,F4,Fa.HN,Fa.HJ,Ek,Db,Ft,EG,Fq,Fe,Tl,Ml,LF,Np,Nat.lt_irrefl,Int.lt_irrefl,decide_false,List.take_length]))
     (refine ⟨[top,top+1,top+2,top+3,top+4,top+5,top+6,top+7],by simp,by simp,by simp, ?_, ?_, ?_⟩ <;> simp [Ml,LF,Np,Pt,Fa.JQ])
  ·skip
   refine CW.vc L5 [0,1,2,3,8,9,11,12,13,14,16,24,31,38,51,52,53,54] (by kernel_rfl) ?_
   (repeat ((try refine Vc.mk' ?_);simp (maxSteps:=6000000) only [go_sem,BM g,BL g,Bq g,Bp g,Bo g,BD g,BC g,BB g,BG g,BF g,BE g,g.P,g.oc,g.cl,g.rd,g.ref,Aj gs,AZ gs,AY gs,AX g gs BZ,JK,Gr.E3,Gr.Il,F4,Fa.HN,Fa.HJ,Ek,Db,Ft,EG,Fq,Fe,e1,e2,r1,r2,c1,c2,c3,kq,kq2,hx,kr,kr2,W5,if_neg hR0,Fa.WN]))
   have wl:Ar .u64 late=late:=tV (by omega) (by omega)
   have hm1:∀ {b:Nat},Av (rn top [top+10,top+6,top+7,top+8,top+4,top+3,top+9,top+5] (top+11)) (AA (top+7) R)=AA (top+5) R:=fun {b}=>by
    cases R with
    |nil=>rfl
    |cons a R=>simp [AA,Av,rn]
   refine CW.D9 (Tl hp top v R l m rl.length late) (fun k=>k≤l.length) (fun k=>l.length - k) 0 (Nat.zero_le _) ?_ ?_
   ·exact (by refine Bj.mk' [top+10,top+6,top+7,top+8,top+4,top+3,top+9,top+5] hcl (by simp) (by simp) rfl (Ac ?_) ?_ ?_ <;> simp [Sc.Av (fun j hj=>AB hj) gs,Ml,LF,Np,KZ,Pt,Fa.JQ,wl,ze,AAV,AA5])
   ·intro k hk
    by_cases hlt:k < l.length
    ·have hst:=P4 hlt
     refine CW.vc L5 [0,1,2,3,8,9,11,12,13,14,16,24,31,38,51,52,53,54] (by kernel_rfl) ?_
     (repeat ((try refine Vc.mk' ?_);simp (maxSteps:=6000000) only [go_sem,BM g,BL g,Bq g,Bp g,Bo g,BD g,BC g,BB g,BG g,BF g,BE g,g.P,g.oc,g.cl,g.rd,g.ref,Aj gs,AZ gs,AY gs,AX g gs BZ,JK,Gr.E3,Gr.Il,F4,Fa.HN,Fa.HJ,Ek,Db,Ft,EG,Fq,Fe,Tl,Ml,LF,Np,hlt]))
     refine .mk (k+1) hlt (by omega) ((by refine Bj.mk' [top,top+1,top+2,top+3,top+4,top+5,top+6,top+7] hcl (by simp) (by simp) rfl (Ac ?_) ?_ ?_ <;> simp [Sc.Av (fun j hj=>AB hj) gs,Ml,LF,Np,Pt,Fa.JQ,hst,OC,pk,B0 hlt g.le]))
    ·have hk2:k=l.length:=by omega
     subst hk2
     refine CW.vc L5 [0,1,2,3,8,9,11,12,13,14,16,24,31,38,51,52,53,54] (by kernel_rfl) ?_
     (repeat ((try refine Vc.mk' ?_);simp (maxSteps:=6000000) only [go_sem,BM g,BL g,Bq g,Bp g,Bo g,BD g,BC g,BB g,BG g,BF g,BE g,g.P,g.oc,g.cl,g.rd,g.ref,Aj gs,AZ gs,AY gs,AX g gs BZ,JK,Gr.E3,Gr.Il,F4,Fa.HN,Fa.HJ,Ek,Db,Ft,EG,Fq,Fe,Tl,Ml,LF,Np,Nat.lt_irrefl,Int.lt_irrefl,decide_false,List.take_length]))
     (refine ⟨[top,top+1,top+2,top+3,top+4,top+5,top+6,top+7],by simp,by simp,by simp, ?_, ?_, ?_⟩ <;> simp [Ml,LF,Np,Pt,Fa.JQ])
end Go.Proofs.YthlhnangbinhoaaGreatDoor.Dm
