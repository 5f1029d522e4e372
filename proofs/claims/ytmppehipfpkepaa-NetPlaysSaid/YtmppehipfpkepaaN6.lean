/- The Bc: Clone of numbers, New, three. -/
import Derived.Test.YtmppehipfpkepaaN3
set_option linter.unusedVariables false
namespace Go.Proofs.Ytmppehipfpkepaa.Dm
open Go.Dm
set_option maxHeartbeats 16000000
set_option maxRecDepth 20000
/-! ### slices.Clone -/
def M7:Bp:= .det (fun args hp _=>match args with | [v]=> ∃l,BU Ab hp v l∧l≠ []∧l.length≤1000000 | _=>False) (fun args hp top=>match args with | [v]=>(AK top (Ab.rd hp v), [(top,AO Ab (Ab.rd hp v))],top+1) | _=>(undef, [],top))
theorem apI {h':Hp}{b t:Nat}{v:Value}{l:List Int}(hb:h' b=some (.cells true 1 []))(h:BU Ab h' v l)(hn:l.length≤1000000) :
  Ar tt.get h' t [40,40] (.slice (some ⟨b,0,none⟩) 0 0) v=some (Df t l.length, [(b,none),(t,Dv Ab l)],t+1):=by
 have e1:=h.J7
 have e2:FH h' 1 l.length v=some (Ab.flat l):=h.FH
 have e3:BD (Ab.flat l)=true:=Bn.F4 l
 have e4:(Ab.flat l).length=l.length * 1:=Bn.Bt ..
 have e5:DR l.length Ph.bytes=true:=TS (by omega) (by decide)
 have hs:Ph.size=1:=rfl
 have hb2:Nat.ble Ph.bytes 65536=true:=rfl
 have e6:(Nat.ble l.length 0 && !Nat.beq 0 0)=false:=by simp
 have e7:Nat.beq (Ab.flat l).length (l.length * 1)=true:=by rw [e4];exact Nat.beq_refl _
 simp only [Ar,Kw,Xb,e1,GD,B8,hb,hs,e2,hb2,e3,e7,Bool.and_self,Nat.beq_refl,Nat.zero_add,Nat.zero_mul,List.length_nil,e5,List.drop_nil,List.nil_append,Bool.not_true,Bool.and_false]
 rfl
theorem Vl {α:Type}{E:Bn α}{l:List α}(h:l≠ [])(b:Nat):Df b l.length=AK b l∧Dv E l=AO E l:=by
 cases l with
 |nil=>exact absurd rfl h
 |cons a l=>exact ⟨rfl,rfl⟩
theorem iZ:BK Try.prog 40 M7:=by
 refine .Cc O6 ?_
 intro args hp top hpre hcl hsc
 match args,hpre with
 | [v],⟨l,hS,hne,hn⟩=>
 have hs:=hS.low hcl
 simp only [hS.rd]
 refine AL.Au BE O6 rfl 8 rfl [.tmp 2] rfl (show 1≤8 by decide) ?_
 have hS0:=hS
 cases hS with
 |nils=>exact absurd rfl hne
 |emp=>exact absurd rfl hne
 |rows b o c rw vs l hb hv ho hc hn2=>
  have hl:=hne
  have hbt:b < top:=hs
  have hbt2:¬top=b:=by omega
  have hA:∀ {h':Hp} {x t:Nat},h' x=some (.cells true 1 [])→h' b=some (.cells rw 1 vs)→Ar tt.get h' t [40,40] (.slice (some ⟨x,0,none⟩) 0 0) (.slice (some ⟨b,o,none⟩) l.length c)=some (AK t l, [(x,none),(t,AO Ab l)],t+1):=fun {h'} {x} {t} h1 h2=>by
   rw [apI h1 (BU.rows (E:=Ab) b o c rw vs l h2 hv ho hc hn2) hn,(Vl (E:=Ab) hl t).1,(Vl (E:=Ab) hl t).2]
  replace hb:hp b=some (.cells rw 1 vs):=hb
  refine CW.vc DL [0,2,4] (by kernel_rfl) ?_
  (repeat ((try refine Vc.mk' ?_);simp only [go_sem,Nat.reduceAdd,Nat.reduceLeDiff,hA,hb,AS hbt,List.replicate_zero]))
  (refine ⟨[top+1],by simp,by simp,by simp, ?_, ?_, ?_⟩ <;> simp [AD.nil,AD.cons,AQ,AM,Af,AB,AE.set,AE.refl])
noncomputable def Tc:FuncId→Bp:=Bu (Bu (Bu (Bu OS 40 M7) 38 Gr.ET) 39 Fa.JH) 10 Kz
theorem Jr:Cf Try.prog tt.get Tc:=(((DL.add iZ).add Gr.vy).add Fa.Sv).add eN
theorem fw:Tc 40=M7:=rfl
theorem Tm:Tc 38=Gr.ET:=rfl
theorem Yk:Tc 39=Fa.JH:=rfl
theorem mO:Tc 41=JO:=rfl
theorem oO:Tc 30=B3:=rfl
/-! ### New -/
def H9 (x:DD×Nat)(l:AX):DD×Nat:=(Fs x.1 (pk l.A l.B) l.C2 x.2,LD x.1 (pk l.A l.B) x.2)
def Gb (l:List AX):DD×Nat:=l.foldl H9 ([],0)
theorem ML {l:List AX}{k:Nat}(h:k < l.length):Gb (l.take (k+1))=H9 (Gb (l.take k)) (Aj l k):=by
 rw [CO h];unfold Gb;rw [List.foldl_append];rfl
def GV (R:List Int)(l:List AX)(m:Fa.KG)(c:Nat)(late:Int):Ak:=⟨R,(Gb l).1,(Gb l).2, [],0, [],0,⟨m,c,Fa.dN⟩,late,0,0, []⟩
def FZ (n:Nat)(s:Ak):BC:= [(n,Bi n s),(n+1,some (.map (Bq s.L) s.lc)),(n+2,some (.map (BR s.C) s.cc)),(n+3,some (.map (Br s.S) s.sc)),(n+4,Fa.B7 (n+5) s.P.ks),(n+5,some (.map (BI s.P.m) s.P.CC)),(n+6,Bv s.last (.slice none 0 0)),(n+7,AO Ab s.R)]
def MM (R:List Int)(l:List AX)(rl:List A8)(late:Int):Int:=if ¬Gr.DS R l=0 then Gr.DS R l else if late < 1∨64 < late then 2 else match Fa.Dw rl with
 | .error (_,e)=>e
 | .ok _=>0
def Cu (R:List Int)(l:List AX)(rl:List A8)(late:Int)(top:Nat):Value×BC×Nat:=if ¬Gr.DS R l=0∨late < 1∨64 < late then (.tuple ⟨[.pointer none, .int .i64 (MM R l rl late)]⟩, [],top) else match Fa.Dw rl with
 | .error (_,e)=>(.tuple ⟨[.pointer none, .int .i64 e]⟩, [],top)
 | .ok m=>(.tuple ⟨[.pointer (some ⟨top,0,none⟩), .int .i64 0]⟩,FZ top (GV R l m rl.length late),top+8)
def Mm:Bp:= .det (fun args hp _=>match args with | [u,v,r, .int .i64 _]=>(∃R,BU Ab hp u R∧R≠ []∧R.length≤1000)∧Dp An hp v∧Dp Ap hp r | _=>False) (fun args hp top=>match args with
 | [u,v,r,late]=>Cu (Ab.rd hp u) (An.rd hp v) (Ap.rd hp r) (intOf late) top | _=>(undef, [],top))
def ON (hp:Hp)(top:Nat)(v:Value)(R:List Int)(l:List AX)(m:Fa.KG)(c:Nat)(late:Int)(k:Nat):SS:=
 ⟨[(14, .pointer (some ⟨top,0,none⟩),true),(51,v,true),(52, .int .i64 (l.length:Int),true),(53, .int .i64 (k:Int),true)],hp.AZ (FZ top {GV R l m c late with L:=(Gb (l.take k)).1,lc:=(Gb (l.take k)).2}),top+8⟩
theorem yA:Bq [] = []:=rfl
theorem x7:BR [] = []:=rfl
theorem zD:Br [] = []:=rfl
theorem ua:BK Try.prog 21 Mm:=by
 refine .Cc PI ?_
 intro args hp top hpre hcl hsc
 match args,hpre with
 | [u,v,r, .int .i64 late],⟨⟨R,h,hR,hRn⟩,⟨l,g⟩,⟨rl,q⟩⟩=>
 have hs:=h.low hcl
 have gs:=g.low hcl
 have qs:=q.low hcl
 simp only [h.rd,g.rd,q.rd,BA]
 have e1:Dp Ab hp u=True:=h.P
 have e2:Dp An hp v=True:=g.P
 have r1:=h.rd
 have r2:=g.rd
 have kq:∀ {h':Hp},AE top [] h' hp→Dp Ap h' r=True:=fun {h'} hk=>(q.BT qs hk).P
 have kq2:∀ {h':Hp},AE top [] h' hp→Ap.rd h' r=rl:=fun {h'} hk=>(q.BT qs hk).rd
 have kr:∀ {h':Hp},AE top [] h' hp→(∃l,BU Ab h' u l∧l≠ []∧l.length≤1000000)=True:=fun {h'} hk=>eq_true ⟨R,h.BT hs hk,hR,by omega⟩
 have kr2:∀ {h':Hp},AE top [] h' hp→Ab.rd h' u=R:=fun {h'} hk=>(h.BT hs hk).rd
 refine AL.Au BE PI rfl 70 rfl [.tmp 8, .tmp 9] rfl (show 4≤70 by decide) ?_
 by_cases c1:Gr.DS R l=0
 case neg=>
  have e:Cu R l rl late top=(.tuple ⟨[.pointer none, .int .i64 (Gr.DS R l)]⟩, [],top):=by unfold Cu MM;rw [if_pos (.inl c1),if_pos c1]
  refine CW.vc Jr [0,1,2,3,8,9,11,12,13,14,16,24,31,38,51,52,53,54] (by kernel_rfl) ?_
  (repeat ((try refine Vc.mk' ?_);simp only [go_sem,Nat.reduceAdd,g.P,g.rd,Tm,Gr.ET,Gr.FF,e1,r1,c1]))
  rw [e]
  (refine ⟨[],by simp,by simp,by simp, ?_, ?_, ?_⟩ <;> simp [Ad,Ag,AD.nil,AE.set,AE.refl])
 by_cases c2:late < 1
 ·have e:Cu R l rl late top=(.tuple ⟨[.pointer none, .int .i64 2]⟩, [],top):=by unfold Cu MM;rw [if_pos (.inr (.inl c2)),if_neg (by simp [c1]),if_pos (.inl c2)]
  refine CW.vc Jr [0,1,2,3,8,9,11,12,13,14,16,24,31,38,51,52,53,54] (by kernel_rfl) ?_
  (repeat ((try refine Vc.mk' ?_);simp only [go_sem,Nat.reduceAdd,g.P,g.rd,Tm,Gr.ET,Gr.FF,e1,r1,c1,c2]))
  rw [e]
  (refine ⟨[],by simp,by simp,by simp, ?_, ?_, ?_⟩ <;> simp [Ad,Ag,AD.nil,AE.set,AE.refl])
 by_cases c3:64 < late
 ·have e:Cu R l rl late top=(.tuple ⟨[.pointer none, .int .i64 2]⟩, [],top):=by unfold Cu MM;rw [if_pos (.inr (.inr c3)),if_neg (by simp [c1]),if_pos (.inr c3)]
  refine CW.vc Jr [0,1,2,3,8,9,11,12,13,14,16,24,31,38,51,52,53,54] (by kernel_rfl) ?_
  (repeat ((try refine Vc.mk' ?_);simp only [go_sem,Nat.reduceAdd,g.P,g.rd,Tm,Gr.ET,Gr.FF,e1,r1,c1,c2,c3]))
  rw [e]
  (refine ⟨[],by simp,by simp,by simp, ?_, ?_, ?_⟩ <;> simp [Ad,Ag,AD.nil,AE.set,AE.refl])
 unfold Cu
 rw [if_neg (by rintro (h | h | h);exact h c1;exact c2 h;exact c3 h)]
 cases hx:Fa.Dw rl with
 |error p=>
  obtain ⟨i,e⟩:=p
  have he:=Fa.JB hx
  refine CW.vc Jr [0,1,2,3,8,9,11,12,13,14,16,24,31,38,51,52,53,54] (by kernel_rfl) ?_
  (repeat ((try refine Vc.mk' ?_);simp only [go_sem,Nat.reduceAdd,g.P,g.rd,Tm,Gr.ET,Gr.FF,Yk,Fa.JH,Fa.L4,e1,r1,c1,c2,c3,kq,kq2,hx,he]))
  (refine ⟨[],by simp,by simp,by simp, ?_, ?_, ?_⟩ <;> simp [Ad,Ag,AD.nil,AE.set,AE.refl])
 |ok m=>
  refine CW.vc Jr [0,1,2,3,8,9,11,12,13,14,16,24,31,38,51,52,53,54] (by kernel_rfl) ?_
  (repeat ((try refine Vc.mk' ?_);simp only [go_sem,Nat.reduceAdd,Nat.reduceLeDiff,CB g,g.P,g.rd,Tm,Gr.ET,Gr.FF,Yk,Fa.JH,Fa.L4,fw,M7,mO,JO,e1,r1,c1,c2,c3,kq,kq2,hx,kr,kr2,Fa.Cm]))
  have wl:BQ .u64 late=late:=PT (by omega) (by omega)
  have hm1:∀ {b:Nat},Ad (rn top [top+10,top+6,top+7,top+8,top+4,top+3,top+9,top+5] (top+11)) (AK (top+7) R)=AK (top+5) R:=fun {b}=>by
   cases R with
   |nil=>exact absurd rfl hR
   |cons a R=>simp [AK,Ad,rn]
  refine CW.CZ (ON hp top v R l m rl.length late) (fun k=>k≤l.length) (fun k=>l.length - k) 0 (Nat.zero_le _) ?_ ?_
  ·exact (by refine BO.mk' [top+10,top+6,top+7,top+8,top+4,top+3,top+9,top+5] hcl (by simp) (by simp) rfl (AV ?_) ?_ ?_ <;> simp [Ax,Cd,Ad,Ag,BX,AD.nil,AD.cons,AF,AG,BZ,AQ,AM,Aw,Af,AB,AH,AE.set,AE.refl,Ai,Sc.Ad (fun j hj=>AA hj) gs,FZ,Bi,GV,Gb,Bv,Fa.B7,wl,yA,x7,zD])
  ·intro k hk
   by_cases hlt:k < l.length
   ·have hst:=ML hlt
    refine CW.vc Jr [0,1,2,3,8,9,11,12,13,14,16,24,31,38,51,52,53,54] (by kernel_rfl) ?_
    (repeat ((try refine Vc.mk' ?_);simp only [go_sem,reduceCtorEq,Nat.reduceAdd,Nat.reduceLT,Nat.reduceEqDiff,B4 g,DN g,Ao gs,oO,B3,ON,FZ,Bi,GV,hlt]))
    refine .mk (k+1) hlt (by omega) ((by refine BO.mk' [top,top+1,top+2,top+3,top+4,top+5,top+6,top+7] hcl (by simp) (by simp) rfl (AV ?_) ?_ ?_ <;> simp [Ax,Cd,Ad,Ag,BX,AD.nil,AD.cons,AF,AG,BZ,AQ,AM,Aw,Af,AB,AH,AE.set,AE.refl,C9,Ai,Cn,ES,Sc.Ad (fun j hj=>AA hj) gs,FZ,Bi,GV,Bv,Fa.B7,hst,H9,pk,Av hlt g.le]))
   ·have hk2:k=l.length:=by omega
    subst hk2
    refine CW.vc Jr [0,1,2,3,8,9,11,12,13,14,16,24,31,38,51,52,53,54] (by kernel_rfl) ?_
    (repeat ((try refine Vc.mk' ?_);simp only [go_sem,ON,FZ,Bi,GV,Int.lt_irrefl,decide_false,List.take_length]))
    (refine ⟨[top,top+1,top+2,top+3,top+4,top+5,top+6,top+7],by simp,by simp,by simp, ?_, ?_, ?_⟩ <;> simp [Ad,Ag,BX,AD.nil,AD.cons,AF,AG,BZ,AQ,AM,Aw,Af,AB,AH,AE.set,AE.refl,C9,Ai,Cn,ES,Bv,Fa.B7])
end Go.Proofs.Ytmppehipfpkepaa.Dm
/- The Bc: three routers in a row; what Send and Tick leave is a Bc. -/
set_option linter.unusedVariables false
namespace Go.Proofs.Ytmppehipfpkepaa.Dm
open Go.Dm
set_option maxHeartbeats 16000000
set_option maxRecDepth 20000
noncomputable def kY:FuncId→Bp:=Bu Tc 21 Mm
theorem Rm:Cf Try.prog tt.get kY:=Jr.add ua
theorem XK:kY 21=Mm:=rfl
def R3:List Int:= [1,2,3]
def L3:List AX:= [⟨1,2,5⟩,⟨2,3,1⟩]
def pJ (m:Fa.KG)(c:Nat)(late:Int):Ak:=GV R3 L3 m c late
theorem zY:Gr.DS R3 L3=0:=by decide +kernel
def IG (rl:List A8)(late:Int)(top:Nat):Value×BC×Nat:=if late < 1∨64 < late then (.pointer none, [],top) else match Fa.Dw rl with
 | .error _=>(.pointer none, [],top)
 | .ok m=>(.pointer (some ⟨top,0,none⟩),FZ top (pJ m rl.length late),top+8)
theorem AD6 {rl:List A8}{late:Int}{top:Nat}(m:Fa.KG)(h:¬(late < 1∨64 < late))(hp:Fa.Dw rl= .ok m):Cu R3 L3 rl late top=(.tuple ⟨[.pointer (some ⟨top,0,none⟩), .int .i64 0]⟩,FZ top (pJ m rl.length late),top+8):=by
 unfold Cu
 rw [if_neg (by rintro (c | c);exact c zY;exact h c),hp];rfl
theorem ABW {rl:List A8}{late:Int}{top:Nat}(h:late < 1∨64 < late):Cu R3 L3 rl late top=(.tuple ⟨[.pointer none, .int .i64 2]⟩, [],top):=by
 unfold Cu MM
 rw [if_pos (.inr h),if_neg (by simp [zY]),if_pos h]
theorem AB6 {rl:List A8}{late:Int}{top:Nat}{i:Nat}{e:Int}(h:¬(late < 1∨64 < late))(hp:Fa.Dw rl= .error (i,e)):Cu R3 L3 rl late top=(.tuple ⟨[.pointer none, .int .i64 e]⟩, [],top):=by
 unfold Cu
 rw [if_neg (by rintro (c | c);exact c zY;exact h c),hp]
def PQ:Bp:= .det (fun args hp _=>match args with | [.int .i64 _,r]=>Dp Ap hp r | _=>False) (fun args hp top=>match args with
 | [late,r]=>IG (Ap.rd hp r) (intOf late) top | _=>(undef, [],top))
theorem mV:BK Try.prog 9 PQ:=by
 refine .Cc bE ?_
 intro args hp top hpre hcl hsc
 match args,hpre with
 | [.int .i64 late,r],⟨rl,q⟩=>
 have qs:=q.low hcl
 simp only [q.rd,BA]
 have kq:∀ {h':Hp},AE top [] h' hp→Dp Ap h' r=True:=fun {h'} hk=>(q.BT qs hk).P
 have kq2:∀ {h':Hp},AE top [] h' hp→Ap.rd h' r=rl:=fun {h'} hk=>(q.BT qs hk).rd
 have p1:∀ {h':Hp} {b:Nat},h' b=some (.cells true 1 [.int .i64 1, .int .i64 2, .int .i64 3])→(∃R,BU Ab h' (.slice (some ⟨b,0,none⟩) 3 3) R∧R≠ []∧R.length≤1000)=True:=fun h=>eq_true ⟨R3, .own (l:=R3) h (by decide),by decide,by decide⟩
 have p2:∀ {h':Hp} {b:Nat},h' b=some (.cells true 1 [.int .i64 1, .int .i64 2, .int .i64 3])→Ab.rd h' (.slice (some ⟨b,0,none⟩) 3 3)=R3:=fun h=>(BU.own (E:=Ab) (l:=R3) h (by decide)).rd
 have p3:∀ {h':Hp} {b:Nat},h' b=some (.cells true 3 [.int .i64 1, .int .i64 2, .int .i64 5, .int .i64 2, .int .i64 3, .int .i64 1])→Dp An h' (.slice (some ⟨b,0,none⟩) 2 2)=True:=fun h=>(BU.own (E:=An) (l:=L3) h (by decide)).P
 have p4:∀ {h':Hp} {b:Nat},h' b=some (.cells true 3 [.int .i64 1, .int .i64 2, .int .i64 5, .int .i64 2, .int .i64 3, .int .i64 1])→An.rd h' (.slice (some ⟨b,0,none⟩) 2 2)=L3:=fun h=>(BU.own (E:=An) (l:=L3) h (by decide)).rd
 refine AL.Au BE bE rfl 20 rfl [.tmp 4] rfl (show 2≤20 by decide) ?_
 by_cases c:late < 1∨64 < late
 ·have e:IG rl late top=(.pointer none, [],top):=by unfold IG;rw [if_pos c]
  have n3:∀ {T},Cu R3 L3 rl late T=_:=fun {T}=>ABW c
  refine CW.vc Rm [0,1,4,5,6,18] (by kernel_rfl) ?_
  (repeat ((try refine Vc.mk' ?_);simp only [go_sem,reduceCtorEq,Nat.reduceAdd,Nat.reduceMul,Nat.reduceLeDiff,Int.reduceEq,XK,Mm,uZ,vB,List.drop_succ_cons,List.drop_zero,List.length_cons,List.drop_nil,p1,p2,p3,p4,kq,kq2,n3]))
  rw [e]
  (refine ⟨[],by simp,by simp,by simp, ?_, ?_, ?_⟩ <;> simp [Ad,AD.nil,AE.set,AE.refl])
 cases hx:Fa.Dw rl with
 |error p=>
  obtain ⟨i,e⟩:=p
  have he:=Fa.JB hx
  have e3:IG rl late top=(.pointer none, [],top):=by unfold IG;rw [if_neg c,hx]
  have n3:∀ {T},Cu R3 L3 rl late T=_:=fun {T}=>AB6 c hx
  refine CW.vc Rm [0,1,4,5,6,18] (by kernel_rfl) ?_
  (repeat ((try refine Vc.mk' ?_);simp only [go_sem,reduceCtorEq,Nat.reduceAdd,Nat.reduceMul,Nat.reduceLeDiff,XK,Mm,uZ,vB,List.drop_succ_cons,List.drop_zero,List.length_cons,List.drop_nil,p1,p2,p3,p4,kq,kq2,n3,he]))
  rw [e3]
  (refine ⟨[],by simp,by simp,by simp, ?_, ?_, ?_⟩ <;> simp [Ad,AD.nil,AE.set,AE.refl])
 |ok m=>
  have e3:IG rl late top=(.pointer (some ⟨top,0,none⟩),FZ top (pJ m rl.length late),top+8):=by unfold IG;rw [if_neg c,hx]
  have n3:∀ {T},Cu R3 L3 rl late T=_:=fun {T}=>AD6 m c hx
  refine CW.vc Rm [0,1,4,5,6,18] (by kernel_rfl) ?_
  (repeat ((try refine Vc.mk' ?_);simp only [go_sem,reduceCtorEq,Nat.reduceAdd,Nat.reduceMul,Nat.reduceLeDiff,XK,Mm,uZ,vB,List.drop_succ_cons,List.drop_zero,List.length_cons,List.drop_nil,p1,p2,p3,p4,kq,kq2,n3,FZ]))
  rw [e3]
  (refine ⟨[top+2,top+3,top+4,top+5,top+6,top+7,top+8,top+9],by simp,by simp,by simp, ?_, ?_, ?_⟩ <;> simp [Ad,Ag,BX,AD.nil,AD.cons,AF,AG,BZ,AQ,AM,Aw,Af,AB,AH,AE.set,AE.refl,C9,Ai,Cn,ES,FZ,Bi,Bv,Fa.B7,pJ,GV,R3])
end Go.Proofs.Ytmppehipfpkepaa.Dm
/- The Bc: what New, Send and Tick leave is a Bc. -/
set_option linter.unusedVariables false
namespace Go.Proofs.Ytmppehipfpkepaa.Dm
open Go.Dm
set_option maxHeartbeats 16000000
set_option maxRecDepth 20000
theorem CG {b:Nat}:∀ {us:BC} {h:Hp},(∀p∈us,p.1≠b)→(h.AZ us) b=h b
 | [],_,_=>rfl
 | (i,o) :: us,h,hh=>by
  rw [Aa,CG (us:=us) fun p hp=>hh p (List.mem_cons_of_mem _ hp)]
  exact AH _ _ _ _ (fun e=>hh (i,o) (by simp) e.symm)
theorem C4:∀ {us vs:BC} {h:Hp},h.AZ (us ++ vs)=(h.AZ us).AZ vs
 | [],_,_=>rfl
 | (i,o) :: us,vs,h=>by rw [List.cons_append,Aa,Aa,C4]
theorem BW.new {hp:Hp}{n:Nat}{s:Ak}(h1:s.l= [])(h2:s.last=0)(h3:s.P.ks.length=625)(h4:s.R.length≤1000)(h5:1≤s.late)(h6:s.late≤64)(h7:s.now=0):BW (hp.AZ (FZ n s)) n (.slice none 0 0) s:=by
 have x01:¬n=n+1:=by omega
 have x02:¬n=n+2:=by omega
 refine ⟨?_, ?_, ?_, ?_, ?_, ?_,h3,⟨?_,by rw [h1];exact .nil,by rw [h1];exact .nil,by rw [h1];simp,by omega,by omega,by rw [h1];simp⟩,fun _=> ?_,h4,h5,h6,by omega,by omega⟩
 all_goals simp [FZ,Hp.AZ,Hp.set,Bv]
theorem Ti {s:Ak}(hu:OR s.l)(ht:∀x∈s.l,1≤x.CA∧x.CA≤s.last)(h0:0≤s.last)(a b:Int)(m:List UInt8):∀k:Nat,OR (E7 s a b m k)∧∀x∈E7 s a b m k,1≤x.CA∧x.CA≤s.last+(k:Int)
 |0=>⟨hu,fun x hx=>by have:=ht x hx;simpa using this⟩
 |1=>⟨O3 hu fun x hx=>by have:=(ht x hx).2;show x.CA < s.last+1;omega,fun x hx=>by
   rcases Mv.1 hx with rfl | hx
   ·show 1≤s.last+1∧s.last+1≤s.last+((1:Nat):Int);omega
   ·have:=ht x hx;omega⟩
 |k+2=>by
  obtain ⟨i1,i2⟩:=Ti hu ht h0 a b m (k+1)
  refine ⟨O3 i1 fun x hx=>by have:=(i2 x hx).2;show x.CA < s.last+((k+2:Nat):Int);omega,fun x hx=> ?_⟩
  rcases Mv.1 hx with rfl | hx
  ·show 1≤s.last+((k+2:Nat):Int)∧s.last+((k+2:Nat):Int)≤s.last+((k+2:Nat):Int);omega
  ·have:=i2 x hx;omega
def JG (s:Ak)(a b:Int)(m:List UInt8):Prop:=DX s a b=0∨512 < m.length∨GQ s a b=false∨16382 < s.l.length
instance {s:Ak} {a b:Int} {m:List UInt8}:Decidable (JG s a b m):=by unfold JG;infer_instance
def Ef (n:Nat)(lv:Value)(s:Ak)(a b:Int)(m:List UInt8)(top:Nat):BC:=(C5 n lv s a b m top).2.1
def NT (s:Ak)(a b:Int)(m:List UInt8):Ak:=if JG s a b m then s else {s with P:=(Fa.Cr s.P a b).1,last:=s.last+((DT s a b).toNat:Int),l:=E7 s a b m (DT s a b).toNat}
def JQ (lv:Value)(s:Ak)(a b:Int)(m:List UInt8)(top:Nat):Value:=if JG s a b m∨DT s a b=0 then lv else Df top (s.l.length+(DT s a b).toNat)
theorem tE {p:Fa.Gl}(h:p.ks.length=625)(a b:Int):(Fa.Cr p a b).1.ks.length=625:=by
 unfold Fa.Cr
 split
 ·exact h
 ·split <;> simp [h]
theorem BW.send {hp:Hp}{n top:Nat}{lv:Value}{s:Ak}(h:BW hp n lv s)(h8:n+7 < top)(lvs:Sc top lv)(hla:s.last < 999990)(a b:Int)(m:List UInt8) :
  BW (hp.AZ (Ef n lv s a b m top)) n (JQ lv s a b m top) (NT s a b m):=by
 by_cases hX:JG s a b m
 ·have e1:Ef n lv s a b m top= []:=by unfold Ef C5;rw [if_pos (show _∨_ from hX)]
  rw [e1,NT,JQ,if_pos hX,if_pos (.inl hX)];exact h
 have e1:Ef n lv s a b m top=Fa.Cm (n+5) (n+4) (Fa.Cr s.P a b).1 ++ Fm n lv s a b m (DT s a b).toNat top:=by unfold Ef C5;rw [if_neg (show ¬(_∨_) from hX)]
 have hc:=ZU s.P a b
 have hkl:=tE h.pl a b
 have hlen:s.l.length≤16382:=by have:¬16382 < s.l.length:=fun c=>hX (.inr (.inr (.inr c)));omega
 have la:DQ (n+5) lv:=h.W.off (j:=n+5) fun vs e=>by rw [h.M] at e;cases e
 have lb:DQ (n+4) lv:=h.W.off (j:=n+4) fun vs e=>by rw [h.P] at e;exact absurd (EB e) (by decide)
 have l0:DQ n lv:=h.W.off (j:=n) fun vs e=>by rw [h.h] at e;exact absurd (EB e) (by decide)
 have l1:DQ (n+1) lv:=h.W.off (j:=n+1) fun vs e=>by rw [h.L] at e;cases e
 have l2:DQ (n+2) lv:=h.W.off (j:=n+2) fun vs e=>by rw [h.C] at e;cases e
 have l3:DQ (n+3) lv:=h.W.off (j:=n+3) fun vs e=>by rw [h.S] at e;cases e
 have l6:DQ (n+6) lv:=h.W.ap
 have l7:s.R≠ []→DQ (n+7) lv:=fun hr=>h.W.off (j:=n+7) fun vs e=>by
  rw [h.R hr] at e
  cases hl:s.R with
  |nil=>exact hr hl
  |cons x l=>rw [hl] at e;exact absurd (EB e) (by decide)
 have n7:s.R≠ []→n+7 < top:=fun _=>h8
 obtain ⟨g1,g2⟩:=Ti h.W.up h.W.tk h.W.l0 a b m (DT s a b).toNat
 have g3:=QC s a b m (DT s a b).toNat
 have hk2:(DT s a b).toNat≤2:=by unfold DT;omega
 rw [e1,NT,JQ,if_neg hX]
 by_cases c0:DT s a b=0
 ·rw [if_pos (.inr c0),c0]
  have hne:∀j,j≠n+4→j≠n+5→(hp.AZ (Fa.Cm (n+5) (n+4) (Fa.Cr s.P a b).1 ++ Fm n lv s a b m (0:Int).toNat top)) j=hp j:=fun j h1 h2=>CG fun p hp=>by
   simp [Fa.Cm,Fm] at hp;rcases hp with rfl | rfl <;> (intro e;first | exact h1 e.symm | exact h2 e.symm)
  refine ⟨(hne _ (by omega) (by omega)).trans h.h,(hne _ (by omega) (by omega)).trans h.L,(hne _ (by omega) (by omega)).trans h.C,(hne _ (by omega) (by omega)).trans h.S, ?_, ?_,hkl, ?_,fun hr=>(hne _ (by omega) (by omega)).trans (h.R hr),h.rn,h.T8,h.T7,h.RO,h.UN⟩
  ·simp [Fa.Cm,Fm,Hp.AZ,Hp.set]
  ·simp [Fa.Cm,Fm,Hp.AZ,Hp.set]
  ·refine ⟨(hne _ (by omega) (by omega)).trans (by simpa using h.W.h), ?_,h.W.up,fun x hx=>(by have:=h.W.tk x hx;simpa using this),by simpa using h.W.l0,by simpa using h.W.l1,h.W.n⟩
   exact h.W.o.mono fun q k c e=>hne _ (by subst e;exact fun e=>lb e.symm) (by subst e;exact fun e=>la e.symm)
 ·have hk0:¬(DT s a b).toNat=0:=by unfold DT at c0 ⊢;omega
  rw [if_neg (by rintro (c | c);exact hX c;exact c0 c)]
  generalize hK:(DT s a b).toNat=K at *
  have eU:Fa.Cm (n+5) (n+4) (Fa.Cr s.P a b).1 ++ Fm n lv s a b m K top= [(n+5,some (.map (BI (Fa.Cr s.P a b).1.m) (Fa.Cr s.P a b).1.CC)),(n+4,Fa.B7 (n+5) (Fa.Cr s.P a b).1.ks),(n+6,Bv (s.last+(K:Int)) (Df top (s.l.length+K)))] ++ (DJ lv ++ [(top,Dv AP (E7 s a b m K))]):=by
   unfold Fm;rw [if_neg hk0];rfl
  have hdr:∀p∈DJ lv,DQ p.1 lv→False:=fun p hp hA=>by
   rcases CT h.W.o with ⟨rfl,_⟩ | ⟨q,rfl,_⟩
   ·cases hp
   ·simp [DJ] at hp;subst hp;exact hA rfl
  have hne:∀j,j≠n+4→j≠n+5→j≠n+6→j≠top→DQ j lv→(hp.AZ (Fa.Cm (n+5) (n+4) (Fa.Cr s.P a b).1 ++ Fm n lv s a b m K top)) j=hp j:=fun j h1 h2 h3 h4 h5=>by
   rw [eU]
   refine CG fun p hp=> ?_
   simp only [List.cons_append,List.nil_append,List.mem_cons,List.mem_append,List.not_mem_nil,or_false] at hp
   rcases hp with rfl | rfl | rfl | hp | rfl
   ·exact fun e=>h2 e.symm
   ·exact fun e=>h1 e.symm
   ·exact fun e=>h3 e.symm
   ·exact fun e=>hdr p hp (by rw [e];exact h5)
   ·exact fun e=>h4 e.symm
  have hat:∀j,DQ j lv→j≠top→(hp.AZ (Fa.Cm (n+5) (n+4) (Fa.Cr s.P a b).1 ++ Fm n lv s a b m K top)) j=(hp.AZ [(n+5,some (.map (BI (Fa.Cr s.P a b).1.m) (Fa.Cr s.P a b).1.CC)),(n+4,Fa.B7 (n+5) (Fa.Cr s.P a b).1.ks),(n+6,Bv (s.last+(K:Int)) (Df top (s.l.length+K)))]) j:=fun j h1 h2=>by
   rw [eU,C4]
   refine CG fun p hp=> ?_
   simp only [List.mem_append,List.mem_cons,List.not_mem_nil,or_false] at hp
   rcases hp with hp | rfl
   ·exact fun e=>hdr p hp (by rw [e];exact h1)
   ·exact fun e=>h2 e.symm
  refine ⟨(hne _ (by omega) (by omega) (by omega) (by omega) l0).trans h.h,(hne _ (by omega) (by omega) (by omega) (by omega) l1).trans h.L,(hne _ (by omega) (by omega) (by omega) (by omega) l2).trans h.C,(hne _ (by omega) (by omega) (by omega) (by omega) l3).trans h.S, ?_, ?_,hkl,⟨?_, ?_,g1,g2,by have:=h.W.l0;show 0≤s.last+(K:Int);omega,by show s.last+(K:Int)≤1000000;omega,by show (E7 s a b m K).length≤1000000;omega⟩,fun hr=>(hne _ (by omega) (by omega) (by omega) (by have:=n7 hr;omega) (l7 hr)).trans (h.R hr),h.rn,h.T8,h.T7,h.RO,h.UN⟩
  ·rw [hat _ lb (by omega)];simp [Hp.AZ,Hp.set]
  ·rw [hat _ la (by omega)];simp [Hp.AZ,Hp.set]
  ·rw [hat _ l6 (by omega)];simp [Hp.AZ,Hp.set,Bv]
  ·show E0 AP _ (Df top (s.l.length+K)) (E7 s a b m K)
   rw [←g3]
   refine .Cy top _ ?_ (by omega)
   rw [eU,C4,C4]
   simp [Hp.AZ,Hp.set,Dv]
/-! ### Tick -/
def MK (s:Ak):Ak:=if s.now < 1099511627776 then {s with now:=s.now+1,l:=s.l.drop (CM s)} else s
def IB (lv:Value)(s:Ak):Value:=if s.now < 1099511627776 then JJ lv s.l 0 (CM s) else lv
def E8 (s:Ak):List Ae:=if s.now < 1099511627776 then EP s.l (CM s) else []
theorem ZL {s:Ak}{top:Nat}:Va s top=AK top (E8 s):=by unfold Va E8;split <;> rfl
theorem gK {l:List Ah}(h:OR l)(k:Nat):OR (l.drop k):=List.Pairwise.drop h
theorem BW.tick {hp:Hp}{n top:Nat}{lv:Value}{s:Ak}(h:BW hp n lv s)(h8:n+7 < top)(lvs:Sc top lv):BW (hp.AZ (Dr n lv s top)) n (IB lv s) (MK s):=by
 unfold Dr IB MK
 by_cases c:s.now < 1099511627776
 case neg=>rw [if_neg c,if_neg c,if_neg c];exact h
 rw [if_pos c,if_pos c,if_pos c]
 have hkl:=FW s.l (s.now+1)
 have hcut:FU s.l 0 (CM s)=s.l.drop (CM s):=by unfold FU;simp
 have lb:DQ (n+4) lv:=h.W.off (j:=n+4) fun vs e=>by rw [h.P] at e;exact absurd (EB e) (by decide)
 have la:DQ (n+5) lv:=h.W.off (j:=n+5) fun vs e=>by rw [h.M] at e;cases e
 have l0:DQ n lv:=h.W.off (j:=n) fun vs e=>by rw [h.h] at e;exact absurd (EB e) (by decide)
 have l1:DQ (n+1) lv:=h.W.off (j:=n+1) fun vs e=>by rw [h.L] at e;cases e
 have l2:DQ (n+2) lv:=h.W.off (j:=n+2) fun vs e=>by rw [h.C] at e;cases e
 have l3:DQ (n+3) lv:=h.W.off (j:=n+3) fun vs e=>by rw [h.S] at e;cases e
 have l6:DQ (n+6) lv:=h.W.ap
 have l7:s.R≠ []→DQ (n+7) lv:=fun hr=>h.W.off (j:=n+7) fun vs e=>by
  rw [h.R hr] at e
  cases hl:s.R with
  |nil=>exact hr hl
  |cons x l=>rw [hl] at e;exact absurd (EB e) (by decide)
 have n7:s.R≠ []→n+7 < top:=fun _=>h8
 have hcu:∀p∈MY AP lv s.l 0 (CM s),DQ p.1 lv→False:=fun p hp hA=>by
  rcases CQ h.W.o hkl with ⟨_,c2⟩ | ⟨q,c0,_,c2⟩
  ·rw [show CM s=JU s.l (s.now+1) from rfl,c2] at hp;cases hp
  ·rw [show CM s=JU s.l (s.now+1) from rfl,c2] at hp
   simp at hp;subst hp;rw [c0] at hA;exact hA rfl
 have hat:∀j,DQ j lv→j≠top→(hp.AZ ((n,Bi n {s with now:=s.now+1}) :: (n+6,Bv s.last (JJ lv s.l 0 (CM s))) :: (top,AO AJ (EP s.l (CM s))) :: MY AP lv s.l 0 (CM s))) j=(hp.AZ [(n,Bi n {s with now:=s.now+1}),(n+6,Bv s.last (JJ lv s.l 0 (CM s)))]) j:=fun j h1 h2=>by
  simp only [Aa,B6]
  rw [CG fun p hp e=>hcu p hp (by rw [e];exact h1),AH _ _ _ _ h2]
 have off:∀j,DQ j lv→j≠top→j≠n→j≠n+6→(hp.AZ ((n,Bi n {s with now:=s.now+1}) :: (n+6,Bv s.last (JJ lv s.l 0 (CM s))) :: (top,AO AJ (EP s.l (CM s))) :: MY AP lv s.l 0 (CM s))) j=hp j:=fun j h1 h2 h3 h4=>by
  rw [hat j h1 h2];simp only [Aa,B6];rw [AH _ _ _ _ h4,AH _ _ _ _ h3]
 refine ⟨?_,(off _ l1 (by omega) (by omega) (by omega)).trans h.L,(off _ l2 (by omega) (by omega) (by omega)).trans h.C,(off _ l3 (by omega) (by omega) (by omega)).trans h.S,(off _ lb (by omega) (by omega) (by omega)).trans h.P,(off _ la (by omega) (by omega) (by omega)).trans h.M,h.pl,⟨?_, ?_,gK h.W.up _,fun a ha=>h.W.tk a (List.mem_of_mem_drop ha),h.W.l0,h.W.l1,by have:=h.W.n;simp;omega⟩,fun hr=>(off _ (l7 hr) (by have:=n7 hr;omega) (by omega) (by omega)).trans (h.R hr),h.rn,h.T8,h.T7,by have:=h.RO;show 0≤s.now+1;omega,by show s.now+1≤1099511627776;omega⟩
 ·rw [hat _ l0 (by omega)];simp [Hp.AZ,Hp.set,Bi]
 ·rw [hat _ l6 (by omega)];simp [Hp.AZ,Hp.set,Bv]
 ·rcases CQ h.W.o hkl with ⟨c1,c2⟩ | ⟨q,c0,c1,c2⟩
  ·have c1':JJ lv s.l 0 (CM s)=lv:=c1
   have c2':MY AP lv s.l 0 (CM s)= []:=c2
   rw [c1',c2']
   rcases CT h.W.o with ⟨rfl,hn⟩ | ⟨q,rfl,hq⟩
   ·rw [hn];simp;exact .nil
   ·have hz:CM s=0:=by
     by_cases e:(0:Nat)=CM s
     ·exact e.symm
     ·unfold MY at c2';rw [if_neg e] at c2';simp at c2'
    rw [hz,List.drop_zero]
    have hqt:q < top:=lvs
    refine h.W.o.mono fun b k c e=> ?_
    cases e
    simp only [Aa,B6]
    rw [AH _ _ _ _ (by omega),AH _ _ _ _ (fun e=>l6 e.symm),AH _ _ _ _ (fun e=>l0 e.symm)]
  ·have c1':JJ lv s.l 0 (CM s)=_:=c1
   have c2':MY AP lv s.l 0 (CM s)=_:=c2
   rw [c1',c2',show FU s.l 0 (JU s.l (s.now+1))=s.l.drop (CM s) from hcut]
   refine .Cy q _ ?_ (by have:=h.W.n;simp;omega)
   simp only [Aa,B6]
   rw [AB];rfl
/-! ### kept -/
theorem BW.stay {hp hp':Hp}{n top:Nat}{lv:Value}{s:Ak}(h:BW hp n lv s)(h8:n+7 < top)(lvs:Sc top lv)(hk:AE top [] hp' hp):BW hp' n lv s:=by
 have k:=hk.nil
 refine ⟨(k _ (by omega)).trans h.h,(k _ (by omega)).trans h.L,(k _ (by omega)).trans h.C,(k _ (by omega)).trans h.S,(k _ (by omega)).trans h.P,(k _ (by omega)).trans h.M,h.pl,⟨(k _ (by omega)).trans h.W.h,h.W.o.mono fun b _ c e=>k b (by rw [e] at lvs;exact lvs),h.W.up,h.W.tk,h.W.l0,h.W.l1,h.W.n⟩,fun hr=>(k _ h8).trans (h.R hr),h.rn,h.T8,h.T7,h.RO,h.UN⟩
theorem MA {a b:Nat}{v:Value}{hp:Hp}{l:List Ah}(o:E0 AP hp v l)(h:Sc a v)(hab:a≤b):Sc b v:=by
 rcases CT o with ⟨rfl,_⟩ | ⟨q,rfl,_⟩
 ·trivial
 ·exact Nat.lt_of_lt_of_le (show q < a from h) hab
theorem tj {top T:Nat}{lv:Value}{s:Ak}{a b:Int}{m:List UInt8}{hp:Hp}(o:E0 AP hp lv s.l)(h:Sc T lv)(hT:T≤top):Sc (top+1) (JQ lv s a b m top):=by
 unfold JQ
 split
 ·exact MA o h (by omega)
 ·exact Nat.lt_succ_self top
theorem vS {top:Nat}{lv:Value}{s:Ak}{hp:Hp}(h:Sc top lv)(o:E0 AP hp lv s.l):Sc top (IB lv s):=by
 unfold IB
 split
 ·rcases CQ o (FW s.l (s.now+1)) with ⟨c1,_⟩ | ⟨b,c0,c1,_⟩
  ·rw [show JJ lv s.l 0 (CM s)=lv from c1];exact h
  ·rw [show JJ lv s.l 0 (CM s)=_ from c1];rw [c0] at h;exact h
 ·exact h
end Go.Proofs.Ytmppehipfpkepaa.Dm
