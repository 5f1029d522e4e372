/- Equality of an op with itself. -/
import Derived.Test.YthlhnangbinhoaaGreatDoorSTO
import Derived.KernelRfl
set_option linter.unusedSimpArgs false
set_option linter.unusedVariables false
namespace Go.Proofs.YthlhnangbinhoaaGreatDoor.Dm
open Go.Dm
set_option maxHeartbeats 16000000
set_option maxRecDepth 20000
theorem jK {d:Nat}{x:Int}:LC tt.get (d+1) 41 (.int .u32 x) (.int .u32 x)=some true:=by
 simp [LC,KE,ZO,MZ]
theorem Jc {d:Nat}{x:Int}:LC tt.get (d+1) 3 (.int .i64 x) (.int .i64 x)=some true:=by
 simp [LC,Bk,NQ,MZ]
theorem fe {d:Nat}{x:List UInt8}:LC tt.get (d+1) 9 (.string ⟨⟨x⟩⟩) (.string ⟨⟨x⟩⟩)=some true:=by
 simp [LC,C5,rU,OE]
theorem vn {o:Aq}:LC tt.get 64 43 (.agg ⟨A7.enc o⟩) (.agg ⟨A7.enc o⟩)=some true:=by
 cases o with | mk a0 a1 a2 a3 a4 a5 a6=>
 rw [LC];simp only [NL,S8,Aw]
 have p0:∀ {x:Value} {l:List Value},EJ NQ (x :: l) 0=some x:=rfl
 have p1:∀ {x0 x:Value} {l:List Value},EJ NQ (x0 :: x :: l) 1=some x:=rfl
 have p2:∀ {x0 x1 x:Value} {l:List Value},EJ NQ (x0 :: x1 :: x :: l) 2=some x:=rfl
 have p3:∀ {x0 x1 x2 x:Value} {l:List Value},EJ NQ (x0 :: x1 :: x2 :: x :: l) 3=some x:=rfl
 have p4:∀ {x0 x1 x2 x3 x:Value} {l:List Value},EJ ZO (x0 :: x1 :: x2 :: x3 :: x :: l) 4=some x:=rfl
 have p5:∀ {x0 x1 x2 x3 x4 x:Value} {l:List Value},EJ NQ (x0 :: x1 :: x2 :: x3 :: x4 :: x :: l) 5=some x:=rfl
 have p6:∀ {x0 x1 x2 x3 x4 x5 x:Value} {l:List Value},EJ rU (x0 :: x1 :: x2 :: x3 :: x4 :: x5 :: x :: l) 6=some x:=rfl
 rw [show (63:Nat)=62+1 from rfl]
 simp only [eqFields,Jc (d:=62),Jc (d:=61),Jc (d:=60),Jc (d:=59),Jc (d:=58),jK (d:=57),Jc (d:=56),fe (d:=55),show ("Kind" == "_")=false from rfl,show ("Router" == "_")=false from rfl,show ("Peer" == "_")=false from rfl,show ("Group" == "_")=false from rfl,show ("Entropy" == "_")=false from rfl,show ("Ticks" == "_")=false from rfl,show ("Bytes" == "_")=false from rfl,Bk,KE,C5,p0,p1,p2,p3,p4,p5,p6]
 try simp
theorem bo {xo yo:Operand}{o:Aq}:Dn tt.get .neq 43 xo yo (.agg ⟨A7.enc o⟩) (.agg ⟨A7.enc o⟩)=(.bool false,True):=by
 have h:Dn tt.get .neq 43 xo yo (.agg ⟨A7.enc o⟩) (.agg ⟨A7.enc o⟩)=Ln (Di tt.get .neq 43 xo yo (.agg ⟨A7.enc o⟩) (.agg ⟨A7.enc o⟩)):=by
  unfold Dn;rw [NL];unfold Rd;rw [show kindOf tt.get 43=_ from rfl];rfl
 rw [h]
 have h2:Di tt.get .neq 43 xo yo (.agg ⟨A7.enc o⟩) (.agg ⟨A7.enc o⟩)=some (.bool false):=by
  simp only [Di,NL,S8,vn];rfl
 rw [h2];rfl
end Go.Proofs.YthlhnangbinhoaaGreatDoor.Dm
set_option linter.unusedSimpArgs false
set_option linter.unusedVariables false
namespace Go.Proofs.YthlhnangbinhoaaGreatDoor.Dm
open Go.Dm
set_option maxHeartbeats 64000000
set_option maxRecDepth 20000
theorem QP:Uk 16=Ik:=rfl
theorem QU:Uk 9=Nx:=rfl
def qS:Bz:= .pure (fun args hp=>match args with | [v]=>G6 B8 hp v∧(∀d∈B8.rd hp v,QH d)∧Cp hp∧hp 7=dn | _=>False) (fun _ _=> .bool true)
def sv (t q:Nat)(l:List Aq):List Value:= [.int .i64 8, .int .i64 4, .int .i64 2, .int .i64 1, .slice (some ⟨t,0,none⟩) 2 2, .slice (some ⟨t+1,0,none⟩) 1 1, .slice (some ⟨t+2,0,none⟩) 1 1,AA q l]
theorem wS:List.append [119,111,114,108,100,32,56,32,52,32,50,32,49,10,114,111,117,116,101,114,32,49,32,49,32,105,110,103,114,101,115,115,10,114,111] [117,116,101,114,32,50,32,50,10,108,105,110,107,32,49,32,50,32,53,10,100,114,111,112,32,49,32,50,32,51,10,112,108,97,121,10] = LJ:=rfl
theorem AAx:Md Fl LJ= .inl (EI, []):=by kernel_rfl
theorem zs {t:Nat}{l:List Aq}:sW (.inl (EI,l)) t=(.tuple ⟨[.agg ⟨sv t (t+3) l⟩, .nilIface]⟩, [(t,oR),(t+1,oK),(t+2,oU),(t+3,AE A7 l)],t+4):=rfl
theorem jh {h:Hp}{t q:Nat}{l:List Aq}(hl:l.length≤30)(a:h t=oR)(b:h (t+1)=oK)(c:h (t+2)=oU)(d:h q=AE A7 l):Zs h (.agg ⟨sv t q l⟩) EI l:=
 ⟨⟨_,_,_,_,rfl,BJ.IP (l:=EI.R) a (by decide),BJ.IP (l:=EI.K) b (by decide),BJ.IP (l:=EI.U) c (by decide),BJ.IP d (by omega)⟩,by decide,by decide,by decide,by omega⟩
theorem wU {h':Hp}{s:List UInt8}:Bv tt.get h' 9 (.string ⟨⟨s⟩⟩) none (some (.int .i64 71))=(.string ⟨⟨s.take 71⟩⟩,(71:Int)≤s.length):=by
 unfold Bv
 simp only [Ic]
 simp [B7,EA,strOf,Sb,Sf,intOf]
def wz (hp:Hp)(top:Nat)(v:Value)(l:List Aq)(i:Nat):SS:=⟨[(0,v,true),(3, .pointer (some ⟨top+3,0,none⟩),true),(5, .int .i64 (i:Int),true)],
 hp.A6 [(top,oR),(top+1,oK),(top+2,oU),(top+3,some (.cells true 0 (sv top (top+4) (l.take i)))),(top+4,AE A7 (l.take i))],top+5⟩
structure BkH (H hp:Hp) (top:Nat) (l:List Aq):Prop where
 s3:H (top+3)=some (.cells true 0 (sv top (top+4) l))
 s4:H (top+4)=AE A7 l
 a9:H (top+9)=some (.cells true 0 (sv (top+5) (top+8) l))
 a8:H (top+8)=AE A7 l
 v:Cp H
 h7:H 7=dn
 h1:H 1=some Sm
 k:Bc top [] H hp
def lP (top:Nat)(T:List UInt8)(i:Nat):DZ:= [(3, .pointer (some ⟨top+3,0,none⟩),true),(11, .string ⟨⟨T⟩⟩,true),(13, .pointer (some ⟨top+9,0,none⟩),true),(14, .int .i64 (i:Int),true)]
theorem c8 {l:List Aq}:(Ca l).take 71=LJ:=by
 unfold Ca
 rw [List.take_append_of_le_length (by rw [Ec];exact Nat.le_refl _),List.take_of_length_le (by rw [Ec];exact Nat.le_refl _)]
theorem oH:BR Tryz.prog 4 qS:=by
 refine .LN Zk ?_ ?_
 ·rintro args hp h
  match args,h with
  | [_],_=>rfl
 intro args hp hpre top hcl hsc
 match args,hpre with
 | [v],⟨⟨ds,h⟩,hD,hv,h7⟩=>
 rw [h.rd] at hD
 have hs:=h.low hcl
 have hp1:=hv.1
 have ht1:=hcl.lt _ _ hp1
 have ht5:=FE hcl hv
 have h70:=hcl.lt _ _ h7
 have hle:=h.le
 have hn30:=TZ (ds:=ds)
 have hgood:=Rr hD
 have hnl:(opsOf ds).length=min ds.length 30:=by unfold opsOf;rw [List.length_map,List.length_take,Nat.min_comm]
 have hat:∀i,i < (opsOf ds).length→at' (opsOf ds) i=HH (at' ds i)∧i < ds.length:=fun i hi=>by
  have h2:i < ds.length:=by omega
  refine ⟨?_,h2⟩
  rw [Cb _ _ hi,Cb _ _ h2]
  simp [opsOf]
 have htx:=TN hD (l:=opsOf ds) (fun o ho=>ho)
 generalize hl:opsOf ds=l at *
 have hT:(Ca l).length≤65536:=by unfold Ca;rw [List.length_append,Ec];omega
 have hTn:(Ca l).length=71+(A1 DL l).length:=by unfold Ca;rw [List.length_append,Ec]
 refine Ae.Bn Bu Zk rfl 154 rfl [.tmp 2] rfl (show 1≤154 by decide) ?_
 refine CW.vc IK [0,2,3,4,5,6,7,8,9,10,11,12,13,14,15,21,29,57,98,103,116] (by kernel_rfl) ?_
 have hd71:(LJ.length < 4294967281)=True:=eq_true (by decide)
 (repeat ((try refine Vc.mk' ?_);simp (maxSteps:=6000000) only [go_sem,Kk,KW,KO,LB,Kh,Ki,QP,QU,JA,I6,Dw,Hu,E3,Hj,Ik,Nx,hv,hp1,h7,AG ht1,AG h70,AO ht5,AP ht5,I1,I2,AU,MV h,MH h,PY h,Oa h,Oe h,J3 h,Je h,Jb h,J0 h,Jk h,KC h,J6 h,Jj h,Ji h,Ju h,Jd h,Jt h,J8 h,Jr h,h.P,h.oc,h.cl,h.rd,h.ref,Aj hs,AZ hs,AY hs,AX h hs Hz,wS,AAx,zs,hd71,sv,J1,T9]))
 refine CW.D9 (wz hp top v l) (fun i=>i≤l.length) (fun i=>l.length - i) 0 (Nat.zero_le _) ?_ ?_
 ·exact (by refine Bj.mk' [top,top+1,top+2,top+4,top+3] hcl (by simp) (by simp) rfl (Ac ?_) ?_ ?_ <;> simp [Sc.Av (fun j hj=>AB hj) hs,oR,oK,oU,sv,AA,AE,List.take_zero,B9.F1,B9.flat])
 intro i hi
 by_cases hlt:i < l.length
 ·obtain ⟨ha,hlt2⟩:=hat i hlt
  obtain ⟨g1,g2⟩:=hgood (at' l i) (by rw [Cb _ _ hlt];exact List.getElem_mem hlt)
  have jj:((i:Int) < (ds.length:Int))=True:=eq_true (by omega)
  have j3:((i:Int) < 30)=True:=eq_true (by omega)
  have kk:Ar .i64 ((i:Int)+1)=((i+1:Nat):Int):=B0 (n:=4294967281) (by omega) (by omega)
  cases hw:LH (at' l i) with
  |none=>rw [hw] at g2;cases g2
  |some w=>
   have hDi:=hD (at' ds i) (by rw [Cb _ _ hlt2];exact List.getElem_mem hlt2)
   have hI:=AAW hDi
   have hE:=Qt (x:=at' ds i)
   have hIo:=Vy g1
   have hEo:=E8 (x:=at' l i)
   have hq:=fun xo yo=>bo (xo:=xo) (yo:=yo) (o:=at' l i)
   have wl:w.length≤8000:=(Nq g1 hw).1
   have w2:(w.length < 4294967281)=True:=eq_true (by omega)
   have hback:∀ {t:Nat},Nr w t=(.tuple ⟨[.agg ⟨A7.enc (at' l i)⟩, .nilIface]⟩, [],t):=fun {t}=>by unfold Nr;rw [(Z7 g1 hw).1]
   have hlv:=bI hw
   have htk:=DV hlt
   have hap:∀ {h':Hp} {q t:Nat},h' (top+4)=AE A7 (l.take i)→h' q=some (.cells true 7 (A7.enc (at' l i)))→AR tt.get h' t [27,27] (AA (top+4) (l.take i)) (.slice (some ⟨q,0,none⟩) 1 1)=some (AA t (l.take (i+1)),Ck (top+4) (l.take i) t (AE A7 (l.take (i+1))),t+1):=fun {h'} {q} {t} a1 a2=>by
    have e3:cellsOf (h' q)=A7.enc (at' l i):=by rw [a2];rfl
    have:=YO (hp:=h') (b:=top+4) (top:=t) (k:=q) a1 (by rw [e3];exact a2) (by rw [e3,A7.h]) (Dc (by rw [List.length_take];omega) (by decide))
    rw [e3,A7.h,←htk] at this
    exact this
   rw [ha] at hIo hEo hap hlv hq hback
   simp only [Aw,JH] at hI hE hIo hEo hap hq hback
   refine CW.vc IK [0,2,3,4,5,6,7,8,9,10,11,12,13,14,15,21,29,57,98,103,116] (by kernel_rfl) ?_
   (repeat ((try refine Vc.mk' ?_);simp (maxSteps:=6000000) only [go_sem,Kk,KW,KO,LB,Kh,Ki,QP,QU,JA,I6,Dw,Hu,E3,Hj,Ik,Nx,hv,hp1,h7,AG ht1,AG h70,AO ht5,AP ht5,I1,I2,AU,MV h,MH h,PY h,Oa h,Oe h,J3 h,Je h,Jb h,J0 h,Jk h,KC h,J6 h,Jj h,Ji h,Ju h,Jd h,Jt h,J8 h,Jr h,h.P,h.oc,h.cl,h.rd,h.ref,Aj hs,AZ hs,AY hs,AX h hs Hz,wz,sv,jj,j3,hlt2,hI,hE,hIo,hEo,hlv,w2,hback,hq,hap,kk,T9,OD,decide_true,decide_false,oR,oK,oU]))
   refine .mk (i+1) hlt (by omega) ((by refine Bj.mk' [top,top+1,top+2,top+3,top+8] hcl (by simp) (by simp) rfl (Ac ?_) ?_ ?_ <;> simp [Sc.Av (fun j hj=>AB hj) hs,oR,oK,oU,sv,Al,B9.Dd,Aa]))
 ·have hi2:i=l.length:=by omega
  subst hi2
  have jj:(decide (l.length < ds.length) && decide ((l.length:Int) < 30))=false:=by
   by_cases c:l.length < ds.length
   ·rw [decide_eq_true c,decide_eq_false (by omega)];rfl
   ·rw [decide_eq_false c];rfl
  have hEx:∀ {h':Hp},h' top=oR→h' (top+1)=oK→h' (top+2)=oU→h' (top+4)=AE A7 l→(∃S ops,Zs h' (.agg ⟨sv top (top+4) l⟩) S ops∧rG S∧∀o∈ops,Gy o)=True:=fun a b c d=>eq_true ⟨_,_,jh hn30 a b c d,T7,fun o ho=>(hgood o ho).1⟩
  have hDx:∀ {h':Hp},h' top=oR→h' (top+1)=oK→h' (top+2)=oU→h' (top+4)=AE A7 l→Tm h' (.agg ⟨sv top (top+4) l⟩)=(EI,l):=fun a b c d=>(jh hn30 a b c d).d
  have hpr:=r7 hgood (by omega) hT
  have hps:=qx hgood (by omega) hT
  have tl:((Ca l).length < 4294967281)=True:=eq_true (by omega)
  have t72:((71:Int)≤((Ca l).length:Int))=True:=eq_true (by omega)
  have t71:¬((Ca l).length:Int) < 71:=by omega
  simp only [sv,oR,oK,oU] at hEx hDx
  refine CW.vc IK [0,2,3,4,5,6,7,8,9,10,11,12,13,14,15,21,29,57,98,103,116] (by kernel_rfl) ?_
  (repeat ((try refine Vc.mk' ?_);simp (maxSteps:=6000000) only [go_sem,Kk,KW,KO,LB,Kh,Ki,QP,QU,JA,I6,Dw,Hu,E3,Hj,Ik,Nx,hv,hp1,h7,AG ht1,AG h70,AO ht5,AP ht5,I1,I2,AU,MV h,MH h,PY h,Oa h,Oe h,J3 h,Je h,Jb h,J0 h,Jk h,KC h,J6 h,Jj h,Ji h,Ju h,Jd h,Jt h,J8 h,Jr h,h.P,h.oc,h.cl,h.rd,h.ref,Aj hs,AZ hs,AY hs,AX h hs Hz,wz,sv,jj,CV,wU,t72,c8,OE,List.take_length,tJ,hEx,hDx,hpr,hps,tl,t71,zs,oR,oK,oU,T9,OD,decide_true,decide_false]))
  refine CW.zn (fun (i:Nat) (st:SS)=> ∃H,st=⟨lP top (Ca l) i,H,top+10⟩∧BkH H hp top l∧i≤l.length) (fun i=>l.length - i) 0 _ ⟨_,rfl,⟨?_, ?_, ?_, ?_, ?_, ?_, ?_, ?_⟩,Nat.zero_le _⟩ (Bj.fr_ (by simp [lP,Gk,KI,Oi])) ?_
  ·simp [AQ,AF,sv]
  ·simp [AQ,AF]
  ·simp [AQ,AF,sv]
  ·simp [AQ,AF]
  ·simp [AO ht5,AP ht5,hv]
  ·simp [AG h70,h7]
  ·simp [AG ht1,hp1]
  ·simp [Bc.set,Bc.refl]
  rintro i _ ⟨H,rfl,hH,hi⟩
  have h3:=hH.s3
  have h9:=hH.a9
  have hHv:=hH.v
  have hH7:=hH.h7
  have hA:BJ A7 H (AA (top+8) l) l:=BJ.IP hH.a8 (by omega)
  have hB:BJ A7 H (AA (top+4) l) l:=BJ.IP hH.s4 (by omega)
  simp only [sv] at h3 h9
  by_cases hlt:i < l.length
  ·have ii:((i:Int) < (l.length:Int))=True:=eq_true (by omega)
   have kk:Ar .i64 ((i:Int)+1)=((i+1:Nat):Int):=B0 hlt (by omega)
   have hq:=fun xo yo=>bo (xo:=xo) (yo:=yo) (o:=at' l i)
   simp only [Aw] at hq
   refine CW.vc IK [0,2,3,4,5,6,7,8,9,10,11,12,13,14,15,21,29,57,98,103,116] (by kernel_rfl) ?_
   (repeat ((try refine Vc.mk' ?_);simp (maxSteps:=6000000) only [go_sem,lP,h3,h9,IH hA,IG hA,Ke hA,KU hA,Kz hA,Gs hA,Gt hA,Gu hA,GW hA,Gz hA,Gm hA,GX hA,Ge hA,Gn hA,Gp hA,Gx hA,Gi hA,Gg hA,GY hA,hA.P,hA.oc,hA.cl,hA.rd,hA.ref,IH hB,IG hB,Ke hB,KU hB,Kz hB,Gs hB,Gt hB,Gu hB,GW hB,Gz hB,Gm hB,GX hB,Ge hB,Gn hB,Gp hB,Gx hB,Gi hB,Gg hB,GY hB,hB.P,hB.oc,hB.cl,hB.rd,hB.ref,ii,hlt,hq,kk]))
   exact ⟨i+1,_,by omega,⟨H,rfl,hH,hlt⟩,Bj.fr_ (by simp [lP,Gk,KI,Oi])⟩
  ·have hi2:i=l.length:=by omega
   subst hi2
   have hsh:=de hgood (by omega) hT
   have w5:Ar .i64 (5+(l.length:Int))=((5+l.length:Nat):Int):=by rw [wrap64 (by omega) (by omega)];omega
   have w1:Ar .i64 (((Ca l).length:Int) - 1)=(((Ca l).length - 1:Nat):Int):=by rw [wrap64 (by omega) (by omega)];omega
   have hsl:=fun (h':Hp)=>Lt (h':=h') (s:=Ca l) (i:=(Ca l).length - 1) (by omega)
   have htl:(((Ca l).take ((Ca l).length - 1)).length < 4294967281)=True:=eq_true (by rw [List.length_take];omega)
   refine CW.vc IK [0,2,3,4,5,6,7,8,9,10,11,12,13,14,15,21,29,57,98,103,116] (by kernel_rfl) ?_
   (repeat ((try refine Vc.mk' ?_);simp (maxSteps:=6000000) only [go_sem,Kk,KW,KO,LB,Kh,Ki,QP,QU,JA,I6,Dw,Hu,E3,Hj,Ik,Nx,hv,hp1,h7,AG ht1,AG h70,AO ht5,AP ht5,I1,I2,AU,lP,w1,hsl,htl,h3,h9,IH hA,IG hA,Ke hA,KU hA,Kz hA,Gs hA,Gt hA,Gu hA,GW hA,Gz hA,Gm hA,GX hA,Ge hA,Gn hA,Gp hA,Gx hA,Gi hA,Gg hA,GY hA,hA.P,hA.oc,hA.cl,hA.rd,hA.ref,IH hB,IG hB,Ke hB,KU hB,Kz hB,Gs hB,Gt hB,Gu hB,GW hB,Gz hB,Gm hB,GX hB,Ge hB,Gn hB,Gp hB,Gx hB,Gi hB,Gg hB,GY hB,hB.P,hB.oc,hB.cl,hB.rd,hB.ref,Nat.lt_irrefl,hsh,gz,hHv,hH7,CV,w5,Y2,Y8,W2,RD,Lh,V7,XS,OD,decide_true,decide_false]))
   exact hH.k
end Go.Proofs.YthlhnangbinhoaaGreatDoor.Dm
