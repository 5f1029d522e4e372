/- The document's hex digits, walked. -/
import Derived.Test.YthlhnangbinhoaaGreatDoorSRA
set_option linter.unusedVariables false
namespace Go.Proofs.YthlhnangbinhoaaGreatDoor.Dm
open Go.Dm
set_option maxHeartbeats 16000000
set_option maxRecDepth 20000
theorem uL {i:Nat}(hi:i < 16)(c:UInt8):MK i=c ↔ hv c=i:=by
 have:∀(c:Fin 256) (i:Fin 16),MK i.val=UInt8.ofNat c.val ↔ hv (UInt8.ofNat c.val)=(i.val:Int):=by decide +kernel
 have:=this ⟨c.toNat,c.toNat_lt⟩ ⟨i,hi⟩
 simpa using this
def dgR (n:Int):Int:=if 0≤hv (UInt8.ofNat n.toNat) then hv (UInt8.ofNat n.toNat) else 16
def Si:Bb:= .pure (fun args _=>match args with | [.int .u8 n]=>0≤n∧n < 256 | _=>False) (fun args _=>match args with | [n]=> .int .u8 (dgR (intOf n)) | _=>undef)
def sC (hp:Hp)(top:Nat)(n:Int)(i:Nat):SS:=⟨[(0, .int .u8 n,true),(3, .int .i64 (i:Int),true)],hp.Av [],top⟩
theorem AAK:A0 Tryz.prog 86 Si:=by
 refine .Fm U2 ?_ ?_
 ·rintro args hp h
  match args,h with
  | [.int .u8 n],_=>rfl
 intro args hp hpre top hcl hsc
 match args,hpre with
 | [.int .u8 n],⟨n0,n1⟩=>
 simp only [intOf_int]
 obtain ⟨c,rfl⟩:∃c:UInt8,n=Int.ofNat c.toNat:=⟨UInt8.ofNat n.toNat,by rw [UInt8.toNat_ofNat'];show n=((n.toNat % 256:Nat):Int);omega⟩
 have hr:=MH c
 have hd:dgR (Int.ofNat c.toNat)=if 0≤hv c then hv c else 16:=by unfold dgR;rw [Tx]
 rw [hd]
 refine AR.A5 BA U2 rfl 14 rfl [.tmp 2] rfl (show 1≤14 by decide) ?_
 refine CW.vc HF [0,2,3,5,11] (by kernel_rfl) ?_
 (repeat ((try refine Vc.mk' ?_);simp (maxSteps:=6000000) only [go_sem]))
 refine CW.DC (sC hp top (Int.ofNat c.toNat)) (fun i=>i≤16∧(0≤hv c→(i:Int)≤hv c)) (fun i=>16 - i) 0 ⟨Nat.zero_le _,fun h=>h⟩ ?_ ?_
 ·exact (by refine BR.mk' [] hcl (by simp) (by simp) rfl (AU ?_) ?_ ?_ <;> simp [])
 ·rintro i ⟨hi,hv1⟩
  by_cases hlt:i < 16
  ·have kk:Ap .i64 ((i:Int)+1)=((i+1:Nat):Int):=Bf hlt (by omega)
   have ii:((i:Int) < 16)=True:=eq_true (by omega)
   have hq:=uL hlt c
   by_cases h:hv c=i
   ·have e:(Int.ofNat (MK i).toNat=Int.ofNat c.toNat)=True:=eq_true (by rw [hq.2 h])
    have w:Ap .u8 (i:Int)=(i:Int):=Gg (by simp [IntKind.signed]) (by simp [IntKind.signed,IntKind.bits];omega)
    rw [if_pos (by omega),h]
    refine CW.vc HF [0,2,3,5,11] (by kernel_rfl) ?_
    (repeat ((try refine Vc.mk' ?_);simp (maxSteps:=6000000) only [go_sem,sC,ii,hlt,RT,e,w,decide_true]))
   ·have e:(Int.ofNat (MK i).toNat=Int.ofNat c.toNat)=False:=eq_false fun h'=>h (hq.1 (UInt8.toNat.inj (Int.ofNat.inj h')))
    refine CW.vc HF [0,2,3,5,11] (by kernel_rfl) ?_
    (repeat ((try refine Vc.mk' ?_);simp (maxSteps:=6000000) only [go_sem,sC,ii,hlt,RT,e,kk,decide_true,decide_false]))
    refine .mk (i+1) ⟨hlt,fun h0=>by have:=hv1 h0;omega⟩ (by omega) ((by refine BR.mk' [] hcl (by simp) (by simp) rfl (AU ?_) ?_ ?_ <;> simp []))
  ·have hi2:i=16:=by omega
   subst hi2
   rw [if_neg (by intro h0;have:=hv1 h0;omega)]
   refine CW.vc HF [0,2,3,5,11] (by kernel_rfl) ?_
   (repeat ((try refine Vc.mk' ?_);simp (maxSteps:=6000000) only [go_sem,sC,show ((16:Nat):Int)=16 from rfl,Int.lt_irrefl,decide_false]))
noncomputable def GR1:FuncId→Bb:=Bw (Bw (Bw (Bw (Bw (Bw AAI 86 Si) 69 (I3 fun n=>Gk n 1 24)) 57 (I3 Gw)) 59 (I3 HH)) 60 (I3 HV)) 56 EG
theorem L8:CQ Tryz.prog tt.get GR1:=(((((HF.add AAK).add wU).add ABn).add AAl).add AAv).add ABU
theorem gq:GR1 86=Si:=rfl
def LR (l:List UInt8):List Int:=l.map fun c=>(c.toNat:Int)
theorem U8 {a b:List UInt8}:LR (a ++ b)=LR a ++ LR b:=List.map_append
theorem Zy {a:List UInt8}:(LR a).length=a.length:=List.length_map _
theorem yH (l:List UInt8):bytesOf (LR l)=l:=by
 simp [bytesOf,LR,List.map_map,Function.comp_def]
theorem cvI {h':Hp}{b:Nat}{T:List UInt8}(hT:T.length≤9223372036854775807)(e:h' b=AD A9 (LR T)):CU tt.get h' 69 9 (AA b (LR T))=(.string ⟨⟨T⟩⟩,True):=by
 cases T with
 |nil=>exact Ro DT JT HD
 |cons a l=>
  have e2:h' b=some (.cells true 1 ((LR (a :: l)).map (Value.int .u8))):=by
   rw [e]
   show some (A7.cells true 1 (A9.flat (LR (a :: l))))=_
   congr 2
   generalize LR (a :: l)=L
   unfold B8.flat
   induction L with
   |nil=>rfl
   |cons x L ih=>rw [List.map_cons,List.flatten_cons,ih];rfl
  have:=Gf (o:=0) (n:=(LR (a :: l)).length) (c:=(LR (a :: l)).length) (l:=LR (a :: l)) DT JT HD e2 (by rw [List.drop_zero,List.take_of_length_le (by rw [List.length_map];exact Nat.le_refl _)]) (by rw [List.length_map];omega)
  rw [yH] at this
  exact this
theorem AEG {h':Hp}{b q t:Nat}{L:List Int}{x y:Int}(a1:h' b=AD A9 L)(a2:h' q=some (.cells true 1 [.int .u8 x, .int .u8 y]))(hn:L.length≤100000) :
  AM tt.get h' t [69,69] (AA b L) (.slice (some ⟨q,0,none⟩) 2 2)=some (AA t (L ++ [x,y]),CC b L t (AD A9 (L ++ [x,y])),t+1):=
 Gv DT DW rfl F6 rfl rfl a1 (BP.own (E:=A9) (b:=q) (l:= [x,y]) a2 (by simp)) (CL (by simp;omega) (by decide))
theorem AER {h':Hp}{b q t:Nat}{L:List Int}{x:Int}(a1:h' b=AD A9 L)(a2:h' q=some (.cells true 1 [.int .u8 x]))(hn:L.length≤100000) :
  AM tt.get h' t [69,69] (AA b L) (.slice (some ⟨q,0,none⟩) 1 1)=some (AA t (L ++ [x]),CC b L t (AD A9 (L ++ [x])),t+1):=
 Gv DT DW rfl F6 rfl rfl a1 (BP.own (E:=A9) (b:=q) (l:= [x]) a2 (by simp)) (CL (by simp;omega) (by decide))
theorem AB7 (c:UInt8):IntKind.u8.wrap ((Int.ofNat c.toNat).tdiv 16)=((c.toNat / 16:Nat):Int):=by
 have:∀n:Fin 256,IntKind.u8.wrap ((Int.ofNat n.val).tdiv 16)=((n.val / 16:Nat):Int):=by decide +kernel
 exact this ⟨c.toNat,c.toNat_lt⟩
theorem ABF (c:UInt8):(Int.ofNat c.toNat).tmod 16=((c.toNat % 16:Nat):Int):=rfl
def EY:Bb:= .pure (fun args _=>match args with | [.string ⟨⟨b⟩⟩]=>b.length≤2000 | _=>False) (fun args _=>match args with | [b]=> .string ⟨⟨CY (strOf b)⟩⟩ | _=>undef)
def wQ (hp:Hp)(top:Nat)(b:List UInt8)(k:Nat):SS:=⟨[(0, .string ⟨⟨b⟩⟩,true),(3,AA top (LR (CY (b.take k))),true),(4, .int .i64 (k:Int),true)],hp.Av [(top,AD A9 (LR (CY (b.take k))))],top+1⟩
theorem yF:A0 Tryz.prog 61 EY:=by
 refine .Fm UU ?_ ?_
 ·rintro args hp h
  match args,h with
  | [.string ⟨⟨b⟩⟩],_=>rfl
 intro args hp hpre top hcl hsc
 match args,hpre with
 | [.string ⟨⟨b⟩⟩],hb=>
 simp only [AH]
 refine AR.A5 BA UU rfl 26 rfl [.tmp 2] rfl (show 1≤26 by decide) ?_
 refine CW.vc L8 [0,2,3,4,8] (by kernel_rfl) ?_
 (repeat ((try refine Vc.mk' ?_);simp (maxSteps:=6000000) only [go_sem]))
 refine CW.DC (wQ hp top b) (fun k=>k≤b.length) (fun k=>b.length - k) 0 (Nat.zero_le _) ?_ ?_
 ·exact (by refine BR.mk' [top] hcl (by simp) (by simp) rfl (AU ?_) ?_ ?_ <;> simp [show CY [] = [] from rfl,show LR [] = [] from rfl,Ex,GL])
 ·intro k hi
  have hTl:=Ea (b.take k)
  have hTk:(b.take k).length≤2000:=by rw [List.length_take];omega
  by_cases hlt:k < b.length
  ·have ii:((k:Int) < (b.length:Int))=True:=eq_true (by omega)
   have kk:Ap .i64 ((k:Int)+1)=((k+1:Nat):Int):=Bf hlt (by omega)
   have hts:=TG hlt
   have hc:=PU hlt
   have h16:(at' b k).toNat / 16 < 16:=by have:=(at' b k).toNat_lt;omega
   have h16':(at' b k).toNat % 16 < 16:=Nat.mod_lt _ (by decide)
   generalize hT:CY (b.take k)=T at hts hTl
   have hap:∀ {h':Hp} {q t:Nat},h' top=AD A9 (LR T)→h' q=some (.cells true 1 [.int .u8 (Int.ofNat (MK ((at' b k).toNat / 16)).toNat), .int .u8 (Int.ofNat (MK ((at' b k).toNat % 16)).toNat)])→AM tt.get h' t [69,69] (AA top (LR T)) (.slice (some ⟨q,0,none⟩) 2 2)=some (AA t (LR (CY (b.take (k+1)))),CC top (LR T) t (AD A9 (LR (CY (b.take (k+1))))),t+1):=fun {h'} {q} {t} a1 a2=>by
    have:=AEG (t:=t) a1 a2 (by rw [Zy];omega)
    rw [hts,U8,U8,List.append_assoc]
    exact this
   refine CW.vc L8 [0,2,3,4,8] (by kernel_rfl) ?_
   (repeat ((try refine Vc.mk' ?_);simp (maxSteps:=6000000) only [go_sem,A8,wQ,hT,ii,hc,AB7,ABF,h16,h16',RT,hap,kk]))
   refine .mk (k+1) hlt (by omega) ((by refine BR.mk' [top+2] hcl (by simp) (by simp) rfl (AU ?_) ?_ ?_ <;> simp [Ab,AP]))
  ·have hi2:k=b.length:=by omega
   subst hi2
   have hcv:∀ {h':Hp},h' top=AD A9 (LR (CY b))→CU tt.get h' 69 9 (AA top (LR (CY b)))=(.string ⟨⟨CY b⟩⟩,True):=fun e=>cvI (by rw [Ea];omega) e
   refine CW.vc L8 [0,2,3,4,8] (by kernel_rfl) ?_
   (repeat ((try refine Vc.mk' ?_);simp (maxSteps:=6000000) only [go_sem,A8,wQ,Int.lt_irrefl,List.take_length,decide_false,hcv]))
def Kc:Bb:= .pure (fun args _=>match args with | [.string ⟨⟨s⟩⟩]=>s.length≤2000 | _=>False) (fun args _=>match args with | [s]=>Gt (strOf s) | _=>undef)
theorem tE (c:UInt8):dgR (Int.ofNat c.toNat)=if 0≤hv c then hv c else 16:=by unfold dgR;rw [Tx]
theorem wJ {a b:UInt8}(ha:0≤hv a)(hb:0≤hv b):Ap .u8 (Ap .u8 (16 * hv a)+hv b)=Int.ofNat (nK a b).toNat:=by
 have r1:=MH a
 have r2:=MH b
 have e1:Ap .u8 (16 * hv a)=16 * hv a:=Gg (by simp [IntKind.signed];omega) (by simp [IntKind.signed,IntKind.bits];omega)
 rw [e1,Gg (by simp [IntKind.signed];omega) (by simp [IntKind.signed,IntKind.bits];omega)]
 unfold nK
 rw [UInt8.toNat_ofNat']
 show _=(((16 * (hv a).toNat+(hv b).toNat) % 256:Nat):Int)
 omega
def iK (hp:Hp)(top:Nat)(s:List UInt8)(k:Nat):SS:=⟨[(0, .string ⟨⟨s⟩⟩,true),(4,AA top (LR (Ed s k)),true),(5, .int .i64 ((2 * k:Nat):Int),true)],hp.Av [(top,AD A9 (LR (Ed s k)))],top+1⟩
theorem xE:A0 Tryz.prog 63 Kc:=by
 refine .Fm UK ?_ ?_
 ·rintro args hp h
  match args,h with
  | [.string ⟨⟨s⟩⟩],_=>
   simp only [AH]
   unfold Gt
   split <;> rfl
 intro args hp hpre top hcl hsc
 match args,hpre with
 | [.string ⟨⟨s⟩⟩],hs=>
 simp only [AH]
 have tm:((s.length:Int)).tmod 2=((s.length % 2:Nat):Int):=rfl
 refine AR.A5 BA UK rfl 42 rfl [.tmp 2, .tmp 3] rfl (show 1≤42 by decide) ?_
 by_cases c2:s.length % 2=0
 case neg=>
  have e:GX s=none:=by unfold GX;rw [if_neg (fun h=>c2 h.1)]
  have c2':¬((s.length % 2:Nat):Int)=0:=by omega
  simp only [Gt,e]
  refine CW.vc L8 [0,2,3,4,5,6,7,11,15,32] (by kernel_rfl) ?_
  (repeat ((try refine Vc.mk' ?_);simp (maxSteps:=6000000) only [go_sem,A8,tm,c2',decide_false]))
  rfl
 have c2':((s.length % 2:Nat):Int)=0:=by omega
 obtain ⟨N,hN⟩:∃N,s.length / 2=N:=⟨_,rfl⟩
 have hsN:s.length=2 * N:=by omega
 have eV:∀(h:R7 s N=true),Gt s= .tuple ⟨[.string ⟨⟨Ed s N⟩⟩, .int .i64 0]⟩:=fun h=>by
  have e:GX s=some (Ed s N):=by unfold GX;rw [hN,if_pos ⟨c2,h⟩]
  simp only [Gt,e];rfl
 have eW:∀(h:R7 s N=false),Gt s= .tuple ⟨[.string ⟨⟨[]⟩⟩, .int .i64 4]⟩:=fun h=>by
  have e:GX s=none:=by unfold GX;rw [hN,if_neg (fun h'=>by rw [h] at h';simp at h')]
  simp only [Gt,e];rfl
 refine CW.vc L8 [0,2,3,4,5,6,7,11,15,32] (by kernel_rfl) ?_
 (repeat ((try refine Vc.mk' ?_);simp (maxSteps:=6000000) only [go_sem,A8,tm,c2',decide_true]))
 refine CW.DC (iK hp top s) (fun k=>k≤N∧R7 s k=true) (fun k=>N - k) 0 ⟨Nat.zero_le _,rfl⟩ ?_ ?_
 ·exact (by refine BR.mk' [top] hcl (by simp) (by simp) rfl (AU ?_) ?_ ?_ <;> simp [show Ed s 0= [] from rfl,show LR [] = [] from rfl,Ex,GL])
 ·rintro k ⟨hi,hok⟩
  by_cases hlt:k < N
  ·have l1:(((2 * k:Nat):Int) < (s.length:Int))=True:=eq_true (by omega)
   have l0:(2 * k < s.length)=True:=eq_true (by omega)
   have l2:(2 * k+1 < s.length)=True:=eq_true (by omega)
   have k1:Ap .i64 (((2 * k:Nat):Int)+1)=((2 * k+1:Nat):Int):=by rw [wrap64 (by omega) (by omega)];omega
   have k2:Ap .i64 (((2 * k:Nat):Int)+2)=((2 * (k+1):Nat):Int):=by rw [wrap64 (by omega) (by omega)];omega
   have a1:=PU (b:=s) (k:=2 * k) (by omega)
   have a2:=PU (b:=s) (k:=2 * k+1) (by omega)
   have r1:=MH (at' s (2 * k))
   have r2:=MH (at' s (2 * k+1))
   have hsu:=Qd (s:=s) (k:=k)
   have hd1:=tE (at' s (2 * k))
   have hd2:=tE (at' s (2 * k+1))
   by_cases d1:0≤hv (at' s (2 * k))
   ·rw [if_pos d1] at hd1
    have g1:((15:Int) < hv (at' s (2 * k)))=False:=eq_false (by omega)
    by_cases d2:0≤hv (at' s (2 * k+1))
    ·rw [if_pos d2] at hd2
     have g2:((15:Int) < hv (at' s (2 * k+1)))=False:=eq_false (by omega)
     have hx:=wJ d1 d2
     have hap:∀ {h':Hp} {q t:Nat},h' top=AD A9 (LR (Ed s k))→h' q=some (.cells true 1 [.int .u8 (Int.ofNat (nK (at' s (2 * k)) (at' s (2 * k+1))).toNat)])→AM tt.get h' t [69,69] (AA top (LR (Ed s k))) (.slice (some ⟨q,0,none⟩) 1 1)=some (AA t (LR (Ed s (k+1))),CC top (LR (Ed s k)) t (AD A9 (LR (Ed s (k+1)))),t+1):=fun {h'} {q} {t} e1 e2=>by
      rw [TX,U8]
      exact AER e1 e2 (by rw [Zy,GH];omega)
     have hn:R7 s (k+1)=true:=by rw [hsu,hok];simp [d1,d2]
     refine CW.vc L8 [0,2,3,4,5,6,7,11,15,32] (by kernel_rfl) ?_
     (repeat ((try refine Vc.mk' ?_);simp (maxSteps:=6000000) only [go_sem,A8,iK,l1,l2,k1,k2,a1,a2,gq,Si,W5,XS,hd1,hd2,g1,g2,hx,hap,decide_true,decide_false]))
     refine .mk (k+1) ⟨hlt,hn⟩ (by omega) ((by refine BR.mk' [top+2] hcl (by simp) (by simp) rfl (AU ?_) ?_ ?_ <;> simp [Ab,AP]))
    ·rw [if_neg d2] at hd2
     have hn:R7 s N=false:=NO (k:=k+1) hlt (by rw [hsu];simp [d2])
     rw [eW hn]
     refine CW.vc L8 [0,2,3,4,5,6,7,11,15,32] (by kernel_rfl) ?_
     (repeat ((try refine Vc.mk' ?_);simp (maxSteps:=6000000) only [go_sem,A8,iK,l1,l2,k1,a1,a2,gq,Si,W5,XS,hd1,hd2,g1,decide_true,decide_false]))
   ·rw [if_neg d1] at hd1
    have hn:R7 s N=false:=NO (k:=k+1) hlt (by rw [hsu];simp [d1])
    rw [eW hn]
    refine CW.vc L8 [0,2,3,4,5,6,7,11,15,32] (by kernel_rfl) ?_
    (repeat ((try refine Vc.mk' ?_);simp (maxSteps:=6000000) only [go_sem,A8,iK,l1,l2,k1,a1,a2,gq,Si,W5,XS,hd1,decide_true]))
  ·have hk:k=N:=by omega
   subst hk
   rw [eV hok]
   have l1:(((2 * k:Nat):Int) < (s.length:Int))=False:=eq_false (by omega)
   have l0:(2 * k < s.length)=False:=eq_false (by omega)
   have hcv:∀ {h':Hp},h' top=AD A9 (LR (Ed s k))→CU tt.get h' 69 9 (AA top (LR (Ed s k)))=(.string ⟨⟨Ed s k⟩⟩,True):=fun e=>cvI (by rw [GH];omega) e
   refine CW.vc L8 [0,2,3,4,5,6,7,11,15,32] (by kernel_rfl) ?_
   (repeat ((try refine Vc.mk' ?_);simp (maxSteps:=6000000) only [go_sem,A8,iK,l1,hcv,decide_false]))
end Go.Proofs.YthlhnangbinhoaaGreatDoor.Dm
