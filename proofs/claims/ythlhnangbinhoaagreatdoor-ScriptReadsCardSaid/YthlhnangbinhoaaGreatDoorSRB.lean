/- The document's hex digits, walked. -/
import Derived.Test.YthlhnangbinhoaaGreatDoorSRA
set_option linter.unusedVariables false
namespace Go.Proofs.YthlhnangbinhoaaGreatDoor.Dm
open Go.Dm
set_option maxHeartbeats 16000000
set_option maxRecDepth 20000
theorem ue {i:Nat}(hi:i < 16)(c:UInt8):L4 i=c ↔ hv c=i:=by
 have:∀(c:Fin 256) (i:Fin 16),L4 i.val=UInt8.ofNat c.val ↔ hv (UInt8.ofNat c.val)=(i.val:Int):=by decide +kernel
 have:=this ⟨c.toNat,c.toNat_lt⟩ ⟨i,hi⟩
 simpa using this
def dgR (n:Int):Int:=if 0≤hv (UInt8.ofNat n.toNat) then hv (UInt8.ofNat n.toNat) else 16
def Sn:BE:= .pure (fun args _=>match args with | [.int .u8 n]=>0≤n∧n < 256 | _=>False) (fun args _=>match args with | [n]=> .int .u8 (dgR (intOf n)) | _=>undef)
def qX (hp:Hp)(top:Nat)(n:Int)(i:Nat):SS:=⟨[(0, .int .u8 n,true),(3, .int .i64 (i:Int),true)],hp.Ac [],top⟩
theorem AAC:Ag Tryz.prog 86 Sn:=by
 refine .EK bC ?_ ?_
 ·rintro args hp h
  match args,h with
  | [.int .u8 n],_=>rfl
 intro args hp hpre top hcl hsc
 match args,hpre with
 | [.int .u8 n],⟨n0,n1⟩=>
 simp only [intOf_int]
 obtain ⟨c,rfl⟩:∃c:UInt8,n=Int.ofNat c.toNat:=⟨UInt8.ofNat n.toNat,by rw [UInt8.toNat_ofNat'];show n=((n.toNat % 256:Nat):Int);omega⟩
 have hr:=MG c
 have hd:dgR (Int.ofNat c.toNat)=if 0≤hv c then hv c else 16:=by unfold dgR;rw [UP]
 rw [hd]
 refine AJ.Af Am bC rfl 14 rfl [.tmp 2] rfl (show 1≤14 by decide) ?_
 refine CW.vc Ew [0,2,3,5,11] (by kernel_rfl) ?_
 (repeat ((try refine Vc.mk' ?_);simp (maxSteps:=6000000) only [go_sem]))
 refine CW.Bc (qX hp top (Int.ofNat c.toNat)) (fun i=>i≤16∧(0≤hv c→(i:Int)≤hv c)) (fun i=>16 - i) 0 ⟨Nat.zero_le _,fun h=>h⟩ ?_ ?_
 ·exact (by refine Al.mk' [] hcl (by simp) (by simp) rfl (AF ?_) ?_ ?_ <;> simp [])
 ·rintro i ⟨hi,hv1⟩
  by_cases hlt:i < 16
  ·have kk:Ad .i64 ((i:Int)+1)=((i+1:Nat):Int):=Ae hlt (by omega)
   have ii:((i:Int) < 16)=True:=eq_true (by omega)
   have hq:=ue hlt c
   by_cases h:hv c=i
   ·have e:(Int.ofNat (L4 i).toNat=Int.ofNat c.toNat)=True:=eq_true (by rw [hq.2 h])
    have w:Ad .u8 (i:Int)=(i:Int):=Gh (by simp [IntKind.signed]) (by simp [IntKind.signed,IntKind.bits];omega)
    rw [if_pos (by omega),h]
    refine CW.vc Ew [0,2,3,5,11] (by kernel_rfl) ?_
    (repeat ((try refine Vc.mk' ?_);simp (maxSteps:=6000000) only [go_sem,qX,ii,hlt,Qg,e,w,decide_true]))
   ·have e:(Int.ofNat (L4 i).toNat=Int.ofNat c.toNat)=False:=eq_false fun h'=>h (hq.1 (UInt8.toNat.inj (Int.ofNat.inj h')))
    refine CW.vc Ew [0,2,3,5,11] (by kernel_rfl) ?_
    (repeat ((try refine Vc.mk' ?_);simp (maxSteps:=6000000) only [go_sem,qX,ii,hlt,Qg,e,kk,decide_true,decide_false]))
    refine .mk (i+1) ⟨hlt,fun h0=>by have:=hv1 h0;omega⟩ (by omega) ((by refine Al.mk' [] hcl (by simp) (by simp) rfl (AF ?_) ?_ ?_ <;> simp []))
  ·have hi2:i=16:=by omega
   subst hi2
   rw [if_neg (by intro h0;have:=hv1 h0;omega)]
   refine CW.vc Ew [0,2,3,5,11] (by kernel_rfl) ?_
   (repeat ((try refine Vc.mk' ?_);simp (maxSteps:=6000000) only [go_sem,qX,show ((16:Nat):Int)=16 from rfl,Int.lt_irrefl,decide_false]))
noncomputable def GR1:FuncId→BE:=BV (BV (BV (BV (BV (BV zB 86 Sn) 69 (Hn fun n=>GC n 1 24)) 57 (Hn Gm)) 59 (Hn HK)) 60 (Hn HJ)) 56 ED
theorem LU:Bp Tryz.prog tt.get GR1:=(((((Ew.add AAC).add kW).add ACI).add ABj).add AAb).add ABC
theorem fk:GR1 86=Sn:=rfl
def Km(l:List UInt8):List Int:=l.map fun c=>(c.toNat:Int)
theorem UE {a b:List UInt8}:Km (a ++ b)=Km a ++ Km b:=List.map_append
theorem Zs{a:List UInt8}:(Km a).length=a.length:=List.length_map _
theorem uN (l:List UInt8):bytesOf (Km l)=l:=by
 simp [bytesOf,Km,List.map_map,Function.comp_def]
theorem cvI {h':Hp}{b:Nat}{T:List UInt8}(hT:T.length≤9223372036854775807)(e:h' b=AD A5 (Km T)):CQ tt.get h' 69 9 (AA b (Km T))=(.string ⟨⟨T⟩⟩,True):=by
 cases T with
 |nil=>exact Rk DU I8 F7
 |cons a l=>
  have e2:h' b=some (.cells true 1 ((Km (a :: l)).map (Value.int .u8))):=by
   rw [e]
   show some (A8.cells true 1 (A5.flat (Km (a :: l))))=_
   congr 2
   generalize Km (a :: l)=L
   unfold B6.flat
   induction L with
   |nil=>rfl
   |cons x L ih=>rw [List.map_cons,List.flatten_cons,ih];rfl
  have:=Gd (o:=0) (n:=(Km (a :: l)).length) (c:=(Km (a :: l)).length) (l:=Km (a :: l)) DU I8 F7 e2 (by rw [List.drop_zero,List.take_of_length_le (by rw [List.length_map];exact Nat.le_refl _)]) (by rw [List.length_map];omega)
  rw [uN] at this
  exact this
theorem AD3 {h':Hp}{b q t:Nat}{L:List Int}{x y:Int}(a1:h' b=AD A5 L)(a2:h' q=some (.cells true 1 [.int .u8 x, .int .u8 y]))(hn:L.length≤100000) :
  AK tt.get h' t [69,69] (AA b L) (.slice (some ⟨q,0,none⟩) 2 2)=some (AA t (L ++ [x,y]),Bu b L t (AD A5 (L ++ [x,y])),t+1):=
 GV DU DX rfl Fu rfl rfl a1 (BF.own (E:=A5) (b:=q) (l:= [x,y]) a2 (by simp)) (CO (by simp;omega) (by decide))
theorem AD2 {h':Hp}{b q t:Nat}{L:List Int}{x:Int}(a1:h' b=AD A5 L)(a2:h' q=some (.cells true 1 [.int .u8 x]))(hn:L.length≤100000) :
  AK tt.get h' t [69,69] (AA b L) (.slice (some ⟨q,0,none⟩) 1 1)=some (AA t (L ++ [x]),Bu b L t (AD A5 (L ++ [x])),t+1):=
 GV DU DX rfl Fu rfl rfl a1 (BF.own (E:=A5) (b:=q) (l:= [x]) a2 (by simp)) (CO (by simp;omega) (by decide))
theorem ABo (c:UInt8):IntKind.u8.wrap ((Int.ofNat c.toNat).tdiv 16)=((c.toNat / 16:Nat):Int):=by
 have:∀n:Fin 256,IntKind.u8.wrap ((Int.ofNat n.val).tdiv 16)=((n.val / 16:Nat):Int):=by decide +kernel
 exact this ⟨c.toNat,c.toNat_lt⟩
theorem ABu(c:UInt8):(Int.ofNat c.toNat).tmod 16=((c.toNat % 16:Nat):Int):=rfl
def UK:BE:= .pure (fun args _=>match args with | [.string ⟨⟨b⟩⟩]=>b.length≤2000 | _=>False) (fun args _=>match args with | [b]=> .string ⟨⟨CZ (strOf b)⟩⟩ | _=>undef)
def wx (hp:Hp)(top:Nat)(b:List UInt8)(k:Nat):SS:=⟨[(0, .string ⟨⟨b⟩⟩,true),(3,AA top (Km (CZ (b.take k))),true),(4, .int .i64 (k:Int),true)],hp.Ac [(top,AD A5 (Km (CZ (b.take k))))],top+1⟩
theorem u6:Ag Tryz.prog 61 UK:=by
 refine .EK ag ?_ ?_
 ·rintro args hp h
  match args,h with
  | [.string ⟨⟨b⟩⟩],_=>rfl
 intro args hp hpre top hcl hsc
 match args,hpre with
 | [.string ⟨⟨b⟩⟩],hb=>
 simp only [AH]
 refine AJ.Af Am ag rfl 26 rfl [.tmp 2] rfl (show 1≤26 by decide) ?_
 refine CW.vc LU [0,2,3,4,8] (by kernel_rfl) ?_
 (repeat ((try refine Vc.mk' ?_);simp (maxSteps:=6000000) only [go_sem]))
 refine CW.Bc (wx hp top b) (fun k=>k≤b.length) (fun k=>b.length - k) 0 (Nat.zero_le _) ?_ ?_
 ·exact (by refine Al.mk' [top] hcl (by simp) (by simp) rfl (AF ?_) ?_ ?_ <;> simp [show CZ [] = [] from rfl,show Km [] = [] from rfl,DD,Dp])
 ·intro k hi
  have hTl:=EI (b.take k)
  have hTk:(b.take k).length≤2000:=by rw [List.length_take];omega
  by_cases hlt:k < b.length
  ·have ii:((k:Int) < (b.length:Int))=True:=eq_true (by omega)
   have kk:Ad .i64 ((k:Int)+1)=((k+1:Nat):Int):=Ae hlt (by omega)
   have hts:=TC hlt
   have hc:=Nd hlt
   have h16:(at' b k).toNat / 16 < 16:=by have:=(at' b k).toNat_lt;omega
   have h16':(at' b k).toNat % 16 < 16:=Nat.mod_lt _ (by decide)
   generalize hT:CZ (b.take k)=T at hts hTl
   have hap:∀ {h':Hp} {q t:Nat},h' top=AD A5 (Km T)→h' q=some (.cells true 1 [.int .u8 (Int.ofNat (L4 ((at' b k).toNat / 16)).toNat), .int .u8 (Int.ofNat (L4 ((at' b k).toNat % 16)).toNat)])→AK tt.get h' t [69,69] (AA top (Km T)) (.slice (some ⟨q,0,none⟩) 2 2)=some (AA t (Km (CZ (b.take (k+1)))),Bu top (Km T) t (AD A5 (Km (CZ (b.take (k+1))))),t+1):=fun {h'} {q} {t} a1 a2=>by
    have:=AD3 (t:=t) a1 a2 (by rw [Zs];omega)
    rw [hts,UE,UE,List.append_assoc]
    exact this
   refine CW.vc LU [0,2,3,4,8] (by kernel_rfl) ?_
   (repeat ((try refine Vc.mk' ?_);simp (maxSteps:=6000000) only [go_sem,Ap,wx,hT,ii,hc,ABo,ABu,h16,h16',Qg,hap,kk]))
   refine .mk (k+1) hlt (by omega) ((by refine Al.mk' [top+2] hcl (by simp) (by simp) rfl (AF ?_) ?_ ?_ <;> simp [Av,Ai]))
  ·have hi2:k=b.length:=by omega
   subst hi2
   have hcv:∀ {h':Hp},h' top=AD A5 (Km (CZ b))→CQ tt.get h' 69 9 (AA top (Km (CZ b)))=(.string ⟨⟨CZ b⟩⟩,True):=fun e=>cvI (by rw [EI];omega) e
   refine CW.vc LU [0,2,3,4,8] (by kernel_rfl) ?_
   (repeat ((try refine Vc.mk' ?_);simp (maxSteps:=6000000) only [go_sem,Ap,wx,Int.lt_irrefl,List.take_length,decide_false,hcv]))
def UN:BE:= .pure (fun args _=>match args with | [.string ⟨⟨s⟩⟩]=>s.length≤2000 | _=>False) (fun args _=>match args with | [s]=>Ic (strOf s) | _=>undef)
theorem sV (c:UInt8):dgR (Int.ofNat c.toNat)=if 0≤hv c then hv c else 16:=by unfold dgR;rw [UP]
theorem u5 {a b:UInt8}(ha:0≤hv a)(hb:0≤hv b):Ad .u8 (Ad .u8 (16 * hv a)+hv b)=Int.ofNat (mr a b).toNat:=by
 have r1:=MG a
 have r2:=MG b
 have e1:Ad .u8 (16 * hv a)=16 * hv a:=Gh (by simp [IntKind.signed];omega) (by simp [IntKind.signed,IntKind.bits];omega)
 rw [e1,Gh (by simp [IntKind.signed];omega) (by simp [IntKind.signed,IntKind.bits];omega)]
 unfold mr
 rw [UInt8.toNat_ofNat']
 show _=(((16 * (hv a).toNat+(hv b).toNat) % 256:Nat):Int)
 omega
def lE (hp:Hp)(top:Nat)(s:List UInt8)(k:Nat):SS:=⟨[(0, .string ⟨⟨s⟩⟩,true),(4,AA top (Km (EX s k)),true),(5, .int .i64 ((2 * k:Nat):Int),true)],hp.Ac [(top,AD A5 (Km (EX s k)))],top+1⟩
theorem xL:Ag Tryz.prog 63 UN:=by
 refine .EK ai ?_ ?_
 ·rintro args hp h
  match args,h with
  | [.string ⟨⟨s⟩⟩],_=>
   simp only [AH]
   unfold Ic
   split <;> rfl
 intro args hp hpre top hcl hsc
 match args,hpre with
 | [.string ⟨⟨s⟩⟩],hs=>
 simp only [AH]
 have tm:((s.length:Int)).tmod 2=((s.length % 2:Nat):Int):=rfl
 refine AJ.Af Am ai rfl 42 rfl [.tmp 2, .tmp 3] rfl (show 1≤42 by decide) ?_
 by_cases c2:s.length % 2=0
 case neg=>
  have e:GL s=none:=by unfold GL;rw [if_neg (fun h=>c2 h.1)]
  have c2':¬((s.length % 2:Nat):Int)=0:=by omega
  simp only [Ic,e]
  refine CW.vc LU [0,2,3,4,5,6,7,11,15,32] (by kernel_rfl) ?_
  (repeat ((try refine Vc.mk' ?_);simp (maxSteps:=6000000) only [go_sem,Ap,tm,c2',decide_false]))
  rfl
 have c2':((s.length % 2:Nat):Int)=0:=by omega
 obtain ⟨N,hN⟩:∃N,s.length / 2=N:=⟨_,rfl⟩
 have hsN:s.length=2 * N:=by omega
 have eV:∀(h:SK s N=true),Ic s= .tuple ⟨[.string ⟨⟨EX s N⟩⟩, .int .i64 0]⟩:=fun h=>by
  have e:GL s=some (EX s N):=by unfold GL;rw [hN,if_pos ⟨c2,h⟩]
  simp only [Ic,e];rfl
 have eW:∀(h:SK s N=false),Ic s= .tuple ⟨[.string ⟨⟨[]⟩⟩, .int .i64 4]⟩:=fun h=>by
  have e:GL s=none:=by unfold GL;rw [hN,if_neg (fun h'=>by rw [h] at h';simp at h')]
  simp only [Ic,e];rfl
 refine CW.vc LU [0,2,3,4,5,6,7,11,15,32] (by kernel_rfl) ?_
 (repeat ((try refine Vc.mk' ?_);simp (maxSteps:=6000000) only [go_sem,Ap,tm,c2',decide_true]))
 refine CW.Bc (lE hp top s) (fun k=>k≤N∧SK s k=true) (fun k=>N - k) 0 ⟨Nat.zero_le _,rfl⟩ ?_ ?_
 ·exact (by refine Al.mk' [top] hcl (by simp) (by simp) rfl (AF ?_) ?_ ?_ <;> simp [show EX s 0= [] from rfl,show Km [] = [] from rfl,DD,Dp])
 ·rintro k ⟨hi,hok⟩
  by_cases hlt:k < N
  ·have l1:(((2 * k:Nat):Int) < (s.length:Int))=True:=eq_true (by omega)
   have l0:(2 * k < s.length)=True:=eq_true (by omega)
   have l2:(2 * k+1 < s.length)=True:=eq_true (by omega)
   have k1:Ad .i64 (((2 * k:Nat):Int)+1)=((2 * k+1:Nat):Int):=by rw [wrap64 (by omega) (by omega)];omega
   have k2:Ad .i64 (((2 * k:Nat):Int)+2)=((2 * (k+1):Nat):Int):=by rw [wrap64 (by omega) (by omega)];omega
   have a1:=Nd (b:=s) (k:=2 * k) (by omega)
   have a2:=Nd (b:=s) (k:=2 * k+1) (by omega)
   have r1:=MG (at' s (2 * k))
   have r2:=MG (at' s (2 * k+1))
   have hsu:=RI (s:=s) (k:=k)
   have hd1:=sV (at' s (2 * k))
   have hd2:=sV (at' s (2 * k+1))
   by_cases d1:0≤hv (at' s (2 * k))
   ·rw [if_pos d1] at hd1
    have g1:((15:Int) < hv (at' s (2 * k)))=False:=eq_false (by omega)
    by_cases d2:0≤hv (at' s (2 * k+1))
    ·rw [if_pos d2] at hd2
     have g2:((15:Int) < hv (at' s (2 * k+1)))=False:=eq_false (by omega)
     have hx:=u5 d1 d2
     have hap:∀ {h':Hp} {q t:Nat},h' top=AD A5 (Km (EX s k))→h' q=some (.cells true 1 [.int .u8 (Int.ofNat (mr (at' s (2 * k)) (at' s (2 * k+1))).toNat)])→AK tt.get h' t [69,69] (AA top (Km (EX s k))) (.slice (some ⟨q,0,none⟩) 1 1)=some (AA t (Km (EX s (k+1))),Bu top (Km (EX s k)) t (AD A5 (Km (EX s (k+1)))),t+1):=fun {h'} {q} {t} e1 e2=>by
      rw [TX,UE]
      exact AD2 e1 e2 (by rw [Zs,GA];omega)
     have hn:SK s (k+1)=true:=by rw [hsu,hok];simp [d1,d2]
     refine CW.vc LU [0,2,3,4,5,6,7,11,15,32] (by kernel_rfl) ?_
     (repeat ((try refine Vc.mk' ?_);simp (maxSteps:=6000000) only [go_sem,Ap,lE,l1,l2,k1,k2,a1,a2,fk,Sn,Xv,Xu,hd1,hd2,g1,g2,hx,hap,decide_true,decide_false]))
     refine .mk (k+1) ⟨hlt,hn⟩ (by omega) ((by refine Al.mk' [top+2] hcl (by simp) (by simp) rfl (AF ?_) ?_ ?_ <;> simp [Av,Ai]))
    ·rw [if_neg d2] at hd2
     have hn:SK s N=false:=NK (k:=k+1) hlt (by rw [hsu];simp [d2])
     rw [eW hn]
     refine CW.vc LU [0,2,3,4,5,6,7,11,15,32] (by kernel_rfl) ?_
     (repeat ((try refine Vc.mk' ?_);simp (maxSteps:=6000000) only [go_sem,Ap,lE,l1,l2,k1,a1,a2,fk,Sn,Xv,Xu,hd1,hd2,g1,decide_true,decide_false]))
   ·rw [if_neg d1] at hd1
    have hn:SK s N=false:=NK (k:=k+1) hlt (by rw [hsu];simp [d1])
    rw [eW hn]
    refine CW.vc LU [0,2,3,4,5,6,7,11,15,32] (by kernel_rfl) ?_
    (repeat ((try refine Vc.mk' ?_);simp (maxSteps:=6000000) only [go_sem,Ap,lE,l1,l2,k1,a1,a2,fk,Sn,Xv,Xu,hd1,decide_true]))
  ·have hk:k=N:=by omega
   subst hk
   rw [eV hok]
   have l1:(((2 * k:Nat):Int) < (s.length:Int))=False:=eq_false (by omega)
   have l0:(2 * k < s.length)=False:=eq_false (by omega)
   have hcv:∀ {h':Hp},h' top=AD A5 (Km (EX s k))→CQ tt.get h' 69 9 (AA top (Km (EX s k)))=(.string ⟨⟨EX s k⟩⟩,True):=fun e=>cvI (by rw [GA];omega) e
   refine CW.vc LU [0,2,3,4,5,6,7,11,15,32] (by kernel_rfl) ?_
   (repeat ((try refine Vc.mk' ?_);simp (maxSteps:=6000000) only [go_sem,Ap,lE,l1,hcv,decide_false]))
end Go.Proofs.YthlhnangbinhoaaGreatDoor.Dm
