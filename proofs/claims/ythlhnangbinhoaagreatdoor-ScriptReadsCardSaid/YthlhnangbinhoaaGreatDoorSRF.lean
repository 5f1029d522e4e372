/- The document's op of a line, walked. -/
import Derived.Test.YthlhnangbinhoaaGreatDoorSRE
import Derived.Test.YthlhnangbinhoaaGreatDoorSBQ
set_option linter.unusedVariables false
namespace Go.Proofs.YthlhnangbinhoaaGreatDoor.Dm
open Go.Dm
set_option maxHeartbeats 64000000
set_option maxRecDepth 20000
noncomputable def mg:FuncId→BE:=BV nD 21 Js
theorem LW:Bp Tryz.prog tt.get mg:=Gx.add vD
theorem y8:mg 51=Gi:=rfl
theorem r9:mg 56=ED:=rfl
theorem fp:mg 62=Mj:=rfl
theorem Vp:mg 57=Hn Gm:=rfl
theorem Vo:mg 59=Hn HK:=rfl
theorem Vm:mg 60=Hn HJ:=rfl
theorem y7:mg 63=UN:=rfl
theorem Vn:mg 21=Js:=rfl
def ML (s:List UInt8):Value:=match VK s with
 |some o=> .tuple ⟨[.agg ⟨Aw.enc o⟩, .bool true]⟩
 |none=> .tuple ⟨[.agg ⟨Aw.enc LF⟩, .bool false]⟩
def UL:BE:= .pure (fun args _=>match args with | [.string ⟨⟨s⟩⟩]=>s.length≤100000000 | _=>False) (fun args _=>match args with | [s]=>ML (strOf s) | _=>undef)
theorem oh {w:List UInt8}{i:Nat}:kA w (i+1)=if w=Ca ((i+1:Nat):Int) then ((i+1:Nat):Int) else kA w i:=rfl
theorem kcl{w:List UInt8}:let K:=kA w 12;(Gm K=true∧HK K=false∧HJ K=false∧¬K=8∧¬K=9)∨(Gm K=false∧HK K=true∧HJ K=false∧¬K=8∧K=9)∨(Gm K=false∧HK K=true∧HJ K=false∧¬K=8∧¬K=9)∨(Gm K=false∧HK K=false∧HJ K=true∧K=8∧¬K=9)∨(Gm K=false∧HK K=false∧HJ K=true∧¬K=8∧¬K=9)∨(Gm K=false∧HK K=false∧HJ K=false∧¬K=8∧¬K=9):=by
 obtain⟨h0,h1⟩:=jN w 12
 have hk:kA w 12=0∨kA w 12=1∨kA w 12=2∨kA w 12=3∨kA w 12=4∨kA w 12=5∨kA w 12=6∨kA w 12=7∨kA w 12=8∨kA w 12=9∨kA w 12=10∨kA w 12=11∨kA w 12=12:=by omega
 dsimp only
 rcases hk with h | h | h | h | h | h | h | h | h | h | h | h | h <;> rw[h] <;> decide
theorem tD {w:List UInt8}(h:w= []∨20 < w.length):bj w= .tuple ⟨[.int .i64 0, .bool false]⟩∧R7 w=0:=by
 refine ⟨by unfold bj;rw [if_pos h], ?_⟩
 unfold R7
 rw [if_neg]
 intro hc
 unfold LG at hc
 rcases h with rfl | h
 ·cases hc
 ·simp at hc;omega
theorem ABp {w:List UInt8}(h:¬(w= []∨20 < w.length))(e:Lib.itoa (EL w)=w):bj w= .tuple ⟨[.int .i64 (EL w), .bool true]⟩∧R7 w=EL w:=by
 refine ⟨by unfold bj;rw [if_neg h,decide_eq_true e], ?_⟩
 unfold R7
 rw [if_pos]
 unfold LG
 rw [decide_eq_true e,decide_eq_true (show w.length≤20 by omega)]
 cases w with
 |nil=>exact absurd (.inl rfl) h
 |cons a l=>rfl
theorem ABq {w:List UInt8}(h:¬(w= []∨20 < w.length))(e:¬Lib.itoa (EL w)=w):bj w= .tuple ⟨[.int .i64 (EL w), .bool false]⟩∧R7 w=0:=by
 refine ⟨by unfold bj;rw [if_neg h,decide_eq_false e], ?_⟩
 unfold R7
 rw [if_neg]
 intro hc
 unfold LG at hc
 rw [decide_eq_false e,Bool.and_false] at hc
 cases hc
theorem AB4 {hp:Hp}{a:Option Addr}{n c:Nat}:Bv tt.get hp 68 (.slice a n c)=(.int .i64 (n:Int),True):=by
 unfold Bv;simp only [Ey,DV,HH,VX];rfl
theorem RJ {k r p g e t:Int}{b:List UInt8}:Yz (.agg ⟨[.int .i64 k, .int .i64 r, .int .i64 p, .int .i64 g, .int .u32 e, .int .i64 t, .string ⟨⟨b⟩⟩]⟩)=⟨k,r,p,g,e,t,b⟩:=Ej (x:=⟨k,r,p,g,e,t,b⟩)
def zO:Option A8:=some (.cells true 0 (Aw.enc LF))
def qh (hp:Hp)(top:Nat)(s:List UInt8)(W:Ec)(i:Nat):SS:=⟨[(0, .string ⟨⟨s⟩⟩,true),(2, .pointer (some ⟨top,0,none⟩),true),(4,AA (top+1) W,true),(5, .pointer (some ⟨top+2,0,none⟩),true),(6, .int .i64 ((i+1:Nat):Int),true)],
 hp.Ac [(top,zO),(top+1,AD AB W),(top+2,some (.cells true 0 (Aw.enc (MS (kA (at' W 0) i)))))],top+3⟩
def fO (hp:Hp)(top:Nat)(s:List UInt8)(W:Ec)(NS:List Int)(i:Nat):SS:=⟨[(0, .string ⟨⟨s⟩⟩,true),(2, .pointer (some ⟨top,0,none⟩),true),(4,AA (top+1) W,true),(5, .pointer (some ⟨top+2,0,none⟩),true),(7,AA (top+3) (NS.take i),true),(8, .int .i64 ((i+1:Nat):Int),true)],
 hp.Ac [(top,zO),(top+1,AD AB W),(top+2,some (.cells true 0 (Aw.enc (MS (kA (at' W 0) 12))))),(top+3,AD AL (NS.take i))],top+4⟩
theorem vt:Ag Tryz.prog 22 UL:=by
 refine .EK aH ?_ ?_
 ·rintro args hp h
  match args,h with
  | [.string ⟨⟨s⟩⟩],_=>
   simp only [AH]
   unfold ML
   split <;> rfl
 intro args hp hpre top hcl hsc
 match args,hpre with
 | [.string ⟨⟨s⟩⟩],hs=>
 simp only [AH]
 refine AJ.Af Am aH rfl 152 rfl [.cell 2 43, .tmp 3] rfl (show 1≤152 by decide) ?_
 by_cases c:1064 < s.length
 ·have e:VK s=none:=by unfold VK;rw [if_pos c]
  have e2:ML s= .tuple ⟨[.agg ⟨Aw.enc LF⟩, .bool false]⟩:=by unfold ML;rw [e]
  rw [e2]
  have c':((1064:Int) < (s.length:Int))=True:=eq_true (by omega)
  refine CW.vc LW [0,2,3,4,5,6,7,8,9,10,11,12,15,21,29,35,47,54,58,74,86,110,129,149] (by kernel_rfl) ?_
  (repeat ((try refine Vc.mk' ?_);simp (maxSteps:=6000000) only [go_sem,Ap,c']))
  rfl
 have c':((1064:Int) < (s.length:Int))=False:=eq_false (by omega)
 have c2:(1064 < s.length)=False:=eq_false c
 have sl:(s.length≤16000000)=True:=eq_true (by omega)
 refine CW.vc LW [0,2,3,4,5,6,7,8,9,10,11,12,15,21,29,35,47,54,58,74,86,110,129,149] (by kernel_rfl) ?_
 (repeat ((try refine Vc.mk' ?_);simp (maxSteps:=6000000) only [go_sem,Ap,c',y8,Gi,sl,AH,decide_false]))
 have hWne:=Kc s
 have hWl:=K9 s
 have hWm:=JL s
 have hRef:VK s=if (Bl s).drop 1= [] then none else if Ik (Jq (Bl s))=some s then some (Jq (Bl s)) else none:=by unfold VK;rw [if_neg c]
 generalize hW:Bl s=W at hWne hWl hWm hRef
 have hW1:0 < W.length:=List.length_pos_iff.2 hWne
 have hWs:∀ {h':Hp} {b:Nat},h' b=AD AB W→BF AB h' (AA b W) W:=fun e=>BF.DK e (by omega)
 have ixj:∀ {b j:Nat},j < W.length→AZ tt.get 67 (AA b W) (.int .i64 (j:Int))=(Ah (AA b W) (j * 1),True):=fun {b} {j} hj=>by
  have h0:BF AB (fun i=>if i=b then AD AB W else none) (AA b W) W:=hWs (by simp)
  have:=Bo h0 (k:= .i64) (n:=(j:Int)) (by omega) (by omega)
  simpa using this
 have ldj:∀ {h':Hp} {b j:Nat},h' b=AD AB W→j < W.length→BN tt.get h' 9 (Ah (AA b W) (j * 1))=(.string ⟨⟨at' W j⟩⟩,True):=fun e hj=>B9 (hWs e) hj
 have ix0:∀ {b:Nat},AZ tt.get 67 (AA b W) (.int .i64 0)=(Ah (AA b W) 0,True):=fun {b}=>ixj (b:=b) (j:=0) hW1
 have ld0:∀ {h':Hp} {b:Nat},h' b=AD AB W→BN tt.get h' 9 (Ah (AA b W) 0)=(.string ⟨⟨at' W 0⟩⟩,True):=fun e=>ldj (j:=0) e hW1
 refine CW.Bc (qh hp top s W) (fun i=>i≤12) (fun i=>12 - i) 0 (Nat.zero_le _) ?_ ?_
 ·exact (by refine Al.mk' [top,top+1,top+2] hcl (by simp) (by simp) rfl (AF ?_) ?_ ?_ <;> simp [zO,LF,Az,MS,show kA (at' W 0) 0=0 from rfl,Av,Ai])
 intro i hi
 by_cases hlt:i < 12
 ·have ii:((12:Int) < ((i+1:Nat):Int))=False:=eq_false (by omega)
  have ij:(12 < i+1)=False:=eq_false (by omega)
  have kk:Ad .i64 (((i+1:Nat):Int)+1)=((i+1+1:Nat):Int):=Ae (n:=4294967281) (by omega) (by omega)
  have hst:=oh (w:=at' W 0) (i:=i)
  by_cases hq:at' W 0=Ca ((i+1:Nat):Int)
  ·rw [if_pos hq] at hst
   have hq':=eq_true hq
   refine CW.vc LW [0,2,3,4,5,6,7,8,9,10,11,12,15,21,29,35,47,54,58,74,86,110,129,149] (by kernel_rfl) ?_
   (repeat ((try refine Vc.mk' ?_);simp (maxSteps:=6000000) only [go_sem,qh,zO,LF,Az,MS,r9,ED,ix0,ld0,ii,kk,decide_false,Bool.not_false,hq',Ay,decide_true]))
   refine .mk (i+1) hlt (by omega) ((by refine Al.mk' [top,top+1,top+2] hcl (by simp) (by simp) rfl (AF ?_) ?_ ?_ <;> simp [zO,LF,Az,MS,hst,show ((i:Int)+1+1)=(i:Int)+2 from by omega,Av,Ai]))
  ·rw [if_neg hq] at hst
   have hq':=eq_false hq
   refine CW.vc LW [0,2,3,4,5,6,7,8,9,10,11,12,15,21,29,35,47,54,58,74,86,110,129,149] (by kernel_rfl) ?_
   (repeat ((try refine Vc.mk' ?_);simp (maxSteps:=6000000) only [go_sem,qh,zO,LF,Az,MS,r9,ED,ix0,ld0,ii,kk,decide_false,Bool.not_false,hq',Ay,decide_false]))
   refine .mk (i+1) hlt (by omega) ((by refine Al.mk' [top,top+1,top+2] hcl (by simp) (by simp) rfl (AF ?_) ?_ ?_ <;> simp [zO,LF,Az,MS,hst,show ((i:Int)+1+1)=(i:Int)+2 from by omega,Av,Ai]))
 have hi2:i=12:=by omega
 subst hi2
 refine CW.vc LW [0,2,3,4,5,6,7,8,9,10,11,12,15,21,29,35,47,54,58,74,86,110,129,149] (by kernel_rfl) ?_
 (repeat ((try refine Vc.mk' ?_);simp (maxSteps:=6000000) only [go_sem,qh,zO,LF,Az,MS,show ((12:Int) < ((13:Nat):Int))=True from by decide,decide_true,Bool.not_true]))
 obtain ⟨NS,hNS⟩:∃NS,NS=(W.drop 1).map R7:=⟨_,rfl⟩
 have hNl:NS.length=W.length - 1:=by rw [hNS,List.length_map,List.length_drop]
 have hNa:∀i,i+1 < W.length→at' NS i=R7 (at' W (i+1)):=fun i hi=>by
  rw [BS _ _ (by omega),BS _ _ hi]
  subst hNS
  simp []
 refine CW.Bc (fO hp top s W NS) (fun i=>i+1≤W.length) (fun i=>W.length - i) 0 hW1 ?_ ?_
 ·exact (by refine Al.mk' [top,top+1,top+2,top+3] hcl (by simp) (by simp) rfl (AF ?_) ?_ ?_ <;> simp [zO,LF,Az,MS,List.take_zero,DD,Dp,Av,Ai])
 intro i hi
 by_cases hlt:i+1 < W.length
 ·have ii:(((i+1:Nat):Int) < (W.length:Int))=True:=eq_true (by omega)
  have kk:Ad .i64 (((i+1:Nat):Int)+1)=((i+1+1:Nat):Int):=Ae (n:=4294967281) (by omega) (by omega)
  have wl:((at' W (i+1)).length≤100000000)=True:=eq_true (by have:=YN (ws:=W) (j:=i+1) hWm;omega)
  have htk:NS.take (i+1)=NS.take i ++ [R7 (at' W (i+1))]:=by rw [Bj (by omega),hNa i hlt]
  have ix1:=fun (b:Nat)=>ixj (b:=b) hlt
  have ld1:∀ {h':Hp} {b:Nat},h' b=AD AB W→BN tt.get h' 9 (Ah (AA b W) ((i+1) * 1))=(.string ⟨⟨at' W (i+1)⟩⟩,True):=fun e=>ldj e hlt
  have hap:∀ {h':Hp} {q t:Nat},h' (top+3)=AD AL (NS.take i)→h' q=some (.cells true 1 [.int .i64 (R7 (at' W (i+1)))])→AK tt.get h' t [68,68] (AA (top+3) (NS.take i)) (.slice (some ⟨q,0,none⟩) 1 1)=some (AA t (NS.take (i+1)),Bu (top+3) (NS.take i) t (AD AL (NS.take (i+1))),t+1):=fun {h'} {q} {t} a1 a2=>by
   have e3:cellsOf (h' q)=AL.enc (R7 (at' W (i+1))):=by rw [a2];rfl
   have:=IA (hp:=h') (b:=top+3) (top:=t) (k:=q) a1 (by rw [e3];exact a2) (by rw [e3,AL.h]) (CO (by rw [List.length_take];omega) (by decide))
   rw [e3,AL.h,←htk] at this
   exact this
  by_cases v:at' W (i+1)= []∨20 < (at' W (i+1)).length
  ·obtain ⟨v1,v2⟩:=tD v
   rw [v2] at hap
   refine CW.vc LW [0,2,3,4,5,6,7,8,9,10,11,12,15,21,29,35,47,54,58,74,86,110,129,149] (by kernel_rfl) ?_
   (repeat ((try refine Vc.mk' ?_);simp (maxSteps:=6000000) only [go_sem,fO,zO,LF,Az,MS,fp,Mj,AH,CN,ix1,ld1,ii,wl,v1,kk,hap,decide_true]))
   refine .mk (i+1) hlt (by omega) ((by refine Al.mk' [top,top+1,top+2,top+5] hcl (by simp) (by simp) rfl (AF ?_) ?_ ?_ <;> simp [zO,LF,Az,MS,show ((i:Int)+1+1)=(i:Int)+2 from by omega,Av,Ai]))
  ·by_cases v3:Lib.itoa (EL (at' W (i+1)))=at' W (i+1)
   ·obtain ⟨v1,v2⟩:=ABp v v3
    rw [v2] at hap
    refine CW.vc LW [0,2,3,4,5,6,7,8,9,10,11,12,15,21,29,35,47,54,58,74,86,110,129,149] (by kernel_rfl) ?_
    (repeat ((try refine Vc.mk' ?_);simp (maxSteps:=6000000) only [go_sem,fO,zO,LF,Az,MS,fp,Mj,AH,CN,ix1,ld1,ii,wl,v1,kk,hap,decide_true]))
    refine .mk (i+1) hlt (by omega) ((by refine Al.mk' [top,top+1,top+2,top+5] hcl (by simp) (by simp) rfl (AF ?_) ?_ ?_ <;> simp [zO,LF,Az,MS,show ((i:Int)+1+1)=(i:Int)+2 from by omega,Av,Ai]))
   ·obtain ⟨v1,v2⟩:=ABq v v3
    rw [v2] at hap
    refine CW.vc LW [0,2,3,4,5,6,7,8,9,10,11,12,15,21,29,35,47,54,58,74,86,110,129,149] (by kernel_rfl) ?_
    (repeat ((try refine Vc.mk' ?_);simp (maxSteps:=6000000) only [go_sem,fO,zO,LF,Az,MS,fp,Mj,AH,CN,ix1,ld1,ii,wl,v1,kk,hap,decide_true]))
    refine .mk (i+1) hlt (by omega) ((by refine Al.mk' [top,top+1,top+2,top+5] hcl (by simp) (by simp) rfl (AF ?_) ?_ ?_ <;> simp [zO,LF,Az,MS,show ((i:Int)+1+1)=(i:Int)+2 from by omega,Av,Ai]))
 have hNt:NS.take i=NS:=List.take_of_length_le (by omega)
 have hi2:((i+1:Nat):Int)=(W.length:Int):=by omega
 have ii:(((i+1:Nat):Int) < (W.length:Int))=False:=eq_false (by omega)
 have hd:(W.drop 1= [])=(NS= []):=propext ⟨fun h=>by rw [hNS,h];rfl,fun h=>List.eq_nil_of_length_eq_zero (by rw [List.length_drop,←hNl,h];rfl)⟩
 refine CW.vc LW [0,2,3,4,5,6,7,8,9,10,11,12,15,21,29,35,47,54,58,74,86,110,129,149] (by kernel_rfl) ?_
 by_cases hN:NS= []
 ·have e2:ML s= .tuple ⟨[.agg ⟨Aw.enc LF⟩, .bool false]⟩:=by unfold ML;rw [hRef,if_pos (by rw [hd];exact hN)]
  rw [e2]
  (repeat ((try refine Vc.mk' ?_);simp (maxSteps:=6000000) only [go_sem,fO,hN,DD,zO,LF,Az,MS,CN,ii,AB4,show (((0:Nat):Int)=0)=True from by decide,decide_false,decide_true]))
 have hN1:1≤NS.length:=List.length_pos_iff.2 hN
 rw [if_neg (by rw [hd];exact hN)] at hRef
 have hN0:((NS.length:Int)=0)=False:=eq_false (by omega)
 have hNs:∀ {h':Hp} {b:Nat},h' b=AD AL NS→BF AL h' (AA b NS) NS:=fun e=>BF.DK e (by omega)
 have ixn:∀ {b j:Nat},j < NS.length→AZ tt.get 68 (AA b NS) (.int .i64 (j:Int))=(Ah (AA b NS) (j * 1),True):=fun {b} {j} hj=>by
  have h0:BF AL (fun i=>if i=b then AD AL NS else none) (AA b NS) NS:=hNs (by simp)
  have:=Ct h0 (k:= .i64) (n:=(j:Int)) (by omega) (by omega)
  simpa using this
 have ldn:∀ {h':Hp} {b j:Nat},h' b=AD AL NS→j < NS.length→BN tt.get h' 3 (Ah (AA b NS) (j * 1))=(.int .i64 (at' NS j),True):=fun e hj=>Dh (hNs e) hj
 have in0:∀ {b:Nat},AZ tt.get 68 (AA b NS) (.int .i64 0)=(Ah (AA b NS) 0,True):=fun {b}=>ixn (b:=b) (j:=0) (by omega)
 have ln0:∀ {h':Hp} {b:Nat},h' b=AD AL NS→BN tt.get h' 3 (Ah (AA b NS) 0)=(.int .i64 (at' NS 0),True):=fun e=>ldn (j:=0) e (by omega)
 have in1:∀ {b:Nat},1 < NS.length→AZ tt.get 68 (AA b NS) (.int .i64 1)=(Ah (AA b NS) 1,True):=fun {b} h=>ixn (b:=b) (j:=1) h
 have ln1:∀ {h':Hp} {b:Nat},1 < NS.length→h' b=AD AL NS→BN tt.get h' 3 (Ah (AA b NS) 1)=(.int .i64 (at' NS 1),True):=fun h e=>ldn (j:=1) e h
 have in2:∀ {b:Nat},2 < NS.length→AZ tt.get 68 (AA b NS) (.int .i64 2)=(Ah (AA b NS) 2,True):=fun {b} h=>ixn (b:=b) (j:=2) h
 have ln2:∀ {h':Hp} {b:Nat},2 < NS.length→h' b=AD AL NS→BN tt.get h' 3 (Ah (AA b NS) 2)=(.int .i64 (at' NS 2),True):=fun h e=>ldn (j:=2) e h
 have ix3:∀ {b:Nat},3 < W.length→AZ tt.get 67 (AA b W) (.int .i64 3)=(Ah (AA b W) 3,True):=fun {b} h=>ixj (b:=b) (j:=3) h
 have ld3:∀ {h':Hp} {b:Nat},3 < W.length→h' b=AD AB W→BN tt.get h' 9 (Ah (AA b W) 3)=(.string ⟨⟨at' W 3⟩⟩,True):=fun h e=>ldj (j:=3) e h
 have hw3:((at' W 3).length≤2000)=True:=eq_true (by have:=YN (ws:=W) (j:=3) hWm;omega)
 have hR:=WC (ws:=W) (fun w hw=>by have:=hWm w hw;omega)
 have hcand:Jq W=LN (kA (at' W 0) 12) NS (Jp W (kA (at' W 0) 12)):=by unfold Jq;rw [←hNS]
 have hk:=kcl (w:=at' W 0)
 dsimp only at hk
 rw [hcand] at hR hRef
 clear hcand
 (repeat ((try refine Vc.mk' ?_);simp (maxSteps:=6000000) only [go_sem,fO,hNt,zO,LF,Az,MS,CN,Hc,ii,hN0,decide_false]))
 generalize kA (at' W 0) 12=K at hR hRef hk ⊢
 obtain ⟨o,ho⟩:∃o,o=LN K NS (Jp W K):=⟨_,rfl⟩
 rw [←ho] at hR hRef
 obtain ⟨t,e,b,f1,hb,fA,fN⟩:∃t e b,mx o= .tuple ⟨[.string ⟨⟨t⟩⟩, .int .i64 e]⟩∧(!decide (e=0) || !decide (t=s))=b∧(b=false→ML s= .tuple ⟨[.agg ⟨Aw.enc o⟩, .bool true]⟩)∧(b=true→ML s= .tuple ⟨[.agg ⟨Aw.enc LF⟩, .bool false]⟩):=by
  cases hq:Ik o with
  |none=>
   rw [hq] at hRef
   exact ⟨[],2,true,W0 hq,rfl,fun h=>by (cases h),fun _=>by unfold ML;rw [hRef];rfl⟩
  |some t=>
   rw [hq] at hRef
   by_cases ht:t=s
   ·rw [if_pos (by rw [ht])] at hRef
    exact ⟨t,0,false,W1 hq,by simp [ht],fun _=>by unfold ML;rw [hRef],fun h=>by (cases h)⟩
   ·rw [if_neg (fun h=>ht (Option.some.inj h))] at hRef
    exact ⟨t,0,true,W1 hq,by simp [ht],fun h=>by (cases h),fun _=>by unfold ML;rw [hRef]⟩
 clear hRef
 have hlen:((1 < NS.length)=True∧(2 < NS.length)=True∧(3 < W.length)=True∧((1:Int) < (NS.length:Int))=True∧((2:Int) < (NS.length:Int))=True∧((3:Int) < (W.length:Int))=True)∨((1 < NS.length)=True∧(2 < NS.length)=False∧(3 < W.length)=False∧((1:Int) < (NS.length:Int))=True∧((2:Int) < (NS.length:Int))=False∧((3:Int) < (W.length:Int))=False)∨((1 < NS.length)=False∧(2 < NS.length)=False∧(3 < W.length)=False∧((1:Int) < (NS.length:Int))=False∧((2:Int) < (NS.length:Int))=False∧((3:Int) < (W.length:Int))=False):=by
  by_cases l1:1 < NS.length
  ·by_cases l2:2 < NS.length
   ·exact .inl ⟨eq_true l1,eq_true l2,eq_true (by omega),eq_true (by omega),eq_true (by omega),eq_true (by omega)⟩
   ·exact .inr (.inl ⟨eq_true l1,eq_false l2,eq_false (by omega),eq_true (by omega),eq_false (by omega),eq_false (by omega)⟩)
  ·exact .inr (.inr ⟨eq_false l1,eq_false (by omega),eq_false (by omega),eq_false (by omega),eq_false (by omega),eq_false (by omega)⟩)
 have hk:(Gm K=false∧HK K=false∧HJ K=true∧(K=8)=True∧(K=9)=False)∨(Gm K=false∧HK K=true∧HJ K=false∧(K=8)=False∧(K=9)=True)∨(Gm K=true∧HK K=false∧HJ K=false∧(K=8)=False∧(K=9)=False)∨(Gm K=false∧HK K=true∧HJ K=false∧(K=8)=False∧(K=9)=False)∨(Gm K=false∧HK K=false∧HJ K=true∧(K=8)=False∧(K=9)=False)∨(Gm K=false∧HK K=false∧HJ K=false∧(K=8)=False∧(K=9)=False):=by
  rcases hk with ⟨a,b,c,d,e⟩ | ⟨a,b,c,d,e⟩ | ⟨a,b,c,d,e⟩ | ⟨a,b,c,d,e⟩ | ⟨a,b,c,d,e⟩ | ⟨a,b,c,d,e⟩ <;> first | exact .inl ⟨a,b,c,eq_true d,eq_false e⟩ | exact .inr (.inl ⟨a,b,c,eq_false d,eq_true e⟩) | exact .inr (.inr (.inl ⟨a,b,c,eq_false d,eq_false e⟩)) | exact .inr (.inr (.inr (.inl ⟨a,b,c,eq_false d,eq_false e⟩))) | exact .inr (.inr (.inr (.inr (.inl ⟨a,b,c,eq_false d,eq_false e⟩)))) | exact .inr (.inr (.inr (.inr (.inr ⟨a,b,c,eq_false d,eq_false e⟩))))
 have hn2:((0≤at' NS 2)=True∧(at' NS 2 < 4294967296)=True∧(at' NS 2 < 0)=False∧Ad .u32 (at' NS 2)=at' NS 2)∨((0≤at' NS 2)=True∧(at' NS 2 < 4294967296)=False∧(at' NS 2 < 0)=False∧(at' NS 2 < 0)=False)∨((0≤at' NS 2)=False∧(at' NS 2 < 0)=True∧(at' NS 2 < 0)=True∧(at' NS 2 < 0)=True):=by
  by_cases q0:0≤at' NS 2
  ·by_cases q1:at' NS 2 < 4294967296
   ·exact .inl ⟨eq_true q0,eq_true q1,eq_false (by omega),ACa (by simp [GC];omega)⟩
   ·exact .inr (.inl ⟨eq_true q0,eq_false q1,eq_false (by omega),eq_false (by omega)⟩)
  ·exact .inr (.inr ⟨eq_false q0,eq_true (by omega),eq_true (by omega),eq_true (by omega)⟩)
 have hw9:((at' W 3= [45])=True)∨((at' W 3= [45])=False):=by
  by_cases q:at' W 3= [45]
  ·exact .inl (eq_true q)
  ·exact .inr (eq_false q)
 rcases hk with ⟨hT,hP,hG,b8,b9⟩ | ⟨hT,hP,hG,b8,b9⟩ | hk
 ·rcases hlen with ⟨l1,l2,l3,m1',m2',m3'⟩ | hlen
  ·rcases hn2 with ⟨q0,q1,q2,w2⟩ | ⟨q0,q1,q2,w2⟩ | ⟨q0,q1,q2,w2⟩
   all_goals (
    simp only [LN,Jp,hT,hP,hG,b8,b9,l1,l2,l3,q0,q1,if_true,if_false,Bool.false_eq_true,and_true,and_false,false_and,ne_eq] at ho
    subst ho
    have hI:=Ut hR
    simp only [Az] at hI fA
    (repeat ((try refine Vc.mk' ?_);simp (maxSteps:=6000000) only [go_sem,Vp,Vo,Vm,Vn,Hn,Js,RJ,CN,Hc,in0,ln0,in1,ln1,in2,ln2,ix3,ld3,AH,Ay,hT,hP,hG,b8,b9,l1,l2,l3,m1',m2',m3',f1,if_true,Bool.false_eq_true,and_true,true_and,not_false_eq_true,decide_true,decide_false,q1,q2,w2,hI]))
    cases b
    ·rw [fA rfl];(repeat ((try refine Vc.mk' ?_);simp (maxSteps:=6000000) only [go_sem,hb]))
    ·rw [fN rfl];(repeat ((try refine Vc.mk' ?_);simp (maxSteps:=6000000) only [go_sem,hb,Az,LF])))
  ·rcases hlen with ⟨l1,l2,l3,m1',m2',m3'⟩ | ⟨l1,l2,l3,m1',m2',m3'⟩ <;> (
    simp only [LN,Jp,hT,hP,hG,b8,b9,l1,l2,l3,if_true,if_false,Bool.false_eq_true,and_true,true_and,and_false,false_and,ne_eq] at ho
    subst ho
    have hI:=Ut hR
    simp only [Az] at hI fA
    (repeat ((try refine Vc.mk' ?_);simp (maxSteps:=6000000) only [go_sem,Vp,Vo,Vm,Vn,Hn,Js,RJ,CN,Hc,in0,ln0,in1,ln1,AH,Ay,hT,hP,hG,b8,b9,l1,m1',m2',m3',f1,if_true,Bool.false_eq_true,and_true,true_and,and_false,false_and,not_false_eq_true,decide_true,decide_false,hI]))
    cases b
    ·rw [fA rfl];(repeat ((try refine Vc.mk' ?_);simp (maxSteps:=6000000) only [go_sem,hb]))
    ·rw [fN rfl];(repeat ((try refine Vc.mk' ?_);simp (maxSteps:=6000000) only [go_sem,hb,Az,LF])))
 ·rcases hlen with ⟨l1,l2,l3,m1',m2',m3'⟩ | hlen
  ·rcases hw9 with q0 | q0 <;> (
    simp only [LN,Jp,hT,hP,hG,b8,b9,l1,l2,l3,q0,if_true,if_false,Bool.false_eq_true,and_true,and_false,false_and,not_true,not_false_eq_true,ne_eq] at ho
    subst ho
    have hI:=Ut hR
    simp only [Az] at hI fA
    (repeat ((try refine Vc.mk' ?_);simp (maxSteps:=6000000) only [go_sem,Vp,Vo,Vm,y7,Vn,Hn,UN,Js,RJ,CN,Hc,in0,ln0,in1,ln1,in2,ln2,ix3,ld3,hw3,AH,Ay,Ic,hT,hP,hG,b8,b9,l1,l2,l3,m1',m2',m3',f1,if_true,Bool.false_eq_true,and_true,true_and,not_false_eq_true,decide_true,decide_false,q0,hI]))
    cases b
    ·rw [fA rfl];(repeat ((try refine Vc.mk' ?_);simp (maxSteps:=6000000) only [go_sem,hb]))
    ·rw [fN rfl];(repeat ((try refine Vc.mk' ?_);simp (maxSteps:=6000000) only [go_sem,hb,Az,LF])))
  ·rcases hlen with ⟨l1,l2,l3,m1',m2',m3'⟩ | ⟨l1,l2,l3,m1',m2',m3'⟩ <;> (
    simp only [LN,Jp,hT,hP,hG,b8,b9,l1,l2,l3,if_true,if_false,Bool.false_eq_true,and_true,true_and,and_false,false_and,ne_eq] at ho
    subst ho
    have hI:=Ut hR
    simp only [Az] at hI fA
    (repeat ((try refine Vc.mk' ?_);simp (maxSteps:=6000000) only [go_sem,Vp,Vo,Vm,Vn,Hn,Js,RJ,CN,Hc,in0,ln0,in1,ln1,AH,Ay,hT,hP,hG,b8,b9,l1,m1',m2',m3',f1,if_true,Bool.false_eq_true,and_true,true_and,and_false,false_and,not_false_eq_true,decide_true,decide_false,hI]))
    cases b
    ·rw [fA rfl];(repeat ((try refine Vc.mk' ?_);simp (maxSteps:=6000000) only [go_sem,hb]))
    ·rw [fN rfl];(repeat ((try refine Vc.mk' ?_);simp (maxSteps:=6000000) only [go_sem,hb,Az,LF])))
 ·rcases hk with ⟨hT,hP,hG,b8,b9⟩ | ⟨hT,hP,hG,b8,b9⟩ | ⟨hT,hP,hG,b8,b9⟩ | ⟨hT,hP,hG,b8,b9⟩ <;> rcases hlen with ⟨l1,l2,l3,m1',m2',m3'⟩ | ⟨l1,l2,l3,m1',m2',m3'⟩ | ⟨l1,l2,l3,m1',m2',m3'⟩ <;> (
   simp only [LN,Jp,hT,hP,hG,b8,b9,l1,l2,l3,if_true,if_false,Bool.false_eq_true,and_true,and_false,false_and,ne_eq] at ho
   subst ho
   have hI:=Ut hR
   simp only [Az] at hI fA
   (repeat ((try refine Vc.mk' ?_);simp (maxSteps:=6000000) only [go_sem,Vp,Vo,Vm,Vn,Hn,Js,RJ,CN,Hc,in0,ln0,in1,ln1,in2,ln2,ix3,ld3,AH,Ay,hT,hP,hG,b8,b9,l1,l2,l3,m1',m2',m3',f1,if_true,Bool.false_eq_true,and_true,true_and,and_false,false_and,not_false_eq_true,decide_true,decide_false,hI]))
   cases b
   ·rw [fA rfl];(repeat ((try refine Vc.mk' ?_);simp (maxSteps:=6000000) only [go_sem,hb]))
   ·rw [fN rfl];(repeat ((try refine Vc.mk' ?_);simp (maxSteps:=6000000) only [go_sem,hb,Az,LF])))
end Go.Proofs.YthlhnangbinhoaaGreatDoor.Dm
set_option linter.unusedVariables false
namespace Go.Proofs.YthlhnangbinhoaaGreatDoor.Dm
open Go.Dm
set_option maxHeartbeats 16000000
set_option maxRecDepth 20000
noncomputable def GR8:FuncId→BE:=BV mg 22 UL
theorem iH:Bp Tryz.prog tt.get GR8:=LW.add vt
theorem y9:GR8 17=Zu:=rfl
theorem zA:GR8 20=Zx:=rfl
def YG (hp:Hp)(v:Value)(c n:Int):Prop:=(c=0∧v= .nilIface)∨(c≠0∧∃e,v= .iface 51 (.pointer (some ⟨e,0,none⟩))∧hp e=N8 c n)
def Jr:BE:= .pure (fun args hp=>match args with | [v, .agg ⟨[.int .i64 c, .int .i64 n]⟩]=>YG hp v c n∧hp 7=oX | _=>False) (fun _ _=> .bool true)
theorem uj {c n:Int}:(∃m,some (A8.cells true 0 [.int .i64 c, .int .i64 n])=N8 c m)=True:=eq_true ⟨n,rfl⟩
theorem AEL {z:Nat}{x:Value}:(∃v,some (A8.cells true z [x])=some (A8.cells true z [v]))=True:=eq_true ⟨_,rfl⟩
theorem AAf {a:Option Addr}:Hl tt.get 53 (.pointer a)=some (.iface 53 (.pointer a)):=by simp [Hl,SX,l9]
theorem iW:Ag Tryz.prog 19 Jr:=by
 refine .EK Ug ?_ ?_
 ·intro args hp h
  match args,h with
  | [v, .agg ⟨[.int .i64 c, .int .i64 n]⟩],_=>rfl
 intro args hp hpre top hcl hsc
 match args,hpre with
 | [v, .agg ⟨[.int .i64 c, .int .i64 n]⟩],⟨hv,h7⟩=>
 have h70:=hcl.lt _ _ h7
 rcases hv with ⟨rfl,rfl⟩ | ⟨hc,e,rfl,he⟩
 ·refine AJ.Af Am Ug rfl 47 rfl [.tmp 4] rfl (show 2≤47 by decide) ?_
  refine CW.vc iH [0,1,3,4,5,8] (by kernel_rfl) ?_
  (repeat ((try refine Vc.mk' ?_);simp (maxSteps:=6000000) only [go_sem,aA]))
 ·have he0:=hcl.lt _ _ he
  unfold N8 at he
  refine AJ.Af Am Ug rfl 47 rfl [.tmp 4] rfl (show 2≤47 by decide) ?_
  refine CW.vc iH [0,1,3,4,5,8] (by kernel_rfl) ?_
  (repeat ((try refine Vc.mk' ?_);simp (maxSteps:=6000000) only [go_sem,y9,Zu,zA,Zx,jk,he,h7,Bw he0,Bw h70,AAf,jE,AEL,uj,hc,decide_true,decide_false]))
noncomputable def GR9:FuncId→BE:=BV GR8 19 Jr
theorem JW:Bp Tryz.prog tt.get GR9:=iH.add iW
end Go.Proofs.YthlhnangbinhoaaGreatDoor.Dm
