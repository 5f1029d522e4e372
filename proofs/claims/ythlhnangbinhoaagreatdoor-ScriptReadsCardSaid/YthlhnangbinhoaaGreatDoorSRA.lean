/- The document's words, kinds and digits, walked. -/
import Derived.Test.YthlhnangbinhoaaGreatDoorTFX
import Derived.Test.YthlhnangbinhoaaGreatDoorSVQ
set_option linter.unusedVariables false
namespace Go.Proofs.YthlhnangbinhoaaGreatDoor.Dm
open Go.Dm
set_option maxHeartbeats 16000000
set_option maxRecDepth 20000
theorem JJ {h':Hp}{s:List UInt8}{f i:Nat}(h1:f≤i)(h2:i≤s.length):B5 tt.get h' 9 (.string ⟨⟨s⟩⟩) (some (.int .i64 (f:Int))) (some (.int .i64 (i:Int)))=(.string ⟨⟨(s.drop f).take (i - f)⟩⟩,True):=by
 unfold B5
 simp only [F7]
 simp [Bm,Dg,strOf,R8,R3,intOf]
 omega
def Hn (p:Int→Bool):BE:= .pure (fun args _=>match args with | [x]=>GR .i64 x | _=>False) (fun args _=>match args with | [x]=> .bool (p (intOf x)) | _=>undef)
theorem kW:Ag Tryz.prog 69 (Hn fun n=>GC n 1 24):=by
 refine .mkPure Pt ?_
 intro args hp hpre top
 match args,hpre with
 | [x],hx=>
 rw [hx]
 refine AJ.Af Am Pt rfl 9 rfl [.tmp 2] rfl (show 1≤9 by decide) ?_
 refine CW.vc Ew [0,2] (by kernel_rfl) ?_
 (repeat ((try refine Vc.mk' ?_);simp (maxSteps:=6000000) only [go_sem]))
 refine D5 ?_
 simp [GC]
theorem ACI:Ag Tryz.prog 57 (Hn Gm):=by
 refine .mkPure ad ?_
 intro args hp hpre top
 match args,hpre with
 | [x],hx=>
 rw [hx]
 refine AJ.Af Am ad rfl 9 rfl [.tmp 2] rfl (show 1≤9 by decide) ?_
 refine CW.vc Ew [0,2] (by kernel_rfl) ?_
 (repeat ((try refine Vc.mk' ?_);simp (maxSteps:=6000000) only [go_sem]))
 refine D5 ?_
 simp [Gm]
theorem ABj:Ag Tryz.prog 59 (Hn HK):=by
 refine .mkPure ae ?_
 intro args hp hpre top
 match args,hpre with
 | [x],hx=>
 rw [hx]
 refine AJ.Af Am ae rfl 13 rfl [.tmp 2] rfl (show 1≤13 by decide) ?_
 refine CW.vc Ew [0,2] (by kernel_rfl) ?_
 (repeat ((try refine Vc.mk' ?_);simp (maxSteps:=6000000) only [go_sem]))
 refine D5 ?_
 simp [HK,or_assoc]
theorem AAb:Ag Tryz.prog 60 (Hn HJ):=by
 refine .mkPure af ?_
 intro args hp hpre top
 match args,hpre with
 | [x],hx=>
 rw [hx]
 refine AJ.Af Am af rfl 17 rfl [.tmp 2] rfl (show 1≤17 by decide) ?_
 refine CW.vc Ew [0,2] (by kernel_rfl) ?_
 (repeat ((try refine Vc.mk' ?_);simp (maxSteps:=6000000) only [go_sem]))
 refine D5 ?_
 simp [HJ,or_assoc]
theorem tG {hp:Hp}{a:Option Addr}{n c:Nat}:Bv tt.get hp 67 (.slice a n c)=(.int .i64 (n:Int),True):=by
 unfold Bv;simp only [Bz,DV,E7,ZX];rfl
theorem tE{v:Value}:C3 13 v= [v,v,v,v,v,v,v,v,v,v,v,v,v]:=rfl
def AA9:List Value:= [.string ⟨#[]⟩, .string ⟨#[116,105,99,107]⟩, .string ⟨#[99,117,116]⟩, .string ⟨#[109,101,110,100]⟩, .string ⟨#[99,114,97,115,104]⟩, .string ⟨#[115,116,97,114,116]⟩, .string ⟨#[106,111,105,110]⟩, .string ⟨#[108,101,97,118,101]⟩, .string ⟨#[115,101,110,100]⟩, .string ⟨#[114,97,119]⟩, .string ⟨#[115,101,116,116,108,101]⟩, .string ⟨#[119,104,111]⟩, .string ⟨#[116,97,98,108,101]⟩]
def ED:BE:= .pure (fun args _=>match args with | [x]=>GR .i64 x | _=>False) (fun args _=>match args with | [x]=> .string ⟨⟨Ca (intOf x)⟩⟩ | _=>undef)
theorem ABC:Ag Tryz.prog 56 ED:=by
 refine .EK aa ?_ ?_
 ·rintro args hp h
  match args,h with
  | [x],_=>rfl
 intro args hp hpre top hcl hsc
 match args,hpre with
 | [x],hx=>
 rw [hx]
 generalize intOf x=n
 simp only [intOf_int]
 refine AJ.Af Am aa rfl 17 rfl [.tmp 2] rfl (show 1≤17 by decide) ?_
 by_cases c:1≤n∧n≤12
 ·have e:Ca n=at' W4 n.toNat:=by unfold Ca;rw [if_pos c]
  rw [e]
  obtain ⟨k,hk,k1,k2⟩:∃k:Nat,n=(k:Int)∧1≤k∧k≤12:=⟨n.toNat,by omega,by omega,by omega⟩
  subst hk
  have hkn:k < W4.length:=by show k < 13;omega
  have ixN:∀ {t:Nat},AZ tt.get 67 (.slice (some ⟨t,0,none⟩) 13 13) (.int .i64 (k:Int))=(Ah (.slice (some ⟨t,0,none⟩) 13 13) (k * 1),True):=fun {t}=>by
   have h0:BF AB (fun j=>if j=t then AD AB W4 else none) (.slice (some ⟨t,0,none⟩) 13 13) W4:=BF.own (E:=AB) (b:=t) (l:=W4) (by simp) (by decide)
   have:=Bo h0 (k:= .i64) (n:=(k:Int)) (by omega) (by show (k:Int) < 13;omega)
   simpa using this
  have ldN:∀ {h':Hp} {t:Nat},h' t=some (.cells true 1 AA9)→BN tt.get h' 9 (Ah (.slice (some ⟨t,0,none⟩) 13 13) (k * 1))=(.string ⟨⟨at' W4 k⟩⟩,True):=fun e=>B9 (BF.own (E:=AB) (l:=W4) e (by decide)) hkn
  have c1:¬(k:Int) < 1:=by omega
  have c2:(k < 13)=True:=eq_true (by omega)
  simp only [AA9] at ldN
  refine CW.vc Ew [0,2,3,12] (by kernel_rfl) ?_
  (repeat ((try refine Vc.mk' ?_);simp (maxSteps:=6000000) only [go_sem,tE,tG,ixN,ldN,c1,c2,decide_true,Bool.not_true]))
 ·have e:Ca n= []:=by unfold Ca;rw [if_neg c]
  rw [e]
  have c1:(decide (n < 1) || !decide (n < 13))=true:=by by_cases h:n < 1 <;> simp [h];omega
  refine CW.vc Ew [0,2,3,12] (by kernel_rfl) ?_
  (repeat ((try refine Vc.mk' ?_);simp (maxSteps:=6000000) only [go_sem,tE,tG,show ((13:Nat):Int)=13 from rfl,c1]))
end Go.Proofs.YthlhnangbinhoaaGreatDoor.Dm
