/- An op's bytes as a word, and back; the next word. -/
import Derived.Test.YthlhnangbinhoaaGreatDoorSE
set_option linter.unusedSimpArgs false
set_option linter.unusedVariables false
namespace Go.Proofs.YthlhnangbinhoaaGreatDoor.Dm
open Go.Dm
set_option maxHeartbeats 16000000
set_option maxRecDepth 20000
def zD:FuncId→Bz:=Cx GS7 96 PB
theorem NU:DU Tryz.prog tt.get zD:=RP.add xY
theorem zp:zD 81=WL:=rfl
theorem jG:zD 96=PB:=rfl
theorem YH:zD 37=Ab:=rfl
def YW (b:List UInt8):List UInt8:=if b= [] then [45] else Dy b
def aY:Bz:= .pure (fun args _=>match args with | [.string ⟨⟨b⟩⟩]=>b.length≤512 | _=>False) (fun args _=>match args with | [b]=> .string ⟨⟨YW (strOf b)⟩⟩ | _=>undef)
theorem AA9:BR Tryz.prog 43 aY:=by
 refine .LN WD ?_ ?_
 ·intro args hp h
  match args,h with
  | [.string ⟨⟨s⟩⟩],_=>rfl
 intro args hp hpre top hcl hsc
 match args,hpre with
 | [.string ⟨⟨b⟩⟩],hb=>
 have hb':b.length≤512:=hb
 simp only [AU]
 refine Ae.Bn Bu WD rfl 7 rfl [.tmp 2] rfl (show 1≤7 by decide) ?_
 by_cases c:b= []
 ·subst c
  refine CW.vc NU [0,2,4] (by kernel_rfl) ?_
  (repeat ((try refine Vc.mk' ?_);simp (maxSteps:=6000000) only [go_sem,Ah,decide_true]))
  rfl
 ·have e:YW b=Dy b:=if_neg c
  rw [e]
  refine CW.vc NU [0,2,4] (by kernel_rfl) ?_
  (repeat ((try refine Vc.mk' ?_);simp (maxSteps:=6000000) only [go_sem,Ah,c,decide_false,zp,WL,hb']))
def SD (s:List UInt8):Option (List UInt8):=if s= [45] then some [] else match Oo s with
 |some (a :: l)=>some (a :: l)
 |_=>none
def QA (s:List UInt8)(top:Nat):(Value×BV×Nat) ⊕ (Value×BV×Nat):=match SD s with
 |some b=> .inl (.string ⟨⟨b⟩⟩, [],top)
 |none=> .inr (Fp 12, [],top)
def X6:Bz:= .pan (fun args _ _=>match args with | [.string ⟨⟨s⟩⟩]=>s.length < 4294967281 | _=>False) (fun args _ top=>match args with | [s]=>QA (strOf s) top | _=> .inr (undef, [],top))
theorem fp:BR Tryz.prog 77 X6:=by
 refine .Pr VL ?_
 intro args hp top hpre hcl hsc
 match args,hpre with
 | [.string ⟨⟨s⟩⟩],hs=>
 have hs':s.length < 4294967281:=hs
 simp only [AU]
 refine Ey.Bn Bu VL rfl 20 rfl [.tmp 2] rfl (show 1≤20 by decide) ?_
 by_cases c:s= [45]
 ·subst c
  have e:QA [45] top= .inl (.string ⟨⟨[]⟩⟩, [],top):=rfl
  rw [e]
  refine CW.vc NU [0,2,3,4,6] (by kernel_rfl) ?_
  (repeat ((try refine Vc.mk' ?_);simp (maxSteps:=6000000) only [go_sem,Ah,decide_true]))
  (refine ⟨[],by simp,by simp,by simp, ?_, ?_, ?_⟩ <;> simp [])
 ·cases hu:Oo s with
  |none=>
   have e:QA s top= .inr (Fp 12, [],top):=by unfold QA SD;rw [if_neg c,hu]
   have eV:P9 s= .tuple ⟨[.string ⟨⟨[]⟩⟩, .int .i64 4]⟩:=by simp only [P9,hu];rfl
   rw [e]
   refine CW.vc NU [0,2,3,4,6] (by kernel_rfl) ?_
   (repeat ((try refine Vc.mk' ?_);simp (maxSteps:=6000000) only [go_sem,Ah,c,decide_false,jG,PB,hs',eV,YH,Ab,BT]))
   (refine ⟨[],by simp,by simp,by simp, ?_, ?_, ?_⟩ <;> simp [])
  |some l=>
   cases l with
   |nil=>
    have e:QA s top= .inr (Fp 12, [],top):=by unfold QA SD;rw [if_neg c,hu]
    have eV:P9 s= .tuple ⟨[.string ⟨⟨[]⟩⟩, .int .i64 0]⟩:=by simp only [P9,hu];rfl
    rw [e]
    refine CW.vc NU [0,2,3,4,6] (by kernel_rfl) ?_
    (repeat ((try refine Vc.mk' ?_);simp (maxSteps:=6000000) only [go_sem,Ah,c,decide_false,decide_true,jG,PB,hs',eV,YH,Ab,BT]))
    (refine ⟨[],by simp,by simp,by simp, ?_, ?_, ?_⟩ <;> simp [])
   |cons a l=>
    have e:QA s top= .inl (.string ⟨⟨a :: l⟩⟩, [],top):=by unfold QA SD;rw [if_neg c,hu]
    have eV:P9 s= .tuple ⟨[.string ⟨⟨a :: l⟩⟩, .int .i64 0]⟩:=by simp only [P9,hu];rfl
    rw [e]
    refine CW.vc NU [0,2,3,4,6] (by kernel_rfl) ?_
    (repeat ((try refine Vc.mk' ?_);simp (maxSteps:=6000000) only [go_sem,Ah,c,decide_false,decide_true,jG,PB,hs',eV,YH,Ab,Bi,reduceCtorEq]))
    (refine ⟨[],by simp,by simp,by simp, ?_, ?_, ?_⟩ <;> simp [])
def TO (hp:Hp)(g:Nat):Value:=match hp g with
 |some (.cells _ _ [v])=>v
 |_=>undef
def Vu (hp:Hp)(g:Nat)(v:Value)(l:List (List UInt8)):Prop:=hp g=some (.cells true 0 [v])∧BJ AH hp v l
theorem Vu.v {hp:Hp}{g:Nat}{v:Value}{l:List (List UInt8)}(h:Vu hp g v l):TO hp g=v:=by unfold TO;rw [h.1]
def Fg (l:List (List UInt8))(g:Nat)(v:Value)(top:Nat):(Value×BV×Nat) ⊕ (Value×BV×Nat):=match l with
 | []=> .inr (Fp 12, [],top)
 |w :: _=> .inl (.string ⟨⟨w⟩⟩, [(g,some (.cells true 0 [G8 1 v 1]))],top)
def Cs:Bz:= .pan (fun args hp _=>match args with | [.pointer (some ⟨g,0,none⟩)]=> ∃v l,Vu hp g v l | _=>False)
 (fun args hp top=>match args with | [.pointer (some ⟨g,_,_⟩)]=>Fg (AH.rd hp (TO hp g)) g (TO hp g) top | _=> .inr (undef, [],top))
theorem Sc.G8 {n:Nat}{v:Value}{z k:Nat}{hp:Hp}{l:List (List UInt8)}(h0:BJ AH hp v l)(h:Sc n v)(hn:0 < n):Sc n (Dm.G8 z v k):=by
 cases h0 with
 |nils=>exact h
 |emp=>exact h
 |rows b o c=>
  show Sc n (if k=0∨k < c then Value.slice (some ⟨b,o+k * z,none⟩) (l.length - k) (c - k) else Value.slice (some ⟨0,0,some 0⟩) 0 0)
  split
  ·exact h
  ·trivial
theorem sS:BR Tryz.prog 74 Cs:=by
 refine .Pr Vk ?_
 intro args hp top hpre hcl hsc
 match args,hpre with
 | [.pointer (some ⟨g,0,none⟩)],⟨v,l,hR⟩=>
 have hg:=hR.1
 have h:=hR.2
 have hgt:g < top:=hcl.lt _ _ hg
 have hs:Sc top v:=(hcl.sc _ _ hg).1
 simp only [hR.v,h.rd]
 refine Ey.Bn Bu Vk rfl 13 rfl [.tmp 1] rfl (show 1≤13 by decide) ?_
 cases l with
 |nil=>
  simp only [Fg]
  refine CW.vc NU [0,1,2] (by kernel_rfl) ?_
  (repeat ((try refine Vc.mk' ?_);simp (maxSteps:=6000000) only [go_sem,hg,C4 h,CS h,Cf h,D5 h,DI h,h.P,h.oc,h.cl,h.rd,h.ref,YH,Ab,BT,List.length_nil,show decide ((0:Int) < ((0:Nat):Int))=false from rfl]))
  (refine ⟨[],by simp,by simp,by simp, ?_, ?_, ?_⟩ <;> simp [])
 |cons w l=>
  have l0:((0:Int) < ((l.length+1:Nat):Int)):=by omega
  have ld0:∀ {h':Hp},h' = hp→BA tt.get h' 9 (Ag v 0)=(.string ⟨⟨w⟩⟩,True):=fun {h'} e=>by rw [e];exact Cf h (i:=0) (by simp)
  have ld0:=ld0 rfl
  have sw0:Bv tt.get hp 67 v (some (.int .i64 1)) none=(G8 1 v 1,True):=DI h (n:=1) (by decide) (by simp only [List.length_cons];omega)
  have hd:BJ AH hp (G8 1 v 1) l:=h.drop (n:=1) (by simp)
  simp only [Fg]
  refine CW.vc NU [0,1,2] (by kernel_rfl) ?_
  (repeat ((try refine Vc.mk' ?_);simp (maxSteps:=6000000) only [go_sem,hg,C4 h,CS h,Cf h,D5 h,DI h,h.P,h.oc,h.cl,h.rd,h.ref,YH,Ab,Bi,l0,decide_true,ld0,sw0,hd.cl,hd.oc,Nat.zero_mul]))
  (refine ⟨[],by simp,by simp,by simp, ?_, ?_, ?_⟩ <;> simp [AB hgt,Sc.Av (fun j hj=>AB hj) (Sc.G8 h hs (by omega))])
end Go.Proofs.YthlhnangbinhoaaGreatDoor.Dm
