/- An op's bytes as a word, and back; the next word. -/
import Derived.Test.YthlhnangbinhoaaGreatDoorSE
set_option linter.unusedVariables false
namespace Go.Proofs.YthlhnangbinhoaaGreatDoor.Dm
open Go.Dm
set_option maxHeartbeats 16000000
set_option maxRecDepth 20000
def GS8:FuncId→Bb:=Bw GS7 96 Od
theorem Np:CQ Tryz.prog tt.get GS8:=RQ.add xV
theorem AAW:GS8 81=Ti:=rfl
theorem gC:GS8 96=Od:=rfl
theorem Wb:GS8 37=Ac:=rfl
def Pg (b:List UInt8):List UInt8:=if b= [] then [45] else CY b
def bW:Bb:= .pure (fun args _=>match args with | [.string ⟨⟨b⟩⟩]=>b.length≤512 | _=>False) (fun args _=>match args with | [b]=> .string ⟨⟨Pg (strOf b)⟩⟩ | _=>undef)
theorem zj:A0 Tryz.prog 43 bW:=by
 refine .Fm VG ?_ ?_
 ·intro args hp h
  match args,h with
  | [.string ⟨⟨s⟩⟩],_=>rfl
 intro args hp hpre top hcl hsc
 match args,hpre with
 | [.string ⟨⟨b⟩⟩],hb=>
 have hb':b.length≤512:=hb
 simp only [AH]
 refine AR.A5 BA VG rfl 7 rfl [.tmp 2] rfl (show 1≤7 by decide) ?_
 by_cases c:b= []
 ·subst c
  refine CW.vc Np [0,2,4] (by kernel_rfl) ?_
  (repeat ((try refine Vc.mk' ?_);simp (maxSteps:=6000000) only [go_sem,AV,decide_true]))
  rfl
 ·have e:Pg b=CY b:=if_neg c
  rw [e]
  refine CW.vc Np [0,2,4] (by kernel_rfl) ?_
  (repeat ((try refine Vc.mk' ?_);simp (maxSteps:=6000000) only [go_sem,AV,c,decide_false,AAW,Ti,hb']))
def Nz (s:List UInt8):Option (List UInt8):=if s= [45] then some [] else match GX s with
 |some (a :: l)=>some (a :: l)
 |_=>none
def Pj (s:List UInt8)(top:Nat):(Value×BI×Nat) ⊕ (Value×BI×Nat):=match Nz s with
 |some b=> .inl (.string ⟨⟨b⟩⟩, [],top)
 |none=> .inr (En 12, [],top)
def Xm:Bb:= .pan (fun args _ _=>match args with | [.string ⟨⟨s⟩⟩]=>s.length < 4294967281 | _=>False) (fun args _ top=>match args with | [s]=>Pj (strOf s) top | _=> .inr (undef, [],top))
theorem hJ:A0 Tryz.prog 77 Xm:=by
 refine .PC VA ?_
 intro args hp top hpre hcl hsc
 match args,hpre with
 | [.string ⟨⟨s⟩⟩],hs=>
 have hs':s.length < 4294967281:=hs
 simp only [AH]
 refine EI.A5 BA VA rfl 20 rfl [.tmp 2] rfl (show 1≤20 by decide) ?_
 by_cases c:s= [45]
 ·subst c
  have e:Pj [45] top= .inl (.string ⟨⟨[]⟩⟩, [],top):=rfl
  rw [e]
  refine CW.vc Np [0,2,3,4,6] (by kernel_rfl) ?_
  (repeat ((try refine Vc.mk' ?_);simp (maxSteps:=6000000) only [go_sem,AV,decide_true]))
  (refine ⟨[],by simp,by simp,by simp, ?_, ?_, ?_⟩ <;> simp [])
 ·cases hu:GX s with
  |none=>
   have e:Pj s top= .inr (En 12, [],top):=by unfold Pj Nz;rw [if_neg c,hu]
   have eV:Gt s= .tuple ⟨[.string ⟨⟨[]⟩⟩, .int .i64 4]⟩:=by simp only [Gt,hu];rfl
   rw [e]
   refine CW.vc Np [0,2,3,4,6] (by kernel_rfl) ?_
   (repeat ((try refine Vc.mk' ?_);simp (maxSteps:=6000000) only [go_sem,AV,c,decide_false,gC,Od,hs',eV,Wb,Ac,BG]))
   (refine ⟨[],by simp,by simp,by simp, ?_, ?_, ?_⟩ <;> simp [])
  |some l=>
   cases l with
   |nil=>
    have e:Pj s top= .inr (En 12, [],top):=by unfold Pj Nz;rw [if_neg c,hu]
    have eV:Gt s= .tuple ⟨[.string ⟨⟨[]⟩⟩, .int .i64 0]⟩:=by simp only [Gt,hu];rfl
    rw [e]
    refine CW.vc Np [0,2,3,4,6] (by kernel_rfl) ?_
    (repeat ((try refine Vc.mk' ?_);simp (maxSteps:=6000000) only [go_sem,AV,c,decide_false,decide_true,gC,Od,hs',eV,Wb,Ac,BG]))
    (refine ⟨[],by simp,by simp,by simp, ?_, ?_, ?_⟩ <;> simp [])
   |cons a l=>
    have e:Pj s top= .inl (.string ⟨⟨a :: l⟩⟩, [],top):=by unfold Pj Nz;rw [if_neg c,hu]
    have eV:Gt s= .tuple ⟨[.string ⟨⟨a :: l⟩⟩, .int .i64 0]⟩:=by simp only [Gt,hu];rfl
    rw [e]
    refine CW.vc Np [0,2,3,4,6] (by kernel_rfl) ?_
    (repeat ((try refine Vc.mk' ?_);simp (maxSteps:=6000000) only [go_sem,AV,c,decide_false,decide_true,gC,Od,hs',eV,Wb,Ac,BU,reduceCtorEq]))
    (refine ⟨[],by simp,by simp,by simp, ?_, ?_, ?_⟩ <;> simp [])
def Sq (hp:Hp)(g:Nat):Value:=match hp g with
 |some (.cells _ _ [v])=>v
 |_=>undef
def Ue (hp:Hp)(g:Nat)(v:Value)(l:List (List UInt8)):Prop:=hp g=some (.cells true 0 [v])∧BP AE hp v l
theorem Ue.v {hp:Hp}{g:Nat}{v:Value}{l:List (List UInt8)}(h:Ue hp g v l):Sq hp g=v:=by unfold Sq;rw [h.1]
def Ej (l:List (List UInt8))(g:Nat)(v:Value)(top:Nat):(Value×BI×Nat) ⊕ (Value×BI×Nat):=match l with
 | []=> .inr (En 12, [],top)
 |w :: _=> .inl (.string ⟨⟨w⟩⟩, [(g,some (.cells true 0 [Fy 1 v 1]))],top)
def CX:Bb:= .pan (fun args hp _=>match args with | [.pointer (some ⟨g,0,none⟩)]=> ∃v l,Ue hp g v l | _=>False)
 (fun args hp top=>match args with | [.pointer (some ⟨g,_,_⟩)]=>Ej (AE.rd hp (Sq hp g)) g (Sq hp g) top | _=> .inr (undef, [],top))
theorem Sc.Fy {n:Nat}{v:Value}{z k:Nat}{hp:Hp}{l:List (List UInt8)}(h0:BP AE hp v l)(h:Sc n v)(hn:0 < n):Sc n (Dm.Fy z v k):=by
 cases h0 with
 |nils=>exact h
 |emp=>exact h
 |rows b o c=>
  show Sc n (if k=0∨k < c then Value.slice (some ⟨b,o+k * z,none⟩) (l.length - k) (c - k) else Value.slice (some ⟨0,0,some 0⟩) 0 0)
  split
  ·exact h
  ·trivial
theorem sG:A0 Tryz.prog 74 CX:=by
 refine .PC Tz ?_
 intro args hp top hpre hcl hsc
 match args,hpre with
 | [.pointer (some ⟨g,0,none⟩)],⟨v,l,hR⟩=>
 have hg:=hR.1
 have h:=hR.2
 have hgt:g < top:=hcl.lt _ _ hg
 have hs:Sc top v:=(hcl.sc _ _ hg).1
 simp only [hR.v,h.rd]
 refine EI.A5 BA Tz rfl 13 rfl [.tmp 1] rfl (show 1≤13 by decide) ?_
 cases l with
 |nil=>
  simp only [Ej]
  refine CW.vc Np [0,1,2] (by kernel_rfl) ?_
  (repeat ((try refine Vc.mk' ?_);simp (maxSteps:=6000000) only [go_sem,hg,FA h,Wb,Ac,BG,List.length_nil,show decide ((0:Int) < ((0:Nat):Int))=false from rfl]))
  (refine ⟨[],by simp,by simp,by simp, ?_, ?_, ?_⟩ <;> simp [])
 |cons w l=>
  have l0:((0:Int) < ((l.length+1:Nat):Int)):=by omega
  have ld0:∀ {h':Hp},h' = hp→A4 tt.get h' 9 (Ag v 0)=(.string ⟨⟨w⟩⟩,True):=fun {h'} e=>by rw [e];exact Dw h (i:=0) (by simp)
  have ld0:=ld0 rfl
  have sw0:Bv tt.get hp 67 v (some (.int .i64 1)) none=(Fy 1 v 1,True):=MC h (n:=1) (by decide) (by simp only [List.length_cons];omega)
  have hd:BP AE hp (Fy 1 v 1) l:=h.drop (n:=1) (by simp)
  simp only [Ej]
  refine CW.vc Np [0,1,2] (by kernel_rfl) ?_
  (repeat ((try refine Vc.mk' ?_);simp (maxSteps:=6000000) only [go_sem,hg,FA h,DM h,Wb,Ac,BU,l0,decide_true,ld0,sw0,hd.cl,hd.oc,Nat.zero_mul]))
  (refine ⟨[],by simp,by simp,by simp, ?_, ?_, ?_⟩ <;> simp [AB hgt,Sc.Az (fun j hj=>AB hj) (Sc.Fy h hs (by omega))])
end Go.Proofs.YthlhnangbinhoaaGreatDoor.Dm
