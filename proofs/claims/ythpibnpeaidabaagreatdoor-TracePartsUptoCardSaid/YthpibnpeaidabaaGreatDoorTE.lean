/- read, Event: what they compute. -/
import Derived.Test.YthpibnpeaidabaaGreatDoorTC
set_option linter.unusedVariables false
namespace Go.Proofs.YthpibnpeaidabaaGreatDoor.Dm
open Go.Dm
set_option maxHeartbeats 16000000
set_option maxRecDepth 20000
theorem NS {M:Nat}:∀ {l:List UInt8} {acc u:Nat},acc≤M→Lib.parseUintM M acc l= .ok u→u≤M
 | [],acc,u,h,e=>by
  unfold Lib.parseUintM at e
  cases e;exact h
 |c :: r,acc,u,h,e=>by
  unfold Lib.parseUintM at e
  split at e
  ·split at e
   ·cases e
   ·split at e
    ·cases e
    ·exact NS (by omega) e
  ·cases e
theorem JU (s:List UInt8)(B:Nat):Hi s B≤2 ^ B - 1:=by
 unfold Hi
 split
 ·rename_i u h
  unfold Lib.parseUintB at h
  split at h
  ·cases h
  ·exact NS (Nat.zero_le _) h
 ·exact Nat.zero_le _
 ·exact Nat.le_refl _
theorem ff {s:List UInt8}{B:Int}(h:IU B):SL (Hi s B.toNat:Int):=by
 have:=JU s B.toNat
 unfold SL
 rcases h with rfl | rfl | rfl
 ·have e:(2:Nat) ^ (64:Int).toNat - 1=18446744073709551615:=by decide
  rw [e] at this;omega
 ·have e:(2:Nat) ^ (32:Int).toNat - 1=4294967295:=by decide
  rw [e] at this;omega
 ·have e:(2:Nat) ^ (31:Int).toNat - 1=2147483647:=by decide
  rw [e] at this;omega
/-- is a text a number's,within a size? -/
theorem jb {x y:List UInt8}:NG x y=decide (x=y):=by
 rw [Gj];by_cases h:x=y <;> simp [h]
def MY (s:List UInt8)(B:Nat):Bool:=cd s B && decide (Lib.itoa (Hi s B:Int)=s)
def XT (s:List UInt8)(B top:Nat):Nat:=if cd s B then top else top+1
theorem Ll (s:List UInt8)(B top:Nat):top≤XT s B top:=by unfold XT;split <;> omega
def Gn (b:Bool):Option Av:=some (.cells true 0 [.bool b])
def FO (hp:Hp)(g:Nat):Prop:=match hp g with
 |some (.cells true 0 [.bool _])=>True
 |_=>False
theorem FO.ex {hp:Hp}{g:Nat}(h:FO hp g):∃b,hp g=Gn b:=by
 unfold FO at h
 split at h
 ·rename_i b e;exact ⟨b,e⟩
 ·exact h.elim
def J6 (hp:Hp)(g:Nat):Bool:=match hp g with
 |some (.cells _ _ [.bool b])=>b
 |_=>false
theorem SC {hp:Hp}{g:Nat}{b:Bool}(h:hp g=Gn b):J6 hp g=b:=by unfold J6;rw [h];rfl
def GL:BB:= .det (fun args hp _=>match args with | [.string ⟨⟨s⟩⟩, .int .i64 B, .pointer (some ⟨g,0,none⟩)]=>IU B∧s.length≤281474976710656∧CS hp∧FO hp g | _=>False)
 (fun args hp top=>match args with | [s,B, .pointer (some ⟨g,_,_⟩)]=>(.int .u64 (Hi (strOf s) (intOf B).toNat:Int), [(g,Gn (J6 hp g && MY (strOf s) (intOf B).toNat))],XT (strOf s) (intOf B).toNat top) | _=>(undef, [],top))
def tz:FuncId→BB:=Bj (Bj lk 46 Ro) 11 Kd
theorem M7:B7 Tryz.prog tt.get tz:=(aI.add qp).add dX
theorem mH:tz 46=Ro:=rfl
theorem qd:tz 33=JT:=rfl
theorem sk {xo yo:Operand}{t:TypeId}{v:Value}:A9 tt.get .eql 35 xo yo (.iface t v) .nilIface=some (.bool false):=by simp [A9,EG,Kh,Nn]
theorem kh {xo:Operand}:A9 tt.get .eql 35 xo (.const .nilIface) .nilIface .nilIface=some (.bool true):=by simp [A9,EG,Kh,Nn,cW]
theorem fC:A4 Tryz.prog 64 GL:=by
 refine .Ci PN ?_
 intro args hp top hpre hcl hsc
 match args,hpre with
 | [.string ⟨⟨s⟩⟩, .int .i64 B, .pointer (some ⟨g,0,none⟩)],⟨hB,hs,hv,hga⟩=>
 obtain ⟨b,hg⟩:=hga.ex
 have hu:SL (Hi s B.toNat:Int)=True:=eq_true (ff hB)
 have hsz:IU B=True:=eq_true hB
 obtain ⟨hp1,hv2,hv3,hv4⟩:=hv
 simp only [BV,intOf_int,SC hg]
 have hgt:g < top:=hcl.lt _ _ hg
 have hgn:¬top=g:=by omega
 replace hg:hp g=some (.cells true 0 [.bool b]):=hg
 refine AK.A5 BC PN rfl 26 rfl [.tmp 5] rfl (show 3≤26 by decide) ?_
 cases hE:cd s B.toNat with
 |false=>
  have e:∀T,US s B.toNat T=(.tuple ⟨[.int .u64 (Hi s B.toNat:Int), .iface 155 (.pointer (some ⟨T,0,none⟩))]⟩, [],T+1):=fun T=>by unfold US;rw [hE];rfl
  have eo:MY s B.toNat=false:=by unfold MY;rw [hE];rfl
  have eT:∀T,XT s B.toNat T=T+1:=fun T=>by unfold XT;rw [hE];rfl
  rw [eo,eT]
  refine CW.vc M7 [0,1,2,5,6,7] (by kernel_rfl) ?_
  (repeat ((try refine Vc.mk' ?_);simp only [go_sem,Nat.reduceAdd,mH,Ro,hsz,hs,hv3,hv4,e,hg,sk]))
  simp only [Bool.and_false,Bool.false_and,Gn]
  (refine ⟨[top],by simp,by simp,by simp, ?_, ?_, ?_⟩ <;> simp [A3,Bi,AA.nil,AA.cons,BJ,BI,AB,AH.Aw,AH.refl,AP hgt])
 |true=>
  have e:∀T,US s B.toNat T=(.tuple ⟨[.int .u64 (Hi s B.toNat:Int), .nilIface]⟩, [],T):=fun T=>by unfold US;rw [hE];rfl
  have eT:∀T,XT s B.toNat T=T:=fun T=>by unfold XT;rw [hE];rfl
  have eo:MY s B.toNat=decide (Lib.itoa (Hi s B.toNat:Int)=s):=by unfold MY;rw [hE];rfl
  rw [eo,eT]
  refine CW.vc M7 [0,1,2,5,6,7] (by kernel_rfl) ?_
  (repeat ((try refine Vc.mk' ?_);simp only [go_sem,Nat.reduceAdd,mH,Ro,hsz,hs,hv3,hv4,e,hg,kh,qd,JT,hu,hp1]))
  simp only [jb,Gn]
  (refine ⟨[],by simp,by simp,by simp, ?_, ?_, ?_⟩ <;> simp [A3,Bi,AA.nil,AA.cons,BJ,BI,AB,AH.Aw,AH.refl,AP hgt])
def Lx:BB:= .pure (fun args hp=>match args with | [.pointer (some ⟨g,0,none⟩)]=>FO hp g | _=>False) (fun args hp=>match args with | [.pointer (some ⟨g,_,_⟩)]=> .bool (J6 hp g) | _=>undef)
theorem na:A4 Tryz.prog 65 Lx:=by
 refine .Hg PM ?_ ?_
 ·intro args hp h
  match args,h with
  | [.pointer (some ⟨g,0,none⟩)],_=>rfl
 intro args hp hpre top hcl hsc
 match args,hpre with
 | [.pointer (some ⟨g,0,none⟩)],hga=>
 obtain ⟨b,hg⟩:=FO.ex hga
 simp only [SC hg]
 replace hg:hp g=some (.cells true 0 [.bool b]):=hg
 refine AK.A5 BC PM rfl 3 rfl [.tmp 1] rfl (show 1≤3 by decide) ?_
 refine CW.vc M7 [0,1] (by kernel_rfl) ?_
 (repeat ((try refine Vc.mk' ?_);simp only [go_sem,hg]))
def NN (g:Nat):Value:= .func (.func 64) ⟨[]⟩ ⟨[.pointer (some ⟨g,0,none⟩)]⟩
def XI (g:Nat):Value:= .func (.func 65) ⟨[]⟩ ⟨[.pointer (some ⟨g,0,none⟩)]⟩
def Ep:BB:= .det (fun args _ _=>args= []) (fun _ _ top=>(.tuple ⟨[NN top,XI top]⟩, [(top,Gn true)],top+1))
theorem jP:A4 Tryz.prog 40 Ep:=by
 refine .Ci Pr ?_
 intro args hp top hpre hcl hsc
 subst hpre
 refine AK.A5 BC Pr rfl 5 rfl [.tmp 0, .tmp 1] rfl (show 0≤5 by decide) ?_
 refine CW.vc M7 [0,1,2] (by kernel_rfl) ?_
 (repeat ((try refine Vc.mk' ?_);simp only [go_sem,Di,Da]))
 simp only [NN,XI,Gn]
 (refine ⟨[top],by simp,by simp,by simp, ?_, ?_, ?_⟩ <;> simp [A3,Bi,AA.nil,AA.cons,BJ,BI,BG,AB,AH.set,AH.refl])
def Ev:BB:= .det (fun args _ _=>match args with | [.int .i64 _]=>True | _=>False) (fun args _ top=>match args with | [n]=>(.iface 84 (.pointer (some ⟨top,0,none⟩)), [(top,some (.cells true 0 [.int .i64 12,n]))],top+1) | _=>(undef, [],top))
theorem cF {a:Option Addr}:N2 tt.get 84 (.pointer a)=some (.iface 84 (.pointer a)):=by simp [N2,GS,QF]
theorem ZL:A4 Tryz.prog 39 Ev:=by
 refine .Ci Ov ?_
 intro args hp top hpre hcl hsc
 match args,hpre with
 | [.int .i64 n],_=>
 refine AK.A5 BC Ov rfl 7 rfl [.tmp 2] rfl (show 1≤7 by decide) ?_
 refine CW.vc M7 [0,2] (by kernel_rfl) ?_
 (repeat ((try refine Vc.mk' ?_);simp only [go_sem,Nat.reduceAdd,Nat.reduceLeDiff,Da,cF]))
 (refine ⟨[top],by simp,by simp,by simp, ?_, ?_, ?_⟩ <;> simp [A3,Bi,AA.nil,AA.cons,BJ,BI,BG,AB,AH.set,AH.refl])
end Go.Proofs.YthpibnpeaidabaaGreatDoor.Dm
