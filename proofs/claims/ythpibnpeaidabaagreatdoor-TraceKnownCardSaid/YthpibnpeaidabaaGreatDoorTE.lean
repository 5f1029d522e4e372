/- read, Event: what they compute. -/
import Derived.Test.YthpibnpeaidabaaGreatDoorTC
set_option linter.unusedSimpArgs false
set_option linter.unusedVariables false
namespace Go.Proofs.YthpibnpeaidabaaGreatDoor.Dm
open Go.Dm
set_option maxHeartbeats 16000000
set_option maxRecDepth 20000
theorem OK {M:Nat}:∀ {l:List UInt8} {acc u:Nat},acc≤M→Lib.parseUintM M acc l= .ok u→u≤M
 | [],acc,u,h,e=>by
  unfold Lib.parseUintM at e
  cases e;exact h
 |c :: r,acc,u,h,e=>by
  unfold Lib.parseUintM at e
  split at e
  ·split at e
   ·cases e
   ·split at e
    ·cases e
    ·exact OK (by omega) e
  ·cases e
theorem Ho (s:List UInt8)(B:Nat):Fu s B≤2 ^ B - 1:=by
 unfold Fu
 split
 ·rename_i u h
  unfold Lib.parseUintB at h
  split at h
  ·cases h
  ·exact OK (Nat.zero_le _) h
 ·exact Nat.zero_le _
 ·exact Nat.le_refl _
theorem iM {s:List UInt8}{B:Int}(h:I6 B):Rz (Fu s B.toNat:Int):=by
 have:=Ho s B.toNat
 unfold Rz
 rcases h with rfl | rfl | rfl
 ·have e:(2:Nat) ^ (64:Int).toNat - 1=18446744073709551615:=by decide
  rw [e] at this;omega
 ·have e:(2:Nat) ^ (32:Int).toNat - 1=4294967295:=by decide
  rw [e] at this;omega
 ·have e:(2:Nat) ^ (31:Int).toNat - 1=2147483647:=by decide
  rw [e] at this;omega
theorem jX {x y:List UInt8}:NN x y=decide (x=y):=by
 rw [Gb];by_cases h:x=y <;> simp [h]
def K7 (s:List UInt8)(B:Nat):Bool:=dJ s B && decide (Lib.itoa (Fu s B:Int)=s)
def Xz (s:List UInt8)(B top:Nat):Nat:=if dJ s B then top else top+1
theorem M7 (s:List UInt8)(B top:Nat):top≤Xz s B top:=by unfold Xz;split <;> omega
def HH (b:Bool):Option A5:=some (.cells true 0 [.bool b])
def F4 (hp:Hp)(g:Nat):Prop:=match hp g with
 |some (.cells true 0 [.bool _])=>True
 |_=>False
theorem F4.ex {hp:Hp}{g:Nat}(h:F4 hp g):∃b,hp g=HH b:=by
 unfold F4 at h
 split at h
 ·rename_i b e;exact ⟨b,e⟩
 ·exact h.elim
def KQ (hp:Hp)(g:Nat):Bool:=match hp g with
 |some (.cells _ _ [.bool b])=>b
 |_=>false
theorem SA {hp:Hp}{g:Nat}{b:Bool}(h:hp g=HH b):KQ hp g=b:=by unfold KQ;rw [h];rfl
def Fq:BO:= .det (fun args hp _=>match args with | [.string ⟨⟨s⟩⟩, .int .i64 B, .pointer (some ⟨g,0,none⟩)]=>I6 B∧s.length≤281474976710656∧B6 hp∧F4 hp g | _=>False)
 (fun args hp top=>match args with | [s,B, .pointer (some ⟨g,_,_⟩)]=>(.int .u64 (Fu (strOf s) (intOf B).toNat:Int), [(g,HH (KQ hp g && K7 (strOf s) (intOf B).toNat))],Xz (strOf s) (intOf B).toNat top) | _=>(undef, [],top))
def rT:FuncId→BO:=Bd (Bd jr 46 Rd) 11 EA
theorem N1:B9 Tryz.prog tt.get rT:=(bE.add qZ).add WA
theorem je:rT 46=Rd:=rfl
theorem pH:rT 33=J5:=rfl
theorem Vr {xo yo:Operand}{t:TypeId}{v:Value}:De tt.get .eql 35 xo yo (.iface t v) .nilIface=some (.bool false):=by simp [De,Ih,K5,QC]
theorem Z5 {xo:Operand}:De tt.get .eql 35 xo (.const .nilIface) .nilIface .nilIface=some (.bool true):=by simp [De,Ih,K5,QC,dN]
theorem jI:BG Tryz.prog 64 Fq:=by
 refine .Cy Og ?_
 intro args hp top hpre hcl hsc
 match args,hpre with
 | [.string ⟨⟨s⟩⟩, .int .i64 B, .pointer (some ⟨g,0,none⟩)],⟨hB,hs,hv,hga⟩=>
 obtain ⟨b,hg⟩:=hga.ex
 have hu:Rz (Fu s B.toNat:Int)=True:=eq_true (iM hB)
 have hsz:I6 B=True:=eq_true hB
 obtain ⟨hp1,hv2,hv3,hv4⟩:=hv
 simp only [BV,intOf_int,SA hg]
 have hgt:g < top:=hcl.lt _ _ hg
 have hgn:¬top=g:=by omega
 replace hg:hp g=some (.cells true 0 [.bool b]):=hg
 refine Ab.BF BN Og rfl 26 rfl [.tmp 5] rfl (show 3≤26 by decide) ?_
 cases hE:dJ s B.toNat with
 |false=>
  have e:∀T,VG s B.toNat T=(.tuple ⟨[.int .u64 (Fu s B.toNat:Int), .iface 155 (.pointer (some ⟨T,0,none⟩))]⟩, [],T+1):=fun T=>by unfold VG;rw [hE];rfl
  have eo:K7 s B.toNat=false:=by unfold K7;rw [hE];rfl
  have eT:∀T,Xz s B.toNat T=T+1:=fun T=>by unfold Xz;rw [hE];rfl
  rw [eo,eT]
  refine CW.vc N1 [0,1,2,5,6,7] (by kernel_rfl) ?_
  (repeat ((try refine Vc.mk' ?_);simp only [go_sem,reduceIte,reduceCtorEq,Nat.reduceAdd,Nat.reduceMul,Nat.reduceSub,Nat.reduceLT,Nat.reduceLeDiff,Nat.reduceEqDiff,Int.reduceEq,Int.reduceLT,Int.reduceLE,Int.reduceNe,je,Rd,hsz,hs,hv3,hv4,e,hg,Vr]))
  simp only [Bool.and_false,Bool.false_and,HH]
  (refine ⟨[top],by simp,by simp,by simp, ?_, ?_, ?_⟩ <;> simp [Ag,BJ,BH,Am,AP,AF,AJ.nil,AJ.cons,AB,AD,AM,AA,AQ,AX,AO,Ax.AL,AG,AV,AE,AH,AK.set,AK.Ao,AK.refl,Af hgt])
 |true=>
  have e:∀T,VG s B.toNat T=(.tuple ⟨[.int .u64 (Fu s B.toNat:Int), .nilIface]⟩, [],T):=fun T=>by unfold VG;rw [hE];rfl
  have eT:∀T,Xz s B.toNat T=T:=fun T=>by unfold Xz;rw [hE];rfl
  have eo:K7 s B.toNat=decide (Lib.itoa (Fu s B.toNat:Int)=s):=by unfold K7;rw [hE];rfl
  rw [eo,eT]
  refine CW.vc N1 [0,1,2,5,6,7] (by kernel_rfl) ?_
  (repeat ((try refine Vc.mk' ?_);simp only [go_sem,reduceIte,reduceCtorEq,Nat.reduceAdd,Nat.reduceMul,Nat.reduceSub,Nat.reduceLT,Nat.reduceLeDiff,Nat.reduceEqDiff,Int.reduceEq,Int.reduceLT,Int.reduceLE,Int.reduceNe,je,Rd,hsz,hs,hv3,hv4,e,hg,Z5,pH,J5,hu,hp1]))
  simp only [jX,HH]
  (refine ⟨[],by simp,by simp,by simp, ?_, ?_, ?_⟩ <;> simp [Ag,BJ,BH,Am,AP,AF,AJ.nil,AJ.cons,AB,AD,AM,AA,AQ,AX,AO,Ax.AL,AG,AV,AE,AH,AK.set,AK.Ao,AK.refl,Af hgt])
def Km:BO:= .pure (fun args hp=>match args with | [.pointer (some ⟨g,0,none⟩)]=>F4 hp g | _=>False) (fun args hp=>match args with | [.pointer (some ⟨g,_,_⟩)]=> .bool (KQ hp g) | _=>undef)
theorem mO:BG Tryz.prog 65 Km:=by
 refine .HS QT ?_ ?_
 ·intro args hp h
  match args,h with
  | [.pointer (some ⟨g,0,none⟩)],_=>rfl
 intro args hp hpre top hcl hsc
 match args,hpre with
 | [.pointer (some ⟨g,0,none⟩)],hga=>
 obtain ⟨b,hg⟩:=F4.ex hga
 simp only [SA hg]
 replace hg:hp g=some (.cells true 0 [.bool b]):=hg
 refine Ab.BF BN QT rfl 3 rfl [.tmp 1] rfl (show 1≤3 by decide) ?_
 refine CW.vc N1 [0,1] (by kernel_rfl) ?_
 (repeat ((try refine Vc.mk' ?_);simp only [go_sem,reduceIte,reduceCtorEq,Nat.reduceAdd,Nat.reduceMul,Nat.reduceSub,Nat.reduceLT,Nat.reduceLeDiff,Nat.reduceEqDiff,Int.reduceEq,Int.reduceLT,Int.reduceLE,Int.reduceNe,hg]))
def Nr (g:Nat):Value:= .func (.func 64) ⟨[]⟩ ⟨[.pointer (some ⟨g,0,none⟩)]⟩
def Wn (g:Nat):Value:= .func (.func 65) ⟨[]⟩ ⟨[.pointer (some ⟨g,0,none⟩)]⟩
def EW:BO:= .det (fun args _ _=>args= []) (fun _ _ top=>(.tuple ⟨[Nr top,Wn top]⟩, [(top,HH true)],top+1))
theorem gz:BG Tryz.prog 40 EW:=by
 refine .Cy PE ?_
 intro args hp top hpre hcl hsc
 subst hpre
 refine Ab.BF BN PE rfl 5 rfl [.tmp 0, .tmp 1] rfl (show 0≤5 by decide) ?_
 refine CW.vc N1 [0,1,2] (by kernel_rfl) ?_
 (repeat ((try refine Vc.mk' ?_);simp only [go_sem,reduceIte,reduceCtorEq,Nat.reduceAdd,Nat.reduceMul,Nat.reduceSub,Nat.reduceLT,Nat.reduceLeDiff,Nat.reduceEqDiff,Int.reduceEq,Int.reduceLT,Int.reduceLE,Int.reduceNe,Dd,EG,Fx]))
 simp only [Nr,Wn,HH]
 (refine ⟨[top],by simp,by simp,by simp, ?_, ?_, ?_⟩ <;> simp [Ag,BJ,BH,Am,AP,AF,AJ.nil,AJ.cons,AB,AD,AM,AA,AQ,AX,AO,Ax.AL,AG,AV,AE,AH,AK.set,AK.Ao,AK.refl])
def C5:BO:= .det (fun args _ _=>match args with | [.int .i64 _]=>True | _=>False) (fun args _ top=>match args with | [n]=>(.iface 84 (.pointer (some ⟨top,0,none⟩)), [(top,some (.cells true 0 [.int .i64 12,n]))],top+1) | _=>(undef, [],top))
theorem Rv {a:Option Addr}:Hr tt.get 84 (.pointer a)=some (.iface 84 (.pointer a)):=by simp [Hr,Jw,Tz]
theorem YV:BG Tryz.prog 39 C5:=by
 refine .Cy QP ?_
 intro args hp top hpre hcl hsc
 match args,hpre with
 | [.int .i64 n],_=>
 refine Ab.BF BN QP rfl 7 rfl [.tmp 2] rfl (show 1≤7 by decide) ?_
 refine CW.vc N1 [0,2] (by kernel_rfl) ?_
 (repeat ((try refine Vc.mk' ?_);simp only [go_sem,reduceIte,reduceCtorEq,Nat.reduceAdd,Nat.reduceMul,Nat.reduceSub,Nat.reduceLT,Nat.reduceLeDiff,Nat.reduceEqDiff,Int.reduceEq,Int.reduceLT,Int.reduceLE,Int.reduceNe,Dd,EG,Rv]))
 (refine ⟨[top],by simp,by simp,by simp, ?_, ?_, ?_⟩ <;> simp [Ag,BJ,BH,Am,AP,AF,AJ.nil,AJ.cons,AB,AD,AM,AA,AQ,AX,AO,Ax.AL,AG,AV,AE,AH,AK.set,AK.Ao,AK.refl])
end Go.Proofs.YthpibnpeaidabaaGreatDoor.Dm
