import Derived.Test.YthpibnpeaidabaaGreatDoorTC
set_option linter.unusedVariables false
namespace Go.Proofs.YthpibnpeaidabaaGreatDoor.Dm
open Go.Dm
set_option maxHeartbeats 16000000
set_option maxRecDepth 20000
theorem Oe {M:Nat}:∀ {l:List UInt8} {acc u:Nat},acc≤M→Lib.parseUintM M acc l= .ok u→u≤M
 | [],acc,u,h,e=>by
  unfold Lib.parseUintM at e
  cases e;exact h
 |c :: r,acc,u,h,e=>by
  unfold Lib.parseUintM at e
  split at e
  ·split at e
   ·cases e
   ·split at e
    ·cases e
    ·exact Oe (by omega) e
  ·cases e
theorem IK (s:List UInt8)(B:Nat):GJ s B≤2 ^ B - 1:=by
 unfold GJ
 split
 ·rename_i u h
  unfold Lib.parseUintB at h
  split at h
  ·cases h
  ·exact Oe (Nat.zero_le _) h
 ·exact Nat.zero_le _
 ·exact Nat.le_refl _
theorem la {s:List UInt8}{B:Int}(h:JQ B):Ri (GJ s B.toNat:Int):=by
 have:=IK s B.toNat
 unfold Ri
 rcases h with rfl | rfl | rfl
 ·have e:(2:Nat) ^ (64:Int).toNat - 1=18446744073709551615:=by decide
  rw [e] at this;omega
 ·have e:(2:Nat) ^ (32:Int).toNat - 1=4294967295:=by decide
  rw [e] at this;omega
 ·have e:(2:Nat) ^ (31:Int).toNat - 1=2147483647:=by decide
  rw [e] at this;omega
theorem kC {x y:List UInt8}:OP x y=decide (x=y):=by
 rw [HM];by_cases h:x=y <;> simp [h]
def Lz (s:List UInt8)(B:Nat):Bool:=iX s B && decide (Lib.itoa (GJ s B:Int)=s)
def aB (s:List UInt8)(B top:Nat):Nat:=if iX s B then top else top+1
theorem Mn (s:List UInt8)(B top:Nat):top≤aB s B top:=by unfold aB;split <;> omega
def IE (b:Bool):Option Ay:=some (.cells true 0 [.bool b])
def GI (hp:Hp)(g:Nat):Prop:=match hp g with
 |some (.cells true 0 [.bool _])=>True
 |_=>False
theorem GI.ex {hp:Hp}{g:Nat}(h:GI hp g):∃b,hp g=IE b:=by
 unfold GI at h
 split at h
 ·rename_i b e;exact ⟨b,e⟩
 ·exact h.elim
def LW (hp:Hp)(g:Nat):Bool:=match hp g with
 |some (.cells _ _ [.bool b])=>b
 |_=>false
theorem SP {hp:Hp}{g:Nat}{b:Bool}(h:hp g=IE b):LW hp g=b:=by unfold LW;rw [h];rfl
def HG:BG:= .det (fun args hp _=>match args with | [.string ⟨⟨s⟩⟩, .int .i64 B, .pointer (some ⟨g,0,none⟩)]=>JQ B∧s.length≤281474976710656∧CZ hp∧GI hp g | _=>False)
 (fun args hp top=>match args with | [s,B, .pointer (some ⟨g,_,_⟩)]=>(.int .u64 (GJ (strOf s) (intOf B).toNat:Int), [(g,IE (LW hp g && Lz (strOf s) (intOf B).toNat))],aB (strOf s) (intOf B).toNat top) | _=>(undef, [],top))
def zF:FuncId→BG:=BQ (BQ oN 46 Tg) 11 DU
theorem Oc:B4 Tryz.prog tt.get zF:=(OW.add ve).add nj
theorem qX:zF 46=Tg:=rfl
theorem xb:zF 33=IY:=rfl
theorem xM {xo yo:Operand}{t:TypeId}{v:Value}:BD tt.get .eql 35 xo yo (.iface t v) .nilIface=some (.bool false):=by simp [BD,Em,Ln,Pq]
theorem pD {xo:Operand}:BD tt.get .eql 35 xo (.const .nilIface) .nilIface .nilIface=some (.bool true):=by simp [BD,Em,Ln,Pq,iU]
theorem ky:Aw Tryz.prog 64 HG:=by
 refine .Cg QU ?_
 intro args hp top hpre hcl hsc
 match args,hpre with
 | [.string ⟨⟨s⟩⟩, .int .i64 B, .pointer (some ⟨g,0,none⟩)],⟨hB,hs,hv,hga⟩=>
 obtain ⟨b,hg⟩:=hga.ex
 have hu:Ri (GJ s B.toNat:Int)=True:=eq_true (la hB)
 have hsz:JQ B=True:=eq_true hB
 obtain ⟨hp1,hv2,hv3,hv4⟩:=hv
 simp only [Ba,intOf_int,SP hg]
 have hgt:g < top:=hcl.lt _ _ hg
 have hgn:¬top=g:=by omega
 replace hg:hp g=some (.cells true 0 [.bool b]):=hg
 refine AK.Ar A7 QU rfl 26 rfl [.tmp 5] rfl (show 3≤26 by decide) ?_
 cases hE:iX s B.toNat with
 |false=>
  have e:∀T,Xf s B.toNat T=(.tuple ⟨[.int .u64 (GJ s B.toNat:Int), .iface 155 (.pointer (some ⟨T,0,none⟩))]⟩, [],T+1):=fun T=>by unfold Xf;rw [hE];rfl
  have eo:Lz s B.toNat=false:=by unfold Lz;rw [hE];rfl
  have eT:∀T,aB s B.toNat T=T+1:=fun T=>by unfold aB;rw [hE];rfl
  rw [eo,eT]
  refine CW.vc Oc [0,1,2,5,6,7] (by kernel_rfl) ?_
  (repeat ((try refine Vc.mk' ?_);simp only [go_sem,Nat.reduceAdd,qX,Tg,hsz,hs,hv3,hv4,e,hg,xM]))
  simp only [Bool.and_false,Bool.false_and,IE]
  (refine ⟨[top],by simp,by simp,by simp, ?_, ?_, ?_⟩ <;> simp [Ax,Bt,AB.nil,AB.cons,A9,BA,AD,AJ.A5,AJ.refl,AM hgt])
 |true=>
  have e:∀T,Xf s B.toNat T=(.tuple ⟨[.int .u64 (GJ s B.toNat:Int), .nilIface]⟩, [],T):=fun T=>by unfold Xf;rw [hE];rfl
  have eT:∀T,aB s B.toNat T=T:=fun T=>by unfold aB;rw [hE];rfl
  have eo:Lz s B.toNat=decide (Lib.itoa (GJ s B.toNat:Int)=s):=by unfold Lz;rw [hE];rfl
  rw [eo,eT]
  refine CW.vc Oc [0,1,2,5,6,7] (by kernel_rfl) ?_
  (repeat ((try refine Vc.mk' ?_);simp only [go_sem,Nat.reduceAdd,qX,Tg,hsz,hs,hv3,hv4,e,hg,pD,xb,IY,hu,hp1]))
  simp only [kC,IE]
  (refine ⟨[],by simp,by simp,by simp, ?_, ?_, ?_⟩ <;> simp [Ax,Bt,AB.nil,AB.cons,A9,BA,AD,AJ.A5,AJ.refl,AM hgt])
def Nb:BG:= .pure (fun args hp=>match args with | [.pointer (some ⟨g,0,none⟩)]=>GI hp g | _=>False) (fun args hp=>match args with | [.pointer (some ⟨g,_,_⟩)]=> .bool (LW hp g) | _=>undef)
theorem ti:Aw Tryz.prog 65 Nb:=by
 refine .Ep Qf ?_ ?_
 ·intro args hp h
  match args,h with
  | [.pointer (some ⟨g,0,none⟩)],_=>rfl
 intro args hp hpre top hcl hsc
 match args,hpre with
 | [.pointer (some ⟨g,0,none⟩)],hga=>
 obtain ⟨b,hg⟩:=GI.ex hga
 simp only [SP hg]
 replace hg:hp g=some (.cells true 0 [.bool b]):=hg
 refine AK.Ar A7 Qf rfl 3 rfl [.tmp 1] rfl (show 1≤3 by decide) ?_
 refine CW.vc Oc [0,1] (by kernel_rfl) ?_
 (repeat ((try refine Vc.mk' ?_);simp only [go_sem,hg]))
def Og (g:Nat):Value:= .func (.func 64) ⟨[]⟩ ⟨[.pointer (some ⟨g,0,none⟩)]⟩
def Zz (g:Nat):Value:= .func (.func 65) ⟨[]⟩ ⟨[.pointer (some ⟨g,0,none⟩)]⟩
def Ff:BG:= .det (fun args _ _=>args= []) (fun _ _ top=>(.tuple ⟨[Og top,Zz top]⟩, [(top,IE true)],top+1))
theorem nK:Aw Tryz.prog 40 Ff:=by
 refine .Cg Rt ?_
 intro args hp top hpre hcl hsc
 subst hpre
 refine AK.Ar A7 Rt rfl 5 rfl [.tmp 0, .tmp 1] rfl (show 0≤5 by decide) ?_
 refine CW.vc Oc [0,1,2] (by kernel_rfl) ?_
 (repeat ((try refine Vc.mk' ?_);simp only [go_sem,ES,EN]))
 simp only [Og,Zz,IE]
 (refine ⟨[top],by simp,by simp,by simp, ?_, ?_, ?_⟩ <;> simp [Ax,Bt,AB.nil,AB.cons,A9,BA,Ap,AD,AJ.set,AJ.refl])
def Fe:BG:= .det (fun args _ _=>match args with | [.int .i64 _]=>True | _=>False) (fun args _ top=>match args with | [n]=>(.iface 84 (.pointer (some ⟨top,0,none⟩)), [(top,some (.cells true 0 [.int .i64 12,n]))],top+1) | _=>(undef, [],top))
theorem bP {a:Option Addr}:Rp tt.get 84 (.pointer a)=some (.iface 84 (.pointer a)):=by simp [Rp,HL,Tv]
theorem iA:Aw Tryz.prog 39 Fe:=by
 refine .Cg QF ?_
 intro args hp top hpre hcl hsc
 match args,hpre with
 | [.int .i64 n],_=>
 refine AK.Ar A7 QF rfl 7 rfl [.tmp 2] rfl (show 1≤7 by decide) ?_
 refine CW.vc Oc [0,2] (by kernel_rfl) ?_
 (repeat ((try refine Vc.mk' ?_);simp only [go_sem,Nat.reduceAdd,Nat.reduceLeDiff,EN,bP]))
 (refine ⟨[top],by simp,by simp,by simp, ?_, ?_, ?_⟩ <;> simp [Ax,Bt,AB.nil,AB.cons,A9,BA,Ap,AD,AJ.set,AJ.refl])
end Go.Proofs.YthpibnpeaidabaaGreatDoor.Dm
