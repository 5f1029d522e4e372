/- The document's reading of a number, walked. -/
import Derived.Test.YthlhnangbinhoaaGreatDoorSRW
set_option linter.unusedVariables false
namespace Go.Proofs.YthlhnangbinhoaaGreatDoor.Dm
open Go.Dm
set_option maxHeartbeats 16000000
set_option maxRecDepth 20000
noncomputable def GR4:FuncId→Bb:=Bw GR3 58 FG
theorem PH:CQ Tryz.prog tt.get GR4:=Na.add ACX
theorem uB:GR4 58=FG:=rfl
def eZ (s:List UInt8):Value:=if s= []∨20 < s.length then .tuple ⟨[.int .i64 0, .bool false]⟩ else .tuple ⟨[.int .i64 (Ic s), .bool (decide (Lib.itoa (Ic s)=s))]⟩
def Sm:Bb:= .pure (fun args _=>match args with | [.string ⟨⟨s⟩⟩]=>s.length≤100000000 | _=>False) (fun args _=>match args with | [s]=>eZ (strOf s) | _=>undef)
theorem my {s:List UInt8}{i:Nat}(h:i < s.length):X9 0 (s.take (i+1))=if 48≤(at' s i).toNat∧(at' s i).toNat≤57 then Ap .i64 (Ap .i64 (10 * X9 0 (s.take i)) - (((at' s i).toNat:Int) - 48)) else X9 0 (s.take i):=by
 rw [DN h,VL];rfl
def dI (hp:Hp)(top:Nat)(s:List UInt8)(i:Nat):SS:=⟨[(0, .string ⟨⟨s⟩⟩,true),(4, .int .i64 (X9 0 (s.take i)),true),(5, .int .i64 (i:Int),true)],hp.Av [],top⟩
theorem aV:A0 Tryz.prog 62 Sm:=by
 refine .Fm Vd ?_ ?_
 ·rintro args hp h
  match args,h with
  | [.string ⟨⟨s⟩⟩],_=>
   simp only [AH]
   unfold eZ
   split <;> rfl
 intro args hp hpre top hcl hsc
 match args,hpre with
 | [.string ⟨⟨s⟩⟩],hs=>
 simp only [AH]
 refine AR.A5 BA Vd rfl 48 rfl [.tmp 2, .tmp 3] rfl (show 1≤48 by decide) ?_
 by_cases c:s= []∨20 < s.length
 ·have e:eZ s= .tuple ⟨[.int .i64 0, .bool false]⟩:=by unfold eZ;rw [if_pos c]
  have c':(decide ((s.length:Int)=0) || decide ((20:Int) < (s.length:Int)))=true:=by
   rcases c with rfl | c
   ·rfl
   ·rw [decide_eq_true (show (20:Int) < (s.length:Int) by omega),Bool.or_true]
  rw [e]
  refine CW.vc PH [0,2,3,4,5,13,17,29,40] (by kernel_rfl) ?_
  (repeat ((try refine Vc.mk' ?_);simp (maxSteps:=6000000) only [go_sem,A8,c']))
 have hne:s≠ []:=fun h=>c (.inl h)
 have hl:s.length≤20:=by omega
 have hl1:0 < s.length:=List.length_pos_iff.2 hne
 have hl1':((0:Int) < (s.length:Int))=True:=eq_true (by omega)
 have e:eZ s= .tuple ⟨[.int .i64 (Ic s), .bool (decide (Lib.itoa (Ic s)=s))]⟩:=by unfold eZ;rw [if_neg c]
 have c1:((s.length:Int)=0)=False:=eq_false (by omega)
 have c2:((20:Int) < (s.length:Int))=False:=eq_false (by omega)
 have c3:(20 < s.length)=False:=eq_false (by omega)
 rw [e]
 refine CW.vc PH [0,2,3,4,5,13,17,29,40] (by kernel_rfl) ?_
 (repeat ((try refine Vc.mk' ?_);simp (maxSteps:=6000000) only [go_sem,A8,c1,c2,decide_false]))
 refine CW.DC (dI hp top s) (fun i=>i≤s.length) (fun i=>s.length - i) 0 (Nat.zero_le _) ?_ ?_
 ·exact (by refine BR.mk' [] hcl (by simp) (by simp) rfl (AU ?_) ?_ ?_ <;> simp [show X9 0 [] = 0 from rfl])
 ·intro i hi
  by_cases hlt:i < s.length
  ·have ii:((i:Int) < (s.length:Int))=True:=eq_true (by omega)
   have kk:Ap .i64 ((i:Int)+1)=((i+1:Nat):Int):=Bf hlt (by omega)
   have hc:=PU hlt
   have hsn:=my hlt
   have h255:=(at' s i).toNat_lt
   by_cases d1:48≤(at' s i).toNat
   ·have d1':(Int.ofNat (at' s i).toNat < 48)=False:=eq_false (by show ¬((at' s i).toNat:Int) < 48;omega)
    by_cases d2:(at' s i).toNat≤57
    ·have d2':((57:Int) < Int.ofNat (at' s i).toNat)=False:=eq_false (by show ¬(57:Int) < ((at' s i).toNat:Int);omega)
     rw [if_pos ⟨d1,d2⟩] at hsn
     have w8:Ap .u8 (Int.ofNat (at' s i).toNat - 48)=((at' s i).toNat:Int) - 48:=Gg (by simp [IntKind.signed];omega) (by simp [IntKind.signed,IntKind.bits];omega)
     have w9:Ap .i64 (((at' s i).toNat:Int) - 48)=((at' s i).toNat:Int) - 48:=wrap64 (by omega) (by omega)
     refine CW.vc PH [0,2,3,4,5,13,17,29,40] (by kernel_rfl) ?_
     (repeat ((try refine Vc.mk' ?_);simp (maxSteps:=6000000) only [go_sem,dI,A8,ii,hc,d1',d2',w8,w9,kk,decide_true,decide_false]))
     refine .mk (i+1) hlt (by omega) ((by refine BR.mk' [] hcl (by simp) (by simp) rfl (AU ?_) ?_ ?_ <;> simp [hsn]))
    ·have d2':((57:Int) < Int.ofNat (at' s i).toNat)=True:=eq_true (by show (57:Int) < ((at' s i).toNat:Int);omega)
     rw [if_neg (fun h=>d2 h.2)] at hsn
     refine CW.vc PH [0,2,3,4,5,13,17,29,40] (by kernel_rfl) ?_
     (repeat ((try refine Vc.mk' ?_);simp (maxSteps:=6000000) only [go_sem,dI,A8,ii,hc,d1',d2',kk,decide_true,decide_false]))
     refine .mk (i+1) hlt (by omega) ((by refine BR.mk' [] hcl (by simp) (by simp) rfl (AU ?_) ?_ ?_ <;> simp [hsn]))
   ·have d1':(Int.ofNat (at' s i).toNat < 48)=True:=eq_true (by show ((at' s i).toNat:Int) < 48;omega)
    rw [if_neg (fun h=>d1 h.1)] at hsn
    refine CW.vc PH [0,2,3,4,5,13,17,29,40] (by kernel_rfl) ?_
    (repeat ((try refine Vc.mk' ?_);simp (maxSteps:=6000000) only [go_sem,dI,A8,ii,hc,d1',kk,decide_true]))
    refine .mk (i+1) hlt (by omega) ((by refine BR.mk' [] hcl (by simp) (by simp) rfl (AU ?_) ?_ ?_ <;> simp [hsn]))
  ·have hi2:i=s.length:=by omega
   subst hi2
   have hr:=WK s
   have hc:=PU hl1
   have hhd:s.head? = some (at' s 0):=by
    cases s with
    |nil=>exact absurd rfl hne
    |cons a l=>rfl
   by_cases d:at' s 0=45
   ·have d':(Int.ofNat (at' s 0).toNat=45)=True:=eq_true (by rw [d];rfl)
    have ew:X9 0 s=Ic s:=by unfold Ic;rw [hhd,d,if_pos rfl]
    refine CW.vc PH [0,2,3,4,5,13,17,29,40] (by kernel_rfl) ?_
    (repeat ((try refine Vc.mk' ?_);simp (maxSteps:=6000000) only [go_sem,dI,A8,Nat.lt_irrefl,List.take_length,ew,hl1',hc,d',uB,FG,hr,AV,decide_true,decide_false]))
   ·have d':(Int.ofNat (at' s 0).toNat=45)=False:=eq_false fun h=>d (UInt8.toNat.inj (by have:(at' s 0).toNat=45:=Int.ofNat.inj h;rw [this];rfl))
    have ew:Ap .i64 (0 - X9 0 s)=Ic s:=by unfold Ic;rw [hhd,if_neg (fun h=>d (Option.some.inj h)),Int.zero_sub]
    refine CW.vc PH [0,2,3,4,5,13,17,29,40] (by kernel_rfl) ?_
    (repeat ((try refine Vc.mk' ?_);simp (maxSteps:=6000000) only [go_sem,dI,A8,Nat.lt_irrefl,List.take_length,ew,hl1',hc,d',uB,FG,hr,AV,decide_false]))
end Go.Proofs.YthlhnangbinhoaaGreatDoor.Dm
set_option linter.unusedVariables false
namespace Go.Proofs.YthlhnangbinhoaaGreatDoor.Dm
open Go.Dm
set_option maxHeartbeats 16000000
set_option maxRecDepth 20000
noncomputable def uO:FuncId→Bb:=Bw GR4 62 Sm
theorem Z3:CQ Tryz.prog tt.get uO:=PH.add aV
theorem z8:uO 69=I3 fun n=>Gk n 1 24:=rfl
theorem sw:uO 57=I3 Gw:=rfl
theorem ABc:uO 59=I3 HH:=rfl
theorem ABw:uO 60=I3 HV:=rfl
theorem mw:uO 56=EG:=rfl
def EK (o:Ax):Bool:=
 if Cc o.Kind= [] then false
 else if Gw o.Kind=true then Gk o.CJ 1 4096 && decide (o.Bj=0) && decide (o.C8=0) && decide (o.B1=0) && decide (o.Bd=0) && decide (o.Bytes= [])
 else Gk o.Bj 1 24 && decide (o.CJ=0) && decide (HH o.Kind= !decide (o.C8=0)) && (decide (o.C8=0) || Gk o.C8 1 24) && (HV o.Kind || decide (o.B1=0)) && Gk o.B1 0 7 && (decide (o.Kind=8) || decide (o.Bd=0)) && (decide (o.Kind=9) || decide (o.Bytes= [])) && decide (o.Bytes.length≤512)
theorem mb1 {b1 b2 b3 b4 b5:Bool}(h:(!b1 || !b2 || !(b3 == !b4) || !b4 && !b5)=true):(b1 && b2 && decide (b3= !b4) && (b4 || b5))=false:=by
 revert h;cases b1 <;> cases b2 <;> cases b3 <;> cases b4 <;> cases b5 <;> simp
theorem ur {b1 b2 b3 b4 b5:Bool}(h:(!b1 || !b2 || !(b3 == !b4) || !b4 && !b5)=false):(b1 && b2 && decide (b3= !b4) && (b4 || b5))=true:=by
 revert h;cases b1 <;> cases b2 <;> cases b3 <;> cases b4 <;> cases b5 <;> simp
theorem mb2 {b6 b7 b8 b9:Bool}(h:(!b6 && !b7 || b8 || !b9)=true):((b6 || b7) && (!b8 && b9))=false:=by
 revert h;cases b6 <;> cases b7 <;> cases b8 <;> cases b9 <;> simp
theorem ACQ {b6 b7 b8 b9:Bool}(h:(!b6 && !b7 || b8 || !b9)=false):((b6 || b7) && (!b8 && b9))=true:=by
 revert h;cases b6 <;> cases b7 <;> cases b8 <;> cases b9 <;> simp
theorem mb3 {a b c d:Bool}(h:(!a && !b || !c && !d)=true):((a || b) && (c || d))=false:=by
 revert h;cases a <;> cases b <;> cases c <;> cases d <;> simp
theorem AEe {a b c d:Bool}(h:(!a && !b || !c && !d)=false):((a || b) && (c || d))=true:=by
 revert h;cases a <;> cases b <;> cases c <;> cases d <;> simp
def GF:Bb:= .pure (fun args _=>match args with | [v]=>dT v | _=>False) (fun args _=>match args with | [v]=> .bool (EK (Y0 v)) | _=>undef)
theorem AAL:A0 Tryz.prog 30 GF:=by
 refine .Fm VF ?_ ?_
 ·rintro args hp h
  match args,h with
  | [_],⟨x,rfl,_⟩=>rfl
 intro args hp hpre top hcl hsc
 match args,hpre with
 | [_],⟨x,rfl,h⟩=>
 simp only [Br]
 refine AR.A5 BA VF rfl 113 rfl [.tmp 2] rfl (show 1≤113 by decide) ?_
 by_cases n0:Cc x.Kind= []
 ·have e:EK x=false:=by unfold EK;rw [if_pos n0]
  rw [e]
  refine CW.vc Z3 [0,1,2,6,9,71,90,108] (by kernel_rfl) ?_
  (repeat ((try refine Vc.mk' ?_);simp (maxSteps:=6000000) only [go_sem,mw,EG,n0,Ko]))
 ·cases ht:Gw x.Kind with
  |true=>
   have e:EK x=(Gk x.CJ 1 4096 && decide (x.Bj=0) && decide (x.C8=0) && decide (x.B1=0) && decide (x.Bd=0) && decide (x.Bytes= [])):=by unfold EK;rw [if_neg n0,if_pos ht]
   rw [e]
   refine CW.vc Z3 [0,1,2,6,9,71,90,108] (by kernel_rfl) ?_
   (repeat ((try refine Vc.mk' ?_);simp (maxSteps:=6000000) only [go_sem,mw,EG,sw,I3,ht,n0,AV,decide_false]))
   refine Ee ?_
   simp [Gk]
  |false=>
   refine CW.vc Z3 [0,1,2,6,9,71,90,108] (by kernel_rfl) ?_
   (repeat ((try refine Vc.mk' ?_);simp (maxSteps:=6000000) only [go_sem,mw,EG,sw,ABc,z8,I3,ht,n0,AV,decide_false]))
   refine ⟨fun a=>⟨a,fun b=>⟨a,b⟩⟩, ?_⟩
   (repeat ((try refine Vc.mk' ?_);simp (maxSteps:=6000000) only [go_sem]))
   have hg:Gk x.B1 0 7=(!decide (x.B1 < 0) && decide (x.B1 < 8)):=by
    unfold Gk
    congr 1
    ·rw [Bool.eq_iff_iff];simp
    ·rw [Bool.eq_iff_iff];simp;omega
   have e:EK x=((Gk x.Bj 1 24 && decide (x.CJ=0) && decide (HH x.Kind= !decide (x.C8=0)) && (decide (x.C8=0) || Gk x.C8 1 24)) && ((HV x.Kind || decide (x.B1=0)) && (!decide (x.B1 < 0) && decide (x.B1 < 8))) && ((decide (x.Kind=8) || decide (x.Bd=0)) && (decide (x.Kind=9) || decide (x.Bytes= []))) && decide (x.Bytes.length≤512)):=by
    unfold EK
    rw [if_neg n0,if_neg (by rw [ht];simp),hg]
    simp only [Bool.and_assoc]
   rw [e]
   clear e hg
   refine Le.mk (fun c1=> ?_) (fun c1=> ?_)
   ·(repeat ((try refine Vc.mk' ?_);simp (maxSteps:=6000000) only [go_sem]))
    rw [mb1 c1];rfl
   ·(repeat ((try refine Vc.mk' ?_);simp (maxSteps:=6000000) only [go_sem,ABw,I3]))
    refine Le.mk (fun c2=> ?_) (fun c2=> ?_)
    ·(repeat ((try refine Vc.mk' ?_);simp (maxSteps:=6000000) only [go_sem]))
     rw [ur c1,mb2 c2];rfl
    ·(repeat ((try refine Vc.mk' ?_);simp (maxSteps:=6000000) only [go_sem]))
     refine ⟨fun a=>⟨a,fun b=>⟨a,b⟩⟩, ?_⟩
     (repeat ((try refine Vc.mk' ?_);simp (maxSteps:=6000000) only [go_sem]))
     refine Le.mk (fun c3=> ?_) (fun c3=> ?_)
     ·(repeat ((try refine Vc.mk' ?_);simp (maxSteps:=6000000) only [go_sem]))
      rw [AV] at c3
      rw [ur c1,ACQ c2,mb3 c3];rfl
     ·(repeat ((try refine Vc.mk' ?_);simp (maxSteps:=6000000) only [go_sem,A8]))
      rw [AV] at c3
      rw [ur c1,ACQ c2,AEe c3]
      refine Ee ?_
      simp
      omega
end Go.Proofs.YthlhnangbinhoaaGreatDoor.Dm
