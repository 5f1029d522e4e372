/- What an op's fields may hold; the table of the kinds. -/
import Derived.Test.YthlhnangbinhoaaGreatDoorSB
set_option linter.unusedVariables false
namespace Go.Proofs.YthlhnangbinhoaaGreatDoor.Dm
open Go.Dm
set_option maxHeartbeats 16000000
set_option maxRecDepth 20000
def Gk (n a b:Int):Bool:=decide (a≤n) && decide (n≤b)
def MN:Bb:= .pure (fun args _=>match args with | [x,y,z]=>Gx .i64 x∧Gx .i64 y∧Gx .i64 z | _=>False) (fun args _=>match args with | [x,y,z]=> .bool (Gk (intOf x) (intOf y) (intOf z)) | _=>undef)
theorem yB:A0 Tryz.prog 76 MN:=by
 refine .mkPure Tt ?_
 intro args hp hpre top
 match args,hpre with
 | [x,y,z],⟨hx,hy,hz⟩=>
 rw [hx,hy,hz]
 refine AR.A5 BA Tt rfl 15 rfl [.tmp 6] rfl (show 3≤15 by decide) ?_
 refine CW.vc RZ [0,1,2,6] (by kernel_rfl) ?_
 (repeat ((try refine Vc.mk' ?_);simp (maxSteps:=6000000) only [go_sem]))
 refine Ee ?_
 simp [Gk]
structure GZ (x:Ax):Prop where
 k:Fh x.Kind
 r:Fh x.Bj
 p:Fh x.C8
 g:Fh x.B1
 e0:0≤x.Bd
 e1:x.Bd < 4294967296
 t:Fh x.CJ
 b:x.Bytes.length≤140737488351232
def dT (v:Value):Prop:= ∃x,v= .agg ⟨Aw.enc x⟩∧GZ x
def Y0 (v:Value):Ax:=Aw.dec (Ca v)
theorem Br {x:Ax}:Y0 (.agg ⟨Aw.enc x⟩)=x:=Aw.h x
theorem R5 {x:Ax}(h:GZ x):dT (.agg ⟨Aw.enc x⟩)=True:=eq_true ⟨x,rfl,h⟩
def Ay (f k:Int):Bool:= !decide (CZ .and .i64 f k=0)
def gO (hp:Hp)(g:Nat):Int:=match hp g with
 |some (.cells _ _ [.int _ n])=>n
 |_=>0
theorem pd {hp:Hp}{g:Nat}{n:Int}(h:hp g=some (.cells true 0 [.int .i64 n])):gO hp g=n:=by unfold gO;rw [h]
def tu (hp:Hp)(g:Nat):Prop:= ∃f,hp g=some (.cells true 0 [.int .i64 f])
theorem lk {hp:Hp}{g:Nat}{r:Bool}{z:Nat}{k:IntKind}{n:Int}:gO (hp.set g (some (.cells r z [.int k n]))) g=n:=by unfold gO;rw [AG]
theorem bq {hp:Hp}{g:Nat}{n:Int}:tu (hp.set g (some (.cells true 0 [.int .i64 n]))) g=True:=eq_true ⟨n,AG _ _ _⟩
def Pm:Bb:= .pure (fun args hp=>match args with | [.int .i64 _, .bool _, .bool _, .pointer (some ⟨g,0,none⟩)]=>tu hp g | _=>False)
 (fun args hp=>match args with | [k,z,r, .pointer (some ⟨g,_,_⟩)]=> .bool (if Ay (gO hp g) (intOf k)=true then B2 r else B2 z) | _=>undef)
theorem qD:A0 Tryz.prog 79 Pm:=by
 refine .Fm Us ?_ ?_
 ·intro args hp h
  match args,h with
  | [.int .i64 k, .bool z, .bool r, .pointer (some ⟨g,0,none⟩)],_=>rfl
 intro args hp hpre top hcl hsc
 match args,hpre with
 | [.int .i64 k, .bool z, .bool r, .pointer (some ⟨g,0,none⟩)],⟨f,hg⟩=>
 simp only [pd hg,intOf_int,Kv]
 refine AR.A5 BA Us rfl 14 rfl [.tmp 7] rfl (show 4≤14 by decide) ?_
 cases hf:Ay f k with
 |true=>
  have h1:¬CZ .and .i64 f k=0:=by simpa [Ay] using hf
  refine CW.vc RZ [0,1,2,3,7,11] (by kernel_rfl) ?_
  (repeat ((try refine Vc.mk' ?_);simp (maxSteps:=6000000) only [go_sem,hg,h1,decide_false]))
 |false=>
  have h1:CZ .and .i64 f k=0:=by simpa [Ay] using hf
  refine CW.vc RZ [0,1,2,3,7,11] (by kernel_rfl) ?_
  (repeat ((try refine Vc.mk' ?_);simp (maxSteps:=6000000) only [go_sem,hg,h1,decide_true]))
def GS4:FuncId→Bb:=Bw (Bw GS3 76 MN) 79 Pm
theorem uA:CQ Tryz.prog tt.get GS4:=(RZ.add yB).add qD
theorem AB5:GS4 76=MN:=rfl
theorem zd:GS4 79=Pm:=rfl
def m1 (x:Ax)(f:Int):Bool:=if Ay f 1=true then Gk x.Bj 1 24 else decide (x.Bj=0)
def m2 (x:Ax)(f:Int):Bool:=if Ay f 2=true then Gk x.C8 1 24 else decide (x.C8=0)
def m3 (x:Ax)(f:Int):Bool:=if Ay f 4=true then Gk x.B1 0 7 else decide (x.B1=0)
def m4 (x:Ax)(f:Int):Bool:=if Ay f 8=true then true else decide (x.Bd=0)
def m5 (x:Ax)(f:Int):Bool:=if Ay f 16=true then !decide ((512:Int) < (x.Bytes.length:Int)) else decide (x.Bytes= [])
def m6 (x:Ax)(f:Int):Bool:=if Ay f 32=true then Gk x.CJ 1 4096 else decide (x.CJ=0)
def Ct (x:Ax)(f:Int):Bool:=m1 x f && m2 x f && m3 x f && m4 x f && m5 x f && m6 x f
def Fv:Bb:= .pure (fun args _=>match args with | [v, .int .i64 _]=>dT v | _=>False) (fun args _=>match args with | [v,f]=> .bool (Ct (Y0 v) (intOf f)) | _=>undef)
theorem YK:A0 Tryz.prog 41 Fv:=by
 refine .Fm Ug ?_ ?_
 ·rintro args hp h
  match args,h with
  | [_, .int .i64 _],⟨x,rfl,_⟩=>rfl
 intro args hp hpre top hcl hsc
 match args,hpre with
 | [_, .int .i64 f],⟨x,rfl,h⟩=>
 simp only [Br,intOf_int]
 refine AR.A5 BA Ug rfl 63 rfl [.tmp 4] rfl (show 2≤63 by decide) ?_
 refine CW.vc uA [0,1,2,3,4,5] (by kernel_rfl) ?_
 have e1:(if Ay f 1=true then Gk x.Bj 1 24 else decide (x.Bj=0))=m1 x f:=rfl
 have e2:(if Ay f 2=true then Gk x.C8 1 24 else decide (x.C8=0))=m2 x f:=rfl
 have e3:(if Ay f 4=true then Gk x.B1 0 7 else decide (x.B1=0))=m3 x f:=rfl
 have e4:(if Ay f 8=true then true else decide (x.Bd=0))=m4 x f:=rfl
 have e5:(if Ay f 16=true then !decide ((512:Int) < (x.Bytes.length:Int)) else decide (x.Bytes= []))=m5 x f:=rfl
 have e6:(if Ay f 32=true then Gk x.CJ 1 4096 else decide (x.CJ=0))=m6 x f:=rfl
 (repeat ((try refine Vc.mk' ?_);simp (maxSteps:=6000000) only [go_sem,AB5,zd,MN,Pm,bq,lk,Ek,FX,A8,AV,e1,e2,e3,e4,e5,e6]))
 clear e1 e2 e3 e4 e5 e6
 unfold Ct
 generalize m1 x f=b1
 generalize m2 x f=b2
 generalize m3 x f=b3
 generalize m4 x f=b4
 generalize m5 x f=b5
 generalize m6 x f=b6
 cases b1 <;> cases b2 <;> cases b3 <;> cases b4 <;> cases b5 <;> cases b6 <;> (repeat ((try refine Vc.mk' ?_);simp (maxSteps:=6000000) only [go_sem]))
 all_goals rfl
def BV:List De:= [⟨1, [116,105,99,107],32⟩,⟨2, [99,117,116],3⟩,⟨3, [109,101,110,100],3⟩,⟨4, [99,114,97,115,104],1⟩,⟨5, [115,116,97,114,116],1⟩,⟨6, [106,111,105,110],5⟩,⟨7, [108,101,97,118,101],5⟩,⟨8, [115,101,110,100],13⟩,⟨9, [114,97,119],19⟩,⟨10, [115,101,116,116,108,101],32⟩,⟨11, [119,104,111],5⟩,⟨12, [116,97,98,108,101],1⟩]
def QY:List Value:=RC.flat BV
theorem RD:QY= [.int .i64 1, .string ⟨⟨[116,105,99,107]⟩⟩, .int .i64 32, .int .i64 2, .string ⟨⟨[99,117,116]⟩⟩, .int .i64 3, .int .i64 3, .string ⟨⟨[109,101,110,100]⟩⟩, .int .i64 3, .int .i64 4, .string ⟨⟨[99,114,97,115,104]⟩⟩, .int .i64 1, .int .i64 5, .string ⟨⟨[115,116,97,114,116]⟩⟩, .int .i64 1, .int .i64 6, .string ⟨⟨[106,111,105,110]⟩⟩, .int .i64 5, .int .i64 7, .string ⟨⟨[108,101,97,118,101]⟩⟩, .int .i64 5, .int .i64 8, .string ⟨⟨[115,101,110,100]⟩⟩, .int .i64 13, .int .i64 9, .string ⟨⟨[114,97,119]⟩⟩, .int .i64 19, .int .i64 10, .string ⟨⟨[115,101,116,116,108,101]⟩⟩, .int .i64 32, .int .i64 11, .string ⟨⟨[119,104,111]⟩⟩, .int .i64 5, .int .i64 12, .string ⟨⟨[116,97,98,108,101]⟩⟩, .int .i64 1]:=rfl
def K5:Bb:= .pure (fun args _=>args= []) (fun _ _=> .agg ⟨QY⟩)
def GS5:FuncId→Bb:=Bw GS4 41 Fv
theorem tU:CQ Tryz.prog tt.get GS5:=uA.add YK
theorem pE:A0 Tryz.prog 40 K5:=by
 refine .Fm Uw (fun _ _ _=>by rw [RD];rfl) ?_
 intro args hp hpre top hcl hsc
 subst hpre
 rw [RD]
 refine AR.A5 BA Uw rfl 14 rfl [.cell 0 101] rfl (show 0≤14 by decide) ?_
 refine CW.vc tU [0] (by kernel_rfl) ?_
 (repeat ((try refine Vc.mk' ?_);simp (maxSteps:=6000000) only [go_sem]))
end Go.Proofs.YthlhnangbinhoaaGreatDoor.Dm
