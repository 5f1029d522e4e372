/- What an op's fields may hold; the table of the kinds. -/
import Derived.Test.YthlhnangbinhoaaGreatDoorSB
set_option linter.unusedSimpArgs false
set_option linter.unusedVariables false
namespace Go.Proofs.YthlhnangbinhoaaGreatDoor.Dm
open Go.Dm
set_option maxHeartbeats 16000000
set_option maxRecDepth 20000
def My (n a b:Int):Bool:=decide (a≤n) && decide (n≤b)
def M9:Bz:= .pure (fun args _=>match args with | [x,y,z]=>Iy .i64 x∧Iy .i64 y∧Iy .i64 z | _=>False) (fun args _=>match args with | [x,y,z]=> .bool (My (intOf x) (intOf y) (intOf z)) | _=>undef)
theorem ux:BR Tryz.prog 76 M9:=by
 refine .mkPure Vm ?_
 intro args hp hpre top
 match args,hpre with
 | [x,y,z],⟨hx,hy,hz⟩=>
 rw [hx,hy,hz]
 refine Ae.Bn Bu Vm rfl 15 rfl [.tmp 6] rfl (show 3≤15 by decide) ?_
 refine CW.vc Qx [0,1,2,6] (by kernel_rfl) ?_
 (repeat ((try refine Vc.mk' ?_);simp (maxSteps:=6000000) only [go_sem]))
 refine KY ?_
 simp [My]
structure Gy (x:Aq):Prop where
 k:IE x.Kind
 r:IE x.Bl
 p:IE x.Dg
 g:IE x.CF
 e0:0≤x.BS
 e1:x.BS < 4294967296
 t:IE x.CB
 b:x.Bytes.length≤140737488351232
def ZT (v:Value):Prop:= ∃x,v= .agg ⟨A7.enc x⟩∧Gy x
def QG (v:Value):Aq:=A7.dec (Cm v)
theorem E8 {x:Aq}:QG (.agg ⟨A7.enc x⟩)=x:=A7.h x
theorem Vy {x:Aq}(h:Gy x):ZT (.agg ⟨A7.enc x⟩)=True:=eq_true ⟨x,rfl,h⟩
def Au (f k:Int):Bool:= !decide (Cu .and .i64 f k=0)
def jN (hp:Hp)(g:Nat):Int:=match hp g with
 |some (.cells _ _ [.int _ n])=>n
 |_=>0
theorem sJ {hp:Hp}{g:Nat}{n:Int}(h:hp g=some (.cells true 0 [.int .i64 n])):jN hp g=n:=by unfold jN;rw [h]
def tX (hp:Hp)(g:Nat):Prop:= ∃f,hp g=some (.cells true 0 [.int .i64 f])
theorem kc {hp:Hp}{g:Nat}{r:Bool}{z:Nat}{k:IntKind}{n:Int}:jN (hp.set g (some (.cells r z [.int k n]))) g=n:=by unfold jN;rw [AF]
theorem cQ {hp:Hp}{g:Nat}{n:Int}:tX (hp.set g (some (.cells true 0 [.int .i64 n]))) g=True:=eq_true ⟨n,AF _ _ _⟩
def QN:Bz:= .pure (fun args hp=>match args with | [.int .i64 _, .bool _, .bool _, .pointer (some ⟨g,0,none⟩)]=>tX hp g | _=>False)
 (fun args hp=>match args with | [k,z,r, .pointer (some ⟨g,_,_⟩)]=> .bool (if Au (jN hp g) (intOf k)=true then CH r else CH z) | _=>undef)
theorem qg:BR Tryz.prog 79 QN:=by
 refine .LN WU ?_ ?_
 ·intro args hp h
  match args,h with
  | [.int .i64 k, .bool z, .bool r, .pointer (some ⟨g,0,none⟩)],_=>rfl
 intro args hp hpre top hcl hsc
 match args,hpre with
 | [.int .i64 k, .bool z, .bool r, .pointer (some ⟨g,0,none⟩)],⟨f,hg⟩=>
 simp only [sJ hg,intOf_int,Lc]
 refine Ae.Bn Bu WU rfl 14 rfl [.tmp 7] rfl (show 4≤14 by decide) ?_
 cases hf:Au f k with
 |true=>
  have h1:¬Cu .and .i64 f k=0:=by simpa [Au] using hf
  refine CW.vc Qx [0,1,2,3,7,11] (by kernel_rfl) ?_
  (repeat ((try refine Vc.mk' ?_);simp (maxSteps:=6000000) only [go_sem,hg,h1,decide_false]))
 |false=>
  have h1:Cu .and .i64 f k=0:=by simpa [Au] using hf
  refine CW.vc Qx [0,1,2,3,7,11] (by kernel_rfl) ?_
  (repeat ((try refine Vc.mk' ?_);simp (maxSteps:=6000000) only [go_sem,hg,h1,decide_true]))
def GS4:FuncId→Bz:=Cx (Cx zM 76 M9) 79 QN
theorem th:DU Tryz.prog tt.get GS4:=(Qx.add ux).add qg
theorem AAR:GS4 76=M9:=rfl
theorem AA2:GS4 79=QN:=rfl
def m1 (x:Aq)(f:Int):Bool:=if Au f 1=true then My x.Bl 1 24 else decide (x.Bl=0)
def m2 (x:Aq)(f:Int):Bool:=if Au f 2=true then My x.Dg 1 24 else decide (x.Dg=0)
def m3 (x:Aq)(f:Int):Bool:=if Au f 4=true then My x.CF 0 7 else decide (x.CF=0)
def m4 (x:Aq)(f:Int):Bool:=if Au f 8=true then true else decide (x.BS=0)
def m5 (x:Aq)(f:Int):Bool:=if Au f 16=true then !decide ((512:Int) < (x.Bytes.length:Int)) else decide (x.Bytes= [])
def m6 (x:Aq)(f:Int):Bool:=if Au f 32=true then My x.CB 1 4096 else decide (x.CB=0)
def Dr (x:Aq)(f:Int):Bool:=m1 x f && m2 x f && m3 x f && m4 x f && m5 x f && m6 x f
def Fm:Bz:= .pure (fun args _=>match args with | [v, .int .i64 _]=>ZT v | _=>False) (fun args _=>match args with | [v,f]=> .bool (Dr (QG v) (intOf f)) | _=>undef)
theorem Zd:BR Tryz.prog 41 Fm:=by
 refine .LN Uw ?_ ?_
 ·rintro args hp h
  match args,h with
  | [_, .int .i64 _],⟨x,rfl,_⟩=>rfl
 intro args hp hpre top hcl hsc
 match args,hpre with
 | [_, .int .i64 f],⟨x,rfl,h⟩=>
 simp only [E8,intOf_int]
 refine Ae.Bn Bu Uw rfl 63 rfl [.tmp 4] rfl (show 2≤63 by decide) ?_
 refine CW.vc th [0,1,2,3,4,5] (by kernel_rfl) ?_
 have e1:(if Au f 1=true then My x.Bl 1 24 else decide (x.Bl=0))=m1 x f:=rfl
 have e2:(if Au f 2=true then My x.Dg 1 24 else decide (x.Dg=0))=m2 x f:=rfl
 have e3:(if Au f 4=true then My x.CF 0 7 else decide (x.CF=0))=m3 x f:=rfl
 have e4:(if Au f 8=true then true else decide (x.BS=0))=m4 x f:=rfl
 have e5:(if Au f 16=true then !decide ((512:Int) < (x.Bytes.length:Int)) else decide (x.Bytes= []))=m5 x f:=rfl
 have e6:(if Au f 32=true then My x.CB 1 4096 else decide (x.CB=0))=m6 x f:=rfl
 (repeat ((try refine Vc.mk' ?_);simp (maxSteps:=6000000) only [go_sem,AAR,AA2,M9,QN,cQ,kc,EY,GS,CV,Ah,e1,e2,e3,e4,e5,e6]))
 clear e1 e2 e3 e4 e5 e6
 unfold Dr
 generalize m1 x f=b1
 generalize m2 x f=b2
 generalize m3 x f=b3
 generalize m4 x f=b4
 generalize m5 x f=b5
 generalize m6 x f=b6
 cases b1 <;> cases b2 <;> cases b3 <;> cases b4 <;> cases b5 <;> cases b6 <;> (repeat ((try refine Vc.mk' ?_);simp (maxSteps:=6000000) only [go_sem]))
 all_goals rfl
def B6:List GI:= [⟨1, [116,105,99,107],32⟩,⟨2, [99,117,116],3⟩,⟨3, [109,101,110,100],3⟩,⟨4, [99,114,97,115,104],1⟩,⟨5, [115,116,97,114,116],1⟩,⟨6, [106,111,105,110],5⟩,⟨7, [108,101,97,118,101],5⟩,⟨8, [115,101,110,100],13⟩,⟨9, [114,97,119],19⟩,⟨10, [115,101,116,116,108,101],32⟩,⟨11, [119,104,111],5⟩,⟨12, [116,97,98,108,101],1⟩]
def RX:List Value:=RM.flat B6
theorem Qj:RX= [.int .i64 1, .string ⟨⟨[116,105,99,107]⟩⟩, .int .i64 32, .int .i64 2, .string ⟨⟨[99,117,116]⟩⟩, .int .i64 3, .int .i64 3, .string ⟨⟨[109,101,110,100]⟩⟩, .int .i64 3, .int .i64 4, .string ⟨⟨[99,114,97,115,104]⟩⟩, .int .i64 1, .int .i64 5, .string ⟨⟨[115,116,97,114,116]⟩⟩, .int .i64 1, .int .i64 6, .string ⟨⟨[106,111,105,110]⟩⟩, .int .i64 5, .int .i64 7, .string ⟨⟨[108,101,97,118,101]⟩⟩, .int .i64 5, .int .i64 8, .string ⟨⟨[115,101,110,100]⟩⟩, .int .i64 13, .int .i64 9, .string ⟨⟨[114,97,119]⟩⟩, .int .i64 19, .int .i64 10, .string ⟨⟨[115,101,116,116,108,101]⟩⟩, .int .i64 32, .int .i64 11, .string ⟨⟨[119,104,111]⟩⟩, .int .i64 5, .int .i64 12, .string ⟨⟨[116,97,98,108,101]⟩⟩, .int .i64 1]:=rfl
def MS:Bz:= .pure (fun args _=>args= []) (fun _ _=> .agg ⟨RX⟩)
def GS5:FuncId→Bz:=Cx GS4 41 Fm
theorem tS:DU Tryz.prog tt.get GS5:=th.add Zd
theorem qU:BR Tryz.prog 40 MS:=by
 refine .LN VN (fun _ _ _=>by rw [Qj];rfl) ?_
 intro args hp hpre top hcl hsc
 subst hpre
 rw [Qj]
 refine Ae.Bn Bu VN rfl 14 rfl [.cell 0 101] rfl (show 0≤14 by decide) ?_
 refine CW.vc tS [0] (by kernel_rfl) ?_
 (repeat ((try refine Vc.mk' ?_);simp (maxSteps:=6000000) only [go_sem]))
end Go.Proofs.YthlhnangbinhoaaGreatDoor.Dm
