/- An op that may be, by small numbers. -/
import Derived.Test.YthlhnangbinhoaaGreatDoorTFX
set_option linter.unusedSimpArgs false
set_option linter.unusedVariables false
namespace Go.Proofs.YthlhnangbinhoaaGreatDoor.Dm
open Go.Dm
set_option maxHeartbeats 64000000
set_option maxRecDepth 20000
structure QH (d:C6):Prop where
 k0:0≤d.Kind
 k1:d.Kind < 256
 r0:0≤d.Bl
 r1:d.Bl < 256
 p0:0≤d.Dg
 p1:d.Dg < 256
 g0:0≤d.CF
 g1:d.CF < 256
 t0:0≤d.CB
 t1:d.CB < 65536
 e0:0≤d.BS
 e1:d.BS < 4294967296
 b:d.Bytes.length≤9223372036854775807
def AAU (v:Value):Prop:= ∃d,v= .agg ⟨B8.enc d⟩∧QH d
def AAk (v:Value):C6:=B8.dec (Cm v)
theorem Qt {x:C6}:AAk (.agg ⟨B8.enc x⟩)=x:=B8.h x
theorem AAW {x:C6}(h:QH x):AAU (.agg ⟨B8.enc x⟩)=True:=eq_true ⟨x,rfl,h⟩
def HQ (d:C6):Int:=1+d.Kind % 12
def Ht (d:C6):Int:=1+d.Bl % 24
def P2 (d:C6):Int:=1+d.Dg % 24
def OX (d:C6):Int:=d.CF % 8
def Se (d:C6):Int:=1+d.CB % 4096
def HH (d:C6):Aq:=
 if HQ d=1∨HQ d=10 then ⟨HQ d,0,0,0,0,Se d, []⟩
 else if HQ d=2∨HQ d=3 then ⟨HQ d,Ht d,P2 d,0,0,0, []⟩
 else if HQ d=6∨HQ d=7∨HQ d=11 then ⟨HQ d,Ht d,0,OX d,0,0, []⟩
 else if HQ d=8 then ⟨HQ d,Ht d,0,OX d,d.BS,0, []⟩
 else if HQ d=9 then ⟨HQ d,Ht d,P2 d,0,0,0,d.Bytes.take 20⟩
 else ⟨HQ d,Ht d,0,0,0,0, []⟩
theorem Yt {h':Hp}{s:List UInt8}{f i:Nat}(h1:f≤i)(h2:i≤s.length):Bv tt.get h' 9 (.string ⟨⟨s⟩⟩) (some (.int .i64 (f:Int))) (some (.int .i64 (i:Int)))=(.string ⟨⟨(s.drop f).take (i - f)⟩⟩,True):=by
 unfold Bv
 simp only [Ic]
 simp [B7,EA,strOf,Sb,Sf,intOf]
 omega
theorem Lt {h':Hp}{s:List UInt8}{i:Nat}(h2:i≤s.length):Bv tt.get h' 9 (.string ⟨⟨s⟩⟩) none (some (.int .i64 (i:Int)))=(.string ⟨⟨s.take i⟩⟩,True):=by
 have:=Yt (h':=h') (s:=s) (f:=0) (i:=i) (Nat.zero_le _) h2
 unfold Bv at this ⊢
 simp only [Ic] at this ⊢
 simpa [B7,EA] using this
theorem eB {h':Hp}{s:List UInt8}:Bv tt.get h' 9 (.string ⟨⟨s⟩⟩) none (some (.int .i64 (bif decide ((20:Int) < (s.length:Int)) then 20 else (s.length:Int))))=(.string ⟨⟨s.take 20⟩⟩,True):=by
 by_cases h:20 < s.length
 ·rw [show decide ((20:Int) < (s.length:Int))=true from decide_eq_true (by omega)]
  exact Lt (i:=20) (by omega)
 ·rw [show decide ((20:Int) < (s.length:Int))=false from decide_eq_false (by omega)]
  have:=Lt (h':=h') (s:=s) (i:=s.length) (Nat.le_refl _)
  rw [List.take_length] at this
  rw [List.take_of_length_le (show s.length≤20 by omega)]
  exact this
def E3:Bz:= .pure (fun args _=>match args with | [v]=>AAU v | _=>False) (fun args _=>match args with | [v]=> .agg ⟨A7.enc (HH (AAk v))⟩ | _=>undef)
theorem iw:BR Tryz.prog 14 E3:=by
 refine .LN VK ?_ ?_
 ·intro args hp h
  match args,h with
  | [v],_=>rfl
 intro args hp hpre top hcl hsc
 match args,hpre with
 | [_],⟨d,rfl,hD⟩=>
 simp only [Qt]
 refine Ae.Bn Bu VK rfl 73 rfl [.cell 2 43] rfl (show 1≤73 by decide) ?_
 have hj:0≤d.Kind % 12∧d.Kind % 12 < 12:=⟨Int.emod_nonneg _ (by decide),Int.emod_lt_of_pos _ (by decide)⟩
 have tK:d.Kind.tmod 12=d.Kind % 12:=Int.tmod_eq_emod_of_nonneg hD.k0
 have tR:d.Bl.tmod 24=d.Bl % 24:=Int.tmod_eq_emod_of_nonneg hD.r0
 have tP:d.Dg.tmod 24=d.Dg % 24:=Int.tmod_eq_emod_of_nonneg hD.p0
 have tG:d.CF.tmod 8=d.CF % 8:=Int.tmod_eq_emod_of_nonneg hD.g0
 have tT:d.CB.tmod 4096=d.CB % 4096:=Int.tmod_eq_emod_of_nonneg hD.t0
 have w1:∀ {x m:Int},0 < m→m≤4096→Ar .i64 (x % m)=x % m:=fun {x m} h0 h1=>by
  have a:=Int.emod_nonneg x (show m≠0 by omega)
  have b:=Int.emod_lt_of_pos x h0
  exact wrap64 (by omega) (by omega)
 have w2:∀ {x m:Int},0 < m→m≤4096→Ar .i64 (1+x % m)=1+x % m:=fun {x m} h0 h1=>by
  have a:=Int.emod_nonneg x (show m≠0 by omega)
  have b:=Int.emod_lt_of_pos x h0
  exact wrap64 (by omega) (by omega)
 have wK:=w1 (x:=d.Kind) (m:=12) (by decide) (by decide)
 have wR:=w1 (x:=d.Bl) (m:=24) (by decide) (by decide)
 have wP:=w1 (x:=d.Dg) (m:=24) (by decide) (by decide)
 have wG:=w1 (x:=d.CF) (m:=8) (by decide) (by decide)
 have wT:=w1 (x:=d.CB) (m:=4096) (by decide) (by decide)
 have wR2:=w2 (x:=d.Bl) (m:=24) (by decide) (by decide)
 have wP2:=w2 (x:=d.Dg) (m:=24) (by decide) (by decide)
 have wT2:=w2 (x:=d.CB) (m:=4096) (by decide) (by decide)
 have hcase:d.Kind % 12=0∨d.Kind % 12=1∨d.Kind % 12=2∨d.Kind % 12=3∨d.Kind % 12=4∨d.Kind % 12=5∨d.Kind % 12=6∨d.Kind % 12=7∨d.Kind % 12=8∨d.Kind % 12=9∨d.Kind % 12=10∨d.Kind % 12=11:=by omega
 have wJ:∀j:Fin 12,Ar .i64 (j.val:Int)=j.val∧Ar .i64 (1+(j.val:Int))=1+j.val:=by decide +kernel
 rcases hcase with h | h | h | h | h | h | h | h | h | h | h | h
 ·have e:HH d=⟨1,0,0,0,0,Se d, []⟩:=by unfold HH;rw [show HQ d=1 from by unfold HQ;rw [h];rfl];rfl
  rw [e]
  have k1:Ar .i64 (0:Int)=0:=(wJ ⟨0,by decide⟩).1
  have k2:Ar .i64 (1+0:Int)=1:=(wJ ⟨0,by decide⟩).2
  refine CW.vc Ep [0,1,2,3,11,12,22,31,40,50] (by kernel_rfl) ?_
  (repeat ((try refine Vc.mk' ?_);simp (maxSteps:=6000000) only [go_sem,JH,Aw,tK,tR,tP,tG,tT,h,k1,k2,wR,wP,wG,wT,wR2,wP2,wT2,Ht,P2,OX,Se]))
 ·have e:HH d=⟨2,Ht d,P2 d,0,0,0, []⟩:=by unfold HH;rw [show HQ d=2 from by unfold HQ;rw [h];rfl];rfl
  rw [e]
  have k1:Ar .i64 (1:Int)=1:=(wJ ⟨1,by decide⟩).1
  have k2:Ar .i64 (1+1:Int)=2:=(wJ ⟨1,by decide⟩).2
  refine CW.vc Ep [0,1,2,3,11,12,22,31,40,50] (by kernel_rfl) ?_
  (repeat ((try refine Vc.mk' ?_);simp (maxSteps:=6000000) only [go_sem,JH,Aw,tK,tR,tP,tG,tT,h,k1,k2,wR,wP,wG,wT,wR2,wP2,wT2,Ht,P2,OX,Se]))
 ·have e:HH d=⟨3,Ht d,P2 d,0,0,0, []⟩:=by unfold HH;rw [show HQ d=3 from by unfold HQ;rw [h];rfl];rfl
  rw [e]
  have k1:Ar .i64 (2:Int)=2:=(wJ ⟨2,by decide⟩).1
  have k2:Ar .i64 (1+2:Int)=3:=(wJ ⟨2,by decide⟩).2
  refine CW.vc Ep [0,1,2,3,11,12,22,31,40,50] (by kernel_rfl) ?_
  (repeat ((try refine Vc.mk' ?_);simp (maxSteps:=6000000) only [go_sem,JH,Aw,tK,tR,tP,tG,tT,h,k1,k2,wR,wP,wG,wT,wR2,wP2,wT2,Ht,P2,OX,Se]))
 ·have e:HH d=⟨4,Ht d,0,0,0,0, []⟩:=by unfold HH;rw [show HQ d=4 from by unfold HQ;rw [h];rfl];rfl
  rw [e]
  have k1:Ar .i64 (3:Int)=3:=(wJ ⟨3,by decide⟩).1
  have k2:Ar .i64 (1+3:Int)=4:=(wJ ⟨3,by decide⟩).2
  refine CW.vc Ep [0,1,2,3,11,12,22,31,40,50] (by kernel_rfl) ?_
  (repeat ((try refine Vc.mk' ?_);simp (maxSteps:=6000000) only [go_sem,JH,Aw,tK,tR,tP,tG,tT,h,k1,k2,wR,wP,wG,wT,wR2,wP2,wT2,Ht,P2,OX,Se]))
 ·have e:HH d=⟨5,Ht d,0,0,0,0, []⟩:=by unfold HH;rw [show HQ d=5 from by unfold HQ;rw [h];rfl];rfl
  rw [e]
  have k1:Ar .i64 (4:Int)=4:=(wJ ⟨4,by decide⟩).1
  have k2:Ar .i64 (1+4:Int)=5:=(wJ ⟨4,by decide⟩).2
  refine CW.vc Ep [0,1,2,3,11,12,22,31,40,50] (by kernel_rfl) ?_
  (repeat ((try refine Vc.mk' ?_);simp (maxSteps:=6000000) only [go_sem,JH,Aw,tK,tR,tP,tG,tT,h,k1,k2,wR,wP,wG,wT,wR2,wP2,wT2,Ht,P2,OX,Se]))
 ·have e:HH d=⟨6,Ht d,0,OX d,0,0, []⟩:=by unfold HH;rw [show HQ d=6 from by unfold HQ;rw [h];rfl];rfl
  rw [e]
  have k1:Ar .i64 (5:Int)=5:=(wJ ⟨5,by decide⟩).1
  have k2:Ar .i64 (1+5:Int)=6:=(wJ ⟨5,by decide⟩).2
  refine CW.vc Ep [0,1,2,3,11,12,22,31,40,50] (by kernel_rfl) ?_
  (repeat ((try refine Vc.mk' ?_);simp (maxSteps:=6000000) only [go_sem,JH,Aw,tK,tR,tP,tG,tT,h,k1,k2,wR,wP,wG,wT,wR2,wP2,wT2,Ht,P2,OX,Se]))
 ·have e:HH d=⟨7,Ht d,0,OX d,0,0, []⟩:=by unfold HH;rw [show HQ d=7 from by unfold HQ;rw [h];rfl];rfl
  rw [e]
  have k1:Ar .i64 (6:Int)=6:=(wJ ⟨6,by decide⟩).1
  have k2:Ar .i64 (1+6:Int)=7:=(wJ ⟨6,by decide⟩).2
  refine CW.vc Ep [0,1,2,3,11,12,22,31,40,50] (by kernel_rfl) ?_
  (repeat ((try refine Vc.mk' ?_);simp (maxSteps:=6000000) only [go_sem,JH,Aw,tK,tR,tP,tG,tT,h,k1,k2,wR,wP,wG,wT,wR2,wP2,wT2,Ht,P2,OX,Se]))
 ·have e:HH d=⟨8,Ht d,0,OX d,d.BS,0, []⟩:=by unfold HH;rw [show HQ d=8 from by unfold HQ;rw [h];rfl];rfl
  rw [e]
  have k1:Ar .i64 (7:Int)=7:=(wJ ⟨7,by decide⟩).1
  have k2:Ar .i64 (1+7:Int)=8:=(wJ ⟨7,by decide⟩).2
  refine CW.vc Ep [0,1,2,3,11,12,22,31,40,50] (by kernel_rfl) ?_
  (repeat ((try refine Vc.mk' ?_);simp (maxSteps:=6000000) only [go_sem,JH,Aw,tK,tR,tP,tG,tT,h,k1,k2,wR,wP,wG,wT,wR2,wP2,wT2,Ht,P2,OX,Se]))
 ·have e:HH d=⟨9,Ht d,P2 d,0,0,0,d.Bytes.take 20⟩:=by unfold HH;rw [show HQ d=9 from by unfold HQ;rw [h];rfl];rfl
  rw [e]
  have k1:Ar .i64 (8:Int)=8:=(wJ ⟨8,by decide⟩).1
  have k2:Ar .i64 (1+8:Int)=9:=(wJ ⟨8,by decide⟩).2
  refine CW.vc Ep [0,1,2,3,11,12,22,31,40,50] (by kernel_rfl) ?_
  (repeat ((try refine Vc.mk' ?_);simp (maxSteps:=6000000) only [go_sem,JH,Aw,tK,tR,tP,tG,tT,h,k1,k2,wR,wP,wG,wT,wR2,wP2,wT2,Ht,P2,OX,Se,CV,eB]))
 ·have e:HH d=⟨10,0,0,0,0,Se d, []⟩:=by unfold HH;rw [show HQ d=10 from by unfold HQ;rw [h];rfl];rfl
  rw [e]
  have k1:Ar .i64 (9:Int)=9:=(wJ ⟨9,by decide⟩).1
  have k2:Ar .i64 (1+9:Int)=10:=(wJ ⟨9,by decide⟩).2
  refine CW.vc Ep [0,1,2,3,11,12,22,31,40,50] (by kernel_rfl) ?_
  (repeat ((try refine Vc.mk' ?_);simp (maxSteps:=6000000) only [go_sem,JH,Aw,tK,tR,tP,tG,tT,h,k1,k2,wR,wP,wG,wT,wR2,wP2,wT2,Ht,P2,OX,Se]))
 ·have e:HH d=⟨11,Ht d,0,OX d,0,0, []⟩:=by unfold HH;rw [show HQ d=11 from by unfold HQ;rw [h];rfl];rfl
  rw [e]
  have k1:Ar .i64 (10:Int)=10:=(wJ ⟨10,by decide⟩).1
  have k2:Ar .i64 (1+10:Int)=11:=(wJ ⟨10,by decide⟩).2
  refine CW.vc Ep [0,1,2,3,11,12,22,31,40,50] (by kernel_rfl) ?_
  (repeat ((try refine Vc.mk' ?_);simp (maxSteps:=6000000) only [go_sem,JH,Aw,tK,tR,tP,tG,tT,h,k1,k2,wR,wP,wG,wT,wR2,wP2,wT2,Ht,P2,OX,Se]))
 ·have e:HH d=⟨12,Ht d,0,0,0,0, []⟩:=by unfold HH;rw [show HQ d=12 from by unfold HQ;rw [h];rfl];rfl
  rw [e]
  have k1:Ar .i64 (11:Int)=11:=(wJ ⟨11,by decide⟩).1
  have k2:Ar .i64 (1+11:Int)=12:=(wJ ⟨11,by decide⟩).2
  refine CW.vc Ep [0,1,2,3,11,12,22,31,40,50] (by kernel_rfl) ?_
  (repeat ((try refine Vc.mk' ?_);simp (maxSteps:=6000000) only [go_sem,JH,Aw,tK,tR,tP,tG,tT,h,k1,k2,wR,wP,wG,wT,wR2,wP2,wT2,Ht,P2,OX,Se]))
end Go.Proofs.YthlhnangbinhoaaGreatDoor.Dm
