/- qf by small numbers may be; their texts are short. -/
import Derived.Test.YthlhnangbinhoaaGreatDoorSO
import Derived.Test.YthlhnangbinhoaaGreatDoorSVL
import Derived.KernelRfl
set_option linter.unusedSimpArgs false
set_option linter.unusedVariables false
namespace Go.Proofs.YthlhnangbinhoaaGreatDoor.Dm
open Go.Dm
set_option maxHeartbeats 16000000
set_option maxRecDepth 20000
theorem ed {d:C6}(h:QH d):(1≤HQ d∧HQ d≤12)∧(1≤Ht d∧Ht d≤24)∧(1≤P2 d∧P2 d≤24)∧(0≤OX d∧OX d≤7)∧(1≤Se d∧Se d≤4096):=by
 unfold HQ Ht P2 OX Se
 omega
theorem b9 {d:C6}(h:QH d):Gy (HH d)∧(LH (HH d)).isSome=true∧(HH d).Bytes.length≤20:=by
 obtain ⟨⟨k0,k1⟩,⟨r0,r1⟩,⟨p0,p1⟩,⟨g0,g1⟩,⟨t0,t1⟩⟩:=ed h
 have e0:=h.e0
 have e1:=h.e1
 have hk:HQ d=1∨HQ d=2∨HQ d=3∨HQ d=4∨HQ d=5∨HQ d=6∨HQ d=7∨HQ d=8∨HQ d=9∨HQ d=10∨HQ d=11∨HQ d=12:=by omega
 have hb:(d.Bytes.take 20).length≤20:=by rw [List.length_take];omega
 have hI:∀ {n:Int},0≤n→n≤4096→IE n:=fun a b=>⟨by omega,by omega⟩
 have hs:∀ {o:Aq} {r:GI},Ib o.Kind B6=some r→Dr o r.fields=true→(LH o).isSome=true:=fun {o} {r} a b=>by
  unfold LH;rw [a];dsimp only;rw [if_pos b];rfl
 rcases hk with h | h | h | h | h | h | h | h | h | h | h | h
 ·have e:HH d=⟨1,0,0,0,0,Se d, []⟩:=by unfold HH;rw [h];rfl
  rw [e]
  have f1:Au 32 1=false:=by kernel_rfl
  have f2:Au 32 2=false:=by kernel_rfl
  have f4:Au 32 4=false:=by kernel_rfl
  have f8:Au 32 8=false:=by kernel_rfl
  have f16:Au 32 16=false:=by kernel_rfl
  have f32:Au 32 32=true:=by kernel_rfl
  refine ⟨⟨hI (by dsimp only;omega) (by dsimp only;omega),hI (by dsimp only;omega) (by dsimp only;omega),hI (by dsimp only;omega) (by dsimp only;omega),hI (by dsimp only;omega) (by dsimp only;omega),by dsimp only;omega,by dsimp only;omega,hI (by dsimp only;omega) (by dsimp only;omega),by dsimp only;simp⟩,hs (r:=at' B6 0) rfl ?_,by simp⟩
  show Dr ⟨1,0,0,0,0,Se d, []⟩ 32=true
  simp only [Dr,m1,m2,m3,m4,m5,m6,f1,f2,f4,f8,f16,f32,My,if_true,if_false,Bool.false_eq_true,Bool.and_eq_true,decide_eq_true_eq,Bool.not_eq_true',decide_eq_false_iff_not]
  simp;omega
 ·have e:HH d=⟨2,Ht d,P2 d,0,0,0, []⟩:=by unfold HH;rw [h];rfl
  rw [e]
  have f1:Au 3 1=true:=by kernel_rfl
  have f2:Au 3 2=true:=by kernel_rfl
  have f4:Au 3 4=false:=by kernel_rfl
  have f8:Au 3 8=false:=by kernel_rfl
  have f16:Au 3 16=false:=by kernel_rfl
  have f32:Au 3 32=false:=by kernel_rfl
  refine ⟨⟨hI (by dsimp only;omega) (by dsimp only;omega),hI (by dsimp only;omega) (by dsimp only;omega),hI (by dsimp only;omega) (by dsimp only;omega),hI (by dsimp only;omega) (by dsimp only;omega),by dsimp only;omega,by dsimp only;omega,hI (by dsimp only;omega) (by dsimp only;omega),by dsimp only;simp⟩,hs (r:=at' B6 1) rfl ?_,by simp⟩
  show Dr ⟨2,Ht d,P2 d,0,0,0, []⟩ 3=true
  simp only [Dr,m1,m2,m3,m4,m5,m6,f1,f2,f4,f8,f16,f32,My,if_true,if_false,Bool.false_eq_true,Bool.and_eq_true,decide_eq_true_eq,Bool.not_eq_true',decide_eq_false_iff_not]
  simp;omega
 ·have e:HH d=⟨3,Ht d,P2 d,0,0,0, []⟩:=by unfold HH;rw [h];rfl
  rw [e]
  have f1:Au 3 1=true:=by kernel_rfl
  have f2:Au 3 2=true:=by kernel_rfl
  have f4:Au 3 4=false:=by kernel_rfl
  have f8:Au 3 8=false:=by kernel_rfl
  have f16:Au 3 16=false:=by kernel_rfl
  have f32:Au 3 32=false:=by kernel_rfl
  refine ⟨⟨hI (by dsimp only;omega) (by dsimp only;omega),hI (by dsimp only;omega) (by dsimp only;omega),hI (by dsimp only;omega) (by dsimp only;omega),hI (by dsimp only;omega) (by dsimp only;omega),by dsimp only;omega,by dsimp only;omega,hI (by dsimp only;omega) (by dsimp only;omega),by dsimp only;simp⟩,hs (r:=at' B6 2) rfl ?_,by simp⟩
  show Dr ⟨3,Ht d,P2 d,0,0,0, []⟩ 3=true
  simp only [Dr,m1,m2,m3,m4,m5,m6,f1,f2,f4,f8,f16,f32,My,if_true,if_false,Bool.false_eq_true,Bool.and_eq_true,decide_eq_true_eq,Bool.not_eq_true',decide_eq_false_iff_not]
  simp;omega
 ·have e:HH d=⟨4,Ht d,0,0,0,0, []⟩:=by unfold HH;rw [h];rfl
  rw [e]
  have f1:Au 1 1=true:=by kernel_rfl
  have f2:Au 1 2=false:=by kernel_rfl
  have f4:Au 1 4=false:=by kernel_rfl
  have f8:Au 1 8=false:=by kernel_rfl
  have f16:Au 1 16=false:=by kernel_rfl
  have f32:Au 1 32=false:=by kernel_rfl
  refine ⟨⟨hI (by dsimp only;omega) (by dsimp only;omega),hI (by dsimp only;omega) (by dsimp only;omega),hI (by dsimp only;omega) (by dsimp only;omega),hI (by dsimp only;omega) (by dsimp only;omega),by dsimp only;omega,by dsimp only;omega,hI (by dsimp only;omega) (by dsimp only;omega),by dsimp only;simp⟩,hs (r:=at' B6 3) rfl ?_,by simp⟩
  show Dr ⟨4,Ht d,0,0,0,0, []⟩ 1=true
  simp only [Dr,m1,m2,m3,m4,m5,m6,f1,f2,f4,f8,f16,f32,My,if_true,if_false,Bool.false_eq_true,Bool.and_eq_true,decide_eq_true_eq,Bool.not_eq_true',decide_eq_false_iff_not]
  simp;omega
 ·have e:HH d=⟨5,Ht d,0,0,0,0, []⟩:=by unfold HH;rw [h];rfl
  rw [e]
  have f1:Au 1 1=true:=by kernel_rfl
  have f2:Au 1 2=false:=by kernel_rfl
  have f4:Au 1 4=false:=by kernel_rfl
  have f8:Au 1 8=false:=by kernel_rfl
  have f16:Au 1 16=false:=by kernel_rfl
  have f32:Au 1 32=false:=by kernel_rfl
  refine ⟨⟨hI (by dsimp only;omega) (by dsimp only;omega),hI (by dsimp only;omega) (by dsimp only;omega),hI (by dsimp only;omega) (by dsimp only;omega),hI (by dsimp only;omega) (by dsimp only;omega),by dsimp only;omega,by dsimp only;omega,hI (by dsimp only;omega) (by dsimp only;omega),by dsimp only;simp⟩,hs (r:=at' B6 4) rfl ?_,by simp⟩
  show Dr ⟨5,Ht d,0,0,0,0, []⟩ 1=true
  simp only [Dr,m1,m2,m3,m4,m5,m6,f1,f2,f4,f8,f16,f32,My,if_true,if_false,Bool.false_eq_true,Bool.and_eq_true,decide_eq_true_eq,Bool.not_eq_true',decide_eq_false_iff_not]
  simp;omega
 ·have e:HH d=⟨6,Ht d,0,OX d,0,0, []⟩:=by unfold HH;rw [h];rfl
  rw [e]
  have f1:Au 5 1=true:=by kernel_rfl
  have f2:Au 5 2=false:=by kernel_rfl
  have f4:Au 5 4=true:=by kernel_rfl
  have f8:Au 5 8=false:=by kernel_rfl
  have f16:Au 5 16=false:=by kernel_rfl
  have f32:Au 5 32=false:=by kernel_rfl
  refine ⟨⟨hI (by dsimp only;omega) (by dsimp only;omega),hI (by dsimp only;omega) (by dsimp only;omega),hI (by dsimp only;omega) (by dsimp only;omega),hI (by dsimp only;omega) (by dsimp only;omega),by dsimp only;omega,by dsimp only;omega,hI (by dsimp only;omega) (by dsimp only;omega),by dsimp only;simp⟩,hs (r:=at' B6 5) rfl ?_,by simp⟩
  show Dr ⟨6,Ht d,0,OX d,0,0, []⟩ 5=true
  simp only [Dr,m1,m2,m3,m4,m5,m6,f1,f2,f4,f8,f16,f32,My,if_true,if_false,Bool.false_eq_true,Bool.and_eq_true,decide_eq_true_eq,Bool.not_eq_true',decide_eq_false_iff_not]
  simp;omega
 ·have e:HH d=⟨7,Ht d,0,OX d,0,0, []⟩:=by unfold HH;rw [h];rfl
  rw [e]
  have f1:Au 5 1=true:=by kernel_rfl
  have f2:Au 5 2=false:=by kernel_rfl
  have f4:Au 5 4=true:=by kernel_rfl
  have f8:Au 5 8=false:=by kernel_rfl
  have f16:Au 5 16=false:=by kernel_rfl
  have f32:Au 5 32=false:=by kernel_rfl
  refine ⟨⟨hI (by dsimp only;omega) (by dsimp only;omega),hI (by dsimp only;omega) (by dsimp only;omega),hI (by dsimp only;omega) (by dsimp only;omega),hI (by dsimp only;omega) (by dsimp only;omega),by dsimp only;omega,by dsimp only;omega,hI (by dsimp only;omega) (by dsimp only;omega),by dsimp only;simp⟩,hs (r:=at' B6 6) rfl ?_,by simp⟩
  show Dr ⟨7,Ht d,0,OX d,0,0, []⟩ 5=true
  simp only [Dr,m1,m2,m3,m4,m5,m6,f1,f2,f4,f8,f16,f32,My,if_true,if_false,Bool.false_eq_true,Bool.and_eq_true,decide_eq_true_eq,Bool.not_eq_true',decide_eq_false_iff_not]
  simp;omega
 ·have e:HH d=⟨8,Ht d,0,OX d,d.BS,0, []⟩:=by unfold HH;rw [h];rfl
  rw [e]
  have f1:Au 13 1=true:=by kernel_rfl
  have f2:Au 13 2=false:=by kernel_rfl
  have f4:Au 13 4=true:=by kernel_rfl
  have f8:Au 13 8=true:=by kernel_rfl
  have f16:Au 13 16=false:=by kernel_rfl
  have f32:Au 13 32=false:=by kernel_rfl
  refine ⟨⟨hI (by dsimp only;omega) (by dsimp only;omega),hI (by dsimp only;omega) (by dsimp only;omega),hI (by dsimp only;omega) (by dsimp only;omega),hI (by dsimp only;omega) (by dsimp only;omega),by dsimp only;omega,by dsimp only;omega,hI (by dsimp only;omega) (by dsimp only;omega),by dsimp only;simp⟩,hs (r:=at' B6 7) rfl ?_,by simp⟩
  show Dr ⟨8,Ht d,0,OX d,d.BS,0, []⟩ 13=true
  simp only [Dr,m1,m2,m3,m4,m5,m6,f1,f2,f4,f8,f16,f32,My,if_true,if_false,Bool.false_eq_true,Bool.and_eq_true,decide_eq_true_eq,Bool.not_eq_true',decide_eq_false_iff_not]
  simp;omega
 ·have e:HH d=⟨9,Ht d,P2 d,0,0,0,d.Bytes.take 20⟩:=by unfold HH;rw [h];rfl
  rw [e]
  have f1:Au 19 1=true:=by kernel_rfl
  have f2:Au 19 2=true:=by kernel_rfl
  have f4:Au 19 4=false:=by kernel_rfl
  have f8:Au 19 8=false:=by kernel_rfl
  have f16:Au 19 16=true:=by kernel_rfl
  have f32:Au 19 32=false:=by kernel_rfl
  refine ⟨⟨hI (by dsimp only;omega) (by dsimp only;omega),hI (by dsimp only;omega) (by dsimp only;omega),hI (by dsimp only;omega) (by dsimp only;omega),hI (by dsimp only;omega) (by dsimp only;omega),by dsimp only;omega,by dsimp only;omega,hI (by dsimp only;omega) (by dsimp only;omega),by dsimp only;omega⟩,hs (r:=at' B6 8) rfl ?_,by exact hb⟩
  show Dr ⟨9,Ht d,P2 d,0,0,0,d.Bytes.take 20⟩ 19=true
  simp only [Dr,m1,m2,m3,m4,m5,m6,f1,f2,f4,f8,f16,f32,My,if_true,if_false,Bool.false_eq_true,Bool.and_eq_true,decide_eq_true_eq,Bool.not_eq_true',decide_eq_false_iff_not]
  simp;omega
 ·have e:HH d=⟨10,0,0,0,0,Se d, []⟩:=by unfold HH;rw [h];rfl
  rw [e]
  have f1:Au 32 1=false:=by kernel_rfl
  have f2:Au 32 2=false:=by kernel_rfl
  have f4:Au 32 4=false:=by kernel_rfl
  have f8:Au 32 8=false:=by kernel_rfl
  have f16:Au 32 16=false:=by kernel_rfl
  have f32:Au 32 32=true:=by kernel_rfl
  refine ⟨⟨hI (by dsimp only;omega) (by dsimp only;omega),hI (by dsimp only;omega) (by dsimp only;omega),hI (by dsimp only;omega) (by dsimp only;omega),hI (by dsimp only;omega) (by dsimp only;omega),by dsimp only;omega,by dsimp only;omega,hI (by dsimp only;omega) (by dsimp only;omega),by dsimp only;simp⟩,hs (r:=at' B6 9) rfl ?_,by simp⟩
  show Dr ⟨10,0,0,0,0,Se d, []⟩ 32=true
  simp only [Dr,m1,m2,m3,m4,m5,m6,f1,f2,f4,f8,f16,f32,My,if_true,if_false,Bool.false_eq_true,Bool.and_eq_true,decide_eq_true_eq,Bool.not_eq_true',decide_eq_false_iff_not]
  simp;omega
 ·have e:HH d=⟨11,Ht d,0,OX d,0,0, []⟩:=by unfold HH;rw [h];rfl
  rw [e]
  have f1:Au 5 1=true:=by kernel_rfl
  have f2:Au 5 2=false:=by kernel_rfl
  have f4:Au 5 4=true:=by kernel_rfl
  have f8:Au 5 8=false:=by kernel_rfl
  have f16:Au 5 16=false:=by kernel_rfl
  have f32:Au 5 32=false:=by kernel_rfl
  refine ⟨⟨hI (by dsimp only;omega) (by dsimp only;omega),hI (by dsimp only;omega) (by dsimp only;omega),hI (by dsimp only;omega) (by dsimp only;omega),hI (by dsimp only;omega) (by dsimp only;omega),by dsimp only;omega,by dsimp only;omega,hI (by dsimp only;omega) (by dsimp only;omega),by dsimp only;simp⟩,hs (r:=at' B6 10) rfl ?_,by simp⟩
  show Dr ⟨11,Ht d,0,OX d,0,0, []⟩ 5=true
  simp only [Dr,m1,m2,m3,m4,m5,m6,f1,f2,f4,f8,f16,f32,My,if_true,if_false,Bool.false_eq_true,Bool.and_eq_true,decide_eq_true_eq,Bool.not_eq_true',decide_eq_false_iff_not]
  simp;omega
 ·have e:HH d=⟨12,Ht d,0,0,0,0, []⟩:=by unfold HH;rw [h];rfl
  rw [e]
  have f1:Au 1 1=true:=by kernel_rfl
  have f2:Au 1 2=false:=by kernel_rfl
  have f4:Au 1 4=false:=by kernel_rfl
  have f8:Au 1 8=false:=by kernel_rfl
  have f16:Au 1 16=false:=by kernel_rfl
  have f32:Au 1 32=false:=by kernel_rfl
  refine ⟨⟨hI (by dsimp only;omega) (by dsimp only;omega),hI (by dsimp only;omega) (by dsimp only;omega),hI (by dsimp only;omega) (by dsimp only;omega),hI (by dsimp only;omega) (by dsimp only;omega),by dsimp only;omega,by dsimp only;omega,hI (by dsimp only;omega) (by dsimp only;omega),by dsimp only;simp⟩,hs (r:=at' B6 11) rfl ?_,by simp⟩
  show Dr ⟨12,Ht d,0,0,0,0, []⟩ 1=true
  simp only [Dr,m1,m2,m3,m4,m5,m6,f1,f2,f4,f8,f16,f32,My,if_true,if_false,Bool.false_eq_true,Bool.and_eq_true,decide_eq_true_eq,Bool.not_eq_true',decide_eq_false_iff_not]
  simp;omega
end Go.Proofs.YthlhnangbinhoaaGreatDoor.Dm
