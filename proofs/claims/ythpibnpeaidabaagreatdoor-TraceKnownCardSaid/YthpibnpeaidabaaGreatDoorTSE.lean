/- slices.Sort of []uint32; slices.Compact. -/
import Derived.Test.YthpibnpeaidabaaGreatDoorTSD
set_option linter.unusedSimpArgs false
set_option linter.unusedVariables false
namespace Go.Proofs.YthpibnpeaidabaaGreatDoor.Dm
open Go.Dm
open Go.Sort (ltInt swp)
set_option maxHeartbeats 64000000
set_option maxRecDepth 20000
def RS (hp:Hp)(v:Value):Prop:=v= .slice none 0 0∨∃q d,Db hp v q d
def R8:BO:= .det (fun args hp _=>match args with | [v]=>RS hp v | _=>False)
 (fun args hp top=>match args with | [v]=>(.tuple ⟨[]⟩,QZ v (Go.Sort.sort ltInt (Gy hp v)),top) | _=>(undef, [],top))
def se:FuncId→BO:=Bd (Bd G0 79 (Ha 35184372088833)) 80 Kp
theorem kr:B9 Tryz.prog tt.get se:=(E7.add (oh _)).add kV
theorem kX:se 79=Ha 35184372088833:=rfl
theorem kW:se 80=Kp:=rfl
theorem Vj {b o m c:Nat}(hc:m≤c)(hm:m≤35184372088832):Br Aj (fun _=>some (.cells true Aj.size (List.replicate (o+m) (.int .u32 0)))) (.slice (some ⟨b,o,none⟩) m c) (List.replicate m 0):=by
 have hf:∀m:Nat,List.replicate m (Value.int .u32 0)=Aj.flat (List.replicate m 0):=fun m=>by
  induction m with
  |zero=>rfl
  |succ m ih=>rw [List.replicate_succ,List.replicate_succ,ih];rfl
 have:=Br.rows (E:=Aj) (hp:=fun _=>some (.cells true Aj.size (List.replicate (o+m) (.int .u32 0)))) b o c true (List.replicate (o+m) (.int .u32 0)) (List.replicate m 0) rfl (by
  simp only [List.drop_replicate,List.take_replicate,List.length_replicate,show Aj.size=1 from rfl,Nat.mul_one,Nat.add_sub_cancel_left,Nat.min_self]
  exact hf m) (by simp [show Aj.size=1 from rfl]) (by simpa using hc) (by simp;omega)
 simpa using this
theorem LN {h':Hp}{b o m c:Nat}(hc:m≤c)(hm:m≤35184372088832):DY tt.get h' 51 (.slice (some ⟨b,o,none⟩) m c)=(.int .i64 (m:Int),True):=by
 have:=Hj (Vj (b:=b) (o:=o) hc hm) (hp':=h')
 simpa using this
theorem LL {b o m c i:Nat}(hc:m≤c)(hm:m≤35184372088832)(h:i < m):A1 tt.get 51 (.slice (some ⟨b,o,none⟩) m c) (.int .i64 (i:Int))=(.pointer (some ⟨b,o+i,none⟩),True):=by
 have:=Kq (Vj (b:=b) (o:=o) hc hm) (k:= .i64) (n:=(i:Int)) (by omega) (by simp;omega)
 simpa [BX] using this
theorem ba {h':Hp}{b m i:Nat}{d:Array Int}(e:h' b=Ad d)(hm:d.size=m)(h0:i < m)(hn:m≤35184372088832):Bk tt.get h' 51 (.slice (some ⟨b,0,none⟩) m m) (some (.int .i64 (i:Int))) none=(.slice (some ⟨b,i,none⟩) (m - i) (m - i),True):=by
 subst hm
 have:=TJ (Co (n:=d.size) e rfl (by omega) hn).slt (k:= .i64) (n:=(i:Int)) (by omega) (by simp;omega)
 rw [this]
 simp [Rq,h0]
theorem lW {h':Hp}{b m i:Nat}{d:Array Int}(e:h' b=Ad d)(hm:d.size=m)(h0:i≤m)(hp0:0 < m)(hn:m≤35184372088832):Bk tt.get h' 51 (.slice (some ⟨b,0,none⟩) m m) none (some (.int .i64 (i:Int)))=(.slice (some ⟨b,0,none⟩) i m,True):=by
 subst hm
 have:=Tg (Co (n:=d.size) e rfl hp0 hn).slt (k:= .i64) (n:=(i:Int)) (by omega) (by simp;omega)
 rw [this]
 simp [R3]
theorem qu:BG Tryz.prog 51 R8:=by
 refine .Cy LF ?_
 intro args hp top hpre hcl hsc
 match args,hpre with
 | [v],hpre=>
 have wc:∀ {n:Nat},n≤35184372088832→Ae .u64 (n:Int)=(n:Int):=fun h=>by rw [Z4 (by omega)];omega
 rcases hpre with rfl | ⟨q,d,hrow⟩
 ·have p0:∀ {h':Hp},L3 35184372088833 h' (.slice none 0 0) 0 0 0=True:=fun {h'}=>eq_true ⟨by decide, .inl ⟨rfl,rfl,rfl⟩⟩
  have l0:∀ {h':Hp},DY tt.get h' 51 (.slice none 0 0)=(.int .i64 0,True):=fun {h'}=>by
   have:=Hj (Br.nils (E:=Aj) (hp:=hp)) (hp':=h')
   simpa using this
  refine Ab.BF BN LF rfl 11 rfl [] rfl (show 1≤11 by decide) ?_
  refine CW.vc kr [0,2] (by kernel_rfl) ?_
  (repeat ((try refine Vc.mk' ?_);simp (maxSteps:=6000000) only [go_sem,reduceIte,reduceCtorEq,Nat.reduceAdd,Nat.reduceMul,Nat.reduceSub,Nat.reduceLT,Nat.reduceLeDiff,Nat.reduceEqDiff,Int.reduceEq,Int.reduceLT,Int.reduceLE,Int.reduceNe,l0,kW,Kp,show Ae .u64 0=0 from by decide,show Go.Sort.bitsLen 0=0 from rfl,show (0:Int).toNat=0 from rfl,show ((0:Nat):Int)=0 from rfl,kX,Ha,p0,QZ]))
  (refine ⟨[],by simp,by simp,by simp, ?_, ?_, ?_⟩ <;> simp [Ag,BJ,BH,Am,AP,AF,AJ.nil,AJ.cons,AB,AD,AM,AA,AQ,AX,AO,Ax.AL,AG,AV,AE,AH,AK.set,AK.Ao,AK.refl,QZ])
 ·have hn:d.size≤35184372088832:=hrow.le
  have h0:=hrow.pos
  have hqt:=hrow.Xw hcl
  simp only [hrow.D5,hrow.MZ]
  have hD0:=hrow.D5
  obtain ⟨rfl,ho,_,_⟩:=hrow
  generalize hR:Go.Sort.sort ltInt d=R
  have hR':Go.Sort.pdq ltInt d 0 d.size (Go.Sort.bitsLen d.size) true true=R:=hR
  have hb:=jy hn
  obtain ⟨bl,hbl⟩:∃z:Nat,z=Go.Sort.bitsLen d.size:=⟨_,rfl⟩
  rw [←hbl] at hb hR'
  have hbt:Go.Sort.bitsLen ((d.size:Int)).toNat=bl:=by rw [Int.toNat_natCast,hbl]
  have p0:∀ {h':Hp},h' q=Ad d→L3 35184372088833 h' (.slice (some ⟨q,0,none⟩) d.size d.size) 0 (d.size:Int) (bl:Int)=True:=fun e=>eq_true ⟨by decide, .inr ⟨q,d,Co e rfl h0 hn,by omega,by omega,by omega,by omega,by omega,by omega⟩⟩
  have hD:∀ {h':Hp},h' q=Ad d→Gy h' (.slice (some ⟨q,0,none⟩) d.size d.size)=d:=fun e=>(Co e rfl h0 hn).D5
  have l0:=fun (h':Hp)=>LN (h':=h') (b:=q) (o:=0) (Nat.le_refl _) hn
  have wn:=wc hn
  have c1:((0:Int)≤(d.size:Int))=True:=eq_true (by omega)
  have c2:((d.size:Int)≤18446744073709551615)=True:=eq_true (by omega)
  refine Ab.BF BN LF rfl 11 rfl [] rfl (show 1≤11 by decide) ?_
  refine CW.vc kr [0,2] (by kernel_rfl) ?_
  (repeat ((try refine Vc.mk' ?_);simp (maxSteps:=6000000) only [go_sem,reduceIte,reduceCtorEq,Nat.reduceAdd,Nat.reduceMul,Nat.reduceSub,Nat.reduceLT,Nat.reduceLeDiff,Nat.reduceEqDiff,Int.reduceEq,Int.reduceLT,Int.reduceLE,Int.reduceNe,l0,wn,kW,Kp,c1,c2,hbt,hbl.symm,kX,Ha,p0,ho,hD,show (Int.toNat 0)=0 from rfl,Int.toNat_natCast,hR',D8]))
  (refine ⟨[],by simp,by simp,by simp, ?_, ?_, ?_⟩ <;> simp [Ag,BJ,BH,Am,AP,AF,AJ.nil,AJ.cons,AB,AD,AM,AA,AQ,AX,AO,Ax.AL,AG,AV,AE,AH,AK.set,AK.Ao,AK.refl,Af hqt,AY])
end Go.Proofs.YthpibnpeaidabaaGreatDoor.Dm
