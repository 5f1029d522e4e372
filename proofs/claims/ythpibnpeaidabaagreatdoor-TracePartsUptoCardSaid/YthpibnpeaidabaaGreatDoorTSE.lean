/- slices.Sort of []uint32; slices.Compact. -/
import Derived.Test.YthpibnpeaidabaaGreatDoorTSD
set_option linter.unusedVariables false
namespace Go.Proofs.YthpibnpeaidabaaGreatDoor.Dm
open Go.Dm
open Go.Sort (ltInt swp)
set_option maxHeartbeats 64000000
set_option maxRecDepth 20000
def QP (hp:Hp)(v:Value):Prop:=v= .slice none 0 0∨∃q d,C3 hp v q d
def QX:BB:= .det (fun args hp _=>match args with | [v]=>QP hp v | _=>False)
 (fun args hp top=>match args with | [v]=>(.tuple ⟨[]⟩,SY v (Go.Sort.sort ltInt (GZ hp v)),top) | _=>(undef, [],top))
def vD:FuncId→BB:=Bj (Bj G0 79 (Gh 35184372088833)) 80 Jt
theorem kP:B7 Tryz.prog tt.get vD:=(EY.add (rz _)).add kL
theorem ld:vD 79=Gh 35184372088833:=rfl
theorem lL:vD 80=Jt:=rfl
theorem VI {b o m c:Nat}(hc:m≤c)(hm:m≤35184372088832):BQ AQ (fun _=>some (.cells true AQ.size (List.replicate (o+m) (.int .u32 0)))) (.slice (some ⟨b,o,none⟩) m c) (List.replicate m 0):=by
 have hf:∀m:Nat,List.replicate m (Value.int .u32 0)=AQ.flat (List.replicate m 0):=fun m=>by
  induction m with
  |zero=>rfl
  |succ m ih=>rw [List.replicate_succ,List.replicate_succ,ih];rfl
 have:=BQ.rows (E:=AQ) (hp:=fun _=>some (.cells true AQ.size (List.replicate (o+m) (.int .u32 0)))) b o c true (List.replicate (o+m) (.int .u32 0)) (List.replicate m 0) rfl (by
  simp only [List.drop_replicate,List.take_replicate,List.length_replicate,show AQ.size=1 from rfl,Nat.mul_one,Nat.add_sub_cancel_left,Nat.min_self]
  exact hf m) (by simp [show AQ.size=1 from rfl]) (by simpa using hc) (by simp;omega)
 simpa using this
theorem Kf {h':Hp}{b o m c:Nat}(hc:m≤c)(hm:m≤35184372088832):Cy tt.get h' 51 (.slice (some ⟨b,o,none⟩) m c)=(.int .i64 (m:Int),True):=by
 have:=E4 (VI (b:=b) (o:=o) hc hm) (hp':=h')
 simpa using this
theorem KV {b o m c i:Nat}(hc:m≤c)(hm:m≤35184372088832)(h:i < m):Al tt.get 51 (.slice (some ⟨b,o,none⟩) m c) (.int .i64 (i:Int))=(.pointer (some ⟨b,o+i,none⟩),True):=by
 have:=KG (VI (b:=b) (o:=o) hc hm) (k:= .i64) (n:=(i:Int)) (by omega) (by simp;omega)
 simpa [BK] using this
theorem ZP {h':Hp}{b m i:Nat}{d:Array Int}(e:h' b=AO d)(hm:d.size=m)(h0:i < m)(hn:m≤35184372088832):Bf tt.get h' 51 (.slice (some ⟨b,0,none⟩) m m) (some (.int .i64 (i:Int))) none=(.slice (some ⟨b,i,none⟩) (m - i) (m - i),True):=by
 subst hm
 have:=Tg (CR (n:=d.size) e rfl (by omega) hn).slt (k:= .i64) (n:=(i:Int)) (by omega) (by simp;omega)
 rw [this]
 simp [KQ,h0]
theorem pH {h':Hp}{b m i:Nat}{d:Array Int}(e:h' b=AO d)(hm:d.size=m)(h0:i≤m)(hp0:0 < m)(hn:m≤35184372088832):Bf tt.get h' 51 (.slice (some ⟨b,0,none⟩) m m) none (some (.int .i64 (i:Int)))=(.slice (some ⟨b,0,none⟩) i m,True):=by
 subst hm
 have:=TM (CR (n:=d.size) e rfl hp0 hn).slt (k:= .i64) (n:=(i:Int)) (by omega) (by simp;omega)
 rw [this]
 simp [KN]
theorem qm:A4 Tryz.prog 51 QX:=by
 refine .Ci Ki ?_
 intro args hp top hpre hcl hsc
 match args,hpre with
 | [v],hpre=>
 have wc:∀ {n:Nat},n≤35184372088832→AL .u64 (n:Int)=(n:Int):=fun h=>by rw [Za (by omega)];omega
 rcases hpre with rfl | ⟨q,d,hrow⟩
 ·have p0:∀ {h':Hp},Lq 35184372088833 h' (.slice none 0 0) 0 0 0=True:=fun {h'}=>eq_true ⟨by decide, .inl ⟨rfl,rfl,rfl⟩⟩
  have l0:∀ {h':Hp},Cy tt.get h' 51 (.slice none 0 0)=(.int .i64 0,True):=fun {h'}=>by
   have:=E4 (BQ.nils (E:=AQ) (hp:=hp)) (hp':=h')
   simpa using this
  refine AK.A5 BC Ki rfl 11 rfl [] rfl (show 1≤11 by decide) ?_
  refine CW.vc kP [0,2] (by kernel_rfl) ?_
  (repeat ((try refine Vc.mk' ?_);simp (config:= {maxSteps:=6000000}) only [go_sem,Int.reduceLE,l0,lL,Jt,show AL .u64 0=0 from by decide,show Go.Sort.bitsLen 0=0 from rfl,show (0:Int).toNat=0 from rfl,show ((0:Nat):Int)=0 from rfl,ld,Gh,p0,SY]))
  (refine ⟨[],by simp,by simp,by simp, ?_, ?_, ?_⟩ <;> simp [A3,Bi,AA.nil,AH.refl])
 ·have hn:d.size≤35184372088832:=hrow.le
  have h0:=hrow.pos
  have hqt:=hrow.XQ hcl
  simp only [hrow.DQ,hrow.MH]
  have hD0:=hrow.DQ
  obtain ⟨rfl,ho,_,_⟩:=hrow
  generalize hR:Go.Sort.sort ltInt d=R
  have hR':Go.Sort.pdq ltInt d 0 d.size (Go.Sort.bitsLen d.size) true true=R:=hR
  have hb:=lW hn
  obtain ⟨bl,hbl⟩:∃z:Nat,z=Go.Sort.bitsLen d.size:=⟨_,rfl⟩
  rw [←hbl] at hb hR'
  have hbt:Go.Sort.bitsLen ((d.size:Int)).toNat=bl:=by rw [Int.toNat_natCast,hbl]
  have p0:∀ {h':Hp},h' q=AO d→Lq 35184372088833 h' (.slice (some ⟨q,0,none⟩) d.size d.size) 0 (d.size:Int) (bl:Int)=True:=fun e=>eq_true ⟨by decide, .inr ⟨q,d,CR e rfl h0 hn,by omega,by omega,by omega,by omega,by omega,by omega⟩⟩
  have hD:∀ {h':Hp},h' q=AO d→GZ h' (.slice (some ⟨q,0,none⟩) d.size d.size)=d:=fun e=>(CR e rfl h0 hn).DQ
  have l0:=fun (h':Hp)=>Kf (h':=h') (b:=q) (o:=0) (Nat.le_refl _) hn
  have wn:=wc hn
  have c1:((0:Int)≤(d.size:Int))=True:=eq_true (by omega)
  have c2:((d.size:Int)≤18446744073709551615)=True:=eq_true (by omega)
  refine AK.A5 BC Ki rfl 11 rfl [] rfl (show 1≤11 by decide) ?_
  refine CW.vc kP [0,2] (by kernel_rfl) ?_
  (repeat ((try refine Vc.mk' ?_);simp (config:= {maxSteps:=6000000}) only [go_sem,l0,wn,lL,Jt,c1,c2,hbl.symm,ld,Gh,p0,ho,hD,show (Int.toNat 0)=0 from rfl,Int.toNat_natCast,hR',DR]))
  (refine ⟨[],by simp,by simp,by simp, ?_, ?_, ?_⟩ <;> simp [A3,Bi,AA.nil,AA.cons,AB,AH.Aw,AH.refl,AP hqt,AF])
end Go.Proofs.YthpibnpeaidabaaGreatDoor.Dm
