/- slices.Sort of []uint32: rows as arrays; less; insertionSort. -/
import Derived.Test.YthpibnpeaidabaaGreatDoorTSM
import Derived.Sort.AssemblyPlain
set_option linter.unusedVariables false
namespace Go.Proofs.YthpibnpeaidabaaGreatDoor.Dm
open Go.Dm
set_option maxHeartbeats 16000000
set_option maxRecDepth 20000
/-- a slice of n elements,whole -/
def sN (b n:Nat):Value:=if n=0 then .slice none 0 0 else .slice (some ⟨b,0,none⟩) n n
def AO (d:Array Int):Option Av:=Af AQ d.toList
theorem JL {b:Nat}{l:List Int}:Ao b l=sN b l.length:=by cases l <;> rfl
theorem Ld {b n:Nat}(h:0 < n):sN b n= .slice (some ⟨b,0,none⟩) n n:=by unfold sN;rw [if_neg (by omega)]
structure C3 (hp:Hp) (v:Value) (b:Nat) (d:Array Int):Prop where
 v:v= .slice (some ⟨b,0,none⟩) d.size d.size
 o:hp b=AO d
 pos:0 < d.size
 le:d.size≤35184372088832
theorem C3.slt {hp:Hp}{v:Value}{b:Nat}{d:Array Int}(h:C3 hp v b d):BQ AQ hp v d.toList:=by
 have:=BQ.RM (E:=AQ) (hp:=hp) (b:=b) (l:=d.toList) h.o (by rw [Array.length_toList];exact Nat.le_trans h.le (by decide))
 rw [JL,Array.length_toList,Ld h.pos,←h.v] at this
 exact this
def GZ (hp:Hp)(v:Value):Array Int:=(AQ.rd hp v).toArray
theorem C3.DQ {hp:Hp}{v:Value}{b:Nat}{d:Array Int}(h:C3 hp v b d):GZ hp v=d:=by unfold GZ;rw [h.slt.rd]
theorem C3.XQ {hp:Hp}{v:Value}{b top:Nat}{d:Array Int}(h:C3 hp v b d)(hcl:Cl hp top):b < top:=by
 obtain ⟨o,ho⟩:∃o,AO d=some o:=by
  unfold AO
  cases e:d.toList with
  |nil=>
   have:=congrArg List.length e
   have:=h.pos
   simp_all
  |cons x l=>exact ⟨_,rfl⟩
 exact hcl.lt b o (h.o.trans ho)
def SY (v:Value)(d:Array Int):BP:=match v with | .slice (some ⟨b,_,_⟩) _ _=> [(b,AO d)] | _=> []
theorem C3.MH {hp:Hp}{v:Value}{b:Nat}{d d':Array Int}(h:C3 hp v b d):SY v d' = [(b,AO d')]:=by rw [h.v];rfl
theorem DR {b n:Nat}{d:Array Int}:SY (.slice (some ⟨b,0,none⟩) n n) d= [(b,AO d)]:=rfl
theorem CR {hp:Hp}{b n:Nat}{d:Array Int}(e:hp b=AO d)(hs:d.size=n)(h0:0 < n)(hn:n≤35184372088832):C3 hp (.slice (some ⟨b,0,none⟩) n n) b d:=⟨by rw [hs],e,by omega,by omega⟩
theorem mK {d:Array Int}{i:Nat}(h:i < d.size):at' d.toList i=d[i]! :=by
 rw [Cd _ _ (by simpa using h)]
 simp [getElem!_pos d i h]
theorem Ae {b n i:Nat}(hn:n≤35184372088832)(h:i < n):Al tt.get 51 (.slice (some ⟨b,0,none⟩) n n) (.int .i64 (i:Int))=(.pointer (some ⟨b,i,none⟩),True):=by
 have h0:0 < n:=by omega
 have:=KG (BQ.RM (E:=AQ) (hp:=fun _=>Af AQ (List.replicate n 0)) (b:=b) (l:=List.replicate n 0) rfl (by simpa using Nat.le_trans hn (by decide))) (k:= .i64) (n:=(i:Int)) (by omega) (by simp;omega)
 rw [JL,List.length_replicate,Ld h0] at this
 simpa [BK] using this
theorem Ab {h':Hp}{b i:Nat}{d:Array Int}(e:h' b=AO d)(hn:d.size≤35184372088832)(h:i < d.size):AZ tt.get h' 29 (.pointer (some ⟨b,i,none⟩))=(.int .u32 d[i]!,True):=by
 have h0:0 < d.size:=by omega
 have:=Sr (BQ.RM (E:=AQ) (hp:=h') (b:=b) (l:=d.toList) e (by simpa using Nat.le_trans hn (by decide))) (i:=i) (by simpa using h)
 rw [JL,Array.length_toList,Ld h0,mK h] at this
 simpa [BK] using this
theorem A6 {h':Hp}{b i:Nat}{d:Array Int}{x:Int}(e:h' b=AO d)(h:i < d.size):Ag tt.get h' 29 (.pointer (some ⟨b,i,none⟩)) (.int .u32 x)=([(b,AO (d.setIfInBounds i x))],True):=by
 have h0:0 < d.size:=by omega
 have:=TD (hp:=h') (b:=b) (l:=d.toList) (i:=i) e (by simpa using h) (x:=x)
 rw [JL,Array.length_toList,Ld h0] at this
 unfold AO
 rw [Array.toList_setIfInBounds]
 simpa [BK] using this
theorem ZZ {d:Array Int}{i j:Nat}:(d.setIfInBounds i d[j]!).setIfInBounds j d[i]! = Go.Sort.swp d i j:=rfl
theorem AF {ρ:Nat→Nat}{d:Array Int}:KC ρ (AO d)=AO d:=B0
def BR (f:Int→Int→Bool):BB:= .pure (fun args _=>match args with | [.int .u32 _, .int .u32 _]=>True | _=>False) (fun args _=>match args with | [.int _ x, .int _ y]=> .bool (f x y) | _=>undef)
def Oj:BB:= .pure (fun args _=>match args with | [.int .u32 _]=>True | _=>False) (fun _ _=> .bool false)
theorem mU:A4 Tryz.prog 137 Oj:=by
 refine .Hg Lg ?_ ?_
 ·rintro args hp h
  match args,h with
  | [.int .u32 _],_=>rfl
 intro args hp hpre top hcl hsc
 match args,hpre with
 | [.int .u32 x],_=>
 refine AK.A5 BC Lg rfl 6 rfl [.tmp 2] rfl (show 1≤6 by decide) ?_
 refine CW.vc EY [0,2] (by kernel_rfl) ?_
 (repeat ((try refine Vc.mk' ?_);simp (config:= {maxSteps:=6000000}) only [go_sem,decide_true,Bool.not_true]))
def vg:FuncId→BB:=Bj G0 137 Oj
theorem tM:B7 Tryz.prog tt.get vg:=EY.add mU
theorem r5:vg 137=Oj:=rfl
theorem eA:A4 Tryz.prog 113 (BR Go.Sort.ltInt):=by
 refine .Hg LB ?_ ?_
 ·rintro args hp h
  match args,h with
  | [.int .u32 _, .int .u32 _],_=>rfl
 intro args hp hpre top hcl hsc
 match args,hpre with
 | [.int .u32 x, .int .u32 y],_=>
 refine AK.A5 BC LB rfl 17 rfl [.tmp 4] rfl (show 2≤17 by decide) ?_
 refine CW.vc tM [0,1,4] (by kernel_rfl) ?_
 (repeat ((try refine Vc.mk' ?_);simp (config:= {maxSteps:=6000000}) only [go_sem,r5,Oj]))
 rfl
def pk:FuncId→BB:=Bj G0 113 (BR Go.Sort.ltInt)
theorem Aq:B7 Tryz.prog tt.get pk:=EY.add eA
theorem Bh:pk 113=BR Go.Sort.ltInt:=rfl
end Go.Proofs.YthpibnpeaidabaaGreatDoor.Dm
