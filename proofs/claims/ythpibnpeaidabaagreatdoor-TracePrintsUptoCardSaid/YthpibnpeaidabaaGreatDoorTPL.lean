import Derived.Test.YthpibnpeaidabaaGreatDoorTL
import Derived.Test.YthpibnpeaidabaaGreatDoorTW
set_option linter.unusedVariables false
namespace Go.Proofs.YthpibnpeaidabaaGreatDoor.Dm
open Go.Dm
set_option maxHeartbeats 16000000
set_option maxRecDepth 20000
theorem index_hit:∀(s:List UInt8),¬Lib.index s [32] = -1→∃i:Nat,Lib.index s [32] = (i:Int)∧s=s.take i ++ 32 :: s.drop (i+1)
 | [],h=>absurd (by simp [Lib.index]) h
 |c :: r,h=>by
  by_cases hc:c=32
  ·subst hc
   exact ⟨0,by simp [Lib.index,List.isPrefixOf],by simp⟩
  ·have hp:([32] :List UInt8).isPrefixOf (c :: r)=false:=by
    have:((32:UInt8) == c)=false:=by simpa using fun e=>hc e.symm
    simp [List.isPrefixOf,this]
   by_cases hr:Lib.index r [32] = -1
   ·exact absurd (by simp [Lib.index,hp,hr]) h
   ·obtain ⟨i,h1,h2⟩:=index_hit r hr
    refine ⟨i+1,by simp [Lib.index,hp,h1], ?_⟩
    rw [List.take_succ_cons,List.drop_succ_cons,List.cons_append,←h2]
theorem xZ {x:List UInt8}{l:List (List UInt8)}(h:l≠ []):Lib.join (x :: l) [32] = x ++ 32 :: Lib.join l [32]:=by
 obtain ⟨y,r,rfl⟩:=List.exists_cons_of_ne_nil h
 rw [Lib.join_cons,Lib.join_cons]
 simp [Lib.joinTail]
theorem ZA (k:Nat)(s:List UInt8):Lib.splitK [32] 0 k s≠ []:=by
 have:=(JR [32] 0 k s).1
 intro e;rw [e] at this;simp at this
theorem LC:∀(k:Nat) (s:List UInt8),Lib.join (Lib.splitK [32] 0 k s) [32] = s
 |0,s=>by rw [Lib.splitK,Lib.join_one]
 |k+1,s=>by
  rw [Lib.splitK]
  by_cases h:Lib.index s [32] = -1
  ·rw [if_pos (by simp [h]),Lib.join_one]
  ·rw [if_neg (by simpa using h)]
   obtain ⟨i,h1,h2⟩:=index_hit s h
   rw [h1,Int.toNat_natCast,Nat.add_zero,xZ (ZA _ _),LC k]
   exact h2.symm
theorem iG (s:List UInt8):Lib.join (Jo s) [32] = s:=LC _ _
theorem M9 {s:List UInt8}{B:Nat}(h:Lz s B=true):Lib.itoa (GJ s B:Int)=s:=by
 unfold Lz at h
 rw [Bool.and_eq_true] at h
 simpa using h.2
theorem fE {s:List UInt8}(h:NY s=0):FX (Ho s)=s:=by
 rw [IG (PS s)]
 unfold NY at h
 split at h
 ·rename_i e
  unfold Ho;rw [if_pos e];exact e
 ·exact absurd h (by decide)
theorem lX (s:List UInt8):FY (Z6 s):=by
 have h1:=IK (wN s 0) 64
 have h2:=IK (wN s 4) 32
 have z64:(2:Nat) ^ 64=18446744073709551616:=by decide
 have z32:(2:Nat) ^ 32=4294967296:=by decide
 rw [z64] at h1
 rw [z32] at h2
 refine ⟨?_, ?_, ?_, ?_, ?_⟩
 ·show (0:Int)≤(GJ (wN s 0) 64:Int);omega
 ·show (GJ (wN s 0) 64:Int) < _;omega
 ·show (0:Int)≤(GJ (wN s 4) 32:Int);omega
 ·show (GJ (wN s 4) 32:Int) < _;omega
 ·exact PS (wN s 6)
theorem xD {α:Type}[Inhabited α]{l:List α}(h:l.length=7):l= [at' l 0,at' l 1,at' l 2,at' l 3,at' l 4,at' l 5,at' l 6]:=by
 match l,h with
 | [a,b,c,d,e,f,g],_=>rfl
theorem PU {s:List UInt8}{x:AE}(h:XZ s=some x):LO x=true∧FY x∧Lib.join (CX x) [32] = s:=by
 unfold XZ at h
 split at h
 ·cases h
 ·rename_i hl
  split at h
  ·rename_i hc
   obtain ⟨hp,hg,ho⟩:=hc
   cases h
   refine ⟨ho,lX s, ?_⟩
   have F:=okF.1 ho
   unfold uO at hg
   simp only [Bool.and_eq_true] at hg
   obtain ⟨⟨⟨⟨g0,g2⟩,g3⟩,g4⟩,g5⟩:=hg
   have hlen:(Jo s).length=7:=by have:=Lu s;omega
   have e:CX (Z6 s)=Jo s:=by
    have k1:CY (Z6 s).Kind=wN s 1:=bn F.k0
    have k6:FX (FK (Z6 s))=wN s 6:=fE hp
    rw [xD hlen]
    unfold CX
    rw [k1,k6]
    show [Lib.itoa (GJ (wN s 0) 64:Int),wN s 1,Lib.itoa (GJ (wN s 2) 31:Int),Lib.itoa (GJ (wN s 3) 31:Int),Lib.itoa (GJ (wN s 4) 32:Int),Lib.itoa (GJ (wN s 5) 31:Int),wN s 6] = _
    rw [M9 g0,M9 g2,M9 g3,M9 g4,M9 g5]
    rfl
   rw [e,iG]
  ·cases h
theorem aH {s:List UInt8}{x:AE}(h:XZ s=some x):C1 x=s:=by
 obtain ⟨h1,_,h2⟩:=PU h
 unfold C1;rw [if_pos h1,h2]
theorem mO {s:List UInt8}{x:AE}:XZ s=some x ↔ FY x∧LO x=true∧C1 x=s:=
 ⟨fun h=>⟨(PU h).2.1,(PU h).1,aH h⟩,fun ⟨h1,h2,h3⟩=>by
  unfold C1 at h3;rw [if_pos h2] at h3
  rw [←h3];exact Wn h1 h2⟩
end Go.Proofs.YthpibnpeaidabaaGreatDoor.Dm
set_option linter.unusedVariables false
namespace Go.Proofs.YthpibnpeaidabaaGreatDoor.Dm
open Go.Dm
set_option maxHeartbeats 16000000
set_option maxRecDepth 20000
def prK:Nat→List UInt8→List AE→List AE ⊕ Nat
 |0,_,out=> .inr out.length
 |k+1,s,out=>if s= [] then .inl out else match XZ (KR s).1 with
  |none=> .inr out.length
  |some x=>if (KR s).2.2=true then prK k (KR s).2.1 (out ++ [x]) else .inr out.length
def prS (s:List UInt8):Nat→List UInt8×List AE
 |0=>(s, [])
 |k+1=>((KR (prS s k).1).2.1,(prS s k).2 ++ [(XZ (KR (prS s k).1).1).getD Jm])
def GT7:FuncId→BG:=BQ ux 43 VJ
theorem xR:B4 Tryz.prog tt.get GT7:=Dt.add VU
end Go.Proofs.YthpibnpeaidabaaGreatDoor.Dm
set_option linter.unusedVariables false
namespace Go.Proofs.YthpibnpeaidabaaGreatDoor.Dm
open Go.Dm
set_option maxHeartbeats 16000000
set_option maxRecDepth 20000
def Bf (l:List AE):List UInt8:=(l.map fun x=>C1 x ++ [10]).flatten
theorem Mz {x:AE}{l:List AE}:Bf (x :: l)=C1 x ++ 10 :: Bf l:=by simp [Bf]
theorem On:∀(s:List UInt8),0≤Lib.index s [10]→s=s.take (Lib.index s [10]).toNat ++ 10 :: s.drop ((Lib.index s [10]).toNat+1)
 | [],h=>absurd h (by simp [Lib.index])
 |c :: r,h=>by
  by_cases hc:c=10
  ·subst hc
   have:Lib.index ((10:UInt8) :: r) [10] = 0:=by simp [Lib.index,List.isPrefixOf]
   rw [this];simp
  ·have hp:([10] :List UInt8).isPrefixOf (c :: r)=false:=by
    have:((10:UInt8) == c)=false:=by simpa using fun e=>hc e.symm
    simp [List.isPrefixOf,this]
   by_cases hr:Lib.index r [10] = -1
   ·exact absurd h (by simp [Lib.index,hp,hr])
   ·rcases Lib.indexB_cases ⟨⟨r⟩⟩ ⟨⟨[10]⟩⟩ with hm | ⟨i,hi,_⟩
    ·exact absurd hm hr
    ·have hi:Lib.index r [10] = (i:Int):=hi
     have ih:=On r (by omega)
     have e:Lib.index (c :: r) [10] = ((i+1:Nat):Int):=by simp [Lib.index,hp,hi]
     rw [e,Int.toNat_natCast,List.take_succ_cons,List.drop_succ_cons,List.cons_append]
     rw [hi,Int.toNat_natCast] at ih
     rw [←ih]
theorem uN {s:List UInt8}(h:(KR s).2.2=true):s=(KR s).1 ++ 10 :: (KR s).2.1:=by
 unfold KR Lib.cut at h ⊢
 by_cases c:0≤Lib.index s [10]
 ·rw [if_pos c] at h ⊢
  exact On s c
 ·rw [if_neg c] at h;cases h
theorem gk:∀(k:Nat) (s:List UInt8) (out o:List AE),prK k s out= .inl o→∃l,o=out ++ l∧(∀x∈l,FY x∧LO x=true)∧Bf l=s
 |0,s,out,o,h=>by cases h
 |k+1,s,out,o,h=>by
  rw [prK] at h
  by_cases hs:s= []
  ·rw [if_pos hs] at h;cases h
   exact ⟨[],by simp,by simp,by rw [hs];rfl⟩
  ·rw [if_neg hs] at h
   cases he:XZ (KR s).1 with
   |none=>rw [he] at h;cases h
   |some x=>
    rw [he] at h
    dsimp only at h
    by_cases hi:(KR s).2.2=true
    ·rw [if_pos hi] at h
     obtain ⟨l,h1,h2,h3⟩:=gk k _ _ _ h
     obtain ⟨e1,e2,e3⟩:=mO.1 he
     refine ⟨x :: l,by rw [h1];simp, ?_, ?_⟩
     ·intro y hy
      rcases List.mem_cons.1 hy with rfl | hy
      ·exact ⟨e1,e2⟩
      ·exact h2 y hy
     ·rw [Mz,e3,h3];exact (uN hi).symm
    ·rw [if_neg hi] at h;cases h
end Go.Proofs.YthpibnpeaidabaaGreatDoor.Dm
