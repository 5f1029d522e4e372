/- The line and the event: plain laws. -/
import Derived.Test.YthpibnpeaidabaaGreatDoorTV
set_option linter.unusedSimpArgs false
set_option linter.unusedVariables false
namespace Go.Proofs.YthpibnpeaidabaaGreatDoor.Dm
open Go.Dm
set_option maxHeartbeats 16000000
set_option maxRecDepth 20000
theorem LA {d:Nat}(h:d < 10):(UInt8.ofNat (48+d)).toNat=48+d:=by
  rw [UInt8.toNat_ofNat'];omega
theorem Tb {M:Nat}(hM:M≤18446744073709551615):∀(u:Nat) (r:List UInt8),u≤M→Lib.parseUintM M 0 (Lib.decDigits u ++ r)=Lib.parseUintM M u r:=by
  intro u
  induction u using Nat.strongRecOn with
  |_ u ih=>
    intro r hu
    by_cases h:u < 10
    · rw [Dw h,List.cons_append,List.nil_append,Lib.parseUintM]
      have e:=LA h
      rw [if_pos (by omega),if_neg (by omega),if_neg (by rw [e];omega),e]
      congr 1;omega
    · have hm:u % 10 < 10:=Nat.mod_lt _ (by omega)
      rw [Jj h,List.append_assoc,ih (u / 10) (by omega) _ (by omega),List.cons_append,List.nil_append,Lib.parseUintM]
      have e:=LA hm
      rw [if_pos (by omega),if_neg (by omega),if_neg (by rw [e];omega),e]
      congr 1;omega
theorem mn (u:Nat):Lib.decDigits u≠ []:=by
  by_cases h:u < 10
  · rw [Dw h];simp
  · rw [Jj h];simp
theorem SP {B u:Nat}(hB:B≤64)(hu:u < 2 ^ B):Lib.parseUintB B (Lib.itoa (u:Int))= .ok u:=by
  unfold Lib.parseUintB
  rw [Lib.itoa_nonneg,if_neg (mn u)]
  have h2:2 ^ B≤2 ^ 64:=Nat.pow_le_pow_right (by omega) hB
  have:=Tb (M:=2 ^ B - 1) (by have:(2:Nat) ^ 64=18446744073709551616:=(by decide);omega) u [] (by omega)
  rw [List.append_nil] at this
  rw [this];rfl
theorem FP {B u:Nat}(hB:B≤64)(hu:u < 2 ^ B):Fu (Lib.itoa (u:Int)) B=u∧dJ (Lib.itoa (u:Int)) B=true:=by
  unfold Fu dJ
  rw [SP hB hu];exact ⟨rfl,rfl⟩
theorem HM {B u:Nat}(hB:B≤64)(hu:u < 2 ^ B):K7 (Lib.itoa (u:Int)) B=true:=by
  unfold K7
  rw [(FP hB hu).1,(FP hB hu).2];simp
theorem W5:∀(u:Nat),∀c∈Lib.decDigits u,48≤c.toNat∧c.toNat≤57:=by
  intro u
  induction u using Nat.strongRecOn with
  |_ u ih=>
    intro c hc
    by_cases h:u < 10
    · rw [Dw h,List.mem_singleton] at hc
      rw [hc,LA h];omega
    · have hm:u % 10 < 10:=Nat.mod_lt _ (by omega)
      rw [Jj h,List.mem_append,List.mem_singleton] at hc
      rcases hc with hc | hc
      · exact ih (u / 10) (by omega) c hc
      · rw [hc,LA hm];omega
theorem FW {n:Int}(h:0≤n):(32:UInt8) ∉ Lib.itoa n:=by
  obtain ⟨u,rfl⟩:=Int.eq_ofNat_of_zero_le h
  rw [Lib.itoa_nonneg]
  intro hc
  have:=(W5 u _ hc).1
  exact absurd this (by decide)
theorem UE (k:Int):(32:UInt8) ∉ D9 k∧(10:UInt8) ∉ D9 k:=by
  unfold D9
  by_cases h:k.toNat < 9
  · have:∀j:Fin 9,(32:UInt8) ∉ ((DG[j.val]?).getD [])∧(10:UInt8) ∉ ((DG[j.val]?).getD []):=by decide
    exact this ⟨_,h⟩
  · rw [List.getElem?_eq_none (by show 9≤_;omega)];simp
theorem ZB {k:Int}(h0:1≤k)(h1:k≤8):JB DG (D9 k) 0=k:=by
  obtain ⟨j,rfl⟩:=Int.eq_ofNat_of_zero_le (show 0≤k by omega)
  have:∀j:Fin 9,1≤j.val→JB DG (D9 (j.val:Int)) 0=(j.val:Int):=by decide
  exact this ⟨j,by omega⟩ (by show 1≤j;omega)
theorem Rn:∀(l:List (List UInt8)) (s:List UInt8) (k:Nat),JB l s k= -1∨∃i,i < l.length∧JB l s k=((k+i:Nat):Int)∧at' l i=s
  | [],s,k=> .inl rfl
  |a :: l,s,k=>by
    unfold JB
    by_cases h:s=a
    · rw [if_pos h];exact .inr ⟨0,by simp,by simp,h.symm⟩
    · rw [if_neg h]
      rcases Rn l s (k+1) with h1 | ⟨i,h1,h2,h3⟩
      · exact .inl h1
      · exact .inr ⟨i+1,by simpa using h1,by rw [h2];congr 1;omega,h3⟩
theorem ae {s:List UInt8}(h:1≤JB DG s 0):D9 (JB DG s 0)=s:=by
  rcases Rn DG s 0 with h1 | ⟨i,h1,h2,h3⟩
  · omega
  · rw [h2];unfold D9;rw [Int.toNat_natCast,Nat.zero_add,←h3];rfl
theorem N8:∀ {x z:List UInt8},(32:UInt8) ∉ x→Lib.index (x ++ 32 :: z) [32] = (x.length:Int)
  | [],z,_=>by simp [Lib.index,List.isPrefixOf]
  |c :: r,z,h=>by
    have hc:¬(32:UInt8)=c:=fun e=>h (by simp [e])
    have ih:=N8 (x:=r) (z:=z) (fun hm=>h (List.mem_cons_of_mem _ hm))
    have hp:([32] :List UInt8).isPrefixOf (c :: (r ++ 32 :: z))=false:=by
      have:((32:UInt8) == c)=false:=by simpa using hc
      simp [List.isPrefixOf,this]
    have h1:¬((r.length:Int)= -1):=by omega
    simp [Lib.index,hp,ih,h1]
theorem EP {k:Nat}{x z:List UInt8}(h:(32:UInt8) ∉ x):Lib.splitK [32] 0 (k+1) (x ++ 32 :: z)=x :: Lib.splitK [32] 0 k z:=by
  rw [Lib.splitK,N8 h]
  rw [if_neg (by simp)]
  simp only [Int.toNat_natCast,Nat.add_zero,List.length_cons,List.length_nil,Nat.zero_add,List.take_left']
  congr 1
  rw [List.drop_append,List.drop_eq_nil_of_le (by omega)]
  simp
theorem cR {x:Ac}(h:J6 x)(F:rD x):Iw (Lib.join (Cn x) [32])=Cn x:=by
  have r1:=Jc.1 F.r
  have p1:=F.peer
  have e:Lib.join (Cn x) [32] = Lib.itoa x.At ++ 32 :: (D9 x.Kind ++ 32 :: (Lib.itoa x.CA ++ 32 :: (Lib.itoa x.EO ++ 32 :: (Lib.itoa x.Id ++ 32 :: (Lib.itoa x.Set ++ 32 :: FE (Tx x)))))):=by
    unfold Cn;simp [Lib.join_cons,Lib.joinTail]
  have hc:Je (Lib.join (Cn x) [32]) - 1=6:=by
    unfold Je;rw [e];simp only [List.length_append,List.length_cons];omega
  unfold Iw
  rw [hc,e,EP (FW h.oO),EP (UE _).1,EP (FW (by omega)),EP (FW p1.1),EP (FW h.o8),EP (FW F.s0)]
  rfl
theorem VW {x:Ac}(h:J6 x)(c:Qc x=true):OD (Lib.join (Cn x) [32])=some x:=by
  have F:=okF.1 c
  have r1:=Jc.1 F.r
  have p1:=F.peer
  have es:=cR h F
  have w0:wN (Lib.join (Cn x) [32]) 0=Lib.itoa x.At:=by unfold wN;rw [es];rfl
  have w1:wN (Lib.join (Cn x) [32]) 1=D9 x.Kind:=by unfold wN;rw [es];rfl
  have w2:wN (Lib.join (Cn x) [32]) 2=Lib.itoa x.CA:=by unfold wN;rw [es];rfl
  have w3:wN (Lib.join (Cn x) [32]) 3=Lib.itoa x.EO:=by unfold wN;rw [es];rfl
  have w4:wN (Lib.join (Cn x) [32]) 4=Lib.itoa x.Id:=by unfold wN;rw [es];rfl
  have w5:wN (Lib.join (Cn x) [32]) 5=Lib.itoa x.Set:=by unfold wN;rw [es];rfl
  have w6:wN (Lib.join (Cn x) [32]) 6=FE (Tx x):=by unfold wN;rw [es];rfl
  obtain ⟨At,Kind,CA,EO,Id,Set,b0,b1,b2,b3⟩:=x
  have a0:=h.oO;have a1:=h.sx;have i0:=h.o8;have i1:=h.re;have s0:=F.s0;have s1:=F.s1;have k0:=F.k0;have k1:=F.k1
  simp only at a0 a1 i0 i1 s0 s1 k0 k1 r1 p1 w0 w1 w2 w3 w4 w5 w6
  obtain ⟨uA,rfl⟩:=Int.eq_ofNat_of_zero_le a0
  obtain ⟨uR,rfl⟩:=Int.eq_ofNat_of_zero_le (show 0≤CA by omega)
  obtain ⟨uP,rfl⟩:=Int.eq_ofNat_of_zero_le p1.1
  obtain ⟨uI,rfl⟩:=Int.eq_ofNat_of_zero_le i0
  obtain ⟨uS,rfl⟩:=Int.eq_ofNat_of_zero_le s0
  have z64:(2:Nat) ^ 64=18446744073709551616:=by decide
  have z31:(2:Nat) ^ 31=2147483648:=by decide
  have z32:(2:Nat) ^ 32=4294967296:=by decide
  have qA:=FP (B:=64) (u:=uA) (by omega) (by omega)
  have qR:=FP (B:=31) (u:=uR) (by omega) (by omega)
  have qP:=FP (B:=31) (u:=uP) (by omega) (by omega)
  have qI:=FP (B:=32) (u:=uI) (by omega) (by omega)
  have qS:=FP (B:=31) (u:=uS) (by omega) (by omega)
  have tA:=HM (B:=64) (u:=uA) (by omega) (by omega)
  have tR:=HM (B:=31) (u:=uR) (by omega) (by omega)
  have tP:=HM (B:=31) (u:=uP) (by omega) (by omega)
  have tI:=HM (B:=32) (u:=uI) (by omega) (by omega)
  have tS:=HM (B:=31) (u:=uS) (by omega) (by omega)
  have hp:=Lc h.b
  rw [←Jk h.b] at hp
  have hX:X1 (Lib.join (Cn ⟨(uA:Int),Kind,(uR:Int),(uP:Int),(uI:Int),(uS:Int),b0,b1,b2,b3⟩) [32])=⟨(uA:Int),Kind,(uR:Int),(uP:Int),(uI:Int),(uS:Int),b0,b1,b2,b3⟩:=by
    unfold X1
    rw [w0,w1,w2,w3,w4,w5,w6,qA.1,qR.1,qP.1,qI.1,qS.1,ZB k0 k1,hp.1];rfl
  have hG:my (Lib.join (Cn ⟨(uA:Int),Kind,(uR:Int),(uP:Int),(uI:Int),(uS:Int),b0,b1,b2,b3⟩) [32])=true:=by
    unfold my;rw [w0,w2,w3,w4,w5,tA,tR,tP,tI,tS];rfl
  unfold OD
  rw [if_neg (by rw [es];show ¬7 < 7;omega),if_pos ⟨by rw [w6];exact hp.2,hG,by rw [hX];exact c⟩,hX]
end Go.Proofs.YthpibnpeaidabaaGreatDoor.Dm
