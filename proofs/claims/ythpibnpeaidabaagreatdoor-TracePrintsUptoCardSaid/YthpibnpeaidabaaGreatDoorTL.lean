import Derived.Test.YthpibnpeaidabaaGreatDoorTV
set_option linter.unusedVariables false
namespace Go.Proofs.YthpibnpeaidabaaGreatDoor.Dm
open Go.Dm
set_option maxHeartbeats 16000000
set_option maxRecDepth 20000
theorem L0 {d:Nat}(h:d < 10):(UInt8.ofNat (48+d)).toNat=48+d:=by
  rw [UInt8.toNat_ofNat'];omega
theorem Vl {M:Nat}(hM:M≤18446744073709551615):∀(u:Nat) (r:List UInt8),u≤M→Lib.parseUintM M 0 (Lib.decDigits u ++ r)=Lib.parseUintM M u r:=by
  intro u
  induction u using Nat.strongRecOn with
  |_ u ih=>
    intro r hu
    by_cases h:u < 10
    · rw [Dy h,List.cons_append,List.nil_append,Lib.parseUintM]
      have e:=L0 h
      rw [if_pos (by omega),if_neg (by omega),if_neg (by rw [e];omega),e]
      congr 1;omega
    · have hm:u % 10 < 10:=Nat.mod_lt _ (by omega)
      rw [KU h,List.append_assoc,ih (u / 10) (by omega) _ (by omega),List.cons_append,List.nil_append,Lib.parseUintM]
      have e:=L0 hm
      rw [if_pos (by omega),if_neg (by omega),if_neg (by rw [e];omega),e]
      congr 1;omega
theorem rM (u:Nat):Lib.decDigits u≠ []:=by
  by_cases h:u < 10
  · rw [Dy h];simp
  · rw [KU h];simp
theorem Tb {B u:Nat}(hB:B≤64)(hu:u < 2 ^ B):Lib.parseUintB B (Lib.itoa (u:Int))= .ok u:=by
  unfold Lib.parseUintB
  rw [Lib.itoa_nonneg,if_neg (rM u)]
  have h2:2 ^ B≤2 ^ 64:=Nat.pow_le_pow_right (by omega) hB
  have:=Vl (M:=2 ^ B - 1) (by have:(2:Nat) ^ 64=18446744073709551616:=(by decide);omega) u [] (by omega)
  rw [List.append_nil] at this
  rw [this];rfl
theorem Fa {B u:Nat}(hB:B≤64)(hu:u < 2 ^ B):GJ (Lib.itoa (u:Int)) B=u∧iX (Lib.itoa (u:Int)) B=true:=by
  unfold GJ iX
  rw [Tb hB hu];exact ⟨rfl,rfl⟩
theorem IW {B u:Nat}(hB:B≤64)(hu:u < 2 ^ B):Lz (Lib.itoa (u:Int)) B=true:=by
  unfold Lz
  rw [(Fa hB hu).1,(Fa hB hu).2];simp
theorem Zk:∀(u:Nat),∀c∈Lib.decDigits u,48≤c.toNat∧c.toNat≤57:=by
  intro u
  induction u using Nat.strongRecOn with
  |_ u ih=>
    intro c hc
    by_cases h:u < 10
    · rw [Dy h,List.mem_singleton] at hc
      rw [hc,L0 h];omega
    · have hm:u % 10 < 10:=Nat.mod_lt _ (by omega)
      rw [KU h,List.mem_append,List.mem_singleton] at hc
      rcases hc with hc | hc
      · exact ih (u / 10) (by omega) c hc
      · rw [hc,L0 hm];omega
theorem FN {n:Int}(h:0≤n):(32:UInt8) ∉ Lib.itoa n:=by
  obtain ⟨u,rfl⟩:=Int.eq_ofNat_of_zero_le h
  rw [Lib.itoa_nonneg]
  intro hc
  have:=(Zk u _ hc).1
  exact absurd this (by decide)
theorem Vg (k:Int):(32:UInt8) ∉ CY k∧(10:UInt8) ∉ CY k:=by
  unfold CY
  by_cases h:k.toNat < 9
  · have:∀j:Fin 9,(32:UInt8) ∉ ((Ca[j.val]?).getD [])∧(10:UInt8) ∉ ((Ca[j.val]?).getD []):=by decide
    exact this ⟨_,h⟩
  · rw [List.getElem?_eq_none (by show 9≤_;omega)];simp
theorem bD {k:Int}(h0:1≤k)(h1:k≤8):Js Ca (CY k) 0=k:=by
  obtain ⟨j,rfl⟩:=Int.eq_ofNat_of_zero_le (show 0≤k by omega)
  have:∀j:Fin 9,1≤j.val→Js Ca (CY (j.val:Int)) 0=(j.val:Int):=by decide
  exact this ⟨j,by omega⟩ (by show 1≤j;omega)
theorem R9:∀(l:List (List UInt8)) (s:List UInt8) (k:Nat),Js l s k= -1∨∃i,i < l.length∧Js l s k=((k+i:Nat):Int)∧at' l i=s
  | [],s,k=> .inl rfl
  |a :: l,s,k=>by
    unfold Js
    by_cases h:s=a
    · rw [if_pos h];exact .inr ⟨0,by simp,by simp,h.symm⟩
    · rw [if_neg h]
      rcases R9 l s (k+1) with h1 | ⟨i,h1,h2,h3⟩
      · exact .inl h1
      · exact .inr ⟨i+1,by simpa using h1,by rw [h2];congr 1;omega,h3⟩
theorem bn {s:List UInt8}(h:1≤Js Ca s 0):CY (Js Ca s 0)=s:=by
  rcases R9 Ca s 0 with h1 | ⟨i,h1,h2,h3⟩
  · omega
  · rw [h2];unfold CY;rw [Int.toNat_natCast,Nat.zero_add,←h3];rfl
theorem Oz:∀ {x z:List UInt8},(32:UInt8) ∉ x→Lib.index (x ++ 32 :: z) [32] = (x.length:Int)
  | [],z,_=>by simp [Lib.index,List.isPrefixOf]
  |c :: r,z,h=>by
    have hc:¬(32:UInt8)=c:=fun e=>h (by simp [e])
    have ih:=Oz (x:=r) (z:=z) (fun hm=>h (List.mem_cons_of_mem _ hm))
    have hp:([32] :List UInt8).isPrefixOf (c :: (r ++ 32 :: z))=false:=by
      have:((32:UInt8) == c)=false:=by simpa using hc
      simp [List.isPrefixOf,this]
    have h1:¬((r.length:Int)= -1):=by omega
    simp [Lib.index,hp,ih,h1]
theorem EU {k:Nat}{x z:List UInt8}(h:(32:UInt8) ∉ x):Lib.splitK [32] 0 (k+1) (x ++ 32 :: z)=x :: Lib.splitK [32] 0 k z:=by
  rw [Lib.splitK,Oz h]
  rw [if_neg (by simp)]
  simp only [Int.toNat_natCast,Nat.add_zero,List.length_cons,List.length_nil,Nat.zero_add,List.take_left']
  congr 1
  rw [List.drop_append,List.drop_eq_nil_of_le (by omega)]
  simp
theorem dv {x:AE}(h:FY x)(F:pw x):Jo (Lib.join (CX x) [32])=CX x:=by
  have r1:=HZ.1 F.r
  have p1:=F.peer
  have e:Lib.join (CX x) [32] = Lib.itoa x.At ++ 32 :: (CY x.Kind ++ 32 :: (Lib.itoa x.Bp ++ 32 :: (Lib.itoa x.DI ++ 32 :: (Lib.itoa x.Id ++ 32 :: (Lib.itoa x.Set ++ 32 :: FX (FK x)))))):=by
    unfold CX;simp [Lib.join_cons,Lib.joinTail]
  have hc:Ke (Lib.join (CX x) [32]) - 1=6:=by
    unfold Ke;rw [e];simp only [List.length_append,List.length_cons];omega
  unfold Jo
  rw [hc,e,EU (FN h.mN),EU (Vg _).1,EU (FN (by omega)),EU (FN p1.1),EU (FN h.pR),EU (FN F.s0)]
  rfl
theorem Wn {x:AE}(h:FY x)(c:LO x=true):XZ (Lib.join (CX x) [32])=some x:=by
  have F:=okF.1 c
  have r1:=HZ.1 F.r
  have p1:=F.peer
  have es:=dv h F
  have w0:wN (Lib.join (CX x) [32]) 0=Lib.itoa x.At:=by unfold wN;rw [es];rfl
  have w1:wN (Lib.join (CX x) [32]) 1=CY x.Kind:=by unfold wN;rw [es];rfl
  have w2:wN (Lib.join (CX x) [32]) 2=Lib.itoa x.Bp:=by unfold wN;rw [es];rfl
  have w3:wN (Lib.join (CX x) [32]) 3=Lib.itoa x.DI:=by unfold wN;rw [es];rfl
  have w4:wN (Lib.join (CX x) [32]) 4=Lib.itoa x.Id:=by unfold wN;rw [es];rfl
  have w5:wN (Lib.join (CX x) [32]) 5=Lib.itoa x.Set:=by unfold wN;rw [es];rfl
  have w6:wN (Lib.join (CX x) [32]) 6=FX (FK x):=by unfold wN;rw [es];rfl
  obtain ⟨At,Kind,Bp,DI,Id,Set,b0,b1,b2,b3⟩:=x
  have a0:=h.mN;have a1:=h.zw;have i0:=h.pR;have i1:=h.qp;have s0:=F.s0;have s1:=F.s1;have k0:=F.k0;have k1:=F.k1
  simp only at a0 a1 i0 i1 s0 s1 k0 k1 r1 p1 w0 w1 w2 w3 w4 w5 w6
  obtain ⟨uA,rfl⟩:=Int.eq_ofNat_of_zero_le a0
  obtain ⟨uR,rfl⟩:=Int.eq_ofNat_of_zero_le (show 0≤Bp by omega)
  obtain ⟨uP,rfl⟩:=Int.eq_ofNat_of_zero_le p1.1
  obtain ⟨uI,rfl⟩:=Int.eq_ofNat_of_zero_le i0
  obtain ⟨uS,rfl⟩:=Int.eq_ofNat_of_zero_le s0
  have z64:(2:Nat) ^ 64=18446744073709551616:=by decide
  have z31:(2:Nat) ^ 31=2147483648:=by decide
  have z32:(2:Nat) ^ 32=4294967296:=by decide
  have qA:=Fa (B:=64) (u:=uA) (by omega) (by omega)
  have qR:=Fa (B:=31) (u:=uR) (by omega) (by omega)
  have qP:=Fa (B:=31) (u:=uP) (by omega) (by omega)
  have qI:=Fa (B:=32) (u:=uI) (by omega) (by omega)
  have qS:=Fa (B:=31) (u:=uS) (by omega) (by omega)
  have tA:=IW (B:=64) (u:=uA) (by omega) (by omega)
  have tR:=IW (B:=31) (u:=uR) (by omega) (by omega)
  have tP:=IW (B:=31) (u:=uP) (by omega) (by omega)
  have tI:=IW (B:=32) (u:=uI) (by omega) (by omega)
  have tS:=IW (B:=31) (u:=uS) (by omega) (by omega)
  have hp:=Mv h.b
  rw [←IG h.b] at hp
  have hX:Z6 (Lib.join (CX ⟨(uA:Int),Kind,(uR:Int),(uP:Int),(uI:Int),(uS:Int),b0,b1,b2,b3⟩) [32])=⟨(uA:Int),Kind,(uR:Int),(uP:Int),(uI:Int),(uS:Int),b0,b1,b2,b3⟩:=by
    unfold Z6
    rw [w0,w1,w2,w3,w4,w5,w6,qA.1,qR.1,qP.1,qI.1,qS.1,bD k0 k1,hp.1];rfl
  have hG:uO (Lib.join (CX ⟨(uA:Int),Kind,(uR:Int),(uP:Int),(uI:Int),(uS:Int),b0,b1,b2,b3⟩) [32])=true:=by
    unfold uO;rw [w0,w2,w3,w4,w5,tA,tR,tP,tI,tS];rfl
  unfold XZ
  rw [if_neg (by rw [es];show ¬7 < 7;omega),if_pos ⟨by rw [w6];exact hp.2,hG,by rw [hX];exact c⟩,hX]
end Go.Proofs.YthpibnpeaidabaaGreatDoor.Dm
