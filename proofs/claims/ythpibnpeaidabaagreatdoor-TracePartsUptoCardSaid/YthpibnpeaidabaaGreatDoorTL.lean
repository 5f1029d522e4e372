/- The line and the event: plain laws. -/
import Derived.Test.YthpibnpeaidabaaGreatDoorTV
set_option linter.unusedVariables false
namespace Go.Proofs.YthpibnpeaidabaaGreatDoor.Dm
open Go.Dm
set_option maxHeartbeats 16000000
set_option maxRecDepth 20000
theorem Kg {d:Nat}(h:d < 10):(UInt8.ofNat (48+d)).toNat=48+d:=by
  rw [UInt8.toNat_ofNat'];omega
theorem Sj {M:Nat}(hM:M≤18446744073709551615):∀(u:Nat) (r:List UInt8),u≤M→Lib.parseUintM M 0 (Lib.decDigits u ++ r)=Lib.parseUintM M u r:=by
  intro u
  induction u using Nat.strongRecOn with
  |_ u ih=>
    intro r hu
    by_cases h:u < 10
    · rw [DL h,List.cons_append,List.nil_append,Lib.parseUintM]
      have e:=Kg h
      rw [if_pos (by omega),if_neg (by omega),if_neg (by rw [e];omega),e]
      congr 1;omega
    · have hm:u % 10 < 10:=Nat.mod_lt _ (by omega)
      rw [JN h,List.append_assoc,ih (u / 10) (by omega) _ (by omega),List.cons_append,List.nil_append,Lib.parseUintM]
      have e:=Kg hm
      rw [if_pos (by omega),if_neg (by omega),if_neg (by rw [e];omega),e]
      congr 1;omega
theorem ny (u:Nat):Lib.decDigits u≠ []:=by
  by_cases h:u < 10
  · rw [DL h];simp
  · rw [JN h];simp
theorem RE {B u:Nat}(hB:B≤64)(hu:u < 2 ^ B):Lib.parseUintB B (Lib.itoa (u:Int))= .ok u:=by
  unfold Lib.parseUintB
  rw [Lib.itoa_nonneg,if_neg (ny u)]
  have h2:2 ^ B≤2 ^ 64:=Nat.pow_le_pow_right (by omega) hB
  have:=Sj (M:=2 ^ B - 1) (by have:(2:Nat) ^ 64=18446744073709551616:=(by decide);omega) u [] (by omega)
  rw [List.append_nil] at this
  rw [this];rfl
theorem Ej {B u:Nat}(hB:B≤64)(hu:u < 2 ^ B):Hi (Lib.itoa (u:Int)) B=u∧cd (Lib.itoa (u:Int)) B=true:=by
  unfold Hi cd
  rw [RE hB hu];exact ⟨rfl,rfl⟩
theorem Gt {B u:Nat}(hB:B≤64)(hu:u < 2 ^ B):MY (Lib.itoa (u:Int)) B=true:=by
  unfold MY
  rw [(Ej hB hu).1,(Ej hB hu).2];simp
theorem WU:∀(u:Nat),∀c∈Lib.decDigits u,48≤c.toNat∧c.toNat≤57:=by
  intro u
  induction u using Nat.strongRecOn with
  |_ u ih=>
    intro c hc
    by_cases h:u < 10
    · rw [DL h,List.mem_singleton] at hc
      rw [hc,Kg h];omega
    · have hm:u % 10 < 10:=Nat.mod_lt _ (by omega)
      rw [JN h,List.mem_append,List.mem_singleton] at hc
      rcases hc with hc | hc
      · exact ih (u / 10) (by omega) c hc
      · rw [hc,Kg hm];omega
theorem Er {n:Int}(h:0≤n):(32:UInt8) ∉ Lib.itoa n:=by
  obtain ⟨u,rfl⟩:=Int.eq_ofNat_of_zero_le h
  rw [Lib.itoa_nonneg]
  intro hc
  have:=(WU u _ hc).1
  exact absurd this (by decide)
theorem Sf (k:Int):(32:UInt8) ∉ EK k∧(10:UInt8) ∉ EK k:=by
  unfold EK
  by_cases h:k.toNat < 9
  · have:∀j:Fin 9,(32:UInt8) ∉ ((DH[j.val]?).getD [])∧(10:UInt8) ∉ ((DH[j.val]?).getD []):=by decide
    exact this ⟨_,h⟩
  · rw [List.getElem?_eq_none (by show 9≤_;omega)];simp
theorem YQ {k:Int}(h0:1≤k)(h1:k≤8):Me DH (EK k) 0=k:=by
  obtain ⟨j,rfl⟩:=Int.eq_ofNat_of_zero_le (show 0≤k by omega)
  have:∀j:Fin 9,1≤j.val→Me DH (EK (j.val:Int)) 0=(j.val:Int):=by decide
  exact this ⟨j,by omega⟩ (by show 1≤j;omega)
/-! ### the first blanks -/
theorem Mv:∀ {x z:List UInt8},(32:UInt8) ∉ x→Lib.index (x ++ 32 :: z) [32] = (x.length:Int)
  | [],z,_=>by simp [Lib.index,List.isPrefixOf]
  |c :: r,z,h=>by
    have hc:¬(32:UInt8)=c:=fun e=>h (by simp [e])
    have ih:=Mv (x:=r) (z:=z) (fun hm=>h (List.mem_cons_of_mem _ hm))
    have hp:([32] :List UInt8).isPrefixOf (c :: (r ++ 32 :: z))=false:=by
      have:((32:UInt8) == c)=false:=by simpa using hc
      simp [List.isPrefixOf,this]
    have h1:¬((r.length:Int)= -1):=by omega
    simp [Lib.index,hp,ih,h1]
theorem Dc {k:Nat}{x z:List UInt8}(h:(32:UInt8) ∉ x):Lib.splitK [32] 0 (k+1) (x ++ 32 :: z)=x :: Lib.splitK [32] 0 k z:=by
  rw [Lib.splitK,Mv h]
  rw [if_neg (by simp)]
  simp only [Int.toNat_natCast,Nat.add_zero,List.length_cons,List.length_nil,Nat.zero_add,List.take_left']
  congr 1
  rw [List.drop_append,List.drop_eq_nil_of_le (by omega)]
  simp
theorem ZK {x:AM}(h:Mj x)(F:sD x):JS (Lib.join (Cj x) [32])=Cj x:=by
  have r1:=JP.1 F.r
  have p1:=F.peer
  have e:Lib.join (Cj x) [32] = Lib.itoa x.At ++ 32 :: (EK x.Kind ++ 32 :: (Lib.itoa x.Bw ++ 32 :: (Lib.itoa x.DY ++ 32 :: (Lib.itoa x.Id ++ 32 :: (Lib.itoa x.Set ++ 32 :: Ff (VN x)))))):=by
    unfold Cj;simp [Lib.join_cons,Lib.joinTail]
  have hc:JK (Lib.join (Cj x) [32]) - 1=6:=by
    unfold JK;rw [e];simp only [List.length_append,List.length_cons];omega
  unfold JS
  rw [hc,e,Dc (Er h.pn),Dc (Sf _).1,Dc (Er (by omega)),Dc (Er p1.1),Dc (Er h.rO),Dc (Er F.s0)]
  rfl
theorem dz {x:AM}(h:Mj x)(c:Wg x=true):nk (Lib.join (Cj x) [32])=some x:=by
  have F:=okF.1 c
  have r1:=JP.1 F.r
  have p1:=F.peer
  have es:=ZK h F
  have w0:wN (Lib.join (Cj x) [32]) 0=Lib.itoa x.At:=by unfold wN;rw [es];rfl
  have w1:wN (Lib.join (Cj x) [32]) 1=EK x.Kind:=by unfold wN;rw [es];rfl
  have w2:wN (Lib.join (Cj x) [32]) 2=Lib.itoa x.Bw:=by unfold wN;rw [es];rfl
  have w3:wN (Lib.join (Cj x) [32]) 3=Lib.itoa x.DY:=by unfold wN;rw [es];rfl
  have w4:wN (Lib.join (Cj x) [32]) 4=Lib.itoa x.Id:=by unfold wN;rw [es];rfl
  have w5:wN (Lib.join (Cj x) [32]) 5=Lib.itoa x.Set:=by unfold wN;rw [es];rfl
  have w6:wN (Lib.join (Cj x) [32]) 6=Ff (VN x):=by unfold wN;rw [es];rfl
  obtain ⟨At,Kind,Bw,DY,Id,Set,b0,b1,b2,b3⟩:=x
  have a0:=h.pn;have a1:=h.vq;have i0:=h.rO;have i1:=h.tc;have s0:=F.s0;have s1:=F.s1;have k0:=F.k0;have k1:=F.k1
  simp only at a0 a1 i0 i1 s0 s1 k0 k1 r1 p1 w0 w1 w2 w3 w4 w5 w6
  obtain ⟨uA,rfl⟩:=Int.eq_ofNat_of_zero_le a0
  obtain ⟨uR,rfl⟩:=Int.eq_ofNat_of_zero_le (show 0≤Bw by omega)
  obtain ⟨uP,rfl⟩:=Int.eq_ofNat_of_zero_le p1.1
  obtain ⟨uI,rfl⟩:=Int.eq_ofNat_of_zero_le i0
  obtain ⟨uS,rfl⟩:=Int.eq_ofNat_of_zero_le s0
  have z64:(2:Nat) ^ 64=18446744073709551616:=by decide
  have z31:(2:Nat) ^ 31=2147483648:=by decide
  have z32:(2:Nat) ^ 32=4294967296:=by decide
  have qA:=Ej (B:=64) (u:=uA) (by omega) (by omega)
  have qR:=Ej (B:=31) (u:=uR) (by omega) (by omega)
  have qP:=Ej (B:=31) (u:=uP) (by omega) (by omega)
  have qI:=Ej (B:=32) (u:=uI) (by omega) (by omega)
  have qS:=Ej (B:=31) (u:=uS) (by omega) (by omega)
  have tA:=Gt (B:=64) (u:=uA) (by omega) (by omega)
  have tR:=Gt (B:=31) (u:=uR) (by omega) (by omega)
  have tP:=Gt (B:=31) (u:=uP) (by omega) (by omega)
  have tI:=Gt (B:=32) (u:=uI) (by omega) (by omega)
  have tS:=Gt (B:=31) (u:=uS) (by omega) (by omega)
  have hp:=L7 h.b
  rw [←Kp h.b] at hp
  have hX:lM (Lib.join (Cj ⟨(uA:Int),Kind,(uR:Int),(uP:Int),(uI:Int),(uS:Int),b0,b1,b2,b3⟩) [32])=⟨(uA:Int),Kind,(uR:Int),(uP:Int),(uI:Int),(uS:Int),b0,b1,b2,b3⟩:=by
    unfold lM
    rw [w0,w1,w2,w3,w4,w5,w6,qA.1,qR.1,qP.1,qI.1,qS.1,YQ k0 k1,hp.1];rfl
  have hG:qG (Lib.join (Cj ⟨(uA:Int),Kind,(uR:Int),(uP:Int),(uI:Int),(uS:Int),b0,b1,b2,b3⟩) [32])=true:=by
    unfold qG;rw [w0,w2,w3,w4,w5,tA,tR,tP,tI,tS];rfl
  unfold nk
  rw [if_neg (by rw [es];show ¬7 < 7;omega),if_pos ⟨by rw [w6];exact hp.2,hG,by rw [hX];exact c⟩,hX]
end Go.Proofs.YthpibnpeaidabaaGreatDoor.Dm
