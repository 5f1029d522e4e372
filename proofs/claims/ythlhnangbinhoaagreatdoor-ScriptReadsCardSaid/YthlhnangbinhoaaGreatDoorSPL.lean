/- Scripts in their texts: plain laws. -/
import Derived.Test.YthlhnangbinhoaaGreatDoorSV
import Derived.Test.YthlhnangbinhoaaGreatDoorSZ
import Derived.KernelRfl
import Derived.Test.YthlhnangbinhoaaGreatDoorSST
set_option linter.unusedVariables false
namespace Go.Proofs.YthlhnangbinhoaaGreatDoor.Dm
open Go.Dm
set_option maxHeartbeats 16000000
set_option maxRecDepth 20000
theorem Wp:∀ {x z:List UInt8},(10:UInt8) ∉ x→Lib.index (x ++ 10 :: z) [10] = (x.length:Int)
 | [],z,_=>by simp [Lib.index,List.isPrefixOf]
 |c :: r,z,h=>by
  have hc:¬(10:UInt8)=c:=fun e=>h (by simp [e])
  have ih:=Wp (x:=r) (z:=z) (fun hm=>h (List.mem_cons_of_mem _ hm))
  have hp:([10] :List UInt8).isPrefixOf (c :: (r ++ 10 :: z))=false:=by
   have:((10:UInt8) == c)=false:=by simpa using hc
   simp [List.isPrefixOf,this]
  have h1:¬((r.length:Int)= -1):=by omega
  simp [Lib.index,hp,ih,h1]
theorem uW {x z:List UInt8}(h:(10:UInt8) ∉ x):C4 (x ++ 10 :: z)=(x,z,true):=by
 unfold C4 Lib.cut
 rw [Wp h,if_pos (by omega)]
 simp
theorem TE:∀(s:List UInt8),0≤Lib.index s [10]→s=s.take (Lib.index s [10]).toNat ++ 10 :: s.drop ((Lib.index s [10]).toNat+1)
 | [],h=>absurd h (by simp [Lib.index])
 |c :: r,h=>by
  by_cases hc:c=10
  ·subst hc
   have:Lib.index ((10:UInt8) :: r) [10] = 0:=by simp [Lib.index,List.isPrefixOf]
   rw [this];simp
  ·have hp:([10] :List UInt8).isPrefixOf (c :: r)=false:=by
    have:((10:UInt8) == c)=false:=by simpa using fun e=>hc e.symm
    simp [List.isPrefixOf,this]
   by_cases hr:Lib.index r [10] = -1
   ·exact absurd h (by simp [Lib.index,hp,hr])
   ·rcases Lib.indexB_cases ⟨⟨r⟩⟩ ⟨⟨[10]⟩⟩ with hm | ⟨i,hi,_⟩
    ·exact absurd hm hr
    ·have hi:Lib.index r [10] = (i:Int):=hi
     have ih:=TE r (by omega)
     have e:Lib.index (c :: r) [10] = ((i+1:Nat):Int):=by simp [Lib.index,hp,hi]
     rw [e,Int.toNat_natCast,List.take_succ_cons,List.drop_succ_cons,List.cons_append]
     rw [hi,Int.toNat_natCast] at ih
     rw [←ih]
theorem gy {s:List UInt8}(h:(10:UInt8) ∉ s):C4 s=(s, [],false):=by
 unfold C4 Lib.cut
 by_cases hi:0≤Lib.index s [10]
 ·exfalso
  have:=TE s hi
  rw [this] at h
  exact h (by simp)
 ·rw [if_neg hi]
def MK (x:R4)(l r:List UInt8):R4 ⊕ (Int×Nat):=
 if 0≤x.Cf then match ON l with
  |none=> .inr (12,x.n)
  |some o=>if x.ops.length=512 then .inr (3,x.n) else .inl {x with ops:=x.ops ++ [o],n:=x.n+1,s:=r}
 else if l= [112,108,97,121]∧x.last≠0 then .inl {x with Cf:=x.n,n:=x.n+1,s:=r}
 else match (C9 x.S (NB l) (NA l) x.last).now with
  |none=> .inr (12,x.n)
  |some m=> .inl {x with S:=(C9 x.S (NB l) (NA l) x.last).S,last:=m,n:=x.n+1,s:=r}
theorem TZ {x:R4}{l r:List UInt8}(hs:x.s=l ++ 10 :: r)(h:(10:UInt8) ∉ l):D2 x=MK x l r:=by
 unfold D2 MK
 rw [hs,uW h]
 rfl
theorem wB {x y:R4}{l r:List UInt8}{k:Nat}(hs:x.s=l ++ 10 :: r)(h:(10:UInt8) ∉ l)(e:MK x l r= .inl y):SL (k+1) x=SL k y:=by
 rw [show SL (k+1) x=(if x.s= [] then .inl x else match D2 x with | .inr e=> .inr e | .inl y=>SL k y) from rfl,if_neg (by rw [hs];simp),TZ hs h,e]
theorem wA {x:R4}{l r:List UInt8}{k:Nat}{e:Int×Nat}(hs:x.s=l ++ 10 :: r)(h:(10:UInt8) ∉ l)(he:MK x l r= .inr e):SL (k+1) x= .inr e:=by
 rw [show SL (k+1) x=(if x.s= [] then .inl x else match D2 x with | .inr e=> .inr e | .inl y=>SL k y) from rfl,if_neg (by rw [hs];simp),TZ hs h,he]
def hd (i:Nat):List UInt8:=at' [[119,111,114,108,100,32,56,32,52,32,50,32,49], [114,111,117,116,101,114,32,49,32,49,32,105,110,103,114,101,115,115], [114,111,117,116,101,114,32,50,32,50], [108,105,110,107,32,49,32,50,32,53], [100,114,111,112,32,49,32,50,32,51], [112,108,97,121]] i
end Go.Proofs.YthlhnangbinhoaaGreatDoor.Dm
set_option linter.unusedVariables false
namespace Go.Proofs.YthlhnangbinhoaaGreatDoor.Dm
open Go.Dm
set_option maxHeartbeats 16000000
set_option maxRecDepth 20000
theorem pg {x:R4}{k:Nat}(hne:x.s≠ [])(hn:(10:UInt8) ∉ x.s):SL (k+1) x= .inr (12,x.n):=by
 rw [show SL (k+1) x=(if x.s= [] then .inl x else match D2 x with | .inr e=> .inr e | .inl y=>SL k y) from rfl,if_neg hne]
 unfold D2
 rw [gy hn,if_pos rfl]
end Go.Proofs.YthlhnangbinhoaaGreatDoor.Dm
set_option linter.unusedVariables false
namespace Go.Proofs.YthlhnangbinhoaaGreatDoor.Dm
open Go.Dm
set_option maxHeartbeats 16000000
set_option maxRecDepth 20000
theorem Yx {ws:Ec}{xs:List Int}(h:Ck [] ws=some xs):xs.length=ws.length:=by
 have:=IV h
 simpa using this
theorem IW {ws:Ec}{n:Nat}:CM ws (n:Int)=match Ck [] ws with | some xs=>if xs.length=n then some xs else none | none=>none:=by
 unfold CM
 cases h:Ck [] ws with
 |none=>split <;> rfl
 |some xs=>
  have:=Yx h
  by_cases c:ws.length=n
  ·rw [if_pos (by omega)];simp [this,c]
  ·rw [if_neg (by omega)];simp [this,c]
theorem X1{W:Ec}(h:¬at' W 0= [114,111,117,116,101,114]):Zc W=W.drop 1:=by
 unfold Zc Qy
 rw[decide_eq_false h];simp
theorem iB {W:Ec}{i:Nat}:at' (W.drop 1) i=at' W (i+1):=by
 unfold at'
 rw [List.getElem?_drop,Nat.add_comm]
theorem ACc {W:Ec}(h:at' W 0= [114,111,117,116,101,114]):Zc W=(if OD (W.drop 1)=true then (W.drop 1).take 2 else W.drop 1)∧Qy W=OD (W.drop 1):=by
 have e:Qy W=OD (W.drop 1):=by
  unfold Qy OD
  rw [decide_eq_true h,iB,List.length_drop,Bool.eq_iff_iff]
  simp
 refine ⟨?_,e⟩
 unfold Zc
 have e2:(W.take 3).drop 1=(W.drop 1).take 2:=by cases W <;> rfl
 rw [e,e2]
def KY(r last:Int):Prop:=r < 0∨r < last∨¬((r=0) ↔ (last < 0))
instance {r last:Int}:Decidable (KY r last):=by unfold KY;exact inferInstance
theorem wk (S:BW)(W:Ec)(L:Int)(h0:0≤L) :
  (KY (Lo (at' W 0)) (L - 1)∧(C9 S (at' W 0) (W.drop 1) L).now=none)∨
  (¬KY (Lo (at' W 0)) (L - 1)∧((P2 S W=none∧(C9 S (at' W 0) (W.drop 1) L).now=none)∨
   ∃c S',P2 S W=some (c,S')∧(C9 S (at' W 0) (W.drop 1) L).now=some (Lo (at' W 0)+1)∧(C9 S (at' W 0) (W.drop 1) L).S=S')):=by
 unfold KY
 by_cases c1:at' W 0= [119,111,114,108,100]
 ·have hr:Lo (at' W 0)=0:=by unfold Lo;rw [if_pos c1]
  have hw:=X1 (W:=W) (by rw [c1];decide)
  by_cases hL:L=0
  ·right
   subst hL
   refine ⟨by rw [hr];omega, ?_⟩
   unfold C9 P2
   rw [hr,hw,if_pos c1,if_pos rfl,show (4:Int)=((4:Nat):Int) from rfl,IW]
   cases hn:Ck [] (W.drop 1) with
   |none=>exact .inl ⟨rfl,rfl⟩
   |some xs=>
    by_cases h4:xs.length=4
    ·right
     simp [c1,h4,DM]
    ·left
     simp [c1,h4]
  ·left
   refine ⟨by rw [hr];omega, ?_⟩
   unfold C9
   rw [if_pos c1,if_neg hL]
 by_cases c2:at' W 0= [114,111,117,116,101,114]
 ·have hr:Lo (at' W 0)=1:=by unfold Lo;rw [if_neg c1,if_pos c2]
  obtain ⟨hw,hi⟩:=ACc c2
  by_cases hb:L=0∨2 < L
  ·left
   refine ⟨by rw [hr];omega, ?_⟩
   have hf:DM 2 L=none:=by unfold DM;rw [if_neg (by omega)]
   unfold C9
   rw [if_neg c1,if_pos c2,hf]
   split <;> rfl
  ·right
   have hf:DM 2 L=some 2:=by unfold DM;rw [if_pos (by omega)]
   refine ⟨by rw [hr];omega, ?_⟩
   unfold C9 P2
   rw [hr,hw,if_neg c1,if_pos c2,hf,show CM _ 2=_ from IW (n:=2)]
   cases hn:Ck [] (if OD (W.drop 1)=true then (W.drop 1).take 2 else W.drop 1) with
   |none=>exact .inl ⟨rfl,rfl⟩
   |some xs=>
    by_cases h4:xs.length=2
    ·right
     simp [c2,h4,hi]
    ·left
     simp [c2,h4]
 by_cases c3:at' W 0= [108,105,110,107]
 ·have hr:Lo (at' W 0)=2:=by unfold Lo;rw [if_neg c1,if_neg c2,if_pos c3]
  have hw:=X1 (W:=W) (by rw [c3];decide)
  by_cases hb:L=0∨3 < L
  ·left
   refine ⟨by rw [hr];omega, ?_⟩
   have hf:DM 3 L=none:=by unfold DM;rw [if_neg (by omega)]
   unfold C9
   rw [if_neg c1,if_neg c2,if_pos c3,hf]
   split <;> rfl
  ·right
   have hf:DM 3 L=some 3:=by unfold DM;rw [if_pos (by omega)]
   refine ⟨by rw [hr];omega, ?_⟩
   unfold C9 P2
   rw [hr,hw,if_neg c1,if_neg c2,if_pos c3,hf,show CM _ 3=_ from IW (n:=3)]
   cases hn:Ck [] (W.drop 1) with
   |none=>exact .inl ⟨rfl,rfl⟩
   |some xs=>
    by_cases h4:xs.length=3
    ·right
     simp [c3,h4]
    ·left
     simp [c3,h4]
 by_cases c4:at' W 0= [100,114,111,112]
 ·have hr:Lo (at' W 0)=3:=by unfold Lo;rw [if_neg c1,if_neg c2,if_neg c3,if_pos (.inl c4)]
  have hw:=X1 (W:=W) (by rw [c4];decide)
  by_cases hb:L=0∨4 < L
  ·left
   refine ⟨by rw [hr];omega, ?_⟩
   have hf:DM 4 L=none:=by unfold DM;rw [if_neg (by omega)]
   unfold C9
   rw [if_neg c1,if_neg c2,if_neg c3,if_pos c4,hf]
   split <;> rfl
  ·right
   have hf:DM 4 L=some 4:=by unfold DM;rw [if_pos (by omega)]
   refine ⟨by rw [hr];omega, ?_⟩
   unfold C9 P2
   rw [hr,hw,if_neg c1,if_neg c2,if_neg c3,if_pos c4,hf,show CM _ 3=_ from IW (n:=3)]
   cases hn:Ck [] (W.drop 1) with
   |none=>exact .inl ⟨rfl,rfl⟩
   |some xs=>
    by_cases h4:xs.length=3
    ·right
     simp [c4,h4]
    ·left
     simp [c4,h4]
 by_cases c5:at' W 0= [100,111,117,98,108,101]
 ·have hr:Lo (at' W 0)=3:=by unfold Lo;rw [if_neg c1,if_neg c2,if_neg c3,if_pos (.inr (.inl c5))]
  have hw:=X1 (W:=W) (by rw [c5];decide)
  by_cases hb:L=0∨4 < L
  ·left
   refine ⟨by rw [hr];omega, ?_⟩
   have hf:DM 4 L=none:=by unfold DM;rw [if_neg (by omega)]
   unfold C9
   rw [if_neg c1,if_neg c2,if_neg c3,if_neg c4,if_pos c5,hf]
   split <;> rfl
  ·right
   have hf:DM 4 L=some 4:=by unfold DM;rw [if_pos (by omega)]
   refine ⟨by rw [hr];omega, ?_⟩
   unfold C9 P2
   rw [hr,hw,if_neg c1,if_neg c2,if_neg c3,if_neg c4,if_pos c5,hf,show CM _ 4=_ from IW (n:=4)]
   cases hn:Ck [] (W.drop 1) with
   |none=>exact .inl ⟨rfl,rfl⟩
   |some xs=>
    by_cases h4:xs.length=4
    ·right
     simp [c5,h4]
    ·left
     simp [c5,h4]
 by_cases c6:at' W 0= [100,101,108,97,121]
 ·have hr:Lo (at' W 0)=3:=by unfold Lo;rw [if_neg c1,if_neg c2,if_neg c3,if_pos (.inr (.inr c6))]
  have hw:=X1 (W:=W) (by rw [c6];decide)
  by_cases hb:L=0∨4 < L
  ·left
   refine ⟨by rw [hr];omega, ?_⟩
   have hf:DM 4 L=none:=by unfold DM;rw [if_neg (by omega)]
   unfold C9
   rw [if_neg c1,if_neg c2,if_neg c3,if_neg c4,if_neg c5,if_pos c6,hf]
   split <;> rfl
  ·right
   have hf:DM 4 L=some 4:=by unfold DM;rw [if_pos (by omega)]
   refine ⟨by rw [hr];omega, ?_⟩
   unfold C9 P2
   rw [hr,hw,if_neg c1,if_neg c2,if_neg c3,if_neg c4,if_neg c5,if_pos c6,hf,show CM _ 4=_ from IW (n:=4)]
   cases hn:Ck [] (W.drop 1) with
   |none=>exact .inl ⟨rfl,rfl⟩
   |some xs=>
    by_cases h4:xs.length=4
    ·right
     simp [c6,h4]
    ·left
     simp [c6,h4]
 left
 have hr:Lo (at' W 0)= -1:=by unfold Lo;rw [if_neg c1,if_neg c2,if_neg c3,if_neg (by rintro (h | h | h);exact c4 h;exact c5 h;exact c6 h)]
 refine ⟨by rw [hr];omega, ?_⟩
 unfold C9
 rw [if_neg c1,if_neg c2,if_neg c3,if_neg c4,if_neg c5,if_neg c6]
structure PR where
 S:BW
 ops:List A0
 last:Int
 Cf:Int
def Cq (x:PR)(l:List UInt8)(i:Nat):PR ⊕ (Int×Nat):=
 if 0≤x.Cf then match ON l with
  |none=> .inr (12,i)
  |some o=>if x.ops.length=512 then .inr (3,i) else .inl {x with ops:=x.ops ++ [o]}
 else if l= [112,108,97,121]∧0≤x.last then .inl {x with Cf:=i}
 else if KY (Lo (at' (Bl l) 0)) x.last then .inr (12,i)
 else match P2 x.S (Bl l) with
  |none=> .inr (12,i)
  |some (_,S)=> .inl {x with S:=S,last:=Lo (at' (Bl l) 0)}
def RZ:PR→Ec→Nat→PR ⊕ (Int×Nat)
 |x, [],_=> .inl x
 |x,l :: ls,i=>match Cq x l i with
  | .inr e=> .inr e
  | .inl y=>RZ y ls (i+1)
def Vj (s:List UInt8):(BW×List A0) ⊕ (Int×Nat):=
 if 65536 < s.length then .inr (3,0) else match RZ ⟨S0, [], -1, -1⟩ (li s).1 0 with
 | .inr e=> .inr e
 | .inl x=>if (li s).2≠ []∨x.Cf < 0 then .inr (12,(li s).1.length) else if DY x.S=0 then .inl (x.S,x.ops) else .inr (DY x.S,x.Cf.toNat)
theorem Pw {c:UInt8}{r:List UInt8}:li (c :: r)=if c=10 then ([] :: (li r).1,(li r).2) else match (li r).1 with
  | []=>([],c :: (li r).2)
  |l :: ls=>((c :: l) :: ls,(li r).2):=by rw [li];rfl
theorem si:∀ {l:List UInt8} {r:List UInt8},(10:UInt8) ∉ l→li (l ++ 10 :: r)=(l :: (li r).1,(li r).2)
 | [],r,_=>by
  show li (10 :: r)=_
  rw [Pw,if_pos rfl]
 |c :: l,r,h=>by
  have h1:¬c=10:=fun e=>h (by rw [e];exact List.mem_cons_self ..)
  have ih:=si (l:=l) (r:=r) (fun e=>h (List.mem_cons_of_mem _ e))
  show li (c :: (l ++ 10 :: r))=_
  rw [Pw,if_neg h1,ih]
theorem sj:∀ {l:List UInt8},(10:UInt8) ∉ l→li l=([],l)
 | [],_=>by rw [li]
 |c :: l,h=>by
  have h1:¬c=10:=fun e=>h (by rw [e];exact List.mem_cons_self ..)
  have ih:=sj (l:=l) (fun e=>h (List.mem_cons_of_mem _ e))
  rw [Pw,if_neg h1,ih]
structure nK(x:R4)(y:PR):Prop where
 S:x.S=y.S
 ops:x.ops=y.ops
 last:x.last=y.last+1
 l0: -1≤y.last
 Cf:x.Cf=y.Cf
theorem lI {x:R4}{y:PR}{l r:List UInt8}(h:nK x y) :
  (∃e,MK x l r= .inr e∧Cq y l x.n= .inr e)∨∃x' y',MK x l r= .inl x'∧Cq y l x.n= .inl y'∧nK x' y'∧x'.s=r∧x'.n=x.n+1:=by
 obtain ⟨S,ops,last,Cf,n,s⟩:=x
 obtain ⟨S',ops',last',play'⟩:=y
 obtain ⟨e1,e2,e3,e4,e5⟩:=h
 dsimp only at e1 e2 e3 e4 e5
 subst e1;subst e2;subst e3;subst e5
 unfold MK Cq
 dsimp only
 by_cases hp:0≤Cf
 ·rw [if_pos hp,if_pos hp]
  cases ho:ON l with
  |none=>exact .inl ⟨_,rfl,rfl⟩
  |some o=>
   dsimp only
   by_cases hl:ops.length=512
   ·rw [if_pos hl,if_pos hl];exact .inl ⟨_,rfl,rfl⟩
   ·rw [if_neg hl,if_neg hl]
    exact .inr ⟨_,_,rfl,rfl,⟨rfl,rfl,rfl,e4,rfl⟩,rfl,rfl⟩
 ·rw [if_neg hp,if_neg hp]
  by_cases hq:l= [112,108,97,121]∧0≤last'
  ·rw [if_pos hq,if_pos ⟨hq.1,by omega⟩]
   exact .inr ⟨_,_,rfl,rfl,⟨rfl,rfl,rfl,e4,rfl⟩,rfl,rfl⟩
  ·rw [if_neg hq,if_neg (fun c=>hq ⟨c.1,by have:=c.2;omega⟩)]
   have hst:=wk S (Bl l) (last'+1) (by omega)
   rw [show last'+1 - 1=last' by omega] at hst
   unfold NB NA
   rcases hst with ⟨b,hn⟩ | ⟨b,⟨hs,hn⟩ | ⟨c,S2,hs,hn,hS⟩⟩
   ·rw [if_pos b,hn];exact .inl ⟨_,rfl,rfl⟩
   ·rw [if_neg b,hn,hs];exact .inl ⟨_,rfl,rfl⟩
   ·rw [if_neg b,hn,hs,hS]
    refine .inr ⟨_,_,rfl,rfl,⟨rfl,rfl,rfl, ?_,rfl⟩,rfl,rfl⟩
    show -1≤Lo (at' (Bl l) 0)
    unfold KY at b
    omega
theorem ABD (s:List UInt8):(10:UInt8) ∉ s∨∃l r,s=l ++ 10 :: r∧(10:UInt8) ∉ l:=by
 induction s with
 |nil=>exact .inl (by simp)
 |cons c s ih=>
  by_cases h:c=10
  ·exact .inr ⟨[],s,by rw [h];rfl,by simp⟩
  ·rcases ih with ih | ⟨l,r,e,hl⟩
   ·exact .inl (by rw [List.mem_cons];rintro (e | e);exact h e.symm;exact ih e)
   ·exact .inr ⟨c :: l,r,by rw [e];rfl,by rw [List.mem_cons];rintro (e | e);exact h e.symm;exact hl e⟩
theorem j8:∀(k:Nat) (x:R4) (y:PR),nK x y→x.s.length < k→
  (∃e,SL k x= .inr e∧RZ y (li x.s).1 x.n= .inr e)∨
  (∃x' y',SL k x= .inl x'∧RZ y (li x.s).1 x.n= .inl y'∧nK x' y'∧(li x.s).2= []∧x'.n=x.n+(li x.s).1.length)∨
  (∃y',SL k x= .inr (12,x.n+(li x.s).1.length)∧RZ y (li x.s).1 x.n= .inl y'∧(li x.s).2≠ [])
 |0,x,y,_,hl=>by omega
 |k+1,x,y,h,hl=>by
  by_cases h0:x.s= []
  ·right;left
   refine ⟨x,y, ?_, ?_,h, ?_, ?_⟩
   ·rw [SL,if_pos h0]
   ·rw [h0];rfl
   ·rw [h0];rfl
   ·rw [h0];rfl
  ·rcases ABD x.s with hn | ⟨l,r,hs,hn⟩
   ·have hli:=sj hn
    right;right
    refine ⟨y, ?_, ?_, ?_⟩
    ·rw [hli,pg h0 hn];rfl
    ·rw [hli];rfl
    ·rw [hli];exact h0
   ·have hli:=si (r:=r) hn
    rw [←hs] at hli
    rcases lI (l:=l) (r:=r) h with ⟨e,a,b⟩ | ⟨x',y',a,b,h',hr,hn'⟩
    ·left
     refine ⟨e,wA hs hn a, ?_⟩
     rw [hli]
     show (match Cq y l x.n with | .inr e=>_ | .inl y=>RZ y (li r).1 (x.n+1))=_
     rw [b]
    ·have e1:=wB (k:=k) hs hn a
     have e2:RZ y (li x.s).1 x.n=RZ y' (li x'.s).1 x'.n:=by
      rw [hli,hr,hn']
      show (match Cq y l x.n with | .inr e=>_ | .inl y=>RZ y (li r).1 (x.n+1))=_
      rw [b]
     have e3:(li x.s).2=(li x'.s).2:=by rw [hli,hr]
     have e4:x.n+(li x.s).1.length=x'.n+(li x'.s).1.length:=by rw [hli,hr,hn',List.length_cons];omega
     have hlen:x'.s.length < k:=by
      have:=congrArg List.length hs
      rw [List.length_append,List.length_cons] at this
      rw [hr];omega
     rw [e1,e2,e3,e4]
     exact j8 k x' y' h' hlen
theorem wX (s:List UInt8):Vj s=XA DY s:=by
 unfold Vj XA
 by_cases h:65536 < s.length
 ·rw [if_pos h,if_pos h]
 ·rw [if_neg h,if_neg h]
  unfold ya
  have hk:=j8 (s.length+1) (sy s) ⟨S0, [], -1, -1⟩ ⟨rfl,rfl,rfl,by decide,rfl⟩ (Nat.lt_succ_self _)
  rcases hk with ⟨e,a,b⟩ | ⟨x',y',a,b,h',hr,hn⟩ | ⟨y',a,b,hr⟩
  ·have b:RZ ⟨S0, [], -1, -1⟩ (li s).1 0= .inr e:=b
   rw [a,b]
  ·have b:RZ ⟨S0, [], -1, -1⟩ (li s).1 0= .inl y':=b
   have hr:(li s).2= []:=hr
   have hn:x'.n=0+(li s).1.length:=hn
   rw [a,b]
   dsimp only
   rw [h'.Cf]
   by_cases hp:0≤y'.Cf
   ·rw [if_pos hp,if_neg (by rintro (c | c);exact c hr;omega)]
    dsimp only
    rw [h'.S,h'.ops,h'.Cf]
   ·rw [if_neg hp,if_pos (.inr (by omega)),hn,Nat.zero_add]
  ·have b:RZ ⟨S0, [], -1, -1⟩ (li s).1 0= .inl y':=b
   have hr:(li s).2≠ []:=hr
   rw [a,b]
   dsimp only
   rw [if_pos (.inl hr)]
   show _=Sum.inr (12,0+(li s).1.length)
   rw [Nat.zero_add]
end Go.Proofs.YthlhnangbinhoaaGreatDoor.Dm
