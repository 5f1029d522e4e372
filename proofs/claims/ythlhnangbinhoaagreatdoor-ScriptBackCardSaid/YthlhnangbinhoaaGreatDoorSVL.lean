/- Scripts in their texts: plain laws. -/
import Derived.Test.YthlhnangbinhoaaGreatDoorSV
import Derived.Test.YthlhnangbinhoaaGreatDoorSZ
import Derived.KernelRfl
set_option linter.unusedSimpArgs false
set_option linter.unusedVariables false
namespace Go.Proofs.YthlhnangbinhoaaGreatDoor.Dm
open Go.Dm
set_option maxHeartbeats 16000000
set_option maxRecDepth 20000
theorem XJ:∀ {x z:List UInt8},(10:UInt8) ∉ x→Lib.index (x ++ 10 :: z) [10] = (x.length:Int)
 | [],z,_=>by simp [Lib.index,List.isPrefixOf]
 |c :: r,z,h=>by
  have hc:¬(10:UInt8)=c:=fun e=>h (by simp [e])
  have ih:=XJ (x:=r) (z:=z) (fun hm=>h (List.mem_cons_of_mem _ hm))
  have hp:([10] :List UInt8).isPrefixOf (c :: (r ++ 10 :: z))=false:=by
   have:((10:UInt8) == c)=false:=by simpa using hc
   simp [List.isPrefixOf,this]
  have h1:¬((r.length:Int)= -1):=by omega
  simp [Lib.index,hp,ih,h1]
theorem vd {x z:List UInt8}(h:(10:UInt8) ∉ x):Da (x ++ 10 :: z)=(x,z,true):=by
 unfold Da Lib.cut
 rw [XJ h,if_pos (by omega)]
 simp
theorem TS:∀(s:List UInt8),0≤Lib.index s [10]→s=s.take (Lib.index s [10]).toNat ++ 10 :: s.drop ((Lib.index s [10]).toNat+1)
 | [],h=>absurd h (by simp [Lib.index])
 |c :: r,h=>by
  by_cases hc:c=10
  ·subst hc
   have:Lib.index ((10:UInt8) :: r) [10] = 0:=by simp [Lib.index,List.isPrefixOf]
   rw [this];simp
  ·have hp:([10] :List UInt8).isPrefixOf (c :: r)=false:=by
    have:((10:UInt8) == c)=false:=by simpa using fun e=>hc e.symm
    simp [List.isPrefixOf,this]
   by_cases hr:Lib.index r [10] = -1
   ·exact absurd h (by simp [Lib.index,hp,hr])
   ·rcases Lib.indexB_cases ⟨⟨r⟩⟩ ⟨⟨[10]⟩⟩ with hm | ⟨i,hi,_⟩
    ·exact absurd hm hr
    ·have hi:Lib.index r [10] = (i:Int):=hi
     have ih:=TS r (by omega)
     have e:Lib.index (c :: r) [10] = ((i+1:Nat):Int):=by simp [Lib.index,hp,hi]
     rw [e,Int.toNat_natCast,List.take_succ_cons,List.drop_succ_cons,List.cons_append]
     rw [hi,Int.toNat_natCast] at ih
     rw [←ih]
theorem mY {s:List UInt8}(h:(10:UInt8) ∉ s):Da s=(s, [],false):=by
 unfold Da Lib.cut
 by_cases hi:0≤Lib.index s [10]
 ·exfalso
  have:=TS s hi
  rw [this] at h
  exact h (by simp)
 ·rw [if_neg hi]
def JU (x:Sq)(l r:List UInt8):Sq ⊕ (Int×Nat):=
 if 0≤x.G4 then match PV l with
  |none=> .inr (12,x.n)
  |some o=>if x.ops.length=512 then .inr (3,x.n) else .inl {x with ops:=x.ops ++ [o],n:=x.n+1,s:=r}
 else if l= [112,108,97,121]∧x.last≠0 then .inl {x with G4:=x.n,n:=x.n+1,s:=r}
 else match (Br x.S (Hy l) (H3 l) x.last).now with
  |none=> .inr (12,x.n)
  |some m=> .inl {x with S:=(Br x.S (Hy l) (H3 l) x.last).S,last:=m,n:=x.n+1,s:=r}
theorem Tg {x:Sq}{l r:List UInt8}(hs:x.s=l ++ 10 :: r)(h:(10:UInt8) ∉ l):ER x=JU x l r:=by
 unfold ER JU
 rw [hs,vd h]
 rfl
theorem NA {x y:Sq}{l r:List UInt8}{k:Nat}(hs:x.s=l ++ 10 :: r)(h:(10:UInt8) ∉ l)(e:JU x l r= .inl y):Ru (k+1) x=Ru k y:=by
 rw [show Ru (k+1) x=(if x.s= [] then .inl x else match ER x with | .inr e=> .inr e | .inl y=>Ru k y) from rfl,if_neg (by rw [hs];simp),Tg hs h,e]
theorem vu {x:Sq}{l r:List UInt8}{k:Nat}{e:Int×Nat}(hs:x.s=l ++ 10 :: r)(h:(10:UInt8) ∉ l)(he:JU x l r= .inr e):Ru (k+1) x= .inr e:=by
 rw [show Ru (k+1) x=(if x.s= [] then .inl x else match ER x with | .inr e=> .inr e | .inl y=>Ru k y) from rfl,if_neg (by rw [hs];simp),Tg hs h,he]
def LJ:List UInt8:= [119,111,114,108,100,32,56,32,52,32,50,32,49,10,114,111,117,116,101,114,32,49,32,49,32,105,110,103,114,101,115,115,10,114,111,117,116,101,114,32,50,32,50,10,108,105,110,107,32,49,32,50,32,53,10,100,114,111,112,32,49,32,50,32,51,10,112,108,97,121,10]
def hd (i:Nat):List UInt8:=at' [[119,111,114,108,100,32,56,32,52,32,50,32,49], [114,111,117,116,101,114,32,49,32,49,32,105,110,103,114,101,115,115], [114,111,117,116,101,114,32,50,32,50], [108,105,110,107,32,49,32,50,32,53], [100,114,111,112,32,49,32,50,32,51], [112,108,97,121]] i
theorem mz (r:List UInt8):LJ ++ r=hd 0 ++ 10 :: (hd 1 ++ 10 :: (hd 2 ++ 10 :: (hd 3 ++ 10 :: (hd 4 ++ 10 :: (hd 5 ++ 10 :: r))))):=rfl
theorem ADi:Br S0 (Hy (hd 0)) (H3 (hd 0)) 0=⟨1,⟨8,4,2,1, [], [], []⟩,some 1⟩:=by kernel_rfl
theorem AC7:Br ⟨8,4,2,1, [], [], []⟩ (Hy (hd 1)) (H3 (hd 1)) 1=⟨2,⟨8,4,2,1, [⟨1,1,true⟩], [], []⟩,some 2⟩:=by kernel_rfl
theorem AC2:Br ⟨8,4,2,1, [⟨1,1,true⟩], [], []⟩ (Hy (hd 2)) (H3 (hd 2)) 2=⟨2,⟨8,4,2,1, [⟨1,1,true⟩,⟨2,2,false⟩], [], []⟩,some 2⟩:=by kernel_rfl
theorem ADY:Br ⟨8,4,2,1, [⟨1,1,true⟩,⟨2,2,false⟩], [], []⟩ (Hy (hd 3)) (H3 (hd 3)) 2=⟨3,⟨8,4,2,1, [⟨1,1,true⟩,⟨2,2,false⟩], [⟨1,2,5⟩], []⟩,some 3⟩:=by kernel_rfl
theorem ADW:Br ⟨8,4,2,1, [⟨1,1,true⟩,⟨2,2,false⟩], [⟨1,2,5⟩], []⟩ (Hy (hd 4)) (H3 (hd 4)) 3=⟨4,EI,some 4⟩:=by kernel_rfl
theorem TU:∀i:Fin 6,(10:UInt8) ∉ hd i.val:=by decide +kernel
theorem Xy:∀i:Fin 5,hd i.val≠ [112,108,97,121]:=by decide +kernel
theorem RS {x:Sq}{l r:List UInt8}{q:Uh}{m:Int}(hp:¬0≤x.G4)(hl:l≠ [112,108,97,121])(hq:Br x.S (Hy l) (H3 l) x.last=q)(hn:q.now=some m):JU x l r= .inl {x with S:=q.S,last:=m,n:=x.n+1,s:=r}:=by
 unfold JU
 rw [if_neg hp,if_neg (fun h=>hl h.1),hq,hn]
theorem Qh (k:Nat)(r:List UInt8):Ru (k+6) (pO (LJ ++ r))=Ru k ⟨EI, [],4,5,6,r⟩:=by
 unfold pO
 rw [mz]
 rw [NA (l:=hd 0) rfl (TU ⟨0,by decide⟩) (RS (show ¬(0:Int)≤ -1 by decide) (Xy ⟨0,by decide⟩) ADi rfl)]
 rw [NA (l:=hd 1) rfl (TU ⟨1,by decide⟩) (RS (show ¬(0:Int)≤ -1 by decide) (Xy ⟨1,by decide⟩) AC7 rfl)]
 rw [NA (l:=hd 2) rfl (TU ⟨2,by decide⟩) (RS (show ¬(0:Int)≤ -1 by decide) (Xy ⟨2,by decide⟩) AC2 rfl)]
 rw [NA (l:=hd 3) rfl (TU ⟨3,by decide⟩) (RS (show ¬(0:Int)≤ -1 by decide) (Xy ⟨3,by decide⟩) ADY rfl)]
 rw [NA (l:=hd 4) rfl (TU ⟨4,by decide⟩) (RS (show ¬(0:Int)≤ -1 by decide) (Xy ⟨4,by decide⟩) ADW rfl)]
 rw [NA (l:=hd 5) rfl (TU ⟨5,by decide⟩) (show JU _ (hd 5) r= .inl ⟨EI, [],4,5,6,r⟩ from by unfold JU;rw [if_neg (show ¬(0:Int)≤ -1 by decide),if_pos ⟨rfl,show (4:Int)≠0 by decide⟩];rfl)]
theorem QJ {S:CR}{last:Int}:∀(l ops:List Aq) (n k:Nat) (r:List UInt8),(∀o∈l,Gy o∧(LH o).isSome=true)→ops.length+l.length≤512→
  Ru (k+l.length) ⟨S,ops,last,5,n,A1 DL l ++ r⟩=Ru k ⟨S,ops ++ l,last,5,n+l.length,r⟩
 | [],ops,n,k,r,_,_=>by simp [A1]
 |o :: l,ops,n,k,r,h,hl=>by
  obtain ⟨h1,h2⟩:=h o (List.mem_cons_self ..)
  cases hs:LH o with
  |none=>rw [hs] at h2;cases h2
  |some w=>
   obtain ⟨e1,e2⟩:=Z7 h1 hs
   have e3:A1 DL (o :: l) ++ r=w ++ 10 :: (A1 DL l ++ r):=by
    show (DL o ++ A1 DL l) ++ r=_
    unfold DL
    rw [hs]
    simp [DM,Ff]
   rw [e3,List.length_cons,←Nat.add_assoc,NA (l:=w) (r:=A1 DL l ++ r) (y:=⟨S,ops ++ [o],last,5,n+1,A1 DL l ++ r⟩) rfl e2 ?_]
   ·rw [QJ l (ops ++ [o]) (n+1) k r (fun q hq=>h q (List.mem_cons_of_mem _ hq)) (by simp at hl ⊢;omega)]
    rw [List.append_assoc,List.singleton_append,Nat.add_assoc,Nat.add_comm 1]
   ·unfold JU
    rw [if_pos (show (0:Int)≤5 by decide),e1]
    dsimp only
    rw [if_neg (by simp at hl;omega)]
end Go.Proofs.YthlhnangbinhoaaGreatDoor.Dm
set_option linter.unusedSimpArgs false
set_option linter.unusedVariables false
namespace Go.Proofs.YthlhnangbinhoaaGreatDoor.Dm
open Go.Dm
set_option maxHeartbeats 16000000
set_option maxRecDepth 20000
theorem Xg:Fl EI=0:=by kernel_rfl
theorem Zl:Io EI=LJ:=by kernel_rfl
theorem Ec:LJ.length=71:=by decide
def Mf (l:List Aq):Prop:= ∀o∈l,Gy o∧(LH o).isSome=true
def Ca (l:List Aq):List UInt8:=LJ ++ A1 DL l
theorem UO:∀ {l:List Aq},l.length≤(A1 DL l).length
 | []=>Nat.le_refl _
 |o :: l=>by
  have:=UO (l:=l)
  have h1:1≤(DL o).length:=by unfold DL DM;simp only [List.length_append,List.length_cons,List.length_nil];omega
  show (o :: l).length≤(DL o ++ A1 DL l).length
  rw [List.length_append,List.length_cons];omega
theorem qx {l:List Aq}(h:Mf l)(hl:l.length≤512)(ht:(Ca l).length≤65536):Md Fl (Ca l)= .inl (EI,l):=by
 have hb:=UO (l:=l)
 have hlen:(Ca l).length=71+(A1 DL l).length:=by unfold Ca;rw [List.length_append,Ec]
 unfold Md
 rw [if_neg (by omega)]
 have hM:iQ (Ca l)= .inl ⟨EI,l,4,5,6+l.length, []⟩:=by
  unfold iQ
  obtain ⟨k,hk⟩:∃k,(Ca l).length+1=(k+1+l.length)+6:=⟨(Ca l).length+1 - 6 - l.length - 1,by omega⟩
  rw [hk]
  unfold Ca
  rw [Qh,show A1 DL l=A1 DL l ++ [] from (List.append_nil _).symm,QJ l [] 6 (k+1) [] h (by simpa using hl)]
  rw [show ∀(k:Nat) (x:Sq),x.s= []→Ru (k+1) x= .inl x from fun k x hx=>by rw [Ru,if_pos hx]]
  ·dsimp only
   rw [if_pos (show (0:Int)≤5 by decide)];rfl
  ·rfl
 rw [hM]
 dsimp only
 rw [if_pos Xg]
theorem r7 {l:List Aq}(h:Mf l)(hl:l.length≤512)(ht:(Ca l).length≤65536):e9 EI l=(Ca l,0):=by
 unfold e9
 rw [if_neg (by simp [Xg]),if_neg (by omega),Od fun o ho=>(h o ho).2]
 dsimp only
 rw [Zl]
 unfold Ca at ht ⊢
 rw [if_neg (by omega)]
def M4:List UInt8:= [116,111,99,107,32,57]
theorem cR:PV M4=none:=by kernel_rfl
theorem iM {l:List Aq}{r:List UInt8}(h:Mf l)(hl:l.length≤512)(ht:(Ca l ++ (M4 ++ 10 :: r)).length≤65536):Md Fl (Ca l ++ (M4 ++ 10 :: r))= .inr (12,6+l.length):=by
 have hb:=UO (l:=l)
 have hlen:(Ca l ++ (M4 ++ 10 :: r)).length=71+(A1 DL l).length+(7+r.length):=by unfold Ca;simp only [List.length_append,Ec,List.length_cons];have:M4.length=6:=rfl;omega
 unfold Md
 rw [if_neg (by omega)]
 have hM:iQ (Ca l ++ (M4 ++ 10 :: r))= .inr (12,6+l.length):=by
  unfold iQ
  obtain ⟨k,hk⟩:∃k,(Ca l ++ (M4 ++ 10 :: r)).length+1=(k+1+l.length)+6:=⟨(Ca l ++ (M4 ++ 10 :: r)).length+1 - 6 - l.length - 1,by omega⟩
  rw [hk]
  unfold Ca
  rw [List.append_assoc,Qh,QJ l [] 6 (k+1) _ h (by simpa using hl),vu (l:=M4) (r:=r) (e:=(12,6+l.length)) rfl (by decide) ?_]
  unfold JU
  rw [if_pos (show (0:Int)≤5 by decide),cR]
 rw [hM]
theorem qq {x:Sq}{k:Nat}(hne:x.s≠ [])(hn:(10:UInt8) ∉ x.s):Ru (k+1) x= .inr (12,x.n):=by
 rw [show Ru (k+1) x=(if x.s= [] then .inl x else match ER x with | .inr e=> .inr e | .inl y=>Ru k y) from rfl,if_neg hne]
 unfold ER
 rw [mY hn,if_pos rfl]
theorem Zc:Md Fl (LJ.take 70)= .inr (12,5):=by kernel_rfl
theorem de {l:List Aq}(h:Mf l)(hl:l.length≤512)(ht:(Ca l).length≤65536):Md Fl ((Ca l).take ((Ca l).length - 1))= .inr (12,5+l.length):=by
 have hcases:l= []∨∃l' o,l=l' ++ [o]:=by
  rcases List.eq_nil_or_concat l with h | ⟨l',o,h⟩
  ·exact .inl h
  ·exact .inr ⟨l',o,by simpa using h⟩
 rcases hcases with rfl | ⟨l',o,rfl⟩
 ·have e:(Ca []).take ((Ca []).length - 1)=LJ.take 70:=by
   unfold Ca
   simp only [A1,List.append_nil,Ec]
  rw [e]
  exact Zc
 ·obtain ⟨h1,h2⟩:=h o (by simp)
  cases hs:LH o with
  |none=>rw [hs] at h2;cases h2
  |some w=>
   obtain ⟨e1,e2⟩:=Z7 h1 hs
   obtain ⟨_,e4⟩:=Nq h1 hs
   have hg:Mf l':=fun q hq=>h q (by simp [hq])
   have e3:Ca (l' ++ [o])=Ca l' ++ w ++ [10]:=by
    unfold Ca
    rw [GR]
    unfold DL
    rw [hs]
    simp [DM,Ff]
   have e5:(Ca (l' ++ [o])).take ((Ca (l' ++ [o])).length - 1)=Ca l' ++ w:=by
    rw [e3,List.length_append,List.length_singleton,Nat.add_sub_cancel]
    exact List.take_left
   have hb:=UO (l:=l')
   have hlen:(Ca l' ++ w).length=71+(A1 DL l').length+w.length:=by unfold Ca;simp only [List.length_append,Ec]
   have hw:1≤w.length:=by cases w with
    |nil=>exact absurd rfl e4
    |cons a w=>simp
   have hle:(Ca l' ++ w).length≤65536:=by rw [e3,List.length_append] at ht;omega
   rw [e5]
   unfold Md
   rw [if_neg (by omega)]
   have hM:iQ (Ca l' ++ w)= .inr (12,5+(l' ++ [o]).length):=by
    unfold iQ
    obtain ⟨k,hk⟩:∃k,(Ca l' ++ w).length+1=(k+1+l'.length)+6:=⟨(Ca l' ++ w).length+1 - 6 - l'.length - 1,by omega⟩
    rw [hk]
    unfold Ca
    rw [List.append_assoc,Qh,QJ l' [] 6 (k+1) w hg (by simp at hl ⊢;omega),qq e4 e2]
    simp only [List.length_append,List.length_cons,List.length_nil]
    rw [show 6+l'.length=5+(l'.length+(0+1)) by omega]
   rw [hM]
end Go.Proofs.YthlhnangbinhoaaGreatDoor.Dm
