/- Parse. -/
import Derived.Test.YthlhnangbinhoaaGreatDoorSL
set_option linter.unusedVariables false
namespace Go.Proofs.YthlhnangbinhoaaGreatDoor.Dm
open Go.Dm
set_option maxHeartbeats 64000000
set_option maxRecDepth 20000
mutual
theorem iX:∀v:Value,Az id v=v
 | .bool _=>rfl
 | .int _ _=>rfl
 | .float _ _=>rfl
 | .complex _ _ _=>rfl
 | .string _=>rfl
 | .pointer none=>rfl
 | .pointer (some ⟨_,_,_⟩)=>rfl
 | .slice none _ _=>rfl
 | .slice (some ⟨_,_,none⟩) _ _=>rfl
 | .slice (some ⟨_,_,some _⟩) _ _=>rfl
 | .map none=>rfl
 | .map (some _)=>rfl
 | .chan _=>rfl
 | .func f ⟨a⟩ ⟨b⟩=>by rw [Az,NP a,NP b]
 | .nilFunc=>rfl
 | .iface t v=>by rw [Az,iX v]
 | .nilIface=>rfl
 | .agg ⟨l⟩=>by rw [Az,NP l]
 | .tuple ⟨l⟩=>by rw [Az,NP l]
theorem NP:∀l:List Value,Co id l=l
 | []=>rfl
 |v :: l=>by rw [Co,iX v,NP l]
end
structure du where
 S:CK
 ops:List Ax
 last:Int
 GP:Int
 n:Nat
 s:List UInt8
def Ov (l:List UInt8):List UInt8:=at' (Bm l) 0
def Ox (l:List UInt8):Ha:=(Bm l).drop 1
def Fo (x:du):du ⊕ (Int×Nat):=
 if (DJ x.s).2.2=false then .inr (12,x.n)
 else if 0≤x.GP then match P5 (DJ x.s).1 with
  |none=> .inr (12,x.n)
  |some o=>if x.ops.length=512 then .inr (3,x.n) else .inl {x with ops:=x.ops ++ [o],n:=x.n+1,s:=(DJ x.s).2.1}
 else if (DJ x.s).1= [112,108,97,121]∧x.last≠0 then .inl {x with GP:=x.n,n:=x.n+1,s:=(DJ x.s).2.1}
 else match (Bn x.S (Ov (DJ x.s).1) (Ox (DJ x.s).1) x.last).now with
  |none=> .inr (12,x.n)
  |some m=> .inl {x with S:=(Bn x.S (Ov (DJ x.s).1) (Ox (DJ x.s).1) x.last).S,last:=m,n:=x.n+1,s:=(DJ x.s).2.1}
def v7:Nat→du→du ⊕ (Int×Nat)
 |0,x=> .inl x
 |k+1,x=>if x.s= [] then .inl x else match Fo x with
  | .inr e=> .inr e
  | .inl y=>v7 k y
def S0:CK:=⟨0,0,0,0, [], [], []⟩
def xg (s:List UInt8):du:=⟨S0, [],0, -1,0,s⟩
def paM (s:List UInt8):du ⊕ (Int×Nat):=match v7 (s.length+1) (xg s) with
 | .inr e=> .inr e
 | .inl x=>if 0≤x.GP then .inl x else .inr (12,x.n)
def S9 (chk:CK→Int)(s:List UInt8):(CK×List Ax) ⊕ (Int×Nat):=
 if 65536 < s.length then .inr (3,0) else match paM s with
 | .inr e=> .inr e
 | .inl x=>if chk x.S=0 then .inl (x.S,x.ops) else .inr (chk x.S,x.GP.toNat)
def Yl (S:CK)(r k u o:Value):List Value:= [.int .i64 S.W, .int .i64 S.A, .int .i64 S.T, .int .i64 S.L,r,k,u,o]
def yn (x:(CK×List Ax) ⊕ (Int×Nat))(t:Nat):Value×BI×Nat:=match x with
 | .inl (S,ops)=>(.tuple ⟨[.agg ⟨Yl S (AA t S.R) (AA (t+1) S.K) (AA (t+2) S.U) (AA (t+3) ops)⟩, .nilIface]⟩, [(t,AD AL S.R),(t+1,AD Ad S.K),(t+2,AD AJ S.U),(t+3,AD Aw ops)],t+4)
 | .inr (c,n)=>(.tuple ⟨[.agg ⟨Yl S0 (.slice none 0 0) (.slice none 0 0) (.slice none 0 0) (.slice none 0 0)⟩,RX t]⟩, [(t,OT c n)],t+1)
structure SH (hp:Hp) (v:Value) (S:CK):Prop where
 ex:∃r k u,v= .agg ⟨[.int .i64 S.W, .int .i64 S.A, .int .i64 S.T, .int .i64 S.L,r,k,u]⟩∧BP AL hp r S.R∧BP Ad hp k S.K∧BP AJ hp u S.U
 rl:S.R.length≤1000000
 kl:S.K.length≤1000000
 ul:S.U.length≤1000000
def Lv (hp:Hp)(v:Value):CK:=⟨intOf ((Ca v)[0]?.getD undef),intOf ((Ca v)[1]?.getD undef),intOf ((Ca v)[2]?.getD undef),intOf ((Ca v)[3]?.getD undef),AL.rd hp ((Ca v)[4]?.getD undef),Ad.rd hp ((Ca v)[5]?.getD undef),AJ.rd hp ((Ca v)[6]?.getD undef)⟩
theorem SH.d {hp:Hp}{v:Value}{S:CK}(h:SH hp v S):Lv hp v=S:=by
 obtain ⟨r,k,u,rfl,h1,h2,h3⟩:=h.ex
 simp [Lv,Ca,intOf,h1.rd,h2.rd,h3.rd]
def Jl (CP:CK→Prop)(chk:CK→Int):Bb:= .pure (fun args hp=>match args with | [v]=>(∃S,SH hp v S∧CP S)∧C7 hp | _=>False) (fun args hp=>match args with | [v]=> .int .i64 (chk (Lv hp v)) | _=>undef)
end Go.Proofs.YthlhnangbinhoaaGreatDoor.Dm
