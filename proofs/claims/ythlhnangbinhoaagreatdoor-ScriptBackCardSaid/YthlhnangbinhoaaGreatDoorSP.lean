/- Parse. -/
import Derived.Test.YthlhnangbinhoaaGreatDoorSL
set_option linter.unusedSimpArgs false
set_option linter.unusedVariables false
namespace Go.Proofs.YthlhnangbinhoaaGreatDoor.Dm
open Go.Dm
set_option maxHeartbeats 64000000
set_option maxRecDepth 20000
mutual
theorem Oi:∀v:Value,Av id v=v
 | .bool _=>rfl
 | .int _ _=>rfl
 | .float _ _=>rfl
 | .complex _ _ _=>rfl
 | .string _=>rfl
 | .pointer none=>rfl
 | .pointer (some ⟨_,_,_⟩)=>rfl
 | .slice none _ _=>rfl
 | .slice (some ⟨_,_,none⟩) _ _=>rfl
 | .slice (some ⟨_,_,some _⟩) _ _=>rfl
 | .map none=>rfl
 | .map (some _)=>rfl
 | .chan _=>rfl
 | .func f ⟨a⟩ ⟨b⟩=>by rw [Av,MW a,MW b]
 | .nilFunc=>rfl
 | .iface t v=>by rw [Av,Oi v]
 | .nilIface=>rfl
 | .agg ⟨l⟩=>by rw [Av,MW l]
 | .tuple ⟨l⟩=>by rw [Av,MW l]
theorem MW:∀l:List Value,DA id l=l
 | []=>rfl
 |v :: l=>by rw [DA,Oi v,MW l]
end
theorem nf:∀o:BI,Im id o=o
 | .cells rw e vs=>by rw [Im,MW]
 | .map es Cc=>by
  rw [Im]
  have:es.map (Oc id)=es:=by
   induction es with
   |nil=>rfl
   |cons e es ih=>rw [List.map_cons,ih];unfold Oc;rw [Oi,Oi]
  rw [this]
 | .iter _ _=>rfl
 | .miter _ _ _ _=>rfl
 | .raw _ _=>rfl
theorem Bj.fr_ {base:Nat}{fr fr':DZ}{hp:Hp}{top:Nat}(h:Gk id fr' fr):Bj id base ⟨fr',hp,top⟩ ⟨fr,hp,top⟩:=
 ⟨fun _ _=>rfl,fun _ h=>h,fun _ _ _ _ h=>h,Ac h,fun _ o h=>by rw [nf];exact h⟩
theorem CW.zn {P:Program}{sz base:Nat}{c:Code}{s:SS}{Q:Exit→SS→Prop}{α:Type}(J:α→SS→Prop)(μ:α→Nat)(x0:α)(s0:SS)(h0:J x0 s0)(hs:Bj id base s0 s)
  (h:∀x s,J x s→CW P sz base c s (OB (fun s'=> ∃y s1,μ y < μ x∧J y s1∧Bj id base s1 s') Q)):CW P sz base (.loop c) s Q:=by
 refine CW.D9 (fun y:α×SS=>y.2) (fun y=>J y.1 y.2) (fun y=>μ y.1) (x0,s0) h0 ⟨id,hs⟩ ?_
 rintro ⟨x,s⟩ hx
 refine (h x s hx).mono ?_
 intro e s' h'
 cases e with
 |normal=>
  obtain ⟨y,s1,hm,hy,hs⟩:=h'
  exact ⟨(y,s1),hy,hm,id,hs⟩
 |_=>exact h'
structure Sq where
 S:CR
 ops:List Aq
 last:Int
 G4:Int
 n:Nat
 s:List UInt8
def Hy (l:List UInt8):List UInt8:=at' (CE l) 0
def H3 (l:List UInt8):Ld:=(CE l).drop 1
def ER (x:Sq):Sq ⊕ (Int×Nat):=
 if (Da x.s).2.2=false then .inr (12,x.n)
 else if 0≤x.G4 then match PV (Da x.s).1 with
  |none=> .inr (12,x.n)
  |some o=>if x.ops.length=512 then .inr (3,x.n) else .inl {x with ops:=x.ops ++ [o],n:=x.n+1,s:=(Da x.s).2.1}
 else if (Da x.s).1= [112,108,97,121]∧x.last≠0 then .inl {x with G4:=x.n,n:=x.n+1,s:=(Da x.s).2.1}
 else match (Br x.S (Hy (Da x.s).1) (H3 (Da x.s).1) x.last).now with
  |none=> .inr (12,x.n)
  |some m=> .inl {x with S:=(Br x.S (Hy (Da x.s).1) (H3 (Da x.s).1) x.last).S,last:=m,n:=x.n+1,s:=(Da x.s).2.1}
def Ru:Nat→Sq→Sq ⊕ (Int×Nat)
 |0,x=> .inl x
 |k+1,x=>if x.s= [] then .inl x else match ER x with
  | .inr e=> .inr e
  | .inl y=>Ru k y
def S0:CR:=⟨0,0,0,0, [], [], []⟩
def pO (s:List UInt8):Sq:=⟨S0, [],0, -1,0,s⟩
def iQ (s:List UInt8):Sq ⊕ (Int×Nat):=match Ru (s.length+1) (pO s) with
 | .inr e=> .inr e
 | .inl x=>if 0≤x.G4 then .inl x else .inr (12,x.n)
def Md (chk:CR→Int)(s:List UInt8):(CR×List Aq) ⊕ (Int×Nat):=
 if 65536 < s.length then .inr (3,0) else match iQ s with
 | .inr e=> .inr e
 | .inl x=>if chk x.S=0 then .inl (x.S,x.ops) else .inr (chk x.S,x.G4.toNat)
def Z0 (S:CR)(r k u o:Value):List Value:= [.int .i64 S.W, .int .i64 S.A, .int .i64 S.T, .int .i64 S.L,r,k,u,o]
def sW (x:(CR×List Aq) ⊕ (Int×Nat))(t:Nat):Value×BV×Nat:=match x with
 | .inl (S,ops)=>(.tuple ⟨[.agg ⟨Z0 S (AA t S.R) (AA (t+1) S.K) (AA (t+2) S.U) (AA (t+3) ops)⟩, .nilIface]⟩, [(t,AE AL S.R),(t+1,AE Af S.K),(t+2,AE AJ S.U),(t+3,AE A7 ops)],t+4)
 | .inr (c,n)=>(.tuple ⟨[.agg ⟨Z0 S0 (.slice none 0 0) (.slice none 0 0) (.slice none 0 0) (.slice none 0 0)⟩,I1 t]⟩, [(t,I2 c n)],t+1)
structure Sw (hp:Hp) (v:Value) (S:CR):Prop where
 ex:∃r k u,v= .agg ⟨[.int .i64 S.W, .int .i64 S.A, .int .i64 S.T, .int .i64 S.L,r,k,u]⟩∧BJ AL hp r S.R∧BJ Af hp k S.K∧BJ AJ hp u S.U
 rl:S.R.length≤1000000
 kl:S.K.length≤1000000
 ul:S.U.length≤1000000
def Mr (hp:Hp)(v:Value):CR:=⟨intOf ((Cm v)[0]?.getD undef),intOf ((Cm v)[1]?.getD undef),intOf ((Cm v)[2]?.getD undef),intOf ((Cm v)[3]?.getD undef),AL.rd hp ((Cm v)[4]?.getD undef),Af.rd hp ((Cm v)[5]?.getD undef),AJ.rd hp ((Cm v)[6]?.getD undef)⟩
theorem Sw.d {hp:Hp}{v:Value}{S:CR}(h:Sw hp v S):Mr hp v=S:=by
 obtain ⟨r,k,u,rfl,h1,h2,h3⟩:=h.ex
 simp [Mr,Cm,intOf,h1.rd,h2.rd,h3.rd]
def LG (CP:CR→Prop)(chk:CR→Int):Bz:= .pure (fun args hp=>match args with | [v]=>(∃S,Sw hp v S∧CP S)∧Cp hp | _=>False) (fun args hp=>match args with | [v]=> .int .i64 (chk (Mr hp v)) | _=>undef)
end Go.Proofs.YthlhnangbinhoaaGreatDoor.Dm
