/- NetCounts' law, without the program. -/
import Derived.Test.YtmppehipfpkepaaN23
set_option linter.unusedVariables false
namespace Go.Proofs.Ytmppehipfpkepaa.Dm
open Go.Dm
set_option maxHeartbeats 4000000
set_option maxRecDepth 20000
def uR (k:Nat)(t:Ah):Bool:=decide (t.Ff= [UInt8.ofNat k])
def RG (k:Nat)(l:List Ah):Int:=(l.countP (uR k):Int)
theorem SW (k:Nat):RG k [] = 0:=rfl
theorem QO (k:Nat)(t:Ah)(l:List Ah):RG k (t :: l)=RG k l+(if uR k t then 1 else 0):=by
 unfold RG
 rw [List.countP_cons]
 split <;> simp
theorem Wg (k:Nat)(l:List Ah):0≤RG k l:=Int.natCast_nonneg _
theorem ofNat_inj {j k:Nat}(hj:j < 256)(hk:k < 256)(h:UInt8.ofNat j=UInt8.ofNat k):j=k:=by
 have:=congrArg UInt8.toNat h
 rw [UInt8.toNat_ofNat',UInt8.toNat_ofNat'] at this
 omega
theorem Xp {j k:Nat}{t:Ah}(hj:j < 256)(hk:k < 256)(h:t.Ff= [UInt8.ofNat j]):uR k t=decide (j=k):=by
 unfold uR
 rw [h]
 by_cases e:j=k
 ·subst e;simp
 ·rw [decide_eq_false e,decide_eq_false]
  intro c
  exact e (ofNat_inj hj hk (by simpa using c))
theorem oU {j:Nat}{t:Ah}(hj:j < 256)(h:t.Ff= [UInt8.ofNat j]):cx (Dl t)=j:=by
 unfold cx Dl
 rw [h]
 show (UInt8.ofNat j).toNat=j
 rw [UInt8.toNat_ofNat'];omega
theorem nE {g:List Int}{j k:Nat}{v:Int}(hk:k < g.length):Aj (g.set j v) k=if j=k then v else Aj g k:=by
 rw [Bj _ _ (by rw [List.length_set];exact hk),List.getElem_set]
 split
 ·rfl
 ·rw [Bj _ _ hk]
def km (b:Nat)(l:List Ah):Prop:= ∀t∈l,∃j,j < b∧t.Ff= [UInt8.ofNat j]
theorem eP:∀(l:List Ah) (g:List Int),g.length=256→km 256 l→(∀k,k < 256→0≤Aj g k∧Aj g k+RG k l≤4)→∀k,k < 256→Aj (aC g (l.map Dl)) k=Aj g k+RG k l
 | [],g,hg,_,_,k,_=>by rw [SW];show Aj g k=_;omega
 |t :: l,g,hg,hb,hv,k,hk=>by
  obtain ⟨j,hj,ht⟩:=hb t (by simp)
  have e:aC g ((t :: l).map Dl)=aC (g.set j (BQ .i64 (Aj g j+1))) (l.map Dl):=by
   unfold aC
   rw [List.map_cons,List.foldl_cons]
   unfold dE
   rw [oU hj ht]
  have hj0:=hv j hj
  have c0:=Wg j l
  rw [QO,Xp hj hj ht] at hj0
  simp at hj0
  rw [wrap64 (by omega) (by omega)] at e
  rw [e,eP l _ (by rw [List.length_set];exact hg) (fun t ht=>hb t (List.mem_cons_of_mem _ ht)) ?_ k hk,nE (by omega),QO,Xp hj hk ht]
  ·by_cases c:j=k
   ·subst c;simp;omega
   ·simp [c]
  ·intro i hi
   rw [nE (by omega)]
   have hi0:=hv i hi
   rw [QO,Xp hj hi ht] at hi0
   by_cases c:j=i
   ·subst c;simp at hi0 ⊢;omega
   ·simp [c] at hi0 ⊢;omega
/-- what holds between two steps -/
structure aS (late:Int) (s:Ak) (want got:List Int) (sent tk:Nat):Prop where
 hw:want.length=256
 hg:got.length=256
 eq:∀k,k < 256→Aj got k+RG k s.l=Aj want k
 nn:∀k,k < 256→0≤Aj got k
 w2:∀k,k < 256→Aj want k≤2
 w0:∀k,k < 256→sent≤k→Aj want k=0
 Pd:km sent s.l
 at_:∀t∈s.l,t.at_≤s.now+70
 len:s.l.length≤2 * sent
 last:0≤s.last∧s.last≤2 * (sent:Int)
 lt:s.late=late
 l1:1≤late
 l6:late≤6
 L:s.L=(Gb L3).1
 R:s.R=R3
 m:∀e∈s.P.m,Fa.LQ e.2.1=true
 sn:sent≤250
 st:sent≤tk
 AD1:0≤s.now
 now:s.now≤(tk:Int)
 tk:tk≤1000
theorem aS.ADq {late:Int}{s:Ak}{want got:List Int}{sent tk:Nat}(B:aS late s want got sent tk):km 256 s.l:=fun t ht=>by
 obtain ⟨j,hj,e⟩:=B.Pd t ht
 exact ⟨j,by have:=B.sn;omega,e⟩
/-- some are taken out:what they are is counted -/
theorem aS.out {late:Int}{s s':Ak}{want got:List Int}{sent tk:Nat}(B:aS late s want got sent tk)(g:List Ah)(hp:∀k,RG k g+RG k s'.l=RG k s.l)(hg:∀t∈g,t∈s.l)(hk:s'.l.Sublist s.l)
  (e1:s'.last=s.last) (e2:s'.late=s.late) (e3:s'.L=s.L) (e4:s'.R=s.R) (e5:s'.P=s.P) (e6:s.now≤s'.now) (e7:s'.now≤(tk:Int)):aS late s' want (aC got (g.map Dl)) sent tk:=by
 have hb:∀k,k < 256→Aj (aC got (g.map Dl)) k=Aj got k+RG k g:=eP g got B.hg (fun t ht=>B.ADq t (hg t ht)) fun k hk=>by
  have h1:=B.nn k hk
  have h2:=B.eq k hk
  have h3:=B.w2 k hk
  have h4:=hp k
  have h5:=Wg k s'.l
  omega
 refine ⟨B.hw,by rw [Yx];exact B.hg,fun k hk=> ?_,fun k hk=> ?_,B.w2,B.w0,fun t ht=>B.Pd t (hk.subset ht),fun t ht=> ?_,Nat.le_trans hk.length_le B.len,by rw [e1];exact B.last,e2.trans B.lt,B.l1,B.l6,e3.trans B.L,e4.trans B.R,by rw [e5];exact B.m,B.sn,B.st,by have:=B.AD1;omega,e7,B.tk⟩
 ·rw [hb k hk]
  have:=B.eq k hk
  have:=hp k
  omega
 ·rw [hb k hk]
  have:=B.nn k hk
  have:=Wg k g
  omega
 ·have:=B.at_ t (hk.subset ht);omega
def Pn (s:Ak)(a b:Int):List Ae:=if Ma s a b=0 then EM (Ay (KF s a b)) s.l else []
def MH (s:Ak)(a:Int):List Ae:=if IA s a=0 then EM (Ay (GL s a)) s.l else []
theorem aS.same {late:Int}{s s':Ak}{want got:List Int}{sent tk:Nat}(B:aS late s want got sent tk)(e0:s'.l=s.l)(e1:s'.last=s.last)(e2:s'.late=s.late)(e3:s'.L=s.L)(e4:s'.R=s.R)(e5:s'.P=s.P)(e6:s'.now=s.now):aS late s' want got sent tk:=by
 have:=B.out (s':=s') [] (fun k=>by rw [SW,e0];omega) (by simp) (by rw [e0];exact List.Sublist.refl _) e1 e2 e3 e4 e5 (by omega) (by rw [e6];exact B.now)
 exact this
theorem aS.UK {late:Int}{s:Ak}{want got:List Int}{sent tk:Nat}(B:aS late s want got sent tk)(a b:Int):aS late (Ng s a b) want got sent tk:=by
 unfold Ng
 split
 ·exact B.same rfl rfl rfl rfl rfl rfl rfl
 ·exact B
theorem aS.start {late:Int}{s:Ak}{want got:List Int}{sent tk:Nat}(B:aS late s want got sent tk)(a:Int):aS late (LZ s a) want got sent tk:=by
 unfold LZ
 split
 ·exact B.same rfl rfl rfl rfl rfl rfl rfl
 ·exact B
/-! ### Send -/
/-- what Ask answers,when it may -/
structure AEf (p:Fa.Gl) (a b:Int):Prop where
 e:(Fa.Cr p a b).2.2=0
 l0:0≤(Fa.Cr p a b).2.1.Ee
 l1:(Fa.Cr p a b).2.1.Ee≤64
 s0:0≤(Fa.Cr p a b).2.1.Second
 s1:(Fa.Cr p a b).2.1.Second≤64
 m:∀e∈(Fa.Cr p a b).1.m,Fa.LQ e.2.1=true
/-! ### Tick,to the end -/
/-- at the end -/
theorem aS.done {late:Int}{s:Ak}{want got:List Int}{sent tk:Nat}(B:aS late s want got sent tk)(h:s.l= [])(k:Nat)(hk:k < 256):Aj got k=Aj want k:=by
 have:=B.eq k hk
 rw [h,SW] at this
 omega
end Go.Proofs.Ytmppehipfpkepaa.Dm
/- NetCounts: what lies in memory between two steps. -/
set_option linter.unusedVariables false
namespace Go.Proofs.Ytmppehipfpkepaa.Dm
open Go.Dm
set_option maxHeartbeats 16000000
set_option maxRecDepth 20000
mutual
theorem Hb:∀v:Value,Ad id v=v
 | .bool _=>rfl
 | .int _ _=>rfl
 | .float _ _=>rfl
 | .complex _ _ _=>rfl
 | .string _=>rfl
 | .pointer none=>rfl
 | .pointer (some ⟨_,_,_⟩)=>rfl
 | .slice none _ _=>rfl
 | .slice (some ⟨_,_,none⟩) _ _=>rfl
 | .slice (some ⟨_,_,some _⟩) _ _=>rfl
 | .map none=>rfl
 | .map (some _)=>rfl
 | .chan _=>rfl
 | .func f ⟨a⟩ ⟨b⟩=>by rw [Ad,Mj a,Mj b]
 | .nilFunc=>rfl
 | .iface t v=>by rw [Ad,Hb v]
 | .nilIface=>rfl
 | .agg ⟨l⟩=>by rw [Ad,Mj l]
 | .tuple ⟨l⟩=>by rw [Ad,Mj l]
theorem Mj:∀l:List Value,Ag id l=l
 | []=>rfl
 |v :: l=>by rw [Ag,Hb v,Mj l]
end
theorem dK:∀o:BB,KZ id o=o
 | .cells rw e vs=>by rw [KZ,Mj]
 | .map es CC=>by
  rw [KZ]
  have:es.map (RH id)=es:=by
   induction es with
   |nil=>rfl
   |cons e es ih=>rw [List.map_cons,ih];unfold RH;rw [Hb,Hb]
  rw [this]
 | .iter _ _=>rfl
 | .miter _ _ _ _=>rfl
theorem BO.same {base:Nat}{s:SS}:BO id base s s:=
 ⟨fun _ _=>rfl,fun _ h=>h,fun _ _ _ _ h=>h,fun _ v h=>by rw [Hb];exact h,fun _ o h=>by rw [dK];exact h⟩
theorem BO.vq {base:Nat}{fr fr':Ew}{hp:Hp}{top:Nat}(h:Ax id fr' fr):BO id base ⟨fr',hp,top⟩ ⟨fr,hp,top⟩:=
 ⟨fun _ _=>rfl,fun _ h=>h,fun _ _ _ _ h=>h,AV h,fun _ o h=>by rw [dK];exact h⟩
/-- a loop whose family speaks of memory as it is -/
theorem CW.eW {P:Program}{sz base:Nat}{c:Code}{s:SS}{Q:Exit→SS→Prop}{α:Type}(J:α→SS→Prop)(μ:α→Nat)(x0:α)(s0:SS)(h0:J x0 s0)(hs:BO id base s0 s)
  (h:∀x s,J x s→CW P sz base c s (Ot (fun s'=> ∃y s1,μ y < μ x∧J y s1∧BO id base s1 s') Q)):CW P sz base (.loop c) s Q:=by
 refine CW.CZ (fun y:α×SS=>y.2) (fun y=>J y.1 y.2) (fun y=>μ y.1) (x0,s0) h0 ⟨id,hs⟩ ?_
 rintro ⟨x,s⟩ hx
 refine (h x s hx).mono ?_
 intro e s' h'
 cases e with
 |normal=>
  obtain ⟨y,s1,hm,hy,hs⟩:=h'
  exact ⟨(y,s1),hy,hm,id,hs⟩
 |_=>exact h'
structure AEb (hp0:Hp) (n:Nat) (want got:List Int) (hp:Hp) (top:Nat) (lv:Value) (s:Ak):Prop where
 kp:AE n [] hp hp0
 tp:n+11≤top
 Bc:BW hp n lv s
 hi:Hi (n+11) lv
 sc:Sc top lv
 w:hp (n+8)=AO Ab want
 q:hp (n+9)=AO Ab got
 g:hp (n+10)=some (.cells true 0 [AK (n+9) got])
/-- names of the Bc,and new ones -/
def Own (n:Nat)(us:BC):Prop:= ∀p∈us,(n≤p.1∧p.1≤n+7)∨n+11≤p.1
section
variable {hp0 hp:Hp} {n top:Nat} {want got:List Int} {lv:Value} {s:Ak}
/-! ### the operations -/
def ZZ (s:Ak)(a b:Int)(m:List UInt8):FT:=if JG s a b m then ⟨0,0,0⟩ else (Fa.Cr s.P a b).2.1
def Jg (s:Ak)(a b:Int)(m:List UInt8)(top:Nat):Nat:=if JG s a b m∨DT s a b=0 then top else top+1
theorem iv (n:Nat)(lv:Value)(s:Ak)(a b:Int)(m:List UInt8)(top:Nat):C5 n lv s a b m top=(.tuple ⟨[.agg ⟨JV.enc (ZZ s a b m)⟩, .int .i64 (Ei s a b m.length)]⟩,Ef n lv s a b m top,Jg s a b m top):=by
 unfold ZZ Jg Ef
 by_cases c:JG s a b m
 ·rw [if_pos c,if_pos (.inl c)];unfold C5;rw [if_pos (show _∨_ from c)];rfl
 ·rw [if_neg c];unfold C5;rw [if_neg (show ¬(_∨_) from c)]
  by_cases c0:DT s a b=0
  ·rw [if_pos c0,if_pos (.inr c0)]
  ·rw [if_neg c0,if_neg (by rintro (x | x);exact c x;exact c0 x)]
def GO (s:Ak)(top:Nat):Nat:=if s.now < 1099511627776 then top+1 else top
theorem gY (n:Nat)(lv:Value)(s:Ak)(top:Nat):Hw n lv s top=(AK top (E8 s),Dr n lv s top,GO s top):=by
 unfold Hw GO;rw [ZL]
theorem wW {lv:Value}{l:List Ah}{a b:Nat}(o:E0 AP hp lv s.l)(h:Sc a lv)(hab:a≤b):Sc b (N7 lv l):=by
 rcases CT o with ⟨rfl,_⟩ | ⟨q,rfl,_⟩
 ·trivial
 ·exact Nat.lt_of_lt_of_le (show q < a from h) hab
theorem wZ {lv:Value}{l:List Ah}{a:Nat}(o:E0 AP hp lv s.l)(h:Hi a lv):Hi a (N7 lv l):=by
 rcases CT o with ⟨rfl,_⟩ | ⟨q,rfl,_⟩
 ·exact h
 ·intro b k c e;cases e;exact h q _ _ rfl
def Lp (s:Ak)(a b:Int)(top:Nat):Nat:=if Ma s a b=0 then top+1 else top
def Np (n:Nat)(lv:Value)(s:Ak)(a b:Int)(top:Nat):BC:=(GG n lv s a b top).2.1
theorem nZ (n:Nat)(lv:Value)(s:Ak)(a b:Int)(top:Nat):GG n lv s a b top=(.tuple ⟨[AK top (Pn s a b), .int .i64 (Ma s a b)]⟩,Np n lv s a b top,Lp s a b top):=by
 unfold Np Lp Pn GG
 split
 ·rename_i c;rw [c]
 ·rfl
def G7 (s:Ak)(a:Int)(top:Nat):Nat:=if IA s a=0 then top+1 else top
def JI (n:Nat)(lv:Value)(s:Ak)(a:Int)(top:Nat):BC:=(Ep n lv s a top).2.1
theorem g9 (n:Nat)(lv:Value)(s:Ak)(a:Int)(top:Nat):Ep n lv s a top=(.tuple ⟨[AK top (MH s a), .int .i64 (IA s a)]⟩,JI n lv s a top,G7 s a top):=by
 unfold JI G7 MH Ep
 split
 ·rename_i c;rw [c]
 ·rfl
/-- the list that Tick,Cut or Stop hands out -/
theorem AEJ {us:BC}{top:Nat}{l:List Ae}(hl:l.length≤1000000)(h:l≠ []→(hp.AZ us) top=AO AJ l):BU AJ (hp.AZ us) (AK top l) l:=by
 by_cases c:l= []
 ·rw [c];exact .nils
 ·exact .own (h c) (by omega)
theorem Y2 (p:Ah→Bool)(l:List Ah):(EM p l).length≤l.length:=by
 unfold EM;rw [List.length_map];exact List.length_filter_le _ _
/-! ### the counter -/
end
end Go.Proofs.Ytmppehipfpkepaa.Dm
/- The Bc in memory beside other blocks that stay as they are. -/
set_option linter.unusedVariables false
namespace Go.Proofs.Ytmppehipfpkepaa.Dm
open Go.Dm
set_option maxHeartbeats 16000000
set_option maxRecDepth 20000
/-- the Bc lies at n .. n+7,its list in a new block;all else below m is as it was in F -/
structure Gt (F:Hp) (n m:Nat) (hp:Hp) (top:Nat) (lv:Value) (s:Ak):Prop where
 fx:∀j,j < m→(j < n∨n+8≤j)→hp j=F j
 nm:n+8≤m
 tp:m≤top
 Bc:BW hp n lv s
 hi:Hi m lv
 sc:Sc top lv
/-- names of the Bc,and new ones -/
def ADa (n m:Nat)(us:BC):Prop:= ∀p∈us,(n≤p.1∧p.1≤n+7)∨m≤p.1
section
variable {F hp:Hp} {n m top:Nat} {lv:Value} {s:Ak}
theorem Gt.AZ (h:Gt F n m hp top lv s){us:BC}(hu:ADa n m us){lv':Value}{s':Ak}{top':Nat}(hN:BW (hp.AZ us) n lv' s')(hh:Hi m lv')(hs:Sc top' lv')(ht:top≤top'):Gt F n m (hp.AZ us) top' lv' s':=by
 have hnm:=h.nm
 refine ⟨fun j h1 h2=> ?_,h.nm,Nat.le_trans h.tp ht,hN,hh,hs⟩
 rw [CG fun p hp e=>by have:=hu p hp;omega]
 exact h.fx j h1 h2
/-- what is there now stays -/
theorem Gt.AEL (h:Gt F n m hp top lv s)(hl:Hi top lv):Gt hp n top hp top lv s:=⟨fun _ _ _=>rfl,by have:=h.nm;have:=h.tp;omega,Nat.le_refl _,h.Bc,hl,h.sc⟩
theorem Gt.drop (h:Gt F n m hp top lv s):∀p∈DJ lv,m≤p.1:=eg h.Bc.W.o h.hi
theorem Gt.send (h:Gt F n m hp top lv s)(hla:s.last < 999990)(a b:Int)(b_:List UInt8):Gt F n m (hp.AZ (Ef n lv s a b b_ top)) (Jg s a b b_ top) (JQ lv s a b b_ top) (NT s a b b_):=by
 have t:=h.tp
 have hnm:=h.nm
 refine h.AZ (fun p hp=> ?_) (h.Bc.send (by omega) h.sc hla a b b_) (Yp t h.hi) ?_ ?_
 ·unfold Ef C5 at hp
  split at hp
  ·cases hp
  ·simp only [List.mem_append] at hp
   rcases hp with hp | hp
   ·simp [Fa.Cm] at hp;rcases hp with rfl | rfl <;> simp
   ·unfold Fm at hp
    split at hp
    ·cases hp
    ·simp only [List.mem_cons,List.mem_append,List.not_mem_nil,or_false] at hp
     rcases hp with rfl | hp | rfl
     ·simp
     ·exact .inr (h.drop p hp)
     ·exact .inr t
 ·unfold JQ Jg
  split
  ·exact h.sc
  ·exact Nat.lt_succ_self top
 ·unfold Jg
  split <;> omega
theorem Gt.tick (h:Gt F n m hp top lv s):Gt F n m (hp.AZ (Dr n lv s top)) (GO s top) (IB lv s) (MK s):=by
 have t:=h.tp
 have hnm:=h.nm
 have hT:top≤GO s top:=by unfold GO;split <;> omega
 refine h.AZ (fun p hp=> ?_) (h.Bc.tick (by omega) h.sc) (Zv h.Bc.W.o h.hi) ?_ hT
 ·unfold Dr at hp
  split at hp
  ·simp only [List.mem_cons] at hp
   rcases hp with rfl | rfl | rfl | hp
   ·simp
   ·simp
   ·exact .inr t
   ·rcases CQ h.Bc.W.o (FW s.l (s.now+1)) with ⟨_,c2⟩ | ⟨b,c0,_,c2⟩
    ·rw [show CM s=JU s.l (s.now+1) from rfl,c2] at hp;cases hp
    ·rw [show CM s=JU s.l (s.now+1) from rfl,c2] at hp
     simp at hp;subst hp;exact .inr (h.hi b _ _ c0)
  ·cases hp
 ·unfold IB
  split
  ·rcases CQ h.Bc.W.o (FW s.l (s.now+1)) with ⟨c1,_⟩ | ⟨b,c0,c1,_⟩
   ·rw [show JJ lv s.l 0 (CM s)=lv from c1];exact MA h.Bc.W.o h.sc hT
   ·rw [show JJ lv s.l 0 (CM s)=_ from c1]
    have:=h.sc
    rw [c0] at this
    exact Nat.lt_of_lt_of_le (show b < top from this) hT
  ·exact MA h.Bc.W.o h.sc hT
theorem VH {p:Nat×Option BB}{o:BC}(h:Gt F n m hp top lv s){s':Ak}{l:List Ah}(hp_:p∈(n+6,Bv s'.last (N7 lv l)) :: (Nk AP lv l ++ o))(ho:∀p∈o,m≤p.1):(n≤p.1∧p.1≤n+7)∨m≤p.1:=by
 simp only [List.mem_cons,List.mem_append] at hp_
 rcases hp_ with rfl | hp_ | hp_
 ·simp
 ·rcases CT h.Bc.W.o with ⟨rfl,_⟩ | ⟨q,rfl,_⟩
  ·cases hp_
  ·simp [Nk] at hp_;subst hp_;exact .inr (h.hi q _ _ rfl)
 ·exact .inr (ho p hp_)
theorem Gt.cut (h:Gt F n m hp top lv s)(a b:Int):Gt F n m (hp.AZ (Np n lv s a b top)) (Lp s a b top) (UF lv s a b) (ZP s a b):=by
 have t:=h.tp
 have hnm:=h.nm
 have hT:top≤Lp s a b top:=by unfold Lp;split <;> omega
 refine h.AZ (fun p hp=> ?_) (h.Bc.cut (by omega) h.sc a b) ?_ ?_ hT
 ·unfold Np GG at hp
  split at hp
  ·rcases List.mem_cons.1 hp with rfl | hp
   ·simp
   ·exact VH h hp (by simp;omega)
  ·cases hp
 ·unfold UF;split
  ·exact wZ h.Bc.W.o h.hi
  ·exact h.hi
 ·unfold UF;split
  ·exact wW h.Bc.W.o h.sc hT
  ·exact MA h.Bc.W.o h.sc hT
theorem Gt.stop (h:Gt F n m hp top lv s)(a:Int):Gt F n m (hp.AZ (JI n lv s a top)) (G7 s a top) (NS lv s a) (Qx s a):=by
 have t:=h.tp
 have hnm:=h.nm
 have hT:top≤G7 s a top:=by unfold G7;split <;> omega
 refine h.AZ (fun p hp=> ?_) (h.Bc.stop (by omega) h.sc a) ?_ ?_ hT
 ·unfold JI Ep at hp
  split at hp
  ·rcases List.mem_cons.1 hp with rfl | hp
   ·simp
   ·exact VH h hp (by simp;omega)
  ·cases hp
 ·unfold NS;split
  ·exact wZ h.Bc.W.o h.hi
  ·exact h.hi
 ·unfold NS;split
  ·exact wW h.Bc.W.o h.sc hT
  ·exact MA h.Bc.W.o h.sc hT
theorem Gt.UK (h:Gt F n m hp top lv s)(a b:Int):Gt F n m (hp.AZ (Gv n s a b)) top lv (Ng s a b):=by
 have t:=h.tp
 have hnm:=h.nm
 refine h.AZ (fun p hp=> ?_) (h.Bc.UK a b) h.hi h.sc (Nat.le_refl _)
 unfold Gv at hp
 split at hp
 ·simp at hp;subst hp;simp
 ·cases hp
theorem Gt.start (h:Gt F n m hp top lv s)(a:Int):Gt F n m (hp.AZ (Eu n s a)) top lv (LZ s a):=by
 have t:=h.tp
 have hnm:=h.nm
 refine h.AZ (fun p hp=> ?_) (h.Bc.start a) h.hi h.sc (Nat.le_refl _)
 unfold Eu at hp
 split at hp
 ·simp at hp;subst hp;simp
 ·cases hp
/-- nothing flies:nothing comes -/
theorem ABX {a b:Int}(h:s.l= []):Pn s a b= []:=by unfold Pn;rw [h];split <;> rfl
end
end Go.Proofs.Ytmppehipfpkepaa.Dm
