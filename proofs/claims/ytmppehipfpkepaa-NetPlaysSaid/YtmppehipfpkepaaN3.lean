/- The Bc: its state in memory; none, pairOf, up, Now, Flying. -/
import Derived.Test.YtmppehipfpkepaaTr
import Derived.Test.YtmppehipfpkepaaNGO
import Derived.Test.YtmppehipfpkepaaNFB
set_option linter.unusedVariables false
namespace Go.Proofs.Ytmppehipfpkepaa.Dm
open Go.Dm
set_option maxHeartbeats 8000000
set_option maxRecDepth 20000
structure Ak where
 R:List Int
 L:DD
 lc:Nat
 C:DA
 cc:Nat
 S:Db
 sc:Nat
 P:Fa.Gl
 late:Int
 now:Int
 last:Int
 l:List Ah
def Bi (n:Nat)(s:Ak):Option BB:=some (.cells true 0 [AK (n+7) s.R, .map (some (n+1)), .map (some (n+2)), .map (some (n+3)), .pointer (some ⟨n+4,0,none⟩), .int .u64 s.late, .int .u64 s.now, .pointer (some ⟨n+6,0,none⟩)])
structure BW (hp:Hp) (n:Nat) (lv:Value) (s:Ak):Prop where
 h:hp n=Bi n s
 L:hp (n+1)=some (.map (Bq s.L) s.lc)
 C:hp (n+2)=some (.map (BR s.C) s.cc)
 S:hp (n+3)=some (.map (Br s.S) s.sc)
 P:hp (n+4)=Fa.B7 (n+5) s.P.ks
 M:hp (n+5)=some (.map (BI s.P.m) s.P.CC)
 pl:s.P.ks.length=625
 W:Cp hp (n+6) s.last lv s.l
 R:s.R≠ []→hp (n+7)=AO Ab s.R
 rn:s.R.length≤1000
 T8:1≤s.late
 T7:s.late≤64
 RO:0≤s.now
 UN:s.now≤1099511627776
theorem nz {b:Nat}:∀ {l m:List Int} {h:Hp},h b=AO Ab l→h b=AO Ab m→l=m:=by
 intro l m h h1 h2
 rw [h1] at h2
 have e1:∀l:List Int,((AO Ab l).map fun o=>(cellsOf (some o)).map intOf).getD [] = l:=by
  intro l
  cases l with
  |nil=>rfl
  |cons a l=>
   have:∀l:List Int,(Ab.flat l).map intOf=l:=by
    intro l
    induction l with
    |nil=>rfl
    |cons a l ih=>rw [Bn.D8,List.map_append,ih];rfl
   exact this (a :: l)
 rw [←e1 l,h2,e1 m]
theorem E0.fn {hp:Hp}{v:Value}{l m:List Ah}(h:E0 AP hp v l)(g:E0 AP hp v m):l=m:=by rw [←h.Rn.rd,g.Rn.rd]
theorem BW.fn {hp:Hp}{n:Nat}{lv lv':Value}{s s':Ak}(h:BW hp n lv s)(g:BW hp n lv' s'):lv=lv'∧s=s':=by
 have e1:=h.h.symm.trans g.h
 have e2:=h.L.symm.trans g.L
 have e3:=h.C.symm.trans g.C
 have e4:=h.S.symm.trans g.S
 have e5:=h.P.symm.trans g.P
 have e6:=h.M.symm.trans g.M
 have e7:=h.W.h.symm.trans g.W.h
 simp only [Bi,Option.some.injEq,BB.cells.injEq,BB.map.injEq,List.cons.injEq,Value.int.injEq,true_and,and_true,Fa.B7] at e1 e2 e3 e4 e5 e6 e7
 obtain ⟨a1,a2⟩:=e2
 obtain ⟨b1,b2⟩:=e3
 obtain ⟨c1,c2⟩:=e4
 obtain ⟨d1,d2⟩:=e6
 have a3:=congrArg Hr a1
 have b3:=congrArg Gs b1
 have c3:=congrArg F1 c1
 have d3:=congrArg E9 d1
 have k3:=congrArg (List.map intOf) e5
 rw [Hf,Hf] at a3
 rw [Gg,Gg] at b3
 rw [HI,HI] at c3
 rw [FE,FE] at d3
 rw [Gr.HT,Gr.HT] at k3
 obtain ⟨w1,w2⟩:=e7
 have r0:=e1.1
 have r3:s.R=s'.R:=by
  cases hr:s.R with
  |nil=>
   cases hr':s'.R with
   |nil=>rfl
   |cons a l=>rw [hr,hr'] at r0;simp [AK] at r0
  |cons a l=>
   cases hr':s'.R with
   |nil=>rw [hr,hr'] at r0;simp [AK] at r0
   |cons a' l'=>
    have u1:=h.R (by rw [hr];simp)
    have u2:=g.R (by rw [hr'];simp)
    rw [←hr,←hr']
    exact nz u1 u2
 have l3:s.l=s'.l:=by
  have o:=h.W.o
  rw [w2] at o
  exact E0.fn o g.W.o
 refine ⟨w2, ?_⟩
 obtain ⟨R,L,lc,C,cc,S,sc,⟨m,CC,ks⟩,late,now,last,l⟩:=s
 obtain ⟨R',L',lc',C',cc',S',sc',⟨m',clk',ks'⟩,late',now',last',l'⟩:=s'
 simp only at *
 obtain ⟨_,e8,e9⟩:=e1
 subst a3 a2 b3 b2 c3 c2 d3 d2 k3 w1 r3 l3 e8 e9
 rfl
open Classical in
noncomputable def Im (hp:Hp)(n:Nat):Ak:=if h:∃s lv,BW hp n lv s then h.choose else ⟨[], [],0, [],0, [],0,⟨[],0, []⟩,0,0,0, []⟩
open Classical in
noncomputable def Wn (hp:Hp)(n:Nat):Value:=if h:∃lv s,BW hp n lv s then h.choose else undef
theorem BW.s {hp:Hp}{n:Nat}{lv:Value}{s:Ak}(h:BW hp n lv s):Im hp n=s:=by
 unfold Im
 have e:∃s lv,BW hp n lv s:=⟨s,lv,h⟩
 rw [dif_pos e]
 obtain ⟨lv',h'⟩:=e.choose_spec
 exact (h'.fn h).2
theorem BW.v {hp:Hp}{n:Nat}{lv:Value}{s:Ak}(h:BW hp n lv s):Wn hp n=lv:=by
 unfold Wn
 have e:∃lv s,BW hp n lv s:=⟨lv,s,h⟩
 rw [dif_pos e]
 obtain ⟨s',h'⟩:=e.choose_spec
 exact (h'.fn h).1
def F2 (hp:Hp)(n:Nat):Prop:= ∃lv s,BW hp n lv s
theorem BW.is {hp:Hp}{n:Nat}{lv:Value}{s:Ak}(h:BW hp n lv s):F2 hp n=True:=eq_true ⟨lv,s,h⟩
/-- the list's block is none of the net's -/
theorem BW.BT {hp hp':Hp}{n top:Nat}{lv:Value}{s:Ak}(h:BW hp n lv s)(hcl:Cl hp top)(hk:∀i,i < top→hp' i=hp i):BW hp' n lv s:=by
 have low:n+6 < top:=hcl.lt _ _ h.W.h
 refine ⟨(hk _ (by omega)).trans h.h,(hk _ (by omega)).trans h.L,(hk _ (by omega)).trans h.C,(hk _ (by omega)).trans h.S,(hk _ (by omega)).trans h.P,(hk _ (by omega)).trans h.M,h.pl, ?_, ?_,h.rn,h.T8,h.T7,h.RO,h.UN⟩
 ·exact ⟨(hk _ low).trans h.W.h,h.W.o.mono fun b k c e=>hk b (by have:=h.W.low hcl;rw [e] at this;exact this),h.W.up,h.W.tk,h.W.l0,h.W.l1,h.W.n⟩
 ·intro hr
  have u:=h.R hr
  have:n+7 < top:=by
   cases hl:s.R with
   |nil=>exact absurd hl hr
   |cons a l=>rw [hl] at u;exact hcl.lt _ _ u
  exact (hk _ this).trans u
theorem BW.low {hp:Hp}{n:Nat}{lv:Value}{s:Ak}(h:BW hp n lv s){top:Nat}(hcl:Cl hp top):n+6 < top:=hcl.lt _ _ h.W.h
/-! ### none,pairOf,up -/
def Ba:Bp:= .pure (fun args hp=>match args with | [.pointer (some ⟨n,0,none⟩)]=>F2 hp n | [.pointer none]=>True | _=>False) (fun args _=>match args with | [.pointer none]=> .bool true | _=> .bool false)
theorem pg:BK Try.prog 29 Ba:=by
 refine .Gx Ru ?_ ?_
 ·intro args hp h
  match args,h with
  | [.pointer (some ⟨n,0,none⟩)],_=>rfl
  | [.pointer none],_=>rfl
 intro args hp hpre top hcl hsc
 match args,hpre with
 | [.pointer (some ⟨n,0,none⟩)],⟨lv,s,h⟩=>
  refine AL.Au BE Ru rfl 12 rfl [.tmp 2] rfl (show 1≤12 by decide) ?_
  have hh:=h.h
  refine CW.vc J4 [0,2] (by kernel_rfl) ?_
  (repeat ((try refine Vc.mk' ?_);simp only [go_sem,Nat.reduceAdd,Nat.reduceLT,hh,Bi]))
 | [.pointer none],_=>
  refine AL.Au BE Ru rfl 12 rfl [.tmp 2] rfl (show 1≤12 by decide) ?_
  refine CW.vc J4 [0,2] (by kernel_rfl) ?_
  (repeat ((try refine Vc.mk' ?_);simp only [go_sem]))
theorem AB3 {x y:Int}:(bif decide (y < x) then y else x)=min x y:=by
 by_cases h:y < x
 ·simp [h];omega
 ·simp [h];omega
theorem ABm {x y:Int}:(bif decide (x < y) then y else x)=max x y:=by
 by_cases h:x < y
 ·simp [h];omega
 ·simp [h];omega
def B3:Bp:= .pure (fun args _=>match args with | [x,y]=>EO .i64 x∧EO .i64 y | _=>False) (fun args _=>match args with | [x,y]=> .agg ⟨[.int .i64 (min (intOf x) (intOf y)), .int .i64 (max (intOf x) (intOf y))]⟩ | _=>undef)
theorem vH:BK Try.prog 30 B3:=by
 refine .Gx Wd ?_ ?_
 ·intro args hp h
  match args,h with
  | [x,y],_=>rfl
 intro args hp hpre top hcl hsc
 match args,hpre with
 | [x,y],⟨hx,hy⟩=>
 rw [hx,hy]
 generalize intOf x=x,intOf y=y
 refine AL.Au BE Wd rfl 12 rfl [.cell 4 99] rfl (show 2≤12 by decide) ?_
 refine CW.vc J4 [0,1,4] (by kernel_rfl) ?_
 (repeat ((try refine Vc.mk' ?_);simp only [go_sem,Nat.reduceAdd,Nat.reduceLeDiff,AB3,ABm]))
def yX:FuncId→Bp:=Bu (Bu (Bu vL 35 Kr) 29 Ba) 30 B3
theorem JL:Cf Try.prog tt.get yX:=((J4.add gC).add pg).add vH
theorem Ho:yX 30=B3:=rfl
def pk (a b:Int):HZ:=⟨min a b,max a b⟩
def DX (s:Ak)(a b:Int):Int:=(BV s.L (pk a b)).getD 0
def GQ (s:Ak)(a b:Int):Bool:=decide (0 < DX s a b) && !((BV s.C (pk a b)).getD false) && !((BV s.S a).getD false) && !((BV s.S b).getD false)
noncomputable def Ih:Bp:= .pure (fun args hp=>match args with | [.pointer (some ⟨n,0,none⟩),x,y]=>F2 hp n∧EO .i64 x∧EO .i64 y | _=>False) (fun args hp=>match args with | [.pointer (some ⟨n,_,_⟩),x,y]=> .bool (GQ (Im hp n) (intOf x) (intOf y)) | _=>undef)
theorem wT:BK Try.prog 31 Ih:=by
 refine .Gx Ok ?_ ?_
 ·intro args hp h
  match args,h with
  | [.pointer (some ⟨n,0,none⟩),x,y],_=>rfl
 intro args hp hpre top hcl hsc
 match args,hpre with
 | [.pointer (some ⟨n,0,none⟩),x,y],⟨⟨lv,s,h⟩,hx,hy⟩=>
 rw [hx,hy]
 generalize intOf x=x,intOf y=y
 simp only [h.s,BA]
 have hlow:=h.low hcl
 have n0:n < top:=by omega
 have n1:n+1 < top:=by omega
 have n2:n+2 < top:=by omega
 have n3:n+3 < top:=by omega
 have hh:=h.h
 have hL:=h.L
 have hC:=h.C
 have hS:=h.S
 refine AL.Au BE Ok rfl 45 rfl [.tmp 6] rfl (show 3≤45 by decide) ?_
 by_cases c1:0 < (BV s.L ⟨min x y,max x y⟩).getD default
 case neg=>
  have e:GQ s x y=false:=by unfold GQ DX pk;rw [show decide (0 < (BV s.L ⟨min x y,max x y⟩).getD 0)=false from decide_eq_false c1];simp
  rw [e]
  refine CW.vc JL [0,1,2,6,7] (by kernel_rfl) ?_
  (repeat ((try refine Vc.mk' ?_);simp only [go_sem,Nat.reduceAdd,Nat.reduceLT,hh,Bi,hL,Ho,B3,AS n0,AS n1,c1]))
 have e1:decide (0 < (BV s.L ⟨min x y,max x y⟩).getD 0)=true:=decide_eq_true c1
 cases c2:(BV s.C ⟨min x y,max x y⟩).getD default with
 |true=>
  have e:GQ s x y=false:=by unfold GQ DX pk;rw [show (BV s.C ⟨min x y,max x y⟩).getD false=true from c2];simp
  rw [e]
  refine CW.vc JL [0,1,2,6,7] (by kernel_rfl) ?_
  (repeat ((try refine Vc.mk' ?_);simp only [go_sem,Nat.reduceAdd,Nat.reduceLT,hh,Bi,hL,hC,Ho,B3,AS n0,AS n1,AS n2,c1,c2]))
 |false=>
 cases c3:(BV s.S x).getD default with
 |true=>
  have e:GQ s x y=false:=by unfold GQ DX pk;rw [show (BV s.S x).getD false=true from c3];simp
  rw [e]
  refine CW.vc JL [0,1,2,6,7] (by kernel_rfl) ?_
  (repeat ((try refine Vc.mk' ?_);simp only [go_sem,Nat.reduceAdd,Nat.reduceLT,hh,Bi,hL,hC,hS,Ho,B3,AS n0,AS n1,AS n2,AS n3,c1,c2,c3]))
 |false=>
 cases c4:(BV s.S y).getD default with
 |true=>
  have e:GQ s x y=false:=by unfold GQ DX pk;rw [show (BV s.S y).getD false=true from c4];simp
  rw [e]
  refine CW.vc JL [0,1,2,6,7] (by kernel_rfl) ?_
  (repeat ((try refine Vc.mk' ?_);simp only [go_sem,Nat.reduceAdd,Nat.reduceLT,hh,Bi,hL,hC,hS,Ho,B3,AS n0,AS n1,AS n2,AS n3,c1,c2,c3,c4]))
 |false=>
  have e:GQ s x y=true:=by unfold GQ DX pk;rw [e1,show (BV s.C ⟨min x y,max x y⟩).getD false=false from c2,show (BV s.S x).getD false=false from c3,show (BV s.S y).getD false=false from c4];rfl
  rw [e]
  refine CW.vc JL [0,1,2,6,7] (by kernel_rfl) ?_
  (repeat ((try refine Vc.mk' ?_);simp only [go_sem,Nat.reduceAdd,Nat.reduceLT,hh,Bi,hL,hC,hS,Ho,B3,AS n0,AS n1,AS n2,AS n3,c1,c2,c3,c4]))
noncomputable def nX:FuncId→Bp:=Bu yX 31 Ih
theorem YL:Cf Try.prog tt.get nX:=JL.add wT
theorem ABe:nX 31=Ih:=rfl
theorem XM:nX 29=Ba:=rfl
theorem zK:nX 32=Gj:=rfl
/-! ### Now,Flying,Up -/
noncomputable def QL:Bp:= .pure (fun args hp=>match args with | [.pointer (some ⟨n,0,none⟩)]=>F2 hp n | _=>False) (fun args hp=>match args with | [.pointer (some ⟨n,_,_⟩)]=> .int .u64 (Im hp n).now | _=>undef)
theorem xT:BK Try.prog 11 QL:=by
 refine .Gx Wc ?_ ?_
 ·intro args hp h
  match args,h with
  | [.pointer (some ⟨n,0,none⟩)],_=>rfl
 intro args hp hpre top hcl hsc
 match args,hpre with
 | [.pointer (some ⟨n,0,none⟩)],⟨lv,s,h⟩=>
 simp only [h.s]
 have hh:=h.h
 have his:=h.is
 refine AL.Au BE Wc rfl 9 rfl [.tmp 2] rfl (show 1≤9 by decide) ?_
 refine CW.vc YL [0,2,4] (by kernel_rfl) ?_
 (repeat ((try refine Vc.mk' ?_);simp only [go_sem,Nat.reduceAdd,hh,Bi,XM,Ba,his]))
noncomputable def QH:Bp:= .pure (fun args hp=>match args with | [.pointer (some ⟨n,0,none⟩)]=>F2 hp n | _=>False) (fun args hp=>match args with | [.pointer (some ⟨n,_,_⟩)]=> .int .i64 ((Im hp n).l.length:Int) | _=>undef)
theorem Cp.He {hp:Hp}{cb:Nat}{last:Int}{lv:Value}{l:List Ah}(C:Cp hp cb last lv l):Go.Proofs.Ytmppehipfpkepaa.Dm.He hp cb=lv:=by
 unfold Go.Proofs.Ytmppehipfpkepaa.Dm.He
 rw [C.h];rfl
theorem Cp.rd {hp:Hp}{cb:Nat}{last:Int}{lv:Value}{l:List Ah}(C:Cp hp cb last lv l):AP.rd hp lv=l:=C.o.Rn.rd
theorem Cp.ABR {hp:Hp}{cb:Nat}{last:Int}{lv:Value}{l:List Ah}(C:Cp hp cb last lv l):TG hp cb=True:=eq_true ⟨last,lv,l,C⟩
theorem yP:BK Try.prog 19 QH:=by
 refine .Gx XP ?_ ?_
 ·intro args hp h
  match args,h with
  | [.pointer (some ⟨n,0,none⟩)],_=>rfl
 intro args hp hpre top hcl hsc
 match args,hpre with
 | [.pointer (some ⟨n,0,none⟩)],⟨lv,s,h⟩=>
 simp only [h.s]
 have hh:=h.h
 have his:=h.is
 have w1:=h.W.He
 have w2:=h.W.rd
 have w3:=h.W.ABR
 refine AL.Au BE XP rfl 10 rfl [.tmp 2] rfl (show 1≤10 by decide) ?_
 refine CW.vc YL [0,2,4] (by kernel_rfl) ?_
 (repeat ((try refine Vc.mk' ?_);simp only [go_sem,Nat.reduceAdd,hh,Bi,XM,Ba,his,zK,Gj,w1,w2,w3]))
noncomputable def W7:Bp:= .pure (fun args hp=>match args with | [.pointer (some ⟨n,0,none⟩),x,y]=>F2 hp n∧EO .i64 x∧EO .i64 y | _=>False) (fun args hp=>match args with | [.pointer (some ⟨n,_,_⟩),x,y]=> .bool (GQ (Im hp n) (intOf x) (intOf y)) | _=>undef)
theorem w7:BK Try.prog 14 W7:=by
 refine .Gx X6 ?_ ?_
 ·intro args hp h
  match args,h with
  | [.pointer (some ⟨n,0,none⟩),x,y],_=>rfl
 intro args hp hpre top hcl hsc
 match args,hpre with
 | [.pointer (some ⟨n,0,none⟩),x,y],⟨⟨lv,s,h⟩,hx,hy⟩=>
 rw [hx,hy]
 generalize intOf x=x,intOf y=y
 simp only [h.s,BA]
 have hs:=h.s
 have his:=h.is
 refine AL.Au BE X6 rfl 16 rfl [.tmp 6] rfl (show 3≤16 by decide) ?_
 refine CW.vc YL [0,1,2,6] (by kernel_rfl) ?_
 (repeat ((try refine Vc.mk' ?_);simp only [go_sem,Nat.reduceAdd,XM,Ba,his,ABe,Ih,hs]))
end Go.Proofs.Ytmppehipfpkepaa.Dm
/- The Bc: Tick. -/
set_option linter.unusedVariables false
namespace Go.Proofs.Ytmppehipfpkepaa.Dm
open Go.Dm
set_option maxHeartbeats 8000000
set_option maxRecDepth 20000
noncomputable def vE:FuncId→Bp:=Bu (Bu (Bu nX 11 QL) 19 QH) 14 W7
theorem XO:Cf Try.prog tt.get vE:=((YL.add xT).add yP).add w7
theorem Xy:vE 29=Ba:=rfl
theorem ey:vE 35=Kr:=rfl
def CM (s:Ak):Nat:=JU s.l (s.now+1)
def Bv (last:Int)(lv:Value):Option BB:=some (.cells true 0 [.bool true, .int .i64 last,lv])
def Dr (n:Nat)(lv:Value)(s:Ak)(top:Nat):BC:=if s.now < 1099511627776 then
 (n,Bi n {s with now:=s.now+1}) :: (n+6,Bv s.last (JJ lv s.l 0 (CM s))) :: (top,AO AJ (EP s.l (CM s))) :: MY AP lv s.l 0 (CM s) else []
def Va (s:Ak)(top:Nat):Value:=if s.now < 1099511627776 then AK top (EP s.l (CM s)) else .slice none 0 0
def Hw (n:Nat)(lv:Value)(s:Ak)(top:Nat):Value×BC×Nat:=(Va s top,Dr n lv s top,if s.now < 1099511627776 then top+1 else top)
noncomputable def Mi:Bp:= .det (fun args hp _=>match args with | [.pointer (some ⟨n,0,none⟩)]=>F2 hp n | _=>False) (fun args hp top=>match args with
 | [.pointer (some ⟨n,_,_⟩)]=>Hw n (Wn hp n) (Im hp n) top | _=>(undef, [],top))
/-- another cell than the list's -/
theorem Cp.off {hp:Hp}{cb:Nat}{last:Int}{lv:Value}{l:List Ah}(C:Cp hp cb last lv l){j:Nat}(h:∀vs,hp j≠some (.cells true 5 vs)):DQ j lv:=by
 cases C.o with
 |nil=>trivial
 |Cy b l hb hn=>
  intro e
  subst e
  exact h _ hb
theorem EB {a b:Bool}{z y:Nat}{vs ws:List Value}(h:some (BB.cells a z vs)=some (BB.cells b y ws)):z=y:=by
 simp only [Option.some.injEq,BB.cells.injEq] at h;exact h.2.1
theorem E0.at_ {α:Type}{E:Bn α}{hp:Hp}{l:List α}{v:Value}{b n c:Nat}(h:E0 E hp v l)(e:v= .slice (some ⟨b,0,none⟩) n c):hp b=some (.cells true E.size (E.flat l)):=by
 cases h with
 |nil=>cases e
 |Cy b' l h hn=>cases e;exact h
theorem th:BK Try.prog 12 Mi:=by
 refine .Cc Xv ?_
 intro args hp top hpre hcl hsc
 match args,hpre with
 | [.pointer (some ⟨n,0,none⟩)],⟨lv,s,h⟩=>
 simp only [h.s,h.v]
 have hlow:=h.low hcl
 have n0:n < top:=by omega
 have n6:n+6 < top:=by omega
 have n1:n+1 < top:=by omega
 have n2:n+2 < top:=by omega
 have n3:n+3 < top:=by omega
 have n4:n+4 < top:=by omega
 have m0:¬top=n:=by omega
 have m6:¬top=n+6:=by omega
 have m0':¬n=top:=by omega
 have m6':¬n+6=top:=by omega
 have hn06:¬n=n+6:=by omega
 have hh:=h.h
 have his:=h.is
 have w1:=h.W.He
 have w2:=h.W.rd
 have a0:=h.RO
 have a1:=h.UN
 have lvs:=h.W.low hcl
 refine AL.Au BE Xv rfl 28 rfl [.tmp 2] rfl (show 1≤28 by decide) ?_
 by_cases c:s.now < 1099511627776
 case neg=>
  refine CW.vc XO [0,2,11] (by kernel_rfl) ?_
  (repeat ((try refine Vc.mk' ?_);simp only [go_sem,Nat.reduceAdd,hh,Bi,Xy,Ba,his,c]))
  simp only [Hw,Va,Dr,if_neg c]
  (refine ⟨[],by simp,by simp,by simp, ?_, ?_, ?_⟩ <;> simp [Ad,AD.nil,AE.refl])
 have hw:BQ .u64 (s.now+1)=s.now+1:=PT (by omega) (by omega)
 have hn0:¬n+6=n:=by omega
 have hw6:∀ {o:Option BB},(hp.set n o) (n+6)=some (.cells true 0 [.bool true, .int .i64 s.last,lv]):=fun {o}=>by rw [AH _ _ _ _ hn0];exact h.W.h
 have hca:∀ {o:Option BB},Cp (hp.set n o) (n+6) s.last lv s.l:=fun {o}=>
  ⟨hw6,h.W.o.mono fun b k c e=>by subst e;exact AH _ _ _ _ (fun e=>by have:=h.W.off (j:=n) (by rw [hh];simp [Bi]);exact this e.symm),h.W.up,h.W.tk,h.W.l0,h.W.l1,h.W.n⟩
 have e1:∀ {o:Option BB},Eo (hp.set n o) (n+6)=s.last:=fun {o}=>by unfold Eo;rw [hw6];rfl
 have e2:∀ {o:Option BB},He (hp.set n o) (n+6)=lv:=fun {o}=>hca.He
 have e3:∀ {o:Option BB},AP.rd (hp.set n o) lv=s.l:=fun {o}=>(hca (o:=o)).rd
 have e4:∀ {o:Option BB},(∃last v l,Cp (hp.set n o) (n+6) last v l)=True:=fun {o}=>eq_true ⟨_,_,_,hca⟩
 have hk:CM s=JU s.l (s.now+1):=rfl
 have hR:Ad (rn top [top] (top+1)) (AK (n+7) s.R)=AK (n+7) s.R:=by
  cases hr:s.R with
  |nil=>rfl
  |cons a l=>
   have:=h.R (by rw [hr];simp)
   rw [hr] at this
   have n7:n+7 < top:=hcl.lt _ _ this
   exact Sc.Ad (fun j hj=>AA hj) (show Sc top (AK (n+7) (a :: l)) from n7)
 rcases CQ h.W.o (FW s.l (s.now+1)) with ⟨c1,c2⟩ | ⟨b,c0,c1,c2⟩
 ·refine CW.vc XO [0,2,11] (by kernel_rfl) ?_
  (repeat ((try refine Vc.mk' ?_);simp only [go_sem,Nat.reduceAdd,Nat.reduceLeDiff,hh,Bi,Xy,Ba,his,ey,Kr,QN,c,hw,e1,e2,e3,e4,hw6,HU,c1,c2]))
  simp only [Hw,Va,Dr,if_pos c,hk,c1,c2]
  (refine ⟨[top],by simp,by simp,by simp, ?_, ?_, ?_⟩ <;> simp [Ad,Ag,AD.nil,AD.cons,AF,AG,AQ,AM,Af,AB,AH,AE.set,AE.B5,AE.refl,Sc.Ad (fun j hj=>AA hj) lvs,AA n0,AA n6,hR,Bi,Bv,AA n1,AA n2,AA n3,AA n4,m0',m6'])
 ·have lvb:=lvs
  rw [c0] at lvb
  have hbt:b < top:=lvb
  have hb:=E0.at_ h.W.o c0
  have hbn:¬b=n:=fun e=>by rw [e,hh] at hb;exact absurd (EB hb) (by decide)
  have hb6:¬b=n+6:=fun e=>by rw [e,h.W.h] at hb;exact absurd (EB hb) (by decide)
  have hbn':¬n=b:=fun e=>hbn e.symm
  have hb6':¬n+6=b:=fun e=>hb6 e.symm
  have hbtt:¬top=b:=by omega
  refine CW.vc XO [0,2,11] (by kernel_rfl) ?_
  (repeat ((try refine Vc.mk' ?_);simp only [go_sem,Nat.reduceAdd,Nat.reduceLeDiff,hh,Bi,Xy,Ba,his,ey,Kr,QN,c,hw,e1,e2,e3,e4,hw6,HU,c1,c2,hbn,hb]))
  simp only [Hw,Va,Dr,if_pos c,hk,c1,c2]
  (refine ⟨[top],by simp,by simp,by simp, ?_, ?_, ?_⟩ <;> simp [Ad,Ag,AD.nil,AD.cons,AF,AG,AQ,AM,Af,Bn.BN,AB,AH,AE.set,AE.B5,AE.refl,AA n0,AA n6,AA hbt,Bn.BN,AA n1,AA n2,AA n3,AA n4,m0',m6',Bi,Bv,hR,hbn,hb6,hbn',hb6',hbtt])
end Go.Proofs.Ytmppehipfpkepaa.Dm
/- The Bc: Send. -/
set_option linter.unusedVariables false
namespace Go.Proofs.Ytmppehipfpkepaa.Dm
open Go.Dm
set_option maxHeartbeats 16000000
set_option maxRecDepth 20000
noncomputable def OS:FuncId→Bp:=Bu (Bu vE 12 Mi) 33 Fa.Pb
theorem DL:Cf Try.prog tt.get OS:=(XO.add th).add Fa.ym
theorem JS:OS 29=Ba:=rfl
theorem Tz:OS 31=Ih:=rfl
theorem JT:OS 30=B3:=rfl
theorem RS:OS 32=Gj:=rfl
theorem RT:OS 34=JN:=rfl
theorem XC:OS 33=Fa.Pb:=rfl
/-- the error of a message -/
def Ei (s:Ak)(a b:Int)(len:Nat):Int:=if DX s a b=0 then 2 else if 512 < len then 3 else if GQ s a b=false then 9 else if 16382 < s.l.length then 8 else (Fa.Cr s.P a b).2.2
def lZ (s:Ak)(Pd:Int):Int:=BQ .u64 (s.now+s.late+BQ .u64 Pd)
def DT (s:Ak)(a b:Int):Int:=(Fa.Cr s.P a b).2.1.Bb
/-- the list,when k DT are on their way -/
def E7 (s:Ak)(a b:Int)(m:List UInt8):Nat→List Ah
 |0=>s.l
 |1=>FO s.l ⟨lZ s (Fa.Cr s.P a b).2.1.Ee,s.last+1,a,b,m⟩
 |k+2=>FO (E7 s a b m (k+1)) ⟨lZ s (Fa.Cr s.P a b).2.1.Second,s.last+((k+2:Nat):Int),a,b,m⟩
theorem QC (s:Ak)(a b:Int)(m:List UInt8):∀k,(E7 s a b m k).length=s.l.length+k
 |0=>rfl
 |1=>QA _ _
 |k+2=>by rw [E7,QA,QC s a b m (k+1)];omega
def Fm (n:Nat)(lv:Value)(s:Ak)(a b:Int)(m:List UInt8)(k q:Nat):BC:=if k=0 then [] else
 (n+6,Bv (s.last+(k:Int)) (Df q (s.l.length+k))) :: (DJ lv ++ [(q,Dv AP (E7 s a b m k))])
def C5 (n:Nat)(lv:Value)(s:Ak)(a b:Int)(m:List UInt8)(top:Nat):Value×BC×Nat:=
 if DX s a b=0∨512 < m.length∨GQ s a b=false∨16382 < s.l.length then (.tuple ⟨[.agg ⟨[.int .i64 0, .int .i64 0, .int .i64 0]⟩, .int .i64 (Ei s a b m.length)]⟩, [],top)
 else (.tuple ⟨[.agg ⟨JV.enc (Fa.Cr s.P a b).2.1⟩, .int .i64 (Ei s a b m.length)]⟩,Fa.Cm (n+5) (n+4) (Fa.Cr s.P a b).1 ++ Fm n lv s a b m (DT s a b).toNat top,if DT s a b=0 then top else top+1)
noncomputable def Kz:Bp:= .det (fun args hp _=>match args with | [.pointer (some ⟨n,0,none⟩),a,b,m]=>F2 hp n∧(Im hp n).last < 999990∧EO .i64 a∧EO .i64 b∧T6 m | _=>False) (fun args hp top=>match args with
 | [.pointer (some ⟨n,_,_⟩),a,b,m]=>C5 n (Wn hp n) (Im hp n) (intOf a) (intOf b) (strOf m) top | _=>(undef, [],top))
theorem Cp.put {hp hp':Hp}{cb q:Nat}{last:Int}{lv:Value}{l:List Ah}(C:Cp hp cb last lv l)(h1:last < 1000000)(h2:l.length < 1000000){t:Ah}(ht:t.CA=last+1)(hcb:hp' cb=Bv (last+1) (Df q (l.length+1)))(hq:hp' q=Dv AP (FO l t)) :
  Cp hp' cb (last+1) (Df q (l.length+1)) (FO l t):=by
 have hl:=QA l t
 refine ⟨hcb, ?_,O3 C.up (fun a ha=>by have:=(C.tk a ha).2;omega),fun a ha=> ?_,by have:=C.l0;omega,by omega,by omega⟩
 ·rw [←hl]
  exact .Cy q _ hq (by omega)
 ·rcases Mv.1 ha with rfl | ha
  ·have:=C.l0;omega
  ·have:=C.tk a ha;omega
theorem BW.T9 {hp:Hp}{n:Nat}{lv:Value}{s:Ak}(h:BW hp n lv s):Fa.Nu hp (.pointer (some ⟨n+4,0,none⟩)) (n+4) (n+5) s.P:= .mk _ _ _ h.P h.M h.pl
theorem Zk {p:Fa.Gl}{a b:Int}(h:(Fa.Cr p a b).2.2≠0):Fa.Cr p a b=(p,⟨0,0,0⟩,2):=by
 unfold Fa.Cr at h ⊢
 split
 ·rfl
 ·rename_i c
  rw [if_neg c] at h
  split at h <;> exact absurd rfl h
theorem ZU (p:Fa.Gl)(a b:Int):(Fa.Cr p a b).2.1.Bb=0∨(Fa.Cr p a b).2.1.Bb=1∨(Fa.Cr p a b).2.1.Bb=2:=by
 unfold Fa.Cr
 split
 ·left;rfl
 ·split
  ·right;left;rfl
  ·unfold Fa.IT
   split
   ·right;right;rfl
   ·split
    ·right;left;rfl
    ·left;rfl
theorem Lf {hp:Hp}{s:List UInt8}:C6 tt.get hp 9 (.string ⟨⟨s⟩⟩)=(.int .i64 (s.length:Int),True):=by
 unfold C6;simp only [oH,R8];rfl
def Gy (n top:Nat)(a b:Int)(m:List UInt8)(P':Fa.Gl)(f:FT):BC:= [(top,some (.cells true 0 [.int .i64 0, .int .i64 0, .int .i64 0])),(n+5,some (.map (BI P'.m) P'.CC)),(n+4,Fa.B7 (n+5) P'.ks),(top+1,some (.cells true 0 [.int .i64 f.Bb, .int .i64 f.Ee, .int .i64 f.Second])),(top+2,some (.cells true 0 [.int .i64 a, .int .i64 b, .string ⟨⟨m⟩⟩]))]
def IW (hp:Hp)(top n:Nat)(lv:Value)(s:Ak)(a b:Int)(m:List UInt8)(P':Fa.Gl)(f:FT):Nat→SS
 |0=>⟨[(0, .pointer (some ⟨n,0,none⟩),true),(8, .pointer (some ⟨top,0,none⟩),true),(10, .pointer (some ⟨top+1,0,none⟩),true),(12, .pointer (some ⟨top+2,0,none⟩),true),(69, .int .i64 f.Bb,true),(70, .int .i64 0,true)],hp.AZ (Gy n top a b m P' f),top+3⟩
 |k+1=>⟨[(0, .pointer (some ⟨n,0,none⟩),true),(8, .pointer (some ⟨top,0,none⟩),true),(10, .pointer (some ⟨top+1,0,none⟩),true),(12, .pointer (some ⟨top+2,0,none⟩),true),(69, .int .i64 f.Bb,true),(70, .int .i64 ((k+1:Nat):Int),true)],hp.AZ (Gy n top a b m P' f ++ ((n+6,Bv (s.last+((k+1:Nat):Int)) (Df (top+3) (s.l.length+(k+1)))) :: (DJ lv ++ [(top+3,Dv AP (E7 s a b m (k+1)))]))),top+4⟩
theorem zS:AP.size=5:=rfl
theorem CT {hp:Hp}{v:Value}{l:List Ah}(h:E0 AP hp v l):(v= .slice none 0 0∧l= [])∨∃q,v= .slice (some ⟨q,0,none⟩) l.length l.length∧hp q=some (.cells true 5 (AP.flat l)):=by
 cases h with
 |nil=>exact .inl ⟨rfl,rfl⟩
 |Cy q l h hn=>exact .inr ⟨q,rfl,h⟩
theorem eN:BK Try.prog 10 Kz:=by
 refine .Cc WA ?_
 intro args hp top hpre hcl hsc
 match args,hpre with
 | [.pointer (some ⟨n,0,none⟩),a,b,m],⟨⟨lv,s,h⟩,hla,ha,hb,hm⟩=>
 rw [ha,hb,hm]
 rw [h.s] at hla
 generalize intOf a=a,intOf b=b
 generalize strOf m=m
 simp only [h.s,h.v,BA,D1]
 have hlow:=h.low hcl
 have n0:n < top:=by omega
 have n1:n+1 < top:=by omega
 have hh:=h.h
 have hL:=h.L
 have his:=h.is
 have hk:∀o,BW (hp.set top o) n lv s:=fun o=>h.BT hcl fun i hi=>AS hi (Nat.le_refl _)
 have his':∀ {o},F2 (hp.set top o) n=True:=fun {o}=>(hk o).is
 have hs':∀ {o},Im (hp.set top o) n=s:=fun {o}=>(hk o).s
 have w1:∀ {o},He (hp.set top o) (n+6)=lv:=fun {o}=>(hk o).W.He
 have w2:∀ {o},AP.rd (hp.set top o) lv=s.l:=fun {o}=>(hk o).W.rd
 have w3:∀ {o},TG (hp.set top o) (n+6)=True:=fun {o}=>(hk o).W.ABR
 have hpl:∀ {o},Fa.SP (hp.set top o) (.pointer (some ⟨n+4,0,none⟩))=True:=fun {o}=>eq_true ⟨_,_,_,(hk o).T9⟩
 have hpr:∀ {o},Fa.WH (hp.set top o) (.pointer (some ⟨n+4,0,none⟩))=some (n+4,n+5,s.P):=fun {o}=>(hk o).T9.rd
 refine AL.Au BE WA rfl 99 rfl [.cell 8 28, .tmp 9] rfl (show 4≤99 by decide) ?_
 by_cases c1:DX s a b=0
 ·have e:C5 n lv s a b m top=(.tuple ⟨[.agg ⟨[.int .i64 0, .int .i64 0, .int .i64 0]⟩, .int .i64 2]⟩, [],top):=by unfold C5 Ei;rw [if_pos (.inl c1),if_pos c1]
  have c1':(BV s.L ⟨min a b,max a b⟩).getD default=0:=c1
  refine CW.vc DL [0,1,2,3,8,9,10,11,12,13,14,15,19,30,35,42,61,69,70,71,76] (by kernel_rfl) ?_
  (repeat ((try refine Vc.mk' ?_);simp only [go_sem,Nat.reduceAdd,Nat.reduceLT,hh,Bi,hL,JS,Ba,his',JT,B3,AS n0,AS n1,c1']))
  rw [e]
  (refine ⟨[],by simp,by simp,by simp, ?_, ?_, ?_⟩ <;> simp [Ad,Ag,AD.nil,AE.set,AE.refl])
 have c1':¬(BV s.L ⟨min a b,max a b⟩).getD default=0:=c1
 by_cases c2:512 < m.length
 ·have e:C5 n lv s a b m top=(.tuple ⟨[.agg ⟨[.int .i64 0, .int .i64 0, .int .i64 0]⟩, .int .i64 3]⟩, [],top):=by unfold C5 Ei;rw [if_pos (.inr (.inl c2)),if_neg c1,if_pos c2]
  have c2':(512:Int) < (m.length:Int):=by omega
  refine CW.vc DL [0,1,2,3,8,9,10,11,12,13,14,15,19,30,35,42,61,69,70,71,76] (by kernel_rfl) ?_
  (repeat ((try refine Vc.mk' ?_);simp only [go_sem,Nat.reduceAdd,Nat.reduceLT,hh,Bi,hL,JS,Ba,his',JT,B3,AS n0,AS n1,Lf,c1',c2']))
  rw [e]
  (refine ⟨[],by simp,by simp,by simp, ?_, ?_, ?_⟩ <;> simp [Ad,Ag,AD.nil,AE.set,AE.refl])
 have c2':¬(512:Int) < (m.length:Int):=by omega
 cases c3:GQ s a b with
 |false=>
  have e:C5 n lv s a b m top=(.tuple ⟨[.agg ⟨[.int .i64 0, .int .i64 0, .int .i64 0]⟩, .int .i64 9]⟩, [],top):=by unfold C5 Ei;rw [if_pos (.inr (.inr (.inl c3))),if_neg c1,if_neg c2,if_pos c3]
  refine CW.vc DL [0,1,2,3,8,9,10,11,12,13,14,15,19,30,35,42,61,69,70,71,76] (by kernel_rfl) ?_
  (repeat ((try refine Vc.mk' ?_);simp only [go_sem,Nat.reduceAdd,Nat.reduceLT,hh,Bi,hL,JS,Ba,his',hs',JT,B3,Tz,Ih,AS n0,AS n1,Lf,c1',c2',c3]))
  rw [e]
  (refine ⟨[],by simp,by simp,by simp, ?_, ?_, ?_⟩ <;> simp [Ad,Ag,AD.nil,AE.set,AE.refl])
 |true=>
 by_cases c4:16382 < s.l.length
 ·have e:C5 n lv s a b m top=(.tuple ⟨[.agg ⟨[.int .i64 0, .int .i64 0, .int .i64 0]⟩, .int .i64 8]⟩, [],top):=by unfold C5 Ei;rw [if_pos (.inr (.inr (.inr c4))),if_neg c1,if_neg c2,if_neg (by rw [c3];simp),if_pos c4]
  have c4':(16382:Int) < (s.l.length:Int):=by omega
  refine CW.vc DL [0,1,2,3,8,9,10,11,12,13,14,15,19,30,35,42,61,69,70,71,76] (by kernel_rfl) ?_
  (repeat ((try refine Vc.mk' ?_);simp only [go_sem,Nat.reduceAdd,Nat.reduceLT,hh,Bi,hL,JS,Ba,his',hs',JT,B3,Tz,Ih,RS,Gj,w1,w2,w3,AS n0,AS n1,Lf,c1',c2',c3,c4']))
  rw [e]
  (refine ⟨[],by simp,by simp,by simp, ?_, ?_, ?_⟩ <;> simp [Ad,Ag,AD.nil,AE.set,AE.refl])
 have c4':¬(16382:Int) < (s.l.length:Int):=by omega
 have hE:Ei s a b m.length=(Fa.Cr s.P a b).2.2:=by unfold Ei;rw [if_neg c1,if_neg c2,if_neg (by rw [c3];simp),if_neg c4]
 have hX:¬(DX s a b=0∨512 < m.length∨GQ s a b=false∨16382 < s.l.length):=by rintro (h | h | h | h);exact c1 h;exact c2 h;rw [c3] at h;cases h;exact c4 h
 unfold C5
 rw [if_neg hX,hE]
 by_cases c5:(Fa.Cr s.P a b).2.2=0
 case neg=>
  have e:=Zk c5
  have hcp:DT s a b=0:=by unfold DT;rw [e]
  have n4:n+4 < top:=by omega
  have n5:n+5 < top:=by omega
  have m4:¬top=n+4:=by omega
  have m5:¬top=n+5:=by omega
  have m4':¬n+4=top:=by omega
  have m5':¬n+5=top:=by omega
  have m45:¬n+4=n+5:=by omega
  have m54:¬n+5=n+4:=by omega
  have P4:=h.P
  have P5:=h.M
  refine CW.vc DL [0,1,2,3,8,9,10,11,12,13,14,15,19,30,35,42,61,69,70,71,76] (by kernel_rfl) ?_
  (repeat ((try refine Vc.mk' ?_);simp only [go_sem,reduceCtorEq,Nat.reduceAdd,Nat.reduceLT,Int.reduceEq,hh,Bi,hL,JS,Ba,his',hs',JT,B3,Tz,Ih,RS,Gj,XC,Fa.Pb,w1,w2,w3,hpl,hpr,AS n0,AS n1,Lf,c1',c2',c3,c4',Fa.Th,e,Fa.Cm,m4,m5]))
  simp only [hcp,Fm,Int.toNat_zero,if_true]
  (refine ⟨[],by simp,by simp,by simp, ?_, ?_, ?_⟩ <;> simp [Ad,Ag,BX,AD.nil,AD.cons,AF,AG,BZ,AB,AH,AE.set,AE.B5,AE.refl,Ai,Fa.B7,AA n4,AA n5,m4',m5',AS n4])
 obtain ⟨⟨P',f,er⟩,hask⟩:∃x,Fa.Cr s.P a b=x:=⟨_,rfl⟩
 rw [hask] at c5
 have c5:er=0:=c5
 subst c5
 have hcp:DT s a b=f.Bb:=by unfold DT;rw [hask]
 have hK:f.Bb=0∨f.Bb=1∨f.Bb=2:=by have:=ZU s.P a b;rw [hask] at this;exact this
 have n4:n+4 < top:=by omega
 have n5:n+5 < top:=by omega
 have n6:n+6 < top:=by omega
 have n56:¬n+5=n+6:=by omega
 have n46:¬n+4=n+6:=by omega
 have n65:¬n+6=n+5:=by omega
 have n64:¬n+6=n+4:=by omega
 have n06:¬n=n+6:=by omega
 have n05:¬n=n+5:=by omega
 have n04:¬n=n+4:=by omega
 have n60:¬n+6=n:=by omega
 have x00:¬top=n:=by omega
 have y00:¬n=top:=by omega
 have x04:¬top=n+4:=by omega
 have y04:¬n+4=top:=by omega
 have x05:¬top=n+5:=by omega
 have y05:¬n+5=top:=by omega
 have x06:¬top=n+6:=by omega
 have y06:¬n+6=top:=by omega
 have x10:¬top+1=n:=by omega
 have y10:¬n=top+1:=by omega
 have x14:¬top+1=n+4:=by omega
 have y14:¬n+4=top+1:=by omega
 have x15:¬top+1=n+5:=by omega
 have y15:¬n+5=top+1:=by omega
 have x16:¬top+1=n+6:=by omega
 have y16:¬n+6=top+1:=by omega
 have x20:¬top+2=n:=by omega
 have y20:¬n=top+2:=by omega
 have x24:¬top+2=n+4:=by omega
 have y24:¬n+4=top+2:=by omega
 have x25:¬top+2=n+5:=by omega
 have y25:¬n+5=top+2:=by omega
 have x26:¬top+2=n+6:=by omega
 have y26:¬n+6=top+2:=by omega
 have x30:¬top+3=n:=by omega
 have y30:¬n=top+3:=by omega
 have x34:¬top+3=n+4:=by omega
 have y34:¬n+4=top+3:=by omega
 have x35:¬top+3=n+5:=by omega
 have y35:¬n+5=top+3:=by omega
 have x36:¬top+3=n+6:=by omega
 have y36:¬n+6=top+3:=by omega
 have x40:¬top+4=n:=by omega
 have y40:¬n=top+4:=by omega
 have x44:¬top+4=n+4:=by omega
 have y44:¬n+4=top+4:=by omega
 have x45:¬top+4=n+5:=by omega
 have y45:¬n+5=top+4:=by omega
 have x46:¬top+4=n+6:=by omega
 have y46:¬n+6=top+4:=by omega
 have n45:¬n+4=n+5:=by omega
 have n54:¬n+5=n+4:=by omega
 have n40:¬n+4=n:=by omega
 have n50:¬n+5=n:=by omega
 have w6:=h.W.h
 have lvs:=h.W.low hcl
 have hl0:=h.W.l0
 have hn16:s.l.length≤16382:=by omega
 have wl:BQ .u64 (s.now+s.late)=s.now+s.late:=by have:=h.T8;have:=h.T7;have:=h.RO;have:=h.UN;exact PT (by omega) (by omega)
 have hT:∀(x k:Int),XG (.int .u64 x) k (.agg ⟨[.int .i64 a, .int .i64 b, .string ⟨⟨m⟩⟩]⟩)=⟨x,k,a,b,m⟩:=fun _ _=>rfl
 have hA:(∃x:Ae,Value.agg ⟨[.int .i64 a, .int .i64 b, .string ⟨⟨m⟩⟩]⟩= .agg ⟨AJ.enc x⟩)=True:=eq_true ⟨⟨a,b,m⟩,rfl⟩
 have P4:hp (n+4)=_:=h.P
 have P5:=h.M
 have la:DQ (n+5) lv:=h.W.off (j:=n+5) fun vs e=>by rw [h.M] at e;cases e
 have lb:DQ (n+4) lv:=h.W.off (j:=n+4) fun vs e=>by rw [h.P] at e;exact absurd (EB e) (by decide)
 have C0:∀ {h':Hp},AE top [n+5,n+4] h' hp→Cp h' (n+6) s.last lv s.l:=fun {h'} hk=>
  ⟨(hk _ n6 (by simp)).trans h.W.h,h.W.o.mono fun q k c e=>hk q (by rw [e] at lvs;exact lvs) (by subst e;simp only [List.mem_cons,List.not_mem_nil,or_false,not_or];exact ⟨fun e=>la e.symm,fun e=>lb e.symm⟩),h.W.up,h.W.tk,h.W.l0,h.W.l1,h.W.n⟩
 have C0a:∀ {h':Hp},AE top [n+5,n+4] h' hp→Eo h' (n+6)=s.last:=fun {h'} hk=>by unfold Eo;rw [(C0 hk).h];rfl
 have C0b:∀ {h':Hp},AE top [n+5,n+4] h' hp→He h' (n+6)=lv:=fun {h'} hk=>(C0 hk).He
 have C0c:∀ {h':Hp},AE top [n+5,n+4] h' hp→AP.rd h' lv=s.l:=fun {h'} hk=>(C0 hk).rd
 have C0d:∀ {h':Hp} {x:Int},AE top [n+5,n+4] h' hp→S4 h' (n+6) (.int .u64 x) (.agg ⟨[.int .i64 a, .int .i64 b, .string ⟨⟨m⟩⟩]⟩)=True:=fun {h'} {x} hk=>eq_true ⟨_,_,_,C0 hk,by omega,by omega,rfl,⟨a,b,m⟩,rfl⟩
 have hlate:f.Ee=(Fa.Cr s.P a b).2.1.Ee:=by rw [hask]
 have hsec:f.Second=(Fa.Cr s.P a b).2.1.Second:=by rw [hask]
 have L1:FO s.l ⟨BQ .u64 (s.now+s.late+BQ .u64 f.Ee),s.last+1,a,b,m⟩=E7 s a b m 1:=by rw [E7,lZ,hlate]
 have L2:FO (E7 s a b m 1) ⟨BQ .u64 (s.now+s.late+BQ .u64 f.Second),s.last+1+1,a,b,m⟩=E7 s a b m 2:=by
  rw [show E7 s a b m 2=FO (E7 s a b m 1) ⟨lZ s (Fa.Cr s.P a b).2.1.Second,s.last+((0+2:Nat):Int),a,b,m⟩ from rfl,lZ,hsec]
  congr 2;omega
 have hl1:=QC s a b m 1
 have C1:∀ {h':Hp},h' (n+6)=Bv (s.last+1) (Df (top+3) (s.l.length+1))→h' (top+3)=Dv AP (E7 s a b m 1)→Cp h' (n+6) (s.last+1) (Df (top+3) (s.l.length+1)) (E7 s a b m 1):=fun {h'} e1 e2=>by
  rw [←L1] at e2 ⊢
  exact (h.W.put (by omega) (by omega) rfl e1 e2)
 have C1a:∀ {h':Hp},h' (n+6)=some (.cells true 0 [.bool true, .int .i64 (s.last+1), .slice (some ⟨top+3,0,none⟩) (s.l.length+1) (s.l.length+1)])→Eo h' (n+6)=s.last+1:=fun {h'} e=>by unfold Eo;rw [e];rfl
 have C1b:∀ {h':Hp},h' (n+6)=some (.cells true 0 [.bool true, .int .i64 (s.last+1), .slice (some ⟨top+3,0,none⟩) (s.l.length+1) (s.l.length+1)])→He h' (n+6)= .slice (some ⟨top+3,0,none⟩) (s.l.length+1) (s.l.length+1):=fun {h'} e=>by unfold He;rw [e];rfl
 have C1c:∀ {h':Hp},h' (n+6)=some (.cells true 0 [.bool true, .int .i64 (s.last+1), .slice (some ⟨top+3,0,none⟩) (s.l.length+1) (s.l.length+1)])→h' (top+3)=some (.cells true 5 (AP.flat (E7 s a b m 1)))→AP.rd h' (.slice (some ⟨top+3,0,none⟩) (s.l.length+1) (s.l.length+1))=E7 s a b m 1:=fun {h'} e1 e2=>(C1 e1 e2).rd
 have C1d:∀ {h':Hp} {x:Int},h' (n+6)=some (.cells true 0 [.bool true, .int .i64 (s.last+1), .slice (some ⟨top+3,0,none⟩) (s.l.length+1) (s.l.length+1)])→h' (top+3)=some (.cells true 5 (AP.flat (E7 s a b m 1)))→S4 h' (n+6) (.int .u64 x) (.agg ⟨[.int .i64 a, .int .i64 b, .string ⟨⟨m⟩⟩]⟩)=True:=fun {h'} {x} e1 e2=>eq_true ⟨_,_,_,C1 e1 e2,by omega,by omega,rfl,⟨a,b,m⟩,rfl⟩
 have w11:BQ .i64 1=1:=by decide
 have w12:BQ .i64 2=2:=by decide
 have i01:((0+1:Nat):Int)=1:=rfl
 have a11:s.last+1+1=s.last+2:=by omega
 have i02:((0+1+1:Nat):Int)=2:=rfl
 have o2:¬(2:Int)=0:=by decide
 have o1:¬(1:Int)=0:=by decide
 have ho:=h.W.o
 rw [hask]
 rcases CT ho with ⟨rfl,hnil⟩ | ⟨q,rfl,hq⟩
 ·refine CW.vc DL [0,1,2,3,8,9,10,11,12,13,14,15,19,30,35,42,61,69,70,71,76] (by kernel_rfl) ?_
  (repeat ((try refine Vc.mk' ?_);simp only [go_sem,Nat.reduceAdd,Nat.reduceLT,Nat.reduceLeDiff,Nat.reduceEqDiff,hh,Bi,hL,JS,Ba,his',hs',JT,B3,Tz,Ih,RS,Gj,XC,Fa.Pb,w1,w2,w3,hpl,hpr,AS n0,AS n1,Lf,c1',c2',c3,c4',Fa.Th,hask,Fa.Cm]))
  refine CW.CZ (IW hp top n (.slice none 0 0) s a b m P' f) (fun k=>k≤f.Bb.toNat) (fun k=>f.Bb.toNat - k) 0 (Nat.zero_le _) ?_ ?_
  ·exact (by refine BO.mk' [top,top+1,top+2] hcl (by simp) (by simp) rfl (AV ?_) ?_ ?_ <;> simp [Ax,Cd,Ad,Ag,BX,AD.nil,AD.cons,AF,AG,BZ,AM,Aw,AB,AH,AE.set,AE.B5,AE.refl,Ai,AA n0,AA n4,AA n5,Gy,Fa.B7,x04,y04,x05,y05,y14,y15,y24,y25])
  ·intro k hk
   match k,hk with
   |0,hk=>
    by_cases c6:0 < f.Bb
    ·have c6':0 < f.Bb.toNat:=by omega
     refine CW.vc DL [0,1,2,3,8,9,10,11,12,13,14,15,19,30,35,42,61,69,70,71,76] (by kernel_rfl) ?_
     (repeat ((try refine Vc.mk' ?_);simp only [go_sem,reduceCtorEq,Nat.reduceAdd,Nat.reduceLeDiff,Nat.reduceEqDiff,Int.reduceLT,hh,Bi,AS n0,zS,C0a,C0b,C0c,C0d,DJ,Df,Dv,hT,wl,L1,AE.B5,List.mem_cons,RT,JN,Ja,n65,n64,n05,n04,y06,y16,y26,x34,x35,n45,n54,w6,IW,Gy,c6,List.nil_append]))
     refine .mk 1 (by omega) (by omega) ((by refine BO.mk' [top,top+1,top+2,top+3] hcl (by simp) (by simp) rfl (AV ?_) ?_ ?_ <;> simp [Ax,Cd,Ad,Ag,BX,AD.nil,AD.cons,AF,AG,BZ,AM,Aw,Bn.BN,AB,AH,AE.set,AE.B5,AE.refl,Ai,zS,AA n0,AA n4,AA n5,AA n6,Gy,Bv,Df,Dv,Fa.B7,Bn.BN,DJ,x04,y04,x05,y05,x06,y06,y14,y15,y16,y24,y25,y26,y34,y35,y36,w11,List.nil_append]))
    ·have c7:f.Bb=0:=by omega
     refine CW.vc DL [0,1,2,3,8,9,10,11,12,13,14,15,19,30,35,42,61,69,70,71,76] (by kernel_rfl) ?_
     (repeat ((try refine Vc.mk' ?_);simp only [go_sem,reduceCtorEq,Nat.reduceAdd,Nat.reduceEqDiff,x04,x05,IW,Gy,c6]))
     simp only [hcp,c7,Int.toNat_zero,if_true,Fm]
     (refine ⟨[],by simp,by simp,by simp, ?_, ?_, ?_⟩ <;> simp [Ad,Ag,BX,AD.nil,AD.cons,AF,AG,BZ,AB,AH,AE.set,AE.B5,AE.refl,Ai,AA n4,AA n5,Fa.B7,y04,y05,y14,y15,y24,y25])
   |1,hk=>
    by_cases c6:1 < f.Bb
    ·have c6':1 < f.Bb.toNat:=by omega
     refine CW.vc DL [0,1,2,3,8,9,10,11,12,13,14,15,19,30,35,42,61,69,70,71,76] (by kernel_rfl) ?_
     (repeat ((try refine Vc.mk' ?_);simp only [go_sem,reduceCtorEq,Nat.reduceAdd,Nat.reduceLeDiff,Nat.reduceEqDiff,Int.reduceLT,hh,Bi,AS n0,zS,C1a,C1b,C1c,C1d,hl1,DJ,Df,Dv,hT,wl,L2,RT,JN,Ja,Bv,n06,n05,n04,x16,x26,y36,x44,x45,x46,IW,Gy,c6,List.nil_append,i01]))
     refine .mk 2 (by omega) (by omega) ((by refine BO.mk' [top,top+1,top+2,top+4] hcl (by simp) (by simp) rfl (AV ?_) ?_ ?_ <;> simp [Ax,Cd,Ad,Ag,BX,AD.nil,AD.cons,AF,AG,BZ,AM,Aw,Bn.BN,AB,AH,AE.set,AE.B5,AE.refl,Ai,zS,AA n0,AA n4,AA n5,AA n6,Gy,Bv,Df,Dv,Fa.B7,Bn.BN,DJ,y00,x04,y04,x05,y05,x06,y06,y14,y15,y16,y24,y25,y26,y34,y35,y36,y45,y46,w12,a11,List.nil_append]))
    ·have c7:f.Bb=1:=by omega
     refine CW.vc DL [0,1,2,3,8,9,10,11,12,13,14,15,19,30,35,42,61,69,70,71,76] (by kernel_rfl) ?_
     (repeat ((try refine Vc.mk' ?_);simp only [go_sem,reduceCtorEq,Nat.reduceAdd,Nat.reduceEqDiff,zS,DJ,Df,Dv,Bv,x04,x05,x06,x16,IW,Gy,c6,List.nil_append,i01]))
     simp only [hcp,c7,Fm,show (1:Int).toNat=1 from rfl,o1]
     (refine ⟨[top+3],by simp,by simp,by simp, ?_, ?_, ?_⟩ <;> simp [Ad,Ag,BX,AD.nil,AD.cons,AF,AG,BZ,AM,Bn.BN,AB,AH,AE.set,AE.B5,AE.refl,Ai,zS,AA n4,AA n5,AA n6,Bv,Df,Dv,Fa.B7,Bn.BN,DJ,y04,y05,y06,y14,y15,y24,y25,y34,y35,y36,List.nil_append,i01])
   |k+2,hk=>
    have hk0:k=0:=by omega
    subst hk0
    have c7:f.Bb=2:=by omega
    refine CW.vc DL [0,1,2,3,8,9,10,11,12,13,14,15,19,30,35,42,61,69,70,71,76] (by kernel_rfl) ?_
    (repeat ((try refine Vc.mk' ?_);simp only [go_sem,reduceCtorEq,Nat.reduceAdd,Nat.reduceEqDiff,Int.reduceLT,zS,DJ,Df,Dv,Bv,x04,x05,x06,x16,IW,Gy,c7,List.nil_append,i02]))
    simp only [hcp,c7,Fm,show (2:Int).toNat=2 from rfl,o2]
    (refine ⟨[top+3],by simp,by simp,by simp, ?_, ?_, ?_⟩ <;> simp [Ad,Ag,BX,AD.nil,AD.cons,AF,AG,BZ,AM,Bn.BN,AB,AH,AE.set,AE.B5,AE.refl,Ai,zS,AA n4,AA n5,AA n6,Bv,Df,Dv,Fa.B7,Bn.BN,DJ,y04,y05,y06,y14,y15,y24,y25,y34,y35,y36,List.nil_append,i02])
 ·have hqt:q < top:=lvs
  have qn:¬q=n:=fun e=>by rw [e,hh] at hq;exact absurd (EB hq) (by decide)
  have pn:¬n=q:=fun e=>qn e.symm
  have q4:¬q=n+4:=fun e=>by exact lb e.symm
  have p4:¬n+4=q:=fun e=>q4 e.symm
  have q5:¬q=n+5:=fun e=>by exact la e.symm
  have p5:¬n+5=q:=fun e=>q5 e.symm
  have q6:¬q=n+6:=fun e=>by rw [e,w6] at hq;exact absurd (EB hq) (by decide)
  have p6:¬n+6=q:=fun e=>q6 e.symm
  have u0:¬top=q:=by omega
  have v0:¬q=top:=by omega
  have u1:¬top+1=q:=by omega
  have v1:¬q=top+1:=by omega
  have u2:¬top+2=q:=by omega
  have v2:¬q=top+2:=by omega
  have u3:¬top+3=q:=by omega
  have v3:¬q=top+3:=by omega
  have u4:¬top+4=q:=by omega
  have v4:¬q=top+4:=by omega
  refine CW.vc DL [0,1,2,3,8,9,10,11,12,13,14,15,19,30,35,42,61,69,70,71,76] (by kernel_rfl) ?_
  (repeat ((try refine Vc.mk' ?_);simp only [go_sem,Nat.reduceAdd,Nat.reduceLT,Nat.reduceLeDiff,Nat.reduceEqDiff,hh,Bi,hL,JS,Ba,his',hs',JT,B3,Tz,Ih,RS,Gj,XC,Fa.Pb,w1,w2,w3,hpl,hpr,AS n0,AS n1,Lf,c1',c2',c3,c4',Fa.Th,hask,Fa.Cm]))
  refine CW.CZ (IW hp top n (.slice (some ⟨q,0,none⟩) s.l.length s.l.length) s a b m P' f) (fun k=>k≤f.Bb.toNat) (fun k=>f.Bb.toNat - k) 0 (Nat.zero_le _) ?_ ?_
  ·exact (by refine BO.mk' [top,top+1,top+2] hcl (by simp) (by simp) rfl (AV ?_) ?_ ?_ <;> simp [Ax,Cd,Ad,Ag,BX,AD.nil,AD.cons,AF,AG,BZ,AM,Aw,AB,AH,AE.set,AE.B5,AE.refl,Ai,AA n0,AA n4,AA n5,Gy,Fa.B7,x04,y04,x05,y05,y14,y15,y24,y25])
  ·intro k hk
   match k,hk with
   |0,hk=>
    by_cases c6:0 < f.Bb
    ·have c6':0 < f.Bb.toNat:=by omega
     refine CW.vc DL [0,1,2,3,8,9,10,11,12,13,14,15,19,30,35,42,61,69,70,71,76] (by kernel_rfl) ?_
     (repeat ((try refine Vc.mk' ?_);simp only [go_sem,reduceCtorEq,Nat.reduceAdd,Nat.reduceLeDiff,Nat.reduceEqDiff,Int.reduceLT,hh,Bi,AS n0,zS,C0a,C0b,C0c,C0d,DJ,Df,Dv,hT,wl,L1,AE.B5,List.mem_cons,RT,JN,Ja,n65,n64,n05,n04,y06,y16,y26,x34,x35,n45,n54,w6,IW,Gy,c6,List.nil_append,List.cons_append,hq,AS hqt,q4,q5]))
     refine .mk 1 (by omega) (by omega) ((by refine BO.mk' [top,top+1,top+2,top+3] hcl (by simp) (by simp) rfl (AV ?_) ?_ ?_ <;> simp [Ax,Cd,Ad,Ag,BX,AD.nil,AD.cons,AF,AG,BZ,AM,Aw,Bn.BN,AB,AH,AE.set,AE.B5,AE.refl,Ai,zS,AA n0,AA n4,AA n5,AA n6,Gy,Bv,Df,Dv,Fa.B7,Bn.BN,DJ,x04,y04,x05,y05,x06,y06,y14,y15,y16,y24,y25,y26,y34,y35,y36,w11,List.nil_append,List.cons_append,AA hqt,q4,p4,q5,p5,q6,p6,u0,v0,u1,v1,u2,v2,v3]))
    ·have c7:f.Bb=0:=by omega
     refine CW.vc DL [0,1,2,3,8,9,10,11,12,13,14,15,19,30,35,42,61,69,70,71,76] (by kernel_rfl) ?_
     (repeat ((try refine Vc.mk' ?_);simp only [go_sem,reduceCtorEq,Nat.reduceAdd,Nat.reduceEqDiff,x04,x05,IW,Gy,c6,List.append_nil]))
     simp only [hcp,c7,Int.toNat_zero,if_true,Fm]
     (refine ⟨[],by simp,by simp,by simp, ?_, ?_, ?_⟩ <;> simp [Ad,Ag,BX,AD.nil,AD.cons,AF,AG,BZ,AB,AH,AE.set,AE.B5,AE.refl,Ai,AA n4,AA n5,Fa.B7,y04,y05,y14,y15,y24,y25])
   |1,hk=>
    by_cases c6:1 < f.Bb
    ·have c6':1 < f.Bb.toNat:=by omega
     refine CW.vc DL [0,1,2,3,8,9,10,11,12,13,14,15,19,30,35,42,61,69,70,71,76] (by kernel_rfl) ?_
     (repeat ((try refine Vc.mk' ?_);simp only [go_sem,reduceCtorEq,Nat.reduceAdd,Nat.reduceLeDiff,Nat.reduceEqDiff,Int.reduceLT,hh,Bi,AS n0,zS,C1a,C1b,C1c,C1d,hl1,DJ,Df,Dv,hT,wl,L2,RT,JN,Ja,Bv,n06,n05,n04,x16,x26,y36,x44,x45,x46,IW,Gy,c6,List.nil_append,List.cons_append,pn,p6,u1,u2,u4,i01]))
     refine .mk 2 (by omega) (by omega) ((by refine BO.mk' [top,top+1,top+2,top+4] hcl (by simp) (by simp) rfl (AV ?_) ?_ ?_ <;> simp [Ax,Cd,Ad,Ag,BX,AD.nil,AD.cons,AF,AG,BZ,AM,Aw,Bn.BN,AB,AH,AE.set,AE.B5,AE.refl,Ai,zS,AA n0,AA n4,AA n5,AA n6,Gy,Bv,Df,Dv,Fa.B7,Bn.BN,DJ,y00,x04,y04,x05,y05,x06,y06,y14,y15,y16,y24,y25,y26,y34,y35,y36,y45,y46,w12,a11,List.nil_append,List.cons_append,AA hqt,q4,p4,q5,p5,q6,p6,u0,v0,u1,v1,u2,v2,v3,v4]))
    ·have c7:f.Bb=1:=by omega
     refine CW.vc DL [0,1,2,3,8,9,10,11,12,13,14,15,19,30,35,42,61,69,70,71,76] (by kernel_rfl) ?_
     (repeat ((try refine Vc.mk' ?_);simp only [go_sem,reduceCtorEq,Nat.reduceAdd,Nat.reduceEqDiff,zS,DJ,Df,Dv,Bv,x04,x05,x06,x16,IW,Gy,c6,List.nil_append,List.cons_append,List.append_nil,u0,u1,i01]))
     simp only [hcp,c7,Fm,show (1:Int).toNat=1 from rfl,o1]
     (refine ⟨[top+3],by simp,by simp,by simp, ?_, ?_, ?_⟩ <;> simp [Ad,Ag,BX,AD.nil,AD.cons,AF,AG,BZ,AM,Bn.BN,AB,AH,AE.set,AE.B5,AE.refl,Ai,zS,AA n4,AA n5,AA n6,Bv,Df,Dv,Fa.B7,Bn.BN,DJ,y04,y05,y06,y14,y15,y24,y25,y34,y35,y36,List.nil_append,List.cons_append,AA hqt,q4,p4,q5,p5,q6,p6,v0,v3,i01])
   |k+2,hk=>
    have hk0:k=0:=by omega
    subst hk0
    have c7:f.Bb=2:=by omega
    refine CW.vc DL [0,1,2,3,8,9,10,11,12,13,14,15,19,30,35,42,61,69,70,71,76] (by kernel_rfl) ?_
    (repeat ((try refine Vc.mk' ?_);simp only [go_sem,reduceCtorEq,Nat.reduceAdd,Nat.reduceEqDiff,Int.reduceLT,zS,DJ,Df,Dv,Bv,x04,x05,x06,x16,IW,Gy,c7,List.nil_append,List.cons_append,List.append_nil,u0,u1,i02]))
    simp only [hcp,c7,Fm,show (2:Int).toNat=2 from rfl,o2]
    (refine ⟨[top+3],by simp,by simp,by simp, ?_, ?_, ?_⟩ <;> simp [Ad,Ag,BX,AD.nil,AD.cons,AF,AG,BZ,AM,Bn.BN,AB,AH,AE.set,AE.B5,AE.refl,Ai,zS,AA n4,AA n5,AA n6,Bv,Df,Dv,Fa.B7,Bn.BN,DJ,y04,y05,y06,y14,y15,y24,y25,y34,y35,y36,List.nil_append,List.cons_append,AA hqt,q4,p4,q5,p5,q6,p6,v0,v3,i02])
end Go.Proofs.Ytmppehipfpkepaa.Dm
