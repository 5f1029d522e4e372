/- strings.Builder: WriteString, as the world has it. -/
import Derived.Test.YthlhnangbinhoaaGreatDoorTBA
import Derived.Lib.UnsafeStr
import Derived.Shelf.RegionOpenPlain
import Derived.WalkKit
set_option linter.unusedVariables false
namespace Go.Proofs.YthlhnangbinhoaaGreatDoor.Dm
open Go.Dm Go.RowKit
set_option maxHeartbeats 4000000
set_option maxRecDepth 100000
theorem Ih {P:Program}{w w':World}{ops:Array Oper}{rest:List Oper}{o:Oper}{a:Act}{Q:Exit→Act→World→Prop}(hgd:o.guard=none)(sl x:Operand)(t u:TypeId)
  (ho:o.op= .call {callee:= .builtin .append,args:= #[sl,x],argTypes:= #[t,u]}) (v xv r:Value) (hs:a.eval sl=v) (hx:a.eval x=xv)
  (hr:(Builtin.append_ #[t,u] o.type #[v,xv]).run P w= .ok r w') (h:wpList P ops Q rest (a.put o.dst r) w'):wpList P ops Q (o :: rest) a w:=by
 refine wpList_plain hgd fun K hK=> ?_
 unfold Oper.wp execOp
 simp only [ho,resolve,invoke,builtin,Sem.run_bind,Sem.run_pure,Result.andThen_ok,List.map_toArray,List.map_cons,List.map_nil,hs,hx,hr]
 exact hK _ _ h
theorem rS (b:Nat)(s:ByteArray)(w:World)(Q1 Q2:World→Prop)
  (hc:Calls Tryz.prog 66 #[.pointer (some ⟨b,0,none⟩)] w fun e w'=>e= .returned (.tuple #[])∧Q1 w')
  (h1:∀w1,Q1 w1→∃y ao n cap w2 z,w1.cell? ⟨b,1,none⟩=some y∧(Builtin.append_ #[69,9] 69 #[y, .string s]).run Tryz.prog w1= .ok (.slice ao n cap) w2∧w2.cell? ⟨b,1,none⟩=some z∧w2.frozen? ⟨b,1,none⟩=false∧Q2 (w2.setCell ⟨b,1,none⟩ (.slice ao n cap))) :
  Calls Tryz.prog 25 #[.pointer (some ⟨b,0,none⟩), .string s] w fun e w'=>e= .returned (.tuple #[.int .i64 s.size, .nilIface])∧Q2 w':=by
 go_enter Tryz.func25,Tryz.ntmps25
 go_wp2_with (go_at_call 66;refine hc.mono ?_)
 rintro e w1 ⟨rfl,q1⟩
 obtain ⟨y,ao,n,cap,w2,z,c1,ha,d1,f1,q2⟩:=h1 w1 q1
 go_wp2_with (at_builtin;refine Ih rfl _ _ _ _ rfl _ _ _ rfl rfl ha ?_)
 go_wp2
 go_ret2
 exact ⟨rfl,q2⟩
theorem rK (b:Nat)(c:Int)(w:World)(Q1 Q2:World→Prop)
  (hc:Calls Tryz.prog 66 #[.pointer (some ⟨b,0,none⟩)] w fun e w'=>e= .returned (.tuple #[])∧Q1 w')
  (h1:∀w1,Q1 w1→∃y ao n cap w2 z,w1.cell? ⟨b,1,none⟩=some y∧(Builtin.append_ #[69,69] 69 #[y, .slice (some ⟨w1.heap.size,0,none⟩) 1 1]).run Tryz.prog (w1.alloc (.cells #[.int .u8 c] 5))= .ok (.slice ao n cap) w2∧w2.cell? ⟨b,1,none⟩=some z∧w2.frozen? ⟨b,1,none⟩=false∧Q2 (w2.setCell ⟨b,1,none⟩ (.slice ao n cap))) :
  Calls Tryz.prog 101 #[.pointer (some ⟨b,0,none⟩), .int .u8 c] w fun e w'=>e= .returned .nilIface∧Q2 w':=by
 go_enter Tryz.func101,Tryz.ntmps101
 go_wp2_with (go_at_call 66;refine hc.mono ?_)
 rintro e w1 ⟨rfl,q1⟩
 obtain ⟨y,ao,n,cap,w2,z,c1,ha,d1,f1,q2⟩:=h1 w1 q1
 go_wp2_with (at_builtin;refine Ih rfl _ _ _ _ rfl _ _ _ rfl rfl ha ?_)
 go_wp2
 go_ret
 exact ⟨rfl,q2⟩
end Go.Proofs.YthlhnangbinhoaaGreatDoor.Dm
set_option linter.unusedVariables false
namespace Go.Proofs.YthlhnangbinhoaaGreatDoor.Dm
open Go.Dm Go.RowKit
set_option maxHeartbeats 4000000
set_option maxRecDepth 100000
theorem mB:Tryz.prog.cellsOf 5=1:=by kernel_rfl
theorem xB (b g cap:Nat)(l:List UInt8)(cur:Array Value)(fz:Nat×Nat)(w:World)(h0:l≠ [])(hc:l.length≤cap)(hn:l.length≤cur.size)(h63:l.length≤9223372036854775807)
  (hbc:w.cell? ⟨b,1,none⟩=some (.slice (some ⟨g,0,none⟩) l.length cap)) (hg:w.heap[g]? = some (.cells cur 5 fz)) (hcell:∀j x,l[j]? = some x→w.cell? ⟨g,j,none⟩=some (.int .u8 x.toNat)) :
  Calls Tryz.prog 28 #[.pointer (some ⟨b,0,none⟩)] w fun e w'=>e= .returned (.string ⟨l.toArray⟩)∧w' = w.drew.freeze ⟨g,0,none⟩ l.length:=by
 have hl0:l.length≠0:=by simpa using h0
 have c1:w.drew.cell? ⟨b,1,none⟩=some (.slice (some ⟨g,0,none⟩) l.length cap):=hbc
 have hSD:(Builtin.unsafeSliceData_ #[69] 137 #[.slice (some ⟨g,0,none⟩) l.length cap]).run Tryz.prog w.drew= .ok (.pointer (some ⟨g,0,none⟩)) w.drew:=
  Lib.run_unsafeSliceData_row _ _ _ _ _ _ (by omega)
 have hUS:(Builtin.unsafeString_ #[137,3] 9 #[.pointer (some ⟨g,0,none⟩), .int .i64 l.length]).run Tryz.prog w.drew= .ok (.string ⟨l.toArray⟩) (w.drew.freeze ⟨g,0,none⟩ l.length):=by
  refine Lib.run_unsafeString_row w.drew 137 3 9 5 Tryz.underlying137 mB g cur.size (by have hg':w.drew.heap[g]? = some (.cells cur 5 fz):=hg;simp [World.shape?,hg']) l h0 hn h63 ?_
  intro j x hx
  have:=hcell j x hx
  rcases j with _ | j
  ·exact this
  ·simpa [Addr.add] using this
 have mixed:Tryz.prog.follows .mixedOrders=true:=by kernel_rfl
 go_enter Tryz.func28,Tryz.ntmps28
 go_wp2
 go_region_o
 all_goals (go_wp2;go_ret;exact ⟨rfl,rfl⟩)
theorem qk (b:Nat)(w:World)(hbc:w.cell? ⟨b,1,none⟩=some (.slice none 0 0)) :
  Calls Tryz.prog 28 #[.pointer (some ⟨b,0,none⟩)] w fun e w'=>e= .returned (.string ⟨#[]⟩)∧w' = w.drew:=by
 have hUS:∀(W:World) q,(Builtin.unsafeString_ #[137,3] 9 #[.pointer q, .int .i64 0]).run Tryz.prog W= .ok (.string .empty) W:=fun W q=>Lib.run_unsafeString_none W _ _ _ q
 have c1:w.drew.cell? ⟨b,1,none⟩=some (.slice none 0 0):=hbc
 have hSD:(Builtin.unsafeSliceData_ #[69] 137 #[.slice none 0 0]).run Tryz.prog w.drew= .ok (.pointer none) w.drew:=rfl
 have mixed:Tryz.prog.follows .mixedOrders=true:=by kernel_rfl
 go_enter Tryz.func28,Tryz.ntmps28
 go_wp2
 go_region_o
 all_goals (go_wp2;go_ret;exact ⟨rfl,rfl⟩)
end Go.Proofs.YthlhnangbinhoaaGreatDoor.Dm
set_option linter.unusedVariables false
namespace Go.Proofs.YthlhnangbinhoaaGreatDoor.Dm
open Go.Dm Go.RowKit
set_option maxHeartbeats 4000000
set_option maxRecDepth 100000
def unB:Value→UInt8
 | .int _ n=>UInt8.ofNat n.toNat
 |_=>0
def rdB:Option A8→List UInt8
 |some (.cells _ _ vs)=>vs.map unB
 |_=> []
theorem wH {z:Nat}{l:List UInt8}:rdB (sS z l)=l:=by
 cases l with
 |nil=>rfl
 |cons a l=>
  show (JU (a :: l)).map unB=_
  rw [JU,List.map_map]
  refine (List.map_congr_left (g:=id) fun x _=> ?_).trans (List.map_id _)
  show UInt8.ofNat ((x.toNat:Int).toNat)=x
  rw [Int.toNat_natCast,UInt8.ofNat_toNat]
def Hi (hp:Hp)(i top:Nat):Nat:=match WA hp i with | .slice (some ⟨j,_,_⟩) _ _=>j | _=>top
def L0 (hp:Hp)(i:Nat):List UInt8:=match WA hp i with | .slice (some ⟨j,_,_⟩) _ _=>rdB (hp j) | _=> []
structure DZ (hp:Hp) (i:Nat) (a:Value) (j:Nat) (l:List UInt8):Prop where
 o:hp i=Cz a (AA j l)
 a:a= .pointer none∨a= .pointer (some ⟨i,0,none⟩)
 b:hp j=JT l
 ne:j≠i
theorem DZ.PX {hp:Hp}{i j:Nat}{a:Value}{l:List UInt8}(h:DZ hp i a j l):L0 hp i=l:=by
 unfold L0
 rw [Gv h.o]
 by_cases e:l= []
 ·subst e;rfl
 ·rw [Kx e]
  show rdB (hp j)=l
  rw [h.b];exact wH
theorem DZ.SG {hp:Hp}{i j top:Nat}{a:Value}{l:List UInt8}(h:DZ hp i a j l)(e:l≠ []):Hi hp i top=j:=by
 unfold Hi
 rw [Gv h.o,Kx e]
theorem DZ.TF {hp:Hp}{i j top:Nat}{a:Value}(h:DZ hp i a j []):Hi hp i top=top:=by
 unfold Hi
 rw [Gv h.o];rfl
theorem Zq {φ:Dm.Ren}{L:Dm.Loc}{a b x y:Value}{fz:Nat×Nat}(h0:L.off=0)(hlim:L.PY=2)(hesz:L.CA=0)(hx:V φ a x)(hy:V φ b y)(hfz:fz.2≤fz.1) :
  EA φ L (.cells true CV [a,b]) (some (.cells #[x,y] 73 fz)):=by
 refine ⟨by rw [hesz];decide,_,_,fz,rfl,by rw [hlim];rfl,by rw [h0,hlim];exact Nat.le_refl 2, ?_,⟨fun _=>hfz,(fun e=>by cases e),fun _ _=>⟨2,by decide,by decide,h0, .inr hlim.symm⟩⟩⟩
 rw [h0]
 exact .cons _ _ _ _ hx (.cons _ _ _ _ hy .nil)
def ff (hp:Hp)(i top:Nat)(s:List UInt8):A6:= [(Hi hp i top,none),(top,JT (L0 hp i ++ s)),(i,Cz (.pointer (some ⟨i,0,none⟩)) (AA top (L0 hp i ++ s)))]
def Sr:BE:= .det (fun args hp _=>match args with | [.pointer (some ⟨i,0,none⟩), .string ⟨⟨s⟩⟩]=>(∃a j l,DZ hp i a j l∧l.length+s.length≤140737488355328)∧s≠ [] | _=>False)
 (fun args hp top=>match args with | [.pointer (some ⟨i,_,_⟩),s]=>(.tuple ⟨[.int .i64 (strOf s).length, .nilIface]⟩,ff hp i top (strOf s),top+1) | _=>(undef, [],top))
theorem ja {φ:Dm.Ren}{top:Nat}{l:List UInt8}{v:Value}(h:V φ (AA top l) v):∃ao n c,v= .slice ao n c:=by
 cases l with
 |nil=>cases h;exact ⟨_,_,_,rfl⟩
 |cons a l=>cases h;exact ⟨_,_,_,rfl⟩
def wbU (hp:Hp)(i top:Nat)(s:List UInt8):A6:= [(Hi hp i top,none),(top+1,JT (L0 hp i ++ s)),(i,Cz (.pointer (some ⟨i,0,none⟩)) (AA (top+1) (L0 hp i ++ s)))]
def WJ:BE:= .det (fun args hp _=>match args with | [.pointer (some ⟨i,0,none⟩), .int .u8 c]=>(∃a j l,DZ hp i a j l∧l.length+1≤140737488355328)∧0≤c∧c < 256 | _=>False)
 (fun args hp top=>match args with | [.pointer (some ⟨i,_,_⟩),c]=>(.nilIface,wbU hp i top [UInt8.ofNat (Dm.intOf c).toNat],top+2) | _=>(undef, [],top))
theorem ACd:Ag Tryz.prog 25 Sr:=by
 refine ⟨⟨_,oE.toFTOk⟩,fun args hp top hpre=> ?_⟩
 match args,hpre with
 | [.pointer (some ⟨i,0,none⟩), .string ⟨⟨s⟩⟩],⟨⟨a,j,l,hB,hroom⟩,hs⟩=>
 intro φ own w args' hargs H htop
 cases hargs with
 |cons _ _ _ _ hx hl=>
 cases hl with
 |cons _ _ _ _ hy hl=>
 cases hl
 cases hy
 cases hx with
 |ptr _ _ L hL=>
 obtain ⟨h0,hlim,hesz,_⟩:=Jl H hB.o hL
 have hc:=Pm.2 [.pointer (some ⟨i,0,none⟩)] hp top ⟨a,AA j l,hB.o,hB.a⟩ φ own w [.pointer (some ⟨L.BT,L.off+0,none⟩)] (.cons _ _ _ _ (.ptr i 0 L hL) .nil) H htop
 rw [h0] at hc ⊢
 simp only [AH,Gv hB.o] at hc ⊢
 have hi:i < top:=H.lt htop hB.o
 have hit:top≠i:=by omega
 refine Calls.mono (rS L.BT ⟨⟨s⟩⟩ w (fun w1=> ∃φ1,φ.le φ1∧HR φ1 own (hp.Ac [(i,Cz (.pointer (some ⟨i,0,none⟩)) (AA j l))]) w1∧Dm.K own w w1∧∀j,top≤j→φ1 j=none)
  (fun w'=> ∃φ',E8 φ own w (.tuple ⟨[.int .i64 s.length, .nilIface]⟩) (hp.Ac (ff hp i top s)) (top+1) (.tuple ⟨[.int .i64 s.length, .nilIface]⟩) w' φ') ?_ ?_) ?_
 ·refine Calls.mono hc ?_
  rintro e w' ⟨v,hp',top',v',φ',rfl,⟨rfl,rfl,rfl⟩,k⟩
  have kv:=k.v
  cases kv with
  |tuple _ x hx=>
  cases hx
  exact ⟨rfl,φ',k.le,k.hr,k.k,k.top⟩
 ·rintro w1 ⟨φ1,hle,H1,hk1,htop1⟩
  have hL1:=hle _ _ hL
  generalize hhp1:hp.Ac [(i,Cz (.pointer (some ⟨i,0,none⟩)) (AA j l))] = hp1 at H1
  have g1:hp1 i=Cz (.pointer (some ⟨i,0,none⟩)) (AA j l):=by subst hhp1;simp only [BR,Bh,Hp.set,if_true]
  have g2:hp1 j=JT l:=by subst hhp1;simp only [BR,Bh,Hp.set,if_neg hB.ne];exact hB.b
  obtain ⟨_,_,_,x1,y1,fz1,hh1,va1,vb1,hfz1⟩:=Jl H1 g1 hL1
  obtain ⟨v',w2,φ2,ha,k2⟩:=V7 (P:=Tryz.prog) H1 htop1 (r:=69) (Am _ _ DX) rfl (Am _ _ DH) rfl (Am _ _ Fu) rfl rfl bW U8 Ys (by decide) g2 vb1 hroom hs (.str ⟨⟨s⟩⟩) db rfl
  obtain ⟨ao,n,c,rfl⟩:=ja k2.v
  have hL2:=k2.le _ _ hL1
  have g3:(hp1.Ac (Bu j l top (sS pD (l ++ s)))) i=Cz (.pointer (some ⟨i,0,none⟩)) (AA j l):=by
   rw [Ka g2]
   simp only [Hp.set,if_neg hit.symm,if_neg hB.ne.symm];exact g1
  obtain ⟨_,_,_,x2,y2,fz2,hh2,va2,vb2,hfz2⟩:=Jl k2.hr g3 hL2
  refine ⟨y1,ao,n,c,w2,y2,by simp [World.cell?,hh1],ha,by simp [World.cell?,hh2],by simp [World.frozen?,hh2];omega,φ2, ?_⟩
  have e1:(w2.setCell ⟨L.BT,1,none⟩ (.slice ao n c)).heap[L.BT]? = some (.cells #[x2, .slice ao n c] 73 fz2):=by
   simp [World.setCell,Array.getElem?_modify,hh2]
  have e2:∀k,k≠L.BT→(w2.setCell ⟨L.BT,1,none⟩ (.slice ao n c)).heap[k]? = w2.heap[k]? :=fun k hk=>by
   simp only [World.setCell,Array.getElem?_modify]
   rw [if_neg (Ne.symm hk)]
  have e3:(w2.setCell ⟨L.BT,1,none⟩ (.slice ao n c)).heap.size=w2.heap.size:=by simp [World.setCell]
  refine ⟨fun k M hM=>k2.le _ _ (hle _ _ hM), .tuple _ _ (.cons _ _ _ _ (.int _ _) (.cons _ _ _ _ .nili .nil)), ?_,(hk1.trans k2.k).trans ⟨Nat.le_of_eq e3.symm,fun k _ hn=>e2 k fun e=>hn (e ▸ k2.hr.D0 i _ L g3 rfl hL2),rfl,rfl,rfl⟩,k2.top⟩
  refine (k2.hr.put i _ (.cells true CV [.pointer (some ⟨i,0,none⟩),AA top (l ++ s)]) L g3 rfl hL2 e3 e2 (by rw [e1];exact Zq h0 hlim hesz va2 k2.v hfz2)).sub fun k o hk=> ?_
  rw [Ka g2]
  simp only [ff,hB.PX,BR,Bh,Hp.set,Hp.Jb] at hk ⊢
  by_cases ki:k=i
  ·subst ki
   simp only [if_true] at hk ⊢
   exact hk
  ·simp only [if_neg ki] at hk ⊢
   by_cases kt:k=top
   ·subst kt;simp only [if_true] at hk ⊢;exact hk
   ·simp only [if_neg kt] at hk ⊢
    have hk0:hp1 k=hp k:=by subst hhp1;simp only [BR,Bh,Hp.set,if_neg ki]
    by_cases hl:l= []
    ·subst hl
     rw [hB.TF] at hk
     simp only [if_neg kt] at hk
     by_cases kj:k=j
     ·subst kj
      have:hp k=none:=hB.b
      rw [this] at hk;cases hk
     ·rw [if_neg kj,hk0];exact hk
    ·rw [hB.SG hl] at hk
     by_cases kj:k=j
     ·rw [if_pos kj] at hk;cases hk
     ·rw [if_neg kj] at hk ⊢;rw [hk0];exact hk
 ·rintro e w' ⟨rfl,φ',k⟩
  exact ⟨_,_,_,_,φ',rfl,⟨rfl,rfl,rfl⟩,k⟩
theorem ACX:Ag Tryz.prog 101 WJ:=by
 refine ⟨⟨_,im.toFTOk⟩,fun args hp top hpre=> ?_⟩
 match args,hpre with
 | [.pointer (some ⟨i,0,none⟩), .int .u8 c],⟨⟨a,j,l,hB,hroom⟩,hc0,hc1⟩=>
 intro φ own w args' hargs H htop
 cases hargs with
 |cons _ _ _ _ hx hl=>
 cases hl with
 |cons _ _ _ _ hy hl=>
 cases hl
 cases hy
 cases hx with
 |ptr _ _ L hL=>
 obtain ⟨h0,hlim,hesz,_⟩:=Jl H hB.o hL
 have hi0:i < top:=H.lt htop hB.o
 obtain ⟨j,hB,hjt⟩:∃j,DZ hp i a j l∧j≠top:=by
  by_cases hl:l= []
  ·subst hl
   refine ⟨top+1,⟨hB.o,hB.a, ?_,by omega⟩,by omega⟩
   show hp (top+1)=none
   cases e:hp (top+1) with
   |none=>rfl
   |some o=>have:=H.lt htop e;omega
  ·refine ⟨j,hB,fun e=> ?_⟩
   have:hp j=some (.cells true pD (JU l)):=by rw [hB.b];exact QX hl
   have:=H.lt htop this;omega
 have hc:=Pm.2 [.pointer (some ⟨i,0,none⟩)] hp top ⟨a,AA j l,hB.o,hB.a⟩ φ own w [.pointer (some ⟨L.BT,L.off+0,none⟩)] (.cons _ _ _ _ (.ptr i 0 L hL) .nil) H htop
 rw [h0] at hc ⊢
 have hby:JU [UInt8.ofNat c.toNat] = [.int .u8 c]:=by
  have e:(UInt8.ofNat c.toNat).toNat=c.toNat:=by simp;omega
  show [Value.int .u8 ((UInt8.ofNat c.toNat).toNat:Int)] = _
  rw [e,Int.toNat_of_nonneg hc0]
 simp only [Gv hB.o] at hc ⊢
 simp only [Dm.intOf_int]
 generalize hse: [UInt8.ofNat c.toNat] = s at hby
 have hs:s≠ []:=by rw [←hse];simp
 have hsl:s.length=1:=by rw [←hse];rfl
 have hi:i < top:=H.lt htop hB.o
 have hit:top≠i:=by omega
 refine Calls.mono (rK L.BT c w (fun w1=> ∃φ1,φ.le φ1∧HR φ1 own (hp.Ac [(i,Cz (.pointer (some ⟨i,0,none⟩)) (AA j l))]) w1∧Dm.K own w w1∧∀j,top≤j→φ1 j=none)
  (fun w'=> ∃φ',E8 φ own w .nilIface (hp.Ac (wbU hp i top s)) (top+2) .nilIface w' φ') ?_ ?_) ?_
 ·refine Calls.mono hc ?_
  rintro e w' ⟨v,hp',top',v',φ',rfl,⟨rfl,rfl,rfl⟩,k⟩
  have kv:=k.v
  cases kv with
  |tuple _ x hx=>
  cases hx
  exact ⟨rfl,φ',k.le,k.hr,k.k,k.top⟩
 ·rintro w1 ⟨φ1,hle,H1,hk1,htop1⟩
  have hL1:=hle _ _ hL
  generalize hhp1:hp.Ac [(i,Cz (.pointer (some ⟨i,0,none⟩)) (AA j l))] = hp1 at H1
  have g1:hp1 i=Cz (.pointer (some ⟨i,0,none⟩)) (AA j l):=by subst hhp1;simp only [BR,Bh,Hp.set,if_true]
  have g2:hp1 j=JT l:=by subst hhp1;simp only [BR,Bh,Hp.set,if_neg hB.ne];exact hB.b
  obtain ⟨_,_,_,x1,y1,fz1,hh1,va1,vb1,hfz1⟩:=Jl H1 g1 hL1
  obtain ⟨Lb,b1,b2,b3,b4,leb,b6,H1b,kb,htop1b⟩:=E5 H1 htop1 (.cons _ _ _ _ (.int .u8 c) .nil) 1 5 [] w1.drawn (fun h=>absurd h (by decide))
  have g2b:(hp1.set top (some (.cells true 1 [.int .u8 c]))) j=JT l:=by rw [Aj _ _ _ _ hjt];exact g2
  have hxv:V (φ1.ext top Lb) (.slice (some ⟨top,0,none⟩) 1 1) (.slice (some ⟨w1.heap.size,0,none⟩) 1 1):=by
   have:=V.slice (φ:=φ1.ext top Lb) top 0 1 1 1 Lb b6 (Nat.le_refl _) (Nat.le_refl _) (by rw [b2,b3,b4];exact Nat.le_refl 1)
   rwa [b1,b2] at this
  have hnew:Co (hp1.set top (some (.cells true 1 [.int .u8 c]))) 1 s.length (.slice (some ⟨top,0,none⟩) 1 1)=some (JU s):=by
   rw [hby,hsl];simp [Co,AY]
  obtain ⟨v',w2,φ2,ha,k2⟩:=V7 (P:=Tryz.prog) H1b htop1b (r:=69) (Am _ _ DX) rfl (Am _ _ DX) rfl (Am _ _ Fu) rfl rfl bW U8 Ys (by decide) g2b (vb1.mono leb) (by rw [hsl];exact hroom) hs hxv hnew (by rw [hsl];rfl)
  obtain ⟨ao,n,cc,rfl⟩:=ja k2.v
  have hL2:=k2.le _ _ (leb _ _ hL1)
  have g3:((hp1.set top (some (.cells true 1 [.int .u8 c]))).Ac (Bu j l (top+1) (sS pD (l ++ s)))) i=Cz (.pointer (some ⟨i,0,none⟩)) (AA j l):=by
   rw [Ka g2b]
   simp only [Hp.set,if_neg hit.symm,if_neg hB.ne.symm,if_neg (show ¬i=top+1 by omega)];exact g1
  obtain ⟨_,_,_,x2,y2,fz2,hh2,va2,vb2,hfz2⟩:=Jl k2.hr g3 hL2
  refine ⟨y1,ao,n,cc,w2,y2,by simp [World.cell?,hh1],ha,by simp [World.cell?,hh2],by simp [World.frozen?,hh2];omega,φ2, ?_⟩
  have e1:(w2.setCell ⟨L.BT,1,none⟩ (.slice ao n cc)).heap[L.BT]? = some (.cells #[x2, .slice ao n cc] 73 fz2):=by
   simp [World.setCell,Array.getElem?_modify,hh2]
  have e2:∀k,k≠L.BT→(w2.setCell ⟨L.BT,1,none⟩ (.slice ao n cc)).heap[k]? = w2.heap[k]? :=fun k hk=>by
   simp only [World.setCell,Array.getElem?_modify]
   rw [if_neg (Ne.symm hk)]
  have e3:(w2.setCell ⟨L.BT,1,none⟩ (.slice ao n cc)).heap.size=w2.heap.size:=by simp [World.setCell]
  refine ⟨fun k M hM=>k2.le _ _ (leb _ _ (hle _ _ hM)), .nili, ?_,((hk1.trans kb).trans k2.k).trans ⟨Nat.le_of_eq e3.symm,fun k _ hn=>e2 k fun e=>hn (e ▸ k2.hr.D0 i _ L g3 rfl hL2),rfl,rfl,rfl⟩,k2.top⟩
  refine (k2.hr.put i _ (.cells true CV [.pointer (some ⟨i,0,none⟩),AA (top+1) (l ++ s)]) L g3 rfl hL2 e3 e2 (by rw [e1];exact Zq h0 hlim hesz va2 k2.v hfz2)).sub fun k o hk=> ?_
  rw [Ka g2b]
  have htn:hp top=none:=by
   cases e:hp top with
   |none=>rfl
   |some o=>have:=H.lt htop e;omega
  simp only [wbU,hB.PX,BR,Bh,Hp.set,Hp.Jb] at hk ⊢
  by_cases ki:k=i
  ·subst ki
   simp only [if_true] at hk ⊢
   exact hk
  ·simp only [if_neg ki] at hk ⊢
   by_cases kt:k=top+1
   ·subst kt;simp only [if_true] at hk ⊢;exact hk
   ·simp only [if_neg kt] at hk ⊢
    have hk0:hp1 k=hp k:=by subst hhp1;simp only [BR,Bh,Hp.set,if_neg ki]
    have hkt:k≠top:=fun e=>by
     subst e
     split at hk
     ·cases hk
     ·rw [htn] at hk;cases hk
    by_cases hl:l= []
    ·subst hl
     rw [hB.TF] at hk
     rw [if_neg hkt] at hk
     by_cases kj:k=j
     ·subst kj
      have:hp k=none:=hB.b
      rw [this] at hk;cases hk
     ·rw [if_neg kj,if_neg hkt,hk0];exact hk
    ·rw [hB.SG hl] at hk
     by_cases kj:k=j
     ·rw [if_pos kj] at hk;cases hk
     ·rw [if_neg kj] at hk ⊢;rw [if_neg hkt,hk0];exact hk
 ·rintro e w' ⟨rfl,φ',k⟩
  exact ⟨_,_,_,_,φ',rfl,⟨rfl,rfl,rfl⟩,k⟩
end Go.Proofs.YthlhnangbinhoaaGreatDoor.Dm
