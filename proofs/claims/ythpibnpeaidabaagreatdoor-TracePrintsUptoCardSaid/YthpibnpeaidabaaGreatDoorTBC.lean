import Derived.Test.YthpibnpeaidabaaGreatDoorTBW
import Derived.Test.YthpibnpeaidabaaGreatDoorTBS
set_option linter.unusedVariables false
namespace Go.Proofs.YthpibnpeaidabaaGreatDoor.Dm
open Go.Dm Go.RowKit
set_option maxHeartbeats 4000000
set_option maxRecDepth 100000
def unB:Value→UInt8
 | .int _ n=>UInt8.ofNat n.toNat
 |_=>0
def rdB:Option Ay→List UInt8
 |some (.cells _ _ vs)=>vs.map unB
 |_=> []
theorem qn {z:Nat}{l:List UInt8}:rdB (uf z l)=l:=by
 cases l with
 |nil=>rfl
 |cons a l=>
  show (J4 (a :: l)).map unB=_
  rw [J4,List.map_map]
  refine (List.map_congr_left (g:=id) fun x _=> ?_).trans (List.map_id _)
  show UInt8.ofNat ((x.toNat:Int).toNat)=x
  rw [Int.toNat_natCast,UInt8.ofNat_toNat]
def OB (hp:Hp)(i top:Nat):Nat:=match UK hp i with | .slice (some ⟨j,_,_⟩) _ _=>j | _=>top
def Sj (hp:Hp)(i:Nat):List UInt8:=match UK hp i with | .slice (some ⟨j,_,_⟩) _ _=>rdB (hp j) | _=> []
structure Fj (hp:Hp) (i:Nat) (a:Value) (j:Nat) (l:List UInt8):Prop where
 o:hp i=EO a (AR j l)
 a:a= .pointer none∨a= .pointer (some ⟨i,0,none⟩)
 b:hp j=Rv l
 ne:j≠i
theorem Fj.gx {hp:Hp}{i j:Nat}{a:Value}{l:List UInt8}(h:Fj hp i a j l):Sj hp i=l:=by
 unfold Sj
 rw [Gb h.o]
 by_cases e:l= []
 ·subst e;rfl
 ·rw [Iy e]
  show rdB (hp j)=l
  rw [h.b];exact qn
theorem Fj.kU {hp:Hp}{i j top:Nat}{a:Value}{l:List UInt8}(h:Fj hp i a j l)(e:l≠ []):OB hp i top=j:=by
 unfold OB
 rw [Gb h.o,Iy e]
theorem Fj.dB {hp:Hp}{i j top:Nat}{a:Value}(h:Fj hp i a j []):OB hp i top=top:=by
 unfold OB
 rw [Gb h.o];rfl
theorem lG {φ:Dm.Ren}{L:Dm.Loc}{a b x y:Value}{fz:Nat×Nat}(h0:L.off=0)(hlim:L.Dp=2)(hesz:L.BO=0)(hx:V φ a x)(hy:V φ b y)(hfz:fz.2≤fz.1) :
  DH φ L (.cells true DR [a,b]) (some (.cells #[x,y] 65 fz)):=by
 refine ⟨by rw [hesz];decide,_,_,fz,rfl,by rw [hlim];rfl,by rw [h0,hlim];exact Nat.le_refl 2, ?_,⟨fun _=>hfz,(fun e=>by cases e),fun _ _=>⟨2,by decide,by decide,h0, .inr hlim.symm⟩⟩⟩
 rw [h0]
 exact .cons _ _ _ _ hx (.cons _ _ _ _ hy .nil)
def yf (hp:Hp)(i top:Nat)(s:List UInt8):BZ:= [(OB hp i top,none),(top,Rv (Sj hp i ++ s)),(i,EO (.pointer (some ⟨i,0,none⟩)) (AR top (Sj hp i ++ s)))]
def TM:BG:= .det (fun args hp _=>match args with | [.pointer (some ⟨i,0,none⟩), .string ⟨⟨s⟩⟩]=>(∃a j l,Fj hp i a j l∧l.length+s.length≤140737488355328) | _=>False)
 (fun args hp top=>match args with | [.pointer (some ⟨i,_,_⟩),s]=>(.tuple ⟨[.int .i64 (strOf s).length, .nilIface]⟩,yf hp i top (strOf s),top+1) | _=>(undef, [],top))
theorem qw {φ:Dm.Ren}{top:Nat}{l:List UInt8}{v:Value}(h:V φ (AR top l) v):∃ao n c,v= .slice ao n c:=by
 cases l with
 |nil=>cases h;exact ⟨_,_,_,rfl⟩
 |cons a l=>cases h;exact ⟨_,_,_,rfl⟩
theorem vX:Aw Tryz.prog 30 TM:=by
 refine ⟨⟨_,Xt.toFTOk⟩,fun args hp top hpre=> ?_⟩
 match args,hpre with
 | [.pointer (some ⟨i,0,none⟩), .string ⟨⟨s⟩⟩],⟨a,j,l,hB,hroom⟩=>
 intro φ own w args' hargs H htop
 cases hargs with
 |cons _ _ _ _ hx hl=>
 cases hl with
 |cons _ _ _ _ hy hl=>
 cases hl
 cases hy
 cases hx with
 |ptr _ _ L hL=>
 obtain ⟨h0,hlim,hesz,_⟩:=N2 H hB.o hL
 have hc:=Px.2 [.pointer (some ⟨i,0,none⟩)] hp top ⟨a,AR j l,hB.o,hB.a⟩ φ own w [.pointer (some ⟨L.BR,L.off+0,none⟩)] (.cons _ _ _ _ (.ptr i 0 L hL) .nil) H htop
 rw [h0] at hc ⊢
 simp only [Ba,Gb hB.o] at hc ⊢
 have hi:i < top:=H.lt htop hB.o
 have hit:top≠i:=by omega
 refine Calls.mono (oE L.BR ⟨⟨s⟩⟩ w (fun w1=> ∃φ1,φ.le φ1∧HR φ1 own (hp.Al [(i,EO (.pointer (some ⟨i,0,none⟩)) (AR j l))]) w1∧Dm.K own w w1∧∀j,top≤j→φ1 j=none)
  (fun w'=> ∃φ',FD φ own w (.tuple ⟨[.int .i64 s.length, .nilIface]⟩) (hp.Al (yf hp i top s)) (top+1) (.tuple ⟨[.int .i64 s.length, .nilIface]⟩) w' φ') ?_ ?_) ?_
 ·refine Calls.mono hc ?_
  rintro e w' ⟨v,hp',top',v',φ',rfl,⟨rfl,rfl,rfl⟩,k⟩
  have kv:=k.v
  cases kv with
  |tuple _ x hx=>
  cases hx
  exact ⟨rfl,φ',k.le,k.hr,k.k,k.top⟩
 ·rintro w1 ⟨φ1,hle,H1,hk1,htop1⟩
  have hL1:=hle _ _ hL
  generalize hhp1:hp.Al [(i,EO (.pointer (some ⟨i,0,none⟩)) (AR j l))] = hp1 at H1
  have g1:hp1 i=EO (.pointer (some ⟨i,0,none⟩)) (AR j l):=by subst hhp1;simp only [CA,DQ,Hp.set,if_true]
  have g2:hp1 j=Rv l:=by subst hhp1;simp only [CA,DQ,Hp.set,if_neg hB.ne];exact hB.b
  obtain ⟨_,_,_,x1,y1,fz1,hh1,va1,vb1,hfz1⟩:=N2 H1 g1 hL1
  obtain ⟨v',w2,φ2,ha,k2⟩:=fT (P:=Tryz.prog) H1 htop1 (r:=60) (A7 _ _ CQ) rfl (A7 _ _ B2) rfl (A7 _ _ EK) rfl rfl kF XS gW (by decide) g2 vb1 hroom
  obtain ⟨ao,n,c,rfl⟩:=qw k2.v
  have hL2:=k2.le _ _ hL1
  have g3:(hp1.Al (CP j l top (uf ua (l ++ s)))) i=EO (.pointer (some ⟨i,0,none⟩)) (AR j l):=by
   rw [Md g2]
   simp only [Hp.set,if_neg hit.symm,if_neg hB.ne.symm];exact g1
  obtain ⟨_,_,_,x2,y2,fz2,hh2,va2,vb2,hfz2⟩:=N2 k2.hr g3 hL2
  refine ⟨y1,ao,n,c,w2,y2,by simp [World.cell?,hh1],ha,by simp [World.cell?,hh2],by simp [World.frozen?,hh2];omega,φ2, ?_⟩
  have e1:(w2.setCell ⟨L.BR,1,none⟩ (.slice ao n c)).heap[L.BR]? = some (.cells #[x2, .slice ao n c] 65 fz2):=by
   simp [World.setCell,Array.getElem?_modify,hh2]
  have e2:∀k,k≠L.BR→(w2.setCell ⟨L.BR,1,none⟩ (.slice ao n c)).heap[k]? = w2.heap[k]? :=fun k hk=>by
   simp only [World.setCell,Array.getElem?_modify]
   rw [if_neg (Ne.symm hk)]
  have e3:(w2.setCell ⟨L.BR,1,none⟩ (.slice ao n c)).heap.size=w2.heap.size:=by simp [World.setCell]
  refine ⟨fun k M hM=>k2.le _ _ (hle _ _ hM), .tuple _ _ (.cons _ _ _ _ (.int _ _) (.cons _ _ _ _ .nili .nil)), ?_,(hk1.trans k2.k).trans ⟨Nat.le_of_eq e3.symm,fun k _ hn=>e2 k fun e=>hn (e ▸ k2.hr.DC i _ L g3 rfl hL2),rfl,rfl,rfl⟩,k2.top⟩
  refine (k2.hr.put i _ (.cells true DR [.pointer (some ⟨i,0,none⟩),AR top (l ++ s)]) L g3 rfl hL2 e3 e2 (by rw [e1];exact lG h0 hlim hesz va2 k2.v hfz2)).sub fun k o hk=> ?_
  rw [Md g2]
  simp only [yf,hB.gx,CA,DQ,Hp.set,Hp.Ij] at hk ⊢
  by_cases ki:k=i
  ·subst ki
   simp only [if_true] at hk ⊢
   exact hk
  ·simp only [if_neg ki] at hk ⊢
   by_cases kt:k=top
   ·subst kt;simp only [if_true] at hk ⊢;exact hk
   ·simp only [if_neg kt] at hk ⊢
    have hk0:hp1 k=hp k:=by subst hhp1;simp only [CA,DQ,Hp.set,if_neg ki]
    by_cases hl:l= []
    ·subst hl
     rw [hB.dB] at hk
     simp only [if_neg kt] at hk
     by_cases kj:k=j
     ·subst kj
      have:hp k=none:=hB.b
      rw [this] at hk;cases hk
     ·rw [if_neg kj,hk0];exact hk
    ·rw [hB.kU hl] at hk
     by_cases kj:k=j
     ·rw [if_pos kj] at hk;cases hk
     ·rw [if_neg kj] at hk ⊢;rw [hk0];exact hk
 ·rintro e w' ⟨rfl,φ',k⟩
  exact ⟨_,_,_,_,φ',rfl,⟨rfl,rfl,rfl⟩,k⟩
end Go.Proofs.YthpibnpeaidabaaGreatDoor.Dm
