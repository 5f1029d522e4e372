/- strings.SplitN at a blank, strings.Cut at a new line, slices.Index of texts: the library's contracts. -/
import Derived.Test.YthpibnpeaidabaaGreatDoorTP2
import Derived.Lib.Split
import Derived.Lib.IndexMore
set_option linter.unusedSimpArgs false
set_option linter.unusedVariables false
namespace Go.Proofs.YthpibnpeaidabaaGreatDoor.Dm
open Go.Dm
set_option maxHeartbeats 16000000
set_option maxRecDepth 20000
def Je (s:List UInt8):Nat:=min 7 (s.length+1)
def Iw (s:List UInt8):List (List UInt8):=Lib.splitK [32] 0 (Je s - 1) s
def BT (s:List UInt8):List Value:=(Iw s).map (fun x=>Value.string ⟨⟨x⟩⟩) ++ List.replicate (Je s - (Iw s).length) (.string ⟨⟨[]⟩⟩)
def Dz (s:List UInt8)(top:Nat):Value:= .slice (some ⟨top,0,none⟩) (Iw s).length (Je s)
def HL:BO:= .det (fun args hp _=>match args with | [.string ⟨⟨s⟩⟩, .string ⟨⟨sep⟩⟩, .int .i64 n]=>s.length < 4294967281∧sep= [32]∧n=7∧∃m,hp 2=some (KI 3 (.int .i64 m)) | _=>False)
 (fun args _ top=>match args with | [s,_,_]=>(Dz (strOf s) top, [(top,some (.cells true 1 (BT (strOf s))))],top+1) | _=>(undef, [],top))
theorem JA (sep:List UInt8)(sv:Nat):∀(k:Nat) (s:List UInt8),1≤(Lib.splitK sep sv k s).length∧(Lib.splitK sep sv k s).length≤k+1
 |0,s=>by simp [Lib.splitK]
 |k+1,s=>by
  unfold Lib.splitK
  split
  ·simp
  ·have:=JA sep sv k (s.drop ((Lib.index s sep).toNat+sep.length))
   simp only [List.length_cons];omega
theorem LM (s:List UInt8):1≤(Iw s).length∧(Iw s).length≤Je s∧Je s≤7:=by
 have:=JA [32] 0 (Je s - 1) s
 unfold Iw
 have h2:1≤Je s∧Je s≤7:=by unfold Je;omega
 omega
theorem Ve {hp:Hp}{b:Nat}{s:List UInt8}(h:hp b=some (.cells true 1 (BT s))):Br Ah hp (Dz s b) (Iw s):=by
 have hl:=LM s
 refine .rows b 0 (Je s) true (BT s) (Iw s) h ?_ ?_ ?_ ?_
 ·have e:Ah.flat (Iw s)=(Iw s).map (fun x=>Value.string ⟨⟨x⟩⟩):=by
   generalize Iw s=l
   induction l with
   |nil=>rfl
   |cons a l ih=>rw [Ax.CS,ih];rfl
  rw [e,List.drop_zero]
  show (BT s).take ((Iw s).length * 1)=_
  unfold BT
  rw [Nat.mul_one,List.take_left' (by simp)]
 ·show 0+(Iw s).length * 1≤_
  simp [BT]
 ·omega
 ·omega
theorem WI {φ:Dm.Ren}:∀l:List (List UInt8),Vs φ (l.map fun x=>Value.string ⟨⟨x⟩⟩) (l.map fun x=>Value.string ⟨⟨x⟩⟩)
 | []=> .nil
 |a :: l=> .cons _ _ _ _ (.str _) (WI l)
theorem bJ {φ:Dm.Ren}:∀n:Nat,Vs φ (List.replicate n (Value.string ⟨⟨[]⟩⟩)) (List.replicate n (Value.string ⟨⟨[]⟩⟩))
 |0=> .nil
 |n+1=> .cons _ _ _ _ (.str _) (bJ n)
theorem Xa:BG Tryz.prog 38 HL:=by
 refine ⟨⟨_,VB.toFTOk⟩,fun args hp top hpre=> ?_⟩
 match args,hpre with
 | [.string ⟨⟨s⟩⟩, .string ⟨⟨sep⟩⟩, .int .i64 n],⟨hs,hsep,hn,m,hm⟩=>
 subst hsep hn
 intro φ own w args' ha H htop
 cases ha with
 |cons _ _ _ _ hx hl=>
 cases hx
 cases hl with
 |cons _ _ _ _ hx hl=>
 cases hx
 cases hl with
 |cons _ _ _ _ hx hl=>
 cases hx
 cases hl
 obtain ⟨v',hv,hc⟩:=I3 H (by omega) hm
 cases hv
 refine (Tryz.strings_SplitN ⟨⟨s⟩⟩ ⟨⟨[32]⟩⟩ 7 m w hs hc (by decide) (by decide) (by decide)).mono ?_
 rintro e w' ⟨rfl,rfl⟩
 have hsz:(⟨⟨s⟩⟩:ByteArray).size=s.length:=rfl
 rw [hsz]
 have hC:min 7 (s.length+1)=Je s:=rfl
 rw [hC]
 have hd:(Lib.splitB ⟨⟨[32]⟩⟩ 0 (Je s - 1) (⟨⟨s⟩⟩:ByteArray)).map (·.data.toList)=Iw s:=Lib.splitB_data ⟨⟨[32]⟩⟩ 0 (Je s - 1) (⟨⟨s⟩⟩:ByteArray)
 generalize Lib.splitB ⟨⟨[32]⟩⟩ 0 (Je s - 1) (⟨⟨s⟩⟩:ByteArray)=l at hd
 have hln:l.length=(Iw s).length:=by rw [←hd,List.length_map]
 have hle:=LM s
 have hcells:(Lib.cellsOf l (Je s)).toList=BT s:=by
  unfold Lib.cellsOf BT
  rw [←hd,List.length_map,List.map_map]
  show _ ++ _=_ ++ _
  congr 1
 have hcz:(Lib.cellsOf l (Je s)).size=Je s:=Lib.cellsOf_size (by omega)
 have hcl:(BT s).length=Je s:=by rw [←hcells,Array.length_toList,hcz]
 have hok:Da φ ⟨w.heap.size,0,1,Je s⟩ (.cells true 1 (BT s)) (some (.cells (Lib.cellsOf l (Je s)) 9)):=by
  refine ⟨rfl,_,9,(0,0),rfl,hcz,by show 0+(BT s).length≤Je s;omega, ?_,⟨fun _=>Nat.le_refl _,(fun e=>by cases e),fun _ h=>absurd h (by decide)⟩⟩
  rw [List.drop_zero,hcells,List.take_of_length_le (by omega)]
  unfold BT
  exact (WI _).append (bJ _)
 have HA:=H.alloc top _ _ _ w.drawn (htop top (Nat.le_refl _)) rfl hok
 refine ⟨Dz s top,hp.A0 [(top,some (.cells true 1 (BT s)))],top+1,_,φ.ext top ⟨w.heap.size,0,1,Je s⟩,rfl,⟨rfl,rfl,rfl⟩,⟨Dm.Ren.Dc (htop top (Nat.le_refl _)), ?_, ?_,K.alloc own w _ w.drawn rfl, ?_⟩⟩
 ·rw [hln]
  unfold Dz
  have:=V.slice (φ:=φ.ext top ⟨w.heap.size,0,1,Je s⟩) top 0 (Iw s).length (Je s) (Je s) ⟨w.heap.size,0,1,Je s⟩ (Dm.Ren.A8 ..) hle.2.1 (Nat.le_refl _) (by simp)
  exact this
 ·have e:hp.A0 [(top,some (.cells true 1 (BT s)))] = hp.H3 top (.cells true 1 (BT s)):=by
   funext j;simp only [AE,AH,Hp.set,Hp.H3]
  rw [e];exact HA
 ·intro j hj
  have:¬j=top:=by omega
  simp only [Dm.Ren.ext,this,if_false]
  exact htop j (by omega)
def E9 (s:List UInt8):List UInt8×List UInt8×Bool:=Lib.cut s [10]
def bp (s:List UInt8):Value:= .tuple ⟨[.string ⟨⟨(E9 s).1⟩⟩, .string ⟨⟨(E9 s).2.1⟩⟩, .bool (E9 s).2.2]⟩
def I5:BO:= .pure (fun args hp=>match args with | [.string ⟨⟨s⟩⟩, .string ⟨⟨sep⟩⟩]=>s.length < 4294967281∧sep= [10]∧∃m,hp 2=some (KI 3 (.int .i64 m)) | _=>False) (fun args _=>match args with | [s,_]=>bp (strOf s) | _=>undef)
theorem YL:BG Tryz.prog 43 I5:=by
 refine ⟨⟨_,VX.toFTOk⟩,fun args hp hpre top=> ?_⟩
 match args,hpre with
 | [.string ⟨⟨s⟩⟩, .string ⟨⟨sep⟩⟩],⟨hs,hsep,m,hm⟩=>
 subst hsep
 refine Ab.Mw rfl fun φ own w args' ha H=> ?_
 cases ha with
 |cons _ _ _ _ hx hl=>
 cases hx
 cases hl with
 |cons _ _ _ _ hx hl=>
 cases hx
 cases hl
 obtain ⟨v',hv,hc⟩:=I3 H (by omega) hm
 cases hv
 refine (Tryz.strings_Cut ⟨⟨s⟩⟩ ⟨⟨[10]⟩⟩ m w hs hc).mono ?_
 rintro e w' ⟨rfl,n,rfl⟩
 exact ⟨rfl,⟨rfl,rfl,rfl,Nat.le_refl _,fun i hi=>rfl⟩⟩
def JB:List (List UInt8)→List UInt8→Nat→Int
 | [],_,_=> -1
 |y :: l,x,i=>if x=y then (i:Int) else JB l x (i+1)
def Q4 (l:List (List UInt8)):List Value:=l.map fun x=> .string ⟨⟨x⟩⟩
def rU (hp:Hp)(v:Value):List (List UInt8):=match v with
 | .slice (some ⟨b,_,_⟩) _ _=>(match hp b with
  |some (.cells _ _ vs)=>vs.map strOf
  |_=> [])
 |_=> []
def bu (hp:Hp)(v:Value)(l:List (List UInt8)):Prop:= ∃b rw z,v= .slice (some ⟨b,0,none⟩) l.length l.length∧hp b=some (.cells rw z (Q4 l))∧l.length≤1000
theorem bu.rd {hp:Hp}{v:Value}{l:List (List UInt8)}(h:bu hp v l):rU hp v=l:=by
 obtain ⟨b,rw,z,rfl,hb,_⟩:=h
 simp only [rU,hb,Q4,List.map_map]
 have:∀m:List (List UInt8),m.map (strOf ∘ fun x=>Value.string ⟨⟨x⟩⟩)=m:=fun m=>by
  induction m with
  |nil=>rfl
  |cons a m ih=>rw [List.map_cons,ih];rfl
 exact this l
def Hh:BO:= .pure (fun args hp=>match args with | [v, .string ⟨⟨_⟩⟩]=> ∃l,bu hp v l | _=>False) (fun args hp=>match args with | [v,x]=> .int .i64 (JB (rU hp v) (strOf x) 0) | _=>undef)
def ff (hp:Hp)(top b:Nat)(x:List UInt8)(n k:Nat):SS:=⟨[(0, .slice (some ⟨b,0,none⟩) n n,true),(1, .string ⟨⟨x⟩⟩,true),(7, .int .i64 (n:Int),true),(8, .int .i64 (k:Int),true)],hp.A0 [],top+0⟩
theorem Xr {l:List (List UInt8)}{k:Nat}(h:k < l.length):((Q4 l)[k]?).getD undef= .string ⟨⟨at' l k⟩⟩:=by
 unfold Q4
 rw [List.getElem?_map,List.getElem?_eq_getElem h,Dt _ _ h];rfl
theorem mx:BG Tryz.prog 41 Hh:=by
 refine .HS Ob ?_ ?_
 ·intro args hp h
  match args,h with
  | [v, .string ⟨⟨x⟩⟩],_=>rfl
 intro args hp hpre top hcl hsc
 match args,hpre with
 | [v, .string ⟨⟨x⟩⟩],⟨l,hA⟩=>
 simp only [hA.rd,BV]
 obtain ⟨b,rw,z,rfl,hb,hn⟩:=hA
 have hbt:b < top:=hcl.lt _ _ hb
 have hlen:(Q4 l).length=l.length:=List.length_map ..
 have ix:∀ {h':Hp} {k:Nat},k < l.length→A1 tt.get 58 (.slice (some ⟨b,0,none⟩) l.length l.length) (.int .i64 (k:Int))=(.pointer (some ⟨b,k,none⟩),True):=fun {h'} {k} hk=>by
  unfold A1
  simp only [B2,C6,Int.toNat_natCast]
  have:(k:Int) < (l.length:Int):=by omega
  simp [this,M4,intOf,nU]
 have sl:∀ {h':Hp},DY tt.get h' 58 (.slice (some ⟨b,0,none⟩) l.length l.length)=(.int .i64 (l.length:Int),True):=fun {h'}=>by
  unfold DY
  simp only [B2,Fv,DW,PW];rfl
 refine Ab.BF BN Ob rfl 19 rfl [.tmp 4] rfl (show 2≤19 by decide) ?_
 refine CW.vc E7 [0,1,4,5,7,8,9,16] (by kernel_rfl) ?_
 (repeat ((try refine Vc.mk' ?_);simp only [go_sem,reduceIte,reduceCtorEq,Nat.reduceAdd,Nat.reduceMul,Nat.reduceSub,Nat.reduceLT,Nat.reduceLeDiff,Nat.reduceEqDiff,Int.reduceEq,Int.reduceLT,Int.reduceLE,Int.reduceNe,sl]))
 refine CW.Bx (ff hp top b x l.length) (fun k=>k≤l.length∧JB l x 0=JB (l.drop k) x k) (fun k=>l.length - k) 0 ⟨Nat.zero_le _,rfl⟩ ?_ ?_
 ·exact (by refine A9.mk' [] hcl (by simp) (by simp) rfl (AZ ?_) ?_ ?_ <;> simp [Ag,BJ,BH,Am,AP,AF,AJ.nil,AJ.cons,AB,AD,AM,AA,AQ,AX,AO,Ax.AL,AG,AV,AE,AH,AK.set,AK.Ao,AK.refl,Af hbt])
 ·rintro k ⟨hk,hm⟩
  by_cases hlt:k < l.length
  ·rw [UQ hlt,JB] at hm
   have kk:Ae .i64 ((k:Int)+1)=((k+1:Nat):Int):=GO hlt (by omega)
   have hlt':(k:Int) < (l.length:Int):=by omega
   have g:=Xr hlt
   have ixk:=ix (h':=hp) hlt
   by_cases c:x=at' l k
   ·rw [if_pos c] at hm
    have q:NN x (at' l k)=true:=by rw [←c,GD]
    refine CW.vc E7 [0,1,4,5,7,8,9,16] (by kernel_rfl) ?_
    (repeat ((try refine Vc.mk' ?_);simp only [go_sem,reduceIte,reduceCtorEq,Nat.reduceAdd,Nat.reduceMul,Nat.reduceSub,Nat.reduceLT,Nat.reduceLeDiff,Nat.reduceEqDiff,Int.reduceEq,Int.reduceLT,Int.reduceLE,Int.reduceNe,ff,hlt,hlt',ixk,hb,g,hlen,q]))
    rw [hm]
   ·rw [if_neg c] at hm
    have q:NN x (at' l k)=false:=by rw [Gb];simpa using c
    refine CW.vc E7 [0,1,4,5,7,8,9,16] (by kernel_rfl) ?_
    (repeat ((try refine Vc.mk' ?_);simp only [go_sem,reduceIte,reduceCtorEq,Nat.reduceAdd,Nat.reduceMul,Nat.reduceSub,Nat.reduceLT,Nat.reduceLeDiff,Nat.reduceEqDiff,Int.reduceEq,Int.reduceLT,Int.reduceLE,Int.reduceNe,ff,hlt,hlt',ixk,hb,g,hlen,q]))
    exact .mk (k+1) ⟨hlt,hm⟩ (by omega) ((by refine A9.mk' [] hcl (by simp) (by simp) rfl (AZ ?_) ?_ ?_ <;> simp [Ag,BJ,BH,Am,AP,AF,AJ.nil,AJ.cons,AB,AD,AM,AA,AQ,AX,AO,Ax.AL,AG,AV,AE,AH,AK.set,AK.Ao,AK.refl,Af hbt,kk]))
  ·have hk2:k=l.length:=by omega
   subst hk2
   rw [List.drop_length,JB] at hm
   refine CW.vc E7 [0,1,4,5,7,8,9,16] (by kernel_rfl) ?_
   (repeat ((try refine Vc.mk' ?_);simp only [go_sem,reduceIte,reduceCtorEq,Nat.reduceAdd,Nat.reduceMul,Nat.reduceSub,Nat.reduceLT,Nat.reduceLeDiff,Nat.reduceEqDiff,Int.reduceEq,Int.reduceLT,Int.reduceLE,Int.reduceNe,ff,Nat.lt_irrefl,Int.lt_irrefl,decide_false]))
   rw [hm]
end Go.Proofs.YthpibnpeaidabaaGreatDoor.Dm
