/- strings.SplitN at a blank, strings.Cut at a new line, slices.Index of texts: the library's contracts. -/
import Derived.Test.YthpibnpeaidabaaGreatDoorTP2
import Derived.Lib.Split
import Derived.Lib.IndexMore
set_option linter.unusedVariables false
namespace Go.Proofs.YthpibnpeaidabaaGreatDoor.Dm
open Go.Dm
set_option maxHeartbeats 16000000
set_option maxRecDepth 20000
/-! ### SplitN -/
/-- cut at the first k blanks -/
def wD:Nat→List UInt8→List (List UInt8)
 |0,s=> [s]
 |k+1,s=>Lib.splitK [32] 0 (k+1) s
def JK (s:List UInt8):Nat:=min 7 (s.length+1)
def JS (s:List UInt8):List (List UInt8):=Lib.splitK [32] 0 (JK s - 1) s
def BN (s:List UInt8):List Value:=(JS s).map (fun x=>Value.string ⟨⟨x⟩⟩) ++ List.replicate (JK s - (JS s).length) (.string ⟨⟨[]⟩⟩)
def DP (s:List UInt8)(top:Nat):Value:= .slice (some ⟨top,0,none⟩) (JS s).length (JK s)
def Gx:BB:= .det (fun args hp _=>match args with | [.string ⟨⟨s⟩⟩, .string ⟨⟨sep⟩⟩, .int .i64 n]=>s.length < 4294967281∧sep= [32]∧n=7∧∃m,hp 2=some (KP 3 (.int .i64 m)) | _=>False)
 (fun args _ top=>match args with | [s,_,_]=>(DP (strOf s) top, [(top,some (.cells true 1 (BN (strOf s))))],top+1) | _=>(undef, [],top))
theorem LW (sep:List UInt8)(sv:Nat):∀(k:Nat) (s:List UInt8),1≤(Lib.splitK sep sv k s).length∧(Lib.splitK sep sv k s).length≤k+1
 |0,s=>by simp [Lib.splitK]
 |k+1,s=>by
  unfold Lib.splitK
  split
  ·simp
  ·have:=LW sep sv k (s.drop ((Lib.index s sep).toNat+sep.length))
   simp only [List.length_cons];omega
theorem PR (s:List UInt8):1≤(JS s).length∧(JS s).length≤JK s∧JK s≤7:=by
 have:=LW [32] 0 (JK s - 1) s
 unfold JS
 have h2:1≤JK s∧JK s≤7:=by unfold JK;omega
 omega
theorem UC {hp:Hp}{b:Nat}{s:List UInt8}(h:hp b=some (.cells true 1 (BN s))):BQ AR hp (DP s b) (JS s):=by
 have hl:=PR s
 refine .rows b 0 (JK s) true (BN s) (JS s) h ?_ ?_ ?_ ?_
 ·have e:AR.flat (JS s)=(JS s).map (fun x=>Value.string ⟨⟨x⟩⟩):=by
   generalize JS s=l
   induction l with
   |nil=>rfl
   |cons a l ih=>rw [Be.B6,ih];rfl
  rw [e,List.drop_zero]
  show (BN s).take ((JS s).length * 1)=_
  unfold BN
  rw [Nat.mul_one,List.take_left' (by simp)]
 ·show 0+(JS s).length * 1≤_
  simp [BN]
 ·omega
 ·omega
theorem UO {φ:Dm.Ren}:∀l:List (List UInt8),Vs φ (l.map fun x=>Value.string ⟨⟨x⟩⟩) (l.map fun x=>Value.string ⟨⟨x⟩⟩)
 | []=> .nil
 |a :: l=> .cons _ _ _ _ (.str _) (UO l)
theorem bZ {φ:Dm.Ren}:∀n:Nat,Vs φ (List.replicate n (Value.string ⟨⟨[]⟩⟩)) (List.replicate n (Value.string ⟨⟨[]⟩⟩))
 |0=> .nil
 |n+1=> .cons _ _ _ _ (.str _) (bZ n)
theorem XE:A4 Tryz.prog 38 Gx:=by
 refine ⟨⟨_,Vg.toFTOk⟩,fun args hp top hpre=> ?_⟩
 match args,hpre with
 | [.string ⟨⟨s⟩⟩, .string ⟨⟨sep⟩⟩, .int .i64 n],⟨hs,hsep,hn,m,hm⟩=>
 subst hsep hn
 intro φ own w args' ha H htop
 cases ha with
 |cons _ _ _ _ hx hl=>
 cases hx
 cases hl with
 |cons _ _ _ _ hx hl=>
 cases hx
 cases hl with
 |cons _ _ _ _ hx hl=>
 cases hx
 cases hl
 obtain ⟨v',hv,hc⟩:=IM H (by omega) hm
 cases hv
 refine (Tryz.strings_SplitN ⟨⟨s⟩⟩ ⟨⟨[32]⟩⟩ 7 m w hs hc (by decide) (by decide) (by decide)).mono ?_
 rintro e w' ⟨rfl,rfl⟩
 have hsz:(⟨⟨s⟩⟩:ByteArray).size=s.length:=rfl
 rw [hsz]
 have hC:min 7 (s.length+1)=JK s:=rfl
 rw [hC]
 have hd:(Lib.splitB ⟨⟨[32]⟩⟩ 0 (JK s - 1) (⟨⟨s⟩⟩:ByteArray)).map (·.data.toList)=JS s:=Lib.splitB_data ⟨⟨[32]⟩⟩ 0 (JK s - 1) (⟨⟨s⟩⟩:ByteArray)
 generalize Lib.splitB ⟨⟨[32]⟩⟩ 0 (JK s - 1) (⟨⟨s⟩⟩:ByteArray)=l at hd
 have hln:l.length=(JS s).length:=by rw [←hd,List.length_map]
 have hle:=PR s
 have hcells:(Lib.cellsOf l (JK s)).toList=BN s:=by
  unfold Lib.cellsOf BN
  rw [←hd,List.length_map,List.map_map]
  show _ ++ _=_ ++ _
  congr 1
 have hcz:(Lib.cellsOf l (JK s)).size=JK s:=Lib.cellsOf_size (by omega)
 have hcl:(BN s).length=JK s:=by rw [←hcells,Array.length_toList,hcz]
 have hok:C2 φ ⟨w.heap.size,0,1,JK s⟩ (.cells true 1 (BN s)) (some (.cells (Lib.cellsOf l (JK s)) 9)):=by
  refine ⟨rfl,_,9,(0,0),rfl,hcz,by show 0+(BN s).length≤JK s;omega, ?_,⟨fun _=>Nat.le_refl _,(fun e=>by cases e),fun _ h=>absurd h (by decide)⟩⟩
  rw [List.drop_zero,hcells,List.take_of_length_le (by omega)]
  unfold BN
  exact (UO _).append (bZ _)
 have HA:=H.alloc top _ _ _ w.drawn (htop top (Nat.le_refl _)) rfl hok
 refine ⟨DP s top,hp.Am [(top,some (.cells true 1 (BN s)))],top+1,_,φ.ext top ⟨w.heap.size,0,1,JK s⟩,rfl,⟨rfl,rfl,rfl⟩,⟨Dm.Ren.C4 (htop top (Nat.le_refl _)), ?_, ?_,K.alloc own w _ w.drawn rfl, ?_⟩⟩
 ·rw [hln]
  unfold DP
  have:=V.slice (φ:=φ.ext top ⟨w.heap.size,0,1,JK s⟩) top 0 (JS s).length (JK s) (JK s) ⟨w.heap.size,0,1,JK s⟩ (Dm.Ren.Ay ..) hle.2.1 (Nat.le_refl _) (by simp)
  exact this
 ·have e:hp.Am [(top,some (.cells true 1 (BN s)))] = hp.H8 top (.cells true 1 (BN s)):=by
   funext j;simp only [Dj,JI,Hp.set,Hp.H8]
  rw [e];exact HA
 ·intro j hj
  have:¬j=top:=by omega
  simp only [Dm.Ren.ext,this,if_false]
  exact htop j (by omega)
/-! ### Cut -/
def oQ (s:List UInt8):List UInt8×List UInt8×Bool:=Lib.cut s [10]
def qe (s:List UInt8):Value:= .tuple ⟨[.string ⟨⟨(oQ s).1⟩⟩, .string ⟨⟨(oQ s).2.1⟩⟩, .bool (oQ s).2.2]⟩
def Zz:BB:= .pure (fun args hp=>match args with | [.string ⟨⟨s⟩⟩, .string ⟨⟨sep⟩⟩]=>s.length < 4294967281∧sep= [10]∧∃m,hp 2=some (KP 3 (.int .i64 m)) | _=>False) (fun args _=>match args with | [s,_]=>qe (strOf s) | _=>undef)
theorem bG:A4 Tryz.prog 43 Zz:=by
 refine ⟨⟨_,UU.toFTOk⟩,fun args hp hpre top=> ?_⟩
 match args,hpre with
 | [.string ⟨⟨s⟩⟩, .string ⟨⟨sep⟩⟩],⟨hs,hsep,m,hm⟩=>
 subst hsep
 refine AK.MI rfl fun φ own w args' ha H=> ?_
 cases ha with
 |cons _ _ _ _ hx hl=>
 cases hx
 cases hl with
 |cons _ _ _ _ hx hl=>
 cases hx
 cases hl
 obtain ⟨v',hv,hc⟩:=IM H (by omega) hm
 cases hv
 refine (Tryz.strings_Cut ⟨⟨s⟩⟩ ⟨⟨[10]⟩⟩ m w hs hc).mono ?_
 rintro e w' ⟨rfl,n,rfl⟩
 exact ⟨rfl,⟨rfl,rfl,rfl,Nat.le_refl _,fun i hi=>rfl⟩⟩
/-! ### Index -/
/-- the place of a text; -1:there is none -/
def Me:List (List UInt8)→List UInt8→Nat→Int
 | [],_,_=> -1
 |y :: l,x,i=>if x=y then (i:Int) else Me l x (i+1)
def SP (l:List (List UInt8)):List Value:=l.map fun x=> .string ⟨⟨x⟩⟩
def tf (hp:Hp)(v:Value):List (List UInt8):=match v with
 | .slice (some ⟨b,_,_⟩) _ _=>(match hp b with
  |some (.cells _ _ vs)=>vs.map strOf
  |_=> [])
 |_=> []
def cK (hp:Hp)(v:Value)(l:List (List UInt8)):Prop:= ∃b rw z,v= .slice (some ⟨b,0,none⟩) l.length l.length∧hp b=some (.cells rw z (SP l))∧l.length≤1000
theorem cK.rd {hp:Hp}{v:Value}{l:List (List UInt8)}(h:cK hp v l):tf hp v=l:=by
 obtain ⟨b,rw,z,rfl,hb,_⟩:=h
 simp only [tf,hb,SP,List.map_map]
 have:∀m:List (List UInt8),m.map (strOf ∘ fun x=>Value.string ⟨⟨x⟩⟩)=m:=fun m=>by
  induction m with
  |nil=>rfl
  |cons a m ih=>rw [List.map_cons,ih];rfl
 exact this l
def IB:BB:= .pure (fun args hp=>match args with | [v, .string ⟨⟨_⟩⟩]=> ∃l,cK hp v l | _=>False) (fun args hp=>match args with | [v,x]=> .int .i64 (Me (tf hp v) (strOf x) 0) | _=>undef)
def iP (hp:Hp)(top b:Nat)(x:List UInt8)(n k:Nat):SS:=⟨[(0, .slice (some ⟨b,0,none⟩) n n,true),(1, .string ⟨⟨x⟩⟩,true),(7, .int .i64 (n:Int),true),(8, .int .i64 (k:Int),true)],hp.Am [],top+0⟩
theorem Vw {l:List (List UInt8)}{k:Nat}(h:k < l.length):((SP l)[k]?).getD undef= .string ⟨⟨at' l k⟩⟩:=by
 unfold SP
 rw [List.getElem?_map,List.getElem?_eq_getElem h,Cd _ _ h];rfl
theorem oX:A4 Tryz.prog 41 IB:=by
 refine .Hg OJ ?_ ?_
 ·intro args hp h
  match args,h with
  | [v, .string ⟨⟨x⟩⟩],_=>rfl
 intro args hp hpre top hcl hsc
 match args,hpre with
 | [v, .string ⟨⟨x⟩⟩],⟨l,hA⟩=>
 simp only [hA.rd,BV]
 obtain ⟨b,rw,z,rfl,hb,hn⟩:=hA
 have hbt:b < top:=hcl.lt _ _ hb
 have hlen:(SP l).length=l.length:=List.length_map ..
 have ix:∀ {h':Hp} {k:Nat},k < l.length→Al tt.get 58 (.slice (some ⟨b,0,none⟩) l.length l.length) (.int .i64 (k:Int))=(.pointer (some ⟨b,k,none⟩),True):=fun {h'} {k} hk=>by
  unfold Al
  simp only [Br,CX]
  have:(k:Int) < (l.length:Int):=by omega
  simp [this,HK,intOf,lA]
 have sl:∀ {h':Hp},Cy tt.get h' 58 (.slice (some ⟨b,0,none⟩) l.length l.length)=(.int .i64 (l.length:Int),True):=fun {h'}=>by
  unfold Cy
  simp only [Br,Ex,CD,LY];rfl
 refine AK.A5 BC OJ rfl 19 rfl [.tmp 4] rfl (show 2≤19 by decide) ?_
 refine CW.vc EY [0,1,4,5,7,8,9,16] (by kernel_rfl) ?_
 (repeat ((try refine Vc.mk' ?_);simp only [go_sem,sl]))
 refine CW.Bp (iP hp top b x l.length) (fun k=>k≤l.length∧Me l x 0=Me (l.drop k) x k) (fun k=>l.length - k) 0 ⟨Nat.zero_le _,rfl⟩ ?_ ?_
 ·exact (by refine Ar.mk' [] hcl (by simp) (by simp) rfl (AG ?_) ?_ ?_ <;> simp [Ac,Ba,A3,AA.nil,AH.refl,AP hbt])
 ·rintro k ⟨hk,hm⟩
  by_cases hlt:k < l.length
  ·rw [VQ hlt,Me] at hm
   have kk:AL .i64 ((k:Int)+1)=((k+1:Nat):Int):=Fp hlt (by omega)
   have hlt':(k:Int) < (l.length:Int):=by omega
   have g:=Vw hlt
   have ixk:=ix (h':=hp) hlt
   by_cases c:x=at' l k
   ·rw [if_pos c] at hm
    have q:NG x (at' l k)=true:=by rw [←c,Ix]
    refine CW.vc EY [0,1,4,5,7,8,9,16] (by kernel_rfl) ?_
    (repeat ((try refine Vc.mk' ?_);simp only [go_sem,iP,hlt,hlt',ixk,hb,g,hlen,q]))
    rw [hm]
   ·rw [if_neg c] at hm
    have q:NG x (at' l k)=false:=by rw [Gj];simpa using c
    refine CW.vc EY [0,1,4,5,7,8,9,16] (by kernel_rfl) ?_
    (repeat ((try refine Vc.mk' ?_);simp only [go_sem,iP,hlt,hlt',ixk,hb,g,hlen,q]))
    exact .mk (k+1) ⟨hlt,hm⟩ (by omega) ((by refine Ar.mk' [] hcl (by simp) (by simp) rfl (AG ?_) ?_ ?_ <;> simp [Ac,Ba,A3,AA.nil,AH.refl,AP hbt,kk]))
  ·have hk2:k=l.length:=by omega
   subst hk2
   rw [List.drop_length,Me] at hm
   refine CW.vc EY [0,1,4,5,7,8,9,16] (by kernel_rfl) ?_
   (repeat ((try refine Vc.mk' ?_);simp only [go_sem,iP,Int.lt_irrefl,decide_false]))
   rw [hm]
end Go.Proofs.YthpibnpeaidabaaGreatDoor.Dm
