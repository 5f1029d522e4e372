import Derived.Test.YthpibnpeaidabaaGreatDoorTP2
import Derived.Lib.Split
import Derived.Lib.IndexMore
set_option linter.unusedVariables false
namespace Go.Proofs.YthpibnpeaidabaaGreatDoor.Dm
open Go.Dm
set_option maxHeartbeats 16000000
set_option maxRecDepth 20000
def spK:Nat→List UInt8→List (List UInt8)
 |0,s=> [s]
 |k+1,s=>Lib.splitK [32] 0 (k+1) s
def Ke (s:List UInt8):Nat:=min 7 (s.length+1)
def Jo (s:List UInt8):List (List UInt8):=Lib.splitK [32] 0 (Ke s - 1) s
def Bc (s:List UInt8):List Value:=(Jo s).map (fun x=>Value.string ⟨⟨x⟩⟩) ++ List.replicate (Ke s - (Jo s).length) (.string ⟨⟨[]⟩⟩)
def D6 (s:List UInt8)(top:Nat):Value:= .slice (some ⟨top,0,none⟩) (Jo s).length (Ke s)
def H7:BG:= .det (fun args hp _=>match args with | [.string ⟨⟨s⟩⟩, .string ⟨⟨sep⟩⟩, .int .i64 n]=>s.length < 4294967281∧sep= [32]∧n=7∧∃m,hp 2=some (Lb 3 (.int .i64 m)) | _=>False)
 (fun args _ top=>match args with | [s,_,_]=>(D6 (strOf s) top, [(top,some (.cells true 1 (Bc (strOf s))))],top+1) | _=>(undef, [],top))
theorem JR (sep:List UInt8)(sv:Nat):∀(k:Nat) (s:List UInt8),1≤(Lib.splitK sep sv k s).length∧(Lib.splitK sep sv k s).length≤k+1
 |0,s=>by simp [Lib.splitK]
 |k+1,s=>by
  unfold Lib.splitK
  split
  ·simp
  ·have:=JR sep sv k (s.drop ((Lib.index s sep).toNat+sep.length))
   simp only [List.length_cons];omega
theorem Lu (s:List UInt8):1≤(Jo s).length∧(Jo s).length≤Ke s∧Ke s≤7:=by
 have:=JR [32] 0 (Ke s - 1) s
 unfold Jo
 have h2:1≤Ke s∧Ke s≤7:=by unfold Ke;omega
 omega
theorem Xj {hp:Hp}{b:Nat}{s:List UInt8}(h:hp b=some (.cells true 1 (Bc s))):BM AU hp (D6 s b) (Jo s):=by
 have hl:=Lu s
 refine .rows b 0 (Ke s) true (Bc s) (Jo s) h ?_ ?_ ?_ ?_
 ·have e:AU.flat (Jo s)=(Jo s).map (fun x=>Value.string ⟨⟨x⟩⟩):=by
   generalize Jo s=l
   induction l with
   |nil=>rfl
   |cons a l ih=>rw [Bk.CB,ih];rfl
  rw [e,List.drop_zero]
  show (Bc s).take ((Jo s).length * 1)=_
  unfold Bc
  rw [Nat.mul_one,List.take_left' (by simp)]
 ·show 0+(Jo s).length * 1≤_
  simp [Bc]
 ·omega
 ·omega
theorem X9 {φ:Dm.Ren}:∀l:List (List UInt8),Vs φ (l.map fun x=>Value.string ⟨⟨x⟩⟩) (l.map fun x=>Value.string ⟨⟨x⟩⟩)
 | []=> .nil
 |a :: l=> .cons _ _ _ _ (.str _) (X9 l)
theorem fx {φ:Dm.Ren}:∀n:Nat,Vs φ (List.replicate n (Value.string ⟨⟨[]⟩⟩)) (List.replicate n (Value.string ⟨⟨[]⟩⟩))
 |0=> .nil
 |n+1=> .cons _ _ _ _ (.str _) (fx n)
theorem Yj:Aw Tryz.prog 38 H7:=by
 refine ⟨⟨_,Xy.toFTOk⟩,fun args hp top hpre=> ?_⟩
 match args,hpre with
 | [.string ⟨⟨s⟩⟩, .string ⟨⟨sep⟩⟩, .int .i64 n],⟨hs,hsep,hn,m,hm⟩=>
 subst hsep hn
 intro φ own w args' ha H htop
 cases ha with
 |cons _ _ _ _ hx hl=>
 cases hx
 cases hl with
 |cons _ _ _ _ hx hl=>
 cases hx
 cases hl with
 |cons _ _ _ _ hx hl=>
 cases hx
 cases hl
 obtain ⟨v',hv,hc⟩:=Jn H (by omega) hm
 cases hv
 refine (Tryz.strings_SplitN ⟨⟨s⟩⟩ ⟨⟨[32]⟩⟩ 7 m w hs hc (by decide) (by decide) (by decide)).mono ?_
 rintro e w' ⟨rfl,rfl⟩
 have hsz:(⟨⟨s⟩⟩:ByteArray).size=s.length:=rfl
 rw [hsz]
 have hC:min 7 (s.length+1)=Ke s:=rfl
 rw [hC]
 have hd:(Lib.splitB ⟨⟨[32]⟩⟩ 0 (Ke s - 1) (⟨⟨s⟩⟩:ByteArray)).map (·.data.toList)=Jo s:=Lib.splitB_data ⟨⟨[32]⟩⟩ 0 (Ke s - 1) (⟨⟨s⟩⟩:ByteArray)
 generalize Lib.splitB ⟨⟨[32]⟩⟩ 0 (Ke s - 1) (⟨⟨s⟩⟩:ByteArray)=l at hd
 have hln:l.length=(Jo s).length:=by rw [←hd,List.length_map]
 have hle:=Lu s
 have hcells:(Lib.cellsOf l (Ke s)).toList=Bc s:=by
  unfold Lib.cellsOf Bc
  rw [←hd,List.length_map,List.map_map]
  show _ ++ _=_ ++ _
  congr 1
 have hcz:(Lib.cellsOf l (Ke s)).size=Ke s:=Lib.cellsOf_size (by omega)
 have hcl:(Bc s).length=Ke s:=by rw [←hcells,Array.length_toList,hcz]
 have hok:DH φ ⟨w.heap.size,0,1,Ke s⟩ (.cells true 1 (Bc s)) (some (.cells (Lib.cellsOf l (Ke s)) 9)):=by
  refine ⟨rfl,_,9,(0,0),rfl,hcz,by show 0+(Bc s).length≤Ke s;omega, ?_,⟨fun _=>Nat.le_refl _,(fun e=>by cases e),fun _ h=>absurd h (by decide)⟩⟩
  rw [List.drop_zero,hcells,List.take_of_length_le (by omega)]
  unfold Bc
  exact (X9 _).append (fx _)
 have HA:=H.alloc top _ _ _ w.drawn (htop top (Nat.le_refl _)) rfl hok
 refine ⟨D6 s top,hp.Al [(top,some (.cells true 1 (Bc s)))],top+1,_,φ.ext top ⟨w.heap.size,0,1,Ke s⟩,rfl,⟨rfl,rfl,rfl⟩,⟨Dm.Ren.DA (htop top (Nat.le_refl _)), ?_, ?_,K.alloc own w _ w.drawn rfl, ?_⟩⟩
 ·rw [hln]
  unfold D6
  have:=V.slice (φ:=φ.ext top ⟨w.heap.size,0,1,Ke s⟩) top 0 (Jo s).length (Ke s) (Ke s) ⟨w.heap.size,0,1,Ke s⟩ (Dm.Ren.A4 ..) hle.2.1 (Nat.le_refl _) (by simp)
  exact this
 ·have e:hp.Al [(top,some (.cells true 1 (Bc s)))] = hp.Ij top (.cells true 1 (Bc s)):=by
   funext j;simp only [CA,DQ,Hp.set,Hp.Ij]
  rw [e];exact HA
 ·intro j hj
  have:¬j=top:=by omega
  simp only [Dm.Ren.ext,this,if_false]
  exact htop j (by omega)
def KR (s:List UInt8):List UInt8×List UInt8×Bool:=Lib.cut s [10]
def xl (s:List UInt8):Value:= .tuple ⟨[.string ⟨⟨(KR s).1⟩⟩, .string ⟨⟨(KR s).2.1⟩⟩, .bool (KR s).2.2]⟩
def VJ:BG:= .pure (fun args hp=>match args with | [.string ⟨⟨s⟩⟩, .string ⟨⟨sep⟩⟩]=>s.length < 4294967281∧sep= [10]∧∃m,hp 2=some (Lb 3 (.int .i64 m)) | _=>False) (fun args _=>match args with | [s,_]=>xl (strOf s) | _=>undef)
theorem VU:Aw Tryz.prog 43 VJ:=by
 refine ⟨⟨_,W2.toFTOk⟩,fun args hp hpre top=> ?_⟩
 match args,hpre with
 | [.string ⟨⟨s⟩⟩, .string ⟨⟨sep⟩⟩],⟨hs,hsep,m,hm⟩=>
 subst hsep
 refine AK.Mu rfl fun φ own w args' ha H=> ?_
 cases ha with
 |cons _ _ _ _ hx hl=>
 cases hx
 cases hl with
 |cons _ _ _ _ hx hl=>
 cases hx
 cases hl
 obtain ⟨v',hv,hc⟩:=Jn H (by omega) hm
 cases hv
 refine (Tryz.strings_Cut ⟨⟨s⟩⟩ ⟨⟨[10]⟩⟩ m w hs hc).mono ?_
 rintro e w' ⟨rfl,n,rfl⟩
 exact ⟨rfl,⟨rfl,rfl,rfl,Nat.le_refl _,fun i hi=>rfl⟩⟩
def Js:List (List UInt8)→List UInt8→Nat→Int
 | [],_,_=> -1
 |y :: l,x,i=>if x=y then (i:Int) else Js l x (i+1)
def US (l:List (List UInt8)):List Value:=l.map fun x=> .string ⟨⟨x⟩⟩
def zZ (hp:Hp)(v:Value):List (List UInt8):=match v with
 | .slice (some ⟨b,_,_⟩) _ _=>(match hp b with
  |some (.cells _ _ vs)=>vs.map strOf
  |_=> [])
 |_=> []
def bS (hp:Hp)(v:Value)(l:List (List UInt8)):Prop:= ∃b rw z,v= .slice (some ⟨b,0,none⟩) l.length l.length∧hp b=some (.cells rw z (US l))∧l.length≤1000
theorem bS.rd {hp:Hp}{v:Value}{l:List (List UInt8)}(h:bS hp v l):zZ hp v=l:=by
 obtain ⟨b,rw,z,rfl,hb,_⟩:=h
 simp only [zZ,hb,US,List.map_map]
 have:∀m:List (List UInt8),m.map (strOf ∘ fun x=>Value.string ⟨⟨x⟩⟩)=m:=fun m=>by
  induction m with
  |nil=>rfl
  |cons a m ih=>rw [List.map_cons,ih];rfl
 exact this l
def Jb:BG:= .pure (fun args hp=>match args with | [v, .string ⟨⟨_⟩⟩]=> ∃l,bS hp v l | _=>False) (fun args hp=>match args with | [v,x]=> .int .i64 (Js (zZ hp v) (strOf x) 0) | _=>undef)
def kn (hp:Hp)(top b:Nat)(x:List UInt8)(n k:Nat):SS:=⟨[(0, .slice (some ⟨b,0,none⟩) n n,true),(1, .string ⟨⟨x⟩⟩,true),(7, .int .i64 (n:Int),true),(8, .int .i64 (k:Int),true)],hp.Al [],top+0⟩
theorem YQ {l:List (List UInt8)}{k:Nat}(h:k < l.length):((US l)[k]?).getD undef= .string ⟨⟨at' l k⟩⟩:=by
 unfold US
 rw [List.getElem?_map,List.getElem?_eq_getElem h,DV _ _ h];rfl
theorem ue:Aw Tryz.prog 41 Jb:=by
 refine .Ep Q6 ?_ ?_
 ·intro args hp h
  match args,h with
  | [v, .string ⟨⟨x⟩⟩],_=>rfl
 intro args hp hpre top hcl hsc
 match args,hpre with
 | [v, .string ⟨⟨x⟩⟩],⟨l,hA⟩=>
 simp only [hA.rd,Ba]
 obtain ⟨b,rw,z,rfl,hb,hn⟩:=hA
 have hbt:b < top:=hcl.lt _ _ hb
 have hlen:(US l).length=l.length:=List.length_map ..
 have ix:∀ {h':Hp} {k:Nat},k < l.length→Af tt.get 58 (.slice (some ⟨b,0,none⟩) l.length l.length) (.int .i64 (k:Int))=(.pointer (some ⟨b,k,none⟩),True):=fun {h'} {k} hk=>by
  unfold Af
  simp only [Bw,B2]
  have:(k:Int) < (l.length:Int):=by omega
  simp [this,Hs,intOf,iy]
 have sl:∀ {h':Hp},Cj tt.get h' 58 (.slice (some ⟨b,0,none⟩) l.length l.length)=(.int .i64 (l.length:Int),True):=fun {h'}=>by
  unfold Cj
  simp only [Bw,El,CM,Ll];rfl
 refine AK.Ar A7 Q6 rfl 19 rfl [.tmp 4] rfl (show 2≤19 by decide) ?_
 refine CW.vc Da [0,1,4,5,7,8,9,16] (by kernel_rfl) ?_
 (repeat ((try refine Vc.mk' ?_);simp only [go_sem,sl]))
 refine CW.Bs (kn hp top b x l.length) (fun k=>k≤l.length∧Js l x 0=Js (l.drop k) x k) (fun k=>l.length - k) 0 ⟨Nat.zero_le _,rfl⟩ ?_ ?_
 ·exact (by refine Ao.mk' [] hcl (by simp) (by simp) rfl (AG ?_) ?_ ?_ <;> simp [Ac,BU,Ax,AB.nil,AJ.refl,AM hbt])
 ·rintro k ⟨hk,hm⟩
  by_cases hlt:k < l.length
  ·rw [WY hlt,Js] at hm
   have kk:AP .i64 ((k:Int)+1)=((k+1:Nat):Int):=CL hlt (by omega)
   have hlt':(k:Int) < (l.length:Int):=by omega
   have g:=YQ hlt
   have ixk:=ix (h':=hp) hlt
   by_cases c:x=at' l k
   ·rw [if_pos c] at hm
    have q:OP x (at' l k)=true:=by rw [←c,IV]
    refine CW.vc Da [0,1,4,5,7,8,9,16] (by kernel_rfl) ?_
    (repeat ((try refine Vc.mk' ?_);simp only [go_sem,kn,hlt,hlt',ixk,hb,g,hlen,q]))
    rw [hm]
   ·rw [if_neg c] at hm
    have q:OP x (at' l k)=false:=by rw [HM];simpa using c
    refine CW.vc Da [0,1,4,5,7,8,9,16] (by kernel_rfl) ?_
    (repeat ((try refine Vc.mk' ?_);simp only [go_sem,kn,hlt,hlt',ixk,hb,g,hlen,q]))
    exact .mk (k+1) ⟨hlt,hm⟩ (by omega) ((by refine Ao.mk' [] hcl (by simp) (by simp) rfl (AG ?_) ?_ ?_ <;> simp [Ac,BU,Ax,AB.nil,AJ.refl,AM hbt,kk]))
  ·have hk2:k=l.length:=by omega
   subst hk2
   rw [List.drop_length,Js] at hm
   refine CW.vc Da [0,1,4,5,7,8,9,16] (by kernel_rfl) ?_
   (repeat ((try refine Vc.mk' ?_);simp only [go_sem,kn,Int.lt_irrefl,decide_false]))
   rw [hm]
end Go.Proofs.YthpibnpeaidabaaGreatDoor.Dm
