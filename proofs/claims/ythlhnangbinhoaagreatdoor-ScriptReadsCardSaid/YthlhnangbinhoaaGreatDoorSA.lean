/- Texts of the library and of the layers below: turned from the trace chapter by sport.py. -/
import Derived.Test.YthlhnangbinhoaaGreatDoorDmK
import Derived.Test.YthlhnangbinhoaaGreatDoorDmJ
import Derived.Test.YthlhnangbinhoaaGreatDoorDmX
import Derived.Test.YthlhnangbinhoaaGreatDoorShelf
import Derived.Lib.ItoaLen
import Derived.Lib.ItoaMem
import Derived.Shelf.Spec.TrailingZeros
import Derived.Lib.Split
import Derived.Lib.IndexMore
set_option linter.unusedVariables false
namespace Go.Proofs.YthlhnangbinhoaaGreatDoor.Dm
open Go.Dm
set_option maxHeartbeats 16000000
set_option maxRecDepth 100000
def JZ (k:IntKind)(l:List Nat):List Value:=l.map fun n:Nat=>Value.int k ((n:Nat):Int)
def xD (g:Nat)(k:IntKind)(l:List Nat):A8:= .cells false (BQ+4096 * l.length+g) (JZ k l)
theorem cW {φ:Ren}{k:IntKind}:∀ {l:List Nat} {m:List Value},Vs φ (JZ k l) m→m=JZ k l
 | [],_,h=>by cases h;rfl
 |n :: l,_,h=>by
  cases h with
  |cons _ x _ m hx hm=>
   cases hx
   rw [cW (l:=l) hm];rfl
theorem xE {φ:Ren}{own:Nat→Prop}{hp:Hp}{w:World}(H:HR φ own hp w){i g:Nat}{k:IntKind}{l:List Nat}(hg:g < 4096)(h:hp i=some (xD g k l)):∃ct cf,w.heap[g]? = some (.cells (JZ k l).toArray ct cf):=by
 obtain ⟨L,hL,he,c,t,fz,h1,h2,h3,h4,h5⟩:=H.obj _ _ h
 obtain ⟨h6,h7,h8⟩:=h5.2.1 rfl (by omega)
 have hlen:(JZ k l).length=l.length:=by simp [JZ]
 have hb:L.BT=g:=by omega
 have hm:L.PY=l.length:=by omega
 rw [hb] at h1
 refine ⟨t,fz, ?_⟩
 rw [h1]
 have hv:=cW h4
 rw [h7,List.drop_zero,hlen,←hm,←h2] at hv
 have e:c.toList.take c.size=c.toList:=List.take_of_length_le (by simp)
 rw [e] at hv
 congr 2
 rw [←hv]
theorem K.RG {w w':World}(h:Go.RowKit.Below w.heap.size w w'):K (fun b=>w.heap.size≤b) w w':=⟨h.size,fun b hb _=>h.block b hb,h.os,h.tape,h.output⟩
theorem AJ.OM {P:Program}{f:FuncId}{args:List Value}{hp:Hp}{top:Nat}{r:Value}(hr:plain 3 r=true)
  (h:∀φ own w args',Vs φ args args'→HR φ own hp w→Calls P f ⟨args'⟩ w fun e w'=>e= .returned r∧Go.RowKit.Below w.heap.size w w'):AJ P f args hp top fun v hp' top'=>v=r∧hp' = hp∧top' = top:=by
 intro φ own w args' ha H htop
 refine (h φ own w args' ha H).mono ?_
 rintro e w' ⟨rfl,hb⟩
 have k:=K.RG hb
 exact ⟨r,hp,top,r,φ,rfl,⟨rfl,rfl,rfl⟩,⟨Ren.le_refl _,DG _ _ hr,H.stay k,K.VB H.fresh k,htop⟩⟩
def tzO:A8:=xD 6 .u8 Lib.deBruijn64tab
def U64(n:Int):Prop:=0≤n∧n < 18446744073709551616
def VG:List Nat:=(List.range 20).map fun i=>10 ^ i
def VH:A8:=xD 2 .u64 VG
theorem VI {φ:Ren}{own:Nat→Prop}{hp:Hp}{w:World}(H:HR φ own hp w)(h:hp 1=some VH):Lib.TabIs Tryz.prog w "internal/strconv.uint64pow10" .u64 Lib.pow10Tab:=by
 obtain ⟨ct,cf,hc⟩:=xE H (by omega) h
 have hg:Tryz.prog.globalNamed "internal/strconv.uint64pow10" = some 2:=by kernel_rfl
 unfold Lib.TabIs World.var?
 rw [hg]
 simp only [Option.bind_some,hc]
 congr 2
def Ph:BE:= .pure (fun args hp=>match args with | [v, .string ⟨⟨sep⟩⟩]=>Dy AB hp v∧(AB.rd hp v).length≤140737488355328∧(Lib.join (AB.rd hp v) sep).length≤140737488355328 | _=>False)
 (fun args hp=>match args with | [v,s]=> .string ⟨⟨Lib.join (AB.rd hp v) (strOf s)⟩⟩ | _=>undef)
theorem oe:Ag Tryz.prog 44 Ph:=by
 refine ⟨⟨_,oL.toFTOk⟩,fun args hp hpre top=> ?_⟩
 match args,hpre with
 | [v, .string ⟨⟨sep⟩⟩],⟨⟨l,h⟩,h1,h2⟩=>
 rw [h.rd] at h1 h2
 simp only [h.rd,AH]
 refine AJ.OM rfl fun φ own w args' ha H=> ?_
 cases ha with
 |cons _ v' _ _ hx hl=>
 cases hl with
 |cons _ s' _ _ hs hl=>
 cases hs
 cases hl
 cases h with
 |nils=>
  cases hx
  refine (Tryz.strings_Join_none none 0 ⟨⟨sep⟩⟩ w).mono ?_
  rintro e w' ⟨rfl,rfl⟩
  exact ⟨rfl,Go.RowKit.Below.refl _ _⟩
 |emp=>
  cases hx with
  |emp a' c'=>
   refine (Tryz.strings_Join_none (some a') c' ⟨⟨sep⟩⟩ w).mono ?_
   rintro e w' ⟨rfl,rfl⟩
   exact ⟨rfl,Go.RowKit.Below.refl _ _⟩
 |rows b o c rw vs l hb hv ho hc hn=>
  cases hx with
  |slice _ _ _ _ c' L hL hn' hc' hl'=>
   obtain ⟨L',hL',hok⟩:=H.obj _ _ hb
   rw [hL] at hL';cases hL'
   obtain ⟨_,cc,ty,fz,hg,hsz,hlim,hvs,_⟩:=hok
   obtain ⟨xs,hxs⟩:∃xs:List ByteArray,xs=l.map fun x=>⟨⟨x⟩⟩:=⟨_,rfl⟩
   have hxl:xs.length=l.length:=by rw [hxs];simp
   have hxd:xs.map (·.data.toList)=l:=by rw [hxs,List.map_map];simp [Function.comp_def]
   have hsz1:AB.size=1:=rfl
   have hcell:∀(j:Nat) x,xs[j]? = some x→w.cell? ⟨L.BT,L.off+o+j,none⟩=some (.string x):=by
    intro j x hj
    have hjl:j < l.length:=by
     rw [←hxl]
     rcases Nat.lt_or_ge j xs.length with h | h
     ·exact h
     ·rw [List.getElem?_eq_none h] at hj;cases hj
    have h3:(AB.flat l)[j]? = some (.string x):=by
     rw [hxs,List.getElem?_map] at hj
     have:AB.flat l=l.map fun x=>Value.string ⟨⟨x⟩⟩:=by
      clear hj hv ho hc hn hn' hl' hjl hxl hxd hxs h1 h2
      induction l with
      |nil=>rfl
      |cons a l ih=>rw [B6.C2,ih];rfl
     rw [this,List.getElem?_map]
     cases hl:l[j]? with
     |none=>rw [hl] at hj;cases hj
     |some y=>rw [hl] at hj;cases hj;rfl
    rw [←hv] at h3
    rw [List.getElem?_take,hsz1,Nat.mul_one,if_pos hjl,List.getElem?_drop] at h3
    obtain ⟨x',h4,h5⟩:=hvs.get h3
    have h6:=h5.NZ
    subst h6
    have hlt:o+j < vs.length:=by
     rcases Nat.lt_or_ge (o+j) vs.length with h | h
     ·exact h
     ·rw [List.getElem?_eq_none h] at h3;cases h3
    rw [List.getElem?_take,if_pos hlt,List.getElem?_drop] at h4
    simp only [World.cell?,hg]
    rw [Nat.add_assoc]
    simpa using h4
   have:=Tryz.strings_Join L.BT (L.off+o) c' xs ⟨⟨sep⟩⟩ w hcell (H.val _ _ hL) (by rw [hxl];exact h1) (by rw [hxl];omega) (by rw [hxd];exact h2)
   rw [hxl,hxd] at this
   refine this.mono ?_
   rintro e w' ⟨rfl,hbw⟩
   exact ⟨rfl,hbw⟩
theorem wrap_u64 {n:Int}(h:0≤n)(h2:n < 18446744073709551616):Ad .u64 n=n:=Gh (by simpa [IntKind.signed,IntKind.bits] using h) (by simpa [IntKind.signed,IntKind.bits] using h2)
def G0:FuncId→BE:=fun _=> .none
theorem SD:Bp Tryz.prog tt.get G0:=⟨Am,fun _=>trivial⟩
theorem D5{a b:Bool}(h:a=true ↔ b=true):Value.bool a=Value.bool b:=by rw[Bool.eq_iff_iff.2 h]
theorem ZL {s d:TypeId}{k1 k2:IntKind}{hp:Hp}{x:Value}(h1:kindOf tt.get s=some (.int k1))(h2:kindOf tt.get d=some (.int k2)):CQ tt.get hp s d x=(.int k2 (Ad k2 (intOf x)),R3 x):=by
 simp [CQ,h1,Rj,h2]
mutual
theorem AB0 {n m:Nat}(hm:n≤m):∀ {v:Value},Sc n v→Sc m v
 | .bool _,_=>trivial
 | .int _ _,_=>trivial
 | .float _ _,_=>trivial
 | .complex _ _ _,_=>trivial
 | .string _,_=>trivial
 | .pointer none,_=>trivial
 | .pointer (some ⟨_,_,_⟩),h=>Nat.lt_of_lt_of_le h hm
 | .slice none _ _,_=>trivial
 | .slice (some ⟨_,_,none⟩) _ _,h=>Nat.lt_of_lt_of_le h hm
 | .slice (some ⟨_,_,some _⟩) _ _,_=>trivial
 | .map none,_=>trivial
 | .map (some _),h=>Nat.lt_of_lt_of_le h hm
 | .chan _,_=>trivial
 | .func _ ⟨_⟩ ⟨_⟩,h=>⟨XK hm h.1,XK hm h.2⟩
 | .nilFunc,_=>trivial
 | .iface _ v,h=>AB0 (v:=v) hm h
 | .nilIface,_=>trivial
 | .agg ⟨l⟩,h=>XK (l:=l) hm h
 | .tuple ⟨l⟩,h=>XK (l:=l) hm h
theorem XK{n m:Nat}(hm:n≤m):∀ {l:List Value},QH n l→QH m l
 | [],_=>trivial
 |_ :: _,h=>⟨AB0 hm h.1,XK hm h.2⟩
end
theorem Kk {α:Type}[Inhabited α]{l:List α}{k:Nat}(h:k < l.length):l.drop k=at' l k :: l.drop (k+1):=by rw [BS _ _ h];exact List.drop_eq_getElem_cons h
theorem Qr{l:List UInt8}:Z9 l l=true:=by rw[Uc];simp
theorem FU {u:Nat}(h:u < 10):Lib.decDigits u= [UInt8.ofNat (48+u)]:=by rw [Lib.decDigits,dif_pos h]
theorem HV {u:Nat}(h:¬u < 10):Lib.decDigits u=Lib.decDigits (u / 10) ++ [UInt8.ofNat (48+u % 10)]:=by rw [Lib.decDigits,dif_neg h]
theorem TG {sep x:List UInt8}{xs:List (List UInt8)}:Lib.join (xs ++ [x]) sep=if xs.length=0 then x else Lib.join xs sep ++ sep ++ x:=by
 cases xs with
 |nil=>simp [Lib.join_one]
 |cons y r=>
  rw [List.cons_append,Lib.join_cons,Lib.join_cons]
  simp [Lib.joinTail,List.append_assoc]
def Pc (g:Nat)(v:Value):A8:= .cells false (BQ+4096+g) [v]
theorem VZ {φ : Ren} {own : Nat → Prop} {hp : Hp} {w : World} (H : HR φ own hp w) {i g : Nat} {v : Value} (hg : g < 4096) (h : hp i = some (Pc g v)) : ∃ v', V φ v v' ∧ w.cell? ⟨g, 0, none⟩ = some v' := by
  obtain ⟨L, hL, he, c, t, fz, h1, h2, h3, h4, h5⟩ := H.obj _ _ h
  obtain ⟨h6, h7, h8⟩ := h5.2.1 rfl (by omega)
  have hb : L.BT = g := by omega
  have hm : L.PY = 1 := by omega
  rw [hb] at h1
  rw [h7, List.drop_zero] at h4
  cases h4' : c.toList with
  | nil => have : c.size = 0 := by rw [← Array.length_toList, h4']; rfl
           omega
  | cons x r =>
    rw [h4'] at h4
    cases h4 with
    | cons _ _ _ _ hx _ =>
      refine ⟨x, hx, ?_⟩
      have hc : c[0]? = some x := by rw [← Array.getElem?_toList, h4']; rfl
      simp [World.cell?, h1, hc]
def fE (s:List UInt8):List (List UInt8):=Lib.split s [32]
def EE:BE:= .det (fun args hp _=>match args with | [.string ⟨⟨s⟩⟩, .string ⟨⟨sep⟩⟩]=>s.length < 4294967281∧sep= [32]∧∃m,hp 2=some (Pc 1 (.int .i64 m)) | _=>False)
 (fun args _ top=>match args with | [s,_]=>(AA top (fE (strOf s)), [(top,AD AB (fE (strOf s)))],top+1) | _=>(undef, [],top))
theorem ig (l:List ByteArray):AB.flat (l.map (·.data.toList))=l.map Value.string:=by
 induction l with
 |nil=>rfl
 |cons a l ih=>rw [List.map_cons,B6.C2,ih];rfl
theorem mN {φ:Ren}:∀l:List ByteArray,Vs φ (l.map Value.string) (l.map Value.string)
 | []=> .nil
 |a :: l=> .cons _ _ _ _ (.str a) (mN l)
theorem newRow {φ:Ren}{own:Nat→Prop}{hp:Hp}{w:World}{top:Nat}(H:HR φ own hp w)(htop:∀j,top≤j→φ j=none)(l:List ByteArray)(t:TypeId)(hl:l≠ []) :
  E8 φ own w (AA top (l.map (·.data.toList))) (hp.Ac [(top,AD AB (l.map (·.data.toList)))]) (top+1) (.slice (some ⟨w.heap.size,0,none⟩) l.length l.length) (w.alloc (.cells (l.map Value.string).toArray t)) (φ.ext top ⟨w.heap.size,0,1,l.length⟩):=by
 obtain ⟨x,r,rfl⟩:=List.exists_cons_of_ne_nil hl
 have hok:EA φ ⟨w.heap.size,0,1,(x :: r).length⟩ (.cells true 1 ((x :: r).map Value.string)) (some (.cells ((x :: r).map Value.string).toArray t)):=by
  refine ⟨rfl,_,t,(0,0),rfl,by simp,by simp, ?_,⟨fun _=>Nat.le_refl _,(fun e=>by cases e),fun _ h=>absurd h (by decide)⟩⟩
  have e:((((x :: r).map Value.string).toArray.toList.drop 0).take ((x :: r).map Value.string).length)=(x :: r).map Value.string:=by
   rw [List.drop_zero,List.take_of_length_le (by simp)]
  rw [e];exact mN _
 have hs:hp.Ac [(top,AD AB ((x :: r).map (·.data.toList)))] = hp.Jb top (.cells true 1 ((x :: r).map Value.string)):=by
  have e:AD AB ((x :: r).map (·.data.toList))=some (.cells true 1 ((x :: r).map Value.string)):=by
   rw [←ig];rfl
  rw [e]
  funext j
  simp only [BR,Bh,Hp.set,Hp.Jb]
 have HA:=H.alloc top _ _ _ w.drawn (htop top (Nat.le_refl _)) rfl hok
 refine ⟨Ren.EZ (htop top (Nat.le_refl _)), ?_, ?_,K.alloc own w _ w.drawn rfl, ?_⟩
 ·have e:AA top ((x :: r).map (·.data.toList))= .slice (some ⟨top,0,none⟩) (x :: r).length (x :: r).length:=by simp [AA]
  rw [e]
  have:=V.slice (φ:=φ.ext top ⟨w.heap.size,0,1,(x :: r).length⟩) top 0 (x :: r).length (x :: r).length (x :: r).length ⟨w.heap.size,0,1,(x :: r).length⟩ (Ren.A9 ..) (Nat.le_refl _) (Nat.le_refl _) (by simp)
  exact this
 ·rw [hs];exact HA
 ·intro j hj
  have:¬j=top:=by omega
  simp only [Ren.ext,this,if_false]
  exact htop j (by omega)
theorem kx:Ag Tryz.prog 73 EE:=by
 refine ⟨⟨_,oN.toFTOk⟩,fun args hp top hpre=> ?_⟩
 match args,hpre with
 | [.string ⟨⟨s⟩⟩, .string ⟨⟨sep⟩⟩],⟨hs,hsep,m,hm⟩=>
 subst hsep
 intro φ own w args' ha H htop
 cases ha with
 |cons _ _ _ _ hx hl=>
 cases hx
 cases hl with
 |cons _ _ _ _ hx hl=>
 cases hx
 cases hl
 obtain ⟨v',hv,hc⟩:=VZ H (by omega) hm
 cases hv
 refine (Tryz.strings_Split ⟨⟨s⟩⟩ ⟨⟨[32]⟩⟩ m w hs hc (by decide)).mono ?_
 rintro e w' ⟨rfl,rfl⟩
 have hlen:=Lib.splitB_all ⟨⟨[32]⟩⟩ (by decide) 0 _ (⟨⟨s⟩⟩:ByteArray) rfl
 have hd:=Lib.splitB_data ⟨⟨[32]⟩⟩ 0 (Lib.countB ⟨⟨s⟩⟩ ⟨⟨[32]⟩⟩) (⟨⟨s⟩⟩:ByteArray)
 have hd2:(Lib.splitB ⟨⟨[32]⟩⟩ 0 (Lib.countB ⟨⟨s⟩⟩ ⟨⟨[32]⟩⟩) ⟨⟨s⟩⟩).map (·.data.toList)=fE s:=hd
 rw [←hlen]
 generalize Lib.splitB ⟨⟨[32]⟩⟩ 0 (Lib.countB ⟨⟨s⟩⟩ ⟨⟨[32]⟩⟩) ⟨⟨s⟩⟩=l at hlen hd2
 refine ⟨AA top (fE s),hp.Ac [(top,AD AB (fE s))],top+1,_,φ.ext top ⟨w.heap.size,0,1,l.length⟩,rfl,⟨rfl,rfl,rfl⟩, ?_⟩
 rw [←hd2]
 exact newRow H htop l 9 (by intro h;rw [h] at hlen;simp at hlen)
theorem E8.named {φ:Ren}{own:Nat→Prop}{hp:Hp}{w w':World}{top N:Nat}{n:Int}{t:TypeId}(H:HR φ own hp w)(htop:∀j,top≤j→φ j=none)(hb:Go.RowKit.Below w.heap.size w w')(hN:N < w'.heap.size) :
  E8 φ own w (.tuple ⟨[.int .i64 n, .iface t (.pointer (some ⟨top,0,none⟩))]⟩) hp (top+1) (.tuple ⟨[.int .i64 n, .iface t (.pointer (some ⟨N,0,none⟩))]⟩) w' (φ.ext top ⟨N,0,1,1⟩):=by
 have k:=K.RG hb
 have H2:=H.stay k
 have hle:=Ren.EZ (L:=⟨N,0,1,1⟩) (htop top (Nat.le_refl _))
 have low:∀j o M,hp j=some o→φ.ext top ⟨N,0,1,1⟩ j=some M→φ j=some M:=by
  intro j o M hj hM
  have:j < top:=H.lt htop hj
  have hne:¬j=top:=by omega
  simpa [Ren.ext,hne] using hM
 refine ⟨hle, ?_,⟨?_, ?_, ?_, ?_,H2.fresh⟩,K.VB H.fresh k, ?_⟩
 ·refine .tuple _ _ (.cons _ _ _ _ (.int _ _) (.cons _ _ _ _ (.iface _ _ _ ?_) .nil))
  exact .ptr top 0 ⟨N,0,1,1⟩ (Ren.A9 ..)
 ·intro j o hj
  obtain ⟨M,m1,m2⟩:=H2.obj j o hj
  exact ⟨M,hle _ _ m1,m2.mono hle⟩
 ·intro i j oi oj Li Lj hi hj hne hrw hLi hLj
  exact H2.sep i j oi oj Li Lj hi hj hne hrw (low _ _ _ hi hLi) (low _ _ _ hj hLj)
 ·intro i o M hi hrw hM
  exact H2.D0 i o M hi hrw (low _ _ _ hi hM)
 ·intro j M hM
  by_cases e:j=top
  ·subst e;rw [Ren.A9] at hM;cases hM;exact hN
  ·have:φ j=some M:=by simpa [Ren.ext,e] using hM
   exact H2.val j M this
 ·intro j hj
  have:¬j=top:=by omega
  simp only [Ren.ext,this,if_false]
  exact htop j (by omega)
def Bl:List UInt8→List (List UInt8)
 | []=> [[]]
 |c :: r=>if c=32 then [] :: Bl r else match Bl r with
  | []=> [[c]]
  |h :: t=>(c :: h) :: t
theorem Kc:∀s,Bl s≠ []
 | []=>by simp [Bl]
 |c :: r=>by
  unfold Bl
  split
  ·simp
  ·split <;> simp
theorem Hf:∀s,fE s=Bl s
 | []=>rfl
 |c :: r=>by
  have ih:Lib.splitK [32] 0 (Lib.count r [32]) r=Bl r:=Hf r
  show Lib.splitK [32] 0 (Lib.count (c :: r) [32]) (c :: r)=_
  by_cases hc:c=32
  ·subst hc
   have hi:Lib.index ((32:UInt8) :: r) [32] = 0:=by simp [Lib.index,List.isPrefixOf]
   rw [Lib.count_cons_eq,Nat.add_comm,Lib.splitK,hi]
   simp only [Bl,if_true]
   have:¬((0:Int) == -1)=true:=by decide
   rw [if_neg this]
   simp only [Int.toNat_zero,Nat.add_zero,List.take_zero,List.length_cons,List.length_nil,Nat.zero_add,List.drop_succ_cons,List.drop_zero,ih]
  ·rw [Lib.count_cons_ne _ _ _ hc]
   have hp:([32] :List UInt8).isPrefixOf (c :: r)=false:=by
    have:((32:UInt8) == c)=false:=by simpa using fun e=>hc e.symm
    simp [List.isPrefixOf,this]
   have hsp:Bl (c :: r)=match Bl r with
    | []=> [[c]]
    |h :: t=>(c :: h) :: t:=by rw [Bl,if_neg hc]
   rcases Lib.indexB_cases ⟨⟨r⟩⟩ ⟨⟨[32]⟩⟩ with hm | ⟨i,hi,hle⟩
   ·have hm:Lib.index r [32] = -1:=hm
    have hm2:Lib.index (c :: r) [32] = -1:=by simp [Lib.index,hp,hm]
    have h0:=Lib.count_miss hm
    rw [h0] at ih ⊢
    rw [hsp,←ih]
    rfl
   ·have hi:Lib.index r [32] = (i:Int):=hi
    have hi2:Lib.index (c :: r) [32] = ((i+1:Nat):Int):=by
     have h1:¬((i:Int)= -1):=by omega
     simp [Lib.index,hp,hi,h1]
    have hk:=Lib.count_hit (sub:= [32]) (by simp) hi
    rw [hk,Nat.add_comm 1] at ih ⊢
    rw [Lib.splitK] at ih ⊢
    rw [hi] at ih
    rw [hi2]
    have n1:¬((i:Int) == -1)=true:=by simp
    have n2:¬(((i+1:Nat):Int) == -1)=true:=by simp;omega
    rw [if_neg n1] at ih
    rw [if_neg n2,hsp,←ih]
    simp only [Int.toNat_natCast,Nat.add_zero,List.take_succ_cons,List.length_cons,List.length_nil,Nat.zero_add,List.drop_succ_cons]
theorem Ws:∀s,Lib.join (Bl s) [32] = s
 | []=>by simp [Bl,Lib.join_one]
 |c :: r=>by
  have ih:=Ws r
  obtain ⟨h,t,e⟩:=List.exists_cons_of_ne_nil (Kc r)
  rw [e,Lib.join_cons] at ih
  unfold Bl
  by_cases hc:c=32
  ·rw [if_pos hc,e,Lib.join_cons,hc]
   simp only [Lib.joinTail,List.map_cons,List.flatten_cons,List.nil_append,List.cons_append]
   rw [←ih];simp [Lib.joinTail]
  ·rw [if_neg hc,e]
   simp only
   rw [Lib.join_cons,List.cons_append,ih]
theorem Ti:∀ {x:List UInt8},(32:UInt8) ∉ x→Bl x= [x]
 | [],_=>rfl
 |c :: r,h=>by
  have hc:¬c=32:=fun e=>h (by simp [e])
  have ih:=Ti (x:=r) (fun hm=>h (List.mem_cons_of_mem _ hm))
  rw [Bl,if_neg hc,ih]
theorem bx:∀ {x z:List UInt8},(32:UInt8) ∉ x→Bl (x ++ 32 :: z)=x :: Bl z
 | [],z,_=>by simp [Bl]
 |c :: r,z,h=>by
  have hc:¬c=32:=fun e=>h (by simp [e])
  have ih:=bx (x:=r) (z:=z) (fun hm=>h (List.mem_cons_of_mem _ hm))
  rw [List.cons_append,Bl,if_neg hc,ih]
theorem Rp:∀ {l:List (List UInt8)},l≠ []→(∀x∈l,(32:UInt8) ∉ x)→Bl (Lib.join l [32])=l
 | [],h,_=>absurd rfl h
 | [x],_,h=>by rw [Lib.join_one];exact Ti (h x (by simp))
 |x :: y :: r,_,h=>by
  have ih:=Rp (l:=y :: r) (by simp) (fun z hz=>h z (List.mem_cons_of_mem _ hz))
  have e:Lib.join (x :: y :: r) [32] = x ++ 32 :: Lib.join (y :: r) [32]:=by
   rw [Lib.join_cons,Lib.join_cons]
   simp [Lib.joinTail]
  rw [e,bx (h x (by simp)),ih]
theorem K9:∀s,(Bl s).length≤s.length+1
 | []=>by simp[Bl]
 |c :: r=>by
  have ih:=K9 r
  unfold Bl
  split
  ·simp;exact ih
  ·split
   ·simp
   ·rename_i h t e;rw[e]at ih;simp at ih ⊢;omega
theorem JL:∀s,∀w∈Bl s,w.length≤s.length
 | [],w,h=>by simp [Bl] at h;simp [h]
 |c :: r,w,h=>by
  have ih:=JL r
  unfold Bl at h
  split at h
  ·rcases List.mem_cons.1 h with rfl | h
   ·simp
   ·have:=ih w h;simp;omega
  ·split at h
   ·simp at h;simp [h]
   ·rename_i h' t e
    rcases List.mem_cons.1 h with rfl | h
    ·have:=ih h' (by rw [e];simp);simp;omega
    ·have:=ih w (by rw [e];simp [h]);simp;omega
theorem jk {xo yo:Operand}{t:TypeId}{v:Value}:DC tt.get .neq 38 xo yo (.iface t v) .nilIface=some (.bool true):=by simp [DC,Ij,P6,Xo]
theorem ss {xo:Operand}:DC tt.get .neq 38 xo (.const .nilIface) .nilIface .nilIface=some (.bool false):=by simp [DC,Ij,P6,Xo,oa]
def C8 (hp:Hp):Prop:=hp 1=some VH∧(∃m,hp 2=some (Pc 1 (.int .i64 m)))∧(∃t a,hp 4=some (Pc 3 (.iface t a)))∧(∃t a,hp 6=some (Pc 4 (.iface t a)))
theorem fa {hp h:Hp}(hv:C8 hp)(e:∀i,i < 7→h i=hp i):C8 h:=by
 unfold C8
 rw [e 1 (by decide),e 2 (by decide),e 4 (by decide),e 6 (by decide)];exact hv
theorem CR {hp:Hp}{i:Nat}{o:Option A8}(hi:7≤i):C8 (hp.set i o)=C8 hp:=by
 unfold C8
 rw [Aj _ _ _ _ (by omega),Aj _ _ _ _ (by omega),Aj _ _ _ _ (by omega),Aj _ _ _ _ (by omega)]
theorem Em{hp:Hp}{top:Nat}(hcl:Cl hp top)(hv:C8 hp):7≤top:=by
 obtain⟨_,_,_,t,a,h⟩:=hv
 have:=hcl.lt _ _ h
 omega
def C4(s:List UInt8):List UInt8×List UInt8×Bool:=Lib.cut s [10]
def uU (s:List UInt8):Value:= .tuple ⟨[.string ⟨⟨(C4 s).1⟩⟩, .string ⟨⟨(C4 s).2.1⟩⟩, .bool (C4 s).2.2]⟩
def UH:BE:= .pure (fun args hp=>match args with | [.string ⟨⟨s⟩⟩, .string ⟨⟨sep⟩⟩]=>s.length < 4294967281∧sep= [10]∧∃m,hp 2=some (Pc 1 (.int .i64 m)) | _=>False) (fun args _=>match args with | [s,_]=>uU (strOf s) | _=>undef)
theorem uX:Ag Tryz.prog 36 UH:=by
 refine ⟨⟨_,oI.toFTOk⟩,fun args hp hpre top=> ?_⟩
 match args,hpre with
 | [.string ⟨⟨s⟩⟩, .string ⟨⟨sep⟩⟩],⟨hs,hsep,m,hm⟩=>
 subst hsep
 refine AJ.OM rfl fun φ own w args' ha H=> ?_
 cases ha with
 |cons _ _ _ _ hx hl=>
 cases hx
 cases hl with
 |cons _ _ _ _ hx hl=>
 cases hx
 cases hl
 obtain ⟨v',hv,hc⟩:=VZ H (by omega) hm
 cases hv
 refine (Tryz.strings_Cut ⟨⟨s⟩⟩ ⟨⟨[10]⟩⟩ m w hs hc).mono ?_
 rintro e w' ⟨rfl,n,rfl⟩
 exact ⟨rfl,⟨rfl,rfl,rfl,Nat.le_refl _,fun i hi=>rfl⟩⟩
theorem Ay {x y:List UInt8}:Z9 x y=decide (x=y):=by
 rw [Uc];by_cases h:x=y <;> simp [h]
theorem AAQ {xo yo:Operand}{t:TypeId}{v:Value}:DC tt.get .eql 38 xo yo (.iface t v) .nilIface=some (.bool false):=by simp [DC,Ij,P6,Xo]
theorem aA {xo:Operand}:DC tt.get .eql 38 xo (.const .nilIface) .nilIface .nilIface=some (.bool true):=by simp [DC,Ij,P6,Xo,oa]
theorem jF {a:Option Addr}:Hl tt.get 51 (.pointer a)=some (.iface 51 (.pointer a)):=by simp [Hl,Na,fY]
theorem Z4 (s:List UInt8):(C4 s).1.length≤s.length∧(C4 s).2.1.length≤s.length∧((C4 s).2.2=true→(C4 s).2.1.length < s.length):=by
 unfold C4 Lib.cut
 by_cases h:0≤Lib.index s [10]
 ·rw [if_pos h]
  have hs:0 < s.length:=by
   cases s with
   |nil=>exact absurd h (by simp [Lib.index])
   |cons a r=>simp
  simp only [List.length_take,List.length_drop,List.length_cons,List.length_nil]
  omega
 ·rw [if_neg h];simp
theorem Ap {h':Hp}{x:List UInt8}:Bv tt.get h' 9 (.string ⟨⟨x⟩⟩)=(.int .i64 (x.length:Int),True):=by
 unfold Bv
 simp only [F7]
 simp [strOf,R8]
def N8 (c n:Int):Option A8:=some (.cells true 0 [.int .i64 c, .int .i64 n])
def Qx (top:Nat):Value:= .iface 51 (.pointer (some ⟨top,0,none⟩))
end Go.Proofs.YthlhnangbinhoaaGreatDoor.Dm
