/- The abstract machine, a part of it: operations, regions, code and calls run over values with named blocks; each step is shown of the real run. -/
import Derived.Test.YthlhnangbinhoaaGreatDoorDmA
import Derived.Laws.BytesArg
set_option linter.unusedVariables false
namespace Go.Dm
def AV (tt:AM)(s:TypeId)(x:Value)(f:Nat):Option Value:=
 match x,tt s with
 | .pointer (some ⟨b,o,none⟩),some i=>match i.ud with
  | .struct fs=>match fs.toList[f]? with
   |some fd=>match tt fd.type with
    |some j=>match Nat.beq j.size 0 with
     |true=>none
     |false=>some (.pointer (some ⟨b,o+fd.offset,none⟩))
    |none=>none
   |none=>none
  |_=>none
 |_,_=>none
theorem Ue{P:Program}{tt:AM}(htt:Cy P tt){φ:Ren}{s:TypeId}{x x' v:Value}{f:Nat}(w:World)
  (h:AV tt s x f=some v)(hx:V φ x x'):∃v',(Instr.fieldAt s x' f).run P w= .ok v' w∧V φ v v':=by
 unfold AV at h
 split at h
 ·rename_i b o i hi
  have ht:=htt _ _ hi
  split at h
  ·rename_i fs hud
   split at h
   ·rename_i fd hfd
    split at h
    ·rename_i j hj
     split at h
     ·cases h
     ·rename_i hz
      cases h
      cases hx with
      |ptr _ _ L hL=>
      have hz':j.size≠0:=fun e=>by rw[e]at hz;cases hz
      have hfd':fs[f]? = some fd:=by simpa using hfd
      simp only[Instr.fieldAt,Sem.run_bind,ht.A7,Result.andThen_ok,hud,hfd',Instr.sureAddr,Sem.run_pure,fieldPlace,(htt _ _ hj).Bd,hz',if_false,addr_add]
      exact⟨_,rfl,by rw[Nat.add_assoc];exact .ptr _ _ L hL⟩
    ·cases h
   ·cases h
  ·cases h
 ·cases h
def Yl (n:Int)(m:Nat):Option Nat:=
 match n with
 | .ofNat a=>match Nat.ble (a+1) m with
  |true=>some a
  |false=>none
 | .negSucc _=>none
theorem Uq {n:Int}{m a:Nat}(h:Yl n m=some a):n=(a:Int)∧a < m:=by
 unfold Yl at h
 split at h
 ·split at h
  ·rename_i h1;cases h;exact ⟨rfl,Nat.le_of_ble_eq_true h1⟩
  ·cases h
 ·cases h
def Fb (tt:AM)(t:TypeId)(x ix:Value):Option Value:=
 match ix,tt t with
 | .int _ n,some i=>match i.ud,x with
  | .array len e, .pointer (some ⟨b,o,none⟩)=>match Yl n len,tt e with
   |some a,some j=>some (.pointer (some ⟨b,o+a * j.size,none⟩))
   |_,_=>none
  | .slice e, .slice (some ⟨b,o,none⟩) len _=>match Yl n len,tt e with
   |some a,some j=>some (.pointer (some ⟨b,o+a * j.size,none⟩))
   |_,_=>none
  |_,_=>none
 |_,_=>none
theorem Ur {P:Program}{tt:AM}(htt:Cy P tt){φ:Ren}{t:TypeId}{x x' ix ix' v:Value}(w:World)
  (h:Fb tt t x ix=some v) (hx:V φ x x') (hix:V φ ix ix'):∃v',(Instr.indexAt t x' ix').run P w= .ok v' w∧V φ v v':=by
 unfold Fb at h
 split at h
 ·rename_i k n i hi
  have ht:=htt _ _ hi
  have:=hix.GY;subst this
  split at h
  ·rename_i len e b o hud
   split at h
   ·rename_i a j ha hj
    cases h
    obtain ⟨rfl,hlt⟩:=Uq ha
    cases hx with
    |ptr _ _ L hL=>
    have h0:(0:Int)≤(a:Int)∧(a:Int) < (len:Int):=by omega
    simp only [Instr.indexAt,Sem.run_bind,asIntOf,Sem.run_pure,Result.andThen_ok,ht.A7,hud,Instr.sureAddr]
    simp only [h0,and_self,if_true,Sem.run_bind,(htt _ _ hj).Bd,Result.andThen_ok,Int.toNat_natCast,addr_add,Sem.run_pure]
    exact ⟨_,rfl,by rw [Nat.add_assoc];exact .ptr _ _ L hL⟩
   ·cases h
  ·rename_i e b o len cap hud
   split at h
   ·rename_i a j ha hj
    cases h
    obtain ⟨rfl,hlt⟩:=Uq ha
    cases hx with
    |slice _ _ _ _ c' L hL hn hc hl=>
    have h0:(0:Int)≤(a:Int)∧(a:Int) < (len:Int):=by omega
    simp only [Instr.indexAt,Sem.run_bind,asIntOf,Sem.run_pure,Result.andThen_ok,ht.A7,hud,Instr.sureAddr]
    simp only [h0,and_self,if_true,Sem.run_bind,(htt _ _ hj).Bd,Result.andThen_ok,Int.toNat_natCast,addr_add,Sem.run_pure]
    exact ⟨_,rfl,by rw [Nat.add_assoc];exact .ptr _ _ L hL⟩
   ·cases h
  ·cases h
 ·cases h
def OC (tt:AM)(t:TypeId)(x ix:Value):Option Value:=
 match ix,tt t with
 | .int _ n,some i=>match i.ud,x with
  | .array len e, .agg ⟨cs⟩=>match Yl n len,tt e with
   |some a,some j=>DE j cs (a * j.size)
   |_,_=>none
  | .string, .string s=>match n with
   | .ofNat a=>match s.data.toList[a]? with
    |some b=>some (.int .u8 (Int.ofNat b.toNat))
    |none=>none
   | .negSucc _=>none
  |_,_=>none
 |_,_=>none
theorem jI {P:Program}{tt:AM}(htt:Cy P tt){φ:Ren}{t:TypeId}{x x' ix ix' v:Value}(w:World)
  (h:OC tt t x ix=some v) (hx:V φ x x') (hix:V φ ix ix'):∃v',(Instr.index t x' ix').run P w= .ok v' w∧V φ v v':=by
 unfold OC at h
 split at h
 ·rename_i k n i hi
  have ht:=htt _ _ hi
  have:=hix.GY;subst this
  split at h
  ·rename_i len e cs hud
   split at h
   ·rename_i a j ha hj
    obtain ⟨rfl,hlt⟩:=Uq ha
    cases hx with
    |agg _ cs' hcs=>
    have h0:(0:Int)≤(a:Int)∧(a:Int) < (len:Int):=by omega
    simp only [Instr.index,Sem.run_bind,asIntOf,Sem.run_pure,Result.andThen_ok,ht.A7,hud]
    simp only [h0,and_self,if_true,Sem.run_bind,(htt _ _ hj).Bd,Result.andThen_ok,Int.toNat_natCast]
    exact JF (htt _ _ hj) hcs h
   ·cases h
  ·rename_i s hud
   split at h
   ·rename_i a
    split at h
    ·rename_i b hb
     cases h
     have:=hx.NZ;subst this
     have hb':s[a]? = some b:=by
      have:s.data[a]? = some b:=by simpa using hb
      rw [←this];rfl
     simp only [Instr.index,Sem.run_bind,asIntOf,Sem.run_pure,Result.andThen_ok,ht.A7,hud]
     have h0:(0:Int)≤Int.ofNat a:=by simp
     simp only [h0,if_true]
     have:(Int.ofNat a).toNat=a:=rfl
     rw [this,hb']
     exact ⟨_,rfl, .int _ _⟩
    ·cases h
   ·cases h
  ·cases h
 ·cases h
def Qu (tt:AM)(t:TypeId)(x:Value)(f:Nat):Option Value:=
 match x,tt t with
 | .agg ⟨cs⟩,some i=>match i.ud with
  | .struct fs=>match fs.toList[f]? with
   |some fd=>match tt fd.type with
    |some j=>DE j cs fd.offset
    |none=>none
   |none=>none
  |_=>none
 |_,_=>none
theorem iX {P:Program}{tt:AM}(htt:Cy P tt){φ:Ren}{s:TypeId}{x x' v:Value}{f:Nat}(w:World)
  (h:Qu tt s x f=some v) (hx:V φ x x'):∃v',(Instr.field s x' f).run P w= .ok v' w∧V φ v v':=by
 unfold Qu at h
 split at h
 ·rename_i cs i hi
  have ht:=htt _ _ hi
  split at h
  ·rename_i fs hud
   split at h
   ·rename_i fd hfd
    split at h
    ·rename_i j hj
     cases hx with
     |agg _ cs' hcs=>
     have hfd':fs[f]? = some fd:=by simpa using hfd
     simp only [Instr.field,Sem.run_bind,ht.A7,Result.andThen_ok,hud,hfd',asAgg,Sem.run_pure]
     exact JF (htt _ _ hj) hcs h
    ·cases h
   ·cases h
  ·cases h
 ·cases h
def Nv (v:Option Value)(dflt:Nat)(top:Nat):Option Nat:=
 match v with
 |none=>some dflt
 |some (.int _ (.ofNat a))=>match Nat.ble a top with
  |true=>some a
  |false=>none
 |_=>none
theorem Kl {x:Nat}{m:Nat}(k:IntKind)(code:BoundsCode)(P:Program)(w:World)(h:x≤m):(Instr.sliceBound (.int k (Int.ofNat x)) m code).run P w= .ok x w:=by
 have:(0:Int)≤Int.ofNat x∧Int.ofNat x≤(m:Int):=⟨by simp,by simpa using h⟩
 simp only [Instr.sliceBound,asIntOf,Sem.run_bind,Sem.run_pure,Result.andThen_ok,this,and_self,if_true];rfl
def FD (lo hi:Option Value)(len cap:Nat):Option (Nat×Nat):=
 match Nv hi len cap with
 |none=>none
 |some h=>match Nv lo 0 h with
  |none=>none
  |some l=>some (l,h)
inductive OV (φ:Ren):Option Value→Option Value→Prop
 |none:OV φ none none
 |some (v v':Value) (h:V φ v v'):OV φ (some v) (some v')
theorem QV {φ:Ren}{v v':Option Value}{d top a:Nat}(h:Nv v d top=some a)(hv:OV φ v v') :
  (v' = none∧a=d)∨(∃k,v' = some (.int k (Int.ofNat a))∧a≤top):=by
 cases hv with
 |none=>left;cases h;exact ⟨rfl,rfl⟩
 |some x x' hx=>
  right
  unfold Nv at h
  split at h
  ·rename_i e;cases e
  ·rename_i k b e
   cases e
   split at h
   ·rename_i hle
    cases h
    have:=hx.GY;subst this
    exact ⟨k,rfl,Nat.le_of_ble_eq_true hle⟩
   ·cases h
  ·cases h
theorem IE {φ:Ren}{lo hi lo' hi':Option Value}{len cap cap' l h:Nat}(isSlice:Bool)(hb:FD lo hi len cap=some (l,h))(hcap:cap≤cap')(hlen:len≤cap)
  (hlo:OV φ lo lo') (hhi:OV φ hi hi') (P:Program) (w:World) :
  (Instr.sliceBounds isSlice len cap' lo' hi' none).run P w= .ok (l,h,cap') w∧l≤h∧h≤cap:=by
 unfold FD at hb
 split at hb
 ·cases hb
 ·rename_i h0 hh
  split at hb
  ·cases hb
  ·rename_i l0 hl
   cases hb
   rcases QV hh hhi with ⟨rfl,rfl⟩ | ⟨k1,rfl,hle1⟩ <;> rcases QV hl hlo with ⟨rfl,rfl⟩ | ⟨k2,rfl,hle2⟩
   ·exact ⟨rfl,Nat.zero_le _,hlen⟩
   ·refine ⟨?_,hle2,hlen⟩
    simp only [Instr.sliceBounds,Sem.run_bind,Sem.run_pure,Result.andThen_ok,Kl _ _ P w hle2]
   ·refine ⟨?_,Nat.zero_le _,hle1⟩
    simp only [Instr.sliceBounds,Sem.run_bind,Sem.run_pure,Result.andThen_ok,Kl _ _ P w (Nat.le_trans hle1 hcap)]
   ·refine ⟨?_,hle2,hle1⟩
    simp only [Instr.sliceBounds,Sem.run_bind,Sem.run_pure,Result.andThen_ok,Kl _ _ P w (Nat.le_trans hle1 hcap),Kl _ _ P w hle2]
def D3 (tt:AM)(hp:Hp)(t:TypeId)(x:Value)(lo hi:Option Value):Option Value:=
 match tt t,x with
 |some i, .string s=>match i.ud with
  | .string=>match FD lo hi s.data.toList.length s.data.toList.length with
   |some (l,h)=>some (.string ⟨⟨(s.data.toList.drop l).take (h - l)⟩⟩)
   |none=>none
  |_=>none
 |some i, .slice (some ⟨b,o,none⟩) n c=>match i.ud with
  | .slice e=>match tt e,hp b,FD lo hi n c with
   |some j,some (.cells _ CA vs),some (l,h)=>
    match Nat.beq l 0 with
    |true=>some (.slice (some ⟨b,o,none⟩) h c)
    |false=>match Nat.ble (l+1) c && (Nat.beq CA j.size || (Nat.beq CA 0 && Nat.ble (o+l * j.size) vs.length)) with
     |true=>some (.slice (some ⟨b,o+l * j.size,none⟩) (h - l) (c - l))
     |false=>match Nat.beq l h with
      |true=>some (.slice (some ⟨0,0,some 0⟩) 0 0)
      |false=>none
   |_,_,_=>none
  |_=>none
 |some i, .slice none 0 0=>match i.ud with
  | .slice e=>match tt e,FD lo hi 0 0 with
   |some _,some (_,_)=>some (.slice none 0 0)
   |_,_=>none
  |_=>none
 |some i, .slice (some ⟨0,0,some 0⟩) 0 0=>match i.ud with
  | .slice e=>match tt e,FD lo hi 0 0 with
   |some _,some (_,_)=>some (.slice (some ⟨0,0,some 0⟩) 0 0)
   |_,_=>none
  |_=>none
 |some i, .pointer (some ⟨b,o,none⟩)=>match i.ud with
  | .array n e=>match tt e,hp b,FD lo hi n n with
   |some j,some (.cells _ CA vs),some (l,h)=>
    match Nat.ble (l+1) n && Nat.ble (o+n * j.size) vs.length && (Nat.beq CA j.size || Nat.beq CA 0) with
    |true=>some (.slice (some ⟨b,o+l * j.size,none⟩) (h - l) (n - l))
    |false=>none
   |_,_,_=>none
  |_=>none
 |_,_=>none
theorem NV {P:Program}{tt:AM}(htt:Cy P tt){φ:Ren}{own:Nat→Prop}{hp:Hp}{w:World}(H:HR φ own hp w){t:TypeId}{x x' v:Value}{lo hi lo' hi':Option Value}
  (h:D3 tt hp t x lo hi=some v) (hx:V φ x x') (hlo:OV φ lo lo') (hhi:OV φ hi hi'):∃v',(Instr.sliceAt t x' lo' hi' none).run P w= .ok v' w∧V φ v v':=by
 unfold D3 at h
 split at h
 ·rename_i i s hi'
  have ht:=htt _ _ hi'
  have:=hx.NZ;subst this
  split at h
  ·rename_i hud
   split at h
   ·rename_i l hh hb
    cases h
    have hsz:s.size=s.data.toList.length:=rfl
    obtain ⟨e,h1,h2⟩:=IE false hb (Nat.le_refl _) (Nat.le_refl _) hlo hhi P w
    simp only [Instr.sliceAt,Sem.run_bind,ht.A7,Result.andThen_ok,hud,Instr.slice,Option.isSome_none,Bool.false_eq_true,if_false,hsz,e,Sem.run_pure]
    refine ⟨_,rfl, ?_⟩
    have:s.extract l hh=⟨⟨(s.data.toList.drop l).take (hh - l)⟩⟩:=by
     apply ByteArray.ext
     rw [ByteArray.data_extract]
     apply Array.toList_inj.1
     simp [List.extract_eq_take_drop]
    rw [this];exact .str _
   ·cases h
  ·cases h
 ·rename_i i b o n c hi'
  have ht:=htt _ _ hi'
  split at h
  ·rename_i e hud
   split at h
   ·rename_i j rw' CA vs l hh hj hb hbo
    cases hx with
    |slice _ _ _ _ c' L hL hn hc hl=>
    obtain ⟨e1,h1,h2⟩:=IE true hbo hc hn hlo hhi P w
    obtain ⟨L',hL',hok⟩:=H.obj _ _ hb
    rw [hL] at hL';cases hL'
    obtain ⟨he,cc,ty,fz,hg,hsz,hlim,_,_⟩:=hok
    simp only [Instr.sliceAt,Sem.run_bind,ht.A7,Result.andThen_ok,hud,Instr.slice,e1,(htt _ _ hj).Bd,Sem.run_pure]
    split at h
    ·rename_i h0
     have h0':l=0:=Nat.eq_of_beq_eq_true h0
     subst h0'
     cases h
     refine ⟨_,rfl, ?_⟩
     have:(if c' = 0 then some (⟨L.BT,L.off+o,none⟩:Addr) else Option.map (fun (x:Addr)=>x.add (0 * j.size)) (some ⟨L.BT,L.off+o,none⟩))=some ⟨L.BT,L.off+o,none⟩:=by
      split
      ·rfl
      ·simp [addr_add]
     rw [this]
     exact .slice _ _ _ _ _ L hL h2 hc hl
    ·split at h
     ·rename_i h3
      cases h
      simp only [Bool.and_eq_true,Bool.or_eq_true] at h3
      obtain ⟨h4,h5⟩:=h3
      have h4':=Nat.le_of_ble_eq_true h4
      have hne:c'≠l:=by omega
      rw [if_neg hne]
      refine ⟨_,rfl, ?_⟩
      simp only [Option.map_some,addr_add]
      rw [Nat.add_assoc]
      refine .slice _ _ _ _ _ L hL (by omega) (by omega) ?_
      rcases h5 with h5 | ⟨h5,h6⟩
      ·have h5':CA=j.size:=Nat.eq_of_beq_eq_true h5
       rw [GX (by rw [h5'];exact (htt _ _ hj).small)] at he
       rw [←h5',he]
       have:l * L.CA+(c' - l) * L.CA=c' * L.CA:=by rw [←Nat.add_mul];congr 1;omega
       omega
      ·have h5':CA=0:=Nat.eq_of_beq_eq_true h5
       have h6':=Nat.le_of_ble_eq_true h6
       rw [h5',GX (by decide)] at he
       rw [←he];omega
     ·split at h
      ·rename_i hlh
       have hlh':l=hh:=Nat.eq_of_beq_eq_true hlh
       subst hlh'
       cases h
       refine ⟨_,rfl, ?_⟩
       rw [Nat.sub_self]
       split
       ·exact .emp _ _
       ·simp only [Option.map_some];exact .emp _ _
      ·cases h
   ·cases h
  ·cases h
 ·rename_i i hi'
  have ht:=htt _ _ hi'
  cases hx
  split at h
  ·rename_i e hud
   split at h
   ·rename_i j l hh hj hbo
    cases h
    obtain ⟨e1,h1,h2⟩:=IE true hbo (Nat.le_refl _) (Nat.le_refl _) hlo hhi P w
    have:l=0:=by omega
    subst this
    have:hh=0:=by omega
    subst this
    simp only [Instr.sliceAt,Sem.run_bind,ht.A7,Result.andThen_ok,hud,Instr.slice,e1,(htt _ _ hj).Bd,Sem.run_pure]
    exact ⟨_,rfl, .nils⟩
   ·cases h
  ·cases h
 ·rename_i i hi'
  have ht:=htt _ _ hi'
  cases hx with
  |emp a' c'=>
  split at h
  ·rename_i e hud
   split at h
   ·rename_i j l hh hj hbo
    cases h
    obtain ⟨e1,h1,h2⟩:=IE true hbo (Nat.zero_le c') (Nat.le_refl _) hlo hhi P w
    have:l=0:=by omega
    subst this
    have:hh=0:=by omega
    subst this
    simp only [Instr.sliceAt,Sem.run_bind,ht.A7,Result.andThen_ok,hud,Instr.slice,e1,(htt _ _ hj).Bd,Sem.run_pure]
    refine ⟨_,rfl, ?_⟩
    split
    ·exact .emp _ _
    ·simp only [Option.map_some];exact .emp _ _
   ·cases h
  ·cases h
 ·rename_i i b o hi'
  have ht:=htt _ _ hi'
  split at h
  ·rename_i n e hud
   split at h
   ·rename_i j rw' CA vs l hh hj hb hbo
    cases hx with
    |ptr _ _ L hL=>
    obtain ⟨e1,h1,h2⟩:=IE false hbo (Nat.le_refl _) (Nat.le_refl _) hlo hhi P w
    obtain ⟨L',hL',hok⟩:=H.obj _ _ hb
    rw [hL] at hL';cases hL'
    obtain ⟨he,cc,ty,fz,hg,hsz,hlim,_,_⟩:=hok
    split at h
    ·rename_i h3
     cases h
     simp only [Bool.and_eq_true,Bool.or_eq_true] at h3
     obtain ⟨⟨h4,h6⟩,h5⟩:=h3
     have h4':=Nat.le_of_ble_eq_true h4
     have h6':=Nat.le_of_ble_eq_true h6
     have hne:n≠l:=by omega
     simp only [Instr.sliceAt,Sem.run_bind,ht.A7,Result.andThen_ok,hud,Instr.sureAddr,e1,(htt _ _ hj).Bd,Sem.run_pure,if_neg hne,addr_add]
     refine ⟨_,rfl, ?_⟩
     rw [Nat.add_assoc]
     refine .slice _ _ _ _ _ L hL (by omega) (Nat.le_refl _) ?_
     have hm:l * j.size+(n - l) * j.size=n * j.size:=by rw [←Nat.add_mul];congr 1;omega
     rcases h5 with h5 | h5
     ·have h5':CA=j.size:=Nat.eq_of_beq_eq_true h5
      rw [h5',GX (htt _ _ hj).small] at he
      rw [←he];omega
     ·have h5':CA=0:=Nat.eq_of_beq_eq_true h5
      rw [h5',GX (by decide)] at he
      rw [←he];omega
    ·cases h
   ·cases h
  ·cases h
 ·cases h
end Go.Dm
namespace Go.Dm
mutual
def KM (tt:AM):Nat→TypeId→Value→Bool
 |0,_,_=>false
 |d+1,t,v=>
  match tt t with
  |none=>false
  |some i=>match i.ud,v with
   | .interface _,_=>false
   | .array _ _,_=>false
   | .struct fs, .agg ⟨cs⟩=>Fe tt d cs fs.toList
   | .struct _,_=>false
   |_,_=>true
def Fe(tt:AM):Nat→List Value→List Field→Bool
 |0,_,_=>false
 |_+1,_, []=>true
 |d+1,cs,f :: fs=>
  match f.name == "_" with
  |true=>false
  |false=>match tt f.type with
   |none=>false
   |some i=>match DE i cs f.offset with
    |some a=>KM tt d f.type a && Fe tt d cs fs
    |none=>false
end
def JA (empty:Bool)(n:Nat)(cs:Array Value):List Field→Sem Unit
 | []=>pure ()
 |f :: fs=>do
  if f.name≠ "_" then Instr.checkKey empty n f.type (←part f.type cs f.offset)
  JA empty n cs fs
theorem LJ {P:Program}(w:World)(empty:Bool)(n:Nat)(t:TypeId)(cs:Array Value)(fs:Array Field)(ht:P.underlying t=some (.struct fs)) :
  (Instr.checkKey empty (n+1) t (.agg cs)).run P w=(JA empty n cs fs.toList).run P w:=by
 simp only [Instr.checkKey,Sem.run_bind,run_underlying ht,Result.andThen_ok]
 rw [←Array.forIn_toList]
 generalize fs.toList=l
 clear ht
 induction l generalizing w with
 |nil=>simp [JA]
 |cons f l ih=>
  simp only [List.forIn_cons,JA,Sem.run_bind,Sem.run_ite]
  split
  ·generalize (part f.type cs f.offset).run P w=r1
   cases r1 with
   |ok a w1=>
    simp only [Result.andThen_ok]
    generalize (Instr.checkKey empty n f.type a).run P w1=r3
    cases r3 with
    |ok r w3=>simp only [Result.andThen_ok,Sem.run_pure];exact ih w3
    |halt x w3=>simp [Result.andThen]
   |halt x w1=>simp [Result.andThen]
  ·simp only [Sem.run_pure,Result.andThen_ok]
   exact ih w
theorem jP {P:Program}{tt:AM}(htt:Cy P tt){φ:Ren}(empty:Bool):∀d:Nat,
  (∀t v v' k w,KM tt d t v=true→V φ v v'→(Instr.checkKey empty (d+k) t v').run P w= .ok () w)∧
  (∀cs cs' fs k w,Fe tt d cs fs=true→Vs φ cs cs'→(JA empty (d+k) ⟨cs'⟩ fs).run P w= .ok () w):=by
 intro d
 induction d with
 |zero=>exact ⟨fun t v v' k w h=>by simp [KM] at h,fun cs cs' fs k w h=>by simp [Fe] at h⟩
 |succ d ih=>
  obtain ⟨ih1,ih2⟩:=ih
  constructor
  ·intro t v v' k w h hv
   rw [KM] at h
   cases hti:tt t with
   |none=>simp [hti] at h
   |some i=>
    have ht:=htt t i hti
    rw [hti] at h
    dsimp only at h
    have hud:=ht.ud
    have e:d+1+k=(d+k)+1:=by omega
    rw [e]
    split at h
    ·cases h
    ·cases h
    ·rename_i fs cs hd
     cases hv with
     |agg _ cs' hcs=>
     rw [hd] at hud
     rw [LJ w empty _ t _ fs hud]
     exact ih2 _ _ _ _ _ h hcs
    ·cases h
    ·rename_i h1 h2 h3 h4
     simp only [Instr.checkKey,Sem.run_bind,run_underlying hud,Result.andThen_ok]
     split <;> first | rfl | (exfalso;exact h1 _ (by assumption)) | (exfalso;exact h2 _ _ (by assumption)) | (exfalso;exact h3 _ (by assumption))
  ·intro cs cs' fs k w h hc
   cases fs with
   |nil=>simp [JA]
   |cons f fs=>
    rw [Fe] at h
    have e:d+1+k=d+(k+1):=by omega
    rw [e]
    split at h
    ·cases h
    ·rename_i hn
     have hn':f.name≠ "_" :=by simpa using hn
     cases hti:tt f.type with
     |none=>simp [hti] at h
     |some i=>
      have ht:=htt _ i hti
      rw [hti] at h
      dsimp only at h
      split at h
      ·rename_i a ha
       simp only [Bool.and_eq_true] at h
       obtain ⟨a',ha',hva⟩:=JF (w:=w) ht hc ha
       simp only [JA,hn',ne_eq,not_false_eq_true,if_true,Sem.run_bind,ha',Result.andThen_ok,ih1 _ _ _ (k+1) w h.1 hva]
       exact ih2 _ _ _ _ _ h.2 hc
      ·cases h
theorem I9 {P:Program}{tt:AM}(htt:Cy P tt){φ:Ren}(empty:Bool){t:TypeId}{v v':Value}(w:World)
  (h:KM tt 64 t v=true) (hv:V φ v v'):(Instr.checkKey empty 10000 t v').run P w= .ok () w:=
 (jP htt empty 64).1 t v v' 9936 w h hv
def HZ (tt:AM)(kt:TypeId)(k:Value):List MapEntry→Nat→Option (Option (Nat×Value))
 | [],_=>some none
 |e :: es,i=>match Ij tt 64 kt k e.key with
  |some true=>some (some (i,e.val))
  |some false=>HZ tt kt k es (i+1)
  |none=>none
inductive FV (φ:Ren):Option (Nat×Value)→Option (Nat×Value)→Prop
 |none:FV φ none none
 |some (i:Nat) (v v':Value) (h:V φ v v'):FV φ (some (i,v)) (some (i,v'))
theorem Rd {P:Program}{tt:AM}(htt:Cy P tt){φ:Ren}{kt:TypeId}{k k' x x':Value}{r b:Bool}{ud:TypeDesc}(hu:P.underlying kt=some ud)
  (h:Ij tt 64 kt k x=some r) (hk:V φ k k') (hx:V φ x x') (hs:Instr.sameNow ud k' x' = some b):b=r:=by
 have e:=Qq htt (default:World) h hk hx
 unfold Instr.sameNow at hs
 split at hs
 ·split at hs
  ·rename_i hkk;subst hkk;cases hs
   have e2:=fun k a b=>run_equalIn_int (P:=P) default 9999 kt k _ a b hu
   rw [show Op.equal kt _ _=Op.equalIn (9999+1) kt _ _ from rfl,e2] at e;cases e;rfl
  ·cases hs
 ·cases hs
  have e2:=fun a b=>run_equalIn_string (P:=P) default 9999 kt a b hu
  rw [show Op.equal kt _ _=Op.equalIn (9999+1) kt _ _ from rfl,e2] at e;cases e;rw [ByteArray.toList_eq,ByteArray.toList_eq];rw [beq_toListBytes,ByteArray.toList_eq,ByteArray.toList_eq]
 ·cases hs
  have e2:=fun a b=>run_equalIn_bool (P:=P) default 9999 kt a b hu
  rw [show Op.equal kt _ _=Op.equalIn (9999+1) kt _ _ from rfl,e2] at e;cases e;rfl
 ·cases hs
theorem iZ {P:Program}{tt:AM}(htt:Cy P tt){φ:Ren}{kt:TypeId}{i:TI}(ht:Ly P kt i){k k':Value}(w:World)(hk:V φ k k'):∀ {es es':List MapEntry} {n:Nat} {r:Option (Nat×Value)},
  HZ tt kt k es n=some r→Es φ es es'→
  ∃r',FV φ r r'∧(Instr.findAsking kt k' es' n).run P w= .ok r' w∧(∀q,Instr.findNow i.ud k' es' n=some q→q=r'):=by
 intro es
 induction es with
 |nil=>intro es' n r h he;cases he;cases h;exact ⟨_, .none,rfl,fun q hq=>by simp [Instr.findNow] at hq;exact hq.symm⟩
 |cons e es ih=>
  intro es' n r h he
  cases he with
  |cons _ e' _ es' hev hes=>
  simp only [HZ] at h
  split at h
  ·rename_i he2
   cases h
   refine ⟨_, .some _ _ _ hev.val, ?_, ?_⟩
   ·simp only [Instr.findAsking,Sem.run_bind,Qq htt w he2 hk hev.key,Result.andThen_ok,if_true,Sem.run_pure]
   ·intro q hq
    simp only [Instr.findNow] at hq
    split at hq
    ·cases hq;rfl
    ·rename_i hs;cases Rd htt ht.ud he2 hk hev.key hs
    ·cases hq
  ·rename_i he2
   obtain ⟨r',h1,h2,h3⟩:=ih h hes
   refine ⟨r',h1, ?_, ?_⟩
   ·simp only [Instr.findAsking,Sem.run_bind,Qq htt w he2 hk hev.key,Result.andThen_ok,Bool.false_eq_true,if_false];exact h2
   ·intro q hq
    simp only [Instr.findNow] at hq
    split at hq
    ·rename_i hs;cases Rd htt ht.ud he2 hk hev.key hs
    ·exact h3 q hq
    ·cases hq
  ·cases h
theorem FY {P:Program}{tt:AM}(htt:Cy P tt){φ:Ren}{kt:TypeId}{i:TI}(ht:Ly P kt i){k k':Value}(w:World)(hk:V φ k k'){es es':List MapEntry}{r:Option (Nat×Value)}
  (h:HZ tt kt k es 0=some r) (he:Es φ es es'):∃r',FV φ r r'∧(Instr.findKey kt k' es').run P w= .ok r' w:=by
 obtain ⟨r',h1,h2,h3⟩:=iZ htt ht w hk h he
 refine ⟨r',h1, ?_⟩
 simp only [Instr.findKey,Sem.run_bind,ht.A7,Result.andThen_ok]
 split
 ·rename_i q hq;rw [h3 q hq];rfl
 ·exact h2
def Gc (tt:AM)(hp:Hp)(t:TypeId)(x k:Value)(ok:Bool):Option Value:=
 match tt t with
 |none=>none
 |some i=>match i.ud with
  | .map kt et=>
   let es:=match x with
    | .map none=>some []
    | .map (some b)=>match hp b with
     |some (.map es _)=>some es
     |_=>none
    |_=>none
   match es,tt kt,tt et,KM tt 64 kt k with
   |some es,some _,some j,true=>
    match HZ tt kt k es 0 with
    |some (some (_,v))=>match ok with
     |true=>some (.tuple ⟨[v, .bool true]⟩)
     |false=>some v
    |some none=>match ok with
     |true=>some (.tuple ⟨[j.zero, .bool false]⟩)
     |false=>some j.zero
    |none=>none
   |_,_,_,_=>none
  |_=>none
theorem eA {P:Program}{tt:AM}(htt:Cy P tt){φ:Ren}{own:Nat→Prop}{hp:Hp}{w:World}(H:HR φ own hp w){t:TypeId}{x x' k k' v:Value}{ok:Bool}
  (h:Gc tt hp t x k ok=some v) (hx:V φ x x') (hk:V φ k k'):∃v',(Instr.lookup t x' k' ok).run P w= .ok v' w∧V φ v v':=by
 unfold Gc at h
 split at h
 ·cases h
 ·rename_i i hi
  have ht:=htt _ _ hi
  split at h
  ·rename_i kt et hud
   dsimp only at h
   split at h
   ·rename_i es ki j hes hkt het hkey
    have hget:∃es':Array MapEntry,Es φ es es'.toList∧((x' = .map none∧es' = #[])∨∃b CG,x' = .map (some b)∧w.heap[b]? = some (.map es' CG)):=by
     split at hes
     ·cases hes;cases hx;exact ⟨#[], .nil, .inl ⟨rfl,rfl⟩⟩
     ·rename_i b
      split at hes
      ·rename_i es0 CG hb
       cases hes
       cases hx with
       |map _ L hL=>
       obtain ⟨L',hL',hok⟩:=H.obj _ _ hb
       rw [hL] at hL';cases hL'
       obtain ⟨es',hg,he⟩:=hok
       exact ⟨es',he, .inr ⟨_,_,rfl,hg⟩⟩
      ·cases hes
     ·cases hes
    obtain ⟨es',he,hx'⟩:=hget
    have run:∀r',(Instr.findKey kt k' es'.toList).run P w= .ok r' w→(Instr.lookup t x' k' ok).run P w= .ok (match r' with
      |some (_,v)=>if ok then .tuple #[v, .bool true] else v
      |none=>if ok then .tuple #[j.zero, .bool false] else j.zero) w:=by
     intro r' hr
     rcases hx' with ⟨rfl,rfl⟩ | ⟨b,CG,rfl,hg⟩
     ·simp only [Instr.lookup,Sem.run_bind,ht.A7,Result.andThen_ok,hud,Sem.run_pure,I9 htt _ w hkey hk,hr]
      cases r' with
      |none=>simp only [Sem.run_bind,(htt _ _ het).Ek,Result.andThen_ok,Sem.run_pure]
      |some q=>simp only [Sem.run_bind,Result.andThen_ok,Sem.run_pure]
     ·have hget:(getObj b).run P w= .ok (.map es' CG) w:=by simp only [getObj,Sem.run,hg]
      simp only [Instr.lookup,Sem.run_bind,ht.A7,Result.andThen_ok,hud,Sem.run_pure,hget,I9 htt _ w hkey hk,hr]
      cases r' with
      |none=>simp only [Sem.run_bind,(htt _ _ het).Ek,Result.andThen_ok,Sem.run_pure]
      |some q=>simp only [Sem.run_bind,Result.andThen_ok,Sem.run_pure]
    split at h
    ·rename_i n v0 hf
     obtain ⟨r',hr,hfr⟩:=FY htt (htt _ _ hkt) w hk hf he
     cases hr with
     |some _ _ v' hv=>
     rw [run _ hfr]
     split at h
     ·cases h;exact ⟨_,rfl, .tuple _ _ (.cons _ _ _ _ hv (.cons _ _ _ _ (.bool true) .nil))⟩
     ·cases h;exact ⟨_,rfl,hv⟩
    ·rename_i hf
     obtain ⟨r',hr,hfr⟩:=FY htt (htt _ _ hkt) w hk hf he
     cases hr
     have hz:=DG (φ:=φ) _ _ (htt _ _ het).plain
     rw [run _ hfr]
     split at h
     ·cases h;exact ⟨_,rfl, .tuple _ _ (.cons _ _ _ _ hz (.cons _ _ _ _ (.bool false) .nil))⟩
     ·cases h;exact ⟨_,rfl,hz⟩
    ·cases h
   ·cases h
  ·cases h
end Go.Dm
namespace Go.Dm
def DV (tt:AM)(hp:Hp)(t:TypeId)(x:Value):Option Value:=
 match tt t with
 |none=>none
 |some i=>match i.ud,x with
  | .string, .string s=>some (.int .i64 (Int.ofNat s.data.toList.length))
  | .array n _,_=>some (.int .i64 (Int.ofNat n))
  | .slice _, .slice _ n _=>some (.int .i64 (Int.ofNat n))
  | .map _ _, .map none=>some (.int .i64 0)
  | .map _ _, .map (some b)=>match hp b with
   |some (.map es _)=>some (.int .i64 (Int.ofNat es.length))
   |_=>none
  |_,_=>none
theorem vC {P:Program}{tt:AM}(htt:Cy P tt){φ:Ren}{own:Nat→Prop}{hp:Hp}{w:World}(H:HR φ own hp w){t r:TypeId}{ts:Array TypeId}{x x' v:Value}
  (h:DV tt hp t x=some v) (hx:V φ x x') (hts:ts[0]? = some t):(Builtin.len_ ts r #[x']).run P w= .ok v w∧plain 1 v=true:=by
 unfold DV at h
 split at h
 ·cases h
 ·rename_i i hi
  have ht:=htt _ _ hi
  have h0:(#[x'] :Array Value)[0]? = some x':=rfl
  split at h
  ·rename_i s hud;cases h;cases hx
   simp only [Builtin.len_,hts,h0,Sem.run_bind,ht.A7,hud,Result.andThen_ok];exact ⟨rfl,rfl⟩
  ·rename_i n e hud;cases h
   simp only [Builtin.len_,hts,h0,Sem.run_bind,ht.A7,hud,Result.andThen_ok];exact ⟨rfl,rfl⟩
  ·rename_i n c hud;cases h;cases hx <;> simp only [Builtin.len_,hts,h0,Sem.run_bind,ht.A7,hud,Result.andThen_ok] <;> exact ⟨rfl,rfl⟩
  ·rename_i n e hud;cases h;cases hx
   simp only [Builtin.len_,hts,h0,Sem.run_bind,ht.A7,hud,Result.andThen_ok];exact ⟨rfl,rfl⟩
  ·rename_i kt et b hud
   split at h
   ·rename_i es CG hb
    cases h
    cases hx with
    |map _ L hL=>
    obtain ⟨L',hL',hok⟩:=H.obj _ _ hb
    rw [hL] at hL';cases hL'
    obtain ⟨es',hg,he⟩:=hok
    have hget:(getObj L.BT).run P w= .ok (.map es' CG) w:=by simp only [getObj,Sem.run,hg]
    have hl:es'.size=es.length:=by rw [←Array.length_toList];exact he.length
    simp only [Builtin.len_,hts,h0,Sem.run_bind,ht.A7,hud,Result.andThen_ok,hget,hl];exact ⟨rfl,rfl⟩
   ·cases h
  ·cases h
def ym (op:UnOp)(x:Value):Option Value:=
 match op,x with
 | .not, .bool b=>some (.bool (!b))
 | .neg, .int k n=>some (.int k (Ad k (0 - n)))
 | .xor, .int k n=>RN (Op.intBits .xor k (if k.signed then -1 else k.max) n)
 |_,_=>none
theorem mD {φ:Ren}{op:UnOp}{x x' v:Value}{P:Program}(w:World)(h:ym op x=some v)(hx:V φ x x'):(Op.unary op x').run P w= .ok v w∧plain 1 v=true:=by
 unfold ym at h
 split at h
 ·cases h;cases hx;exact ⟨rfl,rfl⟩
 ·cases h;cases hx;rw [En];exact ⟨rfl,rfl⟩
 ·rename_i k n
  cases hx
  refine ⟨JG h P w, ?_⟩
  unfold Op.intBits at h;cases h;rfl
 ·cases h
def On (tt:AM)(src dst:TypeId)(x:Value):Option Value:=
 match tt src,tt dst,x with
 |some _,some j, .int _ n=>match j.ud with
  | .int k=>some (.int k (Ad k n))
  |_=>none
 |some _,some j, .string s=>match j.ud with
  | .string=>some (.string s)
  |_=>none
 |_,_,_=>none
theorem nq {P:Program}{tt:AM}(htt:Cy P tt){φ:Ren}{src dst:TypeId}{x x' v:Value}(w:World)(h:On tt src dst x=some v)(hx:V φ x x') :
  (convert src dst x').run P w= .ok v w∧plain 1 v=true:=by
 unfold On at h
 split at h
 ·rename_i i j k n hi hj
  cases hx
  split at h
  ·rename_i k' hud;cases h;rw [En]
   simp only [convert,Sem.run_bind,(htt _ _ hi).A7,(htt _ _ hj).A7,Result.andThen_ok,hud]
   exact ⟨rfl,rfl⟩
  ·cases h
 ·rename_i i j s hi hj
  cases hx
  split at h
  ·rename_i hud;cases h
   simp only [convert,Sem.run_bind,(htt _ _ hi).A7,(htt _ _ hj).A7,Result.andThen_ok,hud]
   exact ⟨rfl,rfl⟩
  ·cases h
 ·cases h
def TR:List Value→Option (List Int)
 | []=>some []
 | .int .u8 n :: l=>match TR l with
  |some r=>some (n :: r)
  |none=>none
 |_=>none
theorem W7:∀ {l:List Value} {ns:List Int},TR l=some ns→l=ns.map (Value.int .u8)
 | [],ns,h=>by cases h;rfl
 |v :: l,ns,h=>by
  unfold TR at h
  split at h
  ·rename_i heq;cases heq
  ·rename_i n l' heq
   cases heq
   split at h
   ·rename_i r hr
    cases h
    rw [W7 hr];rfl
   ·cases h
  ·cases h
theorem eE (ns:List Int):TR (ns.map (Value.int .u8))=some ns:=by
 induction ns with
 |nil=>rfl
 |cons n ns ih=>simp only [List.map_cons,TR,ih]
def WB (ns:List Int):Value:= .string ⟨⟨ns.map fun n=>UInt8.ofNat n.toNat⟩⟩
theorem cV {φ:Ren}:∀ {l m:List Value} {ns:List Int},l=ns.map (Value.int .u8)→Vs φ l m→m=ns.map (Value.int .u8)
 |_,_, [],e,h=>by subst e;cases h;rfl
 |_,_,n :: ns,e,h=>by
  subst e
  cases h with
  |cons _ x _ m hx hm=>
   cases hx
   rw [cV rfl hm];rfl
def HU (tt:AM)(hp:Hp)(src dst:TypeId)(x:Value):Option Value:=
 match tt src,tt dst with
 |some i,some j=>match i.ud,j.ud with
  | .slice e, .string=>match tt e with
   |some k=>match k.ud,x with
    | .int .u8, .slice none _ _=>some (WB [])
    | .int .u8, .slice (some ⟨_,_,some _⟩) 0 _=>some (WB [])
    | .int .u8, .slice (some ⟨b,o,none⟩) n _=>match hp b with
     |some (.cells _ _ vs)=>match Nat.ble (o+n) vs.length,TR ((vs.drop o).take n) with
      |true,some ns=>some (WB ns)
      |_,_=>none
     |_=>none
    |_,_=>none
   |none=>none
  |_,_=>none
 |_,_=>none
theorem gu {P:Program}{tt:AM}(htt:Cy P tt){φ:Ren}{own:Nat→Prop}{hp:Hp}{w:World}(H:HR φ own hp w){src dst:TypeId}{x x' v:Value}(h:HU tt hp src dst x=some v)(hx:V φ x x') :
  (convert src dst x').run P w= .ok v w∧plain 1 v=true:=by
 have fold:∀ns:List Int,(.string (ns.foldl (fun r n=>r.push (UInt8.ofNat n.toNat)) ByteArray.empty):Value)=WB ns:=by
  intro ns
  rw [foldl_push_bytes]
  unfold WB
  congr 2
  simp [ByteArray.empty,ByteArray.emptyWithCapacity]
  rfl
 unfold HU at h
 split at h
 ·rename_i i j hi hj
  split at h
  ·rename_i e hui huj
   split at h
   ·rename_i k hk
    have hs:P.underlying src=some (.slice e):=by rw [(htt _ _ hi).ud,hui]
    have hd:P.underlying dst=some .string:=by rw [(htt _ _ hj).ud,huj]
    split at h
    ·rename_i hku
     cases h
     cases hx
     have he:P.underlying e=some (.int .u8):=by rw [(htt _ _ hk).ud,hku]
     rw [run_convert_bytes_nil w src e hs he _ _ dst hd,←fold []]
     exact ⟨rfl,rfl⟩
    ·rename_i hku
     cases h
     have he:P.underlying e=some (.int .u8):=by rw [(htt _ _ hk).ud,hku]
     cases hx with
     |emp a' c'=>
      rw [run_convert_bytes_string w src dst e _ _ _ hs he hd,run_bytesToString w a' 0 c' [] (by simp [loadCells,loadCellsFrom]),fold]
      exact ⟨rfl,rfl⟩
    ·rename_i b o n c hku
     split at h
     ·rename_i rw' CA vs hb
      split at h
      ·rename_i ns hble hns
       cases h
       have he:P.underlying e=some (.int .u8):=by rw [(htt _ _ hk).ud,hku]
       have hle:=Nat.le_of_ble_eq_true hble
       cases hx with
       |slice _ _ _ _ c' L hL hn hc hl=>
        obtain ⟨L',hL',hok⟩:=H.obj _ _ hb
        rw [hL] at hL';cases hL'
        obtain ⟨_,cc,ty,fz,hg,hsz,hlim,hvs,_⟩:=hok
        have e1:(cc.toList.drop (L.off+o)).take n=ns.map (Value.int .u8):=by
         have h1:=W7 hns
         have h2:=(hvs.drop o).take n
         rw [h1] at h2
         have h5:=cV rfl h2
         rw [←h5,List.drop_take,List.take_take,List.drop_drop]
         congr 1
         omega
        have hrun:=run_loadCellsFrom P w L.BT (L.off+o) cc ty fz hg n 0 #[] (by omega)
        rw [Nat.add_zero,e1] at hrun
        rw [run_convert_bytes_string w src dst e _ _ _ hs he hd,run_bytesToString w _ n c' ns (by simpa [loadCells] using hrun),fold]
        exact ⟨rfl,rfl⟩
      ·cases h
     ·cases h
    ·cases h
   ·cases h
  ·cases h
 ·cases h
def Mm(tt:AM)(hp:Hp)(src dst:TypeId)(x:Value):Option Value:=match On tt src dst x with
 |some v=>some v
 |none=>HU tt hp src dst x
theorem gw{P:Program}{tt:AM}(htt:Cy P tt){φ:Ren}{own:Nat→Prop}{hp:Hp}{w:World}(H:HR φ own hp w){src dst:TypeId}{x x' v:Value}(h:Mm tt hp src dst x=some v)(hx:V φ x x') :
  (convert src dst x').run P w= .ok v w∧plain 1 v=true:=by
 unfold Mm at h
 split at h
 ·rename_i u hu
  cases h
  exact nq htt w hu hx
 ·exact gu htt H h hx
def Hl (tt:AM)(t:TypeId)(x:Value):Option Value:=
 match tt t with
 |some i=>match i.ud with
  | .interface _=>none
  |_=>some (.iface t x)
 |none=>none
def isIf:TypeDesc→Bool
 | .interface _=>true
 |_=>false
def UC (i:TI)(a:TypeId)(x:Value)(ok:Bool):Option Value:=
 match x with
 | .iface t v=>match Nat.beq t a with
  |true=>match ok with
   |true=>some (.tuple ⟨[v, .bool true]⟩)
   |false=>some v
  |false=>match ok with
   |true=>some (.tuple ⟨[i.zero, .bool false]⟩)
   |false=>none
 | .nilIface=>match ok with
  |true=>some (.tuple ⟨[i.zero, .bool false]⟩)
  |false=>none
 |_=>none
def MZ(tt:AM)(x:Value)(asserted:TypeId)(ok:Bool):Option Value:=
 match tt asserted with
 |some i=>match isIf i.ud with
  |true=>none
  |false=>UC i asserted x ok
 |none=>none
theorem QR {P:Program}{t a xt:TypeId}{i:TI}(ht:Ly P a i)(hf:isIf i.ud=false)(v:Value)(ok:Bool)(w:World) :
  (t=a→(Instr.typeAssert (.iface t v) xt a ok).run P w= .ok (if ok then .tuple #[v, .bool true] else v) w)∧
  (t≠a→(Instr.typeAssert (.iface t v) xt a true).run P w= .ok (.tuple #[i.zero, .bool false]) w)∧
  ((Instr.typeAssert .nilIface xt a true).run P w= .ok (.tuple #[i.zero, .bool false]) w):=by
 have hud:=ht.ud
 refine ⟨fun e=> ?_,fun e=> ?_, ?_⟩
 all_goals
  simp only [Instr.typeAssert,Sem.run_bind,ht.A7,Result.andThen_ok]
  cases hd:i.ud <;> rw [hd] at hf <;> first
   | (simp only [e,if_true,Sem.run_pure];done)
   | (simp only [e,if_false,if_true,Sem.run_bind,ht.Ek,Result.andThen_ok,Sem.run_pure];done)
   | (simp only [if_true,Sem.run_bind,ht.Ek,Result.andThen_ok,Sem.run_pure];done)
   |exact Bool.noConfusion hf
theorem c8 {P:Program}{tt:AM}(htt:Cy P tt){φ:Ren}{x x' v:Value}{xt a:TypeId}{ok:Bool}(w:World)(h:MZ tt x a ok=some v)(hx:V φ x x') :
  ∃v',(Instr.typeAssert x' xt a ok).run P w= .ok v' w∧V φ v v':=by
 unfold MZ at h
 split at h
 ·rename_i i hi
  have ht:=htt _ _ hi
  have hz:=DG (φ:=φ) _ _ ht.plain
  split at h
  ·cases h
  ·rename_i hf
   unfold UC at h
   split at h
   ·rename_i t y
    cases hx with
    |iface _ _ y' hy=>
    obtain ⟨r1,r2,_⟩:=QR (t:=t) (xt:=xt) ht hf y' ok w
    split at h
    ·rename_i hta
     have:=r1 (Nat.eq_of_beq_eq_true hta)
     split at h
     ·cases h;exact ⟨_,this, .tuple _ _ (.cons _ _ _ _ hy (.cons _ _ _ _ (.bool true) .nil))⟩
     ·cases h;exact ⟨_,this,hy⟩
    ·rename_i hta
     have:=r2 (fun e=>by subst e;simp at hta)
     split at h
     ·cases h;exact ⟨_,this, .tuple _ _ (.cons _ _ _ _ hz (.cons _ _ _ _ (.bool false) .nil))⟩
     ·cases h
   ·cases hx
    obtain ⟨_,_,r3⟩:=QR (t:=0) (xt:=xt) ht hf undef ok w
    split at h
    ·cases h;exact ⟨_,r3, .tuple _ _ (.cons _ _ _ _ hz (.cons _ _ _ _ (.bool false) .nil))⟩
    ·cases h
   ·cases h
 ·cases h
def DR (tt:AM)(ev:Operand→Option Value)(hp:Hp)(op:Op):Option Value:=
 match op with
 | .move x=>ev x
 | .assign x=>ev x
 | .pick c a b=>match ev c with
  |some (.bool true)=>ev a
  |some (.bool false)=>ev b
  |_=>none
 | .build t parts=>Nw tt ev t parts
 | .load t a=>match ev a,tt t with
  |some (.pointer (some ⟨b,o,none⟩)),some i=>PB i hp b o
  |_,_=>none
 | .nilCheck x=>match ev x with
  |some (.pointer (some a))=>some (.pointer (some a))
  |some (.func (.func f) a b)=>some (.func (.func f) a b)
  |some (.iface t v)=>some (.iface t v)
  |_=>none
 | .binOp op t x y _=>match ev x,ev y with
  |some a,some b=>DC tt op t x y a b
  |_,_=>none
 | .unOp op _ x=>match ev x with
  |some a=>ym op a
  |none=>none
 | .convert src dst x=>match ev x with
  |some a=>Mm tt hp src dst a
  |none=>none
 | .makeInterface t x=>match ev x with
  |some a=>Hl tt t a
  |none=>none
 | .makeFunc fn first captured=>match Ex ev first.toList,Ex ev captured.toList with
  |some a,some b=>some (.func fn ⟨a⟩ ⟨b⟩)
  |_,_=>none
 | .slice t x lo hi none=>match ev x with
  |none=>none
  |some a=>match lo,hi with
   |none,none=>D3 tt hp t a none none
   |some l,none=>match ev l with
    |some l=>D3 tt hp t a (some l) none
    |none=>none
   |none,some h=>match ev h with
    |some h=>D3 tt hp t a none (some h)
    |none=>none
   |some l,some h=>match ev l,ev h with
    |some l,some h=>D3 tt hp t a (some l) (some h)
    |_,_=>none
 | .fieldAddr s x f=>match ev x with
  |some a=>AV tt s a f
  |none=>none
 | .field s x f=>match ev x with
  |some a=>Qu tt s a f
  |none=>none
 | .indexAddr t x i=>match ev x,ev i with
  |some a,some b=>Fb tt t a b
  |_,_=>none
 | .index t x i=>match ev x,ev i with
  |some a,some b=>OC tt t a b
  |_,_=>none
 | .lookup t x i ok=>match ev x,ev i with
  |some a,some b=>Gc tt hp t a b ok
  |_,_=>none
 | .extract t i=>match ev t with
  |some (.tuple ⟨l⟩)=>l[i]?
  |_=>none
 | .typeAssert x _ a ok=>match ev x with
  |some v=>MZ tt v a ok
  |none=>none
 | .call {callee:= .builtin .len,args,argTypes}=>match args.toList,argTypes.toList with
  | [x],t :: _=>match ev x with
   |some a=>DV tt hp t a
   |none=>none
  |_,_=>none
 | .call {callee:= .builtin .min,args, ..}=>match args.toList with
  | [x,y]=>match ev x,ev y with
   |some (.int k a),some (.int _ b)=>some (.int k (match X3 b a with | true=>b | false=>a))
   |_,_=>none
  |_=>none
 | .call {callee:= .builtin .max,args, ..}=>match args.toList with
  | [x,y]=>match ev x,ev y with
   |some (.int k a),some (.int _ b)=>some (.int k (match X3 a b with | true=>b | false=>a))
   |_,_=>none
  |_=>none
 |_=>none
theorem nL {P:Program}{tt:AM}(htt:Cy P tt){φ:Ren}{own:Nat→Prop}{hp:Hp}{w:World}(H:HR φ own hp w){ev:Operand→Option Value}{ρ:Operand→Value}
  (hev:∀x v,ev x=some v→V φ v (ρ x)) {o:Oper} {v:Value} (h:DR tt ev hp o.op=some v):∃v',(execOp ρ o).run P w= .ok (.value v') w∧V φ v v':=by
 obtain ⟨dst,op,ty,pos,after,guard⟩:=o
 dsimp only at h
 have sc:∀ {s:Sem Value} {u:Value},s.run P w= .ok u w∧plain 1 u=true→u=v→∃v',(do pure (Next.value (←s)):Sem Next).run P w= .ok (.value v') w∧V φ v v':=by
  intro s u hs e;subst e
  refine ⟨u, ?_,DG _ _ hs.2⟩
  simp only [Sem.run_bind,hs.1,Result.andThen_ok,Sem.run_pure]
 have sv:∀ {s:Sem Value},(∃v',s.run P w= .ok v' w∧V φ v v')→∃v',(do pure (Next.value (←s)):Sem Next).run P w= .ok (.value v') w∧V φ v v':=by
  rintro s ⟨v',hs,hv⟩
  exact ⟨v',by simp only [Sem.run_bind,hs,Result.andThen_ok,Sem.run_pure],hv⟩
 unfold DR at h
 split at h
 ·rename_i x;exact ⟨ρ x,rfl,hev _ _ h⟩
 ·rename_i x;exact ⟨ρ x,rfl,hev _ _ h⟩
 ·rename_i c a b
  split at h
  ·rename_i hc
   have:=(hev _ _ hc).ID
   exact ⟨ρ a,by simp only [execOp,this,asBool,Sem.run_bind,Sem.run_pure,Result.andThen_ok,if_true],hev _ _ h⟩
  ·rename_i hc
   have:=(hev _ _ hc).ID
   exact ⟨ρ b,by simp only [execOp,this,asBool,Sem.run_bind,Sem.run_pure,Result.andThen_ok,Bool.false_eq_true,if_false],hev _ _ h⟩
  ·cases h
 ·exact sv (gd htt hev w h)
 ·rename_i t a
  split at h
  ·rename_i b ofs i ha hi
   have hva:=hev _ _ ha
   refine sv ?_
   generalize ρ a=ra at hva
   cases hva with
   |ptr _ _ L hL=>
   obtain ⟨v',h1,h2⟩:=bU H (htt _ _ hi) h hL
   exact ⟨v',by simp only [Instr.loadAt,Instr.sureAddr,Sem.run_bind,Sem.run_pure,Result.andThen_ok];exact h1,h2⟩
  ·cases h
 ·rename_i x
  split at h
  ·rename_i a hx
   cases h
   have hva:=hev _ _ hx
   generalize hr:ρ x=rx at hva
   cases hva with
   |ptr i o L hL=>exact ⟨_,by simp only [execOp,hr];rfl, .ptr _ _ L hL⟩
  ·rename_i f a b hx
   cases h
   have hva:=hev _ _ hx
   generalize hr:ρ x=rx at hva
   cases hva with
   |func _ _ _ _ _ h1 h2=>exact ⟨_,by simp only [execOp,hr];rfl, .func _ _ _ _ _ h1 h2⟩
  ·rename_i t y hx
   cases h
   have hva:=hev _ _ hx
   generalize hr:ρ x=rx at hva
   cases hva with
   |iface _ _ _ h1=>exact ⟨_,by simp only [execOp,hr];rfl, .iface _ _ _ h1⟩
  ·cases h
 ·split at h
  ·rename_i a b ha hb
   have:=nV htt w h (hev _ _ ha) (hev _ _ hb)
   refine ⟨v, ?_,DG _ _ this.2⟩
   have e:=this.1
   simp only [execOp,Sem.run_bind] at e ⊢
   rw [e];rfl
  ·cases h
 ·split at h
  ·rename_i a ha;exact sc (mD w h (hev _ _ ha)) rfl
  ·cases h
 ·split at h
  ·rename_i a ha;exact sc (gw htt H h (hev _ _ ha)) rfl
  ·cases h
 ·rename_i t x
  split at h
  ·rename_i a ha
   unfold Hl at h
   split at h
   ·rename_i i hi
    refine sv ?_
    split at h
    ·cases h
    ·rename_i hni
     cases h
     refine ⟨.iface t (ρ x), ?_, .iface _ _ _ (hev _ _ ha)⟩
     simp only [Instr.makeInterface,Sem.run_bind,(htt _ _ hi).A7,Result.andThen_ok]
     cases hud:i.ud with
     |interface ms=>exact absurd hud (hni _)
     |_=>rfl
   ·cases h
  ·cases h
 ·rename_i fn first captured
  split at h
  ·rename_i a b ha hb
   cases h
   refine sv ⟨.func fn (first.map ρ) (captured.map ρ),rfl, ?_⟩
   have e1:=N5 hev ha
   have e2:=N5 hev hb
   have f1:first.map ρ=⟨first.toList.map ρ⟩:=by apply Array.toList_inj.1;simp
   have f2:captured.map ρ=⟨captured.toList.map ρ⟩:=by apply Array.toList_inj.1;simp
   rw [f1,f2];exact .func _ _ _ _ _ e1 e2
  ·cases h
 ·rename_i t x lo hi
  split at h
  ·cases h
  ·rename_i a ha
   have hx:=hev _ _ ha
   refine sv ?_
   split at h
   ·exact NV htt H h hx .none .none
   ·split at h
    ·rename_i l hl;exact NV htt H h hx (.some _ _ (hev _ _ hl)) .none
    ·cases h
   ·split at h
    ·rename_i l hl;exact NV htt H h hx .none (.some _ _ (hev _ _ hl))
    ·cases h
   ·split at h
    ·rename_i l m hl hm;exact NV htt H h hx (.some _ _ (hev _ _ hl)) (.some _ _ (hev _ _ hm))
    ·cases h
 ·split at h
  ·rename_i a ha;exact sv (Ue htt w h (hev _ _ ha))
  ·cases h
 ·split at h
  ·rename_i a ha;exact sv (iX htt w h (hev _ _ ha))
  ·cases h
 ·split at h
  ·rename_i a b ha hb;exact sv (Ur htt w h (hev _ _ ha) (hev _ _ hb))
  ·cases h
 ·split at h
  ·rename_i a b ha hb;exact sv (jI htt w h (hev _ _ ha) (hev _ _ hb))
  ·cases h
 ·split at h
  ·rename_i a b ha hb;exact sv (eA htt H h (hev _ _ ha) (hev _ _ hb))
  ·cases h
 ·rename_i t i
  split at h
  ·rename_i l hl
   have hva:=hev _ _ hl
   refine sv ?_
   generalize ρ t=rt at hva
   cases hva with
   |tuple _ l' hll=>
   obtain ⟨x',hx',hxv⟩:=hll.get h
   have:(⟨l'⟩:Array Value)[i]? = some x':=by simpa using hx'
   exact ⟨x',by simp only [Instr.extract,this];rfl,hxv⟩
  ·cases h
 ·split at h
  ·rename_i a ha;exact sv (c8 htt w h (hev _ _ ha))
  ·cases h
 ·rename_i args ats
  split at h
  ·rename_i x t ts he1 he2
   split at h
   ·rename_i a ha
    obtain ⟨args⟩:=args
    obtain ⟨ats⟩:=ats
    dsimp only at he1 he2
    subst he1;subst he2
    have:=vC htt H (r:=ty) (ts:=⟨t :: ts⟩) h (hev _ _ ha) rfl
    refine ⟨v, ?_,DG _ _ this.2⟩
    simp only [execOp,resolve,Sem.run_bind,Sem.run_pure,Result.andThen_ok,invoke,builtin]
    have e:(List.map ρ [x]).toArray= #[ρ x]:=rfl
    simp only [List.map_toArray,e,this.1,Result.andThen_ok]
   ·cases h
  ·cases h
 ·rename_i args ats
  split at h
  ·rename_i x y he1
   split at h
   ·rename_i k a k' b ha hb
    cases h
    obtain ⟨args⟩:=args
    dsimp only at he1
    subst he1
    have e1:=(hev _ _ ha).GY
    have e2:=(hev _ _ hb).GY
    refine ⟨.int k (if b < a then b else a), ?_, ?_⟩
    ·simp only [execOp,resolve,Sem.run_bind,Sem.run_pure,Result.andThen_ok,invoke,builtin,List.map_toArray,List.map_cons,List.map_nil,e1,e2,Builtin.min_,Builtin.min2,List.foldlM_cons,List.foldlM_nil]
    ·rw [U5]
     by_cases hlt:b < a
     ·simp only [hlt,decide_true,if_true];exact .int _ _
     ·simp only [hlt,decide_false,if_false];exact .int _ _
   ·cases h
  ·cases h
 ·rename_i args ats
  split at h
  ·rename_i x y he1
   split at h
   ·rename_i k a k' b ha hb
    cases h
    obtain ⟨args⟩:=args
    dsimp only at he1
    subst he1
    have e1:=(hev _ _ ha).GY
    have e2:=(hev _ _ hb).GY
    refine ⟨.int k (if b > a then b else a), ?_, ?_⟩
    ·simp only [execOp,resolve,Sem.run_bind,Sem.run_pure,Result.andThen_ok,invoke,builtin,List.map_toArray,List.map_cons,List.map_nil,e1,e2,Builtin.max_,Builtin.max2,List.foldlM_cons,List.foldlM_nil]
    ·rw [U5]
     by_cases hlt:a < b
     ·simp only [hlt,decide_true,GT.gt,if_true];exact .int _ _
     ·simp only [hlt,decide_false,GT.gt,if_false];exact .int _ _
   ·cases h
  ·cases h
 ·cases h
end Go.Dm
namespace Go.Dm
theorem HR.move {φ:Ren}{own:Nat→Prop}{hp:Hp}{w w':World}(h:HR φ own hp w)(i b:Nat)(o o':A8)(L L':Loc)
  (hb:hp b=some o) (hrw:o.rw=true) (hL:φ b=some L) (hi:φ i=none) (hblk:L'.BT=L.BT) (hsz:w'.heap.size=w.heap.size) (hoth:∀k,k≠L.BT→w'.heap[k]? = w.heap[k]?)
  (hx:EA (φ.ext i L') L' o' w'.heap[L.BT]?):HR (φ.ext i L') own (fun j=>if j=i then some o' else if j=b then none else hp j) w':=by
 have hle:=Ren.EZ (L:=L') hi
 have hib:i≠b:=fun e=>by subst e;rw [hi] at hL;cases hL
 have hphi:∀j M,φ.ext i L' j=some M→j≠i→φ j=some M:=fun j M e hj=>by simpa [Ren.ext,hj] using e
 refine ⟨?_, ?_, ?_, ?_, ?_⟩
 ·intro j oj e
  split at e
  ·rename_i hj;subst hj;cases e;exact ⟨L',Ren.A9 ..,by rw [hblk];exact hx⟩
  ·split at e
   ·cases e
   ·rename_i hj hjb
    obtain ⟨M,hM,hok⟩:=h.obj j oj e
    have:=h.sep b j o oj L M hb e (fun e=>hjb e.symm) hrw hL hM
    exact ⟨M,hle _ _ hM,by rw [hoth _ (Ne.symm this)];exact hok.mono hle⟩
 ·intro j k oj ok Lj Lk hj hk hne hrj hLj hLk
  by_cases ej:j=i
  ·subst ej
   have ek:k≠j:=fun e=>hne e.symm
   simp only [ek,if_false] at hk
   have:Lj=L':=by rw [Ren.A9] at hLj;exact (Option.some.inj hLj).symm
   subst this
   split at hk
   ·cases hk
   ·rename_i hkb
    rw [hblk];exact h.sep b k o ok L Lk hb hk (fun e=>hkb e.symm) hrw hL (hphi _ _ hLk ek)
  ·simp only [ej,if_false] at hj
   split at hj
   ·cases hj
   ·rename_i hjb
    by_cases ek:k=i
    ·subst ek
     have:Lk=L':=by rw [Ren.A9] at hLk;exact (Option.some.inj hLk).symm
     subst this
     rw [hblk];exact h.sep j b oj o Lj L hj hb hjb hrj (hphi _ _ hLj ej) hL
    ·simp only [ek,if_false] at hk
     split at hk
     ·cases hk
     ·exact h.sep j k oj ok Lj Lk hj hk hne hrj (hphi _ _ hLj ej) (hphi _ _ hLk ek)
 ·intro j oj Lj hj hrj hLj
  by_cases ej:j=i
  ·subst ej
   have:Lj=L':=by rw [Ren.A9] at hLj;exact (Option.some.inj hLj).symm
   subst this;rw [hblk];exact h.D0 b o L hb hrw hL
  ·simp only [ej,if_false] at hj
   split at hj
   ·cases hj
   ·exact h.D0 j oj Lj hj hrj (hphi _ _ hLj ej)
 ·intro j Lj hLj
  by_cases ej:j=i
  ·subst ej
   have:Lj=L':=by rw [Ren.A9] at hLj;exact (Option.some.inj hLj).symm
   subst this;rw [hblk,hsz];exact h.val b L hL
  ·rw [hsz];exact h.val j Lj (hphi _ _ hLj ej)
 ·intro b hb;exact h.fresh b (by omega)
abbrev A6:=List (Nat×Option A8)
def Hp.set(hp:Hp)(i:Nat)(o:Option A8):Hp:=fun j=>if j=i then o else hp j
def Hp.Ac (hp:Hp):A6→Hp
 | []=>hp
 | (i,o) :: us=>(hp.set i o).Ac us
structure E8(φ:Ren)(own:Nat→Prop)(w:World)(v:Value)(hp':Hp)(top':Nat)(v':Value)(w':World)(φ':Ren):Prop where
 le:φ.le φ'
 v:V φ' v v'
 hr:HR φ' own hp' w'
 k:K own w w'
 top:∀j,top'≤j→φ' j=none
def Au:List Value→Bool
 | []=>true
 |v :: l=>v.oneCell' && Au l
theorem eF{φ:Ren}{v v':Value}(h:V φ v v'):v'.oneCell' = v.oneCell':=by cases h <;> rfl
theorem JE{φ:Ren}:∀ {l l':List Value},Vs φ l l'→Au l' = Au l
 |_,_, .nil=>rfl
 |_,_, .cons _ _ _ _ h hl=>by simp[Au,eF h,JE hl]
theorem Ren.J3{φ:Ren}{i j:Nat}{L:Loc}(h:φ j=none)(hj:j≠i):φ.ext i L j=none:=by simp[Ren.ext,hj,h]
theorem E5 {φ:Ren}{own:Nat→Prop}{hp:Hp}{w:World}(H:HR φ own hp w){top:Nat}(ht:∀j,top≤j→φ j=none){vs vs':List Value}(hv:Vs φ vs vs')(CA:Nat)(e:TypeId)(extra:List Value)(n:Nat)(hz:BQ≤CA→∃m,CA / BQ=1+e+4096 * m∧e < 4095∧(m=0∨m=vs.length+extra.length)) :
  ∃L:Loc,L.BT=w.heap.size∧L.off=0∧L.CA=dT true CA∧L.PY=vs.length+extra.length∧φ.le (φ.ext top L)∧φ.ext top L top=some L∧
   HR (φ.ext top L) own (hp.set top (some (.cells true CA vs))) {w with heap:=w.heap.push (.cells ⟨vs' ++ extra⟩ e),drawn:=n}∧
   K own w {w with heap:=w.heap.push (.cells ⟨vs' ++ extra⟩ e),drawn:=n}∧(∀j,top+1≤j→φ.ext top L j=none):=by
 refine ⟨⟨w.heap.size,0,dT true CA,vs.length+extra.length⟩,rfl,rfl,rfl,rfl,Ren.EZ (ht _ (Nat.le_refl _)),Ren.A9 .., ?_,K.alloc _ _ _ _ rfl,fun j hj=>Ren.J3 (ht j (by omega)) (by omega)⟩
 refine H.alloc top (.cells true CA vs) _ _ n (ht _ (Nat.le_refl _)) rfl ?_
 refine ⟨rfl,_,_,_,rfl, ?_, ?_, ?_,⟨fun _=>Nat.le_refl _,(fun h=>by cases h),fun _ h=>by obtain ⟨m,h1,h2,h3⟩:=hz h;exact ⟨m,h1,h2,rfl,h3⟩⟩⟩
 ·simp [hv.length]
 ·simp
 ·have:((vs' ++ extra).drop 0).take vs.length=vs':=by simp [←hv.length]
  show Vs φ vs (((vs' ++ extra).drop 0).take vs.length)
  rw [this];exact hv
theorem E1 (P:Program)(g off:Nat)(t:TypeId)(fz:Nat×Nat)(hfz:fz.2≤fz.1) :
  ∀(vs:List Value) (i:Nat) (w:World) (c:Array Value),w.heap[g]? = some (.cells c t fz)→off+i+vs.length≤c.size→Au vs=true→
   ∃w',(storeCells ⟨g,off,none⟩ vs i).run P w= .ok () w'∧w'.heap[g]? = some (.cells ⟨A1 c.toList (off+i) vs⟩ t fz)∧w'.heap.size=w.heap.size∧(∀k,k≠g→w'.heap[k]? = w.heap[k]?)∧w'.os=w.os∧w'.tape=w.tape∧w'.output=w.output:=by
 intro vs
 induction vs with
 |nil=>
  intro i w c hg _ _
  exact ⟨w,rfl,by rw [hg];simp [A1],rfl,fun _ _=>rfl,rfl,rfl,rfl⟩
 |cons v vs ih=>
  intro i w c hg hlen ho
  simp only [List.length_cons] at hlen
  simp only [Au,Bool.and_eq_true] at ho
  have hlt:off+i < c.size:=by omega
  have hc:w.cell? ⟨g,off+i,none⟩=some c[off+i]:=by simp [World.cell?,hg,hlt]
  have hf:w.frozen? ⟨g,off+i,none⟩=false:=by simp [World.frozen?,hg];omega
  have hg':(w.setCell ⟨g,off+i,none⟩ v).heap[g]? = some (.cells (c.setIfInBounds (off+i) v) t fz):=by
   simp [World.setCell,Array.getElem?_modify,hg]
  obtain ⟨w',h1,h2,h3,h4,h5,h6,h7⟩:=ih (i+1) (w.setCell ⟨g,off+i,none⟩ v) _ hg' (by simp;omega) ho.2
  refine ⟨w', ?_, ?_, ?_, ?_,h5,h6,h7⟩
  ·simp only [storeCells,addr_add,Sem.run_bind,run_store P w _ v _ ho.1,hc,hf,Bool.false_eq_true,if_false,Result.andThen_ok,h1]
  ·rw [h2]
   congr 3
   unfold A1
   have hlt':off+i < c.toList.length:=by simpa using hlt
   simp only [Array.toList_setIfInBounds]
   rw [show off+(i+1)=off+i+1 from rfl,List.take_add_one,List.take_set_of_le (Nat.le_refl _),List.getElem?_set_self hlt',List.drop_set_of_lt (by omega)]
   simp only [Option.toList_some,List.append_assoc,List.length_cons,List.cons_append,List.nil_append]
   rw [show off+i+1+vs.length=off+i+(vs.length+1) from by omega]
  ·rw [h3];simp
  ·intro k hk
   rw [h4 k hk]
   simp [World.setCell,Array.getElem?_modify,Ne.symm hk]
theorem Fv {P:Program}{φ:Ren}{own:Nat→Prop}{hp:Hp}{w:World}(H:HR φ own hp w){b o CA:Nat}{vs xs xs':List Value}{L:Loc}(hb:hp b=some (.cells true CA vs))(hL:φ b=some L)
  (hx:Vs φ xs xs') (hlen:o+xs.length≤vs.length) (ho:Au xs=true) :
  ∃w',(storeCells ⟨L.BT,L.off+o,none⟩ xs' 0).run P w= .ok () w'∧HR φ own (hp.set b (some (.cells true CA (A1 vs o xs)))) w'∧K own w w':=by
 obtain ⟨L',hL',hok⟩:=H.obj _ _ hb
 rw [hL] at hL';cases hL'
 obtain ⟨he,c,ty,fz,hg,hsz,hlim,hvs,hfz⟩:=hok
 obtain ⟨w',h1,h2,h3,h4,h5,h6,h7⟩:=E1 P L.BT (L.off+o) ty fz (hfz.1 rfl) xs' 0 w c hg (by rw [hx.length];omega) (by rw [JE hx];exact ho)
 refine ⟨w',h1, ?_,⟨by omega,fun k hk hn=>h4 k fun e=>hn (by subst e;exact H.D0 b _ L hb rfl hL),h5,h6,h7⟩⟩
 refine H.put b _ (.cells true CA (A1 vs o xs)) L hb rfl hL h3 h4 ?_
 refine ⟨he,_,ty,fz,h2, ?_, ?_, ?_,hfz⟩
 ·have:(A1 c.toList (L.off+o+0) xs').length=c.toList.length:=Dw (by rw [hx.length];simp;omega)
  simpa [hsz] using this
 ·rw [Dw (by omega)];exact hlim
 ·rw [Dw (by omega)]
  have e:((A1 c.toList (L.off+o+0) xs').drop L.off).take vs.length=A1 ((c.toList.drop L.off).take vs.length) o xs':=by
   have hxl:=hx.length
   have hcl:c.toList.length=L.PY:=by simpa using hsz
   apply List.ext_getElem?
   intro j
   unfold A1
   simp only [List.getElem?_take,List.getElem?_drop,List.getElem?_append,List.length_append,List.length_take,List.length_drop,hcl,hxl,Nat.add_zero]
   repeat' split
   all_goals first
    |omega
    |rfl
    | (congr 1;omega)
    | (rw [List.getElem?_eq_none (by omega)];done)
    | (rw [List.getElem?_eq_none (by simp;omega)];done)
  rw [e];exact XV o hvs hx
def Ba (tt:AM)(t:TypeId):Nat:=match tt t with
 |none=>0
 |some i=>match i.ud with
  | .struct ⟨f :: _⟩=>match f.name == "addr" && Nat.blt t 4095 with
   |true=>BQ * (1+t+4096 * i.size)
   |false=>0
  |_=>0
theorem Vz {tt:AM}{t:TypeId}{i:TI}(hi:tt t=some i)(h:BQ≤Ba tt t):∃m,Ba tt t / BQ=1+t+4096 * m∧t < 4095∧(m=0∨m=i.size):=by
 have h0:¬BQ≤0:=by decide
 unfold Ba at h ⊢
 rw [hi] at h ⊢
 dsimp only at h ⊢
 split at h
 ·split at h
  ·rename_i hb
   rw [Bool.and_eq_true] at hb
   exact ⟨i.size,Nat.mul_div_cancel_left _ (by decide),Nat.le_of_ble_eq_true hb.2, .inr rfl⟩
  ·exact absurd h h0
 ·exact absurd h h0
def Io (tt:AM)(top:Nat)(t:TypeId):Option (Value×A6×Nat):=
 match tt t with
 |none=>none
 |some i=>match Au (Ar i.zero) with
  |true=>some (.pointer (some ⟨top,0,none⟩), [(top,some (.cells true (Ba tt t) (Ar i.zero)))],top+1)
  |false=>none
section
variable {P:Program} {tt:AM} (htt:Cy P tt) {φ:Ren} {own:Nat→Prop} {hp:Hp} {w:World} (H:HR φ own hp w) {top top':Nat} (htop:∀j,top≤j→φ j=none) {v:Value} {us:A6}
include htt H htop
theorem RE {x x':Value}(hx:V φ x x')(e:TypeId)(CA:Nat)(hz:BQ≤CA→∃m,CA / BQ=1+e+4096 * m∧e < 4095∧(m=0∨m=(Ar x).length+0)) :
  ∃v' w' φ',(do pure (Value.pointer (some (←newVar e x'))):Sem Value).run P w= .ok v' w'∧E8 φ own w (.pointer (some ⟨top,0,none⟩)) (hp.Ac [(top,some (.cells true CA (Ar x)))]) (top+1) v' w' φ'∧∃L,φ' = φ.ext top L:=by
 have _:=htt
 have hv:=F1 hx
 obtain ⟨L,h1,h2,h3,h4,h5,h6,h7,h8,h9⟩:=E5 H htop hv CA e [] w.drawn hz
 refine ⟨.pointer (some ⟨L.BT,L.off+0,none⟩),_,_, ?_,⟨h5, .ptr _ _ L h6,h7,h8,h9⟩,L,rfl⟩
 have:(⟨Ar x' ++ []⟩:Array Value)=x'.cells:=by apply Array.toList_inj.1;simp [Du]
 simp only [newVar,newRow,Sem.run_bind,run_newObj,Result.andThen_ok,Sem.run_pure,this,h1,h2]
theorem TP {x x':Value}(hx:V φ x x')(e:TypeId) :
  ∃v' w' φ',(do pure (Value.pointer (some (←newVar e x'))):Sem Value).run P w= .ok v' w'∧E8 φ own w (.pointer (some ⟨top,0,none⟩)) (hp.Ac [(top,some (.cells true 0 (Ar x)))]) (top+1) v' w' φ'∧∃L,φ' = φ.ext top L:=
 RE htt H htop hx e 0 (fun h=>absurd h (by decide))
theorem V3 {t:TypeId}(h:Io tt top t=some (v,us,top')) :
  ∃v' w' φ',(Instr.alloc t true (.tuple #[])).run P w= .ok v' w'∧E8 φ own w v (hp.Ac us) top' v' w' φ'∧∃L,φ' = φ.ext top L:=by
 unfold Io at h
 split at h
 ·cases h
 ·rename_i i hi
  split at h
  ·cases h
   have ht:=htt _ _ hi
   obtain ⟨v',w',φ',h1,h2⟩:=RE htt H htop (DG (φ:=φ) _ _ ht.plain) t (Ba tt t) (fun h=>by
    have hl:(Ar i.zero).length=i.size:=ht.xX
    rw [hl];exact Vz hi h)
   refine ⟨v',w',φ', ?_,h2⟩
   simp only [Instr.alloc,Sem.run_bind,ht.Ek,Result.andThen_ok]
   exact h1
  ·cases h
end
def gb (top:Nat)(x:Value):Value×A6×Nat:=(.pointer (some ⟨top,0,none⟩), [(top,some (.cells true 0 (Ar x)))],top+1)
theorem HD (zero:Array Value)(len size:Nat)(hz:zero.size=size) :
  ((Array.range (len * size)).map (fun i=>zero[i % zero.size]!)).toList=(List.replicate len zero.toList).flatten:=by
 subst hz
 induction len with
 |zero=>simp
 |succ n ih=>
  rw [List.replicate_succ',List.flatten_append,←ih]
  simp only [Array.toList_map,Array.toList_range]
  rw [Nat.succ_mul,List.range_add,List.map_append]
  congr 1
  simp only [List.flatten_cons,List.flatten_nil,List.append_nil,List.map_map]
  apply List.ext_getElem?
  intro j
  simp only [List.getElem?_map,Array.getElem?_toList]
  by_cases hj:j < zero.size
  ·rw [List.getElem?_range hj]
   simp only [Option.map_some,Function.comp]
   have:(n * zero.size+j) % zero.size=j:=by rw [Nat.mul_comm,Nat.mul_add_mod];exact Nat.mod_eq_of_lt hj
   rw [this];simp [hj]
  ·rw [List.getElem?_eq_none (by simpa using hj)];simp [Array.getElem?_eq_none (by omega:zero.size≤j)]
def E2 (i:TI)(n:Nat):List Value:=(List.replicate n (Ar i.zero)).flatten
theorem Eo {P:Program}{t:TypeId}{i:TI}(ht:Ly P t i)(n:Nat):(E2 i n).length=n * i.size:=by
 have h:(Ar i.zero).length=i.size:=by
  have h1:=ht.xX
  unfold Ar;exact h1
 simp [E2,h]
theorem me{P:Program}{t:TypeId}{i:TI}(ht:Ly P t i):i.zero.cells.size=i.size:=by
 rw[←Array.length_toList,Du]
 have h1:=ht.xX
 unfold Ar;exact h1
def Ch (tt:AM)(ev:Operand→Option Value)(top:Nat)(t:TypeId)(len:Nat)(parts:Array (Nat×Operand)):Option (Value×A6×Nat):=
 match tt t with
 |none=>none
 |some i=>match i.ud with
  | .slice e=>match tt e,Fo ev parts.toList with
   |some j,some ps=>
    match Nat.ble (len * j.size) 16777216 with
    |false=>none
    |true=>match J4 (fun q=>some (q * j.size,j.size)) (E2 j len) ps with
     |some r=>some (.slice (some ⟨top,0,none⟩) len len, [(top,some (.cells true j.size r))],top+1)
     |none=>none
   |_,_=>none
  |_=>none
theorem Uf:∀ {l:List (Nat×Value)} {place:Nat→Option (Nat×Nat)} {cs r:List Value},J4 place cs l=some r→r.length=cs.length:=by
 intro l
 induction l with
 |nil=>intro place cs r h;cases h;rfl
 |cons p l ih=>
  obtain ⟨i,v⟩:=p
  intro place cs r h
  simp only [J4] at h
  split at h
  ·cases h
  ·split at h
   ·rename_i h1
    split at h
    ·rename_i h2
     have h1':=Nat.eq_of_beq_eq_true h1
     have h2':=Nat.le_of_ble_eq_true h2
     rw [ih h,Dw (by omega)]
    ·cases h
   ·cases h
section
variable {P:Program} {tt:AM} (htt:Cy P tt) {φ:Ren} {own:Nat→Prop} {hp:Hp} {w:World} (H:HR φ own hp w) {top top':Nat} (htop:∀j,top≤j→φ j=none) {v:Value} {us:A6}
include htt H htop
theorem LM {ev:Operand→Option Value}{ρ:Operand→Value}(hev:∀x v,ev x=some v→V φ v (ρ x)){t:TypeId}{len:Nat}{parts:Array (Nat×Operand)}
  (h:Ch tt ev top t len parts=some (v,us,top')) :
  ∃v' w' φ',(Instr.buildSlice t len (parts.map fun (i,x)=>(i,ρ x))).run P w= .ok v' w'∧E8 φ own w v (hp.Ac us) top' v' w' φ'∧∃L,φ' = φ.ext top L:=by
 unfold Ch at h
 split at h
 ·cases h
 ·rename_i i hi
  have ht:=htt _ _ hi
  split at h
  ·rename_i e hud
   split at h
   ·rename_i j ps hj hps
    have htj:=htt _ _ hj
    split at h
    ·cases h
    ·rename_i hle
     have hle':=Nat.le_of_ble_eq_true hle
     split at h
     ·rename_i r hr
      cases h
      have hP:=Qt hev hps
      have hl:(parts.map fun (i,x)=>(i,ρ x)).toList=parts.toList.map fun p=>(p.1,ρ p.2):=by simp
      have hzv:Vs φ (Ar j.zero) (Ar j.zero):=F1 (DG _ _ htj.plain)
      have key:∀zero:Array Value,(zero= #[]∧len * j.size=0∨zero=j.zero.cells)→
        Vs φ (E2 j len) ((Array.range (len * j.size)).map (zero[· % zero.size]!)).toList:=by
       intro zero hz
       rcases hz with ⟨rfl,h0⟩ | rfl
       ·have:E2 j len= []:=List.eq_nil_of_length_eq_zero (by rw [Eo htj,h0])
        rw [this,h0];simp;exact .nil
       ·rw [HD _ _ _ (me htj),Du]
        exact Vs.flatten hzv
      have hrl:=Uf hr
      rw [Eo htj] at hrl
      have fin:∀zero:Array Value,(zero= #[]∧len * j.size=0∨zero=j.zero.cells)→∃r',Instr.fill (fun i=>some (i * j.size,j.size)) ((Array.range (len * j.size)).map (zero[· % zero.size]!)) (parts.map fun (i,x)=>(i,ρ x)).toList=some r'∧Vs φ r r'.toList:=by
       intro zero hz;rw [hl];exact Qv hP (key zero hz) hr
      have hno:¬(len * j.size > 2 ^ 24):=by omega
      have run:∃r':Array Value,Vs φ r r'.toList∧(Instr.buildSlice t len (parts.map fun (i,x)=>(i,ρ x))).run P w= .ok (.slice (some ⟨w.heap.size,0,none⟩) len len) {w with heap:=w.heap.push (.cells r' e)}:=by
       by_cases h0:len * j.size=0
       ·obtain ⟨r',h1,h2⟩:=fin #[] (.inl ⟨rfl,h0⟩)
        refine ⟨r',h2, ?_⟩
        simp only [Instr.buildSlice,Sem.run_bind,ht.A7,Result.andThen_ok,hud,htj.Bd,hno,if_false,if_pos h0,Sem.run_pure]
        simp only [h1,Sem.run_bind,newRow,run_newObj,Result.andThen_ok,Sem.run_pure]
       ·obtain ⟨r',h1,h2⟩:=fin j.zero.cells (.inr rfl)
        refine ⟨r',h2, ?_⟩
        simp only [Instr.buildSlice,Sem.run_bind,ht.A7,Result.andThen_ok,hud,htj.Bd,hno,if_false,if_neg h0,htj.Ek,Sem.run_pure]
        simp only [h1,Sem.run_bind,newRow,run_newObj,Result.andThen_ok,Sem.run_pure]
      obtain ⟨⟨r'⟩,hv,hrun⟩:=run
      obtain ⟨L,h1,h2,h3,h4,h5,h6,h7,h8,h9⟩:=E5 H htop hv j.size e [] w.drawn (fun h=>absurd h (by have:=htj.small;omega))
      rw [GX htj.small] at h3
      refine ⟨.slice (some ⟨L.BT,L.off+0,none⟩) len len,_,_, ?_,⟨h5, .slice _ _ _ _ _ L h6 (Nat.le_refl _) (Nat.le_refl _) ?_,h7,h8,h9⟩,L,rfl⟩
      ·rw [hrun,h1,h2];simp
      ·rw [h2,h3,h4,hrl];simp
     ·cases h
   ·cases h
  ·cases h
end
end Go.Dm
namespace Go.Dm
def JM (i:TI)(hp:Hp)(b o:Nat)(x:Value):Option A6:=
 match hp b with
 |some (.cells true CA vs)=>
  let xs:=Ar x
  match Nat.beq xs.length i.size && Nat.ble (o+xs.length) vs.length && Au xs with
  |true=>some [(b,some (.cells true CA (A1 vs o xs)))]
  |false=>none
 |_=>none
def DW (tt:AM)(top:Nat)(t:TypeId)(r:Option Value):Option (Value×A6×Nat):=
 match tt t with
 |some i=>match i.ud,r with
  | .map _ _,none=>some (.map (some top), [(top,some (.map [] 0))],top+1)
  | .map _ _,some (.int _ _)=>some (.map (some top), [(top,some (.map [] 0))],top+1)
  |_,_=>none
 |none=>none
def Di (tt:AM)(top:Nat)(t:TypeId)(l c:Value):Option (Value×A6×Nat):=
 match tt t,l,c with
 |some i, .int .i64 (.ofNat l), .int .i64 (.ofNat c)=>match i.ud with
  | .slice e=>match tt e with
   |some j=>
    match Nat.ble l c && Nat.ble (j.bytes * c) 1099511627776 && Nat.ble c 1099511627776 with
    |true=>some (.slice (some ⟨top,0,none⟩) l c, [(top,some (.cells true j.size (E2 j c)))],top+1)
    |false=>none
   |none=>none
  |_=>none
 |_,_,_=>none
def Co (hp:Hp)(size n:Nat)(x:Value):Option (List Value):=
 match x with
 | .slice (some ⟨b,o,none⟩) _ _=>match hp b with
  |some (.cells _ _ vs)=>let xs:=(vs.drop o).take (n * size)
   match Nat.beq xs.length (n * size) with
   |true=>some xs
   |false=>none
  |_=>none
 | .slice none _ _=>match Nat.beq (n * size) 0 with
  |true=>some []
  |false=>none
 | .slice (some ⟨0,0,some 0⟩) 0 0=>match Nat.beq n 0 with
  |true=>some []
  |false=>none
 | .string s=>match Nat.ble n s.data.toList.length with
  |true=>some ((s.data.toList.take n).map fun b=> .int .u8 b.toNat)
  |false=>none
 |_=>none
theorem IK {P:Program}{φ:Ren}{own:Nat→Prop}{hp:Hp}{w:World}(H:HR φ own hp w){size n:Nat}{x x':Value}{xs:List Value}(h:Co hp size n x=some xs)(hx:V φ x x') :
  ∃xs',(∀d,(Builtin.firstCells size n x').run P {w with drawn:=d} = .ok ⟨xs'⟩ {w with drawn:=d})∧Vs φ xs xs':=by
 unfold Co at h
 split at h
 ·rename_i b o l c
  split at h
  ·rename_i rw' CA vs hb
   dsimp only at h
   split at h
   ·rename_i hl
    cases h
    have hl':=Nat.eq_of_beq_eq_true hl
    cases hx with
    |slice _ _ _ _ c' L hL hn hc hlim=>
    obtain ⟨L',hL',hok⟩:=H.obj _ _ hb
    rw [hL] at hL';cases hL'
    obtain ⟨_,cc,ty,fz,hg,hsz,hlim',hvs,_⟩:=hok
    simp only [List.length_take,List.length_drop] at hl'
    refine ⟨(cc.toList.drop (L.off+o)).take (n * size),fun d=> ?_, ?_⟩
    ·by_cases h0:n * size=0
     ·simp [Builtin.firstCells,loadCells,h0,loadCellsFrom]
     ·simp only [Builtin.firstCells,loadCells,run_loadCellsFrom P {w with drawn:=d} L.BT (L.off+o) cc ty fz hg (n * size) 0 #[] (by omega)]
      simp
    ·have:=(hvs.drop o).take (n * size)
     rw [List.drop_take,List.take_take,List.drop_drop] at this
     rwa [Nat.min_eq_left (by omega)] at this
   ·cases h
  ·cases h
 ·split at h
  ·cases h;cases hx;exact ⟨[],fun _=>rfl, .nil⟩
  ·cases h
 ·split at h
  ·rename_i hz
   have hz':=Nat.eq_of_beq_eq_true hz
   cases h;cases hx
   exact ⟨[],fun d=>by simp [Builtin.firstCells,loadCells,hz',loadCellsFrom], .nil⟩
  ·cases h
 ·rename_i s
  split at h
  ·rename_i hl
   cases h;cases hx
   refine ⟨_,fun d=> ?_,Vs.NP ?_⟩
   ·simp only [Builtin.firstCells,Sem.run_pure]
    congr 1
    apply Array.toList_inj.1
    simp [ByteArray.data_extract,List.extract_eq_take_drop]
   ·intro y hy
    obtain ⟨b,_,rfl⟩:=List.mem_map.1 hy
    exact .int _ _
  ·cases h
 ·cases h
theorem da {P:Program}{φ:Ren}{own:Nat→Prop}{hp:Hp}{w:World}(H:HR φ own hp w){size n:Nat}{x x':Value}{xs:List Value}(h:Co hp size n x=some xs)(hx:V φ x x') :
  ∃xs',(Builtin.firstCells size n x').run P w= .ok ⟨xs'⟩ w∧Vs φ xs xs':=by
 obtain ⟨xs',h1,h2⟩:=IK (P:=P) H h hx
 exact ⟨xs',h1 w.drawn,h2⟩
def G9:Value→Option Nat
 | .slice _ n _=>some n
 | .string s=>some s.data.toList.length
 |_=>none
theorem Q5{P:Program}{φ:Ren}{x x':Value}{n:Nat}(w:World)(h:G9 x=some n)(hx:V φ x x'):(Builtin.lenOf x').run P w= .ok n w:=by
 unfold G9 at h
 split at h
 ·cases h;cases hx <;> rfl
 ·cases h;cases hx;rfl
 ·cases h
def Dz:TypeDesc→Bool
 | .int _=>true
 |_=>false
def Cu (n b:Nat):Bool:=Nat.ble n 281474976710656 && Nat.ble (n * b) 140737488355328
theorem CO {n b:Nat}(h1:n≤16777216)(h2:b≤65536):Cu n b=true:=by
 unfold Cu
 rw [Bool.and_eq_true]
 have:=Nat.mul_le_mul h1 h2
 exact ⟨Nat.ble_eq_true_of_le (by omega),Nat.ble_eq_true_of_le (by omega)⟩
def AK (tt:AM)(hp:Hp)(top:Nat)(ts:List TypeId)(s x:Value):Option (Value×A6×Nat):=
 match ts with
 | [t0,t1]=>match tt t0,tt t1,G9 x with
  |some i,some i1,some n=>
   match Dz i1.ud with
   |true=>none
   |false=>match i.ud with
   | .slice e=>match tt e with
    |none=>none
    |some j=>match Co hp j.size n x with
     |none=>none
     |some new=>
      match Nat.ble j.bytes 65536 && Au new && Nat.beq new.length (n * j.size) with
      |false=>none
      |true=>match s with
       | .slice none 0 0=>match Nat.beq n 0 with
        |true=>some (.slice none 0 0, [(top,none)],top+1)
        |false=>match Cu n j.bytes with
         |true=>some (.slice (some ⟨top,0,none⟩) n n, [(top,some (.cells true j.size new))],top+1)
         |false=>none
       | .slice (some ⟨b,o,none⟩) sl c=>match hp b with
        |some (.cells true CA vs)=>
         match Nat.beq CA j.size with
         |false=>none
         |true=>match Nat.ble (sl+n) c && !Nat.beq sl c with
          |true=>match Nat.ble (o+sl * j.size+new.length) vs.length with
           |true=>some (.slice (some ⟨b,o,none⟩) (sl+n) c, [(b,some (.cells true CA (A1 vs (o+sl * j.size) new)))],top)
           |false=>none
          |false=>match Nat.beq (o+sl * j.size) vs.length && Cu (sl+n) j.bytes with
           |true=>some (.slice (some ⟨top,0,none⟩) (sl+n) (sl+n), [(b,none),(top,some (.cells true CA (vs.drop o ++ new)))],top+1)
           |false=>none
        |_=>none
       |_=>none
   |_=>none
  |_,_,_=>none
 |_=>none
def Su (tt:AM)(hp:Hp)(ts:List TypeId)(d s:Value):Option (Value×A6):=
 match ts with
 |t0 :: _=>match tt t0,d,G9 s with
  |some i, .slice base dl _,some sl=>match i.ud with
   | .slice e=>match tt e with
    |none=>none
    |some j=>match Co hp j.size (Nat.min sl dl) s with
     |none=>none
     |some new=>match base with
      |none=>some (.int .i64 (Int.ofNat (Nat.min sl dl)), [])
      |some ⟨b,o,none⟩=>match hp b with
       |some (.cells true CA vs)=>match Nat.ble (o+new.length) vs.length && Au new with
        |true=>some (.int .i64 (Int.ofNat (Nat.min sl dl)), [(b,some (.cells true CA (A1 vs o new)))])
        |false=>none
       |_=>none
      |_=>none
   |_=>none
  |_,_,_=>none
 | []=>none
def Nx (tt:AM)(hp:Hp)(ts:List TypeId)(x:Value):Option A6:=
 match ts with
 |t0 :: _=>match tt t0,x with
  |some _, .map none=>some []
  |some _, .slice none _ _=>some []
  |some i, .slice (some ⟨b,o,none⟩) n _=>match Nat.beq n 0 with
   |true=>some []
   |false=>match i.ud with
    | .slice e=>match tt e,hp b with
     |some j,some (.cells true CA vs)=>match Nat.ble (o+n * j.size) vs.length && Au (E2 j n) with
      |true=>some [(b,some (.cells true CA (A1 vs o (E2 j n))))]
      |false=>none
     |_,_=>none
    |_=>none
  |_,_=>none
 | []=>none
def ET (tt:AM)(hp:Hp)(t:TypeId)(m k x:Value):Option A6:=
 match tt t,m with
 |some i, .map (some b)=>match i.ud,hp b with
  | .map kt _,some (.map es CG)=>match tt kt,KM tt 64 kt k with
   |some _,true=>match HZ tt kt k es 0 with
    |some (some (j,_))=>match es[j]? with
     |some e0=>match plain 8 k && plain 8 e0.key && Instr.sameBits 10000 e0.key k with
      |true=>some [(b,some (.map (es.set j {e0 with key:=k,val:=x}) CG))]
      |false=>none
     |none=>none
    |some none=>some [(b,some (.map (es ++ [{key:=k,val:=x,born:=CG}]) (CG+1)))]
    |none=>none
   |_,_=>none
  |_,_=>none
 |_,_=>none
def Kp (tt:AM)(hp:Hp)(ts:List TypeId)(m k:Value):Option A6:=
 match ts with
 |t :: _=>match tt t,m with
  |some i, .map none=>match i.ud with
   | .map kt _=>match KM tt 64 kt k with
    |true=>some []
    |false=>none
   |_=>none
  |some i, .map (some b)=>match i.ud,hp b with
   | .map kt _,some (.map es CG)=>match tt kt,KM tt 64 kt k with
    |some _,true=>match HZ tt kt k es 0 with
     |some (some (j,_))=>some [(b,some (.map (es.eraseIdx j) CG))]
     |some none=>some [(b,some (.map es CG))]
     |none=>none
    |_,_=>none
   |_,_=>none
  |_,_=>none
 | []=>none
theorem XB {φ:Ren}:∀(n:Nat) {v v':Value},plain n v=true→V φ v v'→v' = v:=by
 intro n
 induction n with
 |zero=>intro v v' h;cases h
 |succ n ih=>
  have all:∀ {l l':List Value},l.all (plain n)=true→Vs φ l l'→l' = l:=by
   intro l
   induction l with
   |nil=>intro l' _ h;cases h;rfl
   |cons x l ihl=>
    intro l' ha h
    cases h with
    |cons _ x' _ l' hx hl=>
    simp only [List.all_cons,Bool.and_eq_true] at ha
    rw [ih ha.1 hx,ihl ha.2 hl]
  intro v v' h hv
  cases hv with
  |bool | int | str | nilp | nils | nilm | nilf | nili=>rfl
  |ptr i o L hL=>simp [plain] at h
  |slice i o n c c' L hL hn hc hl=>simp [plain] at h
  |emp a c=>simp [plain] at h
  |map i L hL=>simp [plain] at h
  |func fn a a' b b' ha hb=>simp only [plain,Bool.and_eq_true] at h;rw [all h.1 ha,all h.2 hb]
  |iface t x x' hx=>simp only [plain] at h;rw [ih h hx]
  |agg a a' ha=>simp only [plain] at h;rw [all h ha]
  |tuple a a' ha=>simp only [plain] at h;rw [all h ha]
theorem wrap_i64 {n:Nat}(h:n≤9223372036854775807):IntKind.i64.wrap (Int.ofNat n)=Int.ofNat n:=by
 rw [←En];unfold Ad;simp only
 have:Nat.ble n (VQ .i64)=true:=by rw [Nat.ble_eq];exact h
 rw [this]
section
variable {P:Program} {tt:AM} (htt:Cy P tt) {φ:Ren} {own:Nat→Prop} {hp:Hp} {w:World} (H:HR φ own hp w) {top top':Nat} (htop:∀j,top≤j→φ j=none) {v:Value} {us:A6}
include htt H htop
theorem lJ {t:TypeId}{i:TI}(hi:tt t=some i){b o:Nat}{x x':Value}(h:JM i hp b o x=some us){L:Loc}(hL:φ b=some L)(hx:V φ x x') :
  ∃w',(storeVar t ⟨L.BT,L.off+o,none⟩ x').run P w= .ok () w'∧E8 φ own w undef (hp.Ac us) top undef w' φ:=by
 unfold JM at h
 split at h
 ·rename_i CA vs hb
  dsimp only at h
  split at h
  ·rename_i hc
   cases h
   simp only [Bool.and_eq_true] at hc
   obtain ⟨⟨h1,h2⟩,h3⟩:=hc
   have h1':=Nat.eq_of_beq_eq_true h1
   have h2':=Nat.le_of_ble_eq_true h2
   obtain ⟨w',e1,e2,e3⟩:=Fv (P:=P) H hb hL (F1 hx) h2' h3
   refine ⟨w', ?_,⟨Ren.le_refl _, .tuple _ _ .nil,e2,e3,htop⟩⟩
   have hs:x'.cells.size=i.size:=by rw [←Array.length_toList,Du,(F1 hx).length,h1']
   simp only [storeVar,Sem.run_bind,(htt _ _ hi).Bd,Result.andThen_ok,hs,ne_eq,not_true_eq_false,if_false,Du,e1]
  ·cases h
 ·cases h
theorem JD {t:TypeId}{r r':Option Value}(hr:OV φ r r')(h:DW tt top t r=some (v,us,top')) :
  ∃v' w' φ',(Instr.makeMap t r').run P w= .ok v' w'∧E8 φ own w v (hp.Ac us) top' v' w' φ'∧∃L,φ' = φ.ext top L:=by
 unfold DW at h
 have new:∃v' w' φ',(do pure (Value.map (some (←newObj (.map #[] 0)))):Sem Value).run P w= .ok v' w'∧E8 φ own w (.map (some top)) (hp.Ac [(top,some (.map [] 0))]) (top+1) v' w' φ'∧∃L,φ' = φ.ext top L:=by
  have hn:=htop _ (Nat.le_refl top)
  refine ⟨.map (some w.heap.size), {w with heap:=w.heap.push (.map #[] 0),drawn:=w.drawn},φ.ext top ⟨w.heap.size,0,0,0⟩,rfl,⟨Ren.EZ hn, .map _ _ (Ren.A9 ..), ?_,K.alloc _ _ _ _ rfl,fun j hj=>Ren.J3 (htop j (by omega)) (by omega)⟩,_,rfl⟩
  exact H.alloc top (.map [] 0) _ _ _ hn rfl ⟨#[],rfl, .nil⟩
 split at h
 ·rename_i i hi
  split at h
  ·cases h;cases hr;exact new
  ·rename_i hud
   cases h;cases hr with
   |some _ _ hv=>
   cases hv
   obtain ⟨v',w',φ',h1,h2⟩:=new
   refine ⟨v',w',φ', ?_,h2⟩
   simp only [Instr.makeMap,Sem.run_bind,(htt _ _ hi).A7,hud,Result.andThen_ok,asInt,asIntOf,Sem.run_pure] at h1 ⊢
   exact h1
  ·cases h
 ·cases h
theorem ND {t:TypeId}{l c l' c':Value}(hl:V φ l l')(hc:V φ c c')(h:Di tt top t l c=some (v,us,top')) :
  ∃v' w' φ',(Instr.makeSlice t l' c').run P w= .ok v' w'∧E8 φ own w v (hp.Ac us) top' v' w' φ'∧∃L,φ' = φ.ext top L:=by
 unfold Di at h
 split at h
 ·rename_i i l c hi
  cases hl;cases hc
  have ht:=htt _ _ hi
  split at h
  ·rename_i e hud
   split at h
   ·rename_i j hj
    have htj:=htt _ _ hj
    split at h
    ·rename_i hcond
     cases h
     simp only [Bool.and_eq_true] at hcond
     obtain ⟨⟨h1,h2⟩,h3⟩:=hcond
     have h1':=Nat.le_of_ble_eq_true h1
     have h2':=Nat.le_of_ble_eq_true h2
     have h3':=Nat.le_of_ble_eq_true h3
     obtain ⟨x,hx,_,hxb,_⟩:=htj.info
     have hti:(typeInfo e).run P w= .ok x w:=by simp [typeInfo,hx]
     have hzv:Vs φ (Ar j.zero) (Ar j.zero):=F1 (DG _ _ htj.plain)
     have key:∀zero:Array Value,(zero= #[]∧c * j.size=0∨zero=j.zero.cells)→
       Vs φ (E2 j c) ((Array.range (c * j.size)).map (zero[· % zero.size]!)).toList:=by
      intro zero hz
      rcases hz with ⟨rfl,h0⟩ | rfl
      ·have:E2 j c= []:=List.eq_nil_of_length_eq_zero (by rw [Eo htj,h0])
       rw [this,h0];simp;exact .nil
      ·rw [HD _ _ _ (me htj),Du]
       exact Vs.flatten hzv
     have run:∃r':Array Value,Vs φ (E2 j c) r'.toList∧(Instr.makeSlice t (.int .i64 (Int.ofNat l)) (.int .i64 (Int.ofNat c))).run P w= .ok (.slice (some ⟨w.heap.size,0,none⟩) l c) {w with heap:=w.heap.push (.cells r' e)}:=by
      have g1:¬((decide (Int.ofNat c < 0) || decide (((x.bytes:Nat):Int) * Int.ofNat c > 2 ^ 48))=true∨Int.ofNat l < 0∨Int.ofNat l > Int.ofNat c):=by
       have hb:((x.bytes:Nat):Int) * Int.ofNat c≤2 ^ 48:=by
        rw [hxb]
        have:((j.bytes * c:Nat):Int)≤((1099511627776:Nat):Int):=Int.ofNat_le.2 h2'
        have e2:((j.bytes:Nat):Int) * Int.ofNat c=((j.bytes * c:Nat):Int):=(Int.natCast_mul j.bytes c).symm
        rw [e2];omega
       have:Int.ofNat l≤Int.ofNat c:=by simpa using h1'
       simp only [Bool.or_eq_true,decide_eq_true_eq]
       have h4:(0:Int)≤Int.ofNat c:=by simp
       have h5:(0:Int)≤Int.ofNat l:=by simp
       omega
      have w1:=wrap_i64 (n:=l) (by omega)
      have w2:=wrap_i64 (n:=c) (by omega)
      by_cases h0:c * j.size=0
      ·refine ⟨_,key #[] (.inl ⟨rfl,h0⟩), ?_⟩
       simp only [Instr.makeSlice,Sem.run_bind,ht.A7,Result.andThen_ok,hud,asInt,asIntOf,Sem.run_pure,hti,w1,w2]
       rw [Sem.run_ite,if_neg (by simpa using g1)]
       have e3:(Int.ofNat c).toNat=c:=rfl
       have e4:(Int.ofNat l).toNat=l:=rfl
       simp only [Sem.run_bind,run_askRoom,htj.Bd,Result.andThen_ok,e3,e4,Sem.run_ite,if_pos h0,Sem.run_pure,newRow,run_newObj]
      ·refine ⟨_,key j.zero.cells (.inr rfl), ?_⟩
       simp only [Instr.makeSlice,Sem.run_bind,ht.A7,Result.andThen_ok,hud,asInt,asIntOf,Sem.run_pure,hti,w1,w2]
       rw [Sem.run_ite,if_neg (by simpa using g1)]
       have e3:(Int.ofNat c).toNat=c:=rfl
       have e4:(Int.ofNat l).toNat=l:=rfl
       simp only [Sem.run_bind,run_askRoom,htj.Bd,Result.andThen_ok,e3,e4,Sem.run_ite,if_neg h0,htj.Ek,Sem.run_pure,newRow,run_newObj]
     obtain ⟨⟨r'⟩,hv,hrun⟩:=run
     obtain ⟨L,k1,k2,k3,k4,k5,k6,k7,k8,k9⟩:=E5 H htop hv j.size e [] w.drawn (fun h=>absurd h (by have:=htj.small;omega))
     rw [GX htj.small] at k3
     refine ⟨.slice (some ⟨L.BT,L.off+0,none⟩) l c,_,_, ?_,⟨k5, .slice _ _ _ _ _ L k6 h1' (Nat.le_refl _) ?_,k7,k8,k9⟩,L,rfl⟩
     ·rw [hrun,k1,k2];simp
     ·rw [k2,k3,k4,Eo htj];simp
    ·cases h
   ·cases h
  ·cases h
 ·cases h
end
end Go.Dm
