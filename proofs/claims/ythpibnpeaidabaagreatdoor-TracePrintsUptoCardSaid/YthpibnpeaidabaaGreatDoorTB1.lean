import Derived.Test.YthpibnpeaidabaaGreatDoorDmK
import Derived.Test.YthpibnpeaidabaaGreatDoorDmJ
import Derived.Test.YthpibnpeaidabaaGreatDoorShelf
import Derived.Lib.ItoaLen
import Derived.Lib.ItoaMem
import Derived.Shelf.Spec.TrailingZeros
set_option linter.unusedVariables false
namespace Go.Proofs.YthpibnpeaidabaaGreatDoor.Dm
open Go.Dm
set_option maxHeartbeats 16000000
def Tryz.QJ:Go.Shelf.Ren:=⟨fun | 29=>89 | n=>n,fun | 22=>28 | 3=>3 | 4=>4 | 25=>121 | 54=>175 | 0=>0 | 5=>5 | n=>n,fun | 1=>2 | n=>n⟩
theorem Tryz.gZ:Go.Proofs.Lays7.n29 Tryz.prog Go.Proofs.YthpibnpeaidabaaGreatDoor.Dm.Tryz.QJ:= {
  mixed:=by kernel_rfl
  f29:=Tryz.func89.trans (congrArg some (by kernel_rfl))
  t0:=Tryz.underlying0
  a0:=Tryz.isAgg0
  z0:=Tryz.sizeOf0
  v0:=Tryz.zeroValue0
  i0:=by kernel_rfl
  t3:=Tryz.underlying3
  a3:=Tryz.isAgg3
  z3:=Tryz.sizeOf3
  v3:=Tryz.zeroValue3
  i3:=by kernel_rfl
  t4:=Tryz.underlying4
  a4:=Tryz.isAgg4
  z4:=Tryz.sizeOf4
  v4:=Tryz.zeroValue4
  i4:=by kernel_rfl
  t5:=Tryz.underlying5
  a5:=Tryz.isAgg5
  z5:=Tryz.sizeOf5
  v5:=Tryz.zeroValue5
  i5:=by kernel_rfl
  t22:=Tryz.underlying28
  a22:=Tryz.isAgg28
  z22:=Tryz.sizeOf28
  v22:=Tryz.zeroValue28
  i22:=by kernel_rfl
  t25:=Tryz.underlying121
  a25:=Tryz.isAgg121
  z25:=Tryz.sizeOf121
  v25:=Tryz.zeroValue121
  i25:=by kernel_rfl
  t54:=Tryz.underlying175
  a54:=Tryz.isAgg175
  z54:=Tryz.sizeOf175
  g1:=by kernel_rfl}
open Go.RowKit in
theorem bits_TrailingZeros64 (x:Nat)(hx:x < 18446744073709551616)(w:World)(hT:x≠0→Go.Proofs.TabAt 2 Lib.deBruijn64tab w) :
    Calls Tryz.prog 89 #[.int .u64 x] w fun e w'=>e= .returned (.int .i64 (Lib.ctz 64 x))∧w' = w:=Any7.bits_TrailingZeros64 Go.Proofs.YthpibnpeaidabaaGreatDoor.Dm.Tryz.gZ x hx w hT
def FE (k:IntKind)(l:List Nat):List Value:=l.map fun n:Nat=>Value.int k ((n:Nat):Int)
def sU (g:Nat)(k:IntKind)(l:List Nat):Ay:= .cells false (BB+4096 * l.length+g) (FE k l)
theorem Xx {φ:Ren}{k:IntKind}:∀ {l:List Nat} {m:List Value},Vs φ (FE k l) m→m=FE k l
  | [],_,h=>by cases h;rfl
  |n :: l,_,h=>by
    cases h with
    |cons _ x _ m hx hm=>
      cases hx
      rw [Xx (l:=l) hm];rfl
theorem WU {φ:Ren}{own:Nat→Prop}{hp:Hp}{w:World}(H:HR φ own hp w){i g:Nat}{k:IntKind}{l:List Nat}(hg:g < 4096)(h:hp i=some (sU g k l)):∃ct cf,w.heap[g]? = some (.cells (FE k l).toArray ct cf):=by
  obtain ⟨L,hL,he,c,t,fz,h1,h2,h3,h4,h5⟩:=H.obj _ _ h
  obtain ⟨h6,h7,h8⟩:=h5.2.1 rfl (by omega)
  have hlen:(FE k l).length=l.length:=by simp [FE]
  have hb:L.BR=g:=by omega
  have hm:L.Dp=l.length:=by omega
  rw [hb] at h1
  refine ⟨t,fz, ?_⟩
  rw [h1]
  have hv:=Xx h4
  rw [h7,List.drop_zero,hlen,←hm,←h2] at hv
  have e:c.toList.take c.size=c.toList:=List.take_of_length_le (by simp)
  rw [e] at hv
  congr 2
  rw [←hv]
theorem iP {w:World}{g:Nat}{k:IntKind}{l:List Nat}{ct:TypeId}{cf:Nat×Nat}(h:w.heap[g]? = some (.cells (FE k l).toArray ct cf))(j:Nat)(hj:j < l.length):w.cell? ⟨g,j,none⟩=some (.int k (l.getD j 0:Nat)):=by
  simp [World.cell?,h,FE,hj,List.getD]
theorem K.KD {w w':World}(h:Go.RowKit.Below w.heap.size w w'):K (fun b=>w.heap.size≤b) w w':=⟨h.size,fun b hb _=>h.block b hb,h.os,h.tape,h.output⟩
theorem AK.Mu {P:Program}{f:FuncId}{args:List Value}{hp:Hp}{top:Nat}{r:Value}(hr:plain 3 r=true)
    (h:∀φ own w args',Vs φ args args'→HR φ own hp w→Calls P f ⟨args'⟩ w fun e w'=>e= .returned r∧Go.RowKit.Below w.heap.size w w'):AK P f args hp top fun v hp' top'=>v=r∧hp' = hp∧top' = top:=by
  intro φ own w args' ha H htop
  refine (h φ own w args' ha H).mono ?_
  rintro e w' ⟨rfl,hb⟩
  have k:=K.KD hb
  exact ⟨r,hp,top,r,φ,rfl,⟨rfl,rfl,rfl⟩,⟨Ren.le_refl _,Cc _ _ hr,H.stay k,K.L9 H.fresh k,htop⟩⟩
def U9:Ay:=sU 2 .u8 Lib.deBruijn64tab
def Ri (n:Int):Prop:=0≤n∧n < 18446744073709551616
theorem yM:∃fn,FTOk Tryz.prog 89 fn:=⟨_,X2.toFTOk⟩
def UR:BG:= .pure (fun args hp=>match args with | [.int .u64 x]=>Ri x∧hp 0=some U9 | _=>False) (fun args _=>match args with | [x]=> .int .i64 (Lib.ctz 64 (intOf x).toNat:Nat) | _=>undef)
theorem pz:Aw Tryz.prog 89 UR:=by
  refine ⟨yM,fun args hp hpre top=> ?_⟩
  match args,hpre with
  | [.int .u64 x],⟨⟨h0,h1⟩,ht⟩=>
  refine AK.Mu rfl fun φ own w args' ha H=> ?_
  cases ha with
  |cons _ _ _ _ hx hl=>
  cases hx
  cases hl
  obtain ⟨m,rfl⟩:=Int.eq_ofNat_of_zero_le h0
  obtain ⟨ct,cf,hc⟩:=WU H (by omega) ht
  refine (bits_TrailingZeros64 m (by omega) w fun _ j hj=>iP hc j hj).mono ?_
  rintro e w' ⟨rfl,rfl⟩
  exact ⟨rfl,Go.RowKit.Below.refl _ _⟩
def RN:List Nat:=(List.range 20).map fun i=>10 ^ i
def Rb:Ay:=sU 1 .u64 RN
theorem YE {φ:Ren}{own:Nat→Prop}{hp:Hp}{w:World}(H:HR φ own hp w)(h:hp 1=some Rb):Lib.TabIs Tryz.prog w "internal/strconv.uint64pow10" .u64 Lib.pow10Tab:=by
  obtain ⟨ct,cf,hc⟩:=WU H (by omega) h
  have hg:Tryz.prog.globalNamed "internal/strconv.uint64pow10" = some 1:=by kernel_rfl
  unfold Lib.TabIs World.var?
  rw [hg]
  simp only [Option.bind_some,hc]
  congr 2
def Co:BG:= .pure (fun args hp=>match args with | [.int .i64 n]=>0≤n∧n≤9223372036854775807∧hp 1=some Rb | _=>False) (fun args _=>match args with | [n]=> .string ⟨⟨Lib.itoa (intOf n)⟩⟩ | _=>undef)
theorem nF:Aw Tryz.prog 35 Co:=by
  refine ⟨⟨_,Xa.toFTOk⟩,fun args hp hpre top=> ?_⟩
  match args,hpre with
  | [.int .i64 x],⟨h0,h1,ht⟩=>
  refine AK.Mu rfl fun φ own w args' ha H=> ?_
  cases ha with
  |cons _ _ _ _ hx hl=>
  cases hx
  cases hl
  refine (Tryz.strconv_Itoa x (by omega) h1 w (YE H ht)).mono ?_
  rintro e w' ⟨rfl,k,os,rfl⟩
  exact ⟨rfl,⟨rfl,rfl,rfl,by simp [Go.Sort.grow,World.drewN],fun i hi=>by simp [Go.Sort.grow,World.drewN,Array.getElem?_append,hi]⟩⟩
def Iv:BG:= .pure (fun args hp=>match args with | [v, .string ⟨⟨sep⟩⟩]=>HJ AU hp v∧(AU.rd hp v).length≤140737488355328∧(Lib.join (AU.rd hp v) sep).length≤140737488355328 | _=>False)
  (fun args hp=>match args with | [v,s]=> .string ⟨⟨Lib.join (AU.rd hp v) (strOf s)⟩⟩ | _=>undef)
theorem oL:Aw Tryz.prog 37 Iv:=by
  refine ⟨⟨_,XO.toFTOk⟩,fun args hp hpre top=> ?_⟩
  match args,hpre with
  | [v, .string ⟨⟨sep⟩⟩],⟨⟨l,h⟩,h1,h2⟩=>
  rw [h.rd] at h1 h2
  simp only [h.rd,Ba]
  refine AK.Mu rfl fun φ own w args' ha H=> ?_
  cases ha with
  |cons _ v' _ _ hx hl=>
  cases hl with
  |cons _ s' _ _ hs hl=>
  cases hs
  cases hl
  cases h with
  |nils=>
    cases hx
    refine (Tryz.strings_Join_none none 0 ⟨⟨sep⟩⟩ w).mono ?_
    rintro e w' ⟨rfl,rfl⟩
    exact ⟨rfl,Go.RowKit.Below.refl _ _⟩
  |emp=>
    cases hx with
    |emp a' c'=>
      refine (Tryz.strings_Join_none (some a') c' ⟨⟨sep⟩⟩ w).mono ?_
      rintro e w' ⟨rfl,rfl⟩
      exact ⟨rfl,Go.RowKit.Below.refl _ _⟩
  |rows b o c rw vs l hb hv ho hc hn=>
    cases hx with
    |slice _ _ _ _ c' L hL hn' hc' hl'=>
      obtain ⟨L',hL',hok⟩:=H.obj _ _ hb
      rw [hL] at hL';cases hL'
      obtain ⟨_,cc,ty,fz,hg,hsz,hlim,hvs,_⟩:=hok
      obtain ⟨xs,hxs⟩:∃xs:List ByteArray,xs=l.map fun x=>⟨⟨x⟩⟩:=⟨_,rfl⟩
      have hxl:xs.length=l.length:=by rw [hxs];simp
      have hxd:xs.map (·.data.toList)=l:=by rw [hxs,List.map_map];simp [Function.comp_def]
      have hsz1:AU.size=1:=rfl
      have hcell:∀(j:Nat) x,xs[j]? = some x→w.cell? ⟨L.BR,L.off+o+j,none⟩=some (.string x):=by
        intro j x hj
        have hjl:j < l.length:=by
          rw [←hxl]
          rcases Nat.lt_or_ge j xs.length with h | h
          · exact h
          · rw [List.getElem?_eq_none h] at hj;cases hj
        have h3:(AU.flat l)[j]? = some (.string x):=by
          rw [hxs,List.getElem?_map] at hj
          have:AU.flat l=l.map fun x=>Value.string ⟨⟨x⟩⟩:=by
            clear hj hv ho hc hn hn' hl' hjl hxl hxd hxs h1 h2
            induction l with
            |nil=>rfl
            |cons a l ih=>rw [Bk.CB,ih];rfl
          rw [this,List.getElem?_map]
          cases hl:l[j]? with
          |none=>rw [hl] at hj;cases hj
          |some y=>rw [hl] at hj;cases hj;rfl
        rw [←hv] at h3
        rw [List.getElem?_take,hsz1,Nat.mul_one,if_pos hjl,List.getElem?_drop] at h3
        obtain ⟨x',h4,h5⟩:=hvs.get h3
        have h6:=h5.Kf
        subst h6
        have hlt:o+j < vs.length:=by
          rcases Nat.lt_or_ge (o+j) vs.length with h | h
          · exact h
          · rw [List.getElem?_eq_none h] at h3;cases h3
        rw [List.getElem?_take,if_pos hlt,List.getElem?_drop] at h4
        simp only [World.cell?,hg]
        rw [Nat.add_assoc]
        simpa using h4
      have:=Tryz.strings_Join L.BR (L.off+o) c' xs ⟨⟨sep⟩⟩ w hcell (H.val _ _ hL) (by rw [hxl];exact h1) (by rw [hxl];omega) (by rw [hxd];exact h2)
      rw [hxl,hxd] at this
      refine this.mono ?_
      rintro e w' ⟨rfl,hbw⟩
      exact ⟨rfl,hbw⟩
abbrev Bn:= {x:Int // 1≤x∧x≤256}
instance:Inhabited Bn:=⟨⟨1,by decide⟩⟩
def VE (n:Int):Bn:=if h:1≤n∧n≤256 then ⟨n,h⟩ else ⟨1,by decide⟩
theorem Sn {n:Int}(h:1≤n∧n≤256):(VE n).1=n:=by unfold VE;rw [dif_pos h]
theorem Hv {w:Nat}(h:¬w=0):w &&& (w - 1) < w:=Nat.lt_of_le_of_lt Nat.and_le_right (by omega)
def wl (i:Nat)(w:Nat):List Bn:=if h:w=0 then [] else VE ((i * 64+Lib.ctz 64 w+1:Nat):Int) :: wl i (w &&& (w - 1))
termination_by w
decreasing_by exact Hv h
theorem Wr {i:Nat}:wl i 0= []:=by rw [wl];simp
theorem Xw {i w:Nat}(h:¬w=0):wl i w=VE ((i * 64+Lib.ctz 64 w+1:Nat):Int) :: wl i (w &&& (w - 1)):=by rw [wl,dif_neg h]
theorem fL {w:Nat}(h:¬w=0)(hw:w < 18446744073709551616):Lib.ctz 64 w < 64:=(Lib.lowest_bit 64 w h hw).2
def wd (b:AX):Nat→Int
  |0=>b.x0
  |1=>b.x1
  |2=>b.x2
  |_=>b.x3
def Fs (b:AX):Prop:=Ri b.x0∧Ri b.x1∧Ri b.x2∧Ri b.x3
theorem Fs.wd {b:AX}(h:Fs b):∀i,Ri (wd b i)
  |0=>h.1
  |1=>h.2.1
  |2=>h.2.2.1
  |_+3=>h.2.2.2
def JL (b:AX)(i:Nat):List Bn:=((List.range' i (4 - i)).map fun k=>wl k (wd b k).toNat).flatten
def CJ (b:AX):List Bn:=JL b 0
theorem O9 {b:AX}:JL b 4= []:=rfl
theorem Fc {b:AX}{i:Nat}(h:i < 4):JL b i=wl i (wd b i).toNat ++ JL b (i+1):=by
  unfold JL
  have e:4 - i=(4 - (i+1))+1:=by omega
  rw [e,List.range'_succ,List.map_cons,List.flatten_cons]
theorem SD {b:AX}{i:Nat}(h:i < 4):((Ea.enc b)[i]?).getD undef= .int .u64 (wd b i):=by
  rcases i with _ | _ | _ | _ | i
  · rfl
  · rfl
  · rfl
  · rfl
  · omega
theorem Jp {x:Nat}(h:x < 18446744073709551616):(BitVec.ofInt 64 (x:Int)).toNat=x:=by
  rw [BitVec.toNat_ofInt];omega
theorem VC {x:Nat}:IntKind.u64.wrap ((x % 18446744073709551616:Nat):Int)=((x % 18446744073709551616:Nat):Int):=by
  simp [IntKind.wrap,IntKind.signed,IntKind.bits]
theorem Fl {x y:Nat}(hx:x < 18446744073709551616)(hy:y < 18446744073709551616):EH .and .u64 (x:Int) (y:Int)=((x &&& y:Nat):Int):=by
  have h1:x &&& y < 18446744073709551616:=Nat.lt_of_le_of_lt Nat.and_le_left hx
  have e:(BitVec.ofInt 64 (x:Int) &&& BitVec.ofInt 64 (y:Int)).toNat=x &&& y:=by rw [BitVec.toNat_and,Jp hx,Jp hy]
  show IntKind.u64.wrap ((BitVec.ofInt 64 (x:Int) &&& BitVec.ofInt 64 (y:Int)).toNat:Int)=_
  rw [e]
  have:=VC (x:=x &&& y)
  rwa [Nat.mod_eq_of_lt h1] at this
theorem wrap_u64 {n:Int}(h:0≤n)(h2:n < 18446744073709551616):AP .u64 n=n:=Rc (by simpa [IntKind.signed,IntKind.bits] using h) (by simpa [IntKind.signed,IntKind.bits] using h2)
def iq (W:World):Prop:= ∃ct cf,W.heap[2]? = some (.cells (FE .u8 Lib.deBruijn64tab).toArray ct cf)
def zI:Ren:=fun j=>if j=0 then some ⟨2,0,BB+4096 * 64+2,64⟩ else none
def wa:Hp:=fun i=>if i=0 then some U9 else none
theorem gM {φ:Ren}{own:Nat→Prop}{hp:Hp}{w:World}(H:HR φ own hp w)(h:hp 0=some U9):iq w:=WU H (by omega) h
theorem Ed:Mem iq zI wa 1:=by
  refine ⟨?_,fun j hj=>by simp [zI];omega, ?_⟩
  · rintro W ⟨ct,cf,hc⟩
    have hro:∀i o,wa i=some o→i=0∧o=U9:=by
      intro i o e
      unfold wa at e
      split at e
      · rename_i h;cases e;exact ⟨h,rfl⟩
      · cases e
    refine ⟨?_, ?_, ?_, ?_,fun b hb=>hb⟩
    · intro i o e
      obtain ⟨rfl,rfl⟩:=hro i o e
      refine ⟨_,rfl,rfl,_,ct,cf,hc,rfl, ?_, ?_,⟨fun e=>(by cases e),(fun _ _=>⟨by decide,rfl,by decide⟩),fun e=>(by cases e)⟩⟩
      · decide
      · show Vs zI (FE .u8 Lib.deBruijn64tab) (((FE .u8 Lib.deBruijn64tab).drop 0).take _)
        rw [List.drop_zero,List.take_length]
        refine Vs.HD fun v hv=> ?_
        unfold FE at hv
        obtain ⟨n,_,rfl⟩:=List.mem_map.1 hv
        exact .int _ _
    · intro i j oi oj Li Lj hi hj hne
      obtain ⟨rfl,rfl⟩:=hro i oi hi
      obtain ⟨rfl,rfl⟩:=hro j oj hj
      exact absurd rfl hne
    · intro i o L e hr
      obtain ⟨rfl,rfl⟩:=hro i o e
      cases hr
    · intro i L e
      unfold zI at e
      split at e
      · cases e;exact (Array.getElem?_eq_some_iff.1 hc).1
      · cases e
  · rintro W W' ⟨ct,cf,hc⟩ hb
    exact ⟨ct,cf,by rw [hb.block 2 (Array.getElem?_eq_some_iff.1 hc).1];exact hc⟩
theorem lC:∀(W:World) (l:Nat) (o o':Obj),W.heap[l]? = some o→o.isCells=false→iq W→iq (W.putObj l o'):=by
  rintro W l o o' hl hc ⟨ct,cf,h⟩
  refine ⟨ct,cf, ?_⟩
  have hne:2≠l:=fun e=>by
    subst e
    rw [h] at hl;cases hl;cases hc
  rw [Il hne];exact h
def G0:FuncId→BG:=fun _=> .none
theorem Da:B4 Tryz.prog tt.get G0:=⟨A7,fun _=>trivial⟩
def Ge:FuncId→BG:=BQ G0 89 UR
theorem VO:B4 Tryz.prog tt.get Ge:=Da.add pz
theorem vP:Ge 89=UR:=rfl
def lU (x:Bn):Value:= .int .i64 x.1
def yS (l:Nat)(b:AX)(c1:Code)(x:Exit)(s':SS):Prop:=x= .normal∧∃fr',Mk fr' s'.fr∧nu fr'∧
      ∀(J Jx:List Bn→World→Prop) (B:Nat),AbidesFrom B J→AbidesFrom B Jx→(∀pre y W1,J pre W1→pre.length < (CJ b).length→YieldAt Fence.wide 1 Tryz.prog l #[lU y] W1 fun e W'=>(e= .returned (.bool true)∧J (pre ++ [y]) W'∧(iq W1→iq W'))∨(e= .returned (.bool false)∧Jx (pre ++ [y]) W'))→
        CE Tryz.prog 26 iq J Jx c1 fr' ([],false) (xz (fun xs=>xs=CJ b) (fun pre=>pre <+:CJ b))
theorem fp {h:Hp}{t:Nat}{vs:List Value}:TE h t vs t=some (.cells false 0 vs):=by simp [TE]
def yv (l:Nat):Value:= .func (.yield l) ⟨[]⟩ ⟨[]⟩
def bv (b:AX):Value:= .agg ⟨Ea.enc b⟩
def fmO (l:Nat)(b:AX)(x:Nat×List Bn):B0×(List Bn×Bool):=([(0,yv l,true),(5,bv b,true),(6, .int .i64 (x.1:Int),true)],(x.2,false))
def fmI (l:Nat)(b:AX)(i:Nat)(x:Nat×List Bn):B0×(List Bn×Bool):=([(0,yv l,true),(5,bv b,true),(6, .int .i64 (i:Int),true),(3, .int .i64 (i:Int),true),(4, .int .u64 (x.1:Int),true)],(x.2,false))
theorem V5 (b:AX)(hb:Fs b){φ:Ren}{own:Nat→Prop}{hp:Hp}{W:World}{gb:Nat}{rw:Bool}{caps':List Value}(hz:hp 0=some U9)(hgb:hp gb=some (.cells rw 0 (Ea.enc b)))(hV:Vs φ [.pointer (some ⟨gb,0,none⟩)] caps')(H:HR φ own hp W) :
    SeqStopsK Fence.wide 2 Tryz.prog 88 ⟨caps'⟩ (fun x:Bn=> #[lU x]) (fun A B=>iq A→iq B) (fun xs=>xs=CJ b) (fun pre=>pre <+:CJ b) (CJ b).length W:=by
  cases hV with
  |cons _ cv _ _ hx hl=>
  cases hl
  cases hx with
  |ptr _ _ L hL=>
  obtain ⟨L',hL',hok⟩:=H.obj _ _ hgb
  rw [hL] at hL';cases hL'
  obtain ⟨_,cc,ct,cf,hg,hsz,hlim,hvs,_⟩:=hok
  have hv2:(cc.toList.drop L.off).take (Ea.enc b).length=Ea.enc b:=by
    have h4:(Ea.enc b).length=4:=rfl
    generalize hm:(cc.toList.drop L.off).take (Ea.enc b).length=m at hvs
    rw [BT] at hvs ⊢
    cases hvs with
    |cons _ _ _ _ g1 hvs=>cases g1;cases hvs with
      |cons _ _ _ _ g1 hvs=>cases g1;cases hvs with
        |cons _ _ _ _ g1 hvs=>cases g1;cases hvs with
          |cons _ _ _ _ g1 hvs=>cases g1;cases hvs;rfl
  refine UQ (fn:=Tryz.f88) QB rfl rfl (by decide) rfl Ed (fun i o e=> ?_) (gM H hz) hg (by rw [hsz];exact hlim) hv2 (fun v hv=> ?_) ?_
  · unfold wa at e
    split at e
    · cases e;rfl
    · cases e
  · rw [BT] at hv
    simp only [List.mem_cons,List.not_mem_nil,or_false] at hv
    rcases hv with rfl | rfl | rfl | rfl <;> rfl
  intro l
  show CW _ _ _ _ _ (yS l b _)
  refine CW.vc VO [0,1,3,4,5,6,7,11,24] (by kernel_rfl) ?_
  (repeat ((try refine Vc.mk' ?_);simp (maxSteps:=6000000) only [go_sem,Nat.reduceAdd,fp]))
  refine ⟨rfl, [(0,yv l,true),(5,bv b,true),(6, .int .i64 ((0:Nat):Int),true)], .of (by simp [RZ,BU,yv,bv,BT]), .of (by simp [Vj,Sc,F5,yv,bv,BT]), ?_⟩
  intro J Jx B hJ hJx hY
  refine CE.block ?_
  refine CE.loop (fmO l b) (fun x=>x.1≤4∧x.2 ++ JL b x.1=CJ b) (fun x=>4 - x.1) (0, []) ⟨by omega,rfl⟩ (.of (by simp [RZ,BU,fmO])) rfl ?_
  rintro ⟨i,pre⟩ ⟨hi,hpre⟩
  have hi4:(i:Int) < 4 ↔ i < 4:=by omega
  refine CE.seq (CE.of Ed hJ hJx ?_)
  · refine CW.vc VO [0,1,3,4,5,6,7,11,24] (by kernel_rfl) ?_
    (repeat ((try refine Vc.mk' ?_);simp (maxSteps:=6000000) only [go_sem,fmO,yv,bv]))
    refine Kk.mk [(0,yv l,true),(5,bv b,true),(6, .int .i64 (i:Int),true),(7, .bool (decide (i < 4)),true)] (by simp [RZ,BU,yv,bv,BT,hi4]) (by simp [Vj,Sc,F5,yv,bv,BT]) ?_
    refine CE.seq (CE.cond (b:=decide (i < 4)) rfl ?_)
    by_cases hlt:i < 4
    · rw [if_pos (by simpa using hlt)]
      refine CE.of Ed hJ hJx (CW.skip ?_)
      refine Kk.mk [(0,yv l,true),(5,bv b,true),(6, .int .i64 (i:Int),true)] (by simp [RZ,BU]) (by simp [Vj,Sc,F5,yv,bv,BT]) ?_
      refine CE.seq (CE.block (CE.seq (CE.of Ed hJ hJx ?_)))
      refine CW.vc VO [0,1,3,4,5,6,7,11,24] (by kernel_rfl) ?_
      have hbg:=SD (b:=b) hlt
      obtain ⟨w0,hw0⟩:∃w0:Nat,wd b i=(w0:Int):=Int.eq_ofNat_of_zero_le (hb.wd i).1
      have hwlt:w0 < 18446744073709551616:=by have:=(hb.wd i).2;omega
      rw [hw0] at hbg
      (repeat ((try refine Vc.mk' ?_);simp (maxSteps:=6000000) only [go_sem,Nat.reduceAdd,yv,bv,Hb,Int.toNat_natCast,Nat.mul_one,hlt]))
      simp only [BT] at hbg
      refine Kk.mk [(0,yv l,true),(5,bv b,true),(6, .int .i64 (i:Int),true),(3, .int .i64 (i:Int),true),(4, .int .u64 (w0:Int),true)] (by simp [RZ,BU,yv,bv,BT,hbg]) (by simp [Vj,Sc,F5,yv,bv,BT]) ?_
      refine CE.block ?_
      refine CE.loop (fmI l b i) (fun x=>x.1 < 18446744073709551616∧x.2 ++ (wl i x.1 ++ JL b (i+1))=CJ b) (fun x=>x.1) (w0,pre) ⟨hwlt,by rw [←hpre,Fc hlt,hw0];simp⟩ (.of (by simp [RZ,BU,fmI])) rfl ?_
      rintro ⟨w,pr⟩ ⟨hw,hpr⟩
      have hw1:w < 18446744073709551616:=hw
      have hp1:pr ++ (wl i w ++ JL b (i+1))=CJ b:=hpr
      refine CE.seq (CE.seq (CE.of Ed hJ hJx ?_))
      refine CW.vc VO [0,1,3,4,5,6,7,11,24] (by kernel_rfl) ?_
      have hwz:(w:Int)=0 ↔ w=0:=by omega
      (repeat ((try refine Vc.mk' ?_);simp (maxSteps:=6000000) only [go_sem,fmI,yv,bv]))
      refine Kk.mk [(0,yv l,true),(5,bv b,true),(6, .int .i64 (i:Int),true),(3, .int .i64 (i:Int),true),(4, .int .u64 (w:Int),true),(11, .bool (!decide (w=0)),true)] (by simp [RZ,BU,yv,bv,BT]) (by simp [Vj,Sc,F5,yv,bv,BT]) ?_
      refine CE.cond (b:= !decide (w=0)) rfl ?_
      by_cases hz0:w=0
      · rw [if_neg (by simp [hz0])]
        refine CE.of Ed hJ hJx (CW.exit ?_)
        refine Kk.mk [(0,yv l,true),(5,bv b,true),(6, .int .i64 (i:Int),true)] (by simp [RZ,BU]) (by simp [Vj,Sc,F5,yv,bv,BT]) ?_
        subst hz0
        show CE _ _ _ _ _ _ _ _ _
        refine CE.of Ed hJ hJx ?_
        refine CW.vc VO [0,1,3,4,5,6,7,11,24] (by kernel_rfl) ?_
        have hw1i:AP .i64 ((i:Int)+1)=((i+1:Nat):Int):=by rw [wrap64 (by omega) (by omega)];omega
        (repeat ((try refine Vc.mk' ?_);simp (maxSteps:=6000000) only [go_sem,yv,bv,hw1i]))
        refine Kk.mk [(0,yv l,true),(5,bv b,true),(6, .int .i64 ((i+1:Nat):Int),true)] (by simp [RZ,BU,yv,bv,BT]) (by simp [Vj,Sc,F5,yv,bv,BT]) ?_
        refine ⟨(i+1,pr),⟨by omega, ?_⟩,by simp;omega, .of (by simp [RZ,BU,yv,bv,BT]),rfl⟩
        rw [Wr] at hp1;exact hp1
      · rw [if_pos (by simp [hz0])]
        refine CE.of Ed hJ hJx (CW.skip ?_)
        refine Kk.mk [(0,yv l,true),(5,bv b,true),(6, .int .i64 (i:Int),true),(3, .int .i64 (i:Int),true),(4, .int .u64 (w:Int),true)] (by simp [RZ,BU]) (by simp [Vj,Sc,F5,yv,bv,BT]) ?_
        have hcz:=fL hz0 hw1
        have hst:=Xw (i:=i) hz0
        obtain ⟨y,hy⟩:∃y,y=VE ((i * 64+Lib.ctz 64 w+1:Nat):Int):=⟨_,rfl⟩
        have hyv:y.1=((i * 64+Lib.ctz 64 w+1:Nat):Int):=by rw [hy];exact Sn (by omega)
        rw [←hy] at hst
        have hlen:pr.length < (CJ b).length:=by rw [←hp1,hst];simp
        refine CE.seq (CE.block (CE.seq (CE.se VO Ed hJ hJx (m:=7) (by kernel_rfl) rfl rfl rfl rfl (fun y=>rfl) hY hlen ?_)))
        rw [←RU]
        have hm1:AP .i64 ((i:Int) * 64)=((i * 64:Nat):Int):=by rw [wrap64 (by omega) (by omega)];omega
        have hm2:AP .i64 (((i * 64:Nat):Int)+((Lib.ctz 64 w:Nat):Int))=((i * 64+Lib.ctz 64 w:Nat):Int):=by rw [wrap64 (by omega) (by omega)];omega
        have hm3:AP .i64 (((i * 64+Lib.ctz 64 w:Nat):Int)+1)=((i * 64+Lib.ctz 64 w+1:Nat):Int):=by rw [wrap64 (by omega) (by omega)];omega
        have hU:Ri (w:Int)=True:=eq_true ⟨by omega,by omega⟩
        have htz:wa 0=some U9:=rfl
        (repeat ((try refine Vc.mk' ?_);simp (maxSteps:=6000000) only [go_sem,Nat.reduceAdd,yv,bv,vP,UR,Int.toNat_natCast,hm1,hm2,hm3,hU,htz]))
        refine ⟨y, [(16,yv l,true),(22, .int .i64 y.1,true),(0,yv l,true),(5,bv b,true),(6, .int .i64 (i:Int),true),(3, .int .i64 (i:Int),true),(4, .int .u64 (w:Int),true)], .of (by simp [RZ,BU,yv,bv,BT,hyv,Int.add_assoc]), .of (by simp [Vj,Sc,F5,yv,bv,BT]),rfl,rfl,fun bb=> ?_⟩
        rw [←RU]
        (repeat ((try refine Vc.mk' ?_);simp (maxSteps:=6000000) only [go_sem,yv,bv]))
        refine ⟨[(24, .bool (!bb),true),(0,yv l,true),(5,bv b,true),(6, .int .i64 (i:Int),true),(3, .int .i64 (i:Int),true),(4, .int .u64 (w:Int),true)], .of (by simp [RZ,BU,yv,bv,BT]), .of (by simp [Vj,Sc,F5,yv,bv,BT]), ?_⟩
        refine CE.cond (b:= !bb) rfl ?_
        cases bb with
        |false=>
          rw [if_pos (by rfl:(!false)=true)]
          refine CE.of Ed hJ hJx (CW.ret ?_)
          refine Kk.mk [] trivial trivial ?_
          exact ⟨.inr rfl, .inr ⟨rfl,⟨wl i (w &&& (w - 1)) ++ JL b (i+1),by rw [←hp1,hst];simp⟩⟩⟩
        |true=>
          rw [if_neg (by decide:¬(!true)=true)]
          refine CE.of Ed hJ hJx (CW.skip ?_)
          refine Kk.mk [(0,yv l,true),(5,bv b,true),(6, .int .i64 (i:Int),true),(3, .int .i64 (i:Int),true),(4, .int .u64 (w:Int),true)] (by simp [RZ,BU]) (by simp [Vj,Sc,F5,yv,bv,BT]) ?_
          show CE _ _ _ _ _ _ _ _ _
          refine CE.of Ed hJ hJx ?_
          refine CW.vc VO [0,1,3,4,5,6,7,11,24] (by kernel_rfl) ?_
          have hm4:AP .u64 ((w:Int) - 1)=((w - 1:Nat):Int):=by rw [wrap_u64 (by omega) (by omega)];omega
          have hm5:EH .and .u64 (w:Int) ((w - 1:Nat):Int)=((w &&& (w - 1):Nat):Int):=Fl hw1 (by omega)
          (repeat ((try refine Vc.mk' ?_);simp (maxSteps:=6000000) only [go_sem,yv,bv,hm4,hm5]))
          have hlt2:=Hv hz0
          refine Kk.mk [(0,yv l,true),(5,bv b,true),(6, .int .i64 (i:Int),true),(3, .int .i64 (i:Int),true),(4, .int .u64 ((w &&& (w - 1):Nat):Int),true)] (by simp [RZ,BU,yv,bv,BT]) (by simp [Vj,Sc,F5,yv,bv,BT]) ?_
          refine ⟨(w &&& (w - 1),pr ++ [y]),⟨Nat.lt_trans hlt2 hw1, ?_⟩,hlt2, .of (by simp [RZ,BU,yv,bv,BT]),rfl⟩
          show (pr ++ [y]) ++ (wl i (w &&& (w - 1)) ++ JL b (i+1))=CJ b
          rw [←hp1,hst];simp
    · rw [if_neg (by simpa using hlt)]
      have h4:i=4:=by omega
      subst h4
      refine CE.of Ed hJ hJx (CW.exit ?_)
      refine Kk.mk [] trivial trivial ?_
      simp only [bU,WL,if_true]
      refine ⟨.inl rfl, .inl ⟨rfl, ?_⟩⟩
      have h:=hpre
      simpa [O9] using h
theorem Lo {a b:Bool}(h:a=true ↔ b=true):Value.bool a=Value.bool b:=by rw [Bool.eq_iff_iff.2 h]
def Cm (n:Int):Bool:=decide (1≤n) && decide (n≤256)
def Le (f:Int→Bool):BG:= .pure (fun args _=>match args with | [x]=>GN .i64 x | _=>False) (fun args _=>match args with | [x]=> .bool (f (intOf x)) | _=>undef)
theorem eZ:Aw Tryz.prog 67 (Le Cm):=by
  refine .mkPure Qm ?_
  intro args hp hpre top
  match args,hpre with
  | [x],hx=>
  rw [hx]
  refine AK.Ar A7 Qm rfl 9 rfl [.tmp 2] rfl (show 1≤9 by decide) ?_
  refine CW.vc Da [0,2] (by kernel_rfl) ?_
  (repeat ((try refine Vc.mk' ?_);simp (maxSteps:=6000000) only [go_sem]))
  refine Lo ?_
  simp [Cm];try omega
def sK (k:Nat):Int:=((2 ^ (k % 64):Nat):Int)
theorem pZ {k:Nat}(h:k < 256):IntKind.i64.wrap ((k:Int).tdiv 64)=((k / 64:Nat):Int):=by
  rw [←CS,show (k:Int).tdiv 64=((k / 64:Nat):Int) from rfl,wrap64 (by omega) (by omega)]
theorem qe {k:Nat}:(k:Int).tmod 64=((k % 64:Nat):Int):=rfl
theorem WE {k:Nat}(h:k < 64):2 ^ k < 18446744073709551616:=Nat.pow_lt_pow_right (a:=2) (n:=64) (by decide) h
theorem tn {k:Nat}:AP .u64 (1 * Int.ofNat (Nat.pow 2 ((k % 64).min 64)))=sK k:=by
  have h:k % 64 < 64:=Nat.mod_lt _ (by decide)
  have h2:=WE h
  have e:(k % 64).min 64=k % 64:=Nat.min_eq_left (by omega)
  rw [e,Int.one_mul]
  exact wrap_u64 (Int.natCast_nonneg _) (by have:((2 ^ (k % 64):Nat):Int) < 18446744073709551616:=(by omega);exact this)
def Qh:BG:= .pure (fun args _=>match args with | [.int .i64 n]=>1≤n∧n≤256 | _=>False) (fun args _=>match args with | [n]=> .tuple ⟨[.int .i64 (((intOf n - 1).toNat / 64:Nat):Int), .int .u64 (sK (intOf n - 1).toNat)]⟩ | _=>undef)
theorem qt:Aw Tryz.prog 94 Qh:=by
  refine .mkPure QR ?_
  intro args hp hpre top
  match args,hpre with
  | [.int .i64 n],⟨h1,h2⟩=>
  obtain ⟨k,rfl⟩:∃k:Nat,n=(k:Int)+1:=⟨(n - 1).toNat,by omega⟩
  have hk:k < 256:=by omega
  have e1:AP .i64 ((k:Int)+1 - 1)=(k:Int):=by rw [wrap64 (by omega) (by omega)];omega
  refine AK.Ar A7 QR rfl 11 rfl [.tmp 2, .tmp 3] rfl (show 1≤11 by decide) ?_
  refine CW.vc Da [0,2,3] (by kernel_rfl) ?_
  have e2:((k:Int)+1 - 1).toNat=k:=by omega
  have e3:(0:Int)≤((k % 64:Nat):Int):=by omega
  (repeat ((try refine Vc.mk' ?_);simp (maxSteps:=6000000) only [go_sem,Int.reduceEq,e1,pZ hk,qe,tn,e2,e3]))
theorem NQ {s d:TypeId}{k1 k2:IntKind}{hp:Hp}{x:Value}(h1:kindOf tt.get s=some (.int k1))(h2:kindOf tt.get d=some (.int k2)):BX tt.get hp s d x=(.int k2 (AP k2 (intOf x)),Hs x):=by
  simp [BX,h1,Mr,h2]
theorem AAR {hp:Hp}{x:Value}:BX tt.get hp 3 121 x=(.int .u64 (AP .u64 (intOf x)),Hs x):=NQ JD N6
theorem Zo {k:Nat}:AP .u64 ((k % 64:Nat):Int)=((k % 64:Nat):Int):=wrap_u64 (by omega) (by omega)
def bl (b:AX):List Value:=Ea.enc b
def kd (b:AX)(i n:Nat):AX:=match i with
  |0=> {b with x0:=n}
  |1=> {b with x1:=n}
  |2=> {b with x2:=n}
  |_=> {b with x3:=n}
def wn (b:AX)(i:Nat):Nat:=(wd b i).toNat
def iz (v:Value):AX:=Ea.dec (Di v)
def H3 (v:Value):Prop:= ∃b,v= .agg ⟨bl b⟩∧Fs b
theorem GH {b:AX}:iz (.agg ⟨bl b⟩)=b:=Ea.h b
theorem Kr {b:AX}(h:Fs b):H3 (.agg ⟨bl b⟩)=True:=eq_true ⟨b,rfl,h⟩
theorem EI {b:AX}:(bl b).length=4:=rfl
theorem WT {b:AX}:Aq (bl b)=true:=rfl
theorem HK {b:AX}{ρ:Nat→Nat}:Bt ρ (bl b)=bl b:=rfl
theorem dF {a b:AX}:bl a ++ (bl b).drop 4=bl a:=by simp [bl,BT]
theorem HO {b:AX}:(bl b).take 4=bl b:=rfl
theorem V9 {b:AX}{i:Nat}(hb:Fs b)(h:i < 4):((bl b)[i]?).getD undef= .int .u64 (wn b i:Int):=by
  unfold bl wn
  rw [SD h]
  congr 1
  have:=(hb.wd i).1
  omega
theorem ZV {b:AX}{i n:Nat}(h:i < 4):Ag (bl b) i [.int .u64 (n:Int)] = bl (kd b i n):=by
  rw [NB (by exact h)]
  rcases i with _ | _ | _ | _ | i
  · rfl
  · rfl
  · rfl
  · rfl
  · omega
theorem Gr {b:AX}(hb:Fs b)(i:Nat):wn b i < 18446744073709551616:=by have:=(hb.wd i);unfold wn;unfold Ri at this;omega
theorem lK {b:AX}{i n:Nat}(hb:Fs b)(hn:n < 18446744073709551616):Fs (kd b i n):=by
  obtain ⟨h0,h1,h2,h3⟩:=hb
  have hu:Ri (n:Int):=⟨by omega,by omega⟩
  rcases i with _ | _ | _ | i
  · exact ⟨hu,h1,h2,h3⟩
  · exact ⟨h0,hu,h2,h3⟩
  · exact ⟨h0,h1,hu,h3⟩
  · exact ⟨h0,h1,h2,hu⟩
theorem az {b:AX}{i j n:Nat}(hi:i < 4)(hj:j < 4):wn (kd b i n) j=if j=i then n else wn b j:=by
  rcases i with _ | _ | _ | _ | i
  all_goals first
    |omega
    | (rcases j with _ | _ | _ | _ | j
       all_goals first
         |omega
         |rfl)
def zb:AX:=⟨0,0,0,0⟩
theorem LY:Fs zb:=by refine ⟨?_, ?_, ?_, ?_⟩ <;> exact ⟨by decide,by decide⟩
def Ga (b:AX)(k:Nat):AX:=kd b (k / 64) (wn b (k / 64) ||| 2 ^ (k % 64))
theorem oZ {x y:Nat}(hx:x < 18446744073709551616)(hy:y < 18446744073709551616):x ||| y < 18446744073709551616:=Nat.or_lt_two_pow (n:=64) hx hy
theorem HC {b:AX}{k:Nat}(hb:Fs b):Fs (Ga b k):=lK hb (oZ (Gr hb _) (WE (Nat.mod_lt _ (by decide))))
theorem uG {x y:Nat}(hx:x < 18446744073709551616)(hy:y < 18446744073709551616):EH .or .u64 (x:Int) (y:Int)=((x ||| y:Nat):Int):=by
  have h1:=oZ hx hy
  have e:(BitVec.ofInt 64 (x:Int) ||| BitVec.ofInt 64 (y:Int)).toNat=x ||| y:=by rw [BitVec.toNat_or,Jp hx,Jp hy]
  show IntKind.u64.wrap ((BitVec.ofInt 64 (x:Int) ||| BitVec.ofInt 64 (y:Int)).toNat:Int)=_
  rw [e]
  have:=VC (x:=x ||| y)
  rwa [Nat.mod_eq_of_lt h1] at this
theorem oP {w k:Nat}(hw:w < 18446744073709551616):EH .and .u64 ((w:Int).fdiv (Int.ofNat (Nat.pow 2 ((k % 64).min 64)))) 1=(if w.testBit (k % 64) then 1 else 0):=by
  have e:(k % 64).min 64=k % 64:=Nat.min_eq_left (by omega)
  rw [e]
  have e2:(w:Int).fdiv (Int.ofNat (Nat.pow 2 (k % 64)))=((w / 2 ^ (k % 64):Nat):Int):=(Int.ofNat_fdiv w _).symm
  have hl:w / 2 ^ (k % 64) < 18446744073709551616:=Nat.lt_of_le_of_lt (Nat.div_le_self ..) hw
  rw [e2]
  have:=Fl (x:=w / 2 ^ (k % 64)) (y:=1) hl (by decide)
  rw [show ((1:Nat):Int)=1 from rfl] at this
  rw [this,Nat.and_one_is_mod,Nat.testBit_eq_decide_div_mod_eq]
  have:=Nat.mod_two_eq_zero_or_one (w / 2 ^ (k % 64))
  rcases this with h | h <;> simp [h]
def hasB (b:AX)(k:Nat):Bool:=(wn b (k / 64)).testBit (k % 64)
def G1:=BQ (BQ G0 67 (Le Cm)) 94 Qh
theorem AAf:B4 Tryz.prog tt.get G1:=(Da.add eZ).add qt
theorem ez {b:AX}{k i j:Nat}(hk:k < 256)(hi:i < 4)(hj:j < 64):(wn (Ga b k) i).testBit j=((wn b i).testBit j || decide (64 * i+j=k)):=by
  have hk4:k / 64 < 4:=by omega
  unfold Ga
  rw [az hk4 hi]
  by_cases h:i=k / 64
  · rw [if_pos h,Nat.testBit_or,Nat.testBit_two_pow,h]
    congr 1
    exact decide_eq_decide.2 (by omega)
  · rw [if_neg h]
    have:¬64 * i+j=k:=by omega
    simp [this]
theorem uF {i j:Nat}:(wn zb i).testBit j=false:=by
  rcases i with _ | _ | _ | i <;> simp [wn,wd,zb]
theorem QW {b:AX}{i j:Nat}(hj:j < 64):hasB b (64 * i+j)=(wn b i).testBit j:=by
  unfold hasB
  rw [show (64 * i+j) / 64=i from by omega,show (64 * i+j) % 64=j from by omega]
theorem qz {x y:Nat}(hx:x < 18446744073709551616)(hy:y < 18446744073709551616)(h:∀j,j < 64→x.testBit j=y.testBit j):x=y:=by
  refine Nat.eq_of_testBit_eq fun j=> ?_
  rcases Nat.lt_or_ge j 64 with hj | hj
  · exact h j hj
  · have:(18446744073709551616:Nat)≤2 ^ j:=Nat.pow_le_pow_right (n:=2) (i:=64) (by decide) hj
    rw [Nat.testBit_lt_two_pow (by omega),Nat.testBit_lt_two_pow (by omega)]
theorem gR {a b:AX}(ha:Fs a)(hb:Fs b)(h:∀i j,i < 4→j < 64→(wn a i).testBit j=(wn b i).testBit j):a=b:=by
  have key:∀i,i < 4→wd a i=wd b i:=by
    intro i hi
    have e:=qz (Gr ha i) (Gr hb i) (fun j hj=>h i j hi hj)
    have h1:=(ha.wd i).1
    have h2:=(hb.wd i).1
    unfold wn at e
    omega
  have k0:=key 0 (by omega)
  have k1:=key 1 (by omega)
  have k2:=key 2 (by omega)
  have k3:=key 3 (by omega)
  cases a;cases b
  simp only [wd] at k0 k1 k2 k3
  simp [k0,k1,k2,k3]
def G2:=G1
theorem wX:B4 Tryz.prog tt.get G2:=AAf
theorem zx {k:Nat}:((k:Int)+1 - 1).toNat=k:=by omega
theorem UM {k:Nat}(h:k < 256):AP .i64 ((k:Int)+1+1)=((k+1:Nat):Int)+1:=by rw [wrap64 (by omega) (by omega)];omega
theorem xG:bl zb= [.int .u64 0, .int .u64 0, .int .u64 0, .int .u64 0]:=rfl
theorem ee {w:Nat}(h:¬w=0)(hw:w < 18446744073709551616):∃m,w=2 ^ Lib.ctz 64 w * (2 * m+1):=by
  obtain ⟨m,h1,_⟩:=Lib.ctzFrom_spec 64 w (by omega) hw
  refine ⟨m, ?_⟩
  unfold Lib.ctz
  rw [if_neg h];exact h1
theorem Mc {w j:Nat}(h:¬w=0)(hw:w < 18446744073709551616):(j < Lib.ctz 64 w→w.testBit j=false)∧w.testBit (Lib.ctz 64 w)=true∧(w &&& (w - 1)).testBit j=(w.testBit j && !decide (j=Lib.ctz 64 w)):=by
  obtain ⟨m,hm⟩:=ee h hw
  generalize Lib.ctz 64 w=c at hm
  have hp:=Nat.two_pow_pos c
  have h1:w - 1=2 ^ c * (2 * m)+(2 ^ c - 1):=by
    rw [hm,Nat.mul_add,Nat.mul_one];omega
  have tw:∀j,w.testBit j=(decide (j≥c) && (2 * m+1).testBit (j - c)):=fun j=>by rw [hm,Nat.testBit_two_pow_mul]
  refine ⟨fun hj=>by rw [tw];simp;omega,by rw [tw];simp, ?_⟩
  rw [Nat.testBit_and,h1,Nat.testBit_two_pow_mul_add _ (by omega),tw]
  by_cases hj:j < c
  · have:¬j≥c:=by omega
    simp [this]
  · by_cases he:j=c
    · subst he;simp
    · have hge:j≥c:=by omega
      have h0:j - c≠0:=by omega
      obtain ⟨d,hd⟩:∃d,j - c=d+1:=⟨j - c - 1,by omega⟩
      have e1:(2 * m+1).testBit (d+1)=m.testBit d:=by rw [Nat.testBit_succ];congr 1;omega
      have e2:(2 * m).testBit (d+1)=m.testBit d:=by rw [Nat.testBit_succ];congr 1;omega
      simp [hj,he,hge,hd,e1,e2]
def wf (i w:Nat):List Bn:=((List.range 64).filter fun j=>w.testBit j).map fun j=>VE ((i * 64+j+1:Nat):Int)
theorem Vf {p q:Nat→Bool}{n c:Nat}(hc:c < n)(h1:∀j,j < c→p j=false)(h2:p c=true)(h3:∀j,q j=(p j && !decide (j=c))):(List.range n).filter p=c :: (List.range n).filter q:=by
  have e:List.range n=List.range' 0 c ++ (c :: List.range' (c+1) (n - c - 1)):=by
    rw [List.range_eq_range',show n=c+((n - c - 1)+1) from by omega,←List.range'_append_1,List.range'_succ]
    simp
  have hz:∀r:Nat→Bool,(∀j,j < c→r j=false)→(List.range' 0 c).filter r= []:=by
    intro r hr
    rw [List.filter_eq_nil_iff]
    intro a ha
    rw [List.mem_range'_1] at ha
    rw [hr a (by omega)];simp
  rw [e,List.filter_append,List.filter_append,hz p h1,hz q (fun j hj=>by rw [h3,h1 j hj];rfl),List.nil_append,List.nil_append,List.filter_cons_of_pos h2,List.filter_cons_of_neg (by rw [h3,h2];simp)]
  congr 1
  refine List.filter_congr fun a ha=> ?_
  rw [List.mem_range'_1] at ha
  have hne:¬a=c:=by omega
  rw [h3];simp [hne]
theorem gA {i:Nat}:∀(w:Nat),w < 18446744073709551616→wl i w=wf i w:=by
  intro w
  induction w using Nat.strongRecOn with
  |_ w ih=>
    intro hw
    by_cases h:w=0
    · subst h
      rw [Wr];unfold wf
      have:(List.range 64).filter (fun j=>(0:Nat).testBit j)= []:=by rw [List.filter_eq_nil_iff];simp
      rw [this];rfl
    · have hlt:=Hv h
      rw [Xw h,ih _ hlt (by omega)]
      unfold wf
      rw [Vf (p:=fun j=>w.testBit j) (q:=fun j=>(w &&& (w - 1)).testBit j) (fL h hw) (fun j hj=>(Mc (j:=j) h hw).1 hj) (Mc (j:=0) h hw).2.1 (fun j=>(Mc h hw).2.2),List.map_cons]
theorem PX {i w:Nat}(hw:w < 18446744073709551616):(wl i w).length≤64:=by
  rw [gA w hw];unfold wf
  rw [List.length_map]
  exact Nat.le_trans (List.length_filter_le _ _) (by simp)
theorem H4 {b:AX}:CJ b=wl 0 (wn b 0) ++ (wl 1 (wn b 1) ++ (wl 2 (wn b 2) ++ wl 3 (wn b 3))):=by
  unfold CJ
  rw [Fc (by omega),Fc (by omega),Fc (by omega),Fc (by omega),O9,List.append_nil]
  rfl
theorem Io {b:AX}(hb:Fs b):(CJ b).length≤256:=by
  rw [H4]
  simp only [List.length_append]
  have h0:=PX (i:=0) (Gr hb 0)
  have h1:=PX (i:=1) (Gr hb 1)
  have h2:=PX (i:=2) (Gr hb 2)
  have h3:=PX (i:=3) (Gr hb 3)
  omega
end Go.Proofs.YthpibnpeaidabaaGreatDoor.Dm
