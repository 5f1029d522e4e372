/- Bit strings, as the bits chapter has them (turned to this seat by port.py): part TB1. -/
import Derived.Test.YthpibnpeaidabaaGreatDoorDmK
import Derived.Test.YthpibnpeaidabaaGreatDoorDmJ
import Derived.Test.YthpibnpeaidabaaGreatDoorShelf
import Derived.Lib.ItoaLen
import Derived.Lib.ItoaMem
import Derived.Shelf.Spec.TrailingZeros
set_option linter.unusedSimpArgs false
set_option linter.unusedVariables false
namespace Go.Proofs.YthpibnpeaidabaaGreatDoor.Dm
open Go.Dm
set_option maxHeartbeats 16000000
def Tryz.OP:Go.Shelf.Ren:=⟨fun | 29=>89 | n=>n,fun | 22=>28 | 3=>3 | 4=>4 | 25=>121 | 54=>175 | 0=>0 | 5=>5 | n=>n,fun | 1=>2 | n=>n⟩
theorem Tryz.Ys:Go.Proofs.Lays7.n29 Tryz.prog Go.Proofs.YthpibnpeaidabaaGreatDoor.Dm.Tryz.OP:= {
  mixed:=by kernel_rfl
  f29:=Tryz.func89.trans (congrArg some (by kernel_rfl))
  t0:=Tryz.underlying0
  a0:=Tryz.isAgg0
  z0:=Tryz.sizeOf0
  v0:=Tryz.zeroValue0
  i0:=by kernel_rfl
  t3:=Tryz.underlying3
  a3:=Tryz.isAgg3
  z3:=Tryz.sizeOf3
  v3:=Tryz.zeroValue3
  i3:=by kernel_rfl
  t4:=Tryz.underlying4
  a4:=Tryz.isAgg4
  z4:=Tryz.sizeOf4
  v4:=Tryz.zeroValue4
  i4:=by kernel_rfl
  t5:=Tryz.underlying5
  a5:=Tryz.isAgg5
  z5:=Tryz.sizeOf5
  v5:=Tryz.zeroValue5
  i5:=by kernel_rfl
  t22:=Tryz.underlying28
  a22:=Tryz.isAgg28
  z22:=Tryz.sizeOf28
  v22:=Tryz.zeroValue28
  i22:=by kernel_rfl
  t25:=Tryz.underlying121
  a25:=Tryz.isAgg121
  z25:=Tryz.sizeOf121
  v25:=Tryz.zeroValue121
  i25:=by kernel_rfl
  t54:=Tryz.underlying175
  a54:=Tryz.isAgg175
  z54:=Tryz.sizeOf175
  g1:=by kernel_rfl}
open Go.RowKit in
theorem bits_TrailingZeros64 (x:Nat)(hx:x < 18446744073709551616)(w:World)(hT:x≠0→Go.Proofs.TabAt 2 Lib.deBruijn64tab w) :
    Calls Tryz.prog 89 #[.int .u64 x] w fun e w'=>e= .returned (.int .i64 (Lib.ctz 64 x))∧w' = w:=Any7.bits_TrailingZeros64 Go.Proofs.YthpibnpeaidabaaGreatDoor.Dm.Tryz.Ys x hx w hT
def E2 (k:IntKind)(l:List Nat):List Value:=l.map fun n:Nat=>Value.int k ((n:Nat):Int)
def mq (g:Nat)(k:IntKind)(l:List Nat):A5:= .cells false (BQ+4096 * l.length+g) (E2 k l)
theorem VL {φ:Ren}{k:IntKind}:∀ {l:List Nat} {m:List Value},Vs φ (E2 k l) m→m=E2 k l
  | [],_,h=>by cases h;rfl
  |n :: l,_,h=>by
    cases h with
    |cons _ x _ m hx hm=>
      cases hx
      rw [VL (l:=l) hm];rfl
theorem TX {φ:Ren}{own:Nat→Prop}{hp:Hp}{w:World}(H:HR φ own hp w){i g:Nat}{k:IntKind}{l:List Nat}(hg:g < 4096)(h:hp i=some (mq g k l)):∃ct cf,w.heap[g]? = some (.cells (E2 k l).toArray ct cf):=by
  obtain ⟨L,hL,he,c,t,fz,h1,h2,h3,h4,h5⟩:=H.obj _ _ h
  obtain ⟨h6,h7,h8⟩:=h5.2.1 rfl (by omega)
  have hlen:(E2 k l).length=l.length:=by simp [E2]
  have hb:L.Bl=g:=by omega
  have hm:L.Ep=l.length:=by omega
  rw [hb] at h1
  refine ⟨t,fz, ?_⟩
  rw [h1]
  have hv:=VL h4
  rw [h7,List.drop_zero,hlen,←hm,←h2] at hv
  have e:c.toList.take c.size=c.toList:=List.take_of_length_le (by simp)
  rw [e] at hv
  congr 2
  rw [←hv]
theorem cD {w:World}{g:Nat}{k:IntKind}{l:List Nat}{ct:TypeId}{cf:Nat×Nat}(h:w.heap[g]? = some (.cells (E2 k l).toArray ct cf))(j:Nat)(hj:j < l.length):w.cell? ⟨g,j,none⟩=some (.int k (l.getD j 0:Nat)):=by
  simp [World.cell?,h,E2,hj,List.getD]
theorem K.Jt {w w':World}(h:Go.RowKit.Below w.heap.size w w'):K (fun b=>w.heap.size≤b) w w':=⟨h.size,fun b hb _=>h.block b hb,h.os,h.tape,h.output⟩
theorem Ab.Mw {P:Program}{f:FuncId}{args:List Value}{hp:Hp}{top:Nat}{r:Value}(hr:plain 3 r=true)
    (h:∀φ own w args',Vs φ args args'→HR φ own hp w→Calls P f ⟨args'⟩ w fun e w'=>e= .returned r∧Go.RowKit.Below w.heap.size w w'):Ab P f args hp top fun v hp' top'=>v=r∧hp' = hp∧top' = top:=by
  intro φ own w args' ha H htop
  refine (h φ own w args' ha H).mono ?_
  rintro e w' ⟨rfl,hb⟩
  have k:=K.Jt hb
  exact ⟨r,hp,top,r,φ,rfl,⟨rfl,rfl,rfl⟩,⟨Ren.le_refl _,Ce _ _ hr,H.stay k,K.LG H.fresh k,htop⟩⟩
def UF:A5:=mq 2 .u8 Lib.deBruijn64tab
def Rz (n:Int):Prop:=0≤n∧n < 18446744073709551616
theorem pE:∃fn,FTOk Tryz.prog 89 fn:=⟨_,Vw.toFTOk⟩
def Ql:BO:= .pure (fun args hp=>match args with | [.int .u64 x]=>Rz x∧hp 0=some UF | _=>False) (fun args _=>match args with | [x]=> .int .i64 (Lib.ctz 64 (intOf x).toNat:Nat) | _=>undef)
theorem kJ:BG Tryz.prog 89 Ql:=by
  refine ⟨pE,fun args hp hpre top=> ?_⟩
  match args,hpre with
  | [.int .u64 x],⟨⟨h0,h1⟩,ht⟩=>
  refine Ab.Mw rfl fun φ own w args' ha H=> ?_
  cases ha with
  |cons _ _ _ _ hx hl=>
  cases hx
  cases hl
  obtain ⟨m,rfl⟩:=Int.eq_ofNat_of_zero_le h0
  obtain ⟨ct,cf,hc⟩:=TX H (by omega) ht
  refine (bits_TrailingZeros64 m (by omega) w fun _ j hj=>cD hc j hj).mono ?_
  rintro e w' ⟨rfl,rfl⟩
  exact ⟨rfl,Go.RowKit.Below.refl _ _⟩
def Ow:List Nat:=(List.range 20).map fun i=>10 ^ i
def UJ:A5:=mq 1 .u64 Ow
theorem V4 {φ:Ren}{own:Nat→Prop}{hp:Hp}{w:World}(H:HR φ own hp w)(h:hp 1=some UJ):Lib.TabIs Tryz.prog w "internal/strconv.uint64pow10" .u64 Lib.pow10Tab:=by
  obtain ⟨ct,cf,hc⟩:=TX H (by omega) h
  have hg:Tryz.prog.globalNamed "internal/strconv.uint64pow10" = some 1:=by kernel_rfl
  unfold Lib.TabIs World.var?
  rw [hg]
  simp only [Option.bind_some,hc]
  congr 2
def C1:BO:= .pure (fun args hp=>match args with | [.int .i64 n]=>0≤n∧n≤9223372036854775807∧hp 1=some UJ | _=>False) (fun args _=>match args with | [n]=> .string ⟨⟨Lib.itoa (intOf n)⟩⟩ | _=>undef)
theorem de:BG Tryz.prog 35 C1:=by
  refine ⟨⟨_,Ut.toFTOk⟩,fun args hp hpre top=> ?_⟩
  match args,hpre with
  | [.int .i64 x],⟨h0,h1,ht⟩=>
  refine Ab.Mw rfl fun φ own w args' ha H=> ?_
  cases ha with
  |cons _ _ _ _ hx hl=>
  cases hx
  cases hl
  refine (Tryz.strconv_Itoa x (by omega) h1 w (V4 H ht)).mono ?_
  rintro e w' ⟨rfl,k,os,rfl⟩
  exact ⟨rfl,⟨rfl,rfl,rfl,by simp [Go.Sort.grow,World.drewN],fun i hi=>by simp [Go.Sort.grow,World.drewN,Array.getElem?_append,hi]⟩⟩
def IC:BO:= .pure (fun args hp=>match args with | [v, .string ⟨⟨sep⟩⟩]=>K3 Ah hp v∧(Ah.rd hp v).length≤140737488355328∧(Lib.join (Ah.rd hp v) sep).length≤140737488355328 | _=>False)
  (fun args hp=>match args with | [v,s]=> .string ⟨⟨Lib.join (Ah.rd hp v) (strOf s)⟩⟩ | _=>undef)
theorem gP:BG Tryz.prog 37 IC:=by
  refine ⟨⟨_,Ue.toFTOk⟩,fun args hp hpre top=> ?_⟩
  match args,hpre with
  | [v, .string ⟨⟨sep⟩⟩],⟨⟨l,h⟩,h1,h2⟩=>
  rw [h.rd] at h1 h2
  simp only [h.rd,BV]
  refine Ab.Mw rfl fun φ own w args' ha H=> ?_
  cases ha with
  |cons _ v' _ _ hx hl=>
  cases hl with
  |cons _ s' _ _ hs hl=>
  cases hs
  cases hl
  cases h with
  |nils=>
    cases hx
    refine (Tryz.strings_Join_none none 0 ⟨⟨sep⟩⟩ w).mono ?_
    rintro e w' ⟨rfl,rfl⟩
    exact ⟨rfl,Go.RowKit.Below.refl _ _⟩
  |emp=>
    cases hx with
    |emp a' c'=>
      refine (Tryz.strings_Join_none (some a') c' ⟨⟨sep⟩⟩ w).mono ?_
      rintro e w' ⟨rfl,rfl⟩
      exact ⟨rfl,Go.RowKit.Below.refl _ _⟩
  |rows b o c rw vs l hb hv ho hc hn=>
    cases hx with
    |slice _ _ _ _ c' L hL hn' hc' hl'=>
      obtain ⟨L',hL',hok⟩:=H.obj _ _ hb
      rw [hL] at hL';cases hL'
      obtain ⟨_,cc,ty,fz,hg,hsz,hlim,hvs,_⟩:=hok
      obtain ⟨xs,hxs⟩:∃xs:List ByteArray,xs=l.map fun x=>⟨⟨x⟩⟩:=⟨_,rfl⟩
      have hxl:xs.length=l.length:=by rw [hxs];simp
      have hxd:xs.map (·.data.toList)=l:=by rw [hxs,List.map_map];simp [Function.comp_def]
      have hsz1:Ah.size=1:=rfl
      have hcell:∀(j:Nat) x,xs[j]? = some x→w.cell? ⟨L.Bl,L.off+o+j,none⟩=some (.string x):=by
        intro j x hj
        have hjl:j < l.length:=by
          rw [←hxl]
          rcases Nat.lt_or_ge j xs.length with h | h
          · exact h
          · rw [List.getElem?_eq_none h] at hj;cases hj
        have h3:(Ah.flat l)[j]? = some (.string x):=by
          rw [hxs,List.getElem?_map] at hj
          have:Ah.flat l=l.map fun x=>Value.string ⟨⟨x⟩⟩:=by
            clear hj hv ho hc hn hn' hl' hjl hxl hxd hxs h1 h2
            induction l with
            |nil=>rfl
            |cons a l ih=>rw [Ax.CS,ih];rfl
          rw [this,List.getElem?_map]
          cases hl:l[j]? with
          |none=>rw [hl] at hj;cases hj
          |some y=>rw [hl] at hj;cases hj;rfl
        rw [←hv] at h3
        rw [List.getElem?_take,hsz1,Nat.mul_one,if_pos hjl,List.getElem?_drop] at h3
        obtain ⟨x',h4,h5⟩:=hvs.get h3
        have h6:=h5.Jn
        subst h6
        have hlt:o+j < vs.length:=by
          rcases Nat.lt_or_ge (o+j) vs.length with h | h
          · exact h
          · rw [List.getElem?_eq_none h] at h3;cases h3
        rw [List.getElem?_take,if_pos hlt,List.getElem?_drop] at h4
        simp only [World.cell?,hg]
        rw [Nat.add_assoc]
        simpa using h4
      have:=Tryz.strings_Join L.Bl (L.off+o) c' xs ⟨⟨sep⟩⟩ w hcell (H.val _ _ hL) (by rw [hxl];exact h1) (by rw [hxl];omega) (by rw [hxd];exact h2)
      rw [hxl,hxd] at this
      refine this.mono ?_
      rintro e w' ⟨rfl,hbw⟩
      exact ⟨rfl,hbw⟩
abbrev Bn:= {x:Int // 1≤x∧x≤256}
instance:Inhabited Bn:=⟨⟨1,by decide⟩⟩
def T8 (n:Int):Bn:=if h:1≤n∧n≤256 then ⟨n,h⟩ else ⟨1,by decide⟩
theorem RG {n:Int}(h:1≤n∧n≤256):(T8 n).1=n:=by unfold T8;rw [dif_pos h]
theorem Hg {w:Nat}(h:¬w=0):w &&& (w - 1) < w:=Nat.lt_of_le_of_lt Nat.and_le_right (by omega)
def wl (i:Nat)(w:Nat):List Bn:=if h:w=0 then [] else T8 ((i * 64+Lib.ctz 64 w+1:Nat):Int) :: wl i (w &&& (w - 1))
termination_by w
decreasing_by exact Hg h
theorem Vn {i:Nat}:wl i 0= []:=by rw [wl];simp
theorem U6 {i w:Nat}(h:¬w=0):wl i w=T8 ((i * 64+Lib.ctz 64 w+1:Nat):Int) :: wl i (w &&& (w - 1)):=by rw [wl,dif_neg h]
theorem aq {w:Nat}(h:¬w=0)(hw:w < 18446744073709551616):Lib.ctz 64 w < 64:=(Lib.lowest_bit 64 w h hw).2
def wd (b:Ak):Nat→Int
  |0=>b.x0
  |1=>b.x1
  |2=>b.x2
  |_=>b.x3
def GV (b:Ak):Prop:=Rz b.x0∧Rz b.x1∧Rz b.x2∧Rz b.x3
theorem GV.wd {b:Ak}(h:GV b):∀i,Rz (wd b i)
  |0=>h.1
  |1=>h.2.1
  |2=>h.2.2.1
  |_+3=>h.2.2.2
def Ig (b:Ak)(i:Nat):List Bn:=((List.range' i (4 - i)).map fun k=>wl k (wd b k).toNat).flatten
def CZ (b:Ak):List Bn:=Ig b 0
theorem Nc {b:Ak}:Ig b 4= []:=rfl
theorem FX {b:Ak}{i:Nat}(h:i < 4):Ig b i=wl i (wd b i).toNat ++ Ig b (i+1):=by
  unfold Ig
  have e:4 - i=(4 - (i+1))+1:=by omega
  rw [e,List.range'_succ,List.map_cons,List.flatten_cons]
theorem RL {b:Ak}{i:Nat}(h:i < 4):((EI.enc b)[i]?).getD undef= .int .u64 (wd b i):=by
  rcases i with _ | _ | _ | _ | i
  · rfl
  · rfl
  · rfl
  · rfl
  · omega
theorem KA {x:Nat}(h:x < 18446744073709551616):(BitVec.ofInt 64 (x:Int)).toNat=x:=by
  rw [BitVec.toNat_ofInt];omega
theorem TH {x:Nat}:IntKind.u64.wrap ((x % 18446744073709551616:Nat):Int)=((x % 18446744073709551616:Nat):Int):=by
  simp [IntKind.wrap,IntKind.signed,IntKind.bits]
theorem Vp {x y:Nat}(hx:x < 18446744073709551616)(hy:y < 18446744073709551616):Ek .and .u64 (x:Int) (y:Int)=((x &&& y:Nat):Int):=by
  have h1:x &&& y < 18446744073709551616:=Nat.lt_of_le_of_lt Nat.and_le_left hx
  have e:(BitVec.ofInt 64 (x:Int) &&& BitVec.ofInt 64 (y:Int)).toNat=x &&& y:=by rw [BitVec.toNat_and,KA hx,KA hy]
  show IntKind.u64.wrap ((BitVec.ofInt 64 (x:Int) &&& BitVec.ofInt 64 (y:Int)).toNat:Int)=_
  rw [e]
  have:=TH (x:=x &&& y)
  rwa [Nat.mod_eq_of_lt h1] at this
theorem wrap_u64 {n:Int}(h:0≤n)(h2:n < 18446744073709551616):Ae .u64 n=n:=Pr (by simpa [IntKind.signed,IntKind.bits] using h) (by simpa [IntKind.signed,IntKind.bits] using h2)
def dI (W:World):Prop:= ∃ct cf,W.heap[2]? = some (.cells (E2 .u8 Lib.deBruijn64tab).toArray ct cf)
def rh:Ren:=fun j=>if j=0 then some ⟨2,0,BQ+4096 * 64+2,64⟩ else none
def qf:Hp:=fun i=>if i=0 then some UF else none
theorem Yy {φ:Ren}{own:Nat→Prop}{hp:Hp}{w:World}(H:HR φ own hp w)(h:hp 0=some UF):dI w:=TX H (by omega) h
theorem EJ:Mem dI rh qf 1:=by
  refine ⟨?_,fun j hj=>by simp [rh];omega, ?_⟩
  · rintro W ⟨ct,cf,hc⟩
    have hro:∀i o,qf i=some o→i=0∧o=UF:=by
      intro i o e
      unfold qf at e
      split at e
      · rename_i h;cases e;exact ⟨h,rfl⟩
      · cases e
    refine ⟨?_, ?_, ?_, ?_,fun b hb=>hb⟩
    · intro i o e
      obtain ⟨rfl,rfl⟩:=hro i o e
      refine ⟨_,rfl,rfl,_,ct,cf,hc,rfl, ?_, ?_,⟨fun e=>(by cases e),(fun _ _=>⟨by decide,rfl,by decide⟩),fun e=>(by cases e)⟩⟩
      · decide
      · show Vs rh (E2 .u8 Lib.deBruijn64tab) (((E2 .u8 Lib.deBruijn64tab).drop 0).take _)
        rw [List.drop_zero,List.take_length]
        refine Vs.Gv fun v hv=> ?_
        unfold E2 at hv
        obtain ⟨n,_,rfl⟩:=List.mem_map.1 hv
        exact .int _ _
    · intro i j oi oj Li Lj hi hj hne
      obtain ⟨rfl,rfl⟩:=hro i oi hi
      obtain ⟨rfl,rfl⟩:=hro j oj hj
      exact absurd rfl hne
    · intro i o L e hr
      obtain ⟨rfl,rfl⟩:=hro i o e
      cases hr
    · intro i L e
      unfold rh at e
      split at e
      · cases e;exact (Array.getElem?_eq_some_iff.1 hc).1
      · cases e
  · rintro W W' ⟨ct,cf,hc⟩ hb
    exact ⟨ct,cf,by rw [hb.block 2 (Array.getElem?_eq_some_iff.1 hc).1];exact hc⟩
theorem fe:∀(W:World) (l:Nat) (o o':Obj),W.heap[l]? = some o→o.isCells=false→dI W→dI (W.putObj l o'):=by
  rintro W l o o' hl hc ⟨ct,cf,h⟩
  refine ⟨ct,cf, ?_⟩
  have hne:2≠l:=fun e=>by
    subst e
    rw [h] at hl;cases hl;cases hc
  rw [Hv hne];exact h
def G0:FuncId→BO:=fun _=> .none
theorem E7:B9 Tryz.prog tt.get G0:=⟨BN,fun _=>trivial⟩
def Ge:FuncId→BO:=Bd G0 89 Ql
theorem UD:B9 Tryz.prog tt.get Ge:=E7.add kJ
theorem pF:Ge 89=Ql:=rfl
def gw (x:Bn):Value:= .int .i64 x.1
def qg (l:Nat)(b:Ak)(c1:Code)(x:Exit)(s':SS):Prop:=x= .normal∧∃fr',L4 fr' s'.fr∧fL fr'∧
      ∀(J Jx:List Bn→World→Prop) (B:Nat),AbidesFrom B J→AbidesFrom B Jx→(∀pre y W1,J pre W1→pre.length < (CZ b).length→YieldAt Fence.wide 1 Tryz.prog l #[gw y] W1 fun e W'=>(e= .returned (.bool true)∧J (pre ++ [y]) W'∧(dI W1→dI W'))∨(e= .returned (.bool false)∧Jx (pre ++ [y]) W'))→
        CE Tryz.prog 26 dI J Jx c1 fr' ([],false) (pU (fun xs=>xs=CZ b) (fun pre=>pre <+:CZ b))
theorem YO {h:Hp}{t:Nat}{vs:List Value}:Rb h t vs t=some (.cells false 0 vs):=by simp [Rb]
def yv (l:Nat):Value:= .func (.yield l) ⟨[]⟩ ⟨[]⟩
def bv (b:Ak):Value:= .agg ⟨EI.enc b⟩
def rS (l:Nat)(b:Ak)(x:Nat×List Bn):Bw×(List Bn×Bool):=([(0,yv l,true),(5,bv b,true),(6, .int .i64 (x.1:Int),true)],(x.2,false))
def r0 (l:Nat)(b:Ak)(i:Nat)(x:Nat×List Bn):Bw×(List Bn×Bool):=([(0,yv l,true),(5,bv b,true),(6, .int .i64 (i:Int),true),(3, .int .i64 (i:Int),true),(4, .int .u64 (x.1:Int),true)],(x.2,false))
theorem UI (b:Ak)(hb:GV b){φ:Ren}{own:Nat→Prop}{hp:Hp}{W:World}{gb:Nat}{rw:Bool}{caps':List Value}(hz:hp 0=some UF)(hgb:hp gb=some (.cells rw 0 (EI.enc b)))(hV:Vs φ [.pointer (some ⟨gb,0,none⟩)] caps')(H:HR φ own hp W) :
    SeqStopsK Fence.wide 2 Tryz.prog 88 ⟨caps'⟩ (fun x:Bn=> #[gw x]) (fun A B=>dI A→dI B) (fun xs=>xs=CZ b) (fun pre=>pre <+:CZ b) (CZ b).length W:=by
  cases hV with
  |cons _ cv _ _ hx hl=>
  cases hl
  cases hx with
  |ptr _ _ L hL=>
  obtain ⟨L',hL',hok⟩:=H.obj _ _ hgb
  rw [hL] at hL';cases hL'
  obtain ⟨_,cc,ct,cf,hg,hsz,hlim,hvs,_⟩:=hok
  have hv2:(cc.toList.drop L.off).take (EI.enc b).length=EI.enc b:=by
    have h4:(EI.enc b).length=4:=rfl
    generalize hm:(cc.toList.drop L.off).take (EI.enc b).length=m at hvs
    rw [BR] at hvs ⊢
    cases hvs with
    |cons _ _ _ _ g1 hvs=>cases g1;cases hvs with
      |cons _ _ _ _ g1 hvs=>cases g1;cases hvs with
        |cons _ _ _ _ g1 hvs=>cases g1;cases hvs with
          |cons _ _ _ _ g1 hvs=>cases g1;cases hvs;rfl
  refine Rw (fn:=Tryz.f88) PT rfl rfl (by decide) rfl EJ (fun i o e=> ?_) (Yy H hz) hg (by rw [hsz];exact hlim) hv2 (fun v hv=> ?_) ?_
  · unfold qf at e
    split at e
    · cases e;rfl
    · cases e
  · rw [BR] at hv
    simp only [List.mem_cons,List.not_mem_nil,or_false] at hv
    rcases hv with rfl | rfl | rfl | rfl <;> rfl
  intro l
  show CW _ _ _ _ _ (qg l b _)
  refine CW.vc UD [0,1,3,4,5,6,7,11,24] (by kernel_rfl) ?_
  (repeat ((try refine Vc.mk' ?_);simp (maxSteps:=6000000) only [go_sem,reduceIte,reduceCtorEq,Nat.reduceAdd,Nat.reduceMul,Nat.reduceSub,Nat.reduceLT,Nat.reduceLeDiff,Nat.reduceEqDiff,Int.reduceEq,Int.reduceLT,Int.reduceLE,Int.reduceNe,YO]))
  refine ⟨rfl, [(0,yv l,true),(5,bv b,true),(6, .int .i64 ((0:Nat):Int),true)], .of (by simp [Ox,BJ,yv,bv,BR]), .of (by simp [Ss,Sc,G7,yv,bv,BR]), ?_⟩
  intro J Jx B hJ hJx hY
  refine CE.block ?_
  refine CE.loop (rS l b) (fun x=>x.1≤4∧x.2 ++ Ig b x.1=CZ b) (fun x=>4 - x.1) (0, []) ⟨by omega,rfl⟩ (.of (by simp [Ox,BJ,rS])) rfl ?_
  rintro ⟨i,pre⟩ ⟨hi,hpre⟩
  have hi4:(i:Int) < 4 ↔ i < 4:=by omega
  refine CE.seq (CE.of EJ hJ hJx ?_)
  · refine CW.vc UD [0,1,3,4,5,6,7,11,24] (by kernel_rfl) ?_
    (repeat ((try refine Vc.mk' ?_);simp (maxSteps:=6000000) only [go_sem,reduceIte,reduceCtorEq,Nat.reduceAdd,Nat.reduceMul,Nat.reduceSub,Nat.reduceLT,Nat.reduceLeDiff,Nat.reduceEqDiff,Int.reduceEq,Int.reduceLT,Int.reduceLE,Int.reduceNe,rS,yv,bv]))
    refine Jg.mk [(0,yv l,true),(5,bv b,true),(6, .int .i64 (i:Int),true),(7, .bool (decide (i < 4)),true)] (by simp [Ox,BJ,yv,bv,BR,hi4]) (by simp [Ss,Sc,G7,yv,bv,BR]) ?_
    refine CE.seq (CE.cond (b:=decide (i < 4)) rfl ?_)
    by_cases hlt:i < 4
    · rw [if_pos (by simpa using hlt)]
      refine CE.of EJ hJ hJx (CW.skip ?_)
      refine Jg.mk [(0,yv l,true),(5,bv b,true),(6, .int .i64 (i:Int),true)] (by simp [Ox,BJ]) (by simp [Ss,Sc,G7,yv,bv,BR]) ?_
      refine CE.seq (CE.block (CE.seq (CE.of EJ hJ hJx ?_)))
      refine CW.vc UD [0,1,3,4,5,6,7,11,24] (by kernel_rfl) ?_
      have hbg:=RL (b:=b) hlt
      obtain ⟨w0,hw0⟩:∃w0:Nat,wd b i=(w0:Int):=Int.eq_ofNat_of_zero_le (hb.wd i).1
      have hwlt:w0 < 18446744073709551616:=by have:=(hb.wd i).2;omega
      rw [hw0] at hbg
      (repeat ((try refine Vc.mk' ?_);simp (maxSteps:=6000000) only [go_sem,reduceIte,reduceCtorEq,Nat.reduceAdd,Nat.reduceMul,Nat.reduceSub,Nat.reduceLT,Nat.reduceLeDiff,Nat.reduceEqDiff,Int.reduceEq,Int.reduceLT,Int.reduceLE,Int.reduceNe,yv,bv,Gs,Int.toNat_natCast,Nat.mul_one,hbg,hlt]))
      simp only [BR] at hbg
      refine Jg.mk [(0,yv l,true),(5,bv b,true),(6, .int .i64 (i:Int),true),(3, .int .i64 (i:Int),true),(4, .int .u64 (w0:Int),true)] (by simp [Ox,BJ,yv,bv,BR,hbg]) (by simp [Ss,Sc,G7,yv,bv,BR]) ?_
      refine CE.block ?_
      refine CE.loop (r0 l b i) (fun x=>x.1 < 18446744073709551616∧x.2 ++ (wl i x.1 ++ Ig b (i+1))=CZ b) (fun x=>x.1) (w0,pre) ⟨hwlt,by rw [←hpre,FX hlt,hw0];simp⟩ (.of (by simp [Ox,BJ,r0])) rfl ?_
      rintro ⟨w,pr⟩ ⟨hw,hpr⟩
      have hw1:w < 18446744073709551616:=hw
      have hp1:pr ++ (wl i w ++ Ig b (i+1))=CZ b:=hpr
      refine CE.seq (CE.seq (CE.of EJ hJ hJx ?_))
      refine CW.vc UD [0,1,3,4,5,6,7,11,24] (by kernel_rfl) ?_
      have hwz:(w:Int)=0 ↔ w=0:=by omega
      (repeat ((try refine Vc.mk' ?_);simp (maxSteps:=6000000) only [go_sem,reduceIte,reduceCtorEq,Nat.reduceAdd,Nat.reduceMul,Nat.reduceSub,Nat.reduceLT,Nat.reduceLeDiff,Nat.reduceEqDiff,Int.reduceEq,Int.reduceLT,Int.reduceLE,Int.reduceNe,r0,yv,bv]))
      refine Jg.mk [(0,yv l,true),(5,bv b,true),(6, .int .i64 (i:Int),true),(3, .int .i64 (i:Int),true),(4, .int .u64 (w:Int),true),(11, .bool (!decide (w=0)),true)] (by simp [Ox,BJ,yv,bv,BR,hwz]) (by simp [Ss,Sc,G7,yv,bv,BR]) ?_
      refine CE.cond (b:= !decide (w=0)) rfl ?_
      by_cases hz0:w=0
      · rw [if_neg (by simp [hz0])]
        refine CE.of EJ hJ hJx (CW.exit ?_)
        refine Jg.mk [(0,yv l,true),(5,bv b,true),(6, .int .i64 (i:Int),true)] (by simp [Ox,BJ]) (by simp [Ss,Sc,G7,yv,bv,BR]) ?_
        subst hz0
        show CE _ _ _ _ _ _ _ _ _
        refine CE.of EJ hJ hJx ?_
        refine CW.vc UD [0,1,3,4,5,6,7,11,24] (by kernel_rfl) ?_
        have hw1i:Ae .i64 ((i:Int)+1)=((i+1:Nat):Int):=by rw [wrap64 (by omega) (by omega)];omega
        (repeat ((try refine Vc.mk' ?_);simp (maxSteps:=6000000) only [go_sem,reduceIte,reduceCtorEq,Nat.reduceAdd,Nat.reduceMul,Nat.reduceSub,Nat.reduceLT,Nat.reduceLeDiff,Nat.reduceEqDiff,Int.reduceEq,Int.reduceLT,Int.reduceLE,Int.reduceNe,yv,bv,hw1i]))
        refine Jg.mk [(0,yv l,true),(5,bv b,true),(6, .int .i64 ((i+1:Nat):Int),true)] (by simp [Ox,BJ,yv,bv,BR,hw1i]) (by simp [Ss,Sc,G7,yv,bv,BR]) ?_
        refine ⟨(i+1,pr),⟨by omega, ?_⟩,by simp;omega, .of (by simp [Ox,BJ,rS,yv,bv,BR]),rfl⟩
        rw [Vn] at hp1;exact hp1
      · rw [if_pos (by simp [hz0])]
        refine CE.of EJ hJ hJx (CW.skip ?_)
        refine Jg.mk [(0,yv l,true),(5,bv b,true),(6, .int .i64 (i:Int),true),(3, .int .i64 (i:Int),true),(4, .int .u64 (w:Int),true)] (by simp [Ox,BJ]) (by simp [Ss,Sc,G7,yv,bv,BR]) ?_
        have hcz:=aq hz0 hw1
        have hst:=U6 (i:=i) hz0
        obtain ⟨y,hy⟩:∃y,y=T8 ((i * 64+Lib.ctz 64 w+1:Nat):Int):=⟨_,rfl⟩
        have hyv:y.1=((i * 64+Lib.ctz 64 w+1:Nat):Int):=by rw [hy];exact RG (by omega)
        rw [←hy] at hst
        have hlen:pr.length < (CZ b).length:=by rw [←hp1,hst];simp
        refine CE.seq (CE.block (CE.seq (CE.oH UD EJ hJ hJx (m:=7) (by kernel_rfl) rfl rfl rfl rfl (fun y=>rfl) hY hlen ?_)))
        rw [←QF]
        have hm1:Ae .i64 ((i:Int) * 64)=((i * 64:Nat):Int):=by rw [wrap64 (by omega) (by omega)];omega
        have hm2:Ae .i64 (((i * 64:Nat):Int)+((Lib.ctz 64 w:Nat):Int))=((i * 64+Lib.ctz 64 w:Nat):Int):=by rw [wrap64 (by omega) (by omega)];omega
        have hm3:Ae .i64 (((i * 64+Lib.ctz 64 w:Nat):Int)+1)=((i * 64+Lib.ctz 64 w+1:Nat):Int):=by rw [wrap64 (by omega) (by omega)];omega
        have hU:Rz (w:Int)=True:=eq_true ⟨by omega,by omega⟩
        have htz:qf 0=some UF:=rfl
        (repeat ((try refine Vc.mk' ?_);simp (maxSteps:=6000000) only [go_sem,reduceIte,reduceCtorEq,Nat.reduceAdd,Nat.reduceMul,Nat.reduceSub,Nat.reduceLT,Nat.reduceLeDiff,Nat.reduceEqDiff,Int.reduceEq,Int.reduceLT,Int.reduceLE,Int.reduceNe,yv,bv,pF,Ql,Int.toNat_natCast,hm1,hm2,hm3,hU,htz]))
        refine ⟨y, [(16,yv l,true),(22, .int .i64 y.1,true),(0,yv l,true),(5,bv b,true),(6, .int .i64 (i:Int),true),(3, .int .i64 (i:Int),true),(4, .int .u64 (w:Int),true)], .of (by simp [Ox,BJ,yv,bv,BR,hyv,Int.add_assoc]), .of (by simp [Ss,Sc,G7,yv,bv,BR]),rfl,rfl,fun bb=> ?_⟩
        rw [←QF]
        (repeat ((try refine Vc.mk' ?_);simp (maxSteps:=6000000) only [go_sem,reduceIte,reduceCtorEq,Nat.reduceAdd,Nat.reduceMul,Nat.reduceSub,Nat.reduceLT,Nat.reduceLeDiff,Nat.reduceEqDiff,Int.reduceEq,Int.reduceLT,Int.reduceLE,Int.reduceNe,yv,bv]))
        refine ⟨[(24, .bool (!bb),true),(0,yv l,true),(5,bv b,true),(6, .int .i64 (i:Int),true),(3, .int .i64 (i:Int),true),(4, .int .u64 (w:Int),true)], .of (by simp [Ox,BJ,yv,bv,BR]), .of (by simp [Ss,Sc,G7,yv,bv,BR]), ?_⟩
        refine CE.cond (b:= !bb) rfl ?_
        cases bb with
        |false=>
          rw [if_pos (by rfl:(!false)=true)]
          refine CE.of EJ hJ hJx (CW.ret ?_)
          refine Jg.mk [] trivial trivial ?_
          exact ⟨.inr rfl, .inr ⟨rfl,⟨wl i (w &&& (w - 1)) ++ Ig b (i+1),by rw [←hp1,hst];simp⟩⟩⟩
        |true=>
          rw [if_neg (by decide:¬(!true)=true)]
          refine CE.of EJ hJ hJx (CW.skip ?_)
          refine Jg.mk [(0,yv l,true),(5,bv b,true),(6, .int .i64 (i:Int),true),(3, .int .i64 (i:Int),true),(4, .int .u64 (w:Int),true)] (by simp [Ox,BJ]) (by simp [Ss,Sc,G7,yv,bv,BR]) ?_
          show CE _ _ _ _ _ _ _ _ _
          refine CE.of EJ hJ hJx ?_
          refine CW.vc UD [0,1,3,4,5,6,7,11,24] (by kernel_rfl) ?_
          have hm4:Ae .u64 ((w:Int) - 1)=((w - 1:Nat):Int):=by rw [wrap_u64 (by omega) (by omega)];omega
          have hm5:Ek .and .u64 (w:Int) ((w - 1:Nat):Int)=((w &&& (w - 1):Nat):Int):=Vp hw1 (by omega)
          (repeat ((try refine Vc.mk' ?_);simp (maxSteps:=6000000) only [go_sem,reduceIte,reduceCtorEq,Nat.reduceAdd,Nat.reduceMul,Nat.reduceSub,Nat.reduceLT,Nat.reduceLeDiff,Nat.reduceEqDiff,Int.reduceEq,Int.reduceLT,Int.reduceLE,Int.reduceNe,yv,bv,hm4,hm5]))
          have hlt2:=Hg hz0
          refine Jg.mk [(0,yv l,true),(5,bv b,true),(6, .int .i64 (i:Int),true),(3, .int .i64 (i:Int),true),(4, .int .u64 ((w &&& (w - 1):Nat):Int),true)] (by simp [Ox,BJ,yv,bv,BR]) (by simp [Ss,Sc,G7,yv,bv,BR]) ?_
          refine ⟨(w &&& (w - 1),pr ++ [y]),⟨Nat.lt_trans hlt2 hw1, ?_⟩,hlt2, .of (by simp [Ox,BJ,r0,yv,bv,BR]),rfl⟩
          show (pr ++ [y]) ++ (wl i (w &&& (w - 1)) ++ Ig b (i+1))=CZ b
          rw [←hp1,hst];simp
    · rw [if_neg (by simpa using hlt)]
      have h4:i=4:=by omega
      subst h4
      refine CE.of EJ hJ hJx (CW.exit ?_)
      refine Jg.mk [] trivial trivial ?_
      simp only [aK,UA,if_true]
      refine ⟨.inl rfl, .inl ⟨rfl, ?_⟩⟩
      have h:=hpre
      simpa [Nc] using h
theorem P9 {a b:Bool}(h:a=true ↔ b=true):Value.bool a=Value.bool b:=by rw [Bool.eq_iff_iff.2 h]
def Cj (n:Int):Bool:=decide (1≤n) && decide (n≤256)
def JW (f:Int→Bool):BO:= .pure (fun args _=>match args with | [x]=>GU .i64 x | _=>False) (fun args _=>match args with | [x]=> .bool (f (intOf x)) | _=>undef)
theorem Y5:BG Tryz.prog 67 (JW Cj):=by
  refine .mkPure P0 ?_
  intro args hp hpre top
  match args,hpre with
  | [x],hx=>
  rw [hx]
  refine Ab.BF BN P0 rfl 9 rfl [.tmp 2] rfl (show 1≤9 by decide) ?_
  refine CW.vc E7 [0,2] (by kernel_rfl) ?_
  (repeat ((try refine Vc.mk' ?_);simp (maxSteps:=6000000) only [go_sem,reduceIte,reduceCtorEq,Nat.reduceAdd,Nat.reduceMul,Nat.reduceSub,Nat.reduceLT,Nat.reduceLeDiff,Nat.reduceEqDiff,Int.reduceEq,Int.reduceLT,Int.reduceLE,Int.reduceNe]))
  refine P9 ?_
  simp [Cj];try omega
def l8 (k:Nat):Int:=((2 ^ (k % 64):Nat):Int)
theorem pc {k:Nat}(h:k < 256):IntKind.i64.wrap ((k:Int).tdiv 64)=((k / 64:Nat):Int):=by
  rw [←Cg,show (k:Int).tdiv 64=((k / 64:Nat):Int) from rfl,wrap64 (by omega) (by omega)]
theorem DS {k:Nat}:(k:Int).tmod 64=((k % 64:Nat):Int):=rfl
theorem UL {k:Nat}(h:k < 64):2 ^ k < 18446744073709551616:=Nat.pow_lt_pow_right (a:=2) (n:=64) (by decide) h
theorem CV {k:Nat}:Ae .u64 (1 * Int.ofNat (Nat.pow 2 ((k % 64).min 64)))=l8 k:=by
  have h:k % 64 < 64:=Nat.mod_lt _ (by decide)
  have h2:=UL h
  have e:(k % 64).min 64=k % 64:=Nat.min_eq_left (by omega)
  rw [e,Int.one_mul]
  exact wrap_u64 (Int.natCast_nonneg _) (by have:((2 ^ (k % 64):Nat):Int) < 18446744073709551616:=(by omega);exact this)
def MB:BO:= .pure (fun args _=>match args with | [.int .i64 n]=>1≤n∧n≤256 | _=>False) (fun args _=>match args with | [n]=> .tuple ⟨[.int .i64 (((intOf n - 1).toNat / 64:Nat):Int), .int .u64 (l8 (intOf n - 1).toNat)]⟩ | _=>undef)
theorem oE:BG Tryz.prog 94 MB:=by
  refine .mkPure Pt ?_
  intro args hp hpre top
  match args,hpre with
  | [.int .i64 n],⟨h1,h2⟩=>
  obtain ⟨k,rfl⟩:∃k:Nat,n=(k:Int)+1:=⟨(n - 1).toNat,by omega⟩
  have hk:k < 256:=by omega
  have e1:Ae .i64 ((k:Int)+1 - 1)=(k:Int):=by rw [wrap64 (by omega) (by omega)];omega
  refine Ab.BF BN Pt rfl 11 rfl [.tmp 2, .tmp 3] rfl (show 1≤11 by decide) ?_
  refine CW.vc E7 [0,2,3] (by kernel_rfl) ?_
  have e2:((k:Int)+1 - 1).toNat=k:=by omega
  have e3:(0:Int)≤((k % 64:Nat):Int):=by omega
  (repeat ((try refine Vc.mk' ?_);simp (maxSteps:=6000000) only [go_sem,reduceIte,reduceCtorEq,Nat.reduceAdd,Nat.reduceMul,Nat.reduceSub,Nat.reduceLT,Nat.reduceLeDiff,Nat.reduceEqDiff,Int.reduceEq,Int.reduceLT,Int.reduceLE,Int.reduceNe,e1,pc hk,DS,CV,e2,e3]))
theorem MJ {s d:TypeId}{k1 k2:IntKind}{hp:Hp}{x:Value}(h1:kindOf tt.get s=some (.int k1))(h2:kindOf tt.get d=some (.int k2)):B0 tt.get hp s d x=(.int k2 (Ae k2 (intOf x)),M4 x):=by
  simp [B0,h1,MH,h2]
theorem Fa {hp:Hp}{x:Value}:B0 tt.get hp 3 121 x=(.int .u64 (Ae .u64 (intOf x)),M4 x):=MJ Mr QO
theorem BP {k:Nat}:Ae .u64 ((k % 64:Nat):Int)=((k % 64:Nat):Int):=wrap_u64 (by omega) (by omega)
def bl (b:Ak):List Value:=EI.enc b
def iK (b:Ak)(i n:Nat):Ak:=match i with
  |0=> {b with x0:=n}
  |1=> {b with x1:=n}
  |2=> {b with x2:=n}
  |_=> {b with x3:=n}
def wn (b:Ak)(i:Nat):Nat:=(wd b i).toNat
def oX (v:Value):Ak:=EI.dec (Dn v)
def KP (v:Value):Prop:= ∃b,v= .agg ⟨bl b⟩∧GV b
theorem B5 {b:Ak}:oX (.agg ⟨bl b⟩)=b:=EI.h b
theorem OG {b:Ak}(h:GV b):KP (.agg ⟨bl b⟩)=True:=eq_true ⟨b,rfl,h⟩
theorem Cb {b:Ak}:(bl b).length=4:=rfl
theorem Cc {b:Ak}:BA (bl b)=true:=rfl
theorem Bs {b:Ak}{ρ:Nat→Nat}:Am ρ (bl b)=bl b:=rfl
theorem Ca {a b:Ak}:bl a ++ (bl b).drop 4=bl a:=by simp [bl,BR]
theorem Bu {b:Ak}:(bl b).take 4=bl b:=rfl
theorem Z2 {b:Ak}{i:Nat}(hb:GV b)(h:i < 4):((bl b)[i]?).getD undef= .int .u64 (wn b i:Int):=by
  unfold bl wn
  rw [RL h]
  congr 1
  have:=(hb.wd i).1
  omega
theorem Xo {b:Ak}{i n:Nat}(h:i < 4):A7 (bl b) i [.int .u64 (n:Int)] = bl (iK b i n):=by
  rw [Lo (by exact h)]
  rcases i with _ | _ | _ | _ | i
  · rfl
  · rfl
  · rfl
  · rfl
  · omega
theorem IZ {b:Ak}(hb:GV b)(i:Nat):wn b i < 18446744073709551616:=by have:=(hb.wd i);unfold wn;unfold Rz at this;omega
theorem jZ {b:Ak}{i n:Nat}(hb:GV b)(hn:n < 18446744073709551616):GV (iK b i n):=by
  obtain ⟨h0,h1,h2,h3⟩:=hb
  have hu:Rz (n:Int):=⟨by omega,by omega⟩
  rcases i with _ | _ | _ | i
  · exact ⟨hu,h1,h2,h3⟩
  · exact ⟨h0,hu,h2,h3⟩
  · exact ⟨h0,h1,hu,h3⟩
  · exact ⟨h0,h1,h2,hu⟩
theorem X9 {b:Ak}{i j n:Nat}(hi:i < 4)(hj:j < 4):wn (iK b i n) j=if j=i then n else wn b j:=by
  rcases i with _ | _ | _ | _ | i
  all_goals first
    |omega
    | (rcases j with _ | _ | _ | _ | j
       all_goals first
         |omega
         |rfl)
def zb:Ak:=⟨0,0,0,0⟩
theorem Kt:GV zb:=by refine ⟨?_, ?_, ?_, ?_⟩ <;> exact ⟨by decide,by decide⟩
def GS (b:Ak)(k:Nat):Ak:=iK b (k / 64) (wn b (k / 64) ||| 2 ^ (k % 64))
theorem jz {x y:Nat}(hx:x < 18446744073709551616)(hy:y < 18446744073709551616):x ||| y < 18446744073709551616:=Nat.or_lt_two_pow (n:=64) hx hy
theorem Gh {b:Ak}{k:Nat}(hb:GV b):GV (GS b k):=jZ hb (jz (IZ hb _) (UL (Nat.mod_lt _ (by decide))))
theorem n7 {x y:Nat}(hx:x < 18446744073709551616)(hy:y < 18446744073709551616):Ek .or .u64 (x:Int) (y:Int)=((x ||| y:Nat):Int):=by
  have h1:=jz hx hy
  have e:(BitVec.ofInt 64 (x:Int) ||| BitVec.ofInt 64 (y:Int)).toNat=x ||| y:=by rw [BitVec.toNat_or,KA hx,KA hy]
  show IntKind.u64.wrap ((BitVec.ofInt 64 (x:Int) ||| BitVec.ofInt 64 (y:Int)).toNat:Int)=_
  rw [e]
  have:=TH (x:=x ||| y)
  rwa [Nat.mod_eq_of_lt h1] at this
def hasB (b:Ak)(k:Nat):Bool:=(wn b (k / 64)).testBit (k % 64)
def G1:=Bd (Bd G0 67 (JW Cj)) 94 MB
theorem si:B9 Tryz.prog tt.get G1:=(E7.add Y5).add oE
theorem bD {b:Ak}{k i j:Nat}(hk:k < 256)(hi:i < 4)(hj:j < 64):(wn (GS b k) i).testBit j=((wn b i).testBit j || decide (64 * i+j=k)):=by
  have hk4:k / 64 < 4:=by omega
  unfold GS
  rw [X9 hk4 hi]
  by_cases h:i=k / 64
  · rw [if_pos h,Nat.testBit_or,Nat.testBit_two_pow,h]
    congr 1
    exact decide_eq_decide.2 (by omega)
  · rw [if_neg h]
    have:¬64 * i+j=k:=by omega
    simp [this]
theorem mi {i j:Nat}:(wn zb i).testBit j=false:=by
  rcases i with _ | _ | _ | i <;> simp [wn,wd,zb]
theorem Oc {b:Ak}{i j:Nat}(hj:j < 64):hasB b (64 * i+j)=(wn b i).testBit j:=by
  unfold hasB
  rw [show (64 * i+j) / 64=i from by omega,show (64 * i+j) % 64=j from by omega]
theorem lA {x y:Nat}(hx:x < 18446744073709551616)(hy:y < 18446744073709551616)(h:∀j,j < 64→x.testBit j=y.testBit j):x=y:=by
  refine Nat.eq_of_testBit_eq fun j=> ?_
  rcases Nat.lt_or_ge j 64 with hj | hj
  · exact h j hj
  · have:(18446744073709551616:Nat)≤2 ^ j:=Nat.pow_le_pow_right (n:=2) (i:=64) (by decide) hj
    rw [Nat.testBit_lt_two_pow (by omega),Nat.testBit_lt_two_pow (by omega)]
theorem ai {a b:Ak}(ha:GV a)(hb:GV b)(h:∀i j,i < 4→j < 64→(wn a i).testBit j=(wn b i).testBit j):a=b:=by
  have key:∀i,i < 4→wd a i=wd b i:=by
    intro i hi
    have e:=lA (IZ ha i) (IZ hb i) (fun j hj=>h i j hi hj)
    have h1:=(ha.wd i).1
    have h2:=(hb.wd i).1
    unfold wn at e
    omega
  have k0:=key 0 (by omega)
  have k1:=key 1 (by omega)
  have k2:=key 2 (by omega)
  have k3:=key 3 (by omega)
  cases a;cases b
  simp only [wd] at k0 k1 k2 k3
  simp [k0,k1,k2,k3]
def G2:=G1
theorem ov:B9 Tryz.prog tt.get G2:=si
theorem tN {k:Nat}:((k:Int)+1 - 1).toNat=k:=by omega
theorem qL:bl zb= [.int .u64 0, .int .u64 0, .int .u64 0, .int .u64 0]:=rfl
theorem ZC {w:Nat}(h:¬w=0)(hw:w < 18446744073709551616):∃m,w=2 ^ Lib.ctz 64 w * (2 * m+1):=by
  obtain ⟨m,h1,_⟩:=Lib.ctzFrom_spec 64 w (by omega) hw
  refine ⟨m, ?_⟩
  unfold Lib.ctz
  rw [if_neg h];exact h1
theorem Lz {w j:Nat}(h:¬w=0)(hw:w < 18446744073709551616):(j < Lib.ctz 64 w→w.testBit j=false)∧w.testBit (Lib.ctz 64 w)=true∧(w &&& (w - 1)).testBit j=(w.testBit j && !decide (j=Lib.ctz 64 w)):=by
  obtain ⟨m,hm⟩:=ZC h hw
  generalize Lib.ctz 64 w=c at hm
  have hp:=Nat.two_pow_pos c
  have h1:w - 1=2 ^ c * (2 * m)+(2 ^ c - 1):=by
    rw [hm,Nat.mul_add,Nat.mul_one];omega
  have tw:∀j,w.testBit j=(decide (j≥c) && (2 * m+1).testBit (j - c)):=fun j=>by rw [hm,Nat.testBit_two_pow_mul]
  refine ⟨fun hj=>by rw [tw];simp;omega,by rw [tw];simp, ?_⟩
  rw [Nat.testBit_and,h1,Nat.testBit_two_pow_mul_add _ (by omega),tw]
  by_cases hj:j < c
  · have:¬j≥c:=by omega
    simp [this]
  · by_cases he:j=c
    · subst he;simp
    · have hge:j≥c:=by omega
      have h0:j - c≠0:=by omega
      obtain ⟨d,hd⟩:∃d,j - c=d+1:=⟨j - c - 1,by omega⟩
      have e1:(2 * m+1).testBit (d+1)=m.testBit d:=by rw [Nat.testBit_succ];congr 1;omega
      have e2:(2 * m).testBit (d+1)=m.testBit d:=by rw [Nat.testBit_succ];congr 1;omega
      simp [hj,he,hge,hd,e1,e2]
def wf (i w:Nat):List Bn:=((List.range 64).filter fun j=>w.testBit j).map fun j=>T8 ((i * 64+j+1:Nat):Int)
theorem Ta {p q:Nat→Bool}{n c:Nat}(hc:c < n)(h1:∀j,j < c→p j=false)(h2:p c=true)(h3:∀j,q j=(p j && !decide (j=c))):(List.range n).filter p=c :: (List.range n).filter q:=by
  have e:List.range n=List.range' 0 c ++ (c :: List.range' (c+1) (n - c - 1)):=by
    rw [List.range_eq_range',show n=c+((n - c - 1)+1) from by omega,←List.range'_append_1,List.range'_succ]
    simp
  have hz:∀r:Nat→Bool,(∀j,j < c→r j=false)→(List.range' 0 c).filter r= []:=by
    intro r hr
    rw [List.filter_eq_nil_iff]
    intro a ha
    rw [List.mem_range'_1] at ha
    rw [hr a (by omega)];simp
  rw [e,List.filter_append,List.filter_append,hz p h1,hz q (fun j hj=>by rw [h3,h1 j hj];rfl),List.nil_append,List.nil_append,List.filter_cons_of_pos h2,List.filter_cons_of_neg (by rw [h3,h2];simp)]
  congr 1
  refine List.filter_congr fun a ha=> ?_
  rw [List.mem_range'_1] at ha
  have hne:¬a=c:=by omega
  rw [h3];simp [hne]
theorem kS {i:Nat}:∀(w:Nat),w < 18446744073709551616→wl i w=wf i w:=by
  intro w
  induction w using Nat.strongRecOn with
  |_ w ih=>
    intro hw
    by_cases h:w=0
    · subst h
      rw [Vn];unfold wf
      have:(List.range 64).filter (fun j=>(0:Nat).testBit j)= []:=by rw [List.filter_eq_nil_iff];simp
      rw [this];rfl
    · have hlt:=Hg h
      rw [U6 h,ih _ hlt (by omega)]
      unfold wf
      rw [Ta (p:=fun j=>w.testBit j) (q:=fun j=>(w &&& (w - 1)).testBit j) (aq h hw) (fun j hj=>(Lz (j:=j) h hw).1 hj) (Lz (j:=0) h hw).2.1 (fun j=>(Lz h hw).2.2),List.map_cons]
theorem Pp {i w:Nat}(hw:w < 18446744073709551616):(wl i w).length≤64:=by
  rw [kS w hw];unfold wf
  rw [List.length_map]
  exact Nat.le_trans (List.length_filter_le _ _) (by simp)
theorem KU {b:Ak}:CZ b=wl 0 (wn b 0) ++ (wl 1 (wn b 1) ++ (wl 2 (wn b 2) ++ wl 3 (wn b 3))):=by
  unfold CZ
  rw [FX (by omega),FX (by omega),FX (by omega),FX (by omega),Nc,List.append_nil]
  rfl
theorem II {b:Ak}(hb:GV b):(CZ b).length≤256:=by
  rw [KU]
  simp only [List.length_append]
  have h0:=Pp (i:=0) (IZ hb 0)
  have h1:=Pp (i:=1) (IZ hb 1)
  have h2:=Pp (i:=2) (IZ hb 2)
  have h3:=Pp (i:=3) (IZ hb 3)
  omega
end Go.Proofs.YthpibnpeaidabaaGreatDoor.Dm
