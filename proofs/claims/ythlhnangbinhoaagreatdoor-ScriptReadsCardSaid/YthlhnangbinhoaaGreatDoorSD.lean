/- What an op's fields may hold; the table of the kinds. -/
import Derived.Test.YthlhnangbinhoaaGreatDoorSB
import Derived.Test.YthlhnangbinhoaaGreatDoorTBC
set_option linter.unusedVariables false
namespace Go.Proofs.YthlhnangbinhoaaGreatDoor.Dm
open Go.Dm
set_option maxHeartbeats 16000000
set_option maxRecDepth 20000
def GC (n a b:Int):Bool:=decide (a≤n) && decide (n≤b)
def Ny:BE:= .pure (fun args _=>match args with | [x,y,z]=>GR .i64 x∧GR .i64 y∧GR .i64 z | _=>False) (fun args _=>match args with | [x,y,z]=> .bool (GC (intOf x) (intOf y) (intOf z)) | _=>undef)
theorem uM:Ag Tryz.prog 76 Ny:=by
 refine .mkPure ay ?_
 intro args hp hpre top
 match args,hpre with
 | [x,y,z],⟨hx,hy,hz⟩=>
 rw [hx,hy,hz]
 refine AJ.Af Am ay rfl 15 rfl [.tmp 6] rfl (show 3≤15 by decide) ?_
 refine CW.vc Qo [0,1,2,6] (by kernel_rfl) ?_
 (repeat ((try refine Vc.mk' ?_);simp (maxSteps:=6000000) only [go_sem]))
 refine D5 ?_
 simp [GC]
structure GS(x:A0):Prop where
 k:Ev x.Kind
 r:Ev x.Bg
 p:Ev x.DQ
 g:Ev x.CH
 e0:0≤x.Be
 e1:x.Be < 4294967296
 t:Ev x.Cj
 b:x.Bytes.length≤140737488351232
def gH (v:Value):Prop:= ∃x,v= .agg ⟨Aw.enc x⟩∧GS x
def Yz (v:Value):A0:=Aw.dec (B7 v)
theorem Ej {x:A0}:Yz (.agg ⟨Aw.enc x⟩)=x:=Aw.h x
theorem Ut {x:A0}(h:GS x):gH (.agg ⟨Aw.enc x⟩)=True:=eq_true ⟨x,rfl,h⟩
def A3 (f k:Int):Bool:= !decide (DS .and .i64 f k=0)
def ik (hp:Hp)(g:Nat):Int:=match hp g with
 |some (.cells _ _ [.int _ n])=>n
 |_=>0
theorem oA {hp:Hp}{g:Nat}{n:Int}(h:hp g=some (.cells true 0 [.int .i64 n])):ik hp g=n:=by unfold ik;rw [h]
def rW (hp:Hp)(g:Nat):Prop:= ∃f,hp g=some (.cells true 0 [.int .i64 f])
theorem il {hp:Hp}{g:Nat}{r:Bool}{z:Nat}{k:IntKind}{n:Int}:ik (hp.set g (some (.cells r z [.int k n]))) g=n:=by unfold ik;rw [AY]
theorem dc {hp:Hp}{g:Nat}{n:Int}:rW (hp.set g (some (.cells true 0 [.int .i64 n]))) g=True:=eq_true ⟨n,AY _ _ _⟩
def Pj:BE:= .pure (fun args hp=>match args with | [.int .i64 _, .bool _, .bool _, .pointer (some ⟨g,0,none⟩)]=>rW hp g | _=>False)
 (fun args hp=>match args with | [k,z,r, .pointer (some ⟨g,_,_⟩)]=> .bool (if A3 (ik hp g) (intOf k)=true then Bs r else Bs z) | _=>undef)
theorem pB:Ag Tryz.prog 79 Pj:=by
 refine .EK a8 ?_ ?_
 ·intro args hp h
  match args,h with
  | [.int .i64 k, .bool z, .bool r, .pointer (some ⟨g,0,none⟩)],_=>rfl
 intro args hp hpre top hcl hsc
 match args,hpre with
 | [.int .i64 k, .bool z, .bool r, .pointer (some ⟨g,0,none⟩)],⟨f,hg⟩=>
 simp only [oA hg,intOf_int,Jo]
 refine AJ.Af Am a8 rfl 14 rfl [.tmp 7] rfl (show 4≤14 by decide) ?_
 cases hf:A3 f k with
 |true=>
  have h1:¬DS .and .i64 f k=0:=by simpa [A3] using hf
  refine CW.vc Qo [0,1,2,3,7,11] (by kernel_rfl) ?_
  (repeat ((try refine Vc.mk' ?_);simp (maxSteps:=6000000) only [go_sem,hg,h1,decide_false]))
 |false=>
  have h1:DS .and .i64 f k=0:=by simpa [A3] using hf
  refine CW.vc Qo [0,1,2,3,7,11] (by kernel_rfl) ?_
  (repeat ((try refine Vc.mk' ?_);simp (maxSteps:=6000000) only [go_sem,hg,h1,decide_true]))
def GS4:FuncId→BE:=BV (BV zD 76 Ny) 79 Pj
theorem sZ:Bp Tryz.prog tt.get GS4:=(Qo.add uM).add pB
theorem zE:GS4 76=Ny:=rfl
theorem zF:GS4 79=Pj:=rfl
def m1 (x:A0)(f:Int):Bool:=if A3 f 1=true then GC x.Bg 1 24 else decide (x.Bg=0)
def m2 (x:A0)(f:Int):Bool:=if A3 f 2=true then GC x.DQ 1 24 else decide (x.DQ=0)
def m3 (x:A0)(f:Int):Bool:=if A3 f 4=true then GC x.CH 0 7 else decide (x.CH=0)
def m4 (x:A0)(f:Int):Bool:=if A3 f 8=true then true else decide (x.Be=0)
def m5 (x:A0)(f:Int):Bool:=if A3 f 16=true then !decide ((512:Int) < (x.Bytes.length:Int)) else decide (x.Bytes= [])
def m6 (x:A0)(f:Int):Bool:=if A3 f 32=true then GC x.Cj 1 4096 else decide (x.Cj=0)
def CX(x:A0)(f:Int):Bool:=m1 x f && m2 x f && m3 x f && m4 x f && m5 x f && m6 x f
def GF:BE:= .pure (fun args _=>match args with | [v, .int .i64 _]=>gH v | _=>False) (fun args _=>match args with | [v,f]=> .bool (CX (Yz v) (intOf f)) | _=>undef)
theorem Yr:Ag Tryz.prog 41 GF:=by
 refine .EK aV ?_ ?_
 ·rintro args hp h
  match args,h with
  | [_, .int .i64 _],⟨x,rfl,_⟩=>rfl
 intro args hp hpre top hcl hsc
 match args,hpre with
 | [_, .int .i64 f],⟨x,rfl,h⟩=>
 simp only [Ej,intOf_int]
 refine AJ.Af Am aV rfl 63 rfl [.tmp 4] rfl (show 2≤63 by decide) ?_
 refine CW.vc sZ [0,1,2,3,4,5] (by kernel_rfl) ?_
 have e1:(if A3 f 1=true then GC x.Bg 1 24 else decide (x.Bg=0))=m1 x f:=rfl
 have e2:(if A3 f 2=true then GC x.DQ 1 24 else decide (x.DQ=0))=m2 x f:=rfl
 have e3:(if A3 f 4=true then GC x.CH 0 7 else decide (x.CH=0))=m3 x f:=rfl
 have e4:(if A3 f 8=true then true else decide (x.Be=0))=m4 x f:=rfl
 have e5:(if A3 f 16=true then !decide ((512:Int) < (x.Bytes.length:Int)) else decide (x.Bytes= []))=m5 x f:=rfl
 have e6:(if A3 f 32=true then GC x.Cj 1 4096 else decide (x.Cj=0))=m6 x f:=rfl
 (repeat ((try refine Vc.mk' ?_);simp (maxSteps:=6000000) only [go_sem,zE,zF,Ny,Pj,dc,il,Ex,FP,Ap,Ay,e1,e2,e3,e4,e5,e6]))
 clear e1 e2 e3 e4 e5 e6
 unfold CX
 generalize m1 x f=b1
 generalize m2 x f=b2
 generalize m3 x f=b3
 generalize m4 x f=b4
 generalize m5 x f=b5
 generalize m6 x f=b6
 cases b1 <;> cases b2 <;> cases b3 <;> cases b4 <;> cases b5 <;> cases b6 <;> (repeat ((try refine Vc.mk' ?_);simp (maxSteps:=6000000) only [go_sem]))
 all_goals rfl
def BI:List Da:= [⟨1, [116,105,99,107],32⟩,⟨2, [99,117,116],3⟩,⟨3, [109,101,110,100],3⟩,⟨4, [99,114,97,115,104],1⟩,⟨5, [115,116,97,114,116],1⟩,⟨6, [106,111,105,110],5⟩,⟨7, [108,101,97,118,101],5⟩,⟨8, [115,101,110,100],13⟩,⟨9, [114,97,119],19⟩,⟨10, [115,101,116,116,108,101],32⟩,⟨11, [119,104,111],5⟩,⟨12, [116,97,98,108,101],1⟩]
def RW:List Value:=Qi.flat BI
theorem RX:RW= [.int .i64 1, .string ⟨⟨[116,105,99,107]⟩⟩, .int .i64 32, .int .i64 2, .string ⟨⟨[99,117,116]⟩⟩, .int .i64 3, .int .i64 3, .string ⟨⟨[109,101,110,100]⟩⟩, .int .i64 3, .int .i64 4, .string ⟨⟨[99,114,97,115,104]⟩⟩, .int .i64 1, .int .i64 5, .string ⟨⟨[115,116,97,114,116]⟩⟩, .int .i64 1, .int .i64 6, .string ⟨⟨[106,111,105,110]⟩⟩, .int .i64 5, .int .i64 7, .string ⟨⟨[108,101,97,118,101]⟩⟩, .int .i64 5, .int .i64 8, .string ⟨⟨[115,101,110,100]⟩⟩, .int .i64 13, .int .i64 9, .string ⟨⟨[114,97,119]⟩⟩, .int .i64 19, .int .i64 10, .string ⟨⟨[115,101,116,116,108,101]⟩⟩, .int .i64 32, .int .i64 11, .string ⟨⟨[119,104,111]⟩⟩, .int .i64 5, .int .i64 12, .string ⟨⟨[116,97,98,108,101]⟩⟩, .int .i64 1]:=rfl
def Ko:BE:= .pure (fun args _=>args= []) (fun _ _=> .agg ⟨RW⟩)
def GS5:FuncId→BE:=BV GS4 41 GF
theorem sa:Bp Tryz.prog tt.get GS5:=sZ.add Yr
theorem qE:Ag Tryz.prog 40 Ko:=by
 refine .EK aU (fun _ _ _=>by rw [RX];rfl) ?_
 intro args hp hpre top hcl hsc
 subst hpre
 rw [RX]
 refine AJ.Af Am aU rfl 14 rfl [.cell 0 101] rfl (show 0≤14 by decide) ?_
 refine CW.vc sa [0] (by kernel_rfl) ?_
 (repeat ((try refine Vc.mk' ?_);simp (maxSteps:=6000000) only [go_sem]))
end Go.Proofs.YthlhnangbinhoaaGreatDoor.Dm
set_option linter.unusedVariables false
namespace Go.Proofs.YthlhnangbinhoaaGreatDoor.Dm
open Go.Dm Go.RowKit
set_option maxHeartbeats 4000000
set_option maxRecDepth 100000
def Pg:BE:= .pure (fun args hp=>match args with | [.pointer (some ⟨i,0,none⟩)]=>(∃a j l,DZ hp i a j l) | _=>False)
 (fun args hp=>match args with | [.pointer (some ⟨i,_,_⟩)]=> .int .i64 (L0 hp i).length | _=>undef)
theorem qO {h':Hp}{j:Nat}{l:List UInt8}:Bv tt.get h' 69 (AA j l)=(.int .i64 (l.length:Int),True):=by
 unfold Bv
 simp only [DU]
 cases l <;> simp [AA,DV,DX,Xq]
theorem nX:Ag Tryz.prog 27 Pg:=by
 refine .EK aL ?_ ?_
 ·rintro args hp h
  match args,h with
  | [.pointer (some ⟨i,0,none⟩)],⟨a,j,l,hB⟩=>rfl
 intro args hp hpre top hcl hsc
 match args,hpre with
 | [.pointer (some ⟨i,0,none⟩)],⟨a,j,l,hB⟩=>
 have h1:=hB.o
 unfold Cz at h1
 simp only [hB.PX]
 refine AJ.Af Am aL rfl 8 rfl [.tmp 2] rfl (show 1≤8 by decide) ?_
 refine CW.vc SD [0,2] (by kernel_rfl) ?_
 (repeat ((try refine Vc.mk' ?_);simp only [go_sem,h1,qO]))
theorem Zl{φ:Dm.Ren}:∀ {l m:List Value}{k:Nat}{v:Value},Vs φ l m→l[k]? = some v→∃v',m[k]? = some v'∧V φ v v'
 |_,_,k,v, .nil,h=>by simp at h
 |_,_,0,v, .cons x x' l m hx hl,h=>by
  simp only[List.getElem?_cons_zero,Option.some.injEq]at h
  subst h
  exact⟨x',rfl,hx⟩
 |_,_,k+1,v, .cons x x' l m hx hl,h=>by
  rw[List.getElem?_cons_succ]at h
  rw[List.getElem?_cons_succ]
  exact Zl hl h
theorem uZ{t m:Nat}(h1:1+5+4096 * 0=1+t+4096 * m)(h2:t < 4095):t=5:=by omega
theorem df {w:World}{g n k:Nat}(hn:n≠0)(hk:k≠g):(w.freeze ⟨g,0,none⟩ n).heap[k]? = w.heap[k]? :=by
 simp only [World.freeze,if_neg hn,Array.getElem?_modify]
 rw [if_neg (Ne.symm hk)]
theorem dh {w:World}{g n:Nat}:(w.freeze ⟨g,0,none⟩ n).heap.size=w.heap.size:=by
 unfold World.freeze
 split
 ·rfl
 ·simp
theorem J6{w:World}{a:Addr}{n:Nat}:(w.freeze a n).os=w.os∧(w.freeze a n).tape=w.tape∧(w.freeze a n).output=w.output:=by
 unfold World.freeze
 split <;> exact⟨rfl,rfl,rfl⟩
def Iv:BE:= .det (fun args hp _=>match args with | [.pointer (some ⟨i,0,none⟩)]=>(∃a j l,DZ hp i a j l∧l.length≤140737488355328) | _=>False)
 (fun args hp top=>match args with | [.pointer (some ⟨i,_,_⟩)]=>(.string ⟨⟨L0 hp i⟩⟩, [(Hi hp i top,none)],top+1) | _=>(undef, [],top))
theorem nZ:Ag Tryz.prog 28 Iv:=by
 refine ⟨⟨_,oH.toFTOk⟩,fun args hp top hpre=> ?_⟩
 match args,hpre with
 | [.pointer (some ⟨i,0,none⟩)],⟨a,j,l,hB,hroom⟩=>
 intro φ own w args' hargs H htop
 cases hargs with
 |cons _ _ _ _ hx hl=>
 cases hl
 cases hx with
 |ptr _ _ L hL=>
 obtain ⟨h0,hlim,hesz,x,y,fz,hh,va,vb,hfz⟩:=Jl H hB.o hL
 have hc1:w.cell? ⟨L.BT,1,none⟩=some y:=by simp [World.cell?,hh]
 rw [h0]
 simp only [hB.PX]
 have hset:∀k o,hp.Ac [(Hi hp i top,none)] k=some o→hp k=some o:=fun k o hk=>by
  simp only [BR,Bh,Hp.set] at hk
  split at hk
  ·cases hk
  ·exact hk
 by_cases hl:l= []
 ·subst hl
  cases vb
  refine Calls.mono (qk L.BT w hc1) ?_
  rintro e w' ⟨rfl,rfl⟩
  exact ⟨_,_,_,_,φ,rfl,⟨rfl,rfl,rfl⟩,⟨Dm.Ren.le_refl _, .str _,(H.sub hset).drew _,Dm.K.drew _ _ _,fun k hk=>htop k (by omega)⟩⟩
 ·have hl0:l.length≠0:=by simpa using hl
  have hj:=hB.b
  rw [JT,QX hl] at hj
  rw [Kx hl] at vb
  cases vb with
  |slice _ _ _ _ c' M hM hnc hcc hlm=>
  obtain ⟨M',hM',he,c,t,fz2,hg,hsz,hle,hvs,hfz2⟩:=H.obj j _ hj
  rw [hM] at hM';cases hM'
  obtain ⟨m,m1,m2,m3,m4⟩:=hfz2.2.2 rfl Ys
  rw [U8] at m1
  have ht:=uZ m1 m2
  subst ht
  rw [m3] at hvs hle hc1
  rw [ES,List.drop_zero] at hvs
  rw [ES,Nat.zero_add] at hle
  have hcell:∀k x,l[k]? = some x→w.cell? ⟨M.BT,k,none⟩=some (.int .u8 x.toNat):=fun k x hk=>by
   obtain ⟨v',hv',vv⟩:=Zl (k:=k) (v:= .int .u8 x.toNat) hvs (by simp [JU,hk])
   cases vv
   rw [List.getElem?_take] at hv'
   split at hv'
   ·have:c[k]? = some (.int .u8 x.toNat):=by rw [←Array.getElem?_toList];exact hv'
    simp [World.cell?,hg,this]
   ·cases hv'
  have hsz':l.length≤c.size:=by rw [hsz];exact hle
  refine Calls.mono (xB L.BT M.BT c' l c fz2 w hl hcc hsz' (by omega) hc1 hg hcell) ?_
  rintro e w' ⟨rfl,rfl⟩
  have hw1:∀k,k≠M.BT→(w.drew.freeze ⟨M.BT,0,none⟩ l.length).heap[k]? = w.heap[k]? :=fun k hk=>df hl0 hk
  have hw2:(w.drew.freeze ⟨M.BT,0,none⟩ l.length).heap.size=w.heap.size:=dh
  have own1:=H.D0 j _ M hj rfl hM
  refine ⟨_,_,_,_,φ,rfl,⟨rfl,rfl,rfl⟩,⟨Dm.Ren.le_refl _, .str _, ?_,⟨Nat.le_of_eq hw2.symm,fun k _ hn=>hw1 k fun e=>hn (e ▸ own1),J6.1,J6.2.1,J6.2.2⟩,fun k hk=>htop k (by omega)⟩⟩
  have hsub:=H.sub hset
  refine ⟨fun k o hk=> ?_,hsub.sep,hsub.D0,fun k N hN=>by rw [hw2];exact H.val k N hN,fun k hk=>H.fresh k (by rw [hw2] at hk;exact hk)⟩
  have hkj:j≠k:=fun e=>by
   subst e
   rw [hB.SG hl] at hk
   simp only [BR,Bh,Hp.set,if_true] at hk
   cases hk
  have hk':=hset k o hk
  obtain ⟨N,hN,ok⟩:=H.obj k o hk'
  refine ⟨N,hN, ?_⟩
  rw [hw1 N.BT (Ne.symm (H.sep j k _ o M N hj hk' hkj rfl hM hN))]
  exact ok
end Go.Proofs.YthlhnangbinhoaaGreatDoor.Dm
set_option linter.unusedVariables false
namespace Go.Proofs.YthlhnangbinhoaaGreatDoor.Dm
open Go.Dm
set_option maxHeartbeats 16000000
set_option maxRecDepth 20000
def AAD:List UInt8:= [48,49,50,51,52,53,54,55,56,57,97,98,99,100,101,102]
def L4(n:Nat):UInt8:=(AAD[n]?).getD 0
def CZ (b:List UInt8):List UInt8:=b.flatMap fun c=> [L4 (c.toNat / 16),L4 (c.toNat % 16)]
theorem EI (b:List UInt8):(CZ b).length=2 * b.length:=by
 induction b with
 |nil=>rfl
 |cons a b ih=>
  have:CZ (a :: b)=L4 (a.toNat / 16) :: L4 (a.toNat % 16) :: CZ b:=rfl
  rw [this];simp only [List.length_cons,ih];omega
theorem dq {b:List UInt8}{c:UInt8}:CZ (b ++ [c])=CZ b ++ [L4 (c.toNat / 16)] ++ [L4 (c.toNat % 16)]:=by simp [CZ]
theorem Bj {α:Type}[Inhabited α]{l:List α}{k:Nat}(h:k < l.length):l.take (k+1)=l.take k ++ [at' l k]:=by rw [BS _ _ h,List.take_add_one,List.getElem?_eq_getElem h];rfl
theorem TC {b:List UInt8}{k:Nat}(h:k < b.length):CZ (b.take (k+1))=CZ (b.take k) ++ [L4 ((at' b k).toNat / 16)] ++ [L4 ((at' b k).toNat % 16)]:=by rw [Bj h,dq]
theorem IX {ρ:Nat→Nat}{a b:Value}:GN ρ (Cz a b)=Cz (Ao ρ a) (Ao ρ b):=rfl
theorem K3 {ρ:Nat→Nat}{l:List UInt8}:GN ρ (JT l)=JT l:=by
 cases l with
 |nil=>rfl
 |cons a l=>
  show some (A8.cells true pD (Cg ρ (JU (a :: l))))=some (.cells true pD (JU (a :: l)))
  have:∀l:List UInt8,Cg ρ (JU l)=JU l:=fun l=>by
   rw [EM,JU,List.map_map];rfl
  rw [this]
def Ve (top k:Nat):Value:=if k=0 then .pointer none else .pointer (some ⟨top,0,none⟩)
theorem gU {top k:Nat}:Ve top k= .pointer none∨Ve top k= .pointer (some ⟨top,0,none⟩):=by unfold Ve;split <;> simp
theorem Nd{b:List UInt8}{k:Nat}(h:k < b.length):(b[k]?).getD 0=at' b k:=by rw[BS _ _ h,List.getElem?_eq_getElem h];rfl
theorem Xv (c:UInt8):(Int.ofNat c.toNat < 256)=True:=eq_true (by have:=c.toNat_lt;simp;omega)
theorem Xu (c:UInt8):(0≤Int.ofNat c.toNat)=True:=eq_true (Int.natCast_nonneg _)
theorem AB2 (c:UInt8):(Int.ofNat c.toNat).fdiv (Int.ofNat (Nat.pow 2 ((Int.toNat 4).min 8)))=((c.toNat / 16:Nat):Int):=by
 have:∀n:Fin 256,(Int.ofNat n.val).fdiv (Int.ofNat (Nat.pow 2 ((Int.toNat 4).min 8)))=((n.val / 16:Nat):Int):=by decide +kernel
 exact this ⟨c.toNat,c.toNat_lt⟩
theorem sN (c:UInt8):DS .and .u8 (Int.ofNat c.toNat) 15=((c.toNat % 16:Nat):Int):=by
 have:∀n:Fin 256,DS .and .u8 (Int.ofNat n.val) 15=((n.val % 16:Nat):Int):=by decide +kernel
 exact this ⟨c.toNat,c.toNat_lt⟩
theorem Qg(n:Nat):([48,49,50,51,52,53,54,55,56,57,97,98,99,100,101,102] :List UInt8)[n]?.getD 0=L4 n:=rfl
theorem UP (c:UInt8):UInt8.ofNat (Int.ofNat c.toNat).toNat=c:=by simp
def UJ:BE:= .pure (fun args _=>match args with | [.string ⟨⟨b⟩⟩]=>b.length≤512 | _=>False) (fun args _=>match args with | [b]=> .string ⟨⟨CZ (strOf b)⟩⟩ | _=>undef)
def GS6:FuncId→BE:=BV (BV (BV GS5 40 Ko) 101 WJ) 28 Iv
theorem S5:Bp Tryz.prog tt.get GS6:=((sa.add qE).add ACX).add nZ
theorem sB:GS6 101=WJ:=rfl
theorem sA:GS6 28=Iv:=rfl
def XZ (hp:Hp)(top:Nat)(b:List UInt8)(k:Nat):SS:=⟨[(0, .string ⟨⟨b⟩⟩,true),(3, .pointer (some ⟨top,0,none⟩),true),(6, .int .i64 (b.length:Int),true),(7, .int .i64 (k:Int),true)],hp.Ac [(top,Cz (Ve top k) (AA (top+1) (CZ (b.take k)))),(top+1,JT (CZ (b.take k)))],top+2⟩
theorem u4:Ag Tryz.prog 81 UJ:=by
 refine .EK bA ?_ ?_
 ·intro args hp h
  match args,h with
  | [.string ⟨⟨b⟩⟩],_=>rfl
 intro args hp hpre top hcl hsc
 match args,hpre with
 | [.string ⟨⟨b⟩⟩],hb=>
 simp only [AH]
 refine AJ.Af Am bA rfl 24 rfl [.tmp 2] rfl (show 1≤24 by decide) ?_
 refine CW.vc S5 [0,2,3,4,6,7,8] (by kernel_rfl) ?_
 (repeat ((try refine Vc.mk' ?_);simp (maxSteps:=6000000) only [go_sem,Ap]))
 refine CW.Bc (XZ hp top b) (fun k=>k≤b.length) (fun k=>b.length - k) 0 (Nat.zero_le _) ?_ ?_
 ·exact (by refine Al.mk' [top,top+1] hcl (by simp) (by simp) rfl (AF ?_) ?_ ?_ <;> simp [DD,show Ve top 0= .pointer none from rfl,show CZ ([] :List UInt8)= [] from rfl,show JT [] = none from rfl,Cz])
 ·intro k hi
  by_cases hlt:k < b.length
  ·have kk:Ad .i64 ((k:Int)+1)=((k+1:Nat):Int):=Ae hlt (by omega)
   have hts:=TC hlt
   have hTl:=EI (b.take k)
   have hTk:(b.take k).length≤512:=by rw [List.length_take];omega
   have hc:=Nd hlt
   have h16:(at' b k).toNat / 16 < 16:=by have:=(at' b k).toNat_lt;omega
   have h16':(at' b k).toNat % 16 < 16:=Nat.mod_lt _ (by decide)
   generalize hT:CZ (b.take k)=T at hts hTl
   have hb1:Ve top (k+1)= .pointer (some ⟨top,0,none⟩):=rfl
   have hP:∀ {h':Hp},h' top=Cz (Ve top k) (AA (top+1) T)→h' (top+1)=JT T→DZ h' top (Ve top k) (top+1) T:=fun a b=>⟨a,gU,b,by omega⟩
   have hpre:∀ {h':Hp},h' top=Cz (Ve top k) (AA (top+1) T)→h' (top+1)=JT T→(∃a j l_1,DZ h' top a j l_1∧l_1.length≤140737488355327)=True:=fun a b=>eq_true ⟨_,_,_,hP a b,by omega⟩
   have hbL:∀ {h':Hp},h' top=Cz (Ve top k) (AA (top+1) T)→h' (top+1)=JT T→L0 h' top=T:=fun a b=>(hP a b).PX
   generalize hd1:L4 ((at' b k).toNat / 16)=d1 at hts
   generalize hd2:L4 ((at' b k).toNat % 16)=d2 at hts
   have hP2:∀ {h':Hp} {q:Nat},h' top=Cz (.pointer (some ⟨top,0,none⟩)) (AA (top+2+1) (T ++ [d1]))→h' (top+2+1)=JT (T ++ [d1])→DZ h' top (.pointer (some ⟨top,0,none⟩)) (top+2+1) (T ++ [d1]):=fun a b=>⟨a, .inr rfl,b,by omega⟩
   have hpre2:∀ {h':Hp},h' top=Cz (.pointer (some ⟨top,0,none⟩)) (AA (top+2+1) (T ++ [d1]))→h' (top+2+1)=JT (T ++ [d1])→(∃a j l_1,DZ h' top a j l_1∧l_1.length≤140737488355327)=True:=fun a b=>eq_true ⟨_,_,_,hP2 (q:=0) a b,by simp only [List.length_append,List.length_cons,List.length_nil];omega⟩
   have hbL2:∀ {h':Hp},h' top=Cz (.pointer (some ⟨top,0,none⟩)) (AA (top+2+1) (T ++ [d1]))→h' (top+2+1)=JT (T ++ [d1])→L0 h' top=T ++ [d1]:=fun a b=>(hP2 (q:=0) a b).PX
   have hbJ2:∀ {h':Hp} {t:Nat},h' top=Cz (.pointer (some ⟨top,0,none⟩)) (AA (top+2+1) (T ++ [d1]))→h' (top+2+1)=JT (T ++ [d1])→Hi h' top t=top+2+1:=fun a b=>(hP2 (q:=0) a b).SG (by simp)
   by_cases k0:T= []
   ·have hbJ:∀ {h':Hp} {t:Nat},h' top=Cz (Ve top k) (AA (top+1) T)→h' (top+1)=JT T→Hi h' top t=t:=fun a b=>by
     have:=hP a b
     rw [k0] at this
     exact this.TF
    refine CW.vc S5 [0,2,3,4,6,7,8] (by kernel_rfl) ?_
    (repeat ((try refine Vc.mk' ?_);simp (maxSteps:=6000000) only [go_sem,XZ,hT,hlt,kk,sB,WJ,hc,AB2,sN,h16,h16',Qg,hd1,hd2,Xv,Xu,UP,hpre,wbU,hbL,hbJ,hpre2,hbL2,hbJ2]))
    refine .mk (k+1) hlt (by omega) ((by refine Al.mk' [top,top+5] hcl (by simp) (by simp) rfl (AF ?_) ?_ ?_ <;> simp [hts,IX,K3,Av,hb1]))
   ·have hbJ:∀ {h':Hp} {t:Nat},h' top=Cz (Ve top k) (AA (top+1) T)→h' (top+1)=JT T→Hi h' top t=top+1:=fun a b=>(hP a b).SG k0
    refine CW.vc S5 [0,2,3,4,6,7,8] (by kernel_rfl) ?_
    (repeat ((try refine Vc.mk' ?_);simp (maxSteps:=6000000) only [go_sem,XZ,hT,hlt,kk,sB,WJ,hc,AB2,sN,h16,h16',Qg,hd1,hd2,Xv,Xu,UP,hpre,wbU,hbL,hbJ,hpre2,hbL2,hbJ2]))
    refine .mk (k+1) hlt (by omega) ((by refine Al.mk' [top,top+5] hcl (by simp) (by simp) rfl (AF ?_) ?_ ?_ <;> simp [hts,IX,K3,Av,hb1]))
  ·have hi2:k=b.length:=by omega
   subst hi2
   have hTl:=EI b
   have hP:∀ {h':Hp},h' top=Cz (Ve top b.length) (AA (top+1) (CZ b))→h' (top+1)=JT (CZ b)→DZ h' top (Ve top b.length) (top+1) (CZ b):=fun a b=>⟨a,gU,b,by omega⟩
   have hp3:∀ {h':Hp},h' top=Cz (Ve top b.length) (AA (top+1) (CZ b))→h' (top+1)=JT (CZ b)→(∃a j l_1,DZ h' top a j l_1∧l_1.length≤140737488355328)=True:=fun a b=>eq_true ⟨_,_,_,hP a b,by omega⟩
   have hbL:∀ {h':Hp},h' top=Cz (Ve top b.length) (AA (top+1) (CZ b))→h' (top+1)=JT (CZ b)→L0 h' top=CZ b:=fun a b=>(hP a b).PX
   have hbJ:(∀ {h':Hp} {t:Nat},h' top=Cz (Ve top b.length) (AA (top+1) (CZ b))→h' (top+1)=JT (CZ b)→Hi h' top t=t)∨(∀ {h':Hp} {t:Nat},h' top=Cz (Ve top b.length) (AA (top+1) (CZ b))→h' (top+1)=JT (CZ b)→Hi h' top t=top+1):=by
    by_cases k0:CZ b= []
    ·refine .inl fun {h'} {t} a b=> ?_
     have:=hP a b
     rw [k0] at this
     exact this.TF
    ·exact .inr fun a b=>(hP a b).SG k0
   rcases hbJ with hbJ | hbJ
   ·refine CW.vc S5 [0,2,3,4,6,7,8] (by kernel_rfl) ?_
    (repeat ((try refine Vc.mk' ?_);simp (maxSteps:=6000000) only [go_sem,XZ,Nat.lt_irrefl,decide_false,List.take_length,hbL,hbJ,sA,Iv,hp3]))
   ·refine CW.vc S5 [0,2,3,4,6,7,8] (by kernel_rfl) ?_
    (repeat ((try refine Vc.mk' ?_);simp (maxSteps:=6000000) only [go_sem,XZ,Nat.lt_irrefl,decide_false,List.take_length,hbL,hbJ,sA,Iv,hp3]))
end Go.Proofs.YthlhnangbinhoaaGreatDoor.Dm
