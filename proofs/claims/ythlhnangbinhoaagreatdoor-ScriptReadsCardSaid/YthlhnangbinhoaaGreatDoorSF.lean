/- Digits as bytes; an op's bytes as a word, and back. -/
import Derived.Test.YthlhnangbinhoaaGreatDoorSD
set_option linter.unusedVariables false
namespace Go.Proofs.YthlhnangbinhoaaGreatDoor.Dm
open Go.Dm
set_option maxHeartbeats 16000000
set_option maxRecDepth 20000
def So:BE:= .pure (fun args _=>match args with | [.string ⟨⟨_⟩⟩, .int .u8 _]=>True | _=>False) (fun args _=>match args with | [s,c]=> .int .i64 (Lib.indexByte (strOf s) (intOf c).toNat.toUInt8) | _=>undef)
theorem AAd:Ag Tryz.prog 119 So:=by
 refine ⟨⟨_,iq.toFTOk⟩,fun args hp hpre top=> ?_⟩
 match args,hpre with
 | [.string ⟨⟨s⟩⟩, .int .u8 c],_=>
 refine AJ.OM rfl fun φ own w args' ha H=> ?_
 cases ha with
 |cons _ _ _ _ hx hl=>
 cases hx
 cases hl with
 |cons _ _ _ _ hx hl=>
 cases hx
 cases hl
 refine (Tryz.strings_IndexByte ⟨⟨s⟩⟩ c w).mono ?_
 rintro e w' ⟨rfl,rfl⟩
 exact ⟨rfl,Go.RowKit.Below.refl _ _⟩
def hv(c:UInt8):Int:=Lib.indexByte AAD c
theorem MG (c:UInt8): -1≤hv c∧hv c < 16:=by
 have:∀n:Fin 256, -1≤hv (UInt8.ofNat n.val)∧hv (UInt8.ofNat n.val) < 16:=by decide +kernel
 have h:=this ⟨c.toNat,c.toNat_lt⟩
 simpa using h
def mr (a b:UInt8):UInt8:=UInt8.ofNat (16 * (hv a).toNat+(hv b).toNat)
def EX (s:List UInt8)(k:Nat):List UInt8:=(List.range k).map fun j=>mr (at' s (2 * j)) (at' s (2 * j+1))
def SK (s:List UInt8)(k:Nat):Bool:=(List.range k).all fun j=>decide (0≤hv (at' s (2 * j))) && decide (0≤hv (at' s (2 * j+1)))
theorem TX {s:List UInt8}{k:Nat}:EX s (k+1)=EX s k ++ [mr (at' s (2 * k)) (at' s (2 * k+1))]:=by simp [EX,List.range_succ]
theorem GA{s:List UInt8}{k:Nat}:(EX s k).length=k:=by simp[EX]
theorem RI {s:List UInt8}{k:Nat}:SK s (k+1)=(SK s k && (decide (0≤hv (at' s (2 * k))) && decide (0≤hv (at' s (2 * k+1))))):=by simp [SK,List.range_succ]
theorem NK {s : List UInt8} {k : Nat} : ∀ {n : Nat}, k ≤ n → SK s k = false → SK s n = false := by
  intro n
  induction n with
  | zero => intro h; have : k = 0 := by omega
            subst this; exact id
  | succ n ih =>
    intro h e
    by_cases hk : k = n + 1
    · subst hk; exact e
    · rw [RI, ih (by omega) e]; rfl
def GL (s:List UInt8):Option (List UInt8):=if s.length % 2=0∧SK s (s.length / 2)=true then some (EX s (s.length / 2)) else none
def Ic (s:List UInt8):Value:= .tuple ⟨[.string ⟨⟨(GL s).getD []⟩⟩, .int .i64 (if (GL s).isSome then 0 else 4)]⟩
def N0:BE:= .pure (fun args _=>match args with | [.string ⟨⟨s⟩⟩]=>s.length < 4294967281 | _=>False) (fun args _=>match args with | [s]=>Ic (strOf s) | _=>undef)
theorem vx {a b:Int}(h0:0≤a)(h1:a < 16)(h2:0≤b)(h3:b < 16):Ad .u8 (DS .or .i64 (Ad .i64 (a * Int.ofNat (Nat.pow 2 ((Int.toNat 4).min 64)))) b)=((UInt8.ofNat (16 * a.toNat+b.toNat)).toNat:Int):=by
 have:∀x y:Fin 16,Ad .u8 (DS .or .i64 (Ad .i64 ((x.val:Int) * Int.ofNat (Nat.pow 2 ((Int.toNat 4).min 64)))) (y.val:Int))=((UInt8.ofNat (16 * x.val+y.val)).toNat:Int):=by decide +kernel
 have h:=this ⟨a.toNat,by omega⟩ ⟨b.toNat,by omega⟩
 simpa only [Int.toNat_of_nonneg h0,Int.toNat_of_nonneg h2] using h
theorem mC(c:UInt8):(Int.ofNat c.toNat).toNat.toUInt8=c:=by simp
theorem Yk (c:UInt8):Lib.indexByte [48,49,50,51,52,53,54,55,56,57,97,98,99,100,101,102] c=hv c:=rfl
def GS7:FuncId→BE:=BV (BV GS6 81 UJ) 119 So
theorem Qp:Bp Tryz.prog tt.get GS7:=(S5.add u4).add AAd
theorem gC:GS7 119=So:=rfl
def zU (L:List UInt8)(n:Nat):List Value:=JU L ++ C3 n (.int .u8 0)
theorem xU {n:Nat}:zU [] n=C3 n (.int .u8 0):=rfl
theorem OP {n:Nat}{v:Value}:C3 (n+1) v=v :: C3 n v:=rfl
theorem mZ {L:List UInt8}{n:Nat}:(zU L n).length=L.length+n:=by simp [zU,ES,kP]
theorem OO {f:Value→Value}{v:Value}:∀n,(C3 n v).map f=C3 n (f v)
 |0=>rfl
 |n+1=>by rw [OP,OP,List.map_cons,OO n]
theorem xW {ρ:Nat→Nat}{L:List UInt8}{n:Nat}:Cg ρ (zU L n)=zU L n:=by
 rw [EM,zU,List.map_append,OO,JU,List.map_map];rfl
theorem rU {ρ:Nat→Nat}{n:Nat}:Cg ρ (C3 n (.int .u8 0))=C3 n (.int .u8 0):=by rw [EM,OO];rfl
theorem xV {L:List UInt8}{n:Nat}{x:UInt8}:A1 (zU L (n+1)) L.length [.int .u8 x.toNat] = zU (L ++ [x]) n:=by
 unfold A1 zU
 rw [OP]
 have e:(JU L).length=L.length:=ES
 rw [List.take_append_of_le_length (by omega),List.take_of_length_le (by omega),←e,List.drop_append]
 simp [JU,List.drop_eq_nil_of_le]
theorem zc {hp:Hp}{b q top k c:Nat}{L:List UInt8}{x:UInt8}(hL:L.length=k)(hc:k < c)(hb:hp b=some (.cells true 1 (zU L (c - k))))(hq:hp q=some (.cells true 1 [.int .u8 x.toNat])) :
  AK tt.get hp top [69,69] (.slice (some ⟨b,0,none⟩) k c) (.slice (some ⟨q,0,none⟩) 1 1)=some (.slice (some ⟨b,0,none⟩) (k+1) c, [(b,some (.cells true 1 (zU (L ++ [x]) (c - (k+1)))))],top):=by
 have h1:(Nat.ble (k+1) c && !Nat.beq k c)=true:=by
  rw [Bool.and_eq_true]
  have e0:Nat.beq k c=false:=by
   cases e:Nat.beq k c with
   |false=>rfl
   |true=>have:=Nat.eq_of_beq_eq_true e;omega
  exact ⟨Nat.ble_eq_true_of_le hc,by rw [e0];rfl⟩
 have h2:Nat.ble (0+k * 1+ [Value.int .u8 x.toNat].length) (zU L (c - k)).length=true:=Nat.ble_eq_true_of_le (by rw [mZ,hL];simp;omega)
 have hf:Co hp 1 1 (.slice (some ⟨q,0,none⟩) 1 1)=some [.int .u8 x.toNat]:=by simp [Co,hq]
 have e3:c - k=(c - (k+1))+1:=by omega
 simp only [AK,DX,Xq,Fu,yk,G9,Dz,hf,hb,Au,h1,h2]
 rw [e3,show 0+k * 1=L.length from by omega,xV]
 rfl
def lF (hp:Hp)(top:Nat)(s:List UInt8)(k:Nat):SS:=⟨[(0, .string ⟨⟨s⟩⟩,true),(4, .slice (some ⟨top,0,none⟩) k (s.length / 2),true),(5, .int .i64 ((2 * k:Nat):Int),true)],hp.Ac [(top,some (.cells true 1 (zU (EX s k) (s.length / 2 - k))))],top+1⟩
theorem xN:Ag Tryz.prog 96 N0:=by
 refine .EK bG ?_ ?_
 ·intro args hp h
  match args,h with
  | [.string ⟨⟨s⟩⟩],_=>rfl
 intro args hp hpre top hcl hsc
 match args,hpre with
 | [.string ⟨⟨s⟩⟩],hs=>
 simp only [AH]
 have tm:((s.length:Int)).tmod 2=((s.length % 2:Nat):Int):=rfl
 have q2:IntKind.i64.wrap ((s.length:Int).tdiv 2)=((s.length / 2:Nat):Int):=by
  rw [show (s.length:Int).tdiv 2=((s.length / 2:Nat):Int) from rfl,←En,wrap64 (by omega) (by omega)]
 refine AJ.Af Am bG rfl 47 rfl [.tmp 2, .tmp 3] rfl (show 1≤47 by decide) ?_
 by_cases c2:s.length % 2=0
 case neg=>
  have e:GL s=none:=by unfold GL;rw [if_neg (fun h=>c2 h.1)]
  have c2':¬((s.length % 2:Nat):Int)=0:=by omega
  simp only [Ic,e]
  refine CW.vc Qp [0,2,3,4,5,6,7,11,19,36] (by kernel_rfl) ?_
  (repeat ((try refine Vc.mk' ?_);simp (maxSteps:=6000000) only [go_sem,Ap,tm,c2',decide_false]))
  rfl
 have c2':((s.length % 2:Nat):Int)=0:=by omega
 have b1:Nat.ble (s.length / 2) 1099511627776=true:=Nat.ble_eq_true_of_le (by omega)
 have b2:Nat.ble (1 * (s.length / 2)) 1099511627776=true:=Nat.ble_eq_true_of_le (by omega)
 have b3:Nat.ble 0 (s.length / 2)=true:=Nat.ble_eq_true_of_le (by omega)
 refine CW.vc Qp [0,2,3,4,5,6,7,11,19,36] (by kernel_rfl) ?_
 (repeat ((try refine Vc.mk' ?_);simp (maxSteps:=6000000) only [go_sem,Ap,tm,c2',decide_true,q2,b1,b2,b3]))
 generalize hN:s.length / 2=N at b1 b2 b3 q2
 have hsN:s.length=2 * N:=by omega
 have eV:∀(h:SK s N=true),Ic s= .tuple ⟨[.string ⟨⟨EX s N⟩⟩, .int .i64 0]⟩:=fun h=>by
  have e:GL s=some (EX s N):=by unfold GL;rw [hN,if_pos ⟨c2,h⟩]
  simp only [Ic,e];rfl
 have eW:∀(h:SK s N=false),Ic s= .tuple ⟨[.string ⟨⟨[]⟩⟩, .int .i64 4]⟩:=fun h=>by
  have e:GL s=none:=by unfold GL;rw [hN,if_neg (fun h'=>by rw [h] at h';simp at h')]
  simp only [Ic,e];rfl
 refine CW.Bc (lF hp top s) (fun k=>k≤N∧SK s k=true) (fun k=>N - k) 0 ⟨Nat.zero_le _,rfl⟩ ?_ ?_
 ·exact (by refine Al.mk' [top] hcl (by simp) (by simp) rfl (AF ?_) ?_ ?_ <;> simp [show EX s 0= [] from rfl,xU,hN,rU])
 ·rintro k ⟨hi,hok⟩
  by_cases hlt:k < N
  ·have l1:(((2 * k:Nat):Int) < (s.length:Int)):=by omega
   have l2:(((2 * k+1:Nat):Int) < (s.length:Int)):=by omega
   have k1:Ad .i64 (((2 * k:Nat):Int)+1)=((2 * k+1:Nat):Int):=by rw [wrap64 (by omega) (by omega)];omega
   have k2:Ad .i64 (((2 * k:Nat):Int)+2)=((2 * (k+1):Nat):Int):=by rw [wrap64 (by omega) (by omega)];omega
   have a1:=Nd (b:=s) (k:=2 * k) (by omega)
   have a2:=Nd (b:=s) (k:=2 * k+1) (by omega)
   have r1:=MG (at' s (2 * k))
   have r2:=MG (at' s (2 * k+1))
   have hsu:=RI (s:=s) (k:=k)
   by_cases d1:0≤hv (at' s (2 * k))
   ·have d1':¬hv (at' s (2 * k)) < 0:=by omega
    by_cases d2:0≤hv (at' s (2 * k+1))
    ·have d2':¬hv (at' s (2 * k+1)) < 0:=by omega
     have hx:=vx d1 r1.2 d2 r2.2
     have hap:∀ {h':Hp} {q t:Nat},h' top=some (.cells true 1 (zU (EX s k) (N - k)))→h' q=some (.cells true 1 [.int .u8 (mr (at' s (2 * k)) (at' s (2 * k+1))).toNat])→AK tt.get h' t [69,69] (.slice (some ⟨top,0,none⟩) k N) (.slice (some ⟨q,0,none⟩) 1 1)=some (.slice (some ⟨top,0,none⟩) (k+1) N, [(top,some (.cells true 1 (zU (EX s (k+1)) (N - (k+1)))))],t):=fun {h'} {q} {t} e1 e2=>by
      rw [TX]
      exact zc GA hlt e1 e2
     have hxB:Ad .u8 (DS .or .i64 (Ad .i64 (hv (at' s (2 * k)) * Int.ofNat (Nat.pow 2 ((Int.toNat 4).min 64)))) (hv (at' s (2 * k+1))))=((mr (at' s (2 * k)) (at' s (2 * k+1))).toNat:Int):=hx
     have hn:SK s (k+1)=true:=by rw [hsu,hok];simp [d1,d2]
     refine CW.vc Qp [0,2,3,4,5,6,7,11,19,36] (by kernel_rfl) ?_
     (repeat ((try refine Vc.mk' ?_);simp (maxSteps:=6000000) only [go_sem,lF,Ap,l1,l2,k1,k2,a1,a2,gC,So,mC,Yk,d1',d2',decide_false,hxB,hap,hN]))
     refine .mk (k+1) ⟨hlt,hn⟩ (by omega) ((by refine Al.mk' [top] hcl (by simp) (by simp) rfl (AF ?_) ?_ ?_ <;> simp [hN,xW]))
    ·have d2':hv (at' s (2 * k+1)) < 0:=by omega
     have hn:SK s N=false:=NK (k:=k+1) hlt (by rw [hsu];simp [d2])
     rw [eW hn]
     refine CW.vc Qp [0,2,3,4,5,6,7,11,19,36] (by kernel_rfl) ?_
     (repeat ((try refine Vc.mk' ?_);simp (maxSteps:=6000000) only [go_sem,lF,Ap,l1,l2,k1,a1,a2,gC,So,mC,Yk,d1',d2',decide_false,decide_true]))
   ·have d1':hv (at' s (2 * k)) < 0:=by omega
    have hn:SK s N=false:=NK (k:=k+1) hlt (by rw [hsu];simp [d1])
    rw [eW hn]
    refine CW.vc Qp [0,2,3,4,5,6,7,11,19,36] (by kernel_rfl) ?_
    (repeat ((try refine Vc.mk' ?_);simp (maxSteps:=6000000) only [go_sem,lF,Ap,l1,l2,k1,a1,a2,gC,So,mC,Yk,d1',decide_true]))
  ·have hk:k=N:=by omega
   subst hk
   rw [eV hok]
   have l1:¬(((2 * k:Nat):Int) < (s.length:Int)):=by omega
   have hcv:∀ {h':Hp} {c:Nat},h' top=some (.cells true 1 (zU (EX s k) (k - k)))→CQ tt.get h' 69 9 (.slice (some ⟨top,0,none⟩) k c)=(.string ⟨⟨EX s k⟩⟩,True):=fun {h'} {c} e=>by
    have e2:((zU (EX s k) (k - k)).drop 0).take k=((EX s k).map fun b=>(b.toNat:Int)).map (Value.int .u8):=by
     rw [Nat.sub_self,List.drop_zero,zU,show C3 0 (Value.int .u8 0)= [] from rfl,List.append_nil,List.take_of_length_le (by rw [ES,GA];exact Nat.le_refl _),JU,List.map_map]
     rfl
    have:=Gd (o:=0) (n:=k) (c:=c) DU I8 F7 e e2 (by rw [mZ,GA];omega)
    rw [this]
    have e3:bytesOf ((EX s k).map fun b=>(b.toNat:Int))=EX s k:=by
     simp [bytesOf,List.map_map,Function.comp_def]
    rw [e3]
   refine CW.vc Qp [0,2,3,4,5,6,7,11,19,36] (by kernel_rfl) ?_
   (repeat ((try refine Vc.mk' ?_);simp (maxSteps:=6000000) only [go_sem,lF,Ap,l1,decide_false,hN,hcv]))
end Go.Proofs.YthlhnangbinhoaaGreatDoor.Dm
set_option linter.unusedVariables false
namespace Go.Proofs.YthlhnangbinhoaaGreatDoor.Dm
open Go.Dm
set_option maxHeartbeats 16000000
set_option maxRecDepth 20000
def zG:FuncId→BE:=BV GS7 96 N0
theorem Mu:Bp Tryz.prog tt.get zG:=Qp.add xN
theorem zH:zG 81=UJ:=rfl
theorem gD:zG 96=N0:=rfl
theorem Vt:zG 37=Bx:=rfl
def Pu(b:List UInt8):List UInt8:=if b= []then [45]else CZ b
def Zw:BE:= .pure (fun args _=>match args with | [.string ⟨⟨b⟩⟩]=>b.length≤512 | _=>False) (fun args _=>match args with | [b]=> .string ⟨⟨Pu (strOf b)⟩⟩ | _=>undef)
theorem AAc:Ag Tryz.prog 43 Zw:=by
 refine .EK aW ?_ ?_
 ·intro args hp h
  match args,h with
  | [.string ⟨⟨s⟩⟩],_=>rfl
 intro args hp hpre top hcl hsc
 match args,hpre with
 | [.string ⟨⟨b⟩⟩],hb=>
 have hb':b.length≤512:=hb
 simp only [AH]
 refine AJ.Af Am aW rfl 7 rfl [.tmp 2] rfl (show 1≤7 by decide) ?_
 by_cases c:b= []
 ·subst c
  refine CW.vc Mu [0,2,4] (by kernel_rfl) ?_
  (repeat ((try refine Vc.mk' ?_);simp (maxSteps:=6000000) only [go_sem,Ay,decide_true]))
  rfl
 ·have e:Pu b=CZ b:=if_neg c
  rw [e]
  refine CW.vc Mu [0,2,4] (by kernel_rfl) ?_
  (repeat ((try refine Vc.mk' ?_);simp (maxSteps:=6000000) only [go_sem,Ay,c,decide_false,zH,UJ,hb']))
def Rx (s:List UInt8):Option (List UInt8):=if s= [45] then some [] else match GL s with
 |some (a :: l)=>some (a :: l)
 |_=>none
def VY (s:List UInt8)(top:Nat):(Value×A6×Nat) ⊕ (Value×A6×Nat):=match Rx s with
 |some b=> .inl (.string ⟨⟨b⟩⟩, [],top)
 |none=> .inr (QA 12, [],top)
def Z3:BE:= .pan (fun args _ _=>match args with | [.string ⟨⟨s⟩⟩]=>s.length < 4294967281 | _=>False) (fun args _ top=>match args with | [s]=>VY (strOf s) top | _=> .inr (undef, [],top))
theorem mD:Ag Tryz.prog 77 Z3:=by
 refine .PD az ?_
 intro args hp top hpre hcl hsc
 match args,hpre with
 | [.string ⟨⟨s⟩⟩],hs=>
 have hs':s.length < 4294967281:=hs
 simp only [AH]
 refine D4.Af Am az rfl 20 rfl [.tmp 2] rfl (show 1≤20 by decide) ?_
 by_cases c:s= [45]
 ·subst c
  have e:VY [45] top= .inl (.string ⟨⟨[]⟩⟩, [],top):=rfl
  rw [e]
  refine CW.vc Mu [0,2,3,4,6] (by kernel_rfl) ?_
  (repeat ((try refine Vc.mk' ?_);simp (maxSteps:=6000000) only [go_sem,Ay,decide_true]))
  (refine ⟨[],by simp,by simp,by simp, ?_, ?_, ?_⟩ <;> simp [])
 ·cases hu:GL s with
  |none=>
   have e:VY s top= .inr (QA 12, [],top):=by unfold VY Rx;rw [if_neg c,hu]
   have eV:Ic s= .tuple ⟨[.string ⟨⟨[]⟩⟩, .int .i64 4]⟩:=by simp only [Ic,hu];rfl
   rw [e]
   refine CW.vc Mu [0,2,3,4,6] (by kernel_rfl) ?_
   (repeat ((try refine Vc.mk' ?_);simp (maxSteps:=6000000) only [go_sem,Ay,c,decide_false,gD,N0,hs',eV,Vt,Bx,EU]))
   (refine ⟨[],by simp,by simp,by simp, ?_, ?_, ?_⟩ <;> simp [])
  |some l=>
   cases l with
   |nil=>
    have e:VY s top= .inr (QA 12, [],top):=by unfold VY Rx;rw [if_neg c,hu]
    have eV:Ic s= .tuple ⟨[.string ⟨⟨[]⟩⟩, .int .i64 0]⟩:=by simp only [Ic,hu];rfl
    rw [e]
    refine CW.vc Mu [0,2,3,4,6] (by kernel_rfl) ?_
    (repeat ((try refine Vc.mk' ?_);simp (maxSteps:=6000000) only [go_sem,Ay,c,decide_false,decide_true,gD,N0,hs',eV,Vt,Bx,EU]))
    (refine ⟨[],by simp,by simp,by simp, ?_, ?_, ?_⟩ <;> simp [])
   |cons a l=>
    have e:VY s top= .inl (.string ⟨⟨a :: l⟩⟩, [],top):=by unfold VY Rx;rw [if_neg c,hu]
    have eV:Ic s= .tuple ⟨[.string ⟨⟨a :: l⟩⟩, .int .i64 0]⟩:=by simp only [Ic,hu];rfl
    rw [e]
    refine CW.vc Mu [0,2,3,4,6] (by kernel_rfl) ?_
    (repeat ((try refine Vc.mk' ?_);simp (maxSteps:=6000000) only [go_sem,Ay,c,decide_false,decide_true,gD,N0,hs',eV,Vt,Bx,Fs,reduceCtorEq]))
    (refine ⟨[],by simp,by simp,by simp, ?_, ?_, ?_⟩ <;> simp [])
def Td (hp:Hp)(g:Nat):Value:=match hp g with
 |some (.cells _ _ [v])=>v
 |_=>undef
def T5 (hp:Hp)(g:Nat)(v:Value)(l:List (List UInt8)):Prop:=hp g=some (.cells true 0 [v])∧BF AB hp v l
theorem T5.v {hp:Hp}{g:Nat}{v:Value}{l:List (List UInt8)}(h:T5 hp g v l):Td hp g=v:=by unfold Td;rw [h.1]
def W5 (l:List (List UInt8))(g:Nat)(v:Value)(top:Nat):(Value×A6×Nat) ⊕ (Value×A6×Nat):=match l with
 | []=> .inr (QA 12, [],top)
 |w :: _=> .inl (.string ⟨⟨w⟩⟩, [(g,some (.cells true 0 [Gf 1 v 1]))],top)
def Mg:BE:= .pan (fun args hp _=>match args with | [.pointer (some ⟨g,0,none⟩)]=> ∃v l,T5 hp g v l | _=>False)
 (fun args hp top=>match args with | [.pointer (some ⟨g,_,_⟩)]=>W5 (AB.rd hp (Td hp g)) g (Td hp g) top | _=> .inr (undef, [],top))
theorem Sc.Gf {n:Nat}{v:Value}{z k:Nat}{hp:Hp}{l:List (List UInt8)}(h0:BF AB hp v l)(h:Sc n v)(hn:0 < n):Sc n (Dm.Gf z v k):=by
 cases h0 with
 |nils=>exact h
 |emp=>exact h
 |rows b o c=>
  show Sc n (if k=0∨k < c then Value.slice (some ⟨b,o+k * z,none⟩) (l.length - k) (c - k) else Value.slice (some ⟨0,0,some 0⟩) 0 0)
  split
  ·exact h
  ·trivial
theorem pM:Ag Tryz.prog 74 Mg:=by
 refine .PD aw ?_
 intro args hp top hpre hcl hsc
 match args,hpre with
 | [.pointer (some ⟨g,0,none⟩)],⟨v,l,hR⟩=>
 have hg:=hR.1
 have h:=hR.2
 have hgt:g < top:=hcl.lt _ _ hg
 have hs:Sc top v:=(hcl.sc _ _ hg).1
 simp only [hR.v,h.rd]
 refine D4.Af Am aw rfl 13 rfl [.tmp 1] rfl (show 1≤13 by decide) ?_
 cases l with
 |nil=>
  simp only [W5]
  refine CW.vc Mu [0,1,2] (by kernel_rfl) ?_
  (repeat ((try refine Vc.mk' ?_);simp (maxSteps:=6000000) only [go_sem,hg,CC h,Vt,Bx,EU,List.length_nil,show decide ((0:Int) < ((0:Nat):Int))=false from rfl]))
  (refine ⟨[],by simp,by simp,by simp, ?_, ?_, ?_⟩ <;> simp [])
 |cons w l=>
  have l0:((0:Int) < ((l.length+1:Nat):Int)):=by omega
  have ld0:∀ {h':Hp},h' = hp→BN tt.get h' 9 (Ah v 0)=(.string ⟨⟨w⟩⟩,True):=fun {h'} e=>by rw [e];exact B9 h (i:=0) (by simp)
  have ld0:=ld0 rfl
  have sw0:B5 tt.get hp 67 v (some (.int .i64 1)) none=(Gf 1 v 1,True):=HF h (n:=1) (by decide) (by simp only [List.length_cons];omega)
  have hd:BF AB hp (Gf 1 v 1) l:=h.drop (n:=1) (by simp)
  simp only [W5]
  refine CW.vc Mu [0,1,2] (by kernel_rfl) ?_
  (repeat ((try refine Vc.mk' ?_);simp (maxSteps:=6000000) only [go_sem,hg,CC h,Bo h,Vt,Bx,Fs,l0,decide_true,ld0,sw0,hd.cl,hd.oc,Nat.zero_mul]))
  (refine ⟨[],by simp,by simp,by simp, ?_, ?_, ?_⟩ <;> simp [AE hgt,Sc.Ao (fun j hj=>AE hj) (Sc.Gf h hs (by omega))])
end Go.Proofs.YthlhnangbinhoaaGreatDoor.Dm
