/- The document's net: LL. -/
import Derived.Test.YthlhnangbinhoaaGreatDoorCRO
import Derived.Test.YthlhnangbinhoaaGreatDoorCFB
import Derived.Test.YthlhnangbinhoaaGreatDoorCCK
import Derived.Test.YthlhnangbinhoaaGreatDoorSRA
set_option linter.unusedVariables false
namespace Go.Proofs.YthlhnangbinhoaaGreatDoor.Dm
open Go.Dm
set_option maxHeartbeats 16000000
set_option maxRecDepth 20000
def Hq (a b:Aq):Bool:=decide (a.C1=b.C1) && (decide (a.To=b.To) && decide (a.Kg=b.Kg))
def Wm:List Aq→List Aq→Nat→Nat×Int
 |_, [],_=>(0,0)
 |done,r :: l,k=>if Fa.CX r=false then (k,2) else if done.any (Hq · r) then (k,7) else Wm (done ++ [r]) l (k+1)
def Fg (l:List Aq):Nat×Int:=if 64 < l.length then (64,3) else Wm [] l 0
def IH:BE:= .pure (fun args hp=>match args with | [v]=>Dy AO hp v | _=>False) (fun args hp=>match args with
 | [v]=> .tuple ⟨[.int .i64 ((Fg (AO.rd hp v)).1:Int), .int .i64 (Fg (AO.rd hp v)).2]⟩
 |_=>undef)
def qg (hp:Hp)(top:Nat)(v:Value)(k:Nat):SS:=⟨[(0,v,true),(4, .int .i64 (k:Int),true)],hp.Ac [],top+0⟩
def w6 (hp:Hp)(top:Nat)(v:Value)(r:Aq)(k j:Nat):SS:=⟨[(0,v,true),(4, .int .i64 (k:Int),true),(5, .pointer (some ⟨top,0,none⟩),true),(7, .int .i64 (j:Int),true)],hp.Ac [(top,some (.cells true 0 (AO.enc r)))],top+1⟩
theorem QB:Gr.G16 69=Gr.F2 Gr.BP:=rfl
theorem iC {α:Type}[Inhabited α]{l:List α}{k:Nat}(h:k < l.length):l.drop k=at' l k :: l.drop (k+1):=by rw [BS _ _ h];exact List.drop_eq_getElem_cons h
theorem nT {α:Type}[Inhabited α]{l:List α}{j k:Nat}(h:j < k)(hk:k≤l.length):at' l j∈l.take k:=by
 rw [BS _ _ (by omega)]
 exact List.mem_take_iff_getElem.2 ⟨j,by omega,rfl⟩
theorem AER {r:Aq}(h:r.Kind=1):(!Gr.BP r.C1 || !Gr.BP r.To || decide (r.C1=r.To) || decide (r.Kg < 1) || decide (1048576 < r.Kg) || !decide (r.By=0))= !Fa.CX r:=by
 rw [Bool.eq_iff_iff]
 unfold Fa.CX Fa.RS Gr.BP
 rw [if_pos h]
 simp only [Bool.or_eq_true,Bool.not_eq_true',Bool.and_eq_false_iff,decide_eq_false_iff_not,decide_eq_true_eq]
 omega
theorem AES {r:Aq}(h:¬r.Kind=1):(!Gr.BP r.C1 || !Gr.BP r.To || decide (r.C1=r.To) || decide (r.Kg < 1) || decide (1048576 < r.Kg) || decide (r.Kind < 1) || decide (3 < r.Kind) || !(!decide (r.By < 1) && !decide (64 < r.By)))= !Fa.CX r:=by
 rw [Bool.eq_iff_iff]
 unfold Fa.CX Fa.RS Gr.BP
 rw [if_neg h]
 by_cases k2:r.Kind=2∨r.Kind=3
 ·rw [if_pos k2]
  simp only [Bool.or_eq_true,Bool.not_eq_true',Bool.and_eq_false_iff,decide_eq_false_iff_not,decide_eq_true_eq,Bool.not_eq_false']
  omega
 ·rw [if_neg k2,Bool.and_false,Bool.not_false]
  simp only [Bool.or_eq_true,Bool.not_eq_true',Bool.and_eq_false_iff,decide_eq_false_iff_not,decide_eq_true_eq,Bool.not_eq_false',iff_true]
  omega
theorem eZ:Ag Tryz.prog 109 IH:=by
  refine .EK Wc ?_ ?_
  · intro args hp h
    match args,h with
    | [v],_=>rfl
  intro args hp hpre top hcl hsc
  match args,hpre with
  | [v],⟨l,h⟩=>
  have hs:=h.low hcl
  simp only [h.rd]
  refine AJ.Af Am Wc rfl 111 rfl [.tmp 2, .tmp 3] rfl (show 1≤111 by decide) ?_
  by_cases h64:64 < l.length
  · have h65:(64:Int) < l.length:=by omega
    refine CW.vc Gr.Ou [0,2,3,4,5,6,7,10,14,31,75,79,109] (by kernel_rfl) ?_
    (repeat ((try refine Vc.mk' ?_);simp only [go_sem,DB h,h65]))
    simp [Fg,h64]
  have h65:¬(64:Int) < l.length:=by omega
  refine CW.vc Gr.Ou [0,2,3,4,5,6,7,10,14,31,75,79,109] (by kernel_rfl) ?_
  (repeat ((try refine Vc.mk' ?_);simp only [go_sem,DB h,h65]))
  have hc0:Fg l=Wm [] l 0:=by simp [Fg,h64]
  refine CW.Bc (qg hp top v) (fun k=>k≤l.length∧Fg l=Wm (l.take k) (l.drop k) k) (fun k=>l.length - k) 0 ⟨Nat.zero_le _,hc0⟩ ?_ ?_
  · exact (by refine Al.mk' [] hcl (by simp) (by simp) rfl (AF ?_) ?_ ?_ <;> simp [Sc.Ao (fun j hj=>AE hj) hs])
  · rintro k ⟨hk,hm⟩
    by_cases hlt:k < l.length
    · rw [iC hlt,Wm] at hm
      generalize hrk:at' l k=r at hm
      by_cases k1:r.Kind=1
      case' pos=>
        refine CW.vc Gr.Ou [0,2,3,4,5,6,7,10,14,31,75,79,109] (by kernel_rfl) ?_
        (repeat ((try refine Vc.mk' ?_);simp only [go_sem,DB h,FZ h,IU h,QB,Gr.F2,Et,hlt,qg,hrk,k1]))
        rw [AER k1]
      case' neg=>
        refine CW.vc Gr.Ou [0,2,3,4,5,6,7,10,14,31,75,79,109] (by kernel_rfl) ?_
        (repeat ((try refine Vc.mk' ?_);simp only [go_sem,DB h,FZ h,IU h,QB,Gr.F2,Et,hlt,qg,hrk,k1]))
        rw [AES k1]
      all_goals
        refine JV.mk (fun c1=> ?_) (fun c1=> ?_)
        · simp only [Bool.not_eq_true'] at c1
          rw [if_pos c1] at hm
          (repeat ((try refine Vc.mk' ?_);simp only [go_sem]))
          simp [hm]
        simp only [Bool.not_eq_false'] at c1
        rw [if_neg (by rw [c1];simp)] at hm
        (repeat ((try refine Vc.mk' ?_);simp only [go_sem]))
        refine CW.Bc (w6 hp top v r k) (fun j=>j≤k∧(l.take j).any (Hq · r)=false) (fun j=>k - j) 0 ⟨Nat.zero_le _,rfl⟩ ?_ ?_
        · exact (by refine Al.mk' [top] hcl (by simp) (by simp) rfl (AF ?_) ?_ ?_ <;> simp [Sc.Ao (fun j hj=>AE hj) hs,k1,Et])
        · rintro j ⟨hj,ha⟩
          by_cases hjk:j < k
          · have hjl:j < l.length:=by omega
            generalize hrj:at' l j=q
            have hsk:Hq q r=(decide (q.C1=r.C1) && (decide (q.To=r.To) && decide (q.Kg=r.Kg))):=rfl
            cases q1:decide (q.C1=r.C1) <;> cases q2:decide (q.To=r.To) <;> cases q3:decide (q.Kg=r.Kg)
            all_goals
              rw [q1,q2,q3] at hsk
              refine CW.vc Gr.Ou [0,2,3,4,5,6,7,10,14,31,75,79,109] (by kernel_rfl) ?_
              (repeat ((try refine Vc.mk' ?_);simp only [go_sem,FZ h,ZP h,ZH h,ZQ h,ZI h,ZR h,ZJ h,Ab hs,Et,hjl,hjk,w6,hrj,q1,q2,q3,k1]))
              first
              | (rw [if_pos (List.any_eq_true.2 ⟨_,nT hjk hk,by rw [hrj];exact hsk⟩)] at hm
                 simp [hm])
              | (refine .mk (j+1) ⟨hjk, ?_⟩ (by omega) ((by refine Al.mk' [top] hcl (by simp) (by simp) rfl (AF ?_) ?_ ?_ <;> simp [Sc.Ao (fun j hj=>AE hj) hs,Ae hjl h.le,k1,Et]))
                 rw [Bj hjl,List.any_append,ha,hrj];simp [hsk])
          · have hjk2:j=k:=by omega
            subst hjk2
            refine CW.vc Gr.Ou [0,2,3,4,5,6,7,10,14,31,75,79,109] (by kernel_rfl) ?_
            (repeat ((try refine Vc.mk' ?_);simp only [go_sem,Et,hjk,w6,k1]))
            rw [ha,if_neg (by simp)] at hm
            refine .mk (j+1) ⟨hlt, ?_⟩ (by omega) ((by refine Al.mk' [] hcl (by simp) (by simp) rfl (AF ?_) ?_ ?_ <;> simp [Sc.Ao (fun j hj=>AE hj) hs,Ae hlt h.le]))
            rw [Bj hlt,hrk];exact hm
    · have hk2:k=l.length:=by omega
      subst hk2
      refine CW.vc Gr.Ou [0,2,3,4,5,6,7,10,14,31,75,79,109] (by kernel_rfl) ?_
      (repeat ((try refine Vc.mk' ?_);simp only [go_sem,DB h,qg,Nat.lt_irrefl,decide_false]))
      simp [hm,Wm]
end Go.Proofs.YthlhnangbinhoaaGreatDoor.Dm
set_option linter.unusedVariables false
namespace Go.Proofs.YthlhnangbinhoaaGreatDoor.Dm
open Go.Dm
set_option maxHeartbeats 16000000
set_option maxRecDepth 20000
structure zR where
 R:List Int
 l:List AQ
 u:List Aq
 late:Int
 now:Int
 ic:List Bool
 st:List Bool
 ks:List Int
 w:List Jh
structure ADx where
 rv:Value
 lv:Value
 uv:Value
 cb:Nat
 wv:Value
section
variable{st:List Bool}{ks:List Int}{wv:Value}
def Y5 (st:List Bool)(ks:List Int)(wv:Value):List Value:=st.map Value.bool ++ (ks.map (Value.int .i64) ++ [wv])
def icV (b:Nat)(l:List Bool):Value:= .slice (some ⟨b,0,none⟩) l.length l.length
def yT (l:List Bool):Option A8:=some (.cells true 1 (CK.flat l))
def Tb (v:ADx)(s:zR):Option A8:=some (.cells true 0 (v.rv :: v.lv :: v.uv :: .int .i64 s.late :: .int .u64 s.now :: icV v.cb s.ic :: Y5 s.st s.ks v.wv))
theorem Tc {ρ:Nat→Nat}{st:List Bool}{ks:List Int}{wv:Value}:Cg ρ (Y5 st ks wv)=Y5 st ks (Ao ρ wv):=by
 unfold Y5
 rw [KX,KX]
 have e1:Cg ρ (st.map Value.bool)=st.map Value.bool:=by rw [EM,List.map_map];rfl
 have e2:Cg ρ (ks.map (Value.int .i64))=ks.map (Value.int .i64):=by rw [EM,List.map_map];rfl
 rw [e1,e2];rfl
@[go_sem] theorem ADO {ρ:Nat→Nat}{b:Nat}{l:List Bool}:Ao ρ (icV b l)=icV (ρ b) l:=rfl
end
theorem QU:∀l:List Bool,CK.flat l=l.map Value.bool
 | []=>rfl
 |a :: l=>by rw[B6.C2,QU l];rfl
def b25:List Bool:=List.replicate 25 false
def og:List Int:=List.replicate 625 0
def eP(R:List Int)(l:List AQ)(u:List Aq)(late:Int):zR:=⟨R,l,u,late,0,List.replicate l.length false,b25,og, []⟩
noncomputable def TO (rv lv uv:Value)(R:List Int)(l:List AQ)(u:List Aq)(late:Int)(top:Nat):Value×A6×Nat:=
 if ¬Gr.Ee R l=0 then (.tuple ⟨[.pointer none, .int .i64 (Gr.Ee R l)]⟩, [],top)
 else if late < 1∨64 < late then (.tuple ⟨[.pointer none, .int .i64 2]⟩, [],top)
 else if ¬(Fg u).2=0 then (.tuple ⟨[.pointer none, .int .i64 (Fg u).2]⟩, [],top)
 else (.tuple ⟨[.pointer (some ⟨top,0,none⟩), .int .i64 0]⟩, [(top,Tb ⟨rv,lv,uv,top+1, .slice none 0 0⟩ (eP R l u late)),(top+1,yT (List.replicate l.length false))],top+2)
noncomputable def Mf:BE:= .det (fun args hp _=>match args with | [u,v,r, .int .i64 _]=>Dy AL hp u∧Dy AP hp v∧Dy AO hp r | _=>False) (fun args hp top=>match args with
 | [u,v,r,late]=>TO u v r (AL.rd hp u) (AP.rd hp v) (AO.rd hp r) (intOf late) top | _=>(undef, [],top))
theorem ABt {w:Value}:C3 25 (.bool false) ++ (C3 625 (.int .i64 0) ++ [w])=Y5 b25 og w:=by
 unfold Y5 C3 b25 og
 rw [List.map_replicate,List.map_replicate]
theorem wJ {w:Value}:(C3 25 (.bool false) ++ C3 625 (.int .i64 0)) ++ [w] = Y5 b25 og w:=by rw [List.append_assoc,ABt]
theorem ABs {n:Nat}:C3 n (.bool false)=CK.flat (List.replicate n false):=by
 unfold C3
 rw [QU,List.map_replicate]
noncomputable def GN9:FuncId→BE:=BV Gr.G16 109 IH
theorem Sz:Bp Tryz.prog tt.get GN9:=Gr.Ou.add eZ
theorem QE:GN9 108=Gr.F4:=rfl
theorem Se:GN9 109=IH:=rfl
theorem pL:Ag Tryz.prog 91 Mf:=by
 refine .Eh bF ?_
 intro args hp top hpre hcl hsc
 match args,hpre with
 | [u,v,r, .int .i64 late],⟨⟨R,h⟩,⟨l,g⟩,⟨rl,q⟩⟩=>
 have hs:=h.low hcl
 have gs:=g.low hcl
 have qs:=q.low hcl
 simp only [h.rd,g.rd,q.rd,intOf_int]
 have e1:Dy AL hp u=True:=h.P
 have e2:Dy AP hp v=True:=g.P
 have r1:=h.rd
 have r2:=g.rd
 have kq:∀ {h':Hp},BK top [] h' hp→Dy AO h' r=True:=fun {h'} hk=>(q.Ax qs hk).P
 have kq2:∀ {h':Hp},BK top [] h' hp→AO.rd h' r=rl:=fun {h'} hk=>(q.Ax qs hk).rd
 refine AJ.Af Am bF rfl 44 rfl [.tmp 8, .tmp 9] rfl (show 4≤44 by decide) ?_
 by_cases c1:Gr.Ee R l=0
 case neg=>
  unfold TO
  rw [if_pos c1]
  refine CW.vc Sz [0,1,2,3,8,9,11,19,26,33] (by kernel_rfl) ?_
  (repeat ((try refine Vc.mk' ?_);simp (maxSteps:=6000000) only [go_sem,QE,Gr.F4,Gr.GO,g.P,g.rd,e1,r1,c1]))
  (refine ⟨[],by simp,by simp,by simp, ?_, ?_, ?_⟩ <;> simp [])
 unfold TO
 rw [if_neg (by simp [c1])]
 by_cases c2:late < 1
 ·rw [if_pos (.inl c2)]
  refine CW.vc Sz [0,1,2,3,8,9,11,19,26,33] (by kernel_rfl) ?_
  (repeat ((try refine Vc.mk' ?_);simp (maxSteps:=6000000) only [go_sem,QE,Gr.F4,Gr.GO,g.P,g.rd,e1,r1,c1,c2]))
  (refine ⟨[],by simp,by simp,by simp, ?_, ?_, ?_⟩ <;> simp [])
 by_cases c3:64 < late
 ·rw [if_pos (.inr c3)]
  refine CW.vc Sz [0,1,2,3,8,9,11,19,26,33] (by kernel_rfl) ?_
  (repeat ((try refine Vc.mk' ?_);simp (maxSteps:=6000000) only [go_sem,QE,Gr.F4,Gr.GO,g.P,g.rd,e1,r1,c1,c2,c3]))
  (refine ⟨[],by simp,by simp,by simp, ?_, ?_, ?_⟩ <;> simp [])
 rw [if_neg (by omega)]
 have h48:=(Gr.Qs c1).2.1
 by_cases c4:(Fg rl).2=0
 case neg=>
  rw [if_pos c4]
  refine CW.vc Sz [0,1,2,3,8,9,11,19,26,33] (by kernel_rfl) ?_
  (repeat ((try refine Vc.mk' ?_);simp (maxSteps:=6000000) only [go_sem,QE,Gr.F4,Gr.GO,Se,IH,g.P,g.rd,e1,r1,c1,c2,c3,kq,kq2,c4]))
  (refine ⟨[],by simp,by simp,by simp, ?_, ?_, ?_⟩ <;> simp [])
 rw [if_neg (by simp [c4])]
 have nb1:Nat.ble l.length 1099511627776=true:=Nat.ble_eq_true_of_le (by omega)
 have nb2:Nat.ble (1 * l.length) 1099511627776=true:=Nat.ble_eq_true_of_le (by omega)
 refine CW.vc Sz [0,1,2,3,8,9,11,19,26,33] (by kernel_rfl) ?_
 (repeat ((try refine Vc.mk' ?_);simp (maxSteps:=6000000) only [go_sem,QE,Gr.F4,Gr.GO,Se,IH,BH g,g.P,g.rd,e1,r1,c1,c2,c3,kq,kq2,c4,nb1,nb2,h.cl,g.cl,q.cl,wJ,ABs (n:=l.length)]))
 (refine ⟨[top+4,top+3],by simp,by simp,by simp, ?_, ?_, ?_⟩ <;> simp [Tb,eP,Tc,icV,yT,List.length_replicate,Sc.Ao (fun j hj=>AE hj) hs,Sc.Ao (fun j hj=>AE hj) gs,Sc.Ao (fun j hj=>AE hj) qs])
end Go.Proofs.YthlhnangbinhoaaGreatDoor.Dm
set_option linter.unusedVariables false
namespace Go.Proofs.YthlhnangbinhoaaGreatDoor.Dm
open Go.Dm
set_option maxHeartbeats 16000000
set_option maxRecDepth 20000
def sT(n:Int):Int:=if n=8 then 0 else if n=16 then 1 else if n=32 then 2 else if n=64 then 3 else if n=128 then 4 else if n=256 then 5 else -1
def Zv:BE:= .pure (fun args _=>match args with | [.int .i64 _]=>True | _=>False) (fun args _=>match args with | [n]=> .int .i64 (sT (intOf n)) | _=>undef)
def qW (hp:Hp)(top:Nat)(n:Int)(i:Nat):SS:=⟨[(0, .int .i64 n,true),(3, .int .i64 (i:Int),true)],hp.Ac [],top⟩
def pw(i:Nat):Int:=8 * 2 ^ i
theorem zq:Ag Tryz.prog 90 Zv:=by
 refine .EK bE ?_ ?_
 ·rintro args hp h
  match args,h with
  | [.int .i64 n],_=>rfl
 intro args hp hpre top hcl hsc
 match args,hpre with
 | [.int .i64 n],_=>
 simp only [intOf_int]
 refine AJ.Af Am bE rfl 14 rfl [.tmp 2] rfl (show 1≤14 by decide) ?_
 refine CW.vc Ew [0,2,3,5,12] (by kernel_rfl) ?_
 (repeat ((try refine Vc.mk' ?_);simp (maxSteps:=6000000) only [go_sem]))
 refine CW.Bc (qW hp top n) (fun i=>i≤6∧∀j < i,n≠pw j) (fun i=>6 - i) 0 ⟨Nat.zero_le _,fun j h=>by omega⟩ ?_ ?_
 ·exact (by refine Al.mk' [] hcl (by simp) (by simp) rfl (AF ?_) ?_ ?_ <;> simp [])
 rintro i ⟨hi,hv1⟩
 by_cases hlt:i < 6
 ·have hc:i=0∨i=1∨i=2∨i=3∨i=4∨i=5:=by omega
  have ii:((i:Int) < 6)=True:=eq_true (by omega)
  have kk:Ad .i64 ((i:Int)+1)=((i+1:Nat):Int):=Ae hlt (by omega)
  have wu:Ad .u64 (i:Int)=(i:Int):=wrap_u64 (by omega) (by omega)
  have hsh:Ad .i64 (8 * Int.ofNat (Nat.pow 2 (i.min 64)))=pw i:=by rcases hc with rfl | rfl | rfl | rfl | rfl | rfl <;> decide
  by_cases h:n=pw i
  ·have e:sT n=i:=by
    subst h
    rcases hc with rfl | rfl | rfl | rfl | rfl | rfl <;> rfl
   rw [e]
   have h2:=eq_true h.symm
   refine CW.vc Ew [0,2,3,5,12] (by kernel_rfl) ?_
   (repeat ((try refine Vc.mk' ?_);simp (maxSteps:=6000000) only [go_sem,qW,ii,wu,hsh,h2,decide_true]))
  ·have hn:∀j < i+1,n≠pw j:=fun j hj=>by
    by_cases hji:j=i
    ·rw [hji];exact h
    ·exact hv1 j (by omega)
   have h2:=eq_false (Ne.symm h)
   refine CW.vc Ew [0,2,3,5,12] (by kernel_rfl) ?_
   (repeat ((try refine Vc.mk' ?_);simp (maxSteps:=6000000) only [go_sem,qW,ii,wu,hsh,h2,kk,decide_true,decide_false]))
   refine .mk (i+1) ⟨hlt,hn⟩ (by omega) ((by refine Al.mk' [] hcl (by simp) (by simp) rfl (AF ?_) ?_ ?_ <;> simp []))
 ·have hi2:i=6:=by omega
  subst hi2
  have e:sT n= -1:=by
   have a0:=hv1 0 (by omega)
   have a1:=hv1 1 (by omega)
   have a2:=hv1 2 (by omega)
   have a3:=hv1 3 (by omega)
   have a4:=hv1 4 (by omega)
   have a5:=hv1 5 (by omega)
   simp only [pw] at a0 a1 a2 a3 a4 a5
   unfold sT
   rw [if_neg (by omega),if_neg (by omega),if_neg (by omega),if_neg (by omega),if_neg (by omega),if_neg (by omega)]
  rw [e]
  refine CW.vc Ew [0,2,3,5,12] (by kernel_rfl) ?_
  (repeat ((try refine Vc.mk' ?_);simp (maxSteps:=6000000) only [go_sem,qW,show ((6:Nat):Int)=6 from rfl,Int.lt_irrefl,decide_false]))
theorem rM (n:Int):decide (0≤sT n)=Xy n:=by
 by_cases h:0≤n∧n≤256
 ·have:∀m:Fin 257,decide (0≤sT (m.val:Int))=Xy (m.val:Int):=by decide +kernel
  have:=this ⟨n.toNat,by omega⟩
  rwa [show ((⟨n.toNat,by omega⟩:Fin 257).val:Int)=n by simp;omega] at this
 ·have e:sT n= -1:=by
   unfold sT
   rw [if_neg (by omega),if_neg (by omega),if_neg (by omega),if_neg (by omega),if_neg (by omega),if_neg (by omega)]
  rw [e]
  unfold Xy
  by_cases h1:n < 8
  ·rw [decide_eq_true h1];rfl
  ·rw [decide_eq_true (show 256 < n by omega)];simp
noncomputable def GW1:FuncId→BE:=BV (BV GN9 90 Zv) 91 Mf
theorem S6:Bp Tryz.prog tt.get GW1:=(Sz.add zq).add pL
theorem zP:GW1 90=Zv:=rfl
theorem sD:GW1 91=Mf:=rfl
theorem mP:Ag Tryz.prog 68 Fm:=by
 refine .EK aq ?_ ?_
 ·rintro args hp h
  match args,h with
  | [.int .i64 n],_=>rfl
 intro args hp hpre top hcl hsc
 match args,hpre with
 | [.int .i64 n],_=>
 simp only [intOf_int]
 rw [←rM]
 refine AJ.Af Am aq rfl 6 rfl [.tmp 2] rfl (show 1≤6 by decide) ?_
 refine CW.vc S6 [0,2] (by kernel_rfl) ?_
 (repeat ((try refine Vc.mk' ?_);simp (maxSteps:=6000000) only [go_sem,zP,Zv,intOf_int]))
 refine D5 ?_
 simp
end Go.Proofs.YthlhnangbinhoaaGreatDoor.Dm
