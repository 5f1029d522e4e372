/- Op: what is given up becomes an error. -/
import Derived.Test.YthlhnangbinhoaaGreatDoorSG
set_option linter.unusedVariables false
namespace Go.Proofs.YthlhnangbinhoaaGreatDoor.Dm
open Go.Dm
set_option maxHeartbeats 16000000
set_option maxRecDepth 20000
def wO:FuncId→Bb:=Bw ll 38 M3
theorem F1:CQ Tryz.prog tt.get wO:=Cw.add ACO
theorem kh:wO 38=M3:=rfl
def HN (v:Value):Option A7:=some (.cells true 0 [v])
def yh (c:Int)(r:Bool):FrameMode:= .panicking [{v:=En c,recovered:=r}]
theorem ABy {xo:Operand}:DX tt.get .eql 20 xo (.const .nilIface) .nilIface .nilIface=some (.bool true):=by simp [DX,Jt,tA,Yw,qm]
theorem AA4 {xo yo:Operand}{t:TypeId}{v:Value}:DX tt.get .eql 20 xo yo (.iface t v) .nilIface=some (.bool false):=by simp [DX,Jt,tA,Yw]
theorem AES {c:Int}:M4 tt.get (.iface 143 (.agg ⟨[.int .i64 c]⟩)) 143 true=some (.tuple ⟨[.agg ⟨[.int .i64 c]⟩, .bool true]⟩):=by simp [M4,VX,ax,Qz,isIf]
theorem XQ {hp:Hp}{top a e:Nat}{n:Int}{v:Value}(ha:hp a=some (.cells true 0 [.int .i64 n]))(he:hp e=HN v) :
  Cg Tryz.prog 34 [.pointer (some ⟨a,0,none⟩), .pointer (some ⟨e,0,none⟩)] .returning hp top fun u' hp' top'=>u' = .returning∧hp' = hp∧top' = top:=by
 refine Cg.Q7 BA Px.toFTOk rfl rfl rfl rfl rfl 23 rfl (by decide) [] rfl (Nat.le_of_ble_eq_true rfl) .nilIface rfl .returning (.inl ⟨rfl,rfl,rfl⟩) (post:=fun _ hp' top'=>hp' = hp∧top' = top) (fun x hp' top' h=>⟨rfl,h⟩) ?_
 refine CW.vc F1 [0,1,5,6,7,9,11,12] (by kernel_rfl) ?_
 (repeat ((try refine Vc.mk' ?_);simp (maxSteps:=6000000) only [go_sem,ABy]))
theorem Xs {hp:Hp}{top a e:Nat}{n c:Int}{v:Value}(ha:hp a=some (.cells true 0 [.int .i64 n]))(he:hp e=HN v)(hat:a < top)(het:e < top) :
  Cg Tryz.prog 34 [.pointer (some ⟨a,0,none⟩), .pointer (some ⟨e,0,none⟩)] (yh c false) hp top fun u' hp' top'=>u' = yh c true∧hp' = hp.Av [(top,some (.cells true 0 [.int .i64 c])),(top+1,OT c n),(e,HN (RX (top+1)))]∧top' = top+2:=by
 refine Cg.Q7 BA Px.toFTOk rfl rfl rfl rfl rfl 23 rfl (by decide) [] rfl (Nat.le_of_ble_eq_true rfl) (En c) rfl (yh c true) (.inr ⟨[],rfl,rfl⟩) (post:=fun _ hp' top'=>hp' = hp.Av [(top,some (.cells true 0 [.int .i64 c])),(top+1,OT c n),(e,HN (RX (top+1)))]∧top' = top+2) (fun x hp' top' h=>⟨rfl,h⟩) ?_
 refine CW.vc F1 [0,1,5,6,7,9,11,12] (by kernel_rfl) ?_
 (repeat ((try refine Vc.mk' ?_);simp (maxSteps:=6000000) only [go_sem,En,AA4,AES,Ae hat,Ae het,ha,he,HN,fc,FX]))
 rfl
def KQ:Ax:=⟨0,0,0,0,0,0, []⟩
def opO (o:Ax):Option A7:=some (.cells true 0 (Aw.enc o))
theorem zP {hp:Hp}{top e b:Nat}{u:FrameMode}(he:hp e=HN .nilIface) :
  Cg Tryz.prog 45 [.pointer (some ⟨e,0,none⟩), .pointer (some ⟨b,0,none⟩)] u hp top fun u' hp' top'=>u' = u∧hp' = hp∧top' = top:=by
 refine Cg.A5 BA Pu rfl 5 rfl [] rfl (post:=fun _ hp' top'=>hp' = hp∧top' = top) (Nat.le_of_ble_eq_true rfl) (fun _ _ _ h=>⟨rfl,h⟩) ?_
 have he':hp e=some (.cells true 0 [.nilIface]):=he
 refine CW.vc F1 [0,1,3] (by kernel_rfl) ?_
 (repeat ((try refine Vc.mk' ?_);simp (maxSteps:=6000000) only [go_sem,he',tN]))
theorem ACZ {hp:Hp}{top e b:Nat}{u:FrameMode}{t:TypeId}{v:Value}{o:Ax}(he:hp e=HN (.iface t v))(hb:hp b=opO o) :
  Cg Tryz.prog 45 [.pointer (some ⟨e,0,none⟩), .pointer (some ⟨b,0,none⟩)] u hp top fun u' hp' top'=>u' = u∧hp' = hp.set b (opO KQ)∧top' = top:=by
 refine Cg.A5 BA Pu rfl 5 rfl [] rfl (post:=fun _ hp' top'=>hp' = hp.set b (opO KQ)∧top' = top) (Nat.le_of_ble_eq_true rfl) (fun _ _ _ h=>⟨rfl,h⟩) ?_
 have he':hp e=some (.cells true 0 [.iface t v]):=he
 have hb':hp b=some (.cells true 0 (Aw.enc o)):=hb
 simp only [Ai] at hb'
 refine CW.vc F1 [0,1,3] (by kernel_rfl) ?_
 (repeat ((try refine Vc.mk' ?_);simp (maxSteps:=6000000) only [go_sem,he',hb',jq]))
 rfl
def Ur (s:List UInt8)(top:Nat):Value×BI×Nat:=match P5 s with
 |some o=>(.tuple ⟨[.agg ⟨Aw.enc o⟩, .nilIface]⟩, [],top)
 |none=>(.tuple ⟨[.agg ⟨Aw.enc KQ⟩,RX top]⟩, [(top,OT 12 0)],top+1)
def RU:Bb:= .det (fun args hp _=>match args with | [.string ⟨⟨s⟩⟩]=>s.length < 4294967281∧C7 hp | _=>False) (fun args _ top=>match args with | [s]=>Ur (strOf s) top | _=>(undef, [],top))
theorem AEJ:(∃fn,FTOk Tryz.prog 45 fn)=True:=eq_true ⟨_,Pu.toFTOk⟩
theorem ABt:(∃fn,FTOk Tryz.prog 34 fn)=True:=eq_true ⟨_,Px.toFTOk⟩
theorem vr:A0 Tryz.prog 16 RU:=by
 refine ⟨⟨_,bh⟩,fun args hp top hpre=>AR.Hq fun hcl hsc=> ?_⟩
 match args,hpre with
 | [.string ⟨⟨s⟩⟩],⟨hs,hv⟩=>
 have ht5:=Fc hcl hv
 simp only [AH]
 refine AR.TN BA bh rfl 8 rfl [.cell 2 43, .cell 3 38] rfl (Nat.le_of_ble_eq_true rfl) ?_
 refine CD.seq (CD.of (CW.vc F1 [0,2,3,4] (by kernel_rfl) ?_))
 (repeat ((try refine Vc.mk' ?_);simp (maxSteps:=6000000) only [go_sem]))
 refine CD.seq (CD.of (CW.vc F1 [0,2,3,4] (by kernel_rfl) ?_))
 (repeat ((try refine Vc.mk' ?_);simp (maxSteps:=6000000) only [go_sem]))
 refine CD.seq (CD.region F1 [0,2,3,4] (by kernel_rfl) ?_)
 simp (maxSteps:=6000000) only [go_sem,PD,AEJ,Ek,FX]
 refine CD.seq (CD.region F1 [0,2,3,4] (by kernel_rfl) ?_)
 simp (maxSteps:=6000000) only [go_sem,PD,ABt]
 cases ho:P5 s with
 |some o=>
  have hR:∀t,ny s t= .inl (.agg ⟨Aw.enc o⟩, [],t):=fun t=>il ho
  have e:Ur s top=(.tuple ⟨[.agg ⟨Aw.enc o⟩, .nilIface]⟩, [],top):=by unfold Ur;rw [ho]
  rw [e]
  refine CD.of (CW.vc F1 [0,2,3,4] (by kernel_rfl) ?_)
  (repeat ((try refine Vc.mk' ?_);simp (maxSteps:=6000000) only [go_sem,kh,M3,hs,hv,AQ ht5,BW ht5,hR,Ai]))
  rw [Ht]
  refine ⟨nofun,(XQ (a:=top+2) (e:=top+1) (n:=0) (v:= .nilIface) (by simp [AZ,AG]) (by simp [AG,HN])).mono ?_⟩
  rintro u' hp' top' ⟨rfl,rfl,rfl⟩
  rw [show settle .returning= .returning from rfl,Ht]
  refine ⟨nofun,(zP (e:=top+1) (by simp [AG,HN])).mono ?_⟩
  rintro u' hp' top' ⟨rfl,rfl,rfl⟩
  rw [show settle .returning= .returning from rfl,Ts]
  simp (maxSteps:=6000000) only [go_sem]
  (refine ⟨[],by simp,by simp,by simp, ?_, ?_, ?_⟩ <;> simp [])
 |none=>
  have hR:∀t,ny s t= .inr (En 12, [],t):=fun t=>Fj ho
  have e:Ur s top=(.tuple ⟨[.agg ⟨Aw.enc KQ⟩,RX top]⟩, [(top,OT 12 0)],top+1):=by unfold Ur;rw [ho]
  rw [e]
  refine CD.of (CW.vc F1 [0,2,3,4] (by kernel_rfl) ?_)
  (repeat ((try refine Vc.mk' ?_);simp (maxSteps:=6000000) only [go_sem,kh,M3,hs,hv,AQ ht5,BW ht5,hR,Ai]))
  rw [Ht]
  refine ⟨nofun,(Xs (c:=12) (a:=top+2) (e:=top+1) (n:=0) (v:= .nilIface) (by simp [AG]) (by simp [AZ,AG,HN]) (by omega) (by omega)).mono ?_⟩
  rintro u' hp' top' ⟨rfl,rfl,rfl⟩
  rw [show settle (yh 12 true)= .returning from rfl,Ht]
  refine ⟨nofun,(ACZ (e:=top+1) (b:=top) (o:=KQ) (t:=51) (v:= .pointer (some ⟨top+3+1,0,none⟩)) (by simp [Bt,CG,AG,HN,RX]) (by simp [Bt,CG,AZ,AG,opO,Ai,KQ,Nat.add_assoc])).mono ?_⟩
  rintro u' hp' top' ⟨rfl,rfl,rfl⟩
  rw [show settle .returning= .returning from rfl,Ts]
  simp (maxSteps:=6000000) only [go_sem,HN,RX,OT,opO]
  (refine ⟨[top+4],by simp,by simp,by simp, ?_, ?_, ?_⟩ <;> simp [])
end Go.Proofs.YthlhnangbinhoaaGreatDoor.Dm
