/- Op: what is given up becomes an error. -/
import Derived.Test.YthlhnangbinhoaaGreatDoorSG
set_option linter.unusedSimpArgs false
set_option linter.unusedVariables false
namespace Go.Proofs.YthlhnangbinhoaaGreatDoor.Dm
open Go.Dm
set_option maxHeartbeats 16000000
set_option maxRecDepth 20000
def vJ:FuncId→Bz:=Cx jQ 38 OQ
theorem HE:DU Tryz.prog tt.get vJ:=DP.add ABJ
theorem fW:vJ 38=OQ:=rfl
def IW (v:Value):Option BI:=some (.cells true 0 [v])
def xh (c:Int)(r:Bool):FrameMode:= .panicking [{v:=Fp c,recovered:=r}]
theorem ABT {xo:Operand}:Di tt.get .eql 20 xo (.const .nilIface) .nilIface .nilIface=some (.bool true):=by simp [Di,LC,tq,Zb,n9]
theorem AAu {xo yo:Operand}{t:TypeId}{v:Value}:Di tt.get .eql 20 xo yo (.iface t v) .nilIface=some (.bool false):=by simp [Di,LC,tq,Zb]
theorem ADX {c:Int}:OL tt.get (.iface 143 (.agg ⟨[.int .i64 c]⟩)) 143 true=some (.tuple ⟨[.agg ⟨[.int .i64 c]⟩, .bool true]⟩):=by simp [OL,VP,bO,R8,isIf]
theorem W6 {hp:Hp}{top a e:Nat}{n:Int}{v:Value}(ha:hp a=some (.cells true 0 [.int .i64 n]))(he:hp e=IW v) :
  Cy Tryz.prog 34 [.pointer (some ⟨a,0,none⟩), .pointer (some ⟨e,0,none⟩)] .returning hp top fun u' hp' top'=>u' = .returning∧hp' = hp∧top' = top:=by
 refine Cy.RA Bu QW.toFTOk rfl rfl rfl rfl rfl 23 rfl (by decide) [] rfl (Nat.le_of_ble_eq_true rfl) .nilIface rfl .returning (.inl ⟨rfl,rfl,rfl⟩) (post:=fun _ hp' top'=>hp' = hp∧top' = top) (fun x hp' top' h=>⟨rfl,h⟩) ?_
 refine CW.vc HE [0,1,5,6,7,9,11,12] (by kernel_rfl) ?_
 (repeat ((try refine Vc.mk' ?_);simp (maxSteps:=6000000) only [go_sem,ABT]))
theorem Wq {hp:Hp}{top a e:Nat}{n c:Int}{v:Value}(ha:hp a=some (.cells true 0 [.int .i64 n]))(he:hp e=IW v)(hat:a < top)(het:e < top) :
  Cy Tryz.prog 34 [.pointer (some ⟨a,0,none⟩), .pointer (some ⟨e,0,none⟩)] (xh c false) hp top fun u' hp' top'=>u' = xh c true∧hp' = hp.A6 [(top,some (.cells true 0 [.int .i64 c])),(top+1,I2 c n),(e,IW (I1 (top+1)))]∧top' = top+2:=by
 refine Cy.RA Bu QW.toFTOk rfl rfl rfl rfl rfl 23 rfl (by decide) [] rfl (Nat.le_of_ble_eq_true rfl) (Fp c) rfl (xh c true) (.inr ⟨[],rfl,rfl⟩) (post:=fun _ hp' top'=>hp' = hp.A6 [(top,some (.cells true 0 [.int .i64 c])),(top+1,I2 c n),(e,IW (I1 (top+1)))]∧top' = top+2) (fun x hp' top' h=>⟨rfl,h⟩) ?_
 refine CW.vc HE [0,1,5,6,7,9,11,12] (by kernel_rfl) ?_
 (repeat ((try refine Vc.mk' ?_);simp (maxSteps:=6000000) only [go_sem,Fp,AAu,ADX,AG hat,AG het,ha,he,IW,iz,EY,GS]))
 rfl
def yg:Aq:=⟨0,0,0,0,0,0, []⟩
def opO (o:Aq):Option BI:=some (.cells true 0 (A7.enc o))
theorem AAq {hp:Hp}{top e b:Nat}{u:FrameMode}(he:hp e=IW .nilIface) :
  Cy Tryz.prog 45 [.pointer (some ⟨e,0,none⟩), .pointer (some ⟨b,0,none⟩)] u hp top fun u' hp' top'=>u' = u∧hp' = hp∧top' = top:=by
 refine Cy.Bn Bu QY rfl 5 rfl [] rfl (post:=fun _ hp' top'=>hp' = hp∧top' = top) (Nat.le_of_ble_eq_true rfl) (fun _ _ _ h=>⟨rfl,h⟩) ?_
 have he':hp e=some (.cells true 0 [.nilIface]):=he
 refine CW.vc HE [0,1,3] (by kernel_rfl) ?_
 (repeat ((try refine Vc.mk' ?_);simp (maxSteps:=6000000) only [go_sem,he',T9]))
theorem AAr {hp:Hp}{top e b:Nat}{u:FrameMode}{t:TypeId}{v:Value}{o:Aq}(he:hp e=IW (.iface t v))(hb:hp b=opO o) :
  Cy Tryz.prog 45 [.pointer (some ⟨e,0,none⟩), .pointer (some ⟨b,0,none⟩)] u hp top fun u' hp' top'=>u' = u∧hp' = hp.set b (opO yg)∧top' = top:=by
 refine Cy.Bn Bu QY rfl 5 rfl [] rfl (post:=fun _ hp' top'=>hp' = hp.set b (opO yg)∧top' = top) (Nat.le_of_ble_eq_true rfl) (fun _ _ _ h=>⟨rfl,h⟩) ?_
 have he':hp e=some (.cells true 0 [.iface t v]):=he
 have hb':hp b=some (.cells true 0 (A7.enc o)):=hb
 simp only [Aw] at hb'
 refine CW.vc HE [0,1,3] (by kernel_rfl) ?_
 (repeat ((try refine Vc.mk' ?_);simp (maxSteps:=6000000) only [go_sem,he',hb',OD]))
 rfl
def Nr (s:List UInt8)(top:Nat):Value×BV×Nat:=match PV s with
 |some o=>(.tuple ⟨[.agg ⟨A7.enc o⟩, .nilIface]⟩, [],top)
 |none=>(.tuple ⟨[.agg ⟨A7.enc yg⟩,I1 top]⟩, [(top,I2 12 0)],top+1)
def Ik:Bz:= .det (fun args hp _=>match args with | [.string ⟨⟨s⟩⟩]=>s.length < 4294967281∧Cp hp | _=>False) (fun args _ top=>match args with | [s]=>Nr (strOf s) top | _=>(undef, [],top))
theorem ADh:(∃fn,FTOk Tryz.prog 45 fn)=True:=eq_true ⟨_,QY.toFTOk⟩
theorem AAi:(∃fn,FTOk Tryz.prog 34 fn)=True:=eq_true ⟨_,QW.toFTOk⟩
theorem uH:BR Tryz.prog 16 Ik:=by
 refine ⟨⟨_,bp⟩,fun args hp top hpre=>Ae.Jq fun hcl hsc=> ?_⟩
 match args,hpre with
 | [.string ⟨⟨s⟩⟩],⟨hs,hv⟩=>
 have ht5:=FE hcl hv
 simp only [AU]
 refine Ae.UH Bu bp rfl 8 rfl [.cell 2 43, .cell 3 38] rfl (Nat.le_of_ble_eq_true rfl) ?_
 refine CD.seq (CD.of (CW.vc HE [0,2,3,4] (by kernel_rfl) ?_))
 (repeat ((try refine Vc.mk' ?_);simp (maxSteps:=6000000) only [go_sem]))
 refine CD.seq (CD.of (CW.vc HE [0,2,3,4] (by kernel_rfl) ?_))
 (repeat ((try refine Vc.mk' ?_);simp (maxSteps:=6000000) only [go_sem]))
 refine CD.seq (CD.region HE [0,2,3,4] (by kernel_rfl) ?_)
 simp (maxSteps:=6000000) only [go_sem,Pn,ADh,EY,GS]
 refine CD.seq (CD.region HE [0,2,3,4] (by kernel_rfl) ?_)
 simp (maxSteps:=6000000) only [go_sem,Pn,AAi,EY,GS]
 cases ho:PV s with
 |some o=>
  have hR:∀t,nz s t= .inl (.agg ⟨A7.enc o⟩, [],t):=fun t=>mr ho
  have e:Nr s top=(.tuple ⟨[.agg ⟨A7.enc o⟩, .nilIface]⟩, [],top):=by unfold Nr;rw [ho]
  rw [e]
  refine CD.of (CW.vc HE [0,2,3,4] (by kernel_rfl) ?_)
  (repeat ((try refine Vc.mk' ?_);simp (maxSteps:=6000000) only [go_sem,fW,OQ,hs,hv,AO ht5,AP ht5,hR,Aw]))
  rw [JC]
  refine ⟨nofun,(W6 (a:=top+2) (e:=top+1) (n:=0) (v:= .nilIface) (by simp [AQ,AF]) (by simp [AF,IW])).mono ?_⟩
  rintro u' hp' top' ⟨rfl,rfl,rfl⟩
  rw [show settle .returning= .returning from rfl,JC]
  refine ⟨nofun,(AAq (e:=top+1) (by simp [AF,IW])).mono ?_⟩
  rintro u' hp' top' ⟨rfl,rfl,rfl⟩
  rw [show settle .returning= .returning from rfl,Vw]
  simp (maxSteps:=6000000) only [go_sem]
  (refine ⟨[],by simp,by simp,by simp, ?_, ?_, ?_⟩ <;> simp [])
 |none=>
  have hR:∀t,nz s t= .inr (Fp 12, [],t):=fun t=>G9 ho
  have e:Nr s top=(.tuple ⟨[.agg ⟨A7.enc yg⟩,I1 top]⟩, [(top,I2 12 0)],top+1):=by unfold Nr;rw [ho]
  rw [e]
  refine CD.of (CW.vc HE [0,2,3,4] (by kernel_rfl) ?_)
  (repeat ((try refine Vc.mk' ?_);simp (maxSteps:=6000000) only [go_sem,fW,OQ,hs,hv,AO ht5,AP ht5,hR,Aw]))
  rw [JC]
  refine ⟨nofun,(Wq (c:=12) (a:=top+2) (e:=top+1) (n:=0) (v:= .nilIface) (by simp [AF]) (by simp [AQ,AF,IW]) (by omega) (by omega)).mono ?_⟩
  rintro u' hp' top' ⟨rfl,rfl,rfl⟩
  rw [show settle (xh 12 true)= .returning from rfl,JC]
  refine ⟨nofun,(AAr (e:=top+1) (b:=top) (o:=yg) (t:=51) (v:= .pointer (some ⟨top+3+1,0,none⟩)) (by simp [B5,CZ,AF,IW,I1]) (by simp [B5,CZ,AQ,AF,opO,Aw,yg,Nat.add_assoc])).mono ?_⟩
  rintro u' hp' top' ⟨rfl,rfl,rfl⟩
  rw [show settle .returning= .returning from rfl,Vw]
  simp (maxSteps:=6000000) only [go_sem,IW,I1,I2,opO]
  (refine ⟨[top+4],by simp,by simp,by simp, ?_, ?_, ?_⟩ <;> simp [])
end Go.Proofs.YthlhnangbinhoaaGreatDoor.Dm
