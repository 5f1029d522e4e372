/- errors.Is, as the engine has it. -/
import Derived.Test.YthlhnangbinhoaaGreatDoorSZ
set_option linter.unusedVariables false
namespace Go.Proofs.YthlhnangbinhoaaGreatDoor.Dm
open Go.Dm Go.RowKit
set_option maxHeartbeats 16000000
set_option maxRecDepth 20000
def Zx:BE:= .pure (fun args hp=>match args with
  | [.iface t (.pointer (some ⟨e,0,none⟩)), .iface u (.int .i64 c)]=>t=51∧u=30∧∃n,hp e=N8 c n
  |_=>False) (fun _ _=> .bool true)
theorem AAg:Ag Tryz.prog 20 Zx:=by
 refine ⟨⟨_,oD.toFTOk⟩,fun args hp hpre top=> ?_⟩
 match args,hpre with
 | [.iface t (.pointer (some ⟨e,0,none⟩)), .iface u (.int .i64 c)],⟨ht,hu,n,he⟩=>
 subst ht hu
 intro φ own w args' hargs H htop
 cases hargs with
 |cons _ _ _ _ hx hl=>
 cases hl with
 |cons _ _ _ _ hy hl=>
 cases hl
 cases hx with
 |iface _ _ xv hx=>
 cases hy with
 |iface _ _ yv hy=>
 cases hy
 cases hx with
 |ptr _ _ L hL=>
 obtain ⟨L',hL',hok⟩:=H.obj e _ he
 rw [hL] at hL';cases hL'
 obtain ⟨_,cs,ct,fz,hh,hsz,hlim,hvs,_⟩:=hok
 have hoff:L.off < cs.size:=by simp at hlim;omega
 have h1:w.cell? ⟨L.BT,L.off+0,none⟩=some (.int .i64 c):=by
  rw [List.drop_eq_getElem_cons (by simpa using hoff)] at hvs
  cases hvs with
  |cons _ _ _ _ h0 _=>
  have h0':=h0
  generalize hq:cs.toList[L.off] = q at h0'
  cases h0'
  simp [World.cell?,hh,hoff]
  simpa using hq
 refine Calls.mono (jK L.BT (L.off+0) c w h1) ?_
 rintro ev w' ⟨rfl,rfl⟩
 exact ⟨_,_,_,_,φ,rfl,⟨rfl,rfl,rfl⟩,⟨Dm.Ren.le_refl _, .bool _,H,Dm.K.refl _ _,htop⟩⟩
theorem jE {n:Int}:Hl tt.get 30 (.int .i64 n)=some (.iface 30 (.int .i64 n)):=by simp [Hl,qo,l8]
noncomputable def zB:FuncId→BE:=BV (BV (BV nH 17 Zu) 20 Zx) 12 Jv
theorem Ew:Bp Tryz.prog tt.get zB:=((iJ.add zo).add AAg).add mV
end Go.Proofs.YthlhnangbinhoaaGreatDoor.Dm
