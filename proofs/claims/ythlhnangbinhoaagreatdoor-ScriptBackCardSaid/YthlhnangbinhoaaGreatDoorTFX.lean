/- errors.Is, as the engine has it. -/
import Derived.Test.YthlhnangbinhoaaGreatDoorSZ
set_option linter.unusedSimpArgs false
set_option linter.unusedVariables false
namespace Go.Proofs.YthlhnangbinhoaaGreatDoor.Dm
open Go.Dm Go.RowKit
set_option maxHeartbeats 16000000
set_option maxRecDepth 20000
def I6:Bz:= .pure (fun args hp=>match args with
  | [.iface t (.pointer (some ⟨e,0,none⟩)), .iface u (.int .i64 c)]=>t=51∧u=30∧∃n,hp e=I2 c n
  |_=>False) (fun _ _=> .bool true)
theorem AAN:BR Tryz.prog 20 I6:=by
 refine ⟨⟨_,ag.toFTOk⟩,fun args hp hpre top=> ?_⟩
 match args,hpre with
 | [.iface t (.pointer (some ⟨e,0,none⟩)), .iface u (.int .i64 c)],⟨ht,hu,n,he⟩=>
 subst ht hu
 intro φ own w args' hargs H htop
 cases hargs with
 |cons _ _ _ _ hx hl=>
 cases hl with
 |cons _ _ _ _ hy hl=>
 cases hl
 cases hx with
 |iface _ _ xv hx=>
 cases hy with
 |iface _ _ yv hy=>
 cases hy
 cases hx with
 |ptr _ _ L hL=>
 obtain ⟨L',hL',hok⟩:=H.obj e _ he
 rw [hL] at hL';cases hL'
 obtain ⟨_,cs,ct,fz,hh,hsz,hlim,hvs,_⟩:=hok
 have hoff:L.off < cs.size:=by simp at hlim;omega
 have h1:w.cell? ⟨L.Bt,L.off+0,none⟩=some (.int .i64 c):=by
  rw [List.drop_eq_getElem_cons (by simpa using hoff)] at hvs
  cases hvs with
  |cons _ _ _ _ h0 _=>
  have h0':=h0
  generalize hq:cs.toList[L.off] = q at h0'
  cases h0'
  simp [World.cell?,hh,hoff]
  simpa using hq
 refine Calls.mono (gW L.Bt (L.off+0) c w h1) ?_
 rintro ev w' ⟨rfl,rfl⟩
 exact ⟨_,_,_,_,φ,rfl,⟨rfl,rfl,rfl⟩,⟨Dm.Ren.le_refl _, .bool _,H,Dm.K.refl _ _,htop⟩⟩
theorem Lh {n:Int}:JP tt.get 30 (.int .i64 n)=some (.iface 30 (.int .i64 n)):=by simp [JP,rP,dE]
noncomputable def XH:FuncId→Bz:=Cx (Cx (Cx rW 17 JA) 20 I6) 12 Dw
theorem Ep:DU Tryz.prog tt.get XH:=((iV.add ABW).add AAN).add gT
theorem Vl:XH 17=JA:=rfl
theorem VE:XH 20=I6:=rfl
theorem Vp:XH 12=Dw:=rfl
theorem WM:XH 13=Hu (fun _=>True) Fl:=rfl
theorem WG:XH 16=Ik:=rfl
theorem Ve:XH 15=Hj:=rfl
theorem W2 {c m:Int}:(∃n,some (BI.cells true 0 [.int .i64 c, .int .i64 m])=I2 c n)=True:=eq_true ⟨m,rfl⟩
end Go.Proofs.YthlhnangbinhoaaGreatDoor.Dm
