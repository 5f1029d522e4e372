/- errors.As at a variable of type *api.Fault, as the engine has it. -/
import Derived.Test.YthpibnpeaidabaaGreatDoorTA
set_option linter.unusedSimpArgs false
set_option linter.unusedVariables false
namespace Go.Proofs.YthpibnpeaidabaaGreatDoor.Dm
open Go.Dm Go.RowKit
set_option maxHeartbeats 4000000
set_option maxRecDepth 100000
def gq:Option A5:=some (.raw 0 [.iface 127 (.agg ⟨[.pointer (some ⟨9,35,none⟩)]⟩)])
def Rj:BO:= .det (fun args hp _=>match args with
  | [.nilIface,_]=>True
  | [.iface t (.pointer (some ⟨_,_,none⟩)), .iface u (.pointer (some ⟨i,0,none⟩))]=>t=84∧u=89∧hp 7=gq∧∃v,hp i=some (.cells true 0 [v])
  |_=>False)
 (fun args _ top=>match args with
  | [.iface _ p, .iface _ (.pointer (some ⟨i,_,_⟩))]=>(.bool true, [(i,some (.cells true 0 [p]))],top)
  |_=>(.bool false, [],top))
theorem eg {c:Array Value}{off:Nat}{x:Value}(h:off < c.size):((c.setIfInBounds off x).toList.drop off).take 1= [x]:=by
 rw [Array.toList_setIfInBounds,List.drop_eq_getElem_cons (by simpa using h)]
 simp
theorem LK (own:Nat→Prop)(w:World)(c:Array Value)(t:TypeId):Dm.K own w (w.alloc (.cells c t)):=Dm.K.alloc own w (.cells c t) w.drawn rfl
theorem pK:BG Tryz.prog 44 Rj:=by
 refine ⟨⟨_,WE.toFTOk⟩,fun args hp top hpre=> ?_⟩
 match args,hpre with
 | [.nilIface,t],_=>
  intro φ own w args' hargs H htop
  cases hargs with
  |cons _ _ _ _ hx hl=>
  cases hx
  cases hl with
  |cons _ t' _ _ ht hl=>
  cases hl
  refine Calls.mono (nW t' w) ?_
  rintro e w' ⟨rfl,rfl⟩
  exact ⟨_,_,_,_,φ,rfl,⟨rfl,rfl,rfl⟩,⟨Dm.Ren.le_refl _, .bool _,H,Dm.K.refl _ _,htop⟩⟩
 | [.iface t (.pointer (some ⟨e,eo,none⟩)), .iface u (.pointer (some ⟨i,0,none⟩))],⟨ht,hu,h7,v,hi⟩=>
 subst ht hu
 intro φ own w args' hargs H htop
 cases hargs with
 |cons _ _ _ _ hx hl=>
 cases hl with
 |cons _ _ _ _ hy hl=>
 cases hl
 cases hx with
 |iface _ _ xv hx=>
 cases hy with
 |iface _ _ yv hy=>
 cases hx with
 |ptr _ _ M hM=>
 cases hy with
 |ptr _ _ L hL=>
 obtain ⟨L',hL',hok⟩:=H.obj i _ hi
 rw [hL] at hL';cases hL'
 obtain ⟨he,c,ct,fz,hh,hsz,hlim,hvs,hfz⟩:=hok
 obtain ⟨L7,hL7,b7,o7,t7,f7,h7w⟩:=H.obj 7 _ h7
 have hlt:L.Bl < w.heap.size:=(Array.getElem?_eq_some_iff.1 hh).1
 have hoff:L.off < c.size:=by simp at hlim;omega
 have hgc:w.cell? ⟨0,0,none⟩=some (.iface 127 (.agg #[.pointer (some ⟨9,35,none⟩)])):=by
  rw [b7] at h7w
  simp [World.cell?,h7w]
 have ht0:w.cell? ⟨L.Bl,L.off+0,none⟩=some c[L.off]:=by simp [World.cell?,hh,hoff]
 have hf0:w.frozen? ⟨L.Bl,L.off+0,none⟩=false:=by
  have:=hfz.1 rfl
  simp [World.frozen?,hh];omega
 refine Calls.mono (mS ⟨M.Bl,M.off+eo,none⟩ ⟨L.Bl,L.off+0,none⟩ _ w hgc ht0 hf0) ?_
 rintro ev w' ⟨rfl,rfl⟩
 generalize hW:(((w.alloc (.cells #[.pointer (some ⟨L.Bl,L.off+0,none⟩)] 89)).alloc _).alloc _).alloc _=W
 have hk:∀own,Dm.K own w W:=fun own=>by
  subst hW
  exact (((LK own _ _ _).trans (LK own _ _ _)).trans (LK own _ _ _)).trans (LK own _ _ _)
 have HW:=H.stay (hk _)
 have hhW:W.heap[L.Bl]? = some (.cells c ct fz):=by
  rw [(hk fun b=>w.heap.size≤b).same L.Bl hlt (by omega)];exact hh
 have e1:(W.setCell ⟨L.Bl,L.off+0,none⟩ (.pointer (some ⟨M.Bl,M.off+eo,none⟩))).heap[L.Bl]? = some (.cells (c.setIfInBounds L.off (.pointer (some ⟨M.Bl,M.off+eo,none⟩))) ct fz):=by
  simp [World.setCell,Array.getElem?_modify,hhW]
 have e2:∀k,k≠L.Bl→(W.setCell ⟨L.Bl,L.off+0,none⟩ (.pointer (some ⟨M.Bl,M.off+eo,none⟩))).heap[k]? = W.heap[k]? :=fun k hk=>by
  simp only [World.setCell,Array.getElem?_modify]
  rw [if_neg (Ne.symm hk)]
 have e3:(W.setCell ⟨L.Bl,L.off+0,none⟩ (.pointer (some ⟨M.Bl,M.off+eo,none⟩))).heap.size=W.heap.size:=by simp [World.setCell]
 have hset:hp.A0 [(i,some (.cells true 0 [.pointer (some ⟨e,eo,none⟩)]))] = hp.H3 i (.cells true 0 [.pointer (some ⟨e,eo,none⟩)]):=by
  funext j;simp only [AE,AH,Hp.set,Hp.H3]
 refine ⟨_,_,_,_,φ,rfl,⟨rfl,rfl,rfl⟩,⟨Dm.Ren.le_refl _, .bool _, ?_, ?_,htop⟩⟩
 ·show HR φ own (hp.A0 _) _
  rw [hset]
  refine HW.put i _ _ L hi rfl hL e3 e2 ?_
  rw [e1]
  refine ⟨he,_,ct,fz,rfl,by simp [hsz],hlim, ?_,hfz⟩
  show Vs φ _ (((c.setIfInBounds L.off _).toList.drop L.off).take 1)
  rw [eg hoff]
  exact .cons _ _ _ _ (.ptr _ _ M hM) .nil
 ·refine (hk own).trans ⟨Nat.le_of_eq e3.symm,fun k _ hn=>e2 k fun e=>hn (e ▸ H.Dq i _ L hi rfl hL),rfl,rfl,rfl⟩
end Go.Proofs.YthpibnpeaidabaaGreatDoor.Dm
