/- strconv.ParseUint at base 10: its contract at 64, 32 and 31 bits. -/
import Derived.Test.YthpibnpeaidabaaGreatDoorTP
import Derived.Lib.ParseIntB
set_option linter.unusedSimpArgs false
set_option linter.unusedVariables false
namespace Go.Proofs.YthpibnpeaidabaaGreatDoor.Dm
open Go.Dm
set_option maxHeartbeats 16000000
set_option maxRecDepth 100000
theorem gT (w:World):Calls Tryz.prog 74 #[.string ⟨#[]⟩, .int .i64 10, .int .i64 31] w fun e w'=>e= .returned (.tuple #[.int .u64 0, .iface 153 (.int .i64 2)])∧w' = w:=by
 go_enter Tryz.func74,Tryz.ntmps74
 go_wp2
 all_goals first
  | (go_ret2;exact ⟨rfl,rfl⟩)
  | (exfalso;simp_all)
theorem gx (t:ByteArray)(hmax:t.size≤9223372036854775806)(w:World) :
  Calls Tryz.prog 74 #[.string t, .int .i64 10, .int .i64 31] w fun e w'=>e= .returned (Lib.uintTupleM 153 2147483647 (Lib.parseUintB 31 t.data.toList))∧(w' = w∨w' = Lib.bytesWorld w 5 t):=by
 by_cases hne:t.size=0
 ·have e:t=⟨#[]⟩:=by
   cases t with | mk d=>
   congr 1
   exact Array.eq_empty_of_size_eq_zero hne
  subst e
  refine (gT w).mono ?_
  rintro e w' ⟨rfl,rfl⟩
  exact ⟨rfl, .inl rfl⟩
 ·refine (fT t hne hmax w).mono ?_
  rintro e w' ⟨rfl,rfl⟩
  refine ⟨?_, .inr rfl⟩
  unfold Lib.parseUintB
  rw [if_neg (fun h=>hne (by have e:=Lib.size_eq t;rw [h] at e;exact e))]
theorem R0 {w w':World}{t:ByteArray}{e:TypeId}{g:Nat}{v:Value}(h:w' = w∨w' = Lib.bytesWorld w e t)(hv:w.cell? ⟨g,0,none⟩=some v):w'.cell? ⟨g,0,none⟩=some v:=by
 rcases h with rfl | rfl
 ·exact hv
 ·rw [Lib.bytesWorld_old w e t _ ?_]
  ·exact hv
  ·unfold World.cell? at hv
   split at hv
   ·rename_i hb;exact (Array.getElem?_eq_some_iff.1 hb).1
   ·cases hv
theorem FN {w w':World}{t:ByteArray}{e:TypeId}(h:w' = w∨w' = Lib.bytesWorld w e t):Go.RowKit.Below w.heap.size w w':=by
 rcases h with rfl | rfl
 ·exact Go.RowKit.Below.refl _ _
 ·exact Lib.bytesWorld_below _ _ _
def jJ (w:World)(r:Lib.NumEnd Nat)(M:Int)(e:Ending)(w':World):Prop:=match r with
 | .ok u=>e= .returned (.tuple #[.int .u64 u, .nilIface])∧Go.RowKit.Below w.heap.size w w'
 | .syntax=> ∃N,e= .returned (.tuple #[.int .u64 0, .iface 155 (.pointer (some ⟨N,0,none⟩))])∧N < w'.heap.size∧Go.RowKit.Below w.heap.size w w'
 | .range=> ∃N,e= .returned (.tuple #[.int .u64 M, .iface 155 (.pointer (some ⟨N,0,none⟩))])∧N < w'.heap.size∧Go.RowKit.Below w.heap.size w w'
theorem rH (t:ByteArray)(hlim:t.size≤281474976710656)(w:World)(v1 v2:Value)(c1:w.cell? ⟨4,0,none⟩=some v1)(i1:v1= .nilIface∨∃te pe,v1= .iface te pe)(c2:w.cell? ⟨5,0,none⟩=some v2)(i2:v2= .nilIface∨∃te pe,v2= .iface te pe) :
  Calls Tryz.prog 46 #[.string t, .int .i64 10, .int .i64 31] w (jJ w (Lib.parseUintB 31 t.data.toList) 2147483647):=by
 have hin:=gx t (by omega) w
 cases hr:Lib.parseUintB 31 t.data.toList with
 |ok u=>
  rw [hr] at hin
  go_enter Tryz.func46,Tryz.ntmps46
  go_wp2_with (first | (go_at_call 74;refine hin.mono ?_;rintro e w1 ⟨rfl,hw⟩;simp only [Lib.uintTupleM]))
  go_ret2
  exact ⟨rfl,FN hw⟩
 | «syntax» =>
  rw [hr] at hin
  go_enter Tryz.func46,Tryz.ntmps46
  go_wp2_with (first | (go_at_call 74;refine hin.mono ?_;rintro e w1 ⟨rfl,hw⟩;simp only [Lib.uintTupleM]) | (go_at_call 75;refine (Tryz.strconv_toError_syntax _ t _ _ v1 _ hlim (R0 hw c1) i1).mono ?_;rintro e w2 ⟨N,rfl,h1,h2,hb⟩))
  go_ret2
  exact ⟨N,rfl,(Array.getElem?_eq_some_iff.1 h2).1,(FN hw).trans (hb.mono (FN hw).size)⟩
 |range=>
  rw [hr] at hin
  go_enter Tryz.func46,Tryz.ntmps46
  go_wp2_with (first | (go_at_call 74;refine hin.mono ?_;rintro e w1 ⟨rfl,hw⟩;simp only [Lib.uintTupleM]) | (go_at_call 75;refine (Tryz.strconv_toError_range _ t _ _ v2 _ hlim (R0 hw c2) i2).mono ?_;rintro e w2 ⟨N,rfl,h1,h2,hb⟩))
  go_ret2
  exact ⟨N,rfl,(Array.getElem?_eq_some_iff.1 h2).1,(FN hw).trans (hb.mono (FN hw).size)⟩
theorem qD (t:ByteArray)(hlim:t.size≤281474976710656)(w:World)(v1 v2:Value)(c1:w.cell? ⟨4,0,none⟩=some v1)(i1:v1= .nilIface∨∃te pe,v1= .iface te pe)(c2:w.cell? ⟨5,0,none⟩=some v2)(i2:v2= .nilIface∨∃te pe,v2= .iface te pe) :
  Calls Tryz.prog 46 #[.string t, .int .i64 10, .int .i64 64] w (jJ w (Lib.parseUintB 64 t.data.toList) 18446744073709551615):=by
 cases hr:Lib.parseUintB 64 t.data.toList with
 |ok u=>
  refine (Tryz.strconv_ParseUint_10_at64_ok t (by omega) u hr w).mono ?_
  rintro e w' ⟨rfl,hw⟩
  exact ⟨rfl,FN hw⟩
 | «syntax» =>
  refine (Tryz.strconv_ParseUint_10_at64_syntax t hlim hr v1 w c1 i1).mono ?_
  rintro e w' ⟨N,rfl,h1,h2,hb⟩
  exact ⟨N,rfl,(Array.getElem?_eq_some_iff.1 h2).1,hb⟩
 |range=>
  refine (Tryz.strconv_ParseUint_10_at64_range t hlim hr v2 w c2 i2).mono ?_
  rintro e w' ⟨N,rfl,h1,h2,hb⟩
  exact ⟨N,rfl,(Array.getElem?_eq_some_iff.1 h2).1,hb⟩
theorem qt (t:ByteArray)(hlim:t.size≤281474976710656)(w:World)(v1 v2:Value)(c1:w.cell? ⟨4,0,none⟩=some v1)(i1:v1= .nilIface∨∃te pe,v1= .iface te pe)(c2:w.cell? ⟨5,0,none⟩=some v2)(i2:v2= .nilIface∨∃te pe,v2= .iface te pe) :
  Calls Tryz.prog 46 #[.string t, .int .i64 10, .int .i64 32] w (jJ w (Lib.parseUintB 32 t.data.toList) 4294967295):=by
 cases hr:Lib.parseUintB 32 t.data.toList with
 |ok u=>
  refine (Tryz.strconv_ParseUint_10_at32_ok t (by omega) u hr w).mono ?_
  rintro e w' ⟨rfl,hw⟩
  exact ⟨rfl,FN hw⟩
 | «syntax» =>
  refine (Tryz.strconv_ParseUint_10_at32_syntax t hlim hr v1 w c1 i1).mono ?_
  rintro e w' ⟨N,rfl,h1,h2,hb⟩
  exact ⟨N,rfl,(Array.getElem?_eq_some_iff.1 h2).1,hb⟩
 |range=>
  refine (Tryz.strconv_ParseUint_10_at32_range t hlim hr v2 w c2 i2).mono ?_
  rintro e w' ⟨N,rfl,h1,h2,hb⟩
  exact ⟨N,rfl,(Array.getElem?_eq_some_iff.1 h2).1,hb⟩
def Fu (s:List UInt8)(B:Nat):Nat:=match Lib.parseUintB B s with
 | .ok u=>u
 | .syntax=>0
 | .range=>2 ^ B - 1
def dJ (s:List UInt8)(B:Nat):Bool:=match Lib.parseUintB B s with
 | .ok _=>true
 |_=>false
def VG (s:List UInt8)(B:Nat)(top:Nat):Value×BZ×Nat:=
 (.tuple ⟨[.int .u64 (Fu s B),if dJ s B then .nilIface else .iface 155 (.pointer (some ⟨top,0,none⟩))]⟩, [],if dJ s B then top else top+1)
def I6 (B:Int):Prop:=B=64∨B=32∨B=31
def Rd:BO:= .det (fun args hp _=>match args with | [.string ⟨⟨s⟩⟩, .int .i64 b, .int .i64 B]=>b=10∧I6 B∧s.length≤281474976710656∧(∃t a,hp 4=some (KI 4 (.iface t a)))∧(∃t a,hp 6=some (KI 5 (.iface t a))) | _=>False)
 (fun args _ top=>match args with | [s,_,B]=>VG (strOf s) (intOf B).toNat top | _=>(undef, [],top))
theorem Zb {φ:Dm.Ren}{own:Nat→Prop}{hp:Hp}{w w':World}{top N:Nat}{n:Int}{t:TypeId}(H:HR φ own hp w)(htop:∀j,top≤j→φ j=none)(hb:Go.RowKit.Below w.heap.size w w')(hN:N < w'.heap.size) :
  FY φ own w (.tuple ⟨[.int .u64 n, .iface t (.pointer (some ⟨top,0,none⟩))]⟩) hp (top+1) (.tuple ⟨[.int .u64 n, .iface t (.pointer (some ⟨N,0,none⟩))]⟩) w' (φ.ext top ⟨N,0,1,1⟩):=by
 have W:=FY.named (n:=n) (t:=t) H htop hb hN
 exact ⟨W.le, .tuple _ _ (.cons _ _ _ _ (.int _ _) (.cons _ _ _ _ (.iface _ _ _ (.ptr top 0 ⟨N,0,1,1⟩ (Ren.A8 ..))) .nil)),W.hr,W.k,W.top⟩
theorem cm {P:Program}{f:FuncId}{args:List Value}{hp:Hp}{top B:Nat}{s:List UInt8}{M:Int}(hM:M=((2 ^ B - 1:Nat):Int))
  (h:∀φ own w args',Vs φ args args'→HR φ own hp w→Calls P f ⟨args'⟩ w (jJ w (Lib.parseUintB B s) M)):Ab P f args hp top fun v hp' top'=>v=(VG s B top).1∧hp' = hp.A0 (VG s B top).2.1∧top' = (VG s B top).2.2:=by
 intro φ own w args' ha H htop
 have h:=h φ own w args' ha H
 cases hr:Lib.parseUintB B s with
 |ok u=>
  have ea:VG s B top=(.tuple ⟨[.int .u64 u, .nilIface]⟩, [],top):=by simp only [VG,Fu,dJ,hr,if_true]
  rw [ea]
  refine h.mono ?_
  rw [hr]
  rintro e w' ⟨rfl,hb⟩
  have k:=K.Jt hb
  exact ⟨_,_,_,_,φ,rfl,⟨rfl,rfl,rfl⟩,⟨Ren.le_refl _, .tuple _ _ (.cons _ _ _ _ (.int _ _) (.cons _ _ _ _ .nili .nil)),H.stay k,K.LG H.fresh k,htop⟩⟩
 | «syntax» =>
  have ea:VG s B top=(.tuple ⟨[.int .u64 0, .iface 155 (.pointer (some ⟨top,0,none⟩))]⟩, [],top+1):=by simp [VG,Fu,dJ,hr]
  rw [ea]
  refine h.mono ?_
  rw [hr]
  rintro e w' ⟨N,rfl,hN,hb⟩
  exact ⟨_,_,_,_,φ.ext top ⟨N,0,1,1⟩,rfl,⟨rfl,rfl,rfl⟩,Zb H htop hb hN⟩
 |range=>
  have ea:VG s B top=(.tuple ⟨[.int .u64 M, .iface 155 (.pointer (some ⟨top,0,none⟩))]⟩, [],top+1):=by simp [VG,Fu,dJ,hr,hM]
  rw [ea]
  refine h.mono ?_
  rw [hr]
  rintro e w' ⟨N,rfl,hN,hb⟩
  exact ⟨_,_,_,_,φ.ext top ⟨N,0,1,1⟩,rfl,⟨rfl,rfl,rfl⟩,Zb H htop hb hN⟩
theorem qZ:BG Tryz.prog 46 Rd:=by
 refine ⟨⟨_,Uf.toFTOk⟩,fun args hp top hpre=> ?_⟩
 match args,hpre with
 | [.string ⟨⟨s⟩⟩, .int .i64 b, .int .i64 B],⟨hb,hB,hs,⟨t1,a1,hp3⟩,⟨t2,a2,hp4⟩⟩=>
 subst hb
 have key:∀φ own w args',Vs φ [.string ⟨⟨s⟩⟩, .int .i64 10, .int .i64 B] args'→HR φ own hp w→∃v1 v2,args' = [.string ⟨⟨s⟩⟩, .int .i64 10, .int .i64 B]∧w.cell? ⟨4,0,none⟩=some v1∧(v1= .nilIface∨∃te pe,v1= .iface te pe)∧w.cell? ⟨5,0,none⟩=some v2∧(v2= .nilIface∨∃te pe,v2= .iface te pe):=by
  intro φ own w args' ha H
  cases ha with
  |cons _ _ _ _ hx hl=>
  cases hx
  cases hl with
  |cons _ _ _ _ hx hl=>
  cases hx
  cases hl with
  |cons _ _ _ _ hx hl=>
  cases hx
  cases hl
  obtain ⟨v1,V1,c1⟩:=I3 H (by omega) hp3
  obtain ⟨v2,V2,c2⟩:=I3 H (by omega) hp4
  exact ⟨v1,v2,rfl,c1,by cases V1;exact .inr ⟨_,_,rfl⟩,c2,by cases V2;exact .inr ⟨_,_,rfl⟩⟩
 simp only [BV,intOf_int]
 rcases hB with rfl | rfl | rfl
 ·refine cm (B:=64) (M:=18446744073709551615) (by decide) fun φ own w args' ha H=> ?_
  obtain ⟨v1,v2,rfl,c1,i1,c2,i2⟩:=key φ own w args' ha H
  exact qD ⟨⟨s⟩⟩ hs w v1 v2 c1 i1 c2 i2
 ·refine cm (B:=32) (M:=4294967295) (by decide) fun φ own w args' ha H=> ?_
  obtain ⟨v1,v2,rfl,c1,i1,c2,i2⟩:=key φ own w args' ha H
  exact qt ⟨⟨s⟩⟩ hs w v1 v2 c1 i1 c2 i2
 ·refine cm (B:=31) (M:=2147483647) (by decide) fun φ own w args' ha H=> ?_
  obtain ⟨v1,v2,rfl,c1,i1,c2,i2⟩:=key φ own w args' ha H
  exact rH ⟨⟨s⟩⟩ hs w v1 v2 c1 i1 c2 i2
end Go.Proofs.YthpibnpeaidabaaGreatDoor.Dm
