/- strconv.ParseUint at base 10 and 31 bits. -/
import Derived.Test.YthpibnpeaidabaaGreatDoorTU
import Derived.Lib.Strings
import Derived.Lib.Walk
import Derived.Lib.ConvBytes
import Derived.Lib.ParseIntBMem
import Derived.Lib.Hide
import Derived.Laws.Strings3
import Derived.Laws.Closers25
import Derived.Laws.Closers25b
import Derived.BigCall
import Derived.BigGuard
set_option linter.unusedVariables false
namespace Go.Proofs.YthpibnpeaidabaaGreatDoor.Dm
open Go.Dm Go.Shelf Go.Sort Go.RowKit
set_option maxHeartbeats 32000000
set_option maxRecDepth 100000
theorem jh (t:ByteArray)(hne:t.size≠0)(hmax:t.size≤9223372036854775806)(w:World) :
  Calls Tryz.prog 74 #[.string t, .int .i64 10, .int .i64 31] w fun e w'=>e= .returned (Lib.uintTupleM 153 2147483647 (Lib.parseUintM 2147483647 0 t.data.toList))∧w' = Lib.bytesWorld w 5 t:=by
 have hnot:t.toList.isEmpty=false:=by
  rw [←decide_eq_emptyBytes]
  exact decide_eq_false fun h=>hne (by rw [h];rfl)
 have hrow:=Lib.run_convert_string_bytes (P:=Tryz.prog) w 9 60 5 t (u:= .string) Tryz.underlying9 Tryz.underlying60 Tryz.underlying5
 have hbyte:∀j,j < t.size→(Lib.bytesWorld w 5 t).cell? ⟨w.heap.size,j,none⟩=some (.int .u8 (t.data.toList.getD j 0).toNat):=fun j hj=>Lib.bytesWorld_cell w 5 t j hj
 generalize Lib.bytesWorld w 5 t=W1 at hrow hbyte ⊢
 obtain ⟨l,hl⟩:∃l,l=t.data.toList:=⟨_,rfl⟩
 have hln:l.length=t.size:=by rw [hl,Lib.size_eq]
 rw [←hl] at hbyte ⊢
 clear hl
 have hgreat:IntKind.u64.wrap (IntKind.u64.wrap 2147483648 - 1)=2147483647:=by
  rw [IntKind.wrap_u64,IntKind.wrap_u64];decide
 go_enter Tryz.func74,Tryz.ntmps74
 go_wp2
 go_loop [12,13,101] (fun vu vn vi=> ∃(k acc:Nat) (a:Int),vu= .bool false∧vn= .int .u64 a∧vi= .int .i64 k∧k≤t.size∧Hid (a=(acc:Int)∧acc≤2147483647∧Lib.parseUintM 2147483647 0 l=Lib.parseUintM 2147483647 acc (l.drop k)))
  (fun _ _ vi=>t.size - (Go.RowKit.intOf vi).toNat)
 case atStart=>exact ⟨0,0,0,rfl,rfl,rfl,Nat.zero_le _,rfl,Nat.zero_le _,rfl⟩
 case round=>
  obtain ⟨k,acc,a,rfl,rfl,rfl,hk,hh⟩:=hrel
  obtain ⟨ha,hacc,hm⟩:=hh.out
  clear hh
  have a0:0≤a:=by omega
  have a1:a≤2147483647:=by omega
  by_cases hkn:k < t.size
  case neg=>
   have hke:k=t.size:=by omega
   subst hke
   rw [List.drop_eq_nil_of_le (by omega)] at hm
   subst ha
   clear hacc a0 a1
   go_wp2
   go_ret2
   first | exact ⟨rfl,rfl⟩ | exact ⟨by rw [hm];rfl,rfl⟩
  have hc:=hbyte k hkn
  rw [List.drop_eq_getElem_cons (by omega:k < l.length)] at hm
  rw [show l.getD k 0=l[k]'(by omega) by simp [List.getD,List.getElem?_eq_getElem (show k < l.length by omega)]] at hc
  generalize l[k]'(by omega)=c at hc hm
  have hc8:c.toNat < 256:=c.toNat_lt
  clear hbyte
  by_cases hdig:48≤c.toNat∧c.toNat≤57
  case neg=>
   have hF:Lib.parseUintM 2147483647 0 l= .syntax:=by rw [hm];simp [Lib.parseUintM,hdig]
   clear hacc hm ha
   have o1:=bits_lo_u8 .or (c.toNat:Int) 32
   have o2:=bits_hi_u8 .or (c.toNat:Int) 32
   have o3:=bits_lo_u8 .or 95 32
   have o4:=bits_hi_u8 .or 95 32
   go_wp2_with (first | (go_at_call 98;refine (Tryz.internal_strconv_lower _ _).mono ?_;rintro e w' ⟨rfl,rfl⟩))
   all_goals go_ret2
   all_goals first | exact ⟨rfl,rfl⟩ | exact ⟨by rw [hF];rfl,rfl⟩
  obtain ⟨d0,d1⟩:=hdig
  have hcut:¬1844674407370955162≤acc:=by omega
  by_cases hov:2147483647 < acc * 10+(c.toNat - 48)
  ·have hF:Lib.parseUintM 2147483647 0 l= .range:=by rw [hm];simp [Lib.parseUintM,d0,d1,hcut,hov]
   have iov:2147483647 < a * 10+((c.toNat:Int) - 48):=by omega
   clear hcut hacc hov ha hm
   go_wp2
   go_ret2
   first | exact ⟨rfl,rfl⟩ | exact ⟨by rw [hF];rfl,rfl⟩
  ·have hF:Lib.parseUintM 2147483647 acc (c :: l.drop (k+1))=Lib.parseUintM 2147483647 (acc * 10+(c.toNat - 48)) (l.drop (k+1)):=by simp [Lib.parseUintM,d0,d1,hcut,hov]
   have HN:Hid (a * 10+((c.toNat:Int) - 48)=((acc * 10+(c.toNat - 48):Nat):Int)∧acc * 10+(c.toNat - 48)≤2147483647∧Lib.parseUintM 2147483647 0 l=Lib.parseUintM 2147483647 (acc * 10+(c.toNat - 48)) (l.drop (k+1))):=Lib.hid ⟨by omega,by omega,hm.trans hF⟩
   have iov:a * 10+((c.toNat:Int) - 48)≤2147483647:=by omega
   clear hcut hacc hF hov hm ha
   go_wp2
   refine ⟨⟨k+1,acc * 10+(c.toNat - 48),a * 10+((c.toNat:Int) - 48),rfl,(by first | rfl | (congr 1;omega)),(by first | rfl | (congr 1;omega)),by omega,HN⟩,by simp [Go.RowKit.intOf];omega⟩
end Go.Proofs.YthpibnpeaidabaaGreatDoor.Dm
