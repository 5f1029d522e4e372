/- strconv.FormatUint at base 10: the number's numeral. -/
import Derived.Test.YthpibnpeaidabaaGreatDoorTB4
import Derived.Lib.AppendIntMem
import Derived.WalkKit
set_option linter.unusedVariables false
namespace Go.Proofs.YthpibnpeaidabaaGreatDoor.Dm
open Go.Dm Go.Shelf Go.Sort
set_option maxHeartbeats 16000000
set_option maxRecDepth 100000
theorem oT (u:Nat)(hu64:u < 18446744073709551616)(w:World)(htab:Lib.TabIs Tryz.prog w "internal/strconv.uint64pow10" .u64 Lib.pow10Tab) :
  Calls Tryz.prog 59 #[.int .u64 u, .int .i64 10] w fun e w'=>e= .returned (.string ⟨(Lib.itoa u).toArray⟩)∧Go.RowKit.Below w.heap.size w w':=by
 by_cases hs:u < 100
 ·go_enter Tryz.func59,Tryz.ntmps59
  go_wp2_with (first | (go_at_call 83;refine (Tryz.internal_strconv_small u hs _).mono ?_;rintro e w' ⟨rfl,rfl⟩) | go_in)
  go_ret
  refine ⟨?_,Go.RowKit.Below.refl _ _⟩
  rw [Lib.itoa_nonneg];rfl
 ·have hu1:1≤u:=by omega
  have hnd20:Lib.nDigits u≤20:=by have:=Lib.numDigits_eq u hu1 hu64;split at this <;> omega
  have hal:Tryz.prog.arrayLen 139=24:=by kernel_rfl
  have hsl1:∀W,(Instr.sliceAt 139 (.pointer (some ⟨w.heap.size,0,none⟩)) none (some (.int .i64 ((Lib.nDigits u:Nat):Int))) none).run Tryz.prog W= .ok (.slice (some ⟨w.heap.size,0,none⟩) (Lib.nDigits u) 24) W:=fun W=>by
   rw [run_sliceAt_array_h W 139 ⟨w.heap.size,0,none⟩ Tryz.underlying139 .i64 ((Lib.nDigits u:Nat):Int) (by omega) (by rw [hal];omega)]
   go_simp
  have hH0:=Lib.holds_zero0 w 139 (Lib.nDigits u) (by omega)
  have hfmt:=Tryz.internal_strconv_formatBase10 w.heap.size 0 24 u (Array.replicate (Lib.nDigits u) 0) (w.alloc (.cells Lib.zeros24 139)) hH0 (by rw [Array.size_replicate];exact Lib.lt_pow_nDigits u) hu64 (by rw [Array.size_replicate];omega)
  rw [Array.size_replicate] at hfmt
  have HH0:=Lib.hid hH0
  clear hH0 hal
  go_enter Tryz.func59,Tryz.ntmps59
  go_wp2_with (first
   | (go_at_call 84;refine (Tryz.internal_strconv_numDigits u hu1 hu64 _ (Lib.tabIs_alloc htab _)).mono ?_;rintro e w' ⟨rfl,rfl⟩))
  refine hfmt.mono ?_
  rintro e w' ⟨rfl,k,v',dk,rfl,hF⟩
  have hcv:(convert 60 9 (.slice (some ⟨w.heap.size,0,none⟩) (Lib.nDigits u) 24)).run Tryz.prog ((putRow (fun (b:UInt8)=>Value.int .u8 (b.toNat:Int)) (w.alloc (.cells Lib.zeros24 139)) w.heap.size 0 dk).drewN k)= .ok (.string ⟨(Lib.decDigits u).toArray⟩) ((putRow (fun (b:UInt8)=>Value.int .u8 (b.toNat:Int)) (w.alloc (.cells Lib.zeros24 139)) w.heap.size 0 dk).drewN k):=by
   have h:=run_convert_bytes_back (P:=Tryz.prog) ((putRow (fun (b:UInt8)=>Value.int .u8 (b.toNat:Int)) (w.alloc (.cells Lib.zeros24 139)) w.heap.size 0 dk).drewN k) 60 9 5 ⟨w.heap.size,0,none⟩ 24 (Lib.decDigits u) Tryz.underlying60 Tryz.underlying5 Tryz.underlying9 (fun j hj=>by
    rw [Lib.row_is_numeral hF j hj,Lib.add_plain,World.cell?_drewN]
    exact cell?_putRow (fun (b:UInt8)=>Value.int .u8 (b.toNat:Int)) _ w.heap.size 0 _ dk HH0.out (by rw [hF.size,Array.size_replicate]) j (by rw [hF.size];rw [Lib.decDigits_length] at hj;exact hj))
   rw [Lib.decDigits_length] at h
   exact h
  go_wp2
  go_ret
  obtain ⟨os,eo⟩:=Lib.fin_at w (.cells Lib.zeros24 139) dk k 0
  refine ⟨?_,by rw [show ((putRow (fun (b:UInt8)=>Value.int .u8 (b.toNat:Int)) (w.alloc (.cells Lib.zeros24 139)) w.heap.size 0 dk).drewN k)=_ from eo];exact Lib.below_grow _ _ (Nat.le_refl _) _ _⟩
  rw [Lib.itoa_nonneg]
  rfl
theorem gW (u:Nat)(hu64:u < 18446744073709551616)(w:World)(htab:Lib.TabIs Tryz.prog w "internal/strconv.uint64pow10" .u64 Lib.pow10Tab) :
  Calls Tryz.prog 33 #[.int .u64 u, .int .i64 10] w fun e w'=>e= .returned (.string ⟨(Lib.itoa u).toArray⟩)∧Go.RowKit.Below w.heap.size w w':=by
 go_enter Tryz.func33,Tryz.ntmps33
 go_wp2_with (first | (go_at_call 59;refine (oT u hu64 _ htab).mono ?_;rintro e w' ⟨rfl,hb⟩))
 go_ret
 exact ⟨rfl,hb⟩
def JT:BB:= .pure (fun args hp=>match args with | [.int .u64 x, .int .i64 y]=>y=10∧SL x∧hp 1=some TT | _=>False) (fun args _=>match args with | [n,_]=> .string ⟨⟨Lib.itoa (intOf n)⟩⟩ | _=>undef)
theorem oS:A4 Tryz.prog 33 JT:=by
 refine ⟨⟨_,U2.toFTOk⟩,fun args hp hpre top=> ?_⟩
 match args,hpre with
 | [.int .u64 x, .int .i64 y],⟨hy,⟨h0,h1⟩,ht⟩=>
 subst hy
 refine AK.MI rfl fun φ own w args' ha H=> ?_
 cases ha with
 |cons _ _ _ _ hx hl=>
 cases hx
 cases hl with
 |cons _ _ _ _ hy hl=>
 cases hy
 cases hl
 obtain ⟨u,rfl⟩:=Int.eq_ofNat_of_zero_le h0
 refine (gW u (by omega) w (VE H ht)).mono ?_
 rintro e w' ⟨rfl,hb⟩
 exact ⟨rfl,hb⟩
end Go.Proofs.YthpibnpeaidabaaGreatDoor.Dm
