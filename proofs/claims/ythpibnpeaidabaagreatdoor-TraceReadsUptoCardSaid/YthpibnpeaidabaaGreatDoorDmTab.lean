/- The types and the functions of this translation as the abstract machine has them, and that they are the program's own. -/
import Derived.Test.YthpibnpeaidabaaGreatDoorDmD
import Derived.Test.YthpibnpeaidabaaGreatDoorRows
namespace Go.Proofs.YthpibnpeaidabaaGreatDoor.Dm
open Go.Dm
noncomputable def ti2 : TI := { ud := .int .i64, size := 1, bytes := 8, zero := (.int .i64 (0)), cmp := false }
theorem ti2_ok : TOk Tryz.prog 2 ti2 := TOk.of (by kernel_rfl) (by kernel_rfl) (by kernel_rfl) (by kernel_rfl) (by intro h; cases h)
noncomputable def ti3 : TI := { ud := .int .i64, size := 1, bytes := 8, zero := (.int .i64 (0)), cmp := true }
theorem ti3_ok : TOk Tryz.prog 3 ti3 := TOk.of (by kernel_rfl) (by kernel_rfl) (by kernel_rfl) (by kernel_rfl) (fun _ => ⟨by kernel_rfl, by kernel_rfl⟩)
noncomputable def ti4 : TI := { ud := .bool, size := 1, bytes := 1, zero := (.bool false), cmp := false }
theorem ti4_ok : TOk Tryz.prog 4 ti4 := TOk.of (by kernel_rfl) (by kernel_rfl) (by kernel_rfl) (by kernel_rfl) (by intro h; cases h)
noncomputable def ti5 : TI := { ud := .int .u8, size := 1, bytes := 1, zero := (.int .u8 (0)), cmp := true }
theorem ti5_ok : TOk Tryz.prog 5 ti5 := TOk.of (by kernel_rfl) (by kernel_rfl) (by kernel_rfl) (by kernel_rfl) (fun _ => ⟨by kernel_rfl, by kernel_rfl⟩)
noncomputable def ti9 : TI := { ud := .string, size := 1, bytes := 16, zero := (.string ⟨⟨[]⟩⟩), cmp := true }
theorem ti9_ok : TOk Tryz.prog 9 ti9 := TOk.of (by kernel_rfl) (by kernel_rfl) (by kernel_rfl) (by kernel_rfl) (fun _ => ⟨by kernel_rfl, by kernel_rfl⟩)
noncomputable def ti17 : TI := { ud := .pointer 216, size := 1, bytes := 8, zero := (.pointer none), cmp := false }
theorem ti17_ok : TOk Tryz.prog 17 ti17 := TOk.of (by kernel_rfl) (by kernel_rfl) (by kernel_rfl) (by kernel_rfl) (by intro h; cases h)
noncomputable def ti20 : TI := { ud := .interface #[], size := 1, bytes := 16, zero := .nilIface, cmp := true }
theorem ti20_ok : TOk Tryz.prog 20 ti20 := TOk.of (by kernel_rfl) (by kernel_rfl) (by kernel_rfl) (by kernel_rfl) (fun _ => ⟨by kernel_rfl, by kernel_rfl⟩)
noncomputable def ti21 : TI := { ud := .int .i32, size := 1, bytes := 4, zero := (.int .i32 (0)), cmp := true }
theorem ti21_ok : TOk Tryz.prog 21 ti21 := TOk.of (by kernel_rfl) (by kernel_rfl) (by kernel_rfl) (by kernel_rfl) (fun _ => ⟨by kernel_rfl, by kernel_rfl⟩)
noncomputable def ti22 : TI := { ud := .slice 33, size := 1, bytes := 24, zero := (.slice none 0 0), cmp := false }
theorem ti22_ok : TOk Tryz.prog 22 ti22 := TOk.of (by kernel_rfl) (by kernel_rfl) (by kernel_rfl) (by kernel_rfl) (by intro h; cases h)
noncomputable def ti24 : TI := { ud := .int .i64, size := 1, bytes := 8, zero := (.int .i64 (0)), cmp := true }
theorem ti24_ok : TOk Tryz.prog 24 ti24 := TOk.of (by kernel_rfl) (by kernel_rfl) (by kernel_rfl) (by kernel_rfl) (fun _ => ⟨by kernel_rfl, by kernel_rfl⟩)
noncomputable def ti28 : TI := { ud := .int .u64, size := 1, bytes := 8, zero := (.int .u64 (0)), cmp := true }
theorem ti28_ok : TOk Tryz.prog 28 ti28 := TOk.of (by kernel_rfl) (by kernel_rfl) (by kernel_rfl) (by kernel_rfl) (fun _ => ⟨by kernel_rfl, by kernel_rfl⟩)
noncomputable def ti29 : TI := { ud := .int .u32, size := 1, bytes := 4, zero := (.int .u32 (0)), cmp := true }
theorem ti29_ok : TOk Tryz.prog 29 ti29 := TOk.of (by kernel_rfl) (by kernel_rfl) (by kernel_rfl) (by kernel_rfl) (fun _ => ⟨by kernel_rfl, by kernel_rfl⟩)
noncomputable def ti31 : TI := { ud := .array 4 28, size := 4, bytes := 32, zero := (.agg ⟨[(.int .u64 (0)), (.int .u64 (0)), (.int .u64 (0)), (.int .u64 (0))]⟩), cmp := true }
theorem ti31_ok : TOk Tryz.prog 31 ti31 := TOk.of (by kernel_rfl) (by kernel_rfl) (by kernel_rfl) (by kernel_rfl) (fun _ => ⟨by kernel_rfl, by kernel_rfl⟩)
noncomputable def ti33 : TI := { ud := .struct #[{ name := "At", type := 28, offset := 0, embedded := false, tag := "", pkgPath := "", byteOffset := 0 }, { name := "Kind", type := 3, offset := 1, embedded := false, tag := "", pkgPath := "", byteOffset := 8 }, { name := "Router", type := 3, offset := 2, embedded := false, tag := "", pkgPath := "", byteOffset := 16 }, { name := "Peer", type := 3, offset := 3, embedded := false, tag := "", pkgPath := "", byteOffset := 24 }, { name := "Id", type := 29, offset := 4, embedded := false, tag := "", pkgPath := "", byteOffset := 32 }, { name := "Set", type := 3, offset := 5, embedded := false, tag := "", pkgPath := "", byteOffset := 40 }, { name := "Bits", type := 31, offset := 6, embedded := false, tag := "", pkgPath := "", byteOffset := 48 }], size := 10, bytes := 80, zero := (.agg ⟨[(.int .u64 (0)), (.int .i64 (0)), (.int .i64 (0)), (.int .i64 (0)), (.int .u32 (0)), (.int .i64 (0)), (.int .u64 (0)), (.int .u64 (0)), (.int .u64 (0)), (.int .u64 (0))]⟩), cmp := true }
theorem ti33_ok : TOk Tryz.prog 33 ti33 := TOk.of (by kernel_rfl) (by kernel_rfl) (by kernel_rfl) (by kernel_rfl) (fun _ => ⟨by kernel_rfl, by kernel_rfl⟩)
noncomputable def ti35 : TI := { ud := .interface #[("Error", 69)], size := 1, bytes := 16, zero := .nilIface, cmp := false }
theorem ti35_ok : TOk Tryz.prog 35 ti35 := TOk.of (by kernel_rfl) (by kernel_rfl) (by kernel_rfl) (by kernel_rfl) (by intro h; cases h)
noncomputable def ti46 : TI := { ud := .struct #[{ name := "Code", type := 24, offset := 0, embedded := false, tag := "", pkgPath := "", byteOffset := 0 }, { name := "At", type := 3, offset := 1, embedded := false, tag := "", pkgPath := "", byteOffset := 8 }], size := 2, bytes := 16, zero := (.agg ⟨[(.int .i64 (0)), (.int .i64 (0))]⟩), cmp := false }
theorem ti46_ok : TOk Tryz.prog 46 ti46 := TOk.of (by kernel_rfl) (by kernel_rfl) (by kernel_rfl) (by kernel_rfl) (by intro h; cases h)
noncomputable def ti51 : TI := { ud := .slice 29, size := 1, bytes := 24, zero := (.slice none 0 0), cmp := false }
theorem ti51_ok : TOk Tryz.prog 51 ti51 := TOk.of (by kernel_rfl) (by kernel_rfl) (by kernel_rfl) (by kernel_rfl) (by intro h; cases h)
noncomputable def ti58 : TI := { ud := .slice 9, size := 1, bytes := 24, zero := (.slice none 0 0), cmp := false }
theorem ti58_ok : TOk Tryz.prog 58 ti58 := TOk.of (by kernel_rfl) (by kernel_rfl) (by kernel_rfl) (by kernel_rfl) (by intro h; cases h)
noncomputable def ti60 : TI := { ud := .slice 5, size := 1, bytes := 24, zero := (.slice none 0 0), cmp := false }
theorem ti60_ok : TOk Tryz.prog 60 ti60 := TOk.of (by kernel_rfl) (by kernel_rfl) (by kernel_rfl) (by kernel_rfl) (by intro h; cases h)
noncomputable def ti63 : TI := { ud := .pointer 65, size := 1, bytes := 8, zero := (.pointer none), cmp := true }
theorem ti63_ok : TOk Tryz.prog 63 ti63 := TOk.of (by kernel_rfl) (by kernel_rfl) (by kernel_rfl) (by kernel_rfl) (fun _ => ⟨by kernel_rfl, by kernel_rfl⟩)
noncomputable def ti65 : TI := { ud := .struct #[{ name := "addr", type := 63, offset := 0, embedded := false, tag := "", pkgPath := "strings", byteOffset := 0 }, { name := "buf", type := 60, offset := 1, embedded := false, tag := "", pkgPath := "strings", byteOffset := 8 }], size := 2, bytes := 32, zero := (.agg ⟨[(.pointer none), (.slice none 0 0)]⟩), cmp := false }
theorem ti65_ok : TOk Tryz.prog 65 ti65 := TOk.of (by kernel_rfl) (by kernel_rfl) (by kernel_rfl) (by kernel_rfl) (by intro h; cases h)
noncomputable def ti71 : TI := { ud := .array 9 9, size := 9, bytes := 144, zero := (.agg ⟨[(.string ⟨⟨[]⟩⟩), (.string ⟨⟨[]⟩⟩), (.string ⟨⟨[]⟩⟩), (.string ⟨⟨[]⟩⟩), (.string ⟨⟨[]⟩⟩), (.string ⟨⟨[]⟩⟩), (.string ⟨⟨[]⟩⟩), (.string ⟨⟨[]⟩⟩), (.string ⟨⟨[]⟩⟩)]⟩), cmp := false }
theorem ti71_ok : TOk Tryz.prog 71 ti71 := TOk.of (by kernel_rfl) (by kernel_rfl) (by kernel_rfl) (by kernel_rfl) (by intro h; cases h)
noncomputable def ti84 : TI := { ud := .pointer 85, size := 1, bytes := 8, zero := (.pointer none), cmp := true }
theorem ti84_ok : TOk Tryz.prog 84 ti84 := TOk.of (by kernel_rfl) (by kernel_rfl) (by kernel_rfl) (by kernel_rfl) (fun _ => ⟨by kernel_rfl, by kernel_rfl⟩)
noncomputable def ti85 : TI := { ud := .struct #[{ name := "Code", type := 24, offset := 0, embedded := false, tag := "", pkgPath := "", byteOffset := 0 }, { name := "At", type := 3, offset := 1, embedded := false, tag := "", pkgPath := "", byteOffset := 8 }], size := 2, bytes := 16, zero := (.agg ⟨[(.int .i64 (0)), (.int .i64 (0))]⟩), cmp := false }
theorem ti85_ok : TOk Tryz.prog 85 ti85 := TOk.of (by kernel_rfl) (by kernel_rfl) (by kernel_rfl) (by kernel_rfl) (by intro h; cases h)
noncomputable def ti89 : TI := { ud := .pointer 84, size := 1, bytes := 8, zero := (.pointer none), cmp := false }
theorem ti89_ok : TOk Tryz.prog 89 ti89 := TOk.of (by kernel_rfl) (by kernel_rfl) (by kernel_rfl) (by kernel_rfl) (by intro h; cases h)
noncomputable def ti97 : TI := { ud := .interface #[("AssignableTo", 118), ("Comparable", 23), ("Elem", 115), ("Implements", 118), ("Kind", 117), ("Name", 69), ("PkgPath", 69), ("Size", 217), ("String", 69), ("internal/reflectlite.common", 210), ("internal/reflectlite.uncommon", 218)], size := 1, bytes := 16, zero := .nilIface, cmp := false }
theorem ti97_ok : TOk Tryz.prog 97 ti97 := TOk.of (by kernel_rfl) (by kernel_rfl) (by kernel_rfl) (by kernel_rfl) (by intro h; cases h)
noncomputable def ti102 : TI := { ud := .pointer 5, size := 1, bytes := 8, zero := (.pointer none), cmp := false }
theorem ti102_ok : TOk Tryz.prog 102 ti102 := TOk.of (by kernel_rfl) (by kernel_rfl) (by kernel_rfl) (by kernel_rfl) (by intro h; cases h)
noncomputable def ti111 : TI := { ud := .int .u64, size := 1, bytes := 8, zero := (.int .u64 (0)), cmp := false }
theorem ti111_ok : TOk Tryz.prog 111 ti111 := TOk.of (by kernel_rfl) (by kernel_rfl) (by kernel_rfl) (by kernel_rfl) (by intro h; cases h)
noncomputable def ti113 : TI := { ud := .struct #[{ name := "typ_", type := 17, offset := 0, embedded := false, tag := "", pkgPath := "internal/reflectlite", byteOffset := 0 }, { name := "ptr", type := 110, offset := 1, embedded := false, tag := "", pkgPath := "internal/reflectlite", byteOffset := 8 }, { name := "flag", type := 111, offset := 2, embedded := true, tag := "", pkgPath := "internal/reflectlite", byteOffset := 16 }], size := 3, bytes := 24, zero := (.agg ⟨[(.pointer none), (.pointer none), (.int .u64 (0))]⟩), cmp := false }
theorem ti113_ok : TOk Tryz.prog 113 ti113 := TOk.of (by kernel_rfl) (by kernel_rfl) (by kernel_rfl) (by kernel_rfl) (by intro h; cases h)
noncomputable def ti116 : TI := { ud := .int .u8, size := 1, bytes := 1, zero := (.int .u8 (0)), cmp := true }
theorem ti116_ok : TOk Tryz.prog 116 ti116 := TOk.of (by kernel_rfl) (by kernel_rfl) (by kernel_rfl) (by kernel_rfl) (fun _ => ⟨by kernel_rfl, by kernel_rfl⟩)
noncomputable def ti121 : TI := { ud := .int .u64, size := 1, bytes := 8, zero := (.int .u64 (0)), cmp := false }
theorem ti121_ok : TOk Tryz.prog 121 ti121 := TOk.of (by kernel_rfl) (by kernel_rfl) (by kernel_rfl) (by kernel_rfl) (by intro h; cases h)
noncomputable def ti122 : TI := { ud := .slice 3, size := 1, bytes := 24, zero := (.slice none 0 0), cmp := false }
theorem ti122_ok : TOk Tryz.prog 122 ti122 := TOk.of (by kernel_rfl) (by kernel_rfl) (by kernel_rfl) (by kernel_rfl) (by intro h; cases h)
noncomputable def ti129 : TI := { ud := .interface #[("Is", 131)], size := 1, bytes := 16, zero := .nilIface, cmp := false }
theorem ti129_ok : TOk Tryz.prog 129 ti129 := TOk.of (by kernel_rfl) (by kernel_rfl) (by kernel_rfl) (by kernel_rfl) (by intro h; cases h)
noncomputable def ti132 : TI := { ud := .interface #[("Unwrap", 133)], size := 1, bytes := 16, zero := .nilIface, cmp := false }
theorem ti132_ok : TOk Tryz.prog 132 ti132 := TOk.of (by kernel_rfl) (by kernel_rfl) (by kernel_rfl) (by kernel_rfl) (by intro h; cases h)
noncomputable def ti134 : TI := { ud := .interface #[("Unwrap", 136)], size := 1, bytes := 16, zero := .nilIface, cmp := false }
theorem ti134_ok : TOk Tryz.prog 134 ti134 := TOk.of (by kernel_rfl) (by kernel_rfl) (by kernel_rfl) (by kernel_rfl) (by intro h; cases h)
noncomputable def ti135 : TI := { ud := .slice 35, size := 1, bytes := 24, zero := (.slice none 0 0), cmp := false }
theorem ti135_ok : TOk Tryz.prog 135 ti135 := TOk.of (by kernel_rfl) (by kernel_rfl) (by kernel_rfl) (by kernel_rfl) (by intro h; cases h)
noncomputable def ti139 : TI := { ud := .array 24 5, size := 24, bytes := 24, zero := (.agg ⟨(reps 24 (.int .u8 (0)))⟩), cmp := false }
theorem ti139_ok : TOk Tryz.prog 139 ti139 := TOk.of (by kernel_rfl) (by kernel_rfl) (by kernel_rfl) (by kernel_rfl) (by intro h; cases h)
noncomputable def ti150 : TI := { ud := .interface #[("As", 152)], size := 1, bytes := 16, zero := .nilIface, cmp := false }
theorem ti150_ok : TOk Tryz.prog 150 ti150 := TOk.of (by kernel_rfl) (by kernel_rfl) (by kernel_rfl) (by kernel_rfl) (by intro h; cases h)
noncomputable def ti153 : TI := { ud := .int .i64, size := 1, bytes := 8, zero := (.int .i64 (0)), cmp := false }
theorem ti153_ok : TOk Tryz.prog 153 ti153 := TOk.of (by kernel_rfl) (by kernel_rfl) (by kernel_rfl) (by kernel_rfl) (by intro h; cases h)
noncomputable def ti155 : TI := { ud := .pointer 183, size := 1, bytes := 8, zero := (.pointer none), cmp := false }
theorem ti155_ok : TOk Tryz.prog 155 ti155 := TOk.of (by kernel_rfl) (by kernel_rfl) (by kernel_rfl) (by kernel_rfl) (by intro h; cases h)
noncomputable def ti162 : TI := { ud := .int .i64, size := 1, bytes := 8, zero := (.int .i64 (0)), cmp := true }
theorem ti162_ok : TOk Tryz.prog 162 ti162 := TOk.of (by kernel_rfl) (by kernel_rfl) (by kernel_rfl) (by kernel_rfl) (fun _ => ⟨by kernel_rfl, by kernel_rfl⟩)
noncomputable def ti173 : TI := { ud := .array 20 28, size := 20, bytes := 160, zero := (.agg ⟨(reps 20 (.int .u64 (0)))⟩), cmp := false }
theorem ti173_ok : TOk Tryz.prog 173 ti173 := TOk.of (by kernel_rfl) (by kernel_rfl) (by kernel_rfl) (by kernel_rfl) (by intro h; cases h)
noncomputable def ti174 : TI := { ud := .array 65 5, size := 65, bytes := 65, zero := (.agg ⟨(reps 65 (.int .u8 (0)))⟩), cmp := false }
theorem ti174_ok : TOk Tryz.prog 174 ti174 := TOk.of (by kernel_rfl) (by kernel_rfl) (by kernel_rfl) (by kernel_rfl) (by intro h; cases h)
noncomputable def ti175 : TI := { ud := .array 64 5, size := 64, bytes := 64, zero := (.agg ⟨(reps 64 (.int .u8 (0)))⟩), cmp := false }
theorem ti175_ok : TOk Tryz.prog 175 ti175 := TOk.of (by kernel_rfl) (by kernel_rfl) (by kernel_rfl) (by kernel_rfl) (by intro h; cases h)
noncomputable def ti183 : TI := { ud := .struct #[{ name := "Func", type := 9, offset := 0, embedded := false, tag := "", pkgPath := "", byteOffset := 0 }, { name := "Num", type := 9, offset := 1, embedded := false, tag := "", pkgPath := "", byteOffset := 16 }, { name := "Err", type := 35, offset := 2, embedded := false, tag := "", pkgPath := "", byteOffset := 32 }], size := 3, bytes := 48, zero := (.agg ⟨[(.string ⟨⟨[]⟩⟩), (.string ⟨⟨[]⟩⟩), .nilIface]⟩), cmp := false }
theorem ti183_ok : TOk Tryz.prog 183 ti183 := TOk.of (by kernel_rfl) (by kernel_rfl) (by kernel_rfl) (by kernel_rfl) (by intro h; cases h)
noncomputable def ti185 : TI := { ud := .int .u64, size := 1, bytes := 8, zero := (.int .u64 (0)), cmp := false }
theorem ti185_ok : TOk Tryz.prog 185 ti185 := TOk.of (by kernel_rfl) (by kernel_rfl) (by kernel_rfl) (by kernel_rfl) (by intro h; cases h)
noncomputable def ti189 : TI := { ud := .pointer 3, size := 1, bytes := 8, zero := (.pointer none), cmp := false }
theorem ti189_ok : TOk Tryz.prog 189 ti189 := TOk.of (by kernel_rfl) (by kernel_rfl) (by kernel_rfl) (by kernel_rfl) (by intro h; cases h)
noncomputable def ti194 : TI := { ud := .pointer 196, size := 1, bytes := 8, zero := (.pointer none), cmp := false }
theorem ti194_ok : TOk Tryz.prog 194 ti194 := TOk.of (by kernel_rfl) (by kernel_rfl) (by kernel_rfl) (by kernel_rfl) (by intro h; cases h)
noncomputable def ti196 : TI := { ud := .struct #[{ name := "s", type := 9, offset := 0, embedded := false, tag := "", pkgPath := "errors", byteOffset := 0 }], size := 1, bytes := 16, zero := (.agg ⟨[(.string ⟨⟨[]⟩⟩)]⟩), cmp := false }
theorem ti196_ok : TOk Tryz.prog 196 ti196 := TOk.of (by kernel_rfl) (by kernel_rfl) (by kernel_rfl) (by kernel_rfl) (by intro h; cases h)
noncomputable def ti200 : TI := { ud := .array 32 5, size := 32, bytes := 32, zero := (.agg ⟨(reps 32 (.int .u8 (0)))⟩), cmp := false }
theorem ti200_ok : TOk Tryz.prog 200 ti200 := TOk.of (by kernel_rfl) (by kernel_rfl) (by kernel_rfl) (by kernel_rfl) (by intro h; cases h)
noncomputable def ti201 : TI := { ud := .array 256 5, size := 256, bytes := 256, zero := (.agg ⟨(reps 256 (.int .u8 (0)))⟩), cmp := false }
theorem ti201_ok : TOk Tryz.prog 201 ti201 := TOk.of (by kernel_rfl) (by kernel_rfl) (by kernel_rfl) (by kernel_rfl) (by intro h; cases h)
noncomputable def ti203 : TI := { ud := .struct #[{ name := "lo", type := 5, offset := 0, embedded := false, tag := "", pkgPath := "unicode/utf8", byteOffset := 0 }, { name := "hi", type := 5, offset := 1, embedded := false, tag := "", pkgPath := "unicode/utf8", byteOffset := 1 }], size := 2, bytes := 2, zero := (.agg ⟨[(.int .u8 (0)), (.int .u8 (0))]⟩), cmp := false }
theorem ti203_ok : TOk Tryz.prog 203 ti203 := TOk.of (by kernel_rfl) (by kernel_rfl) (by kernel_rfl) (by kernel_rfl) (by intro h; cases h)
noncomputable def ti204 : TI := { ud := .array 16 203, size := 32, bytes := 32, zero := (.agg ⟨(reps 32 (.int .u8 (0)))⟩), cmp := false }
theorem ti204_ok : TOk Tryz.prog 204 ti204 := TOk.of (by kernel_rfl) (by kernel_rfl) (by kernel_rfl) (by kernel_rfl) (by intro h; cases h)
noncomputable def tt : T TI := (.node (.node (.node (.node (.node (.node (.node .nil (some ti63) .nil) (some ti31) .nil) none (.node .nil none (.node (.node .nil (some ti175) .nil) (some ti111) .nil))) none (.node (.node (.node (.node .nil (some ti135) .nil) (some ti71) .nil) none .nil) none (.node .nil none (.node (.node .nil (some ti183) .nil) none .nil)))) (some ti3) (.node (.node (.node .nil (some ti35) .nil) none (.node .nil (some ti51) .nil)) none (.node (.node (.node (.node .nil (some ti139) .nil) none (.node .nil (some ti203) .nil)) none .nil) none (.node (.node (.node .nil (some ti155) .nil) none .nil) none .nil)))) none (.node (.node (.node (.node (.node (.node .nil (some ti129) .nil) (some ti65) .nil) (some ti33) (.node .nil (some ti97) .nil)) (some ti17) (.node .nil none (.node .nil (some ti113) .nil))) (some ti9) (.node (.node (.node .nil none (.node .nil (some ti201) .nil)) none .nil) none (.node (.node (.node .nil (some ti153) .nil) (some ti89) .nil) none (.node (.node .nil (some ti185) .nil) (some ti121) .nil)))) (some ti5) (.node (.node .nil (some ti21) (.node (.node .nil (some ti85) .nil) none .nil)) none (.node (.node .nil none (.node (.node .nil (some ti173) .nil) none .nil)) (some ti29) (.node .nil none (.node (.node .nil (some ti189) .nil) none .nil)))))) none (.node (.node (.node .nil none (.node (.node (.node .nil none (.node .nil (some ti200) .nil)) none .nil) (some ti24) .nil)) (some ti4) (.node (.node (.node (.node (.node .nil (some ti132) .nil) none (.node .nil (some ti196) .nil)) none .nil) (some ti20) (.node (.node .nil (some ti84) .nil) none (.node .nil (some ti116) .nil))) none (.node (.node (.node .nil none (.node .nil (some ti204) .nil)) none .nil) (some ti28) (.node .nil (some ti60) .nil)))) (some ti2) (.node (.node (.node (.node (.node .nil none (.node .nil (some ti194) .nil)) none (.node (.node .nil (some ti162) .nil) none .nil)) none .nil) none (.node .nil none (.node .nil (some ti58) (.node .nil (some ti122) .nil)))) none (.node (.node (.node (.node (.node .nil (some ti134) .nil) none .nil) none (.node .nil (some ti102) .nil)) (some ti22) (.node (.node (.node .nil (some ti150) .nil) none .nil) none .nil)) none (.node (.node .nil (some ti46) (.node (.node .nil (some ti174) .nil) none .nil)) none .nil)))))
noncomputable def tl : List (Nat × TI) := [(3, ti3), (31, ti31), (63, ti63), (111, ti111), (175, ti175), (71, ti71), (135, ti135), (183, ti183), (35, ti35), (51, ti51), (139, ti139), (203, ti203), (155, ti155), (5, ti5), (9, ti9), (17, ti17), (33, ti33), (65, ti65), (129, ti129), (97, ti97), (113, ti113), (201, ti201), (89, ti89), (153, ti153), (121, ti121), (185, ti185), (21, ti21), (85, ti85), (29, ti29), (173, ti173), (189, ti189), (2, ti2), (4, ti4), (24, ti24), (200, ti200), (20, ti20), (132, ti132), (196, ti196), (84, ti84), (116, ti116), (28, ti28), (204, ti204), (60, ti60), (194, ti194), (162, ti162), (58, ti58), (122, ti122), (22, ti22), (134, ti134), (102, ti102), (150, ti150), (46, ti46), (174, ti174)]
theorem tl_eq : tt.toL 1 0 = tl := by kernel_rfl
set_option maxRecDepth 100000 in
theorem tl_ok : ∀ p ∈ tl, TOk Tryz.prog p.1 p.2 := List.forall_mem_cons.2 ⟨ti3_ok, List.forall_mem_cons.2 ⟨ti31_ok, List.forall_mem_cons.2 ⟨ti63_ok, List.forall_mem_cons.2 ⟨ti111_ok, List.forall_mem_cons.2 ⟨ti175_ok, List.forall_mem_cons.2 ⟨ti71_ok, List.forall_mem_cons.2 ⟨ti135_ok, List.forall_mem_cons.2 ⟨ti183_ok, List.forall_mem_cons.2 ⟨ti35_ok, List.forall_mem_cons.2 ⟨ti51_ok, List.forall_mem_cons.2 ⟨ti139_ok, List.forall_mem_cons.2 ⟨ti203_ok, List.forall_mem_cons.2 ⟨ti155_ok, List.forall_mem_cons.2 ⟨ti5_ok, List.forall_mem_cons.2 ⟨ti9_ok, List.forall_mem_cons.2 ⟨ti17_ok, List.forall_mem_cons.2 ⟨ti33_ok, List.forall_mem_cons.2 ⟨ti65_ok, List.forall_mem_cons.2 ⟨ti129_ok, List.forall_mem_cons.2 ⟨ti97_ok, List.forall_mem_cons.2 ⟨ti113_ok, List.forall_mem_cons.2 ⟨ti201_ok, List.forall_mem_cons.2 ⟨ti89_ok, List.forall_mem_cons.2 ⟨ti153_ok, List.forall_mem_cons.2 ⟨ti121_ok, List.forall_mem_cons.2 ⟨ti185_ok, List.forall_mem_cons.2 ⟨ti21_ok, List.forall_mem_cons.2 ⟨ti85_ok, List.forall_mem_cons.2 ⟨ti29_ok, List.forall_mem_cons.2 ⟨ti173_ok, List.forall_mem_cons.2 ⟨ti189_ok, List.forall_mem_cons.2 ⟨ti2_ok, List.forall_mem_cons.2 ⟨ti4_ok, List.forall_mem_cons.2 ⟨ti24_ok, List.forall_mem_cons.2 ⟨ti200_ok, List.forall_mem_cons.2 ⟨ti20_ok, List.forall_mem_cons.2 ⟨ti132_ok, List.forall_mem_cons.2 ⟨ti196_ok, List.forall_mem_cons.2 ⟨ti84_ok, List.forall_mem_cons.2 ⟨ti116_ok, List.forall_mem_cons.2 ⟨ti28_ok, List.forall_mem_cons.2 ⟨ti204_ok, List.forall_mem_cons.2 ⟨ti60_ok, List.forall_mem_cons.2 ⟨ti194_ok, List.forall_mem_cons.2 ⟨ti162_ok, List.forall_mem_cons.2 ⟨ti58_ok, List.forall_mem_cons.2 ⟨ti122_ok, List.forall_mem_cons.2 ⟨ti22_ok, List.forall_mem_cons.2 ⟨ti134_ok, List.forall_mem_cons.2 ⟨ti102_ok, List.forall_mem_cons.2 ⟨ti150_ok, List.forall_mem_cons.2 ⟨ti46_ok, List.forall_mem_cons.2 ⟨ti174_ok, (fun _ h => by cases h)⟩⟩⟩⟩⟩⟩⟩⟩⟩⟩⟩⟩⟩⟩⟩⟩⟩⟩⟩⟩⟩⟩⟩⟩⟩⟩⟩⟩⟩⟩⟩⟩⟩⟩⟩⟩⟩⟩⟩⟩⟩⟩⟩⟩⟩⟩⟩⟩⟩⟩⟩⟩⟩
theorem tt_ok : TTOk Tryz.prog tt.get := fun k i h => tl_ok (k, i) (tl_eq ▸ T.toL_get h)
theorem fn3_ok : FOk Tryz.prog 3 Tryz.f3 := ⟨⟨Tryz.func3, by kernel_rfl, by kernel_rfl⟩, FOk.code_of (by kernel_rfl)⟩
theorem fn4_ok : FOk Tryz.prog 4 Tryz.f4 := ⟨⟨Tryz.func4, by kernel_rfl, by kernel_rfl⟩, FOk.code_of (by kernel_rfl)⟩
theorem fn5_ok : FOk Tryz.prog 5 Tryz.f5 := ⟨⟨Tryz.func5, by kernel_rfl, by kernel_rfl⟩, FOk.code_of (by kernel_rfl)⟩
theorem fn6_ok : FOk Tryz.prog 6 Tryz.f6 := ⟨⟨Tryz.func6, by kernel_rfl, by kernel_rfl⟩, FOk.code_of (by kernel_rfl)⟩
theorem fn7_ok : FOk Tryz.prog 7 Tryz.f7 := ⟨⟨Tryz.func7, by kernel_rfl, by kernel_rfl⟩, FOk.code_of (by kernel_rfl)⟩
theorem fn8_ok : FOk Tryz.prog 8 Tryz.f8 := ⟨⟨Tryz.func8, by kernel_rfl, by kernel_rfl⟩, FOk.code_of (by kernel_rfl)⟩
theorem fn9_ok : FOk Tryz.prog 9 Tryz.f9 := ⟨⟨Tryz.func9, by kernel_rfl, by kernel_rfl⟩, FOk.code_of (by kernel_rfl)⟩
theorem fn10_ok : FOk Tryz.prog 10 Tryz.f10 := ⟨⟨Tryz.func10, by kernel_rfl, by kernel_rfl⟩, FOk.code_of (by kernel_rfl)⟩
theorem fn11_ok : FOk Tryz.prog 11 Tryz.f11 := ⟨⟨Tryz.func11, by kernel_rfl, by kernel_rfl⟩, FOk.code_of (by kernel_rfl)⟩
theorem fn12_ok : FOk Tryz.prog 12 Tryz.f12 := ⟨⟨Tryz.func12, by kernel_rfl, by kernel_rfl⟩, FOk.code_of (by kernel_rfl)⟩
theorem fn13_ok : FOk Tryz.prog 13 Tryz.f13 := ⟨⟨Tryz.func13, by kernel_rfl, by kernel_rfl⟩, FOk.code_of (by kernel_rfl)⟩
theorem fn14_ok : FOk Tryz.prog 14 Tryz.f14 := ⟨⟨Tryz.func14, by kernel_rfl, by kernel_rfl⟩, FOk.code_of (by kernel_rfl)⟩
theorem fn15_ok : FOk Tryz.prog 15 Tryz.f15 := ⟨⟨Tryz.func15, by kernel_rfl, by kernel_rfl⟩, FOk.code_of (by kernel_rfl)⟩
theorem fn16_ok : FOk Tryz.prog 16 Tryz.f16 := ⟨⟨Tryz.func16, by kernel_rfl, by kernel_rfl⟩, FOk.code_of (by kernel_rfl)⟩
theorem fn17_ok : FOk Tryz.prog 17 Tryz.f17 := ⟨⟨Tryz.func17, by kernel_rfl, by kernel_rfl⟩, FOk.code_of (by kernel_rfl)⟩
theorem fn18_ok : FOk Tryz.prog 18 Tryz.f18 := ⟨⟨Tryz.func18, by kernel_rfl, by kernel_rfl⟩, FOk.code_of (by kernel_rfl)⟩
theorem fn19_ok : FOk Tryz.prog 19 Tryz.f19 := ⟨⟨Tryz.func19, by kernel_rfl, by kernel_rfl⟩, FOk.code_of (by kernel_rfl)⟩
theorem fn20_ok : FOk Tryz.prog 20 Tryz.f20 := ⟨⟨Tryz.func20, by kernel_rfl, by kernel_rfl⟩, FOk.code_of (by kernel_rfl)⟩
theorem fn21_ok : FOk Tryz.prog 21 Tryz.f21 := ⟨⟨Tryz.func21, by kernel_rfl, by kernel_rfl⟩, FOk.code_of (by kernel_rfl)⟩
theorem fn22_ok : FOk Tryz.prog 22 Tryz.f22 := ⟨⟨Tryz.func22, by kernel_rfl, by kernel_rfl⟩, FOk.code_of (by kernel_rfl)⟩
theorem fn23_ok : FOk Tryz.prog 23 Tryz.f23 := ⟨⟨Tryz.func23, by kernel_rfl, by kernel_rfl⟩, FOk.code_of (by kernel_rfl)⟩
theorem fn24_ok : FOk Tryz.prog 24 Tryz.f24 := ⟨⟨Tryz.func24, by kernel_rfl, by kernel_rfl⟩, FOk.code_of (by kernel_rfl)⟩
theorem fn25_ok : FOk Tryz.prog 25 Tryz.f25 := ⟨⟨Tryz.func25, by kernel_rfl, by kernel_rfl⟩, FOk.code_of (by kernel_rfl)⟩
theorem fn26_ok : FOk Tryz.prog 26 Tryz.f26 := ⟨⟨Tryz.func26, by kernel_rfl, by kernel_rfl⟩, FOk.code_of (by kernel_rfl)⟩
theorem fn27_ok : FOk Tryz.prog 27 Tryz.f27 := ⟨⟨Tryz.func27, by kernel_rfl, by kernel_rfl⟩, FOk.code_of (by kernel_rfl)⟩
theorem fn28_ok : FOk Tryz.prog 28 Tryz.f28 := ⟨⟨Tryz.func28, by kernel_rfl, by kernel_rfl⟩, FOk.code_of (by kernel_rfl)⟩
theorem fn29_ok : FOk Tryz.prog 29 Tryz.f29 := ⟨⟨Tryz.func29, by kernel_rfl, by kernel_rfl⟩, FOk.code_of (by kernel_rfl)⟩
theorem fn30_ok : FOk Tryz.prog 30 Tryz.f30 := ⟨⟨Tryz.func30, by kernel_rfl, by kernel_rfl⟩, FOk.code_of (by kernel_rfl)⟩
theorem fn31_ok : FOk Tryz.prog 31 Tryz.f31 := ⟨⟨Tryz.func31, by kernel_rfl, by kernel_rfl⟩, FOk.code_of (by kernel_rfl)⟩
theorem fn32_ok : FOk Tryz.prog 32 Tryz.f32 := ⟨⟨Tryz.func32, by kernel_rfl, by kernel_rfl⟩, FOk.code_of (by kernel_rfl)⟩
theorem fn33_ok : FOk Tryz.prog 33 Tryz.f33 := ⟨⟨Tryz.func33, by kernel_rfl, by kernel_rfl⟩, FOk.code_of (by kernel_rfl)⟩
theorem fn34_ok : FOk Tryz.prog 34 Tryz.f34 := ⟨⟨Tryz.func34, by kernel_rfl, by kernel_rfl⟩, FOk.code_of (by kernel_rfl)⟩
theorem fn35_ok : FOk Tryz.prog 35 Tryz.f35 := ⟨⟨Tryz.func35, by kernel_rfl, by kernel_rfl⟩, FOk.code_of (by kernel_rfl)⟩
theorem fn36_ok : FOk Tryz.prog 36 Tryz.f36 := ⟨⟨Tryz.func36, by kernel_rfl, by kernel_rfl⟩, FOk.code_of (by kernel_rfl)⟩
theorem fn37_ok : FOk Tryz.prog 37 Tryz.f37 := ⟨⟨Tryz.func37, by kernel_rfl, by kernel_rfl⟩, FOk.code_of (by kernel_rfl)⟩
theorem fn38_ok : FOk Tryz.prog 38 Tryz.f38 := ⟨⟨Tryz.func38, by kernel_rfl, by kernel_rfl⟩, FOk.code_of (by kernel_rfl)⟩
theorem fn39_ok : FOk Tryz.prog 39 Tryz.f39 := ⟨⟨Tryz.func39, by kernel_rfl, by kernel_rfl⟩, FOk.code_of (by kernel_rfl)⟩
theorem fn40_ok : FOk Tryz.prog 40 Tryz.f40 := ⟨⟨Tryz.func40, by kernel_rfl, by kernel_rfl⟩, FOk.code_of (by kernel_rfl)⟩
theorem fn41_ok : FOk Tryz.prog 41 Tryz.f41 := ⟨⟨Tryz.func41, by kernel_rfl, by kernel_rfl⟩, FOk.code_of (by kernel_rfl)⟩
theorem fn42_ok : FOk Tryz.prog 42 Tryz.f42 := ⟨⟨Tryz.func42, by kernel_rfl, by kernel_rfl⟩, FOk.code_of (by kernel_rfl)⟩
theorem fn43_ok : FOk Tryz.prog 43 Tryz.f43 := ⟨⟨Tryz.func43, by kernel_rfl, by kernel_rfl⟩, FOk.code_of (by kernel_rfl)⟩
theorem fn44_ok : FOk Tryz.prog 44 Tryz.f44 := ⟨⟨Tryz.func44, by kernel_rfl, by kernel_rfl⟩, FOk.code_of (by kernel_rfl)⟩
theorem fn45_ok : FOk Tryz.prog 45 Tryz.f45 := ⟨⟨Tryz.func45, by kernel_rfl, by kernel_rfl⟩, FOk.code_of (by kernel_rfl)⟩
theorem fn46_ok : FOk Tryz.prog 46 Tryz.f46 := ⟨⟨Tryz.func46, by kernel_rfl, by kernel_rfl⟩, FOk.code_of (by kernel_rfl)⟩
theorem fn47_ok : FOk Tryz.prog 47 Tryz.f47 := ⟨⟨Tryz.func47, by kernel_rfl, by kernel_rfl⟩, FOk.code_of (by kernel_rfl)⟩
theorem fn48_ok : FOk Tryz.prog 48 Tryz.f48 := ⟨⟨Tryz.func48, by kernel_rfl, by kernel_rfl⟩, FOk.code_of (by kernel_rfl)⟩
theorem fn49_ok : FOk Tryz.prog 49 Tryz.f49 := ⟨⟨Tryz.func49, by kernel_rfl, by kernel_rfl⟩, FOk.code_of (by kernel_rfl)⟩
theorem fn50_ok : FOk Tryz.prog 50 Tryz.f50 := ⟨⟨Tryz.func50, by kernel_rfl, by kernel_rfl⟩, FOk.code_of (by kernel_rfl)⟩
theorem fn51_ok : FOk Tryz.prog 51 Tryz.f51 := ⟨⟨Tryz.func51, by kernel_rfl, by kernel_rfl⟩, FOk.code_of (by kernel_rfl)⟩
theorem fn52_ok : FOk Tryz.prog 52 Tryz.f52 := ⟨⟨Tryz.func52, by kernel_rfl, by kernel_rfl⟩, FOk.code_of (by kernel_rfl)⟩
theorem fn54_ok : FOk Tryz.prog 54 Tryz.f54 := ⟨⟨Tryz.func54, by kernel_rfl, by kernel_rfl⟩, FOk.code_of (by kernel_rfl)⟩
theorem fn55_ok : FOk Tryz.prog 55 Tryz.f55 := ⟨⟨Tryz.func55, by kernel_rfl, by kernel_rfl⟩, FOk.code_of (by kernel_rfl)⟩
theorem fn56_ok : FOk Tryz.prog 56 Tryz.f56 := ⟨⟨Tryz.func56, by kernel_rfl, by kernel_rfl⟩, FOk.code_of (by kernel_rfl)⟩
theorem fn57_ok : FOk Tryz.prog 57 Tryz.f57 := ⟨⟨Tryz.func57, by kernel_rfl, by kernel_rfl⟩, FOk.code_of (by kernel_rfl)⟩
theorem fn58_ok : FOk Tryz.prog 58 Tryz.f58 := ⟨⟨Tryz.func58, by kernel_rfl, by kernel_rfl⟩, FOk.code_of (by kernel_rfl)⟩
theorem fn59_ok : FOk Tryz.prog 59 Tryz.f59 := ⟨⟨Tryz.func59, by kernel_rfl, by kernel_rfl⟩, FOk.code_of (by kernel_rfl)⟩
theorem fn60_ok : FOk Tryz.prog 60 Tryz.f60 := ⟨⟨Tryz.func60, by kernel_rfl, by kernel_rfl⟩, FOk.code_of (by kernel_rfl)⟩
theorem fn61_ok : FOk Tryz.prog 61 Tryz.f61 := ⟨⟨Tryz.func61, by kernel_rfl, by kernel_rfl⟩, FOk.code_of (by kernel_rfl)⟩
theorem fn62_ok : FOk Tryz.prog 62 Tryz.f62 := ⟨⟨Tryz.func62, by kernel_rfl, by kernel_rfl⟩, FOk.code_of (by kernel_rfl)⟩
theorem fn63_ok : FOk Tryz.prog 63 Tryz.f63 := ⟨⟨Tryz.func63, by kernel_rfl, by kernel_rfl⟩, FOk.code_of (by kernel_rfl)⟩
theorem fn64_ok : FOk Tryz.prog 64 Tryz.f64 := ⟨⟨Tryz.func64, by kernel_rfl, by kernel_rfl⟩, FOk.code_of (by kernel_rfl)⟩
theorem fn65_ok : FOk Tryz.prog 65 Tryz.f65 := ⟨⟨Tryz.func65, by kernel_rfl, by kernel_rfl⟩, FOk.code_of (by kernel_rfl)⟩
theorem fn66_ok : FOk Tryz.prog 66 Tryz.f66 := ⟨⟨Tryz.func66, by kernel_rfl, by kernel_rfl⟩, FOk.code_of (by kernel_rfl)⟩
theorem fn67_ok : FOk Tryz.prog 67 Tryz.f67 := ⟨⟨Tryz.func67, by kernel_rfl, by kernel_rfl⟩, FOk.code_of (by kernel_rfl)⟩
theorem fn68_ok : FOk Tryz.prog 68 Tryz.f68 := ⟨⟨Tryz.func68, by kernel_rfl, by kernel_rfl⟩, FOk.code_of (by kernel_rfl)⟩
theorem fn69_ok : FOk Tryz.prog 69 Tryz.f69 := ⟨⟨Tryz.func69, by kernel_rfl, by kernel_rfl⟩, FOk.code_of (by kernel_rfl)⟩
theorem fn73_ok : FOk Tryz.prog 73 Tryz.f73 := ⟨⟨Tryz.func73, by kernel_rfl, by kernel_rfl⟩, FOk.code_of (by kernel_rfl)⟩
theorem fn74_ok : FOk Tryz.prog 74 Tryz.f74 := ⟨⟨Tryz.func74, by kernel_rfl, by kernel_rfl⟩, FOk.code_of (by kernel_rfl)⟩
theorem fn75_ok : FOk Tryz.prog 75 Tryz.f75 := ⟨⟨Tryz.func75, by kernel_rfl, by kernel_rfl⟩, FOk.code_of (by kernel_rfl)⟩
theorem fn76_ok : FOk Tryz.prog 76 Tryz.f76 := ⟨⟨Tryz.func76, by kernel_rfl, by kernel_rfl⟩, FOk.code_of (by kernel_rfl)⟩
theorem fn77_ok : FOk Tryz.prog 77 Tryz.f77 := ⟨⟨Tryz.func77, by kernel_rfl, by kernel_rfl⟩, FOk.code_of (by kernel_rfl)⟩
theorem fn78_ok : FOk Tryz.prog 78 Tryz.f78 := ⟨⟨Tryz.func78, by kernel_rfl, by kernel_rfl⟩, FOk.code_of (by kernel_rfl)⟩
theorem fn79_ok : FOk Tryz.prog 79 Tryz.f79 := ⟨⟨Tryz.func79, by kernel_rfl, by kernel_rfl⟩, FOk.code_of (by kernel_rfl)⟩
theorem fn80_ok : FOk Tryz.prog 80 Tryz.f80 := ⟨⟨Tryz.func80, by kernel_rfl, by kernel_rfl⟩, FOk.code_of (by kernel_rfl)⟩
theorem fn81_ok : FOk Tryz.prog 81 Tryz.f81 := ⟨⟨Tryz.func81, by kernel_rfl, by kernel_rfl⟩, FOk.code_of (by kernel_rfl)⟩
theorem fn83_ok : FOk Tryz.prog 83 Tryz.f83 := ⟨⟨Tryz.func83, by kernel_rfl, by kernel_rfl⟩, FOk.code_of (by kernel_rfl)⟩
theorem fn84_ok : FOk Tryz.prog 84 Tryz.f84 := ⟨⟨Tryz.func84, by kernel_rfl, by kernel_rfl⟩, FOk.code_of (by kernel_rfl)⟩
theorem fn85_ok : FOk Tryz.prog 85 Tryz.f85 := ⟨⟨Tryz.func85, by kernel_rfl, by kernel_rfl⟩, FOk.code_of (by kernel_rfl)⟩
theorem fn86_ok : FOk Tryz.prog 86 Tryz.f86 := ⟨⟨Tryz.func86, by kernel_rfl, by kernel_rfl⟩, FOk.code_of (by kernel_rfl)⟩
theorem fn87_ok : FOk Tryz.prog 87 Tryz.f87 := ⟨⟨Tryz.func87, by kernel_rfl, by kernel_rfl⟩, FOk.code_of (by kernel_rfl)⟩
theorem fn88_ok : FOk Tryz.prog 88 Tryz.f88 := ⟨⟨Tryz.func88, by kernel_rfl, by kernel_rfl⟩, FOk.code_of (by kernel_rfl)⟩
theorem fn89_ok : FOk Tryz.prog 89 Tryz.f89 := ⟨⟨Tryz.func89, by kernel_rfl, by kernel_rfl⟩, FOk.code_of (by kernel_rfl)⟩
theorem fn90_ok : FOk Tryz.prog 90 Tryz.f90 := ⟨⟨Tryz.func90, by kernel_rfl, by kernel_rfl⟩, FOk.code_of (by kernel_rfl)⟩
theorem fn91_ok : FOk Tryz.prog 91 Tryz.f91 := ⟨⟨Tryz.func91, by kernel_rfl, by kernel_rfl⟩, FOk.code_of (by kernel_rfl)⟩
theorem fn92_ok : FOk Tryz.prog 92 Tryz.f92 := ⟨⟨Tryz.func92, by kernel_rfl, by kernel_rfl⟩, FOk.code_of (by kernel_rfl)⟩
theorem fn93_ok : FOk Tryz.prog 93 Tryz.f93 := ⟨⟨Tryz.func93, by kernel_rfl, by kernel_rfl⟩, FOk.code_of (by kernel_rfl)⟩
theorem fn94_ok : FOk Tryz.prog 94 Tryz.f94 := ⟨⟨Tryz.func94, by kernel_rfl, by kernel_rfl⟩, FOk.code_of (by kernel_rfl)⟩
theorem fn95_ok : FOk Tryz.prog 95 Tryz.f95 := ⟨⟨Tryz.func95, by kernel_rfl, by kernel_rfl⟩, FOk.code_of (by kernel_rfl)⟩
theorem fn98_ok : FOk Tryz.prog 98 Tryz.f98 := ⟨⟨Tryz.func98, by kernel_rfl, by kernel_rfl⟩, FOk.code_of (by kernel_rfl)⟩
theorem fn99_ok : FOk Tryz.prog 99 Tryz.f99 := ⟨⟨Tryz.func99, by kernel_rfl, by kernel_rfl⟩, FOk.code_of (by kernel_rfl)⟩
theorem fn100_ok : FOk Tryz.prog 100 Tryz.f100 := ⟨⟨Tryz.func100, by kernel_rfl, by kernel_rfl⟩, FOk.code_of (by kernel_rfl)⟩
theorem fn101_ok : FOk Tryz.prog 101 Tryz.f101 := ⟨⟨Tryz.func101, by kernel_rfl, by kernel_rfl⟩, FOk.code_of (by kernel_rfl)⟩
theorem fn102_ok : FOk Tryz.prog 102 Tryz.f102 := ⟨⟨Tryz.func102, by kernel_rfl, by kernel_rfl⟩, FOk.code_of (by kernel_rfl)⟩
theorem fn103_ok : FOk Tryz.prog 103 Tryz.f103 := ⟨⟨Tryz.func103, by kernel_rfl, by kernel_rfl⟩, FOk.code_of (by kernel_rfl)⟩
theorem fn104_ok : FOk Tryz.prog 104 Tryz.f104 := ⟨⟨Tryz.func104, by kernel_rfl, by kernel_rfl⟩, FOk.code_of (by kernel_rfl)⟩
theorem fn105_ok : FOk Tryz.prog 105 Tryz.f105 := ⟨⟨Tryz.func105, by kernel_rfl, by kernel_rfl⟩, FOk.code_of (by kernel_rfl)⟩
theorem fn106_ok : FOk Tryz.prog 106 Tryz.f106 := ⟨⟨Tryz.func106, by kernel_rfl, by kernel_rfl⟩, FOk.code_of (by kernel_rfl)⟩
theorem fn107_ok : FOk Tryz.prog 107 Tryz.f107 := ⟨⟨Tryz.func107, by kernel_rfl, by kernel_rfl⟩, FOk.code_of (by kernel_rfl)⟩
theorem fn108_ok : FOk Tryz.prog 108 Tryz.f108 := ⟨⟨Tryz.func108, by kernel_rfl, by kernel_rfl⟩, FOk.code_of (by kernel_rfl)⟩
theorem fn109_ok : FOk Tryz.prog 109 Tryz.f109 := ⟨⟨Tryz.func109, by kernel_rfl, by kernel_rfl⟩, FOk.code_of (by kernel_rfl)⟩
theorem fn110_ok : FOk Tryz.prog 110 Tryz.f110 := ⟨⟨Tryz.func110, by kernel_rfl, by kernel_rfl⟩, FOk.code_of (by kernel_rfl)⟩
theorem fn111_ok : FOk Tryz.prog 111 Tryz.f111 := ⟨⟨Tryz.func111, by kernel_rfl, by kernel_rfl⟩, FOk.code_of (by kernel_rfl)⟩
theorem fn112_ok : FOk Tryz.prog 112 Tryz.f112 := ⟨⟨Tryz.func112, by kernel_rfl, by kernel_rfl⟩, FOk.code_of (by kernel_rfl)⟩
theorem fn113_ok : FOk Tryz.prog 113 Tryz.f113 := ⟨⟨Tryz.func113, by kernel_rfl, by kernel_rfl⟩, FOk.code_of (by kernel_rfl)⟩
theorem fn114_ok : FOk Tryz.prog 114 Tryz.f114 := ⟨⟨Tryz.func114, by kernel_rfl, by kernel_rfl⟩, FOk.code_of (by kernel_rfl)⟩
theorem fn115_ok : FOk Tryz.prog 115 Tryz.f115 := ⟨⟨Tryz.func115, by kernel_rfl, by kernel_rfl⟩, FOk.code_of (by kernel_rfl)⟩
theorem fn116_ok : FOk Tryz.prog 116 Tryz.f116 := ⟨⟨Tryz.func116, by kernel_rfl, by kernel_rfl⟩, FOk.code_of (by kernel_rfl)⟩
theorem fn117_ok : FOk Tryz.prog 117 Tryz.f117 := ⟨⟨Tryz.func117, by kernel_rfl, by kernel_rfl⟩, FOk.code_of (by kernel_rfl)⟩
theorem fn118_ok : FOk Tryz.prog 118 Tryz.f118 := ⟨⟨Tryz.func118, by kernel_rfl, by kernel_rfl⟩, FOk.code_of (by kernel_rfl)⟩
theorem fn119_ok : FOk Tryz.prog 119 Tryz.f119 := ⟨⟨Tryz.func119, by kernel_rfl, by kernel_rfl⟩, FOk.code_of (by kernel_rfl)⟩
theorem fn120_ok : FOk Tryz.prog 120 Tryz.f120 := ⟨⟨Tryz.func120, by kernel_rfl, by kernel_rfl⟩, FOk.code_of (by kernel_rfl)⟩
theorem fn121_ok : FOk Tryz.prog 121 Tryz.f121 := ⟨⟨Tryz.func121, by kernel_rfl, by kernel_rfl⟩, FOk.code_of (by kernel_rfl)⟩
theorem fn123_ok : FOk Tryz.prog 123 Tryz.f123 := ⟨⟨Tryz.func123, by kernel_rfl, by kernel_rfl⟩, FOk.code_of (by kernel_rfl)⟩
theorem fn124_ok : FOk Tryz.prog 124 Tryz.f124 := ⟨⟨Tryz.func124, by kernel_rfl, by kernel_rfl⟩, FOk.code_of (by kernel_rfl)⟩
theorem fn126_ok : FOk Tryz.prog 126 Tryz.f126 := ⟨⟨Tryz.func126, by kernel_rfl, by kernel_rfl⟩, FOk.code_of (by kernel_rfl)⟩
theorem fn128_ok : FOk Tryz.prog 128 Tryz.f128 := ⟨⟨Tryz.func128, by kernel_rfl, by kernel_rfl⟩, FOk.code_of (by kernel_rfl)⟩
theorem fn129_ok : FOk Tryz.prog 129 Tryz.f129 := ⟨⟨Tryz.func129, by kernel_rfl, by kernel_rfl⟩, FOk.code_of (by kernel_rfl)⟩
theorem fn130_ok : FOk Tryz.prog 130 Tryz.f130 := ⟨⟨Tryz.func130, by kernel_rfl, by kernel_rfl⟩, FOk.code_of (by kernel_rfl)⟩
theorem fn131_ok : FOk Tryz.prog 131 Tryz.f131 := ⟨⟨Tryz.func131, by kernel_rfl, by kernel_rfl⟩, FOk.code_of (by kernel_rfl)⟩
theorem fn132_ok : FOk Tryz.prog 132 Tryz.f132 := ⟨⟨Tryz.func132, by kernel_rfl, by kernel_rfl⟩, FOk.code_of (by kernel_rfl)⟩
theorem fn133_ok : FOk Tryz.prog 133 Tryz.f133 := ⟨⟨Tryz.func133, by kernel_rfl, by kernel_rfl⟩, FOk.code_of (by kernel_rfl)⟩
theorem fn134_ok : FOk Tryz.prog 134 Tryz.f134 := ⟨⟨Tryz.func134, by kernel_rfl, by kernel_rfl⟩, FOk.code_of (by kernel_rfl)⟩
theorem fn135_ok : FOk Tryz.prog 135 Tryz.f135 := ⟨⟨Tryz.func135, by kernel_rfl, by kernel_rfl⟩, FOk.code_of (by kernel_rfl)⟩
theorem fn136_ok : FOk Tryz.prog 136 Tryz.f136 := ⟨⟨Tryz.func136, by kernel_rfl, by kernel_rfl⟩, FOk.code_of (by kernel_rfl)⟩
theorem fn137_ok : FOk Tryz.prog 137 Tryz.f137 := ⟨⟨Tryz.func137, by kernel_rfl, by kernel_rfl⟩, FOk.code_of (by kernel_rfl)⟩
theorem fn138_ok : FOk Tryz.prog 138 Tryz.f138 := ⟨⟨Tryz.func138, by kernel_rfl, by kernel_rfl⟩, FOk.code_of (by kernel_rfl)⟩
theorem fn139_ok : FOk Tryz.prog 139 Tryz.f139 := ⟨⟨Tryz.func139, by kernel_rfl, by kernel_rfl⟩, FOk.code_of (by kernel_rfl)⟩
theorem fn141_ok : FOk Tryz.prog 141 Tryz.f141 := ⟨⟨Tryz.func141, by kernel_rfl, by kernel_rfl⟩, FOk.code_of (by kernel_rfl)⟩
theorem fn142_ok : FOk Tryz.prog 142 Tryz.f142 := ⟨⟨Tryz.func142, by kernel_rfl, by kernel_rfl⟩, FOk.code_of (by kernel_rfl)⟩
theorem fn163_ok : FOk Tryz.prog 163 Tryz.f163 := ⟨⟨Tryz.func163, by kernel_rfl, by kernel_rfl⟩, FOk.code_of (by kernel_rfl)⟩
theorem fn180_ok : FOk Tryz.prog 180 Tryz.f180 := ⟨⟨Tryz.func180, by kernel_rfl, by kernel_rfl⟩, FOk.code_of (by kernel_rfl)⟩
noncomputable def ft : T Func := (.node (.node (.node (.node (.node (.node (.node .nil (some Tryz.f63) .nil) (some Tryz.f31) (.node .nil (some Tryz.f95) .nil)) (some Tryz.f15) (.node (.node .nil (some Tryz.f79) .nil) (some Tryz.f47) (.node .nil (some Tryz.f111) .nil))) (some Tryz.f7) (.node (.node (.node (.node .nil (some Tryz.f135) .nil) none .nil) (some Tryz.f39) (.node .nil (some Tryz.f103) .nil)) (some Tryz.f23) (.node (.node .nil (some Tryz.f87) .nil) (some Tryz.f55) (.node .nil (some Tryz.f119) .nil)))) (some Tryz.f3) (.node (.node (.node (.node (.node .nil (some Tryz.f131) .nil) (some Tryz.f67) .nil) (some Tryz.f35) (.node (.node .nil (some Tryz.f163) .nil) (some Tryz.f99) .nil)) (some Tryz.f19) (.node (.node .nil (some Tryz.f83) .nil) (some Tryz.f51) (.node .nil (some Tryz.f115) .nil))) (some Tryz.f11) (.node (.node (.node (.node .nil (some Tryz.f139) .nil) (some Tryz.f75) .nil) (some Tryz.f43) (.node .nil (some Tryz.f107) .nil)) (some Tryz.f27) (.node (.node .nil (some Tryz.f91) .nil) (some Tryz.f59) (.node .nil (some Tryz.f123) .nil))))) none (.node (.node (.node (.node (.node (.node .nil (some Tryz.f129) .nil) (some Tryz.f65) .nil) (some Tryz.f33) .nil) (some Tryz.f17) (.node (.node .nil (some Tryz.f81) .nil) (some Tryz.f49) (.node .nil (some Tryz.f113) .nil))) (some Tryz.f9) (.node (.node (.node (.node .nil (some Tryz.f137) .nil) (some Tryz.f73) .nil) (some Tryz.f41) (.node .nil (some Tryz.f105) .nil)) (some Tryz.f25) (.node (.node .nil (some Tryz.f89) .nil) (some Tryz.f57) (.node .nil (some Tryz.f121) .nil)))) (some Tryz.f5) (.node (.node (.node (.node (.node .nil (some Tryz.f133) .nil) (some Tryz.f69) .nil) (some Tryz.f37) (.node .nil (some Tryz.f101) .nil)) (some Tryz.f21) (.node (.node .nil (some Tryz.f85) .nil) none (.node .nil (some Tryz.f117) .nil))) (some Tryz.f13) (.node (.node (.node (.node .nil (some Tryz.f141) .nil) (some Tryz.f77) .nil) (some Tryz.f45) (.node .nil (some Tryz.f109) .nil)) (some Tryz.f29) (.node (.node .nil (some Tryz.f93) .nil) (some Tryz.f61) .nil))))) none (.node (.node (.node (.node (.node (.node (.node .nil (some Tryz.f128) .nil) (some Tryz.f64) .nil) (some Tryz.f32) .nil) (some Tryz.f16) (.node (.node .nil (some Tryz.f80) .nil) (some Tryz.f48) (.node .nil (some Tryz.f112) .nil))) (some Tryz.f8) (.node (.node (.node (.node .nil (some Tryz.f136) .nil) none .nil) (some Tryz.f40) (.node .nil (some Tryz.f104) .nil)) (some Tryz.f24) (.node (.node .nil (some Tryz.f88) .nil) (some Tryz.f56) (.node .nil (some Tryz.f120) .nil)))) (some Tryz.f4) (.node (.node (.node (.node (.node .nil (some Tryz.f132) .nil) (some Tryz.f68) .nil) (some Tryz.f36) (.node .nil (some Tryz.f100) .nil)) (some Tryz.f20) (.node (.node .nil (some Tryz.f84) .nil) (some Tryz.f52) (.node (.node .nil (some Tryz.f180) .nil) (some Tryz.f116) .nil))) (some Tryz.f12) (.node (.node (.node .nil (some Tryz.f76) .nil) (some Tryz.f44) (.node .nil (some Tryz.f108) .nil)) (some Tryz.f28) (.node (.node .nil (some Tryz.f92) .nil) (some Tryz.f60) (.node .nil (some Tryz.f124) .nil))))) none (.node (.node (.node (.node (.node (.node .nil (some Tryz.f130) .nil) (some Tryz.f66) .nil) (some Tryz.f34) (.node .nil (some Tryz.f98) .nil)) (some Tryz.f18) (.node .nil (some Tryz.f50) (.node .nil (some Tryz.f114) .nil))) (some Tryz.f10) (.node (.node (.node (.node .nil (some Tryz.f138) .nil) (some Tryz.f74) .nil) (some Tryz.f42) (.node .nil (some Tryz.f106) .nil)) (some Tryz.f26) (.node (.node .nil (some Tryz.f90) .nil) (some Tryz.f58) .nil))) (some Tryz.f6) (.node (.node (.node (.node (.node .nil (some Tryz.f134) .nil) none .nil) (some Tryz.f38) (.node .nil (some Tryz.f102) .nil)) (some Tryz.f22) (.node (.node .nil (some Tryz.f86) .nil) (some Tryz.f54) (.node .nil (some Tryz.f118) .nil))) (some Tryz.f14) (.node (.node (.node (.node .nil (some Tryz.f142) .nil) (some Tryz.f78) .nil) (some Tryz.f46) (.node .nil (some Tryz.f110) .nil)) (some Tryz.f30) (.node (.node .nil (some Tryz.f94) .nil) (some Tryz.f62) (.node .nil (some Tryz.f126) .nil)))))))
noncomputable def fl : List (Nat × Func) := [(3, Tryz.f3), (7, Tryz.f7), (15, Tryz.f15), (31, Tryz.f31), (63, Tryz.f63), (95, Tryz.f95), (47, Tryz.f47), (79, Tryz.f79), (111, Tryz.f111), (23, Tryz.f23), (39, Tryz.f39), (135, Tryz.f135), (103, Tryz.f103), (55, Tryz.f55), (87, Tryz.f87), (119, Tryz.f119), (11, Tryz.f11), (19, Tryz.f19), (35, Tryz.f35), (67, Tryz.f67), (131, Tryz.f131), (99, Tryz.f99), (163, Tryz.f163), (51, Tryz.f51), (83, Tryz.f83), (115, Tryz.f115), (27, Tryz.f27), (43, Tryz.f43), (75, Tryz.f75), (139, Tryz.f139), (107, Tryz.f107), (59, Tryz.f59), (91, Tryz.f91), (123, Tryz.f123), (5, Tryz.f5), (9, Tryz.f9), (17, Tryz.f17), (33, Tryz.f33), (65, Tryz.f65), (129, Tryz.f129), (49, Tryz.f49), (81, Tryz.f81), (113, Tryz.f113), (25, Tryz.f25), (41, Tryz.f41), (73, Tryz.f73), (137, Tryz.f137), (105, Tryz.f105), (57, Tryz.f57), (89, Tryz.f89), (121, Tryz.f121), (13, Tryz.f13), (21, Tryz.f21), (37, Tryz.f37), (69, Tryz.f69), (133, Tryz.f133), (101, Tryz.f101), (85, Tryz.f85), (117, Tryz.f117), (29, Tryz.f29), (45, Tryz.f45), (77, Tryz.f77), (141, Tryz.f141), (109, Tryz.f109), (61, Tryz.f61), (93, Tryz.f93), (4, Tryz.f4), (8, Tryz.f8), (16, Tryz.f16), (32, Tryz.f32), (64, Tryz.f64), (128, Tryz.f128), (48, Tryz.f48), (80, Tryz.f80), (112, Tryz.f112), (24, Tryz.f24), (40, Tryz.f40), (136, Tryz.f136), (104, Tryz.f104), (56, Tryz.f56), (88, Tryz.f88), (120, Tryz.f120), (12, Tryz.f12), (20, Tryz.f20), (36, Tryz.f36), (68, Tryz.f68), (132, Tryz.f132), (100, Tryz.f100), (52, Tryz.f52), (84, Tryz.f84), (116, Tryz.f116), (180, Tryz.f180), (28, Tryz.f28), (44, Tryz.f44), (76, Tryz.f76), (108, Tryz.f108), (60, Tryz.f60), (92, Tryz.f92), (124, Tryz.f124), (6, Tryz.f6), (10, Tryz.f10), (18, Tryz.f18), (34, Tryz.f34), (66, Tryz.f66), (130, Tryz.f130), (98, Tryz.f98), (50, Tryz.f50), (114, Tryz.f114), (26, Tryz.f26), (42, Tryz.f42), (74, Tryz.f74), (138, Tryz.f138), (106, Tryz.f106), (58, Tryz.f58), (90, Tryz.f90), (14, Tryz.f14), (22, Tryz.f22), (38, Tryz.f38), (134, Tryz.f134), (102, Tryz.f102), (54, Tryz.f54), (86, Tryz.f86), (118, Tryz.f118), (30, Tryz.f30), (46, Tryz.f46), (78, Tryz.f78), (142, Tryz.f142), (110, Tryz.f110), (62, Tryz.f62), (94, Tryz.f94), (126, Tryz.f126)]
theorem fl_eq : ft.toL 1 0 = fl := by kernel_rfl
set_option maxRecDepth 100000 in
theorem fl_ok : ∀ p ∈ fl, FOk Tryz.prog p.1 p.2 := List.forall_mem_cons.2 ⟨fn3_ok, List.forall_mem_cons.2 ⟨fn7_ok, List.forall_mem_cons.2 ⟨fn15_ok, List.forall_mem_cons.2 ⟨fn31_ok, List.forall_mem_cons.2 ⟨fn63_ok, List.forall_mem_cons.2 ⟨fn95_ok, List.forall_mem_cons.2 ⟨fn47_ok, List.forall_mem_cons.2 ⟨fn79_ok, List.forall_mem_cons.2 ⟨fn111_ok, List.forall_mem_cons.2 ⟨fn23_ok, List.forall_mem_cons.2 ⟨fn39_ok, List.forall_mem_cons.2 ⟨fn135_ok, List.forall_mem_cons.2 ⟨fn103_ok, List.forall_mem_cons.2 ⟨fn55_ok, List.forall_mem_cons.2 ⟨fn87_ok, List.forall_mem_cons.2 ⟨fn119_ok, List.forall_mem_cons.2 ⟨fn11_ok, List.forall_mem_cons.2 ⟨fn19_ok, List.forall_mem_cons.2 ⟨fn35_ok, List.forall_mem_cons.2 ⟨fn67_ok, List.forall_mem_cons.2 ⟨fn131_ok, List.forall_mem_cons.2 ⟨fn99_ok, List.forall_mem_cons.2 ⟨fn163_ok, List.forall_mem_cons.2 ⟨fn51_ok, List.forall_mem_cons.2 ⟨fn83_ok, List.forall_mem_cons.2 ⟨fn115_ok, List.forall_mem_cons.2 ⟨fn27_ok, List.forall_mem_cons.2 ⟨fn43_ok, List.forall_mem_cons.2 ⟨fn75_ok, List.forall_mem_cons.2 ⟨fn139_ok, List.forall_mem_cons.2 ⟨fn107_ok, List.forall_mem_cons.2 ⟨fn59_ok, List.forall_mem_cons.2 ⟨fn91_ok, List.forall_mem_cons.2 ⟨fn123_ok, List.forall_mem_cons.2 ⟨fn5_ok, List.forall_mem_cons.2 ⟨fn9_ok, List.forall_mem_cons.2 ⟨fn17_ok, List.forall_mem_cons.2 ⟨fn33_ok, List.forall_mem_cons.2 ⟨fn65_ok, List.forall_mem_cons.2 ⟨fn129_ok, List.forall_mem_cons.2 ⟨fn49_ok, List.forall_mem_cons.2 ⟨fn81_ok, List.forall_mem_cons.2 ⟨fn113_ok, List.forall_mem_cons.2 ⟨fn25_ok, List.forall_mem_cons.2 ⟨fn41_ok, List.forall_mem_cons.2 ⟨fn73_ok, List.forall_mem_cons.2 ⟨fn137_ok, List.forall_mem_cons.2 ⟨fn105_ok, List.forall_mem_cons.2 ⟨fn57_ok, List.forall_mem_cons.2 ⟨fn89_ok, List.forall_mem_cons.2 ⟨fn121_ok, List.forall_mem_cons.2 ⟨fn13_ok, List.forall_mem_cons.2 ⟨fn21_ok, List.forall_mem_cons.2 ⟨fn37_ok, List.forall_mem_cons.2 ⟨fn69_ok, List.forall_mem_cons.2 ⟨fn133_ok, List.forall_mem_cons.2 ⟨fn101_ok, List.forall_mem_cons.2 ⟨fn85_ok, List.forall_mem_cons.2 ⟨fn117_ok, List.forall_mem_cons.2 ⟨fn29_ok, List.forall_mem_cons.2 ⟨fn45_ok, List.forall_mem_cons.2 ⟨fn77_ok, List.forall_mem_cons.2 ⟨fn141_ok, List.forall_mem_cons.2 ⟨fn109_ok, List.forall_mem_cons.2 ⟨fn61_ok, List.forall_mem_cons.2 ⟨fn93_ok, List.forall_mem_cons.2 ⟨fn4_ok, List.forall_mem_cons.2 ⟨fn8_ok, List.forall_mem_cons.2 ⟨fn16_ok, List.forall_mem_cons.2 ⟨fn32_ok, List.forall_mem_cons.2 ⟨fn64_ok, List.forall_mem_cons.2 ⟨fn128_ok, List.forall_mem_cons.2 ⟨fn48_ok, List.forall_mem_cons.2 ⟨fn80_ok, List.forall_mem_cons.2 ⟨fn112_ok, List.forall_mem_cons.2 ⟨fn24_ok, List.forall_mem_cons.2 ⟨fn40_ok, List.forall_mem_cons.2 ⟨fn136_ok, List.forall_mem_cons.2 ⟨fn104_ok, List.forall_mem_cons.2 ⟨fn56_ok, List.forall_mem_cons.2 ⟨fn88_ok, List.forall_mem_cons.2 ⟨fn120_ok, List.forall_mem_cons.2 ⟨fn12_ok, List.forall_mem_cons.2 ⟨fn20_ok, List.forall_mem_cons.2 ⟨fn36_ok, List.forall_mem_cons.2 ⟨fn68_ok, List.forall_mem_cons.2 ⟨fn132_ok, List.forall_mem_cons.2 ⟨fn100_ok, List.forall_mem_cons.2 ⟨fn52_ok, List.forall_mem_cons.2 ⟨fn84_ok, List.forall_mem_cons.2 ⟨fn116_ok, List.forall_mem_cons.2 ⟨fn180_ok, List.forall_mem_cons.2 ⟨fn28_ok, List.forall_mem_cons.2 ⟨fn44_ok, List.forall_mem_cons.2 ⟨fn76_ok, List.forall_mem_cons.2 ⟨fn108_ok, List.forall_mem_cons.2 ⟨fn60_ok, List.forall_mem_cons.2 ⟨fn92_ok, List.forall_mem_cons.2 ⟨fn124_ok, List.forall_mem_cons.2 ⟨fn6_ok, List.forall_mem_cons.2 ⟨fn10_ok, List.forall_mem_cons.2 ⟨fn18_ok, List.forall_mem_cons.2 ⟨fn34_ok, List.forall_mem_cons.2 ⟨fn66_ok, List.forall_mem_cons.2 ⟨fn130_ok, List.forall_mem_cons.2 ⟨fn98_ok, List.forall_mem_cons.2 ⟨fn50_ok, List.forall_mem_cons.2 ⟨fn114_ok, List.forall_mem_cons.2 ⟨fn26_ok, List.forall_mem_cons.2 ⟨fn42_ok, List.forall_mem_cons.2 ⟨fn74_ok, List.forall_mem_cons.2 ⟨fn138_ok, List.forall_mem_cons.2 ⟨fn106_ok, List.forall_mem_cons.2 ⟨fn58_ok, List.forall_mem_cons.2 ⟨fn90_ok, List.forall_mem_cons.2 ⟨fn14_ok, List.forall_mem_cons.2 ⟨fn22_ok, List.forall_mem_cons.2 ⟨fn38_ok, List.forall_mem_cons.2 ⟨fn134_ok, List.forall_mem_cons.2 ⟨fn102_ok, List.forall_mem_cons.2 ⟨fn54_ok, List.forall_mem_cons.2 ⟨fn86_ok, List.forall_mem_cons.2 ⟨fn118_ok, List.forall_mem_cons.2 ⟨fn30_ok, List.forall_mem_cons.2 ⟨fn46_ok, List.forall_mem_cons.2 ⟨fn78_ok, List.forall_mem_cons.2 ⟨fn142_ok, List.forall_mem_cons.2 ⟨fn110_ok, List.forall_mem_cons.2 ⟨fn62_ok, List.forall_mem_cons.2 ⟨fn94_ok, List.forall_mem_cons.2 ⟨fn126_ok, (fun _ h => by cases h)⟩⟩⟩⟩⟩⟩⟩⟩⟩⟩⟩⟩⟩⟩⟩⟩⟩⟩⟩⟩⟩⟩⟩⟩⟩⟩⟩⟩⟩⟩⟩⟩⟩⟩⟩⟩⟩⟩⟩⟩⟩⟩⟩⟩⟩⟩⟩⟩⟩⟩⟩⟩⟩⟩⟩⟩⟩⟩⟩⟩⟩⟩⟩⟩⟩⟩⟩⟩⟩⟩⟩⟩⟩⟩⟩⟩⟩⟩⟩⟩⟩⟩⟩⟩⟩⟩⟩⟩⟩⟩⟩⟩⟩⟩⟩⟩⟩⟩⟩⟩⟩⟩⟩⟩⟩⟩⟩⟩⟩⟩⟩⟩⟩⟩⟩⟩⟩⟩⟩⟩⟩⟩⟩⟩⟩⟩⟩⟩⟩⟩⟩
theorem ft_ok : ∀ f fn, ft.get f = some fn → FOk Tryz.prog f fn := fun k i h => fl_ok (k, i) (fl_eq ▸ T.toL_get h)
noncomputable def run (lf d : Nat) : Go.Dm.Callee := callD tt.get ft.get (fun cl => draw tt.get cl) lf d
theorem env (lf d : Nat) : Env Tryz.prog tt.get (run lf d) := callD_ok tt_ok ft_ok (fun cl E => draw_ok cl E) lf d
end Go.Proofs.YthpibnpeaidabaaGreatDoor.Dm
