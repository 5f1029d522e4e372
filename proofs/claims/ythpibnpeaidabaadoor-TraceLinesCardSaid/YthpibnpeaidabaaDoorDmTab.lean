/- The types and the functions of this translation as the abstract machine has them, and that they are the program's own. -/
import Derived.Test.YthpibnpeaidabaaDoorDmD
import Derived.Test.YthpibnpeaidabaaDoorRows
namespace Go.Proofs.YthpibnpeaidabaaDoor.Dm
open Go.Dm
noncomputable def ti2 : TI := { ud := .int .i64, size := 1, bytes := 8, zero := (.int .i64 (0)), cmp := false }
theorem ti2_ok : TOk Tryd.prog 2 ti2 := TOk.of (by kernel_rfl) (by kernel_rfl) (by kernel_rfl) (by kernel_rfl) (by intro h; cases h)
noncomputable def ti3 : TI := { ud := .int .i64, size := 1, bytes := 8, zero := (.int .i64 (0)), cmp := true }
theorem ti3_ok : TOk Tryd.prog 3 ti3 := TOk.of (by kernel_rfl) (by kernel_rfl) (by kernel_rfl) (by kernel_rfl) (fun _ => ⟨by kernel_rfl, by kernel_rfl⟩)
noncomputable def ti4 : TI := { ud := .bool, size := 1, bytes := 1, zero := (.bool false), cmp := false }
theorem ti4_ok : TOk Tryd.prog 4 ti4 := TOk.of (by kernel_rfl) (by kernel_rfl) (by kernel_rfl) (by kernel_rfl) (by intro h; cases h)
noncomputable def ti5 : TI := { ud := .int .u8, size := 1, bytes := 1, zero := (.int .u8 (0)), cmp := true }
theorem ti5_ok : TOk Tryd.prog 5 ti5 := TOk.of (by kernel_rfl) (by kernel_rfl) (by kernel_rfl) (by kernel_rfl) (fun _ => ⟨by kernel_rfl, by kernel_rfl⟩)
noncomputable def ti9 : TI := { ud := .string, size := 1, bytes := 16, zero := (.string ⟨⟨[]⟩⟩), cmp := true }
theorem ti9_ok : TOk Tryd.prog 9 ti9 := TOk.of (by kernel_rfl) (by kernel_rfl) (by kernel_rfl) (by kernel_rfl) (fun _ => ⟨by kernel_rfl, by kernel_rfl⟩)
noncomputable def ti21 : TI := { ud := .int .i32, size := 1, bytes := 4, zero := (.int .i32 (0)), cmp := true }
theorem ti21_ok : TOk Tryd.prog 21 ti21 := TOk.of (by kernel_rfl) (by kernel_rfl) (by kernel_rfl) (by kernel_rfl) (fun _ => ⟨by kernel_rfl, by kernel_rfl⟩)
noncomputable def ti22 : TI := { ud := .int .u64, size := 1, bytes := 8, zero := (.int .u64 (0)), cmp := true }
theorem ti22_ok : TOk Tryd.prog 22 ti22 := TOk.of (by kernel_rfl) (by kernel_rfl) (by kernel_rfl) (by kernel_rfl) (fun _ => ⟨by kernel_rfl, by kernel_rfl⟩)
noncomputable def ti23 : TI := { ud := .int .u32, size := 1, bytes := 4, zero := (.int .u32 (0)), cmp := true }
theorem ti23_ok : TOk Tryd.prog 23 ti23 := TOk.of (by kernel_rfl) (by kernel_rfl) (by kernel_rfl) (by kernel_rfl) (fun _ => ⟨by kernel_rfl, by kernel_rfl⟩)
noncomputable def ti25 : TI := { ud := .array 4 22, size := 4, bytes := 32, zero := (.agg ⟨[(.int .u64 (0)), (.int .u64 (0)), (.int .u64 (0)), (.int .u64 (0))]⟩), cmp := true }
theorem ti25_ok : TOk Tryd.prog 25 ti25 := TOk.of (by kernel_rfl) (by kernel_rfl) (by kernel_rfl) (by kernel_rfl) (fun _ => ⟨by kernel_rfl, by kernel_rfl⟩)
noncomputable def ti27 : TI := { ud := .struct #[{ name := "At", type := 22, offset := 0, embedded := false, tag := "", pkgPath := "", byteOffset := 0 }, { name := "Kind", type := 3, offset := 1, embedded := false, tag := "", pkgPath := "", byteOffset := 8 }, { name := "Router", type := 3, offset := 2, embedded := false, tag := "", pkgPath := "", byteOffset := 16 }, { name := "Peer", type := 3, offset := 3, embedded := false, tag := "", pkgPath := "", byteOffset := 24 }, { name := "Id", type := 23, offset := 4, embedded := false, tag := "", pkgPath := "", byteOffset := 32 }, { name := "Set", type := 3, offset := 5, embedded := false, tag := "", pkgPath := "", byteOffset := 40 }, { name := "Bits", type := 25, offset := 6, embedded := false, tag := "", pkgPath := "", byteOffset := 48 }], size := 10, bytes := 80, zero := (.agg ⟨[(.int .u64 (0)), (.int .i64 (0)), (.int .i64 (0)), (.int .i64 (0)), (.int .u32 (0)), (.int .i64 (0)), (.int .u64 (0)), (.int .u64 (0)), (.int .u64 (0)), (.int .u64 (0))]⟩), cmp := true }
theorem ti27_ok : TOk Tryd.prog 27 ti27 := TOk.of (by kernel_rfl) (by kernel_rfl) (by kernel_rfl) (by kernel_rfl) (fun _ => ⟨by kernel_rfl, by kernel_rfl⟩)
noncomputable def ti28 : TI := { ud := .int .i64, size := 1, bytes := 8, zero := (.int .i64 (0)), cmp := true }
theorem ti28_ok : TOk Tryd.prog 28 ti28 := TOk.of (by kernel_rfl) (by kernel_rfl) (by kernel_rfl) (by kernel_rfl) (fun _ => ⟨by kernel_rfl, by kernel_rfl⟩)
noncomputable def ti35 : TI := { ud := .array 9 9, size := 9, bytes := 144, zero := (.agg ⟨[(.string ⟨⟨[]⟩⟩), (.string ⟨⟨[]⟩⟩), (.string ⟨⟨[]⟩⟩), (.string ⟨⟨[]⟩⟩), (.string ⟨⟨[]⟩⟩), (.string ⟨⟨[]⟩⟩), (.string ⟨⟨[]⟩⟩), (.string ⟨⟨[]⟩⟩), (.string ⟨⟨[]⟩⟩)]⟩), cmp := false }
theorem ti35_ok : TOk Tryd.prog 35 ti35 := TOk.of (by kernel_rfl) (by kernel_rfl) (by kernel_rfl) (by kernel_rfl) (by intro h; cases h)
noncomputable def ti39 : TI := { ud := .slice 9, size := 1, bytes := 24, zero := (.slice none 0 0), cmp := false }
theorem ti39_ok : TOk Tryd.prog 39 ti39 := TOk.of (by kernel_rfl) (by kernel_rfl) (by kernel_rfl) (by kernel_rfl) (by intro h; cases h)
noncomputable def ti41 : TI := { ud := .slice 3, size := 1, bytes := 24, zero := (.slice none 0 0), cmp := false }
theorem ti41_ok : TOk Tryd.prog 41 ti41 := TOk.of (by kernel_rfl) (by kernel_rfl) (by kernel_rfl) (by kernel_rfl) (by intro h; cases h)
noncomputable def ti47 : TI := { ud := .interface #[("Error", 60)], size := 1, bytes := 16, zero := .nilIface, cmp := false }
theorem ti47_ok : TOk Tryd.prog 47 ti47 := TOk.of (by kernel_rfl) (by kernel_rfl) (by kernel_rfl) (by kernel_rfl) (by intro h; cases h)
noncomputable def ti53 : TI := { ud := .pointer 56, size := 1, bytes := 8, zero := (.pointer none), cmp := true }
theorem ti53_ok : TOk Tryd.prog 53 ti53 := TOk.of (by kernel_rfl) (by kernel_rfl) (by kernel_rfl) (by kernel_rfl) (fun _ => ⟨by kernel_rfl, by kernel_rfl⟩)
noncomputable def ti54 : TI := { ud := .slice 5, size := 1, bytes := 24, zero := (.slice none 0 0), cmp := false }
theorem ti54_ok : TOk Tryd.prog 54 ti54 := TOk.of (by kernel_rfl) (by kernel_rfl) (by kernel_rfl) (by kernel_rfl) (by intro h; cases h)
noncomputable def ti56 : TI := { ud := .struct #[{ name := "addr", type := 53, offset := 0, embedded := false, tag := "", pkgPath := "strings", byteOffset := 0 }, { name := "buf", type := 54, offset := 1, embedded := false, tag := "", pkgPath := "strings", byteOffset := 8 }], size := 2, bytes := 32, zero := (.agg ⟨[(.pointer none), (.slice none 0 0)]⟩), cmp := false }
theorem ti56_ok : TOk Tryd.prog 56 ti56 := TOk.of (by kernel_rfl) (by kernel_rfl) (by kernel_rfl) (by kernel_rfl) (by intro h; cases h)
noncomputable def ti71 : TI := { ud := .array 24 5, size := 24, bytes := 24, zero := (.agg ⟨(reps 24 (.int .u8 (0)))⟩), cmp := false }
theorem ti71_ok : TOk Tryd.prog 71 ti71 := TOk.of (by kernel_rfl) (by kernel_rfl) (by kernel_rfl) (by kernel_rfl) (by intro h; cases h)
noncomputable def ti76 : TI := { ud := .pointer 5, size := 1, bytes := 8, zero := (.pointer none), cmp := false }
theorem ti76_ok : TOk Tryd.prog 76 ti76 := TOk.of (by kernel_rfl) (by kernel_rfl) (by kernel_rfl) (by kernel_rfl) (by intro h; cases h)
noncomputable def ti77 : TI := { ud := .int .u64, size := 1, bytes := 8, zero := (.int .u64 (0)), cmp := false }
theorem ti77_ok : TOk Tryd.prog 77 ti77 := TOk.of (by kernel_rfl) (by kernel_rfl) (by kernel_rfl) (by kernel_rfl) (by intro h; cases h)
noncomputable def ti79 : TI := { ud := .pointer 81, size := 1, bytes := 8, zero := (.pointer none), cmp := false }
theorem ti79_ok : TOk Tryd.prog 79 ti79 := TOk.of (by kernel_rfl) (by kernel_rfl) (by kernel_rfl) (by kernel_rfl) (by intro h; cases h)
noncomputable def ti81 : TI := { ud := .struct #[{ name := "Code", type := 28, offset := 0, embedded := false, tag := "", pkgPath := "", byteOffset := 0 }, { name := "At", type := 3, offset := 1, embedded := false, tag := "", pkgPath := "", byteOffset := 8 }], size := 2, bytes := 16, zero := (.agg ⟨[(.int .i64 (0)), (.int .i64 (0))]⟩), cmp := false }
theorem ti81_ok : TOk Tryd.prog 81 ti81 := TOk.of (by kernel_rfl) (by kernel_rfl) (by kernel_rfl) (by kernel_rfl) (by intro h; cases h)
noncomputable def ti88 : TI := { ud := .array 20 22, size := 20, bytes := 160, zero := (.agg ⟨(reps 20 (.int .u64 (0)))⟩), cmp := false }
theorem ti88_ok : TOk Tryd.prog 88 ti88 := TOk.of (by kernel_rfl) (by kernel_rfl) (by kernel_rfl) (by kernel_rfl) (by intro h; cases h)
noncomputable def ti89 : TI := { ud := .array 65 5, size := 65, bytes := 65, zero := (.agg ⟨(reps 65 (.int .u8 (0)))⟩), cmp := false }
theorem ti89_ok : TOk Tryd.prog 89 ti89 := TOk.of (by kernel_rfl) (by kernel_rfl) (by kernel_rfl) (by kernel_rfl) (by intro h; cases h)
noncomputable def ti91 : TI := { ud := .array 64 5, size := 64, bytes := 64, zero := (.agg ⟨(reps 64 (.int .u8 (0)))⟩), cmp := false }
theorem ti91_ok : TOk Tryd.prog 91 ti91 := TOk.of (by kernel_rfl) (by kernel_rfl) (by kernel_rfl) (by kernel_rfl) (by intro h; cases h)
noncomputable def ti105 : TI := { ud := .int .i64, size := 1, bytes := 8, zero := (.int .i64 (0)), cmp := false }
theorem ti105_ok : TOk Tryd.prog 105 ti105 := TOk.of (by kernel_rfl) (by kernel_rfl) (by kernel_rfl) (by kernel_rfl) (by intro h; cases h)
noncomputable def ti108 : TI := { ud := .pointer 116, size := 1, bytes := 8, zero := (.pointer none), cmp := false }
theorem ti108_ok : TOk Tryd.prog 108 ti108 := TOk.of (by kernel_rfl) (by kernel_rfl) (by kernel_rfl) (by kernel_rfl) (by intro h; cases h)
noncomputable def ti113 : TI := { ud := .array 32 5, size := 32, bytes := 32, zero := (.agg ⟨(reps 32 (.int .u8 (0)))⟩), cmp := false }
theorem ti113_ok : TOk Tryd.prog 113 ti113 := TOk.of (by kernel_rfl) (by kernel_rfl) (by kernel_rfl) (by kernel_rfl) (by intro h; cases h)
noncomputable def ti116 : TI := { ud := .struct #[{ name := "Func", type := 9, offset := 0, embedded := false, tag := "", pkgPath := "", byteOffset := 0 }, { name := "Num", type := 9, offset := 1, embedded := false, tag := "", pkgPath := "", byteOffset := 16 }, { name := "Err", type := 47, offset := 2, embedded := false, tag := "", pkgPath := "", byteOffset := 32 }], size := 3, bytes := 48, zero := (.agg ⟨[(.string ⟨⟨[]⟩⟩), (.string ⟨⟨[]⟩⟩), .nilIface]⟩), cmp := false }
theorem ti116_ok : TOk Tryd.prog 116 ti116 := TOk.of (by kernel_rfl) (by kernel_rfl) (by kernel_rfl) (by kernel_rfl) (by intro h; cases h)
noncomputable def ti118 : TI := { ud := .array 256 5, size := 256, bytes := 256, zero := (.agg ⟨(reps 256 (.int .u8 (0)))⟩), cmp := false }
theorem ti118_ok : TOk Tryd.prog 118 ti118 := TOk.of (by kernel_rfl) (by kernel_rfl) (by kernel_rfl) (by kernel_rfl) (by intro h; cases h)
noncomputable def ti120 : TI := { ud := .struct #[{ name := "lo", type := 5, offset := 0, embedded := false, tag := "", pkgPath := "unicode/utf8", byteOffset := 0 }, { name := "hi", type := 5, offset := 1, embedded := false, tag := "", pkgPath := "unicode/utf8", byteOffset := 1 }], size := 2, bytes := 2, zero := (.agg ⟨[(.int .u8 (0)), (.int .u8 (0))]⟩), cmp := false }
theorem ti120_ok : TOk Tryd.prog 120 ti120 := TOk.of (by kernel_rfl) (by kernel_rfl) (by kernel_rfl) (by kernel_rfl) (by intro h; cases h)
noncomputable def ti121 : TI := { ud := .array 16 120, size := 32, bytes := 32, zero := (.agg ⟨(reps 32 (.int .u8 (0)))⟩), cmp := false }
theorem ti121_ok : TOk Tryd.prog 121 ti121 := TOk.of (by kernel_rfl) (by kernel_rfl) (by kernel_rfl) (by kernel_rfl) (by intro h; cases h)
noncomputable def ti124 : TI := { ud := .pointer 126, size := 1, bytes := 8, zero := (.pointer none), cmp := false }
theorem ti124_ok : TOk Tryd.prog 124 ti124 := TOk.of (by kernel_rfl) (by kernel_rfl) (by kernel_rfl) (by kernel_rfl) (by intro h; cases h)
noncomputable def ti126 : TI := { ud := .struct #[{ name := "s", type := 9, offset := 0, embedded := false, tag := "", pkgPath := "errors", byteOffset := 0 }], size := 1, bytes := 16, zero := (.agg ⟨[(.string ⟨⟨[]⟩⟩)]⟩), cmp := false }
theorem ti126_ok : TOk Tryd.prog 126 ti126 := TOk.of (by kernel_rfl) (by kernel_rfl) (by kernel_rfl) (by kernel_rfl) (by intro h; cases h)
noncomputable def tt : T TI := (.node (.node (.node (.node (.node .nil none (.node (.node .nil (some ti79) .nil) (some ti47) .nil)) none (.node (.node (.node .nil (some ti71) .nil) (some ti39) .nil) (some ti23) .nil)) (some ti3) (.node (.node (.node .nil (some ti35) .nil) none .nil) none (.node .nil (some ti27) (.node (.node .nil (some ti91) .nil) none .nil)))) none (.node (.node (.node .nil none (.node (.node .nil (some ti81) .nil) none (.node .nil (some ti113) .nil))) (some ti9) (.node (.node .nil (some ti41) (.node .nil (some ti105) .nil)) (some ti25) (.node (.node .nil (some ti89) .nil) none (.node .nil (some ti121) .nil)))) (some ti5) (.node (.node .nil (some ti21) (.node .nil (some ti53) .nil)) none (.node (.node (.node .nil (some ti77) .nil) none .nil) none .nil)))) none (.node (.node (.node .nil none (.node .nil none (.node (.node .nil (some ti88) .nil) (some ti56) (.node .nil (some ti120) .nil)))) (some ti4) (.node (.node .nil none (.node .nil none (.node .nil (some ti116) .nil))) none (.node (.node (.node .nil (some ti76) .nil) none (.node .nil (some ti108) .nil)) (some ti28) (.node .nil none (.node .nil (some ti124) .nil))))) (some ti2) (.node .nil none (.node (.node .nil (some ti22) (.node .nil (some ti54) (.node .nil (some ti118) .nil))) none (.node .nil none (.node .nil none (.node .nil (some ti126) .nil)))))))
noncomputable def tl : List (Nat × TI) := [(3, ti3), (47, ti47), (79, ti79), (23, ti23), (39, ti39), (71, ti71), (35, ti35), (27, ti27), (91, ti91), (5, ti5), (9, ti9), (81, ti81), (113, ti113), (25, ti25), (41, ti41), (105, ti105), (89, ti89), (121, ti121), (21, ti21), (53, ti53), (77, ti77), (2, ti2), (4, ti4), (56, ti56), (88, ti88), (120, ti120), (116, ti116), (28, ti28), (76, ti76), (108, ti108), (124, ti124), (22, ti22), (54, ti54), (118, ti118), (126, ti126)]
theorem tl_eq : tt.toL 1 0 = tl := by kernel_rfl
set_option maxRecDepth 100000 in
theorem tl_ok : ∀ p ∈ tl, TOk Tryd.prog p.1 p.2 := List.forall_mem_cons.2 ⟨ti3_ok, List.forall_mem_cons.2 ⟨ti47_ok, List.forall_mem_cons.2 ⟨ti79_ok, List.forall_mem_cons.2 ⟨ti23_ok, List.forall_mem_cons.2 ⟨ti39_ok, List.forall_mem_cons.2 ⟨ti71_ok, List.forall_mem_cons.2 ⟨ti35_ok, List.forall_mem_cons.2 ⟨ti27_ok, List.forall_mem_cons.2 ⟨ti91_ok, List.forall_mem_cons.2 ⟨ti5_ok, List.forall_mem_cons.2 ⟨ti9_ok, List.forall_mem_cons.2 ⟨ti81_ok, List.forall_mem_cons.2 ⟨ti113_ok, List.forall_mem_cons.2 ⟨ti25_ok, List.forall_mem_cons.2 ⟨ti41_ok, List.forall_mem_cons.2 ⟨ti105_ok, List.forall_mem_cons.2 ⟨ti89_ok, List.forall_mem_cons.2 ⟨ti121_ok, List.forall_mem_cons.2 ⟨ti21_ok, List.forall_mem_cons.2 ⟨ti53_ok, List.forall_mem_cons.2 ⟨ti77_ok, List.forall_mem_cons.2 ⟨ti2_ok, List.forall_mem_cons.2 ⟨ti4_ok, List.forall_mem_cons.2 ⟨ti56_ok, List.forall_mem_cons.2 ⟨ti88_ok, List.forall_mem_cons.2 ⟨ti120_ok, List.forall_mem_cons.2 ⟨ti116_ok, List.forall_mem_cons.2 ⟨ti28_ok, List.forall_mem_cons.2 ⟨ti76_ok, List.forall_mem_cons.2 ⟨ti108_ok, List.forall_mem_cons.2 ⟨ti124_ok, List.forall_mem_cons.2 ⟨ti22_ok, List.forall_mem_cons.2 ⟨ti54_ok, List.forall_mem_cons.2 ⟨ti118_ok, List.forall_mem_cons.2 ⟨ti126_ok, (fun _ h => by cases h)⟩⟩⟩⟩⟩⟩⟩⟩⟩⟩⟩⟩⟩⟩⟩⟩⟩⟩⟩⟩⟩⟩⟩⟩⟩⟩⟩⟩⟩⟩⟩⟩⟩⟩⟩
theorem tt_ok : TTOk Tryd.prog tt.get := fun k i h => tl_ok (k, i) (tl_eq ▸ T.toL_get h)
theorem fn3_ok : FOk Tryd.prog 3 Tryd.f3 := ⟨⟨Tryd.func3, by kernel_rfl, by kernel_rfl⟩, FOk.code_of (by kernel_rfl)⟩
theorem fn4_ok : FOk Tryd.prog 4 Tryd.f4 := ⟨⟨Tryd.func4, by kernel_rfl, by kernel_rfl⟩, FOk.code_of (by kernel_rfl)⟩
theorem fn5_ok : FOk Tryd.prog 5 Tryd.f5 := ⟨⟨Tryd.func5, by kernel_rfl, by kernel_rfl⟩, FOk.code_of (by kernel_rfl)⟩
theorem fn6_ok : FOk Tryd.prog 6 Tryd.f6 := ⟨⟨Tryd.func6, by kernel_rfl, by kernel_rfl⟩, FOk.code_of (by kernel_rfl)⟩
theorem fn7_ok : FOk Tryd.prog 7 Tryd.f7 := ⟨⟨Tryd.func7, by kernel_rfl, by kernel_rfl⟩, FOk.code_of (by kernel_rfl)⟩
theorem fn8_ok : FOk Tryd.prog 8 Tryd.f8 := ⟨⟨Tryd.func8, by kernel_rfl, by kernel_rfl⟩, FOk.code_of (by kernel_rfl)⟩
theorem fn9_ok : FOk Tryd.prog 9 Tryd.f9 := ⟨⟨Tryd.func9, by kernel_rfl, by kernel_rfl⟩, FOk.code_of (by kernel_rfl)⟩
theorem fn10_ok : FOk Tryd.prog 10 Tryd.f10 := ⟨⟨Tryd.func10, by kernel_rfl, by kernel_rfl⟩, FOk.code_of (by kernel_rfl)⟩
theorem fn11_ok : FOk Tryd.prog 11 Tryd.f11 := ⟨⟨Tryd.func11, by kernel_rfl, by kernel_rfl⟩, FOk.code_of (by kernel_rfl)⟩
theorem fn12_ok : FOk Tryd.prog 12 Tryd.f12 := ⟨⟨Tryd.func12, by kernel_rfl, by kernel_rfl⟩, FOk.code_of (by kernel_rfl)⟩
theorem fn13_ok : FOk Tryd.prog 13 Tryd.f13 := ⟨⟨Tryd.func13, by kernel_rfl, by kernel_rfl⟩, FOk.code_of (by kernel_rfl)⟩
theorem fn14_ok : FOk Tryd.prog 14 Tryd.f14 := ⟨⟨Tryd.func14, by kernel_rfl, by kernel_rfl⟩, FOk.code_of (by kernel_rfl)⟩
theorem fn15_ok : FOk Tryd.prog 15 Tryd.f15 := ⟨⟨Tryd.func15, by kernel_rfl, by kernel_rfl⟩, FOk.code_of (by kernel_rfl)⟩
theorem fn16_ok : FOk Tryd.prog 16 Tryd.f16 := ⟨⟨Tryd.func16, by kernel_rfl, by kernel_rfl⟩, FOk.code_of (by kernel_rfl)⟩
theorem fn17_ok : FOk Tryd.prog 17 Tryd.f17 := ⟨⟨Tryd.func17, by kernel_rfl, by kernel_rfl⟩, FOk.code_of (by kernel_rfl)⟩
theorem fn18_ok : FOk Tryd.prog 18 Tryd.f18 := ⟨⟨Tryd.func18, by kernel_rfl, by kernel_rfl⟩, FOk.code_of (by kernel_rfl)⟩
theorem fn19_ok : FOk Tryd.prog 19 Tryd.f19 := ⟨⟨Tryd.func19, by kernel_rfl, by kernel_rfl⟩, FOk.code_of (by kernel_rfl)⟩
theorem fn20_ok : FOk Tryd.prog 20 Tryd.f20 := ⟨⟨Tryd.func20, by kernel_rfl, by kernel_rfl⟩, FOk.code_of (by kernel_rfl)⟩
theorem fn21_ok : FOk Tryd.prog 21 Tryd.f21 := ⟨⟨Tryd.func21, by kernel_rfl, by kernel_rfl⟩, FOk.code_of (by kernel_rfl)⟩
theorem fn22_ok : FOk Tryd.prog 22 Tryd.f22 := ⟨⟨Tryd.func22, by kernel_rfl, by kernel_rfl⟩, FOk.code_of (by kernel_rfl)⟩
theorem fn23_ok : FOk Tryd.prog 23 Tryd.f23 := ⟨⟨Tryd.func23, by kernel_rfl, by kernel_rfl⟩, FOk.code_of (by kernel_rfl)⟩
theorem fn24_ok : FOk Tryd.prog 24 Tryd.f24 := ⟨⟨Tryd.func24, by kernel_rfl, by kernel_rfl⟩, FOk.code_of (by kernel_rfl)⟩
theorem fn25_ok : FOk Tryd.prog 25 Tryd.f25 := ⟨⟨Tryd.func25, by kernel_rfl, by kernel_rfl⟩, FOk.code_of (by kernel_rfl)⟩
theorem fn26_ok : FOk Tryd.prog 26 Tryd.f26 := ⟨⟨Tryd.func26, by kernel_rfl, by kernel_rfl⟩, FOk.code_of (by kernel_rfl)⟩
theorem fn27_ok : FOk Tryd.prog 27 Tryd.f27 := ⟨⟨Tryd.func27, by kernel_rfl, by kernel_rfl⟩, FOk.code_of (by kernel_rfl)⟩
theorem fn28_ok : FOk Tryd.prog 28 Tryd.f28 := ⟨⟨Tryd.func28, by kernel_rfl, by kernel_rfl⟩, FOk.code_of (by kernel_rfl)⟩
theorem fn29_ok : FOk Tryd.prog 29 Tryd.f29 := ⟨⟨Tryd.func29, by kernel_rfl, by kernel_rfl⟩, FOk.code_of (by kernel_rfl)⟩
theorem fn30_ok : FOk Tryd.prog 30 Tryd.f30 := ⟨⟨Tryd.func30, by kernel_rfl, by kernel_rfl⟩, FOk.code_of (by kernel_rfl)⟩
theorem fn31_ok : FOk Tryd.prog 31 Tryd.f31 := ⟨⟨Tryd.func31, by kernel_rfl, by kernel_rfl⟩, FOk.code_of (by kernel_rfl)⟩
theorem fn32_ok : FOk Tryd.prog 32 Tryd.f32 := ⟨⟨Tryd.func32, by kernel_rfl, by kernel_rfl⟩, FOk.code_of (by kernel_rfl)⟩
theorem fn33_ok : FOk Tryd.prog 33 Tryd.f33 := ⟨⟨Tryd.func33, by kernel_rfl, by kernel_rfl⟩, FOk.code_of (by kernel_rfl)⟩
theorem fn34_ok : FOk Tryd.prog 34 Tryd.f34 := ⟨⟨Tryd.func34, by kernel_rfl, by kernel_rfl⟩, FOk.code_of (by kernel_rfl)⟩
theorem fn35_ok : FOk Tryd.prog 35 Tryd.f35 := ⟨⟨Tryd.func35, by kernel_rfl, by kernel_rfl⟩, FOk.code_of (by kernel_rfl)⟩
theorem fn36_ok : FOk Tryd.prog 36 Tryd.f36 := ⟨⟨Tryd.func36, by kernel_rfl, by kernel_rfl⟩, FOk.code_of (by kernel_rfl)⟩
theorem fn37_ok : FOk Tryd.prog 37 Tryd.f37 := ⟨⟨Tryd.func37, by kernel_rfl, by kernel_rfl⟩, FOk.code_of (by kernel_rfl)⟩
theorem fn38_ok : FOk Tryd.prog 38 Tryd.f38 := ⟨⟨Tryd.func38, by kernel_rfl, by kernel_rfl⟩, FOk.code_of (by kernel_rfl)⟩
theorem fn39_ok : FOk Tryd.prog 39 Tryd.f39 := ⟨⟨Tryd.func39, by kernel_rfl, by kernel_rfl⟩, FOk.code_of (by kernel_rfl)⟩
theorem fn40_ok : FOk Tryd.prog 40 Tryd.f40 := ⟨⟨Tryd.func40, by kernel_rfl, by kernel_rfl⟩, FOk.code_of (by kernel_rfl)⟩
theorem fn41_ok : FOk Tryd.prog 41 Tryd.f41 := ⟨⟨Tryd.func41, by kernel_rfl, by kernel_rfl⟩, FOk.code_of (by kernel_rfl)⟩
theorem fn42_ok : FOk Tryd.prog 42 Tryd.f42 := ⟨⟨Tryd.func42, by kernel_rfl, by kernel_rfl⟩, FOk.code_of (by kernel_rfl)⟩
theorem fn43_ok : FOk Tryd.prog 43 Tryd.f43 := ⟨⟨Tryd.func43, by kernel_rfl, by kernel_rfl⟩, FOk.code_of (by kernel_rfl)⟩
theorem fn44_ok : FOk Tryd.prog 44 Tryd.f44 := ⟨⟨Tryd.func44, by kernel_rfl, by kernel_rfl⟩, FOk.code_of (by kernel_rfl)⟩
theorem fn45_ok : FOk Tryd.prog 45 Tryd.f45 := ⟨⟨Tryd.func45, by kernel_rfl, by kernel_rfl⟩, FOk.code_of (by kernel_rfl)⟩
theorem fn46_ok : FOk Tryd.prog 46 Tryd.f46 := ⟨⟨Tryd.func46, by kernel_rfl, by kernel_rfl⟩, FOk.code_of (by kernel_rfl)⟩
theorem fn47_ok : FOk Tryd.prog 47 Tryd.f47 := ⟨⟨Tryd.func47, by kernel_rfl, by kernel_rfl⟩, FOk.code_of (by kernel_rfl)⟩
theorem fn48_ok : FOk Tryd.prog 48 Tryd.f48 := ⟨⟨Tryd.func48, by kernel_rfl, by kernel_rfl⟩, FOk.code_of (by kernel_rfl)⟩
theorem fn49_ok : FOk Tryd.prog 49 Tryd.f49 := ⟨⟨Tryd.func49, by kernel_rfl, by kernel_rfl⟩, FOk.code_of (by kernel_rfl)⟩
theorem fn50_ok : FOk Tryd.prog 50 Tryd.f50 := ⟨⟨Tryd.func50, by kernel_rfl, by kernel_rfl⟩, FOk.code_of (by kernel_rfl)⟩
theorem fn51_ok : FOk Tryd.prog 51 Tryd.f51 := ⟨⟨Tryd.func51, by kernel_rfl, by kernel_rfl⟩, FOk.code_of (by kernel_rfl)⟩
theorem fn52_ok : FOk Tryd.prog 52 Tryd.f52 := ⟨⟨Tryd.func52, by kernel_rfl, by kernel_rfl⟩, FOk.code_of (by kernel_rfl)⟩
theorem fn53_ok : FOk Tryd.prog 53 Tryd.f53 := ⟨⟨Tryd.func53, by kernel_rfl, by kernel_rfl⟩, FOk.code_of (by kernel_rfl)⟩
theorem fn54_ok : FOk Tryd.prog 54 Tryd.f54 := ⟨⟨Tryd.func54, by kernel_rfl, by kernel_rfl⟩, FOk.code_of (by kernel_rfl)⟩
theorem fn55_ok : FOk Tryd.prog 55 Tryd.f55 := ⟨⟨Tryd.func55, by kernel_rfl, by kernel_rfl⟩, FOk.code_of (by kernel_rfl)⟩
theorem fn56_ok : FOk Tryd.prog 56 Tryd.f56 := ⟨⟨Tryd.func56, by kernel_rfl, by kernel_rfl⟩, FOk.code_of (by kernel_rfl)⟩
theorem fn59_ok : FOk Tryd.prog 59 Tryd.f59 := ⟨⟨Tryd.func59, by kernel_rfl, by kernel_rfl⟩, FOk.code_of (by kernel_rfl)⟩
theorem fn60_ok : FOk Tryd.prog 60 Tryd.f60 := ⟨⟨Tryd.func60, by kernel_rfl, by kernel_rfl⟩, FOk.code_of (by kernel_rfl)⟩
theorem fn61_ok : FOk Tryd.prog 61 Tryd.f61 := ⟨⟨Tryd.func61, by kernel_rfl, by kernel_rfl⟩, FOk.code_of (by kernel_rfl)⟩
theorem fn62_ok : FOk Tryd.prog 62 Tryd.f62 := ⟨⟨Tryd.func62, by kernel_rfl, by kernel_rfl⟩, FOk.code_of (by kernel_rfl)⟩
theorem fn63_ok : FOk Tryd.prog 63 Tryd.f63 := ⟨⟨Tryd.func63, by kernel_rfl, by kernel_rfl⟩, FOk.code_of (by kernel_rfl)⟩
theorem fn64_ok : FOk Tryd.prog 64 Tryd.f64 := ⟨⟨Tryd.func64, by kernel_rfl, by kernel_rfl⟩, FOk.code_of (by kernel_rfl)⟩
theorem fn65_ok : FOk Tryd.prog 65 Tryd.f65 := ⟨⟨Tryd.func65, by kernel_rfl, by kernel_rfl⟩, FOk.code_of (by kernel_rfl)⟩
theorem fn66_ok : FOk Tryd.prog 66 Tryd.f66 := ⟨⟨Tryd.func66, by kernel_rfl, by kernel_rfl⟩, FOk.code_of (by kernel_rfl)⟩
theorem fn67_ok : FOk Tryd.prog 67 Tryd.f67 := ⟨⟨Tryd.func67, by kernel_rfl, by kernel_rfl⟩, FOk.code_of (by kernel_rfl)⟩
theorem fn68_ok : FOk Tryd.prog 68 Tryd.f68 := ⟨⟨Tryd.func68, by kernel_rfl, by kernel_rfl⟩, FOk.code_of (by kernel_rfl)⟩
theorem fn70_ok : FOk Tryd.prog 70 Tryd.f70 := ⟨⟨Tryd.func70, by kernel_rfl, by kernel_rfl⟩, FOk.code_of (by kernel_rfl)⟩
theorem fn71_ok : FOk Tryd.prog 71 Tryd.f71 := ⟨⟨Tryd.func71, by kernel_rfl, by kernel_rfl⟩, FOk.code_of (by kernel_rfl)⟩
theorem fn72_ok : FOk Tryd.prog 72 Tryd.f72 := ⟨⟨Tryd.func72, by kernel_rfl, by kernel_rfl⟩, FOk.code_of (by kernel_rfl)⟩
theorem fn73_ok : FOk Tryd.prog 73 Tryd.f73 := ⟨⟨Tryd.func73, by kernel_rfl, by kernel_rfl⟩, FOk.code_of (by kernel_rfl)⟩
theorem fn74_ok : FOk Tryd.prog 74 Tryd.f74 := ⟨⟨Tryd.func74, by kernel_rfl, by kernel_rfl⟩, FOk.code_of (by kernel_rfl)⟩
theorem fn75_ok : FOk Tryd.prog 75 Tryd.f75 := ⟨⟨Tryd.func75, by kernel_rfl, by kernel_rfl⟩, FOk.code_of (by kernel_rfl)⟩
theorem fn76_ok : FOk Tryd.prog 76 Tryd.f76 := ⟨⟨Tryd.func76, by kernel_rfl, by kernel_rfl⟩, FOk.code_of (by kernel_rfl)⟩
theorem fn77_ok : FOk Tryd.prog 77 Tryd.f77 := ⟨⟨Tryd.func77, by kernel_rfl, by kernel_rfl⟩, FOk.code_of (by kernel_rfl)⟩
theorem fn78_ok : FOk Tryd.prog 78 Tryd.f78 := ⟨⟨Tryd.func78, by kernel_rfl, by kernel_rfl⟩, FOk.code_of (by kernel_rfl)⟩
theorem fn79_ok : FOk Tryd.prog 79 Tryd.f79 := ⟨⟨Tryd.func79, by kernel_rfl, by kernel_rfl⟩, FOk.code_of (by kernel_rfl)⟩
theorem fn81_ok : FOk Tryd.prog 81 Tryd.f81 := ⟨⟨Tryd.func81, by kernel_rfl, by kernel_rfl⟩, FOk.code_of (by kernel_rfl)⟩
theorem fn82_ok : FOk Tryd.prog 82 Tryd.f82 := ⟨⟨Tryd.func82, by kernel_rfl, by kernel_rfl⟩, FOk.code_of (by kernel_rfl)⟩
theorem fn83_ok : FOk Tryd.prog 83 Tryd.f83 := ⟨⟨Tryd.func83, by kernel_rfl, by kernel_rfl⟩, FOk.code_of (by kernel_rfl)⟩
theorem fn84_ok : FOk Tryd.prog 84 Tryd.f84 := ⟨⟨Tryd.func84, by kernel_rfl, by kernel_rfl⟩, FOk.code_of (by kernel_rfl)⟩
theorem fn86_ok : FOk Tryd.prog 86 Tryd.f86 := ⟨⟨Tryd.func86, by kernel_rfl, by kernel_rfl⟩, FOk.code_of (by kernel_rfl)⟩
noncomputable def ft : T Func := (.node (.node (.node (.node (.node (.node (.node .nil (some Tryd.f63) .nil) (some Tryd.f31) .nil) (some Tryd.f15) (.node (.node .nil (some Tryd.f79) .nil) (some Tryd.f47) .nil)) (some Tryd.f7) (.node (.node (.node .nil (some Tryd.f71) .nil) (some Tryd.f39) .nil) (some Tryd.f23) (.node .nil (some Tryd.f55) .nil))) (some Tryd.f3) (.node (.node (.node (.node .nil (some Tryd.f67) .nil) (some Tryd.f35) .nil) (some Tryd.f19) (.node (.node .nil (some Tryd.f83) .nil) (some Tryd.f51) .nil)) (some Tryd.f11) (.node (.node (.node .nil (some Tryd.f75) .nil) (some Tryd.f43) .nil) (some Tryd.f27) (.node .nil (some Tryd.f59) .nil)))) none (.node (.node (.node (.node (.node .nil (some Tryd.f65) .nil) (some Tryd.f33) .nil) (some Tryd.f17) (.node (.node .nil (some Tryd.f81) .nil) (some Tryd.f49) .nil)) (some Tryd.f9) (.node (.node (.node .nil (some Tryd.f73) .nil) (some Tryd.f41) .nil) (some Tryd.f25) .nil)) (some Tryd.f5) (.node (.node (.node .nil (some Tryd.f37) .nil) (some Tryd.f21) (.node .nil (some Tryd.f53) .nil)) (some Tryd.f13) (.node (.node (.node .nil (some Tryd.f77) .nil) (some Tryd.f45) .nil) (some Tryd.f29) (.node .nil (some Tryd.f61) .nil))))) none (.node (.node (.node (.node (.node (.node .nil (some Tryd.f64) .nil) (some Tryd.f32) .nil) (some Tryd.f16) (.node .nil (some Tryd.f48) .nil)) (some Tryd.f8) (.node (.node (.node .nil (some Tryd.f72) .nil) (some Tryd.f40) .nil) (some Tryd.f24) (.node .nil (some Tryd.f56) .nil))) (some Tryd.f4) (.node (.node (.node (.node .nil (some Tryd.f68) .nil) (some Tryd.f36) .nil) (some Tryd.f20) (.node (.node .nil (some Tryd.f84) .nil) (some Tryd.f52) .nil)) (some Tryd.f12) (.node (.node (.node .nil (some Tryd.f76) .nil) (some Tryd.f44) .nil) (some Tryd.f28) (.node .nil (some Tryd.f60) .nil)))) none (.node (.node (.node (.node (.node .nil (some Tryd.f66) .nil) (some Tryd.f34) .nil) (some Tryd.f18) (.node (.node .nil (some Tryd.f82) .nil) (some Tryd.f50) .nil)) (some Tryd.f10) (.node (.node (.node .nil (some Tryd.f74) .nil) (some Tryd.f42) .nil) (some Tryd.f26) .nil)) (some Tryd.f6) (.node (.node (.node (.node .nil (some Tryd.f70) .nil) (some Tryd.f38) .nil) (some Tryd.f22) (.node (.node .nil (some Tryd.f86) .nil) (some Tryd.f54) .nil)) (some Tryd.f14) (.node (.node (.node .nil (some Tryd.f78) .nil) (some Tryd.f46) .nil) (some Tryd.f30) (.node .nil (some Tryd.f62) .nil))))))
noncomputable def fl : List (Nat × Func) := [(3, Tryd.f3), (7, Tryd.f7), (15, Tryd.f15), (31, Tryd.f31), (63, Tryd.f63), (47, Tryd.f47), (79, Tryd.f79), (23, Tryd.f23), (39, Tryd.f39), (71, Tryd.f71), (55, Tryd.f55), (11, Tryd.f11), (19, Tryd.f19), (35, Tryd.f35), (67, Tryd.f67), (51, Tryd.f51), (83, Tryd.f83), (27, Tryd.f27), (43, Tryd.f43), (75, Tryd.f75), (59, Tryd.f59), (5, Tryd.f5), (9, Tryd.f9), (17, Tryd.f17), (33, Tryd.f33), (65, Tryd.f65), (49, Tryd.f49), (81, Tryd.f81), (25, Tryd.f25), (41, Tryd.f41), (73, Tryd.f73), (13, Tryd.f13), (21, Tryd.f21), (37, Tryd.f37), (53, Tryd.f53), (29, Tryd.f29), (45, Tryd.f45), (77, Tryd.f77), (61, Tryd.f61), (4, Tryd.f4), (8, Tryd.f8), (16, Tryd.f16), (32, Tryd.f32), (64, Tryd.f64), (48, Tryd.f48), (24, Tryd.f24), (40, Tryd.f40), (72, Tryd.f72), (56, Tryd.f56), (12, Tryd.f12), (20, Tryd.f20), (36, Tryd.f36), (68, Tryd.f68), (52, Tryd.f52), (84, Tryd.f84), (28, Tryd.f28), (44, Tryd.f44), (76, Tryd.f76), (60, Tryd.f60), (6, Tryd.f6), (10, Tryd.f10), (18, Tryd.f18), (34, Tryd.f34), (66, Tryd.f66), (50, Tryd.f50), (82, Tryd.f82), (26, Tryd.f26), (42, Tryd.f42), (74, Tryd.f74), (14, Tryd.f14), (22, Tryd.f22), (38, Tryd.f38), (70, Tryd.f70), (54, Tryd.f54), (86, Tryd.f86), (30, Tryd.f30), (46, Tryd.f46), (78, Tryd.f78), (62, Tryd.f62)]
theorem fl_eq : ft.toL 1 0 = fl := by kernel_rfl
set_option maxRecDepth 100000 in
theorem fl_ok : ∀ p ∈ fl, FOk Tryd.prog p.1 p.2 := List.forall_mem_cons.2 ⟨fn3_ok, List.forall_mem_cons.2 ⟨fn7_ok, List.forall_mem_cons.2 ⟨fn15_ok, List.forall_mem_cons.2 ⟨fn31_ok, List.forall_mem_cons.2 ⟨fn63_ok, List.forall_mem_cons.2 ⟨fn47_ok, List.forall_mem_cons.2 ⟨fn79_ok, List.forall_mem_cons.2 ⟨fn23_ok, List.forall_mem_cons.2 ⟨fn39_ok, List.forall_mem_cons.2 ⟨fn71_ok, List.forall_mem_cons.2 ⟨fn55_ok, List.forall_mem_cons.2 ⟨fn11_ok, List.forall_mem_cons.2 ⟨fn19_ok, List.forall_mem_cons.2 ⟨fn35_ok, List.forall_mem_cons.2 ⟨fn67_ok, List.forall_mem_cons.2 ⟨fn51_ok, List.forall_mem_cons.2 ⟨fn83_ok, List.forall_mem_cons.2 ⟨fn27_ok, List.forall_mem_cons.2 ⟨fn43_ok, List.forall_mem_cons.2 ⟨fn75_ok, List.forall_mem_cons.2 ⟨fn59_ok, List.forall_mem_cons.2 ⟨fn5_ok, List.forall_mem_cons.2 ⟨fn9_ok, List.forall_mem_cons.2 ⟨fn17_ok, List.forall_mem_cons.2 ⟨fn33_ok, List.forall_mem_cons.2 ⟨fn65_ok, List.forall_mem_cons.2 ⟨fn49_ok, List.forall_mem_cons.2 ⟨fn81_ok, List.forall_mem_cons.2 ⟨fn25_ok, List.forall_mem_cons.2 ⟨fn41_ok, List.forall_mem_cons.2 ⟨fn73_ok, List.forall_mem_cons.2 ⟨fn13_ok, List.forall_mem_cons.2 ⟨fn21_ok, List.forall_mem_cons.2 ⟨fn37_ok, List.forall_mem_cons.2 ⟨fn53_ok, List.forall_mem_cons.2 ⟨fn29_ok, List.forall_mem_cons.2 ⟨fn45_ok, List.forall_mem_cons.2 ⟨fn77_ok, List.forall_mem_cons.2 ⟨fn61_ok, List.forall_mem_cons.2 ⟨fn4_ok, List.forall_mem_cons.2 ⟨fn8_ok, List.forall_mem_cons.2 ⟨fn16_ok, List.forall_mem_cons.2 ⟨fn32_ok, List.forall_mem_cons.2 ⟨fn64_ok, List.forall_mem_cons.2 ⟨fn48_ok, List.forall_mem_cons.2 ⟨fn24_ok, List.forall_mem_cons.2 ⟨fn40_ok, List.forall_mem_cons.2 ⟨fn72_ok, List.forall_mem_cons.2 ⟨fn56_ok, List.forall_mem_cons.2 ⟨fn12_ok, List.forall_mem_cons.2 ⟨fn20_ok, List.forall_mem_cons.2 ⟨fn36_ok, List.forall_mem_cons.2 ⟨fn68_ok, List.forall_mem_cons.2 ⟨fn52_ok, List.forall_mem_cons.2 ⟨fn84_ok, List.forall_mem_cons.2 ⟨fn28_ok, List.forall_mem_cons.2 ⟨fn44_ok, List.forall_mem_cons.2 ⟨fn76_ok, List.forall_mem_cons.2 ⟨fn60_ok, List.forall_mem_cons.2 ⟨fn6_ok, List.forall_mem_cons.2 ⟨fn10_ok, List.forall_mem_cons.2 ⟨fn18_ok, List.forall_mem_cons.2 ⟨fn34_ok, List.forall_mem_cons.2 ⟨fn66_ok, List.forall_mem_cons.2 ⟨fn50_ok, List.forall_mem_cons.2 ⟨fn82_ok, List.forall_mem_cons.2 ⟨fn26_ok, List.forall_mem_cons.2 ⟨fn42_ok, List.forall_mem_cons.2 ⟨fn74_ok, List.forall_mem_cons.2 ⟨fn14_ok, List.forall_mem_cons.2 ⟨fn22_ok, List.forall_mem_cons.2 ⟨fn38_ok, List.forall_mem_cons.2 ⟨fn70_ok, List.forall_mem_cons.2 ⟨fn54_ok, List.forall_mem_cons.2 ⟨fn86_ok, List.forall_mem_cons.2 ⟨fn30_ok, List.forall_mem_cons.2 ⟨fn46_ok, List.forall_mem_cons.2 ⟨fn78_ok, List.forall_mem_cons.2 ⟨fn62_ok, (fun _ h => by cases h)⟩⟩⟩⟩⟩⟩⟩⟩⟩⟩⟩⟩⟩⟩⟩⟩⟩⟩⟩⟩⟩⟩⟩⟩⟩⟩⟩⟩⟩⟩⟩⟩⟩⟩⟩⟩⟩⟩⟩⟩⟩⟩⟩⟩⟩⟩⟩⟩⟩⟩⟩⟩⟩⟩⟩⟩⟩⟩⟩⟩⟩⟩⟩⟩⟩⟩⟩⟩⟩⟩⟩⟩⟩⟩⟩⟩⟩⟩⟩
theorem ft_ok : ∀ f fn, ft.get f = some fn → FOk Tryd.prog f fn := fun k i h => fl_ok (k, i) (fl_eq ▸ T.toL_get h)
noncomputable def run (lf d : Nat) : Go.Dm.Callee := callD tt.get ft.get (fun cl => draw tt.get cl) lf d
theorem env (lf d : Nat) : Env Tryd.prog tt.get (run lf d) := callD_ok tt_ok ft_ok (fun cl E => draw_ok cl E) lf d
end Go.Proofs.YthpibnpeaidabaaDoor.Dm
