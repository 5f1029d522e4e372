/- The types and the functions of this translation as the abstract machine has them, and that they are the program's own. -/
import Derived.Test.YtogndgadipdikaaDmD
import Derived.Test.YtogndgadipdikaaRows
namespace Go.Proofs.Ytogndgadipdikaa.Dm
open Go.Dm
noncomputable def ti3 : TI := { ud := .int .i64, size := 1, bytes := 8, zero := (.int .i64 (0)), cmp := true }
theorem ti3_ok : TOk Try.prog 3 ti3 := TOk.of (by kernel_rfl) (by kernel_rfl) (by kernel_rfl) (by kernel_rfl) (fun _ => ⟨by kernel_rfl, by kernel_rfl⟩)
noncomputable def ti4 : TI := { ud := .bool, size := 1, bytes := 1, zero := (.bool false), cmp := true }
theorem ti4_ok : TOk Try.prog 4 ti4 := TOk.of (by kernel_rfl) (by kernel_rfl) (by kernel_rfl) (by kernel_rfl) (fun _ => ⟨by kernel_rfl, by kernel_rfl⟩)
noncomputable def ti9 : TI := { ud := .string, size := 1, bytes := 16, zero := (.string ⟨⟨[]⟩⟩), cmp := true }
theorem ti9_ok : TOk Try.prog 9 ti9 := TOk.of (by kernel_rfl) (by kernel_rfl) (by kernel_rfl) (by kernel_rfl) (fun _ => ⟨by kernel_rfl, by kernel_rfl⟩)
noncomputable def ti22 : TI := { ud := .slice 29, size := 1, bytes := 24, zero := (.slice none 0 0), cmp := false }
theorem ti22_ok : TOk Try.prog 22 ti22 := TOk.of (by kernel_rfl) (by kernel_rfl) (by kernel_rfl) (by kernel_rfl) (by intro h; cases h)
noncomputable def ti23 : TI := { ud := .pointer 69, size := 1, bytes := 8, zero := (.pointer none), cmp := true }
theorem ti23_ok : TOk Try.prog 23 ti23 := TOk.of (by kernel_rfl) (by kernel_rfl) (by kernel_rfl) (by kernel_rfl) (fun _ => ⟨by kernel_rfl, by kernel_rfl⟩)
noncomputable def ti25 : TI := { ud := .pointer 72, size := 1, bytes := 8, zero := (.pointer none), cmp := true }
theorem ti25_ok : TOk Try.prog 25 ti25 := TOk.of (by kernel_rfl) (by kernel_rfl) (by kernel_rfl) (by kernel_rfl) (fun _ => ⟨by kernel_rfl, by kernel_rfl⟩)
noncomputable def ti27 : TI := { ud := .array 2 9, size := 2, bytes := 32, zero := (.agg ⟨[(.string ⟨⟨[]⟩⟩), (.string ⟨⟨[]⟩⟩)]⟩), cmp := true }
theorem ti27_ok : TOk Try.prog 27 ti27 := TOk.of (by kernel_rfl) (by kernel_rfl) (by kernel_rfl) (by kernel_rfl) (fun _ => ⟨by kernel_rfl, by kernel_rfl⟩)
noncomputable def ti29 : TI := { ud := .int .u64, size := 1, bytes := 8, zero := (.int .u64 (0)), cmp := true }
theorem ti29_ok : TOk Try.prog 29 ti29 := TOk.of (by kernel_rfl) (by kernel_rfl) (by kernel_rfl) (by kernel_rfl) (fun _ => ⟨by kernel_rfl, by kernel_rfl⟩)
noncomputable def ti34 : TI := { ud := .slice 3, size := 1, bytes := 24, zero := (.slice none 0 0), cmp := false }
theorem ti34_ok : TOk Try.prog 34 ti34 := TOk.of (by kernel_rfl) (by kernel_rfl) (by kernel_rfl) (by kernel_rfl) (by intro h; cases h)
noncomputable def ti36 : TI := { ud := .slice 27, size := 1, bytes := 24, zero := (.slice none 0 0), cmp := false }
theorem ti36_ok : TOk Try.prog 36 ti36 := TOk.of (by kernel_rfl) (by kernel_rfl) (by kernel_rfl) (by kernel_rfl) (by intro h; cases h)
noncomputable def ti41 : TI := { ud := .slice 4, size := 1, bytes := 24, zero := (.slice none 0 0), cmp := false }
theorem ti41_ok : TOk Try.prog 41 ti41 := TOk.of (by kernel_rfl) (by kernel_rfl) (by kernel_rfl) (by kernel_rfl) (by intro h; cases h)
noncomputable def ti42 : TI := { ud := .func #[3] #[4] false, size := 1, bytes := 8, zero := .nilFunc, cmp := true }
theorem ti42_ok : TOk Try.prog 42 ti42 := TOk.of (by kernel_rfl) (by kernel_rfl) (by kernel_rfl) (by kernel_rfl) (fun _ => ⟨by kernel_rfl, by kernel_rfl⟩)
noncomputable def ti45 : TI := { ud := .slice 55, size := 1, bytes := 24, zero := (.slice none 0 0), cmp := false }
theorem ti45_ok : TOk Try.prog 45 ti45 := TOk.of (by kernel_rfl) (by kernel_rfl) (by kernel_rfl) (by kernel_rfl) (by intro h; cases h)
noncomputable def ti46 : TI := { ud := .pointer 66, size := 1, bytes := 8, zero := (.pointer none), cmp := true }
theorem ti46_ok : TOk Try.prog 46 ti46 := TOk.of (by kernel_rfl) (by kernel_rfl) (by kernel_rfl) (by kernel_rfl) (fun _ => ⟨by kernel_rfl, by kernel_rfl⟩)
noncomputable def ti48 : TI := { ud := .pointer 51, size := 1, bytes := 8, zero := (.pointer none), cmp := false }
theorem ti48_ok : TOk Try.prog 48 ti48 := TOk.of (by kernel_rfl) (by kernel_rfl) (by kernel_rfl) (by kernel_rfl) (by intro h; cases h)
noncomputable def ti49 : TI := { ud := .slice 93, size := 1, bytes := 24, zero := (.slice none 0 0), cmp := false }
theorem ti49_ok : TOk Try.prog 49 ti49 := TOk.of (by kernel_rfl) (by kernel_rfl) (by kernel_rfl) (by kernel_rfl) (by intro h; cases h)
noncomputable def ti51 : TI := { ud := .struct #[{ name := "L", type := 49, offset := 0, embedded := false, tag := "", pkgPath := "", byteOffset := 0 }, { name := "Last", type := 3, offset := 1, embedded := false, tag := "", pkgPath := "", byteOffset := 24 }], size := 2, bytes := 32, zero := (.agg ⟨[(.slice none 0 0), (.int .i64 (0))]⟩), cmp := false }
theorem ti51_ok : TOk Try.prog 51 ti51 := TOk.of (by kernel_rfl) (by kernel_rfl) (by kernel_rfl) (by kernel_rfl) (by intro h; cases h)
noncomputable def ti55 : TI := { ud := .struct #[{ name := "Kind", type := 3, offset := 0, embedded := false, tag := "", pkgPath := "", byteOffset := 0 }, { name := "At", type := 29, offset := 1, embedded := false, tag := "", pkgPath := "", byteOffset := 8 }, { name := "Ticket", type := 3, offset := 2, embedded := false, tag := "", pkgPath := "", byteOffset := 16 }, { name := "Text", type := 9, offset := 3, embedded := false, tag := "", pkgPath := "", byteOffset := 24 }], size := 4, bytes := 40, zero := (.agg ⟨[(.int .i64 (0)), (.int .u64 (0)), (.int .i64 (0)), (.string ⟨⟨[]⟩⟩)]⟩), cmp := false }
theorem ti55_ok : TOk Try.prog 55 ti55 := TOk.of (by kernel_rfl) (by kernel_rfl) (by kernel_rfl) (by kernel_rfl) (by intro h; cases h)
noncomputable def ti57 : TI := { ud := .slice 9, size := 1, bytes := 24, zero := (.slice none 0 0), cmp := false }
theorem ti57_ok : TOk Try.prog 57 ti57 := TOk.of (by kernel_rfl) (by kernel_rfl) (by kernel_rfl) (by kernel_rfl) (by intro h; cases h)
noncomputable def ti63 : TI := { ud := .func #[9] #[4] false, size := 1, bytes := 8, zero := .nilFunc, cmp := true }
theorem ti63_ok : TOk Try.prog 63 ti63 := TOk.of (by kernel_rfl) (by kernel_rfl) (by kernel_rfl) (by kernel_rfl) (fun _ => ⟨by kernel_rfl, by kernel_rfl⟩)
noncomputable def ti64 : TI := { ud := .slice 96, size := 1, bytes := 24, zero := (.slice none 0 0), cmp := true }
theorem ti64_ok : TOk Try.prog 64 ti64 := TOk.of (by kernel_rfl) (by kernel_rfl) (by kernel_rfl) (by kernel_rfl) (fun _ => ⟨by kernel_rfl, by kernel_rfl⟩)
noncomputable def ti66 : TI := { ud := .struct #[{ name := "there", type := 4, offset := 0, embedded := false, tag := "", pkgPath := "dandelion/calend", byteOffset := 0 }, { name := "last", type := 3, offset := 1, embedded := false, tag := "", pkgPath := "dandelion/calend", byteOffset := 8 }, { name := "l", type := 64, offset := 2, embedded := false, tag := "", pkgPath := "dandelion/calend", byteOffset := 16 }], size := 3, bytes := 40, zero := (.agg ⟨[(.bool false), (.int .i64 (0)), (.slice none 0 0)]⟩), cmp := false }
theorem ti66_ok : TOk Try.prog 66 ti66 := TOk.of (by kernel_rfl) (by kernel_rfl) (by kernel_rfl) (by kernel_rfl) (by intro h; cases h)
noncomputable def ti67 : TI := { ud := .slice 74, size := 1, bytes := 24, zero := (.slice none 0 0), cmp := false }
theorem ti67_ok : TOk Try.prog 67 ti67 := TOk.of (by kernel_rfl) (by kernel_rfl) (by kernel_rfl) (by kernel_rfl) (by intro h; cases h)
noncomputable def ti69 : TI := { ud := .struct #[{ name := "there", type := 4, offset := 0, embedded := false, tag := "", pkgPath := "dandelion/calend", byteOffset := 0 }, { name := "last", type := 3, offset := 1, embedded := false, tag := "", pkgPath := "dandelion/calend", byteOffset := 8 }, { name := "l", type := 67, offset := 2, embedded := false, tag := "", pkgPath := "dandelion/calend", byteOffset := 16 }], size := 3, bytes := 40, zero := (.agg ⟨[(.bool false), (.int .i64 (0)), (.slice none 0 0)]⟩), cmp := false }
theorem ti69_ok : TOk Try.prog 69 ti69 := TOk.of (by kernel_rfl) (by kernel_rfl) (by kernel_rfl) (by kernel_rfl) (by intro h; cases h)
noncomputable def ti70 : TI := { ud := .slice 83, size := 1, bytes := 24, zero := (.slice none 0 0), cmp := false }
theorem ti70_ok : TOk Try.prog 70 ti70 := TOk.of (by kernel_rfl) (by kernel_rfl) (by kernel_rfl) (by kernel_rfl) (by intro h; cases h)
noncomputable def ti72 : TI := { ud := .struct #[{ name := "there", type := 4, offset := 0, embedded := false, tag := "", pkgPath := "dandelion/calend", byteOffset := 0 }, { name := "last", type := 3, offset := 1, embedded := false, tag := "", pkgPath := "dandelion/calend", byteOffset := 8 }, { name := "l", type := 70, offset := 2, embedded := false, tag := "", pkgPath := "dandelion/calend", byteOffset := 16 }], size := 3, bytes := 40, zero := (.agg ⟨[(.bool false), (.int .i64 (0)), (.slice none 0 0)]⟩), cmp := false }
theorem ti72_ok : TOk Try.prog 72 ti72 := TOk.of (by kernel_rfl) (by kernel_rfl) (by kernel_rfl) (by kernel_rfl) (by intro h; cases h)
noncomputable def ti74 : TI := { ud := .struct #[{ name := "at", type := 29, offset := 0, embedded := false, tag := "", pkgPath := "dandelion/calend", byteOffset := 0 }, { name := "ticket", type := 3, offset := 1, embedded := false, tag := "", pkgPath := "dandelion/calend", byteOffset := 8 }, { name := "v", type := 3, offset := 2, embedded := false, tag := "", pkgPath := "dandelion/calend", byteOffset := 16 }], size := 3, bytes := 24, zero := (.agg ⟨[(.int .u64 (0)), (.int .i64 (0)), (.int .i64 (0))]⟩), cmp := false }
theorem ti74_ok : TOk Try.prog 74 ti74 := TOk.of (by kernel_rfl) (by kernel_rfl) (by kernel_rfl) (by kernel_rfl) (by intro h; cases h)
noncomputable def ti80 : TI := { ud := .func #[74, 74] #[3] false, size := 1, bytes := 8, zero := .nilFunc, cmp := false }
theorem ti80_ok : TOk Try.prog 80 ti80 := TOk.of (by kernel_rfl) (by kernel_rfl) (by kernel_rfl) (by kernel_rfl) (by intro h; cases h)
noncomputable def ti83 : TI := { ud := .struct #[{ name := "at", type := 29, offset := 0, embedded := false, tag := "", pkgPath := "dandelion/calend", byteOffset := 0 }, { name := "ticket", type := 3, offset := 1, embedded := false, tag := "", pkgPath := "dandelion/calend", byteOffset := 8 }, { name := "v", type := 27, offset := 2, embedded := false, tag := "", pkgPath := "dandelion/calend", byteOffset := 16 }], size := 4, bytes := 48, zero := (.agg ⟨[(.int .u64 (0)), (.int .i64 (0)), (.string ⟨⟨[]⟩⟩), (.string ⟨⟨[]⟩⟩)]⟩), cmp := false }
theorem ti83_ok : TOk Try.prog 83 ti83 := TOk.of (by kernel_rfl) (by kernel_rfl) (by kernel_rfl) (by kernel_rfl) (by intro h; cases h)
noncomputable def ti85 : TI := { ud := .func #[83, 83] #[3] false, size := 1, bytes := 8, zero := .nilFunc, cmp := false }
theorem ti85_ok : TOk Try.prog 85 ti85 := TOk.of (by kernel_rfl) (by kernel_rfl) (by kernel_rfl) (by kernel_rfl) (by intro h; cases h)
noncomputable def ti90 : TI := { ud := .func #[74] #[4] false, size := 1, bytes := 8, zero := .nilFunc, cmp := false }
theorem ti90_ok : TOk Try.prog 90 ti90 := TOk.of (by kernel_rfl) (by kernel_rfl) (by kernel_rfl) (by kernel_rfl) (by intro h; cases h)
noncomputable def ti93 : TI := { ud := .struct #[{ name := "At", type := 29, offset := 0, embedded := false, tag := "", pkgPath := "", byteOffset := 0 }, { name := "Ticket", type := 3, offset := 1, embedded := false, tag := "", pkgPath := "", byteOffset := 8 }, { name := "Text", type := 9, offset := 2, embedded := false, tag := "", pkgPath := "", byteOffset := 16 }], size := 3, bytes := 32, zero := (.agg ⟨[(.int .u64 (0)), (.int .i64 (0)), (.string ⟨⟨[]⟩⟩)]⟩), cmp := false }
theorem ti93_ok : TOk Try.prog 93 ti93 := TOk.of (by kernel_rfl) (by kernel_rfl) (by kernel_rfl) (by kernel_rfl) (by intro h; cases h)
noncomputable def ti96 : TI := { ud := .struct #[{ name := "at", type := 29, offset := 0, embedded := false, tag := "", pkgPath := "dandelion/calend", byteOffset := 0 }, { name := "ticket", type := 3, offset := 1, embedded := false, tag := "", pkgPath := "dandelion/calend", byteOffset := 8 }, { name := "v", type := 9, offset := 2, embedded := false, tag := "", pkgPath := "dandelion/calend", byteOffset := 16 }], size := 3, bytes := 32, zero := (.agg ⟨[(.int .u64 (0)), (.int .i64 (0)), (.string ⟨⟨[]⟩⟩)]⟩), cmp := false }
theorem ti96_ok : TOk Try.prog 96 ti96 := TOk.of (by kernel_rfl) (by kernel_rfl) (by kernel_rfl) (by kernel_rfl) (by intro h; cases h)
noncomputable def ti99 : TI := { ud := .func #[96, 96] #[3] false, size := 1, bytes := 8, zero := .nilFunc, cmp := false }
theorem ti99_ok : TOk Try.prog 99 ti99 := TOk.of (by kernel_rfl) (by kernel_rfl) (by kernel_rfl) (by kernel_rfl) (by intro h; cases h)
noncomputable def ti102 : TI := { ud := .func #[96] #[4] false, size := 1, bytes := 8, zero := .nilFunc, cmp := false }
theorem ti102_ok : TOk Try.prog 102 ti102 := TOk.of (by kernel_rfl) (by kernel_rfl) (by kernel_rfl) (by kernel_rfl) (by intro h; cases h)
noncomputable def ti105 : TI := { ud := .int .u64, size := 1, bytes := 8, zero := (.int .u64 (0)), cmp := false }
theorem ti105_ok : TOk Try.prog 105 ti105 := TOk.of (by kernel_rfl) (by kernel_rfl) (by kernel_rfl) (by kernel_rfl) (by intro h; cases h)
noncomputable def tt : T TI := (.node (.node (.node (.node (.node (.node (.node .nil (some ti63) .nil) none .nil) none .nil) none (.node .nil (some ti23) (.node .nil (some ti55) .nil))) (some ti3) (.node (.node (.node (.node .nil (some ti67) .nil) none (.node .nil (some ti99) .nil)) none (.node (.node .nil (some ti83) .nil) (some ti51) .nil)) none (.node .nil (some ti27) .nil))) none (.node (.node (.node .nil none (.node .nil (some ti49) .nil)) (some ti9) (.node (.node .nil (some ti41) (.node .nil (some ti105) .nil)) (some ti25) (.node .nil (some ti57) .nil))) none (.node (.node (.node (.node .nil (some ti69) .nil) none .nil) none (.node (.node .nil (some ti85) .nil) none .nil)) none (.node (.node .nil (some ti45) .nil) (some ti29) (.node (.node .nil (some ti93) .nil) none .nil))))) none (.node (.node (.node (.node (.node (.node .nil (some ti64) .nil) none (.node .nil (some ti96) .nil)) none (.node (.node .nil (some ti80) .nil) (some ti48) .nil)) none (.node (.node (.node .nil (some ti72) .nil) none .nil) none .nil)) (some ti4) (.node (.node (.node .nil (some ti36) .nil) none .nil) none .nil)) none (.node (.node (.node (.node (.node .nil (some ti66) .nil) (some ti34) .nil) none .nil) none (.node (.node (.node .nil (some ti74) .nil) (some ti42) .nil) none (.node (.node .nil (some ti90) .nil) none .nil))) none (.node (.node (.node (.node .nil (some ti70) .nil) none (.node .nil (some ti102) .nil)) (some ti22) .nil) none (.node (.node .nil (some ti46) .nil) none .nil)))))
noncomputable def tl : List (Nat × TI) := [(3, ti3), (63, ti63), (23, ti23), (55, ti55), (67, ti67), (99, ti99), (51, ti51), (83, ti83), (27, ti27), (9, ti9), (49, ti49), (25, ti25), (41, ti41), (105, ti105), (57, ti57), (69, ti69), (85, ti85), (29, ti29), (45, ti45), (93, ti93), (4, ti4), (64, ti64), (96, ti96), (48, ti48), (80, ti80), (72, ti72), (36, ti36), (34, ti34), (66, ti66), (42, ti42), (74, ti74), (90, ti90), (22, ti22), (70, ti70), (102, ti102), (46, ti46)]
theorem tl_eq : tt.toL 1 0 = tl := by kernel_rfl
set_option maxRecDepth 100000 in
theorem tl_ok : ∀ p ∈ tl, TOk Try.prog p.1 p.2 := List.forall_mem_cons.2 ⟨ti3_ok, List.forall_mem_cons.2 ⟨ti63_ok, List.forall_mem_cons.2 ⟨ti23_ok, List.forall_mem_cons.2 ⟨ti55_ok, List.forall_mem_cons.2 ⟨ti67_ok, List.forall_mem_cons.2 ⟨ti99_ok, List.forall_mem_cons.2 ⟨ti51_ok, List.forall_mem_cons.2 ⟨ti83_ok, List.forall_mem_cons.2 ⟨ti27_ok, List.forall_mem_cons.2 ⟨ti9_ok, List.forall_mem_cons.2 ⟨ti49_ok, List.forall_mem_cons.2 ⟨ti25_ok, List.forall_mem_cons.2 ⟨ti41_ok, List.forall_mem_cons.2 ⟨ti105_ok, List.forall_mem_cons.2 ⟨ti57_ok, List.forall_mem_cons.2 ⟨ti69_ok, List.forall_mem_cons.2 ⟨ti85_ok, List.forall_mem_cons.2 ⟨ti29_ok, List.forall_mem_cons.2 ⟨ti45_ok, List.forall_mem_cons.2 ⟨ti93_ok, List.forall_mem_cons.2 ⟨ti4_ok, List.forall_mem_cons.2 ⟨ti64_ok, List.forall_mem_cons.2 ⟨ti96_ok, List.forall_mem_cons.2 ⟨ti48_ok, List.forall_mem_cons.2 ⟨ti80_ok, List.forall_mem_cons.2 ⟨ti72_ok, List.forall_mem_cons.2 ⟨ti36_ok, List.forall_mem_cons.2 ⟨ti34_ok, List.forall_mem_cons.2 ⟨ti66_ok, List.forall_mem_cons.2 ⟨ti42_ok, List.forall_mem_cons.2 ⟨ti74_ok, List.forall_mem_cons.2 ⟨ti90_ok, List.forall_mem_cons.2 ⟨ti22_ok, List.forall_mem_cons.2 ⟨ti70_ok, List.forall_mem_cons.2 ⟨ti102_ok, List.forall_mem_cons.2 ⟨ti46_ok, (fun _ h => by cases h)⟩⟩⟩⟩⟩⟩⟩⟩⟩⟩⟩⟩⟩⟩⟩⟩⟩⟩⟩⟩⟩⟩⟩⟩⟩⟩⟩⟩⟩⟩⟩⟩⟩⟩⟩⟩
theorem tt_ok : TTOk Try.prog tt.get := fun k i h => tl_ok (k, i) (tl_eq ▸ T.toL_get h)
theorem fn3_ok : FOk Try.prog 3 Try.f3 := ⟨⟨Try.func3, by kernel_rfl, by kernel_rfl⟩, FOk.code_of (by kernel_rfl)⟩
theorem fn4_ok : FOk Try.prog 4 Try.f4 := ⟨⟨Try.func4, by kernel_rfl, by kernel_rfl⟩, FOk.code_of (by kernel_rfl)⟩
theorem fn5_ok : FOk Try.prog 5 Try.f5 := ⟨⟨Try.func5, by kernel_rfl, by kernel_rfl⟩, FOk.code_of (by kernel_rfl)⟩
theorem fn6_ok : FOk Try.prog 6 Try.f6 := ⟨⟨Try.func6, by kernel_rfl, by kernel_rfl⟩, FOk.code_of (by kernel_rfl)⟩
theorem fn7_ok : FOk Try.prog 7 Try.f7 := ⟨⟨Try.func7, by kernel_rfl, by kernel_rfl⟩, FOk.code_of (by kernel_rfl)⟩
theorem fn8_ok : FOk Try.prog 8 Try.f8 := ⟨⟨Try.func8, by kernel_rfl, by kernel_rfl⟩, FOk.code_of (by kernel_rfl)⟩
theorem fn9_ok : FOk Try.prog 9 Try.f9 := ⟨⟨Try.func9, by kernel_rfl, by kernel_rfl⟩, FOk.code_of (by kernel_rfl)⟩
theorem fn10_ok : FOk Try.prog 10 Try.f10 := ⟨⟨Try.func10, by kernel_rfl, by kernel_rfl⟩, FOk.code_of (by kernel_rfl)⟩
theorem fn11_ok : FOk Try.prog 11 Try.f11 := ⟨⟨Try.func11, by kernel_rfl, by kernel_rfl⟩, FOk.code_of (by kernel_rfl)⟩
theorem fn12_ok : FOk Try.prog 12 Try.f12 := ⟨⟨Try.func12, by kernel_rfl, by kernel_rfl⟩, FOk.code_of (by kernel_rfl)⟩
theorem fn13_ok : FOk Try.prog 13 Try.f13 := ⟨⟨Try.func13, by kernel_rfl, by kernel_rfl⟩, FOk.code_of (by kernel_rfl)⟩
theorem fn14_ok : FOk Try.prog 14 Try.f14 := ⟨⟨Try.func14, by kernel_rfl, by kernel_rfl⟩, FOk.code_of (by kernel_rfl)⟩
theorem fn15_ok : FOk Try.prog 15 Try.f15 := ⟨⟨Try.func15, by kernel_rfl, by kernel_rfl⟩, FOk.code_of (by kernel_rfl)⟩
theorem fn16_ok : FOk Try.prog 16 Try.f16 := ⟨⟨Try.func16, by kernel_rfl, by kernel_rfl⟩, FOk.code_of (by kernel_rfl)⟩
theorem fn17_ok : FOk Try.prog 17 Try.f17 := ⟨⟨Try.func17, by kernel_rfl, by kernel_rfl⟩, FOk.code_of (by kernel_rfl)⟩
theorem fn18_ok : FOk Try.prog 18 Try.f18 := ⟨⟨Try.func18, by kernel_rfl, by kernel_rfl⟩, FOk.code_of (by kernel_rfl)⟩
theorem fn19_ok : FOk Try.prog 19 Try.f19 := ⟨⟨Try.func19, by kernel_rfl, by kernel_rfl⟩, FOk.code_of (by kernel_rfl)⟩
theorem fn20_ok : FOk Try.prog 20 Try.f20 := ⟨⟨Try.func20, by kernel_rfl, by kernel_rfl⟩, FOk.code_of (by kernel_rfl)⟩
theorem fn21_ok : FOk Try.prog 21 Try.f21 := ⟨⟨Try.func21, by kernel_rfl, by kernel_rfl⟩, FOk.code_of (by kernel_rfl)⟩
theorem fn22_ok : FOk Try.prog 22 Try.f22 := ⟨⟨Try.func22, by kernel_rfl, by kernel_rfl⟩, FOk.code_of (by kernel_rfl)⟩
theorem fn23_ok : FOk Try.prog 23 Try.f23 := ⟨⟨Try.func23, by kernel_rfl, by kernel_rfl⟩, FOk.code_of (by kernel_rfl)⟩
theorem fn24_ok : FOk Try.prog 24 Try.f24 := ⟨⟨Try.func24, by kernel_rfl, by kernel_rfl⟩, FOk.code_of (by kernel_rfl)⟩
theorem fn25_ok : FOk Try.prog 25 Try.f25 := ⟨⟨Try.func25, by kernel_rfl, by kernel_rfl⟩, FOk.code_of (by kernel_rfl)⟩
theorem fn26_ok : FOk Try.prog 26 Try.f26 := ⟨⟨Try.func26, by kernel_rfl, by kernel_rfl⟩, FOk.code_of (by kernel_rfl)⟩
theorem fn27_ok : FOk Try.prog 27 Try.f27 := ⟨⟨Try.func27, by kernel_rfl, by kernel_rfl⟩, FOk.code_of (by kernel_rfl)⟩
theorem fn28_ok : FOk Try.prog 28 Try.f28 := ⟨⟨Try.func28, by kernel_rfl, by kernel_rfl⟩, FOk.code_of (by kernel_rfl)⟩
theorem fn29_ok : FOk Try.prog 29 Try.f29 := ⟨⟨Try.func29, by kernel_rfl, by kernel_rfl⟩, FOk.code_of (by kernel_rfl)⟩
theorem fn30_ok : FOk Try.prog 30 Try.f30 := ⟨⟨Try.func30, by kernel_rfl, by kernel_rfl⟩, FOk.code_of (by kernel_rfl)⟩
theorem fn31_ok : FOk Try.prog 31 Try.f31 := ⟨⟨Try.func31, by kernel_rfl, by kernel_rfl⟩, FOk.code_of (by kernel_rfl)⟩
theorem fn32_ok : FOk Try.prog 32 Try.f32 := ⟨⟨Try.func32, by kernel_rfl, by kernel_rfl⟩, FOk.code_of (by kernel_rfl)⟩
theorem fn33_ok : FOk Try.prog 33 Try.f33 := ⟨⟨Try.func33, by kernel_rfl, by kernel_rfl⟩, FOk.code_of (by kernel_rfl)⟩
theorem fn34_ok : FOk Try.prog 34 Try.f34 := ⟨⟨Try.func34, by kernel_rfl, by kernel_rfl⟩, FOk.code_of (by kernel_rfl)⟩
theorem fn35_ok : FOk Try.prog 35 Try.f35 := ⟨⟨Try.func35, by kernel_rfl, by kernel_rfl⟩, FOk.code_of (by kernel_rfl)⟩
theorem fn36_ok : FOk Try.prog 36 Try.f36 := ⟨⟨Try.func36, by kernel_rfl, by kernel_rfl⟩, FOk.code_of (by kernel_rfl)⟩
theorem fn37_ok : FOk Try.prog 37 Try.f37 := ⟨⟨Try.func37, by kernel_rfl, by kernel_rfl⟩, FOk.code_of (by kernel_rfl)⟩
theorem fn38_ok : FOk Try.prog 38 Try.f38 := ⟨⟨Try.func38, by kernel_rfl, by kernel_rfl⟩, FOk.code_of (by kernel_rfl)⟩
theorem fn39_ok : FOk Try.prog 39 Try.f39 := ⟨⟨Try.func39, by kernel_rfl, by kernel_rfl⟩, FOk.code_of (by kernel_rfl)⟩
theorem fn40_ok : FOk Try.prog 40 Try.f40 := ⟨⟨Try.func40, by kernel_rfl, by kernel_rfl⟩, FOk.code_of (by kernel_rfl)⟩
theorem fn41_ok : FOk Try.prog 41 Try.f41 := ⟨⟨Try.func41, by kernel_rfl, by kernel_rfl⟩, FOk.code_of (by kernel_rfl)⟩
theorem fn42_ok : FOk Try.prog 42 Try.f42 := ⟨⟨Try.func42, by kernel_rfl, by kernel_rfl⟩, FOk.code_of (by kernel_rfl)⟩
theorem fn43_ok : FOk Try.prog 43 Try.f43 := ⟨⟨Try.func43, by kernel_rfl, by kernel_rfl⟩, FOk.code_of (by kernel_rfl)⟩
theorem fn44_ok : FOk Try.prog 44 Try.f44 := ⟨⟨Try.func44, by kernel_rfl, by kernel_rfl⟩, FOk.code_of (by kernel_rfl)⟩
theorem fn45_ok : FOk Try.prog 45 Try.f45 := ⟨⟨Try.func45, by kernel_rfl, by kernel_rfl⟩, FOk.code_of (by kernel_rfl)⟩
theorem fn46_ok : FOk Try.prog 46 Try.f46 := ⟨⟨Try.func46, by kernel_rfl, by kernel_rfl⟩, FOk.code_of (by kernel_rfl)⟩
theorem fn47_ok : FOk Try.prog 47 Try.f47 := ⟨⟨Try.func47, by kernel_rfl, by kernel_rfl⟩, FOk.code_of (by kernel_rfl)⟩
theorem fn48_ok : FOk Try.prog 48 Try.f48 := ⟨⟨Try.func48, by kernel_rfl, by kernel_rfl⟩, FOk.code_of (by kernel_rfl)⟩
theorem fn49_ok : FOk Try.prog 49 Try.f49 := ⟨⟨Try.func49, by kernel_rfl, by kernel_rfl⟩, FOk.code_of (by kernel_rfl)⟩
theorem fn50_ok : FOk Try.prog 50 Try.f50 := ⟨⟨Try.func50, by kernel_rfl, by kernel_rfl⟩, FOk.code_of (by kernel_rfl)⟩
theorem fn51_ok : FOk Try.prog 51 Try.f51 := ⟨⟨Try.func51, by kernel_rfl, by kernel_rfl⟩, FOk.code_of (by kernel_rfl)⟩
theorem fn52_ok : FOk Try.prog 52 Try.f52 := ⟨⟨Try.func52, by kernel_rfl, by kernel_rfl⟩, FOk.code_of (by kernel_rfl)⟩
theorem fn53_ok : FOk Try.prog 53 Try.f53 := ⟨⟨Try.func53, by kernel_rfl, by kernel_rfl⟩, FOk.code_of (by kernel_rfl)⟩
theorem fn54_ok : FOk Try.prog 54 Try.f54 := ⟨⟨Try.func54, by kernel_rfl, by kernel_rfl⟩, FOk.code_of (by kernel_rfl)⟩
theorem fn55_ok : FOk Try.prog 55 Try.f55 := ⟨⟨Try.func55, by kernel_rfl, by kernel_rfl⟩, FOk.code_of (by kernel_rfl)⟩
theorem fn56_ok : FOk Try.prog 56 Try.f56 := ⟨⟨Try.func56, by kernel_rfl, by kernel_rfl⟩, FOk.code_of (by kernel_rfl)⟩
theorem fn57_ok : FOk Try.prog 57 Try.f57 := ⟨⟨Try.func57, by kernel_rfl, by kernel_rfl⟩, FOk.code_of (by kernel_rfl)⟩
theorem fn58_ok : FOk Try.prog 58 Try.f58 := ⟨⟨Try.func58, by kernel_rfl, by kernel_rfl⟩, FOk.code_of (by kernel_rfl)⟩
theorem fn59_ok : FOk Try.prog 59 Try.f59 := ⟨⟨Try.func59, by kernel_rfl, by kernel_rfl⟩, FOk.code_of (by kernel_rfl)⟩
theorem fn60_ok : FOk Try.prog 60 Try.f60 := ⟨⟨Try.func60, by kernel_rfl, by kernel_rfl⟩, FOk.code_of (by kernel_rfl)⟩
theorem fn61_ok : FOk Try.prog 61 Try.f61 := ⟨⟨Try.func61, by kernel_rfl, by kernel_rfl⟩, FOk.code_of (by kernel_rfl)⟩
theorem fn62_ok : FOk Try.prog 62 Try.f62 := ⟨⟨Try.func62, by kernel_rfl, by kernel_rfl⟩, FOk.code_of (by kernel_rfl)⟩
theorem fn63_ok : FOk Try.prog 63 Try.f63 := ⟨⟨Try.func63, by kernel_rfl, by kernel_rfl⟩, FOk.code_of (by kernel_rfl)⟩
theorem fn64_ok : FOk Try.prog 64 Try.f64 := ⟨⟨Try.func64, by kernel_rfl, by kernel_rfl⟩, FOk.code_of (by kernel_rfl)⟩
theorem fn65_ok : FOk Try.prog 65 Try.f65 := ⟨⟨Try.func65, by kernel_rfl, by kernel_rfl⟩, FOk.code_of (by kernel_rfl)⟩
theorem fn67_ok : FOk Try.prog 67 Try.f67 := ⟨⟨Try.func67, by kernel_rfl, by kernel_rfl⟩, FOk.code_of (by kernel_rfl)⟩
theorem fn69_ok : FOk Try.prog 69 Try.f69 := ⟨⟨Try.func69, by kernel_rfl, by kernel_rfl⟩, FOk.code_of (by kernel_rfl)⟩
theorem fn70_ok : FOk Try.prog 70 Try.f70 := ⟨⟨Try.func70, by kernel_rfl, by kernel_rfl⟩, FOk.code_of (by kernel_rfl)⟩
theorem fn71_ok : FOk Try.prog 71 Try.f71 := ⟨⟨Try.func71, by kernel_rfl, by kernel_rfl⟩, FOk.code_of (by kernel_rfl)⟩
theorem fn73_ok : FOk Try.prog 73 Try.f73 := ⟨⟨Try.func73, by kernel_rfl, by kernel_rfl⟩, FOk.code_of (by kernel_rfl)⟩
theorem fn74_ok : FOk Try.prog 74 Try.f74 := ⟨⟨Try.func74, by kernel_rfl, by kernel_rfl⟩, FOk.code_of (by kernel_rfl)⟩
theorem fn75_ok : FOk Try.prog 75 Try.f75 := ⟨⟨Try.func75, by kernel_rfl, by kernel_rfl⟩, FOk.code_of (by kernel_rfl)⟩
theorem fn76_ok : FOk Try.prog 76 Try.f76 := ⟨⟨Try.func76, by kernel_rfl, by kernel_rfl⟩, FOk.code_of (by kernel_rfl)⟩
theorem fn77_ok : FOk Try.prog 77 Try.f77 := ⟨⟨Try.func77, by kernel_rfl, by kernel_rfl⟩, FOk.code_of (by kernel_rfl)⟩
theorem fn78_ok : FOk Try.prog 78 Try.f78 := ⟨⟨Try.func78, by kernel_rfl, by kernel_rfl⟩, FOk.code_of (by kernel_rfl)⟩
theorem fn79_ok : FOk Try.prog 79 Try.f79 := ⟨⟨Try.func79, by kernel_rfl, by kernel_rfl⟩, FOk.code_of (by kernel_rfl)⟩
noncomputable def ft : T Func := (.node (.node (.node (.node (.node (.node (.node .nil (some Try.f63) .nil) (some Try.f31) .nil) (some Try.f15) (.node (.node .nil (some Try.f79) .nil) (some Try.f47) .nil)) (some Try.f7) (.node (.node (.node .nil (some Try.f71) .nil) (some Try.f39) .nil) (some Try.f23) (.node .nil (some Try.f55) .nil))) (some Try.f3) (.node (.node (.node (.node .nil (some Try.f67) .nil) (some Try.f35) .nil) (some Try.f19) (.node .nil (some Try.f51) .nil)) (some Try.f11) (.node (.node (.node .nil (some Try.f75) .nil) (some Try.f43) .nil) (some Try.f27) (.node .nil (some Try.f59) .nil)))) none (.node (.node (.node (.node (.node .nil (some Try.f65) .nil) (some Try.f33) .nil) (some Try.f17) (.node .nil (some Try.f49) .nil)) (some Try.f9) (.node (.node (.node .nil (some Try.f73) .nil) (some Try.f41) .nil) (some Try.f25) (.node .nil (some Try.f57) .nil))) (some Try.f5) (.node (.node (.node (.node .nil (some Try.f69) .nil) (some Try.f37) .nil) (some Try.f21) (.node .nil (some Try.f53) .nil)) (some Try.f13) (.node (.node (.node .nil (some Try.f77) .nil) (some Try.f45) .nil) (some Try.f29) (.node .nil (some Try.f61) .nil))))) none (.node (.node (.node (.node (.node (.node .nil (some Try.f64) .nil) (some Try.f32) .nil) (some Try.f16) (.node .nil (some Try.f48) .nil)) (some Try.f8) (.node (.node .nil (some Try.f40) .nil) (some Try.f24) (.node .nil (some Try.f56) .nil))) (some Try.f4) (.node (.node (.node .nil (some Try.f36) .nil) (some Try.f20) (.node .nil (some Try.f52) .nil)) (some Try.f12) (.node (.node (.node .nil (some Try.f76) .nil) (some Try.f44) .nil) (some Try.f28) (.node .nil (some Try.f60) .nil)))) none (.node (.node (.node (.node .nil (some Try.f34) .nil) (some Try.f18) (.node .nil (some Try.f50) .nil)) (some Try.f10) (.node (.node (.node .nil (some Try.f74) .nil) (some Try.f42) .nil) (some Try.f26) (.node .nil (some Try.f58) .nil))) (some Try.f6) (.node (.node (.node (.node .nil (some Try.f70) .nil) (some Try.f38) .nil) (some Try.f22) (.node .nil (some Try.f54) .nil)) (some Try.f14) (.node (.node (.node .nil (some Try.f78) .nil) (some Try.f46) .nil) (some Try.f30) (.node .nil (some Try.f62) .nil))))))
noncomputable def fl : List (Nat × Func) := [(3, Try.f3), (7, Try.f7), (15, Try.f15), (31, Try.f31), (63, Try.f63), (47, Try.f47), (79, Try.f79), (23, Try.f23), (39, Try.f39), (71, Try.f71), (55, Try.f55), (11, Try.f11), (19, Try.f19), (35, Try.f35), (67, Try.f67), (51, Try.f51), (27, Try.f27), (43, Try.f43), (75, Try.f75), (59, Try.f59), (5, Try.f5), (9, Try.f9), (17, Try.f17), (33, Try.f33), (65, Try.f65), (49, Try.f49), (25, Try.f25), (41, Try.f41), (73, Try.f73), (57, Try.f57), (13, Try.f13), (21, Try.f21), (37, Try.f37), (69, Try.f69), (53, Try.f53), (29, Try.f29), (45, Try.f45), (77, Try.f77), (61, Try.f61), (4, Try.f4), (8, Try.f8), (16, Try.f16), (32, Try.f32), (64, Try.f64), (48, Try.f48), (24, Try.f24), (40, Try.f40), (56, Try.f56), (12, Try.f12), (20, Try.f20), (36, Try.f36), (52, Try.f52), (28, Try.f28), (44, Try.f44), (76, Try.f76), (60, Try.f60), (6, Try.f6), (10, Try.f10), (18, Try.f18), (34, Try.f34), (50, Try.f50), (26, Try.f26), (42, Try.f42), (74, Try.f74), (58, Try.f58), (14, Try.f14), (22, Try.f22), (38, Try.f38), (70, Try.f70), (54, Try.f54), (30, Try.f30), (46, Try.f46), (78, Try.f78), (62, Try.f62)]
theorem fl_eq : ft.toL 1 0 = fl := by kernel_rfl
set_option maxRecDepth 100000 in
theorem fl_ok : ∀ p ∈ fl, FOk Try.prog p.1 p.2 := List.forall_mem_cons.2 ⟨fn3_ok, List.forall_mem_cons.2 ⟨fn7_ok, List.forall_mem_cons.2 ⟨fn15_ok, List.forall_mem_cons.2 ⟨fn31_ok, List.forall_mem_cons.2 ⟨fn63_ok, List.forall_mem_cons.2 ⟨fn47_ok, List.forall_mem_cons.2 ⟨fn79_ok, List.forall_mem_cons.2 ⟨fn23_ok, List.forall_mem_cons.2 ⟨fn39_ok, List.forall_mem_cons.2 ⟨fn71_ok, List.forall_mem_cons.2 ⟨fn55_ok, List.forall_mem_cons.2 ⟨fn11_ok, List.forall_mem_cons.2 ⟨fn19_ok, List.forall_mem_cons.2 ⟨fn35_ok, List.forall_mem_cons.2 ⟨fn67_ok, List.forall_mem_cons.2 ⟨fn51_ok, List.forall_mem_cons.2 ⟨fn27_ok, List.forall_mem_cons.2 ⟨fn43_ok, List.forall_mem_cons.2 ⟨fn75_ok, List.forall_mem_cons.2 ⟨fn59_ok, List.forall_mem_cons.2 ⟨fn5_ok, List.forall_mem_cons.2 ⟨fn9_ok, List.forall_mem_cons.2 ⟨fn17_ok, List.forall_mem_cons.2 ⟨fn33_ok, List.forall_mem_cons.2 ⟨fn65_ok, List.forall_mem_cons.2 ⟨fn49_ok, List.forall_mem_cons.2 ⟨fn25_ok, List.forall_mem_cons.2 ⟨fn41_ok, List.forall_mem_cons.2 ⟨fn73_ok, List.forall_mem_cons.2 ⟨fn57_ok, List.forall_mem_cons.2 ⟨fn13_ok, List.forall_mem_cons.2 ⟨fn21_ok, List.forall_mem_cons.2 ⟨fn37_ok, List.forall_mem_cons.2 ⟨fn69_ok, List.forall_mem_cons.2 ⟨fn53_ok, List.forall_mem_cons.2 ⟨fn29_ok, List.forall_mem_cons.2 ⟨fn45_ok, List.forall_mem_cons.2 ⟨fn77_ok, List.forall_mem_cons.2 ⟨fn61_ok, List.forall_mem_cons.2 ⟨fn4_ok, List.forall_mem_cons.2 ⟨fn8_ok, List.forall_mem_cons.2 ⟨fn16_ok, List.forall_mem_cons.2 ⟨fn32_ok, List.forall_mem_cons.2 ⟨fn64_ok, List.forall_mem_cons.2 ⟨fn48_ok, List.forall_mem_cons.2 ⟨fn24_ok, List.forall_mem_cons.2 ⟨fn40_ok, List.forall_mem_cons.2 ⟨fn56_ok, List.forall_mem_cons.2 ⟨fn12_ok, List.forall_mem_cons.2 ⟨fn20_ok, List.forall_mem_cons.2 ⟨fn36_ok, List.forall_mem_cons.2 ⟨fn52_ok, List.forall_mem_cons.2 ⟨fn28_ok, List.forall_mem_cons.2 ⟨fn44_ok, List.forall_mem_cons.2 ⟨fn76_ok, List.forall_mem_cons.2 ⟨fn60_ok, List.forall_mem_cons.2 ⟨fn6_ok, List.forall_mem_cons.2 ⟨fn10_ok, List.forall_mem_cons.2 ⟨fn18_ok, List.forall_mem_cons.2 ⟨fn34_ok, List.forall_mem_cons.2 ⟨fn50_ok, List.forall_mem_cons.2 ⟨fn26_ok, List.forall_mem_cons.2 ⟨fn42_ok, List.forall_mem_cons.2 ⟨fn74_ok, List.forall_mem_cons.2 ⟨fn58_ok, List.forall_mem_cons.2 ⟨fn14_ok, List.forall_mem_cons.2 ⟨fn22_ok, List.forall_mem_cons.2 ⟨fn38_ok, List.forall_mem_cons.2 ⟨fn70_ok, List.forall_mem_cons.2 ⟨fn54_ok, List.forall_mem_cons.2 ⟨fn30_ok, List.forall_mem_cons.2 ⟨fn46_ok, List.forall_mem_cons.2 ⟨fn78_ok, List.forall_mem_cons.2 ⟨fn62_ok, (fun _ h => by cases h)⟩⟩⟩⟩⟩⟩⟩⟩⟩⟩⟩⟩⟩⟩⟩⟩⟩⟩⟩⟩⟩⟩⟩⟩⟩⟩⟩⟩⟩⟩⟩⟩⟩⟩⟩⟩⟩⟩⟩⟩⟩⟩⟩⟩⟩⟩⟩⟩⟩⟩⟩⟩⟩⟩⟩⟩⟩⟩⟩⟩⟩⟩⟩⟩⟩⟩⟩⟩⟩⟩⟩⟩⟩⟩
theorem ft_ok : ∀ f fn, ft.get f = some fn → FOk Try.prog f fn := fun k i h => fl_ok (k, i) (fl_eq ▸ T.toL_get h)
noncomputable def run (lf d : Nat) : Go.Dm.Callee := callD tt.get ft.get (fun cl => draw tt.get cl) lf d
theorem env (lf d : Nat) : Env Try.prog tt.get (run lf d) := callD_ok tt_ok ft_ok (fun cl E => draw_ok cl E) lf d
end Go.Proofs.Ytogndgadipdikaa.Dm
