/- The types and the functions of this translation as the abstract machine has them, and that they are the program's own. -/
import Derived.Test.YtaenmabpekbjoaaDmD
import Derived.Test.YtaenmabpekbjoaaRows
namespace Go.Proofs.Ytaenmabpekbjoaa.Dm
open Go.Dm
noncomputable def ti3 : TI := { ud := .int .i64, size := 1, bytes := 8, zero := (.int .i64 (0)), cmp := true }
theorem ti3_ok : TOk Try.prog 3 ti3 := TOk.of (by kernel_rfl) (by kernel_rfl) (by kernel_rfl) (by kernel_rfl) (fun _ => ⟨by kernel_rfl, by kernel_rfl⟩)
noncomputable def ti4 : TI := { ud := .bool, size := 1, bytes := 1, zero := (.bool false), cmp := true }
theorem ti4_ok : TOk Try.prog 4 ti4 := TOk.of (by kernel_rfl) (by kernel_rfl) (by kernel_rfl) (by kernel_rfl) (fun _ => ⟨by kernel_rfl, by kernel_rfl⟩)
noncomputable def ti22 : TI := { ud := .slice 39, size := 1, bytes := 24, zero := (.slice none 0 0), cmp := false }
theorem ti22_ok : TOk Try.prog 22 ti22 := TOk.of (by kernel_rfl) (by kernel_rfl) (by kernel_rfl) (by kernel_rfl) (by intro h; cases h)
noncomputable def ti23 : TI := { ud := .slice 3, size := 1, bytes := 24, zero := (.slice none 0 0), cmp := false }
theorem ti23_ok : TOk Try.prog 23 ti23 := TOk.of (by kernel_rfl) (by kernel_rfl) (by kernel_rfl) (by kernel_rfl) (by intro h; cases h)
noncomputable def ti24 : TI := { ud := .slice 32, size := 1, bytes := 24, zero := (.slice none 0 0), cmp := false }
theorem ti24_ok : TOk Try.prog 24 ti24 := TOk.of (by kernel_rfl) (by kernel_rfl) (by kernel_rfl) (by kernel_rfl) (by intro h; cases h)
noncomputable def ti26 : TI := { ud := .struct #[{ name := "Nodes", type := 23, offset := 0, embedded := false, tag := "", pkgPath := "", byteOffset := 0 }, { name := "Edges", type := 24, offset := 1, embedded := false, tag := "", pkgPath := "", byteOffset := 24 }], size := 2, bytes := 48, zero := (.agg ⟨[(.slice none 0 0), (.slice none 0 0)]⟩), cmp := false }
theorem ti26_ok : TOk Try.prog 26 ti26 := TOk.of (by kernel_rfl) (by kernel_rfl) (by kernel_rfl) (by kernel_rfl) (by intro h; cases h)
noncomputable def ti27 : TI := { ud := .int .i64, size := 1, bytes := 8, zero := (.int .i64 (0)), cmp := true }
theorem ti27_ok : TOk Try.prog 27 ti27 := TOk.of (by kernel_rfl) (by kernel_rfl) (by kernel_rfl) (by kernel_rfl) (fun _ => ⟨by kernel_rfl, by kernel_rfl⟩)
noncomputable def ti32 : TI := { ud := .struct #[{ name := "From", type := 3, offset := 0, embedded := false, tag := "", pkgPath := "", byteOffset := 0 }, { name := "To", type := 3, offset := 1, embedded := false, tag := "", pkgPath := "", byteOffset := 8 }, { name := "Cost", type := 3, offset := 2, embedded := false, tag := "", pkgPath := "", byteOffset := 16 }], size := 3, bytes := 24, zero := (.agg ⟨[(.int .i64 (0)), (.int .i64 (0)), (.int .i64 (0))]⟩), cmp := true }
theorem ti32_ok : TOk Try.prog 32 ti32 := TOk.of (by kernel_rfl) (by kernel_rfl) (by kernel_rfl) (by kernel_rfl) (fun _ => ⟨by kernel_rfl, by kernel_rfl⟩)
noncomputable def ti36 : TI := { ud := .int .u32, size := 1, bytes := 4, zero := (.int .u32 (0)), cmp := true }
theorem ti36_ok : TOk Try.prog 36 ti36 := TOk.of (by kernel_rfl) (by kernel_rfl) (by kernel_rfl) (by kernel_rfl) (fun _ => ⟨by kernel_rfl, by kernel_rfl⟩)
noncomputable def ti37 : TI := { ud := .slice 41, size := 1, bytes := 24, zero := (.slice none 0 0), cmp := false }
theorem ti37_ok : TOk Try.prog 37 ti37 := TOk.of (by kernel_rfl) (by kernel_rfl) (by kernel_rfl) (by kernel_rfl) (by intro h; cases h)
noncomputable def ti39 : TI := { ud := .struct #[{ name := "Origin", type := 3, offset := 0, embedded := false, tag := "", pkgPath := "", byteOffset := 0 }, { name := "Epoch", type := 36, offset := 1, embedded := false, tag := "", pkgPath := "", byteOffset := 8 }, { name := "Seq", type := 36, offset := 2, embedded := false, tag := "", pkgPath := "", byteOffset := 12 }, { name := "Claim", type := 3, offset := 3, embedded := false, tag := "", pkgPath := "", byteOffset := 16 }, { name := "Ingress", type := 4, offset := 4, embedded := false, tag := "", pkgPath := "", byteOffset := 24 }, { name := "Adjs", type := 37, offset := 5, embedded := false, tag := "", pkgPath := "", byteOffset := 32 }], size := 6, bytes := 56, zero := (.agg ⟨[(.int .i64 (0)), (.int .u32 (0)), (.int .u32 (0)), (.int .i64 (0)), (.bool false), (.slice none 0 0)]⟩), cmp := false }
theorem ti39_ok : TOk Try.prog 39 ti39 := TOk.of (by kernel_rfl) (by kernel_rfl) (by kernel_rfl) (by kernel_rfl) (by intro h; cases h)
noncomputable def ti41 : TI := { ud := .struct #[{ name := "To", type := 3, offset := 0, embedded := false, tag := "", pkgPath := "", byteOffset := 0 }, { name := "Cost", type := 3, offset := 1, embedded := false, tag := "", pkgPath := "", byteOffset := 8 }], size := 2, bytes := 16, zero := (.agg ⟨[(.int .i64 (0)), (.int .i64 (0))]⟩), cmp := true }
theorem ti41_ok : TOk Try.prog 41 ti41 := TOk.of (by kernel_rfl) (by kernel_rfl) (by kernel_rfl) (by kernel_rfl) (fun _ => ⟨by kernel_rfl, by kernel_rfl⟩)
noncomputable def ti53 : TI := { ud := .slice 56, size := 1, bytes := 24, zero := (.slice none 0 0), cmp := false }
theorem ti53_ok : TOk Try.prog 53 ti53 := TOk.of (by kernel_rfl) (by kernel_rfl) (by kernel_rfl) (by kernel_rfl) (by intro h; cases h)
noncomputable def ti56 : TI := { ud := .struct #[{ name := "A", type := 3, offset := 0, embedded := false, tag := "", pkgPath := "", byteOffset := 0 }, { name := "B", type := 3, offset := 1, embedded := false, tag := "", pkgPath := "", byteOffset := 8 }, { name := "Cost", type := 3, offset := 2, embedded := false, tag := "", pkgPath := "", byteOffset := 16 }], size := 3, bytes := 24, zero := (.agg ⟨[(.int .i64 (0)), (.int .i64 (0)), (.int .i64 (0))]⟩), cmp := true }
theorem ti56_ok : TOk Try.prog 56 ti56 := TOk.of (by kernel_rfl) (by kernel_rfl) (by kernel_rfl) (by kernel_rfl) (fun _ => ⟨by kernel_rfl, by kernel_rfl⟩)
noncomputable def ti60 : TI := { ud := .slice 26, size := 1, bytes := 24, zero := (.slice none 0 0), cmp := false }
theorem ti60_ok : TOk Try.prog 60 ti60 := TOk.of (by kernel_rfl) (by kernel_rfl) (by kernel_rfl) (by kernel_rfl) (by intro h; cases h)
noncomputable def ti61 : TI := { ud := .array 25 3, size := 25, bytes := 200, zero := (.agg ⟨(reps 25 (.int .i64 (0)))⟩), cmp := false }
theorem ti61_ok : TOk Try.prog 61 ti61 := TOk.of (by kernel_rfl) (by kernel_rfl) (by kernel_rfl) (by kernel_rfl) (by intro h; cases h)
noncomputable def ti63 : TI := { ud := .array 25 61, size := 625, bytes := 5000, zero := (.agg ⟨(reps 625 (.int .i64 (0)))⟩), cmp := false }
theorem ti63_ok : TOk Try.prog 63 ti63 := TOk.of (by kernel_rfl) (by kernel_rfl) (by kernel_rfl) (by kernel_rfl) (by intro h; cases h)
noncomputable def ti64 : TI := { ud := .array 25 4, size := 25, bytes := 25, zero := (.agg ⟨(reps 25 (.bool false))⟩), cmp := false }
theorem ti64_ok : TOk Try.prog 64 ti64 := TOk.of (by kernel_rfl) (by kernel_rfl) (by kernel_rfl) (by kernel_rfl) (by intro h; cases h)
noncomputable def ti69 : TI := { ud := .func #[3] #[] false, size := 1, bytes := 8, zero := .nilFunc, cmp := false }
theorem ti69_ok : TOk Try.prog 69 ti69 := TOk.of (by kernel_rfl) (by kernel_rfl) (by kernel_rfl) (by kernel_rfl) (by intro h; cases h)
noncomputable def ti70 : TI := { ud := .slice 4, size := 1, bytes := 24, zero := (.slice none 0 0), cmp := false }
theorem ti70_ok : TOk Try.prog 70 ti70 := TOk.of (by kernel_rfl) (by kernel_rfl) (by kernel_rfl) (by kernel_rfl) (by intro h; cases h)
noncomputable def tt : T TI := (.node (.node (.node (.node (.node (.node (.node .nil (some ti63) .nil) none .nil) none .nil) none (.node (.node .nil (some ti39) .nil) (some ti23) .nil)) (some ti3) (.node .nil none (.node .nil (some ti27) .nil))) none (.node (.node .nil none (.node (.node .nil (some ti41) .nil) none .nil)) none (.node (.node (.node (.node .nil (some ti69) .nil) (some ti37) .nil) none (.node .nil (some ti53) .nil)) none (.node .nil none (.node .nil (some ti61) .nil))))) none (.node (.node (.node (.node (.node (.node .nil (some ti64) .nil) (some ti32) .nil) none .nil) none (.node .nil (some ti24) (.node .nil (some ti56) .nil))) (some ti4) (.node (.node (.node .nil (some ti36) .nil) none .nil) none (.node .nil none (.node .nil (some ti60) .nil)))) none (.node (.node .nil none (.node .nil (some ti26) .nil)) none (.node (.node (.node (.node .nil (some ti70) .nil) none .nil) (some ti22) .nil) none .nil))))
noncomputable def tl : List (Nat × TI) := [(3, ti3), (63, ti63), (23, ti23), (39, ti39), (27, ti27), (41, ti41), (37, ti37), (69, ti69), (53, ti53), (61, ti61), (4, ti4), (32, ti32), (64, ti64), (24, ti24), (56, ti56), (36, ti36), (60, ti60), (26, ti26), (22, ti22), (70, ti70)]
theorem tl_eq : tt.toL 1 0 = tl := by kernel_rfl
set_option maxRecDepth 100000 in
theorem tl_ok : ∀ p ∈ tl, TOk Try.prog p.1 p.2 := List.forall_mem_cons.2 ⟨ti3_ok, List.forall_mem_cons.2 ⟨ti63_ok, List.forall_mem_cons.2 ⟨ti23_ok, List.forall_mem_cons.2 ⟨ti39_ok, List.forall_mem_cons.2 ⟨ti27_ok, List.forall_mem_cons.2 ⟨ti41_ok, List.forall_mem_cons.2 ⟨ti37_ok, List.forall_mem_cons.2 ⟨ti69_ok, List.forall_mem_cons.2 ⟨ti53_ok, List.forall_mem_cons.2 ⟨ti61_ok, List.forall_mem_cons.2 ⟨ti4_ok, List.forall_mem_cons.2 ⟨ti32_ok, List.forall_mem_cons.2 ⟨ti64_ok, List.forall_mem_cons.2 ⟨ti24_ok, List.forall_mem_cons.2 ⟨ti56_ok, List.forall_mem_cons.2 ⟨ti36_ok, List.forall_mem_cons.2 ⟨ti60_ok, List.forall_mem_cons.2 ⟨ti26_ok, List.forall_mem_cons.2 ⟨ti22_ok, List.forall_mem_cons.2 ⟨ti70_ok, (fun _ h => by cases h)⟩⟩⟩⟩⟩⟩⟩⟩⟩⟩⟩⟩⟩⟩⟩⟩⟩⟩⟩⟩
theorem tt_ok : TTOk Try.prog tt.get := fun k i h => tl_ok (k, i) (tl_eq ▸ T.toL_get h)
theorem fn3_ok : FOk Try.prog 3 Try.f3 := ⟨⟨Try.func3, by kernel_rfl, by kernel_rfl⟩, FOk.code_of (by kernel_rfl)⟩
theorem fn4_ok : FOk Try.prog 4 Try.f4 := ⟨⟨Try.func4, by kernel_rfl, by kernel_rfl⟩, FOk.code_of (by kernel_rfl)⟩
theorem fn5_ok : FOk Try.prog 5 Try.f5 := ⟨⟨Try.func5, by kernel_rfl, by kernel_rfl⟩, FOk.code_of (by kernel_rfl)⟩
theorem fn6_ok : FOk Try.prog 6 Try.f6 := ⟨⟨Try.func6, by kernel_rfl, by kernel_rfl⟩, FOk.code_of (by kernel_rfl)⟩
theorem fn7_ok : FOk Try.prog 7 Try.f7 := ⟨⟨Try.func7, by kernel_rfl, by kernel_rfl⟩, FOk.code_of (by kernel_rfl)⟩
theorem fn8_ok : FOk Try.prog 8 Try.f8 := ⟨⟨Try.func8, by kernel_rfl, by kernel_rfl⟩, FOk.code_of (by kernel_rfl)⟩
theorem fn9_ok : FOk Try.prog 9 Try.f9 := ⟨⟨Try.func9, by kernel_rfl, by kernel_rfl⟩, FOk.code_of (by kernel_rfl)⟩
theorem fn10_ok : FOk Try.prog 10 Try.f10 := ⟨⟨Try.func10, by kernel_rfl, by kernel_rfl⟩, FOk.code_of (by kernel_rfl)⟩
theorem fn11_ok : FOk Try.prog 11 Try.f11 := ⟨⟨Try.func11, by kernel_rfl, by kernel_rfl⟩, FOk.code_of (by kernel_rfl)⟩
theorem fn12_ok : FOk Try.prog 12 Try.f12 := ⟨⟨Try.func12, by kernel_rfl, by kernel_rfl⟩, FOk.code_of (by kernel_rfl)⟩
theorem fn13_ok : FOk Try.prog 13 Try.f13 := ⟨⟨Try.func13, by kernel_rfl, by kernel_rfl⟩, FOk.code_of (by kernel_rfl)⟩
theorem fn14_ok : FOk Try.prog 14 Try.f14 := ⟨⟨Try.func14, by kernel_rfl, by kernel_rfl⟩, FOk.code_of (by kernel_rfl)⟩
theorem fn15_ok : FOk Try.prog 15 Try.f15 := ⟨⟨Try.func15, by kernel_rfl, by kernel_rfl⟩, FOk.code_of (by kernel_rfl)⟩
theorem fn16_ok : FOk Try.prog 16 Try.f16 := ⟨⟨Try.func16, by kernel_rfl, by kernel_rfl⟩, FOk.code_of (by kernel_rfl)⟩
theorem fn17_ok : FOk Try.prog 17 Try.f17 := ⟨⟨Try.func17, by kernel_rfl, by kernel_rfl⟩, FOk.code_of (by kernel_rfl)⟩
theorem fn18_ok : FOk Try.prog 18 Try.f18 := ⟨⟨Try.func18, by kernel_rfl, by kernel_rfl⟩, FOk.code_of (by kernel_rfl)⟩
theorem fn19_ok : FOk Try.prog 19 Try.f19 := ⟨⟨Try.func19, by kernel_rfl, by kernel_rfl⟩, FOk.code_of (by kernel_rfl)⟩
theorem fn20_ok : FOk Try.prog 20 Try.f20 := ⟨⟨Try.func20, by kernel_rfl, by kernel_rfl⟩, FOk.code_of (by kernel_rfl)⟩
theorem fn21_ok : FOk Try.prog 21 Try.f21 := ⟨⟨Try.func21, by kernel_rfl, by kernel_rfl⟩, FOk.code_of (by kernel_rfl)⟩
theorem fn22_ok : FOk Try.prog 22 Try.f22 := ⟨⟨Try.func22, by kernel_rfl, by kernel_rfl⟩, FOk.code_of (by kernel_rfl)⟩
theorem fn23_ok : FOk Try.prog 23 Try.f23 := ⟨⟨Try.func23, by kernel_rfl, by kernel_rfl⟩, FOk.code_of (by kernel_rfl)⟩
theorem fn24_ok : FOk Try.prog 24 Try.f24 := ⟨⟨Try.func24, by kernel_rfl, by kernel_rfl⟩, FOk.code_of (by kernel_rfl)⟩
theorem fn25_ok : FOk Try.prog 25 Try.f25 := ⟨⟨Try.func25, by kernel_rfl, by kernel_rfl⟩, FOk.code_of (by kernel_rfl)⟩
theorem fn26_ok : FOk Try.prog 26 Try.f26 := ⟨⟨Try.func26, by kernel_rfl, by kernel_rfl⟩, FOk.code_of (by kernel_rfl)⟩
theorem fn27_ok : FOk Try.prog 27 Try.f27 := ⟨⟨Try.func27, by kernel_rfl, by kernel_rfl⟩, FOk.code_of (by kernel_rfl)⟩
theorem fn28_ok : FOk Try.prog 28 Try.f28 := ⟨⟨Try.func28, by kernel_rfl, by kernel_rfl⟩, FOk.code_of (by kernel_rfl)⟩
theorem fn29_ok : FOk Try.prog 29 Try.f29 := ⟨⟨Try.func29, by kernel_rfl, by kernel_rfl⟩, FOk.code_of (by kernel_rfl)⟩
theorem fn30_ok : FOk Try.prog 30 Try.f30 := ⟨⟨Try.func30, by kernel_rfl, by kernel_rfl⟩, FOk.code_of (by kernel_rfl)⟩
theorem fn31_ok : FOk Try.prog 31 Try.f31 := ⟨⟨Try.func31, by kernel_rfl, by kernel_rfl⟩, FOk.code_of (by kernel_rfl)⟩
theorem fn32_ok : FOk Try.prog 32 Try.f32 := ⟨⟨Try.func32, by kernel_rfl, by kernel_rfl⟩, FOk.code_of (by kernel_rfl)⟩
theorem fn33_ok : FOk Try.prog 33 Try.f33 := ⟨⟨Try.func33, by kernel_rfl, by kernel_rfl⟩, FOk.code_of (by kernel_rfl)⟩
theorem fn34_ok : FOk Try.prog 34 Try.f34 := ⟨⟨Try.func34, by kernel_rfl, by kernel_rfl⟩, FOk.code_of (by kernel_rfl)⟩
theorem fn35_ok : FOk Try.prog 35 Try.f35 := ⟨⟨Try.func35, by kernel_rfl, by kernel_rfl⟩, FOk.code_of (by kernel_rfl)⟩
theorem fn36_ok : FOk Try.prog 36 Try.f36 := ⟨⟨Try.func36, by kernel_rfl, by kernel_rfl⟩, FOk.code_of (by kernel_rfl)⟩
theorem fn37_ok : FOk Try.prog 37 Try.f37 := ⟨⟨Try.func37, by kernel_rfl, by kernel_rfl⟩, FOk.code_of (by kernel_rfl)⟩
theorem fn38_ok : FOk Try.prog 38 Try.f38 := ⟨⟨Try.func38, by kernel_rfl, by kernel_rfl⟩, FOk.code_of (by kernel_rfl)⟩
theorem fn39_ok : FOk Try.prog 39 Try.f39 := ⟨⟨Try.func39, by kernel_rfl, by kernel_rfl⟩, FOk.code_of (by kernel_rfl)⟩
theorem fn40_ok : FOk Try.prog 40 Try.f40 := ⟨⟨Try.func40, by kernel_rfl, by kernel_rfl⟩, FOk.code_of (by kernel_rfl)⟩
theorem fn41_ok : FOk Try.prog 41 Try.f41 := ⟨⟨Try.func41, by kernel_rfl, by kernel_rfl⟩, FOk.code_of (by kernel_rfl)⟩
theorem fn42_ok : FOk Try.prog 42 Try.f42 := ⟨⟨Try.func42, by kernel_rfl, by kernel_rfl⟩, FOk.code_of (by kernel_rfl)⟩
theorem fn43_ok : FOk Try.prog 43 Try.f43 := ⟨⟨Try.func43, by kernel_rfl, by kernel_rfl⟩, FOk.code_of (by kernel_rfl)⟩
theorem fn44_ok : FOk Try.prog 44 Try.f44 := ⟨⟨Try.func44, by kernel_rfl, by kernel_rfl⟩, FOk.code_of (by kernel_rfl)⟩
noncomputable def ft : T Func := (.node (.node (.node (.node (.node (.node .nil (some Try.f31) .nil) (some Try.f15) .nil) (some Try.f7) (.node (.node .nil (some Try.f39) .nil) (some Try.f23) .nil)) (some Try.f3) (.node (.node (.node .nil (some Try.f35) .nil) (some Try.f19) .nil) (some Try.f11) (.node (.node .nil (some Try.f43) .nil) (some Try.f27) .nil))) none (.node (.node (.node (.node .nil (some Try.f33) .nil) (some Try.f17) .nil) (some Try.f9) (.node (.node .nil (some Try.f41) .nil) (some Try.f25) .nil)) (some Try.f5) (.node (.node (.node .nil (some Try.f37) .nil) (some Try.f21) .nil) (some Try.f13) (.node .nil (some Try.f29) .nil)))) none (.node (.node (.node (.node (.node .nil (some Try.f32) .nil) (some Try.f16) .nil) (some Try.f8) (.node (.node .nil (some Try.f40) .nil) (some Try.f24) .nil)) (some Try.f4) (.node (.node (.node .nil (some Try.f36) .nil) (some Try.f20) .nil) (some Try.f12) (.node (.node .nil (some Try.f44) .nil) (some Try.f28) .nil))) none (.node (.node (.node (.node .nil (some Try.f34) .nil) (some Try.f18) .nil) (some Try.f10) (.node (.node .nil (some Try.f42) .nil) (some Try.f26) .nil)) (some Try.f6) (.node (.node (.node .nil (some Try.f38) .nil) (some Try.f22) .nil) (some Try.f14) (.node .nil (some Try.f30) .nil)))))
noncomputable def fl : List (Nat × Func) := [(3, Try.f3), (7, Try.f7), (15, Try.f15), (31, Try.f31), (23, Try.f23), (39, Try.f39), (11, Try.f11), (19, Try.f19), (35, Try.f35), (27, Try.f27), (43, Try.f43), (5, Try.f5), (9, Try.f9), (17, Try.f17), (33, Try.f33), (25, Try.f25), (41, Try.f41), (13, Try.f13), (21, Try.f21), (37, Try.f37), (29, Try.f29), (4, Try.f4), (8, Try.f8), (16, Try.f16), (32, Try.f32), (24, Try.f24), (40, Try.f40), (12, Try.f12), (20, Try.f20), (36, Try.f36), (28, Try.f28), (44, Try.f44), (6, Try.f6), (10, Try.f10), (18, Try.f18), (34, Try.f34), (26, Try.f26), (42, Try.f42), (14, Try.f14), (22, Try.f22), (38, Try.f38), (30, Try.f30)]
theorem fl_eq : ft.toL 1 0 = fl := by kernel_rfl
set_option maxRecDepth 100000 in
theorem fl_ok : ∀ p ∈ fl, FOk Try.prog p.1 p.2 := List.forall_mem_cons.2 ⟨fn3_ok, List.forall_mem_cons.2 ⟨fn7_ok, List.forall_mem_cons.2 ⟨fn15_ok, List.forall_mem_cons.2 ⟨fn31_ok, List.forall_mem_cons.2 ⟨fn23_ok, List.forall_mem_cons.2 ⟨fn39_ok, List.forall_mem_cons.2 ⟨fn11_ok, List.forall_mem_cons.2 ⟨fn19_ok, List.forall_mem_cons.2 ⟨fn35_ok, List.forall_mem_cons.2 ⟨fn27_ok, List.forall_mem_cons.2 ⟨fn43_ok, List.forall_mem_cons.2 ⟨fn5_ok, List.forall_mem_cons.2 ⟨fn9_ok, List.forall_mem_cons.2 ⟨fn17_ok, List.forall_mem_cons.2 ⟨fn33_ok, List.forall_mem_cons.2 ⟨fn25_ok, List.forall_mem_cons.2 ⟨fn41_ok, List.forall_mem_cons.2 ⟨fn13_ok, List.forall_mem_cons.2 ⟨fn21_ok, List.forall_mem_cons.2 ⟨fn37_ok, List.forall_mem_cons.2 ⟨fn29_ok, List.forall_mem_cons.2 ⟨fn4_ok, List.forall_mem_cons.2 ⟨fn8_ok, List.forall_mem_cons.2 ⟨fn16_ok, List.forall_mem_cons.2 ⟨fn32_ok, List.forall_mem_cons.2 ⟨fn24_ok, List.forall_mem_cons.2 ⟨fn40_ok, List.forall_mem_cons.2 ⟨fn12_ok, List.forall_mem_cons.2 ⟨fn20_ok, List.forall_mem_cons.2 ⟨fn36_ok, List.forall_mem_cons.2 ⟨fn28_ok, List.forall_mem_cons.2 ⟨fn44_ok, List.forall_mem_cons.2 ⟨fn6_ok, List.forall_mem_cons.2 ⟨fn10_ok, List.forall_mem_cons.2 ⟨fn18_ok, List.forall_mem_cons.2 ⟨fn34_ok, List.forall_mem_cons.2 ⟨fn26_ok, List.forall_mem_cons.2 ⟨fn42_ok, List.forall_mem_cons.2 ⟨fn14_ok, List.forall_mem_cons.2 ⟨fn22_ok, List.forall_mem_cons.2 ⟨fn38_ok, List.forall_mem_cons.2 ⟨fn30_ok, (fun _ h => by cases h)⟩⟩⟩⟩⟩⟩⟩⟩⟩⟩⟩⟩⟩⟩⟩⟩⟩⟩⟩⟩⟩⟩⟩⟩⟩⟩⟩⟩⟩⟩⟩⟩⟩⟩⟩⟩⟩⟩⟩⟩⟩⟩
theorem ft_ok : ∀ f fn, ft.get f = some fn → FOk Try.prog f fn := fun k i h => fl_ok (k, i) (fl_eq ▸ T.toL_get h)
noncomputable def run (lf d : Nat) : Go.Dm.Callee := callD tt.get ft.get (fun cl => draw tt.get cl) lf d
theorem env (lf d : Nat) : Env Try.prog tt.get (run lf d) := callD_ok tt_ok ft_ok (fun cl E => draw_ok cl E) lf d
end Go.Proofs.Ytaenmabpekbjoaa.Dm
