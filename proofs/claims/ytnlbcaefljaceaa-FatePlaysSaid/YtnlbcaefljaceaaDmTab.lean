/- The types and the functions of this translation as the abstract machine has them, and that they are the program's own. -/
import Derived.Test.YtnlbcaefljaceaaDmD
import Derived.Test.YtnlbcaefljaceaaRows
namespace Go.Proofs.Ytnlbcaefljaceaa.Dm
open Go.Dm
noncomputable def ti3 : TI := { ud := .int .i64, size := 1, bytes := 8, zero := (.int .i64 (0)), cmp := true }
theorem ti3_ok : TOk Try.prog 3 ti3 := TOk.of (by kernel_rfl) (by kernel_rfl) (by kernel_rfl) (by kernel_rfl) (fun _ => ⟨by kernel_rfl, by kernel_rfl⟩)
noncomputable def ti4 : TI := { ud := .bool, size := 1, bytes := 1, zero := (.bool false), cmp := true }
theorem ti4_ok : TOk Try.prog 4 ti4 := TOk.of (by kernel_rfl) (by kernel_rfl) (by kernel_rfl) (by kernel_rfl) (fun _ => ⟨by kernel_rfl, by kernel_rfl⟩)
noncomputable def ti5 : TI := { ud := .int .u8, size := 1, bytes := 1, zero := (.int .u8 (0)), cmp := false }
theorem ti5_ok : TOk Try.prog 5 ti5 := TOk.of (by kernel_rfl) (by kernel_rfl) (by kernel_rfl) (by kernel_rfl) (by intro h; cases h)
noncomputable def ti20 : TI := { ud := .interface #[], size := 1, bytes := 16, zero := .nilIface, cmp := false }
theorem ti20_ok : TOk Try.prog 20 ti20 := TOk.of (by kernel_rfl) (by kernel_rfl) (by kernel_rfl) (by kernel_rfl) (by intro h; cases h)
noncomputable def ti22 : TI := { ud := .slice 57, size := 1, bytes := 24, zero := (.slice none 0 0), cmp := false }
theorem ti22_ok : TOk Try.prog 22 ti22 := TOk.of (by kernel_rfl) (by kernel_rfl) (by kernel_rfl) (by kernel_rfl) (by intro h; cases h)
noncomputable def ti23 : TI := { ud := .slice 33, size := 1, bytes := 24, zero := (.slice none 0 0), cmp := false }
theorem ti23_ok : TOk Try.prog 23 ti23 := TOk.of (by kernel_rfl) (by kernel_rfl) (by kernel_rfl) (by kernel_rfl) (by intro h; cases h)
noncomputable def ti24 : TI := { ud := .slice 27, size := 1, bytes := 24, zero := (.slice none 0 0), cmp := false }
theorem ti24_ok : TOk Try.prog 24 ti24 := TOk.of (by kernel_rfl) (by kernel_rfl) (by kernel_rfl) (by kernel_rfl) (by intro h; cases h)
noncomputable def ti27 : TI := { ud := .struct #[{ name := "From", type := 3, offset := 0, embedded := false, tag := "", pkgPath := "", byteOffset := 0 }, { name := "To", type := 3, offset := 1, embedded := false, tag := "", pkgPath := "", byteOffset := 8 }, { name := "Nth", type := 3, offset := 2, embedded := false, tag := "", pkgPath := "", byteOffset := 16 }, { name := "Kind", type := 3, offset := 3, embedded := false, tag := "", pkgPath := "", byteOffset := 24 }, { name := "By", type := 3, offset := 4, embedded := false, tag := "", pkgPath := "", byteOffset := 32 }], size := 5, bytes := 40, zero := (.agg ⟨[(.int .i64 (0)), (.int .i64 (0)), (.int .i64 (0)), (.int .i64 (0)), (.int .i64 (0))]⟩), cmp := true }
theorem ti27_ok : TOk Try.prog 27 ti27 := TOk.of (by kernel_rfl) (by kernel_rfl) (by kernel_rfl) (by kernel_rfl) (fun _ => ⟨by kernel_rfl, by kernel_rfl⟩)
noncomputable def ti28 : TI := { ud := .pointer 64, size := 1, bytes := 8, zero := (.pointer none), cmp := true }
theorem ti28_ok : TOk Try.prog 28 ti28 := TOk.of (by kernel_rfl) (by kernel_rfl) (by kernel_rfl) (by kernel_rfl) (fun _ => ⟨by kernel_rfl, by kernel_rfl⟩)
noncomputable def ti29 : TI := { ud := .int .i64, size := 1, bytes := 8, zero := (.int .i64 (0)), cmp := true }
theorem ti29_ok : TOk Try.prog 29 ti29 := TOk.of (by kernel_rfl) (by kernel_rfl) (by kernel_rfl) (by kernel_rfl) (fun _ => ⟨by kernel_rfl, by kernel_rfl⟩)
noncomputable def ti32 : TI := { ud := .slice 3, size := 1, bytes := 24, zero := (.slice none 0 0), cmp := false }
theorem ti32_ok : TOk Try.prog 32 ti32 := TOk.of (by kernel_rfl) (by kernel_rfl) (by kernel_rfl) (by kernel_rfl) (by intro h; cases h)
noncomputable def ti33 : TI := { ud := .array 2 5, size := 2, bytes := 2, zero := (.agg ⟨[(.int .u8 (0)), (.int .u8 (0))]⟩), cmp := false }
theorem ti33_ok : TOk Try.prog 33 ti33 := TOk.of (by kernel_rfl) (by kernel_rfl) (by kernel_rfl) (by kernel_rfl) (by intro h; cases h)
noncomputable def ti35 : TI := { ud := .struct #[{ name := "Copies", type := 3, offset := 0, embedded := false, tag := "", pkgPath := "", byteOffset := 0 }, { name := "Late", type := 3, offset := 1, embedded := false, tag := "", pkgPath := "", byteOffset := 8 }, { name := "Second", type := 3, offset := 2, embedded := false, tag := "", pkgPath := "", byteOffset := 16 }], size := 3, bytes := 24, zero := (.agg ⟨[(.int .i64 (0)), (.int .i64 (0)), (.int .i64 (0))]⟩), cmp := true }
theorem ti35_ok : TOk Try.prog 35 ti35 := TOk.of (by kernel_rfl) (by kernel_rfl) (by kernel_rfl) (by kernel_rfl) (fun _ => ⟨by kernel_rfl, by kernel_rfl⟩)
noncomputable def ti42 : TI := { ud := .slice 48, size := 1, bytes := 24, zero := (.slice none 0 0), cmp := false }
theorem ti42_ok : TOk Try.prog 42 ti42 := TOk.of (by kernel_rfl) (by kernel_rfl) (by kernel_rfl) (by kernel_rfl) (by intro h; cases h)
noncomputable def ti45 : TI := { ud := .slice 72, size := 1, bytes := 24, zero := (.slice none 0 0), cmp := false }
theorem ti45_ok : TOk Try.prog 45 ti45 := TOk.of (by kernel_rfl) (by kernel_rfl) (by kernel_rfl) (by kernel_rfl) (by intro h; cases h)
noncomputable def ti47 : TI := { ud := .struct #[{ name := "Rules", type := 24, offset := 0, embedded := false, tag := "", pkgPath := "", byteOffset := 0 }, { name := "Asked", type := 45, offset := 1, embedded := false, tag := "", pkgPath := "", byteOffset := 24 }], size := 2, bytes := 48, zero := (.agg ⟨[(.slice none 0 0), (.slice none 0 0)]⟩), cmp := false }
theorem ti47_ok : TOk Try.prog 47 ti47 := TOk.of (by kernel_rfl) (by kernel_rfl) (by kernel_rfl) (by kernel_rfl) (by intro h; cases h)
noncomputable def ti48 : TI := { ud := .array 2 3, size := 2, bytes := 16, zero := (.agg ⟨[(.int .i64 (0)), (.int .i64 (0))]⟩), cmp := false }
theorem ti48_ok : TOk Try.prog 48 ti48 := TOk.of (by kernel_rfl) (by kernel_rfl) (by kernel_rfl) (by kernel_rfl) (by intro h; cases h)
noncomputable def ti57 : TI := { ud := .struct #[{ name := "From", type := 5, offset := 0, embedded := false, tag := "", pkgPath := "", byteOffset := 0 }, { name := "To", type := 5, offset := 1, embedded := false, tag := "", pkgPath := "", byteOffset := 1 }, { name := "Nth", type := 5, offset := 2, embedded := false, tag := "", pkgPath := "", byteOffset := 2 }, { name := "Kind", type := 5, offset := 3, embedded := false, tag := "", pkgPath := "", byteOffset := 3 }, { name := "By", type := 5, offset := 4, embedded := false, tag := "", pkgPath := "", byteOffset := 4 }], size := 5, bytes := 5, zero := (.agg ⟨[(.int .u8 (0)), (.int .u8 (0)), (.int .u8 (0)), (.int .u8 (0)), (.int .u8 (0))]⟩), cmp := false }
theorem ti57_ok : TOk Try.prog 57 ti57 := TOk.of (by kernel_rfl) (by kernel_rfl) (by kernel_rfl) (by kernel_rfl) (by intro h; cases h)
noncomputable def ti58 : TI := { ud := .map 67 27, size := 1, bytes := 8, zero := (.map none), cmp := true }
theorem ti58_ok : TOk Try.prog 58 ti58 := TOk.of (by kernel_rfl) (by kernel_rfl) (by kernel_rfl) (by kernel_rfl) (fun _ => ⟨by kernel_rfl, by kernel_rfl⟩)
noncomputable def ti61 : TI := { ud := .array 25 3, size := 25, bytes := 200, zero := (.agg ⟨(reps 25 (.int .i64 (0)))⟩), cmp := false }
theorem ti61_ok : TOk Try.prog 61 ti61 := TOk.of (by kernel_rfl) (by kernel_rfl) (by kernel_rfl) (by kernel_rfl) (by intro h; cases h)
noncomputable def ti62 : TI := { ud := .array 25 61, size := 625, bytes := 5000, zero := (.agg ⟨(reps 625 (.int .i64 (0)))⟩), cmp := false }
theorem ti62_ok : TOk Try.prog 62 ti62 := TOk.of (by kernel_rfl) (by kernel_rfl) (by kernel_rfl) (by kernel_rfl) (by intro h; cases h)
noncomputable def ti64 : TI := { ud := .struct #[{ name := "rules", type := 58, offset := 0, embedded := false, tag := "", pkgPath := "dandelion/fate", byteOffset := 0 }, { name := "asked", type := 62, offset := 1, embedded := false, tag := "", pkgPath := "dandelion/fate", byteOffset := 8 }], size := 626, bytes := 5008, zero := (.agg ⟨([(.map none)] ++ reps 625 (.int .i64 (0)))⟩), cmp := false }
theorem ti64_ok : TOk Try.prog 64 ti64 := TOk.of (by kernel_rfl) (by kernel_rfl) (by kernel_rfl) (by kernel_rfl) (by intro h; cases h)
noncomputable def ti67 : TI := { ud := .struct #[{ name := "from", type := 3, offset := 0, embedded := false, tag := "", pkgPath := "dandelion/fate", byteOffset := 0 }, { name := "to", type := 3, offset := 1, embedded := false, tag := "", pkgPath := "dandelion/fate", byteOffset := 8 }, { name := "nth", type := 3, offset := 2, embedded := false, tag := "", pkgPath := "dandelion/fate", byteOffset := 16 }], size := 3, bytes := 24, zero := (.agg ⟨[(.int .i64 (0)), (.int .i64 (0)), (.int .i64 (0))]⟩), cmp := true }
theorem ti67_ok : TOk Try.prog 67 ti67 := TOk.of (by kernel_rfl) (by kernel_rfl) (by kernel_rfl) (by kernel_rfl) (fun _ => ⟨by kernel_rfl, by kernel_rfl⟩)
noncomputable def ti72 : TI := { ud := .struct #[{ name := "From", type := 3, offset := 0, embedded := false, tag := "", pkgPath := "", byteOffset := 0 }, { name := "To", type := 3, offset := 1, embedded := false, tag := "", pkgPath := "", byteOffset := 8 }], size := 2, bytes := 16, zero := (.agg ⟨[(.int .i64 (0)), (.int .i64 (0))]⟩), cmp := false }
theorem ti72_ok : TOk Try.prog 72 ti72 := TOk.of (by kernel_rfl) (by kernel_rfl) (by kernel_rfl) (by kernel_rfl) (by intro h; cases h)
noncomputable def tt : T TI := (.node (.node (.node (.node (.node .nil none (.node .nil (some ti47) .nil)) none (.node .nil (some ti23) .nil)) (some ti3) (.node (.node (.node (.node .nil (some ti67) .nil) (some ti35) .nil) none .nil) none (.node .nil (some ti27) .nil))) none (.node (.node (.node (.node .nil (some ti33) .nil) none .nil) none (.node .nil none (.node .nil (some ti57) .nil))) (some ti5) (.node .nil none (.node (.node .nil (some ti45) .nil) (some ti29) (.node .nil (some ti61) .nil))))) none (.node (.node (.node (.node (.node (.node .nil (some ti64) .nil) (some ti32) .nil) none (.node .nil (some ti48) .nil)) none (.node (.node (.node .nil (some ti72) .nil) none .nil) (some ti24) .nil)) (some ti4) (.node (.node .nil (some ti20) .nil) none (.node .nil (some ti28) .nil))) none (.node (.node .nil none (.node (.node .nil (some ti42) .nil) none (.node .nil (some ti58) .nil))) none (.node (.node .nil (some ti22) .nil) none (.node .nil none (.node .nil (some ti62) .nil))))))
noncomputable def tl : List (Nat × TI) := [(3, ti3), (47, ti47), (23, ti23), (35, ti35), (67, ti67), (27, ti27), (5, ti5), (33, ti33), (57, ti57), (29, ti29), (45, ti45), (61, ti61), (4, ti4), (32, ti32), (64, ti64), (48, ti48), (24, ti24), (72, ti72), (20, ti20), (28, ti28), (42, ti42), (58, ti58), (22, ti22), (62, ti62)]
theorem tl_eq : tt.toL 1 0 = tl := by kernel_rfl
set_option maxRecDepth 100000 in
theorem tl_ok : ∀ p ∈ tl, TOk Try.prog p.1 p.2 := List.forall_mem_cons.2 ⟨ti3_ok, List.forall_mem_cons.2 ⟨ti47_ok, List.forall_mem_cons.2 ⟨ti23_ok, List.forall_mem_cons.2 ⟨ti35_ok, List.forall_mem_cons.2 ⟨ti67_ok, List.forall_mem_cons.2 ⟨ti27_ok, List.forall_mem_cons.2 ⟨ti5_ok, List.forall_mem_cons.2 ⟨ti33_ok, List.forall_mem_cons.2 ⟨ti57_ok, List.forall_mem_cons.2 ⟨ti29_ok, List.forall_mem_cons.2 ⟨ti45_ok, List.forall_mem_cons.2 ⟨ti61_ok, List.forall_mem_cons.2 ⟨ti4_ok, List.forall_mem_cons.2 ⟨ti32_ok, List.forall_mem_cons.2 ⟨ti64_ok, List.forall_mem_cons.2 ⟨ti48_ok, List.forall_mem_cons.2 ⟨ti24_ok, List.forall_mem_cons.2 ⟨ti72_ok, List.forall_mem_cons.2 ⟨ti20_ok, List.forall_mem_cons.2 ⟨ti28_ok, List.forall_mem_cons.2 ⟨ti42_ok, List.forall_mem_cons.2 ⟨ti58_ok, List.forall_mem_cons.2 ⟨ti22_ok, List.forall_mem_cons.2 ⟨ti62_ok, (fun _ h => by cases h)⟩⟩⟩⟩⟩⟩⟩⟩⟩⟩⟩⟩⟩⟩⟩⟩⟩⟩⟩⟩⟩⟩⟩⟩
theorem tt_ok : TTOk Try.prog tt.get := fun k i h => tl_ok (k, i) (tl_eq ▸ T.toL_get h)
theorem fn3_ok : FOk Try.prog 3 Try.f3 := ⟨⟨Try.func3, by kernel_rfl, by kernel_rfl⟩, FOk.code_of (by kernel_rfl)⟩
theorem fn4_ok : FOk Try.prog 4 Try.f4 := ⟨⟨Try.func4, by kernel_rfl, by kernel_rfl⟩, FOk.code_of (by kernel_rfl)⟩
theorem fn5_ok : FOk Try.prog 5 Try.f5 := ⟨⟨Try.func5, by kernel_rfl, by kernel_rfl⟩, FOk.code_of (by kernel_rfl)⟩
theorem fn6_ok : FOk Try.prog 6 Try.f6 := ⟨⟨Try.func6, by kernel_rfl, by kernel_rfl⟩, FOk.code_of (by kernel_rfl)⟩
theorem fn7_ok : FOk Try.prog 7 Try.f7 := ⟨⟨Try.func7, by kernel_rfl, by kernel_rfl⟩, FOk.code_of (by kernel_rfl)⟩
theorem fn8_ok : FOk Try.prog 8 Try.f8 := ⟨⟨Try.func8, by kernel_rfl, by kernel_rfl⟩, FOk.code_of (by kernel_rfl)⟩
theorem fn9_ok : FOk Try.prog 9 Try.f9 := ⟨⟨Try.func9, by kernel_rfl, by kernel_rfl⟩, FOk.code_of (by kernel_rfl)⟩
theorem fn10_ok : FOk Try.prog 10 Try.f10 := ⟨⟨Try.func10, by kernel_rfl, by kernel_rfl⟩, FOk.code_of (by kernel_rfl)⟩
theorem fn11_ok : FOk Try.prog 11 Try.f11 := ⟨⟨Try.func11, by kernel_rfl, by kernel_rfl⟩, FOk.code_of (by kernel_rfl)⟩
theorem fn12_ok : FOk Try.prog 12 Try.f12 := ⟨⟨Try.func12, by kernel_rfl, by kernel_rfl⟩, FOk.code_of (by kernel_rfl)⟩
theorem fn13_ok : FOk Try.prog 13 Try.f13 := ⟨⟨Try.func13, by kernel_rfl, by kernel_rfl⟩, FOk.code_of (by kernel_rfl)⟩
theorem fn14_ok : FOk Try.prog 14 Try.f14 := ⟨⟨Try.func14, by kernel_rfl, by kernel_rfl⟩, FOk.code_of (by kernel_rfl)⟩
theorem fn15_ok : FOk Try.prog 15 Try.f15 := ⟨⟨Try.func15, by kernel_rfl, by kernel_rfl⟩, FOk.code_of (by kernel_rfl)⟩
theorem fn16_ok : FOk Try.prog 16 Try.f16 := ⟨⟨Try.func16, by kernel_rfl, by kernel_rfl⟩, FOk.code_of (by kernel_rfl)⟩
theorem fn17_ok : FOk Try.prog 17 Try.f17 := ⟨⟨Try.func17, by kernel_rfl, by kernel_rfl⟩, FOk.code_of (by kernel_rfl)⟩
theorem fn18_ok : FOk Try.prog 18 Try.f18 := ⟨⟨Try.func18, by kernel_rfl, by kernel_rfl⟩, FOk.code_of (by kernel_rfl)⟩
theorem fn19_ok : FOk Try.prog 19 Try.f19 := ⟨⟨Try.func19, by kernel_rfl, by kernel_rfl⟩, FOk.code_of (by kernel_rfl)⟩
theorem fn20_ok : FOk Try.prog 20 Try.f20 := ⟨⟨Try.func20, by kernel_rfl, by kernel_rfl⟩, FOk.code_of (by kernel_rfl)⟩
theorem fn21_ok : FOk Try.prog 21 Try.f21 := ⟨⟨Try.func21, by kernel_rfl, by kernel_rfl⟩, FOk.code_of (by kernel_rfl)⟩
theorem fn22_ok : FOk Try.prog 22 Try.f22 := ⟨⟨Try.func22, by kernel_rfl, by kernel_rfl⟩, FOk.code_of (by kernel_rfl)⟩
theorem fn23_ok : FOk Try.prog 23 Try.f23 := ⟨⟨Try.func23, by kernel_rfl, by kernel_rfl⟩, FOk.code_of (by kernel_rfl)⟩
theorem fn24_ok : FOk Try.prog 24 Try.f24 := ⟨⟨Try.func24, by kernel_rfl, by kernel_rfl⟩, FOk.code_of (by kernel_rfl)⟩
theorem fn25_ok : FOk Try.prog 25 Try.f25 := ⟨⟨Try.func25, by kernel_rfl, by kernel_rfl⟩, FOk.code_of (by kernel_rfl)⟩
theorem fn26_ok : FOk Try.prog 26 Try.f26 := ⟨⟨Try.func26, by kernel_rfl, by kernel_rfl⟩, FOk.code_of (by kernel_rfl)⟩
theorem fn27_ok : FOk Try.prog 27 Try.f27 := ⟨⟨Try.func27, by kernel_rfl, by kernel_rfl⟩, FOk.code_of (by kernel_rfl)⟩
noncomputable def ft : T Func := (.node (.node (.node (.node (.node .nil (some Try.f15) .nil) (some Try.f7) (.node .nil (some Try.f23) .nil)) (some Try.f3) (.node (.node .nil (some Try.f19) .nil) (some Try.f11) (.node .nil (some Try.f27) .nil))) none (.node (.node (.node .nil (some Try.f17) .nil) (some Try.f9) (.node .nil (some Try.f25) .nil)) (some Try.f5) (.node (.node .nil (some Try.f21) .nil) (some Try.f13) .nil))) none (.node (.node (.node (.node .nil (some Try.f16) .nil) (some Try.f8) (.node .nil (some Try.f24) .nil)) (some Try.f4) (.node (.node .nil (some Try.f20) .nil) (some Try.f12) .nil)) none (.node (.node (.node .nil (some Try.f18) .nil) (some Try.f10) (.node .nil (some Try.f26) .nil)) (some Try.f6) (.node (.node .nil (some Try.f22) .nil) (some Try.f14) .nil))))
noncomputable def fl : List (Nat × Func) := [(3, Try.f3), (7, Try.f7), (15, Try.f15), (23, Try.f23), (11, Try.f11), (19, Try.f19), (27, Try.f27), (5, Try.f5), (9, Try.f9), (17, Try.f17), (25, Try.f25), (13, Try.f13), (21, Try.f21), (4, Try.f4), (8, Try.f8), (16, Try.f16), (24, Try.f24), (12, Try.f12), (20, Try.f20), (6, Try.f6), (10, Try.f10), (18, Try.f18), (26, Try.f26), (14, Try.f14), (22, Try.f22)]
theorem fl_eq : ft.toL 1 0 = fl := by kernel_rfl
set_option maxRecDepth 100000 in
theorem fl_ok : ∀ p ∈ fl, FOk Try.prog p.1 p.2 := List.forall_mem_cons.2 ⟨fn3_ok, List.forall_mem_cons.2 ⟨fn7_ok, List.forall_mem_cons.2 ⟨fn15_ok, List.forall_mem_cons.2 ⟨fn23_ok, List.forall_mem_cons.2 ⟨fn11_ok, List.forall_mem_cons.2 ⟨fn19_ok, List.forall_mem_cons.2 ⟨fn27_ok, List.forall_mem_cons.2 ⟨fn5_ok, List.forall_mem_cons.2 ⟨fn9_ok, List.forall_mem_cons.2 ⟨fn17_ok, List.forall_mem_cons.2 ⟨fn25_ok, List.forall_mem_cons.2 ⟨fn13_ok, List.forall_mem_cons.2 ⟨fn21_ok, List.forall_mem_cons.2 ⟨fn4_ok, List.forall_mem_cons.2 ⟨fn8_ok, List.forall_mem_cons.2 ⟨fn16_ok, List.forall_mem_cons.2 ⟨fn24_ok, List.forall_mem_cons.2 ⟨fn12_ok, List.forall_mem_cons.2 ⟨fn20_ok, List.forall_mem_cons.2 ⟨fn6_ok, List.forall_mem_cons.2 ⟨fn10_ok, List.forall_mem_cons.2 ⟨fn18_ok, List.forall_mem_cons.2 ⟨fn26_ok, List.forall_mem_cons.2 ⟨fn14_ok, List.forall_mem_cons.2 ⟨fn22_ok, (fun _ h => by cases h)⟩⟩⟩⟩⟩⟩⟩⟩⟩⟩⟩⟩⟩⟩⟩⟩⟩⟩⟩⟩⟩⟩⟩⟩⟩
theorem ft_ok : ∀ f fn, ft.get f = some fn → FOk Try.prog f fn := fun k i h => fl_ok (k, i) (fl_eq ▸ T.toL_get h)
noncomputable def run (lf d : Nat) : Go.Dm.Callee := callD tt.get ft.get (fun cl => draw tt.get cl) lf d
theorem env (lf d : Nat) : Env Try.prog tt.get (run lf d) := callD_ok tt_ok ft_ok (fun cl E => draw_ok cl E) lf d
end Go.Proofs.Ytnlbcaefljaceaa.Dm
