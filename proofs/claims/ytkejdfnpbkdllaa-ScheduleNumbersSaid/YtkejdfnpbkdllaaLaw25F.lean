/- Closed facts of the loaded program that the walks use: each is reckoned by the kernel. -/
import Derived.Test.YtkejdfnpbkdllaaVL
import Derived.Test.YtkejdfnpbkdllaaProg
import Derived.Test.YtkejdfnpbkdllaaSch6F
namespace Go.Proofs.Ytkejdfnpbkdllaa
open Go Go.RowKit Go.Proofs.YtkejdfnpbkdllaaV
theorem bs_22_2_0_1 : ∀ (x0_0 : Int) (x1_0 : Int), builtRow Try.prog 22 2 [(0, .int .i64 x0_0), (1, .int .i64 x1_0)] = some (3, [.int .i64 x0_0, .int .i64 x1_0]) := by intros; kernel_rfl
theorem bs_22_3_0_1_2 : ∀ (x0_0 : Int) (x1_0 : Int) (x2_0 : Int), builtRow Try.prog 22 3 [(0, .int .i64 x0_0), (1, .int .i64 x1_0), (2, .int .i64 x2_0)] = some (3, [.int .i64 x0_0, .int .i64 x1_0, .int .i64 x2_0]) := by intros; kernel_rfl
theorem bs_25_3_0_1_2 : ∀ (x0_0 : Int) (x0_1 : Int) (x0_2 : Int) (x0_3 : Int) (x1_0 : Int) (x1_1 : Int) (x1_2 : Int) (x1_3 : Int) (x2_0 : Int) (x2_1 : Int) (x2_2 : Int) (x2_3 : Int), builtRow Try.prog 25 3 [(0, .agg #[.int .i64 x0_0, .int .i64 x0_1, .int .i64 x0_2, .int .i64 x0_3]), (1, .agg #[.int .i64 x1_0, .int .i64 x1_1, .int .i64 x1_2, .int .i64 x1_3]), (2, .agg #[.int .i64 x2_0, .int .i64 x2_1, .int .i64 x2_2, .int .i64 x2_3])] = some (70, [.int .i64 x0_0, .int .i64 x0_1, .int .i64 x0_2, .int .i64 x0_3, .int .i64 x1_0, .int .i64 x1_1, .int .i64 x1_2, .int .i64 x1_3, .int .i64 x2_0, .int .i64 x2_1, .int .i64 x2_2, .int .i64 x2_3]) := by intros; kernel_rfl
theorem bs_26_2_0_1 : ∀ (x0_0 : Int) (x0_1 : Int) (x0_2 : Int) (x0_3 : Int) (x1_0 : Int) (x1_1 : Int) (x1_2 : Int) (x1_3 : Int), builtRow Try.prog 26 2 [(0, .agg #[.int .i64 x0_0, .int .i64 x0_1, .int .i64 x0_2, .int .i64 x0_3]), (1, .agg #[.int .i64 x1_0, .int .i64 x1_1, .int .i64 x1_2, .int .i64 x1_3])] = some (61, [.int .i64 x0_0, .int .i64 x0_1, .int .i64 x0_2, .int .i64 x0_3, .int .i64 x1_0, .int .i64 x1_1, .int .i64 x1_2, .int .i64 x1_3]) := by intros; kernel_rfl
theorem bu_61_0_2 : ∀ (x0_0 : Int) (x2_0 : Int), Try.prog.built 61 [(0, .int .i64 x0_0), (2, .int .i64 x2_0)] = some #[.int .i64 x0_0, .int .i64 0, .int .i64 x2_0, .int .i64 0] := by intros; kernel_rfl
theorem bu_70_0_1_2_3 : ∀ (x0_0 : Int) (x1_0 : Int) (x2_0 : Int) (x3_0 : Int), Try.prog.built 70 [(0, .int .i64 x0_0), (1, .int .i64 x1_0), (2, .int .i64 x2_0), (3, .int .i64 x3_0)] = some #[.int .i64 x0_0, .int .i64 x1_0, .int .i64 x2_0, .int .i64 x3_0] := by intros; kernel_rfl
theorem bu_70_0_1_3 : ∀ (x0_0 : Int) (x1_0 : Int) (x3_0 : Int), Try.prog.built 70 [(0, .int .i64 x0_0), (1, .int .i64 x1_0), (3, .int .i64 x3_0)] = some #[.int .i64 x0_0, .int .i64 x1_0, .int .i64 0, .int .i64 x3_0] := by intros; kernel_rfl
theorem cal10 : Callable Try.prog 10 := ⟨Try.f10, Try.func10, by kernel_rfl, by kernel_rfl⟩
theorem cal11 : Callable Try.prog 11 := ⟨Try.f11, Try.func11, by kernel_rfl, by kernel_rfl⟩
theorem cal14 : Callable Try.prog 14 := ⟨Try.f14, Try.func14, by kernel_rfl, by kernel_rfl⟩
theorem cal17 : Callable Try.prog 17 := ⟨Try.f17, Try.func17, by kernel_rfl, by kernel_rfl⟩
theorem cal18 : Callable Try.prog 18 := ⟨Try.f18, Try.func18, by kernel_rfl, by kernel_rfl⟩
theorem cal19 : Callable Try.prog 19 := ⟨Try.f19, Try.func19, by kernel_rfl, by kernel_rfl⟩
theorem cal20 : Callable Try.prog 20 := ⟨Try.f20, Try.func20, by kernel_rfl, by kernel_rfl⟩
theorem cal27 : Callable Try.prog 27 := ⟨Try.f27, Try.func27, by kernel_rfl, by kernel_rfl⟩
theorem cal28 : Callable Try.prog 28 := ⟨Try.f28, Try.func28, by kernel_rfl, by kernel_rfl⟩
theorem cal30 : Callable Try.prog 30 := ⟨Try.f30, Try.func30, by kernel_rfl, by kernel_rfl⟩
end Go.Proofs.Ytkejdfnpbkdllaa
