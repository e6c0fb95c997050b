/- Closed facts of the loaded program that the walks use: each is reckoned by the kernel. -/
import Derived.Test.YtkejdfnpbkdllaaVK
import Derived.Test.YtkejdfnpbkdllaaProg
import Derived.Test.YtkejdfnpbkdllaaR25bF
namespace Go.Proofs.Ytkejdfnpbkdllaa
open Go Go.RowKit Go.Proofs.YtkejdfnpbkdllaaV
theorem bs_22_4_0_1_2_3 : ∀ (x0_0 : Int) (x1_0 : Int) (x2_0 : Int) (x3_0 : Int), builtRow Try.prog 22 4 [(0, .int .i64 x0_0), (1, .int .i64 x1_0), (2, .int .i64 x2_0), (3, .int .i64 x3_0)] = some (3, [.int .i64 x0_0, .int .i64 x1_0, .int .i64 x2_0, .int .i64 x3_0]) := by intros; kernel_rfl
theorem cal49 : Callable Try.prog 49 := ⟨Try.f49, Try.func49, by kernel_rfl, by kernel_rfl⟩
theorem cal75 : Callable Try.prog 75 := ⟨Try.f75, Try.func75, by kernel_rfl, by kernel_rfl⟩
theorem cal86 : Callable Try.prog 86 := ⟨Try.f86, Try.func86, by kernel_rfl, by kernel_rfl⟩
theorem f1_70_1 : fieldB1 Try.prog 70 1 1 = true := by kernel_rfl
theorem f1_70_2 : fieldB1 Try.prog 70 2 2 = true := by kernel_rfl
theorem f1_70_3 : fieldB1 Try.prog 70 3 3 = true := by kernel_rfl
end Go.Proofs.Ytkejdfnpbkdllaa
