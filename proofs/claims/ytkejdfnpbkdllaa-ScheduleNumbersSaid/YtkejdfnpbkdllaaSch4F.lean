/- Closed facts of the loaded program that the walks use: each is reckoned by the kernel. -/
import Derived.Test.YtkejdfnpbkdllaaVL
import Derived.Test.YtkejdfnpbkdllaaProg
import Derived.Test.YtkejdfnpbkdllaaSch3F
namespace Go.Proofs.Ytkejdfnpbkdllaa
open Go Go.RowKit Go.Proofs.YtkejdfnpbkdllaaV
theorem cal43 : Callable Try.prog 43 := ⟨Try.f43, Try.func43, by kernel_rfl, by kernel_rfl⟩
theorem cal51 : Callable Try.prog 51 := ⟨Try.f51, Try.func51, by kernel_rfl, by kernel_rfl⟩
theorem cal85 : Callable Try.prog 85 := ⟨Try.f85, Try.func85, by kernel_rfl, by kernel_rfl⟩
theorem fa_96_0 : fieldB Try.prog 96 0 0 = true := by kernel_rfl
theorem fa_96_1 : fieldB Try.prog 96 1 1 = true := by kernel_rfl
theorem fa_96_3 : fieldB Try.prog 96 3 3 = true := by kernel_rfl
theorem ld_83 : cellB Try.prog 83 = true := by kernel_rfl
theorem ld_93 : cellB Try.prog 93 = true := by kernel_rfl
end Go.Proofs.Ytkejdfnpbkdllaa
