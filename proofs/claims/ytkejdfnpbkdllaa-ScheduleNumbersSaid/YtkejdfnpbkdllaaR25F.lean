/- Closed facts of the loaded program that the walks use: each is reckoned by the kernel. -/
import Derived.Test.YtkejdfnpbkdllaaVH
import Derived.Test.YtkejdfnpbkdllaaProg
import Derived.Test.YtkejdfnpbkdllaaMillF
namespace Go.Proofs.Ytkejdfnpbkdllaa
open Go Go.RowKit Go.Proofs.YtkejdfnpbkdllaaV
theorem ag_39 : aggB Try.prog 39 4 = true := by kernel_rfl
theorem cal44 : Callable Try.prog 44 := ⟨Try.f44, Try.func44, by kernel_rfl, by kernel_rfl⟩
theorem cal45 : Callable Try.prog 45 := ⟨Try.f45, Try.func45, by kernel_rfl, by kernel_rfl⟩
theorem cz_39 : (Nat.beq (Try.prog.cellsOf 39) 4 && !Nat.beq 4 0) = true := by kernel_rfl
theorem fa_39_0 : fieldB Try.prog 39 0 0 = true := by kernel_rfl
theorem fa_39_3 : fieldB Try.prog 39 3 3 = true := by kernel_rfl
theorem sb_39 : structB Try.prog 39 [true, true, true, true] = true := by kernel_rfl
end Go.Proofs.Ytkejdfnpbkdllaa
