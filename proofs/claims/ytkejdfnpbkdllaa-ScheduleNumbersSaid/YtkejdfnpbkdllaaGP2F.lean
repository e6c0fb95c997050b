/- Closed facts of the loaded program that the walks use: each is reckoned by the kernel. -/
import Derived.Test.YtkejdfnpbkdllaaVK
import Derived.Test.YtkejdfnpbkdllaaProg
import Derived.Test.YtkejdfnpbkdllaaGPF
namespace Go.Proofs.Ytkejdfnpbkdllaa
open Go Go.RowKit Go.Proofs.YtkejdfnpbkdllaaV
theorem cal72 : Callable Try.prog 72 := ⟨Try.f72, Try.func72, by kernel_rfl, by kernel_rfl⟩
theorem cal87 : Callable Try.prog 87 := ⟨Try.f87, Try.func87, by kernel_rfl, by kernel_rfl⟩
theorem cal88 : Callable Try.prog 88 := ⟨Try.f88, Try.func88, by kernel_rfl, by kernel_rfl⟩
theorem ld_129 : cellB Try.prog 129 = true := by kernel_rfl
theorem ld_88 : cellB Try.prog 88 = true := by kernel_rfl
theorem sz_129 : (Nat.beq (Try.prog.cellsOf 129) 1 && !Nat.beq 1 0) = true := by kernel_rfl
theorem sz_88 : (Nat.beq (Try.prog.cellsOf 88) 1 && !Nat.beq 1 0) = true := by kernel_rfl
theorem ze_129 : (Try.prog.info? 129).bind (·.zero) = some (.map none) := by kernel_rfl
theorem ze_3 : (Try.prog.info? 3).bind (·.zero) = some (.int .i64 0) := by kernel_rfl
theorem ze_4 : (Try.prog.info? 4).bind (·.zero) = some (.bool false) := by kernel_rfl
theorem ze_88 : (Try.prog.info? 88).bind (·.zero) = some (.map none) := by kernel_rfl
end Go.Proofs.Ytkejdfnpbkdllaa
