/- Closed facts of the loaded program that the walks use: each is reckoned by the kernel. -/
import Derived.Test.YtkejdfnpbkdllaaVK
import Derived.Test.YtkejdfnpbkdllaaProg
import Derived.Test.YtkejdfnpbkdllaaLaw26F
namespace Go.Proofs.Ytkejdfnpbkdllaa
open Go Go.RowKit Go.Proofs.YtkejdfnpbkdllaaV
theorem ag_54 : aggB Try.prog 54 7 = true := by kernel_rfl
theorem cal26 : Callable Try.prog 26 := ⟨Try.f26, Try.func26, by kernel_rfl, by kernel_rfl⟩
theorem sz_54 : (Nat.beq (Try.prog.cellsOf 54) 7 && !Nat.beq 7 0) = true := by kernel_rfl
theorem us_5 : (Try.prog.underlying 5).isSome = true := by kernel_rfl
theorem ze_54 : (Try.prog.info? 54).bind (·.zero) = some (.agg #[.int .i64 0, .int .i64 0, .int .i64 0, .int .i64 0, .int .i64 0, .int .i64 0, .int .i64 0]) := by kernel_rfl
end Go.Proofs.Ytkejdfnpbkdllaa
