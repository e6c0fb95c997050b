/- Closed facts of the loaded program that the walks use: each is reckoned by the kernel. -/
import Derived.Test.YtkejdfnpbkdllaaVL
import Derived.Test.YtkejdfnpbkdllaaProg
import Derived.Test.YtkejdfnpbkdllaaSch2F
namespace Go.Proofs.Ytkejdfnpbkdllaa
open Go Go.RowKit Go.Proofs.YtkejdfnpbkdllaaV
theorem fa_90_0 : fieldB Try.prog 90 0 0 = true := by kernel_rfl
theorem fa_90_1 : fieldB Try.prog 90 1 2 = true := by kernel_rfl
end Go.Proofs.Ytkejdfnpbkdllaa
