/- Closed facts of the loaded program that the walks use: each is reckoned by the kernel. -/
import Derived.Test.YtkejdfnpbkdllaaVL
import Derived.Test.YtkejdfnpbkdllaaProg
import Derived.Test.YtkejdfnpbkdllaaF25
namespace Go.Proofs.Ytkejdfnpbkdllaa
open Go Go.RowKit Go.Proofs.YtkejdfnpbkdllaaV
theorem bu_28_0 : ∀ (x0_0_a : Option Addr) (x0_0_n x0_0_c : Nat), Try.prog.built 28 [(0, .slice x0_0_a x0_0_n x0_0_c)] = some #[.slice x0_0_a x0_0_n x0_0_c, .slice none 0 0] := by intros; kernel_rfl
theorem sz_25 : (Nat.beq (Try.prog.cellsOf 25) 1 && !Nat.beq 1 0) = true := by kernel_rfl
theorem sz_26 : (Nat.beq (Try.prog.cellsOf 26) 1 && !Nat.beq 1 0) = true := by kernel_rfl
end Go.Proofs.Ytkejdfnpbkdllaa
