/- Closed facts of the loaded program that the walks use: each is reckoned by the kernel. -/
import Derived.Test.YtkejdfnpbkdllaaVL
import Derived.Test.YtkejdfnpbkdllaaProg
import Derived.Test.YtkejdfnpbkdllaaSch5F
namespace Go.Proofs.Ytkejdfnpbkdllaa
open Go Go.RowKit Go.Proofs.YtkejdfnpbkdllaaV
theorem bu_96_0_2_3 : ∀ (x0_0_p : Option Addr) (x2_0_a : Option Addr) (x2_0_n x2_0_c : Nat) (x3_0_a : Option Addr) (x3_0_n x3_0_c : Nat), Try.prog.built 96 [(0, .pointer x0_0_p), (2, .slice x2_0_a x2_0_n x2_0_c), (3, .slice x3_0_a x3_0_n x3_0_c)] = some #[.pointer x0_0_p, .int .i64 0, .slice x2_0_a x2_0_n x2_0_c, .slice x3_0_a x3_0_n x3_0_c, .slice none 0 0] := by intros; kernel_rfl
theorem cal39 : Callable Try.prog 39 := ⟨Try.f39, Try.func39, by kernel_rfl, by kernel_rfl⟩
theorem cal40 : Callable Try.prog 40 := ⟨Try.f40, Try.func40, by kernel_rfl, by kernel_rfl⟩
theorem cal41 : Callable Try.prog 41 := ⟨Try.f41, Try.func41, by kernel_rfl, by kernel_rfl⟩
theorem cal46 : Callable Try.prog 46 := ⟨Try.f46, Try.func46, by kernel_rfl, by kernel_rfl⟩
theorem cal47 : Callable Try.prog 47 := ⟨Try.f47, Try.func47, by kernel_rfl, by kernel_rfl⟩
end Go.Proofs.Ytkejdfnpbkdllaa
