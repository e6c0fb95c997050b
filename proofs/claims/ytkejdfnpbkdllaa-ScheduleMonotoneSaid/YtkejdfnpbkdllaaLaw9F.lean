/- Closed facts of the loaded program that the walks use: each is reckoned by the kernel. -/
import Derived.Test.YtkejdfnpbkdllaaVL
import Derived.Test.YtkejdfnpbkdllaaProg
import Derived.Test.YtkejdfnpbkdllaaF25
import Derived.Test.YtkejdfnpbkdllaaRemF
namespace Go.Proofs.Ytkejdfnpbkdllaa
open Go Go.RowKit Go.Proofs.YtkejdfnpbkdllaaV
theorem bs_40_3_0_1_2 : ∀ (x0_0_a : Option Addr) (x0_0_n x0_0_c : Nat) (x1_0_a : Option Addr) (x1_0_n x1_0_c : Nat) (x2_0_a : Option Addr) (x2_0_n x2_0_c : Nat), builtRow Try.prog 40 3 [(0, .slice x0_0_a x0_0_n x0_0_c), (1, .slice x1_0_a x1_0_n x1_0_c), (2, .slice x2_0_a x2_0_n x2_0_c)] = some (23, [.slice x0_0_a x0_0_n x0_0_c, .slice x1_0_a x1_0_n x1_0_c, .slice x2_0_a x2_0_n x2_0_c]) := by intros; kernel_rfl
theorem cal10 : Callable Try.prog 10 := ⟨Try.f10, Try.func10, by kernel_rfl, by kernel_rfl⟩
theorem cal11 : Callable Try.prog 11 := ⟨Try.f11, Try.func11, by kernel_rfl, by kernel_rfl⟩
theorem cal14 : Callable Try.prog 14 := ⟨Try.f14, Try.func14, by kernel_rfl, by kernel_rfl⟩
theorem cal15 : Callable Try.prog 15 := ⟨Try.f15, Try.func15, by kernel_rfl, by kernel_rfl⟩
theorem cal16 : Callable Try.prog 16 := ⟨Try.f16, Try.func16, by kernel_rfl, by kernel_rfl⟩
theorem cal31 : Callable Try.prog 31 := ⟨Try.f31, Try.func31, by kernel_rfl, by kernel_rfl⟩
theorem cal32 : Callable Try.prog 32 := ⟨Try.f32, Try.func32, by kernel_rfl, by kernel_rfl⟩
theorem cz_23 : (Nat.beq (Try.prog.cellsOf 23) 1 && !Nat.beq 1 0) = true := by kernel_rfl
end Go.Proofs.Ytkejdfnpbkdllaa
