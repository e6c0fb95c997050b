/- Closed facts of the loaded program that the walks use: each is reckoned by the kernel. -/
import Derived.Test.YtkejdfnpbkdllaaVH
import Derived.Test.YtkejdfnpbkdllaaProg
import Derived.Test.YtkejdfnpbkdllaaG22bF
namespace Go.Proofs.Ytkejdfnpbkdllaa
open Go Go.RowKit Go.Proofs.YtkejdfnpbkdllaaV
theorem bu_61_0_1_2_3 : ∀ (x0_0 : Int) (x1_0 : Int) (x2_0 : Int) (x3_0 : Int), Try.prog.built 61 [(0, .int .i64 x0_0), (1, .int .i64 x1_0), (2, .int .i64 x2_0), (3, .int .i64 x3_0)] = some #[.int .i64 x0_0, .int .i64 x1_0, .int .i64 x2_0, .int .i64 x3_0] := by intros; kernel_rfl
theorem bu_70_0_1 : ∀ (x0_0 : Int) (x1_0 : Int), Try.prog.built 70 [(0, .int .i64 x0_0), (1, .int .i64 x1_0)] = some #[.int .i64 x0_0, .int .i64 x1_0, .int .i64 0, .int .i64 0] := by intros; kernel_rfl
theorem bu_76_0 : ∀ (x0_0_a : Option Addr) (x0_0_n x0_0_c : Nat), Try.prog.built 76 [(0, .slice x0_0_a x0_0_n x0_0_c)] = some #[.slice x0_0_a x0_0_n x0_0_c, .int .i64 0] := by intros; kernel_rfl
theorem cal12 : Callable Try.prog 12 := ⟨Try.f12, Try.func12, by kernel_rfl, by kernel_rfl⟩
theorem cal13 : Callable Try.prog 13 := ⟨Try.f13, Try.func13, by kernel_rfl, by kernel_rfl⟩
theorem cal33 : Callable Try.prog 33 := ⟨Try.f33, Try.func33, by kernel_rfl, by kernel_rfl⟩
theorem cal34 : Callable Try.prog 34 := ⟨Try.f34, Try.func34, by kernel_rfl, by kernel_rfl⟩
theorem cal35 : Callable Try.prog 35 := ⟨Try.f35, Try.func35, by kernel_rfl, by kernel_rfl⟩
theorem cal36 : Callable Try.prog 36 := ⟨Try.f36, Try.func36, by kernel_rfl, by kernel_rfl⟩
theorem cal65 : Callable Try.prog 65 := ⟨Try.f65, Try.func65, by kernel_rfl, by kernel_rfl⟩
theorem fa_76_0 : fieldB Try.prog 76 0 0 = true := by kernel_rfl
theorem fa_76_1 : fieldB Try.prog 76 1 1 = true := by kernel_rfl
theorem ld_22 : cellB Try.prog 22 = true := by kernel_rfl
theorem sz_3 : (Nat.beq (Try.prog.cellsOf 3) 1 && !Nat.beq 1 0) = true := by kernel_rfl
end Go.Proofs.Ytkejdfnpbkdllaa
