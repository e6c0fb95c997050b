/- Closed facts of the loaded program that the walks use: each is reckoned by the kernel. -/
import Derived.Test.YtkejdfnpbkdllaaVL
import Derived.Test.YtkejdfnpbkdllaaProg
import Derived.Test.YtkejdfnpbkdllaaSch4F
namespace Go.Proofs.Ytkejdfnpbkdllaa
open Go Go.RowKit Go.Proofs.YtkejdfnpbkdllaaV
theorem ap_39 : apB Try.prog 39 4 = true := by kernel_rfl
theorem bs_23_1_0 : ∀ (x0_0 : Int) (x0_1 : Int) (x0_2 : Int) (x0_3 : Int), builtRow Try.prog 23 1 [(0, .agg #[.int .i64 x0_0, .int .i64 x0_1, .int .i64 x0_2, .int .i64 x0_3])] = some (39, [.int .i64 x0_0, .int .i64 x0_1, .int .i64 x0_2, .int .i64 x0_3]) := by intros; kernel_rfl
theorem bu_39_0_1_2_3 : ∀ (x0_0 : Int) (x1_0 : Int) (x2_0 : Int) (x3_0 : Int), Try.prog.built 39 [(0, .int .i64 x0_0), (1, .int .i64 x1_0), (2, .int .i64 x2_0), (3, .int .i64 x3_0)] = some #[.int .i64 x0_0, .int .i64 x1_0, .int .i64 x2_0, .int .i64 x3_0] := by intros; kernel_rfl
theorem cal73 : Callable Try.prog 73 := ⟨Try.f73, Try.func73, by kernel_rfl, by kernel_rfl⟩
theorem cal74 : Callable Try.prog 74 := ⟨Try.f74, Try.func74, by kernel_rfl, by kernel_rfl⟩
theorem fa_96_2 : fieldB Try.prog 96 2 2 = true := by kernel_rfl
theorem fa_96_4 : fieldB Try.prog 96 4 4 = true := by kernel_rfl
theorem ld_23 : cellB Try.prog 23 = true := by kernel_rfl
theorem sz_23 : (Nat.beq (Try.prog.cellsOf 23) 1 && !Nat.beq 1 0) = true := by kernel_rfl
end Go.Proofs.Ytkejdfnpbkdllaa
