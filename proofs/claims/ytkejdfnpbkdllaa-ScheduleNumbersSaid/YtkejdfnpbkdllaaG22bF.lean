/- Closed facts of the loaded program that the walks use: each is reckoned by the kernel. -/
import Derived.Test.YtkejdfnpbkdllaaVH
import Derived.Test.YtkejdfnpbkdllaaProg
import Derived.Test.YtkejdfnpbkdllaaG22F
namespace Go.Proofs.Ytkejdfnpbkdllaa
open Go Go.RowKit Go.Proofs.YtkejdfnpbkdllaaV
theorem ap_61 : apB Try.prog 61 4 = true := by kernel_rfl
theorem ap_70 : apB Try.prog 70 4 = true := by kernel_rfl
theorem bs_25_1_0 : ∀ (x0_0 : Int) (x0_1 : Int) (x0_2 : Int) (x0_3 : Int), builtRow Try.prog 25 1 [(0, .agg #[.int .i64 x0_0, .int .i64 x0_1, .int .i64 x0_2, .int .i64 x0_3])] = some (70, [.int .i64 x0_0, .int .i64 x0_1, .int .i64 x0_2, .int .i64 x0_3]) := by intros; kernel_rfl
theorem bs_26_1_0 : ∀ (x0_0 : Int) (x0_1 : Int) (x0_2 : Int) (x0_3 : Int), builtRow Try.prog 26 1 [(0, .agg #[.int .i64 x0_0, .int .i64 x0_1, .int .i64 x0_2, .int .i64 x0_3])] = some (61, [.int .i64 x0_0, .int .i64 x0_1, .int .i64 x0_2, .int .i64 x0_3]) := by intros; kernel_rfl
theorem bu_28_ : Try.prog.built 28 [] = some #[.slice none 0 0, .slice none 0 0] := by kernel_rfl
theorem bu_28_0_1 : ∀ (x0_0_a : Option Addr) (x0_0_n x0_0_c : Nat) (x1_0_a : Option Addr) (x1_0_n x1_0_c : Nat), Try.prog.built 28 [(0, .slice x0_0_a x0_0_n x0_0_c), (1, .slice x1_0_a x1_0_n x1_0_c)] = some #[.slice x0_0_a x0_0_n x0_0_c, .slice x1_0_a x1_0_n x1_0_c] := by intros; kernel_rfl
theorem cal58 : Callable Try.prog 58 := ⟨Try.f58, Try.func58, by kernel_rfl, by kernel_rfl⟩
theorem cal64 : Callable Try.prog 64 := ⟨Try.f64, Try.func64, by kernel_rfl, by kernel_rfl⟩
theorem sz_28 : (Nat.beq (Try.prog.cellsOf 28) 2 && !Nat.beq 2 0) = true := by kernel_rfl
theorem ze_28 : (Try.prog.info? 28).bind (·.zero) = some (.agg #[.slice none 0 0, .slice none 0 0]) := by kernel_rfl
end Go.Proofs.Ytkejdfnpbkdllaa
