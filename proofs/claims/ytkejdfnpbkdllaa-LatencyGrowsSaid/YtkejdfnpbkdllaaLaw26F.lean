/- Closed facts of the loaded program that the walks use: each is reckoned by the kernel. -/
import Derived.Test.YtkejdfnpbkdllaaVK
import Derived.Test.YtkejdfnpbkdllaaProg
import Derived.Test.YtkejdfnpbkdllaaLat3F
namespace Go.Proofs.Ytkejdfnpbkdllaa
open Go Go.RowKit Go.Proofs.YtkejdfnpbkdllaaV
theorem ag_48 : aggB Try.prog 48 2 = true := by kernel_rfl
theorem bs_47_2_0_1 : ∀ (x0_0_a : Option Addr) (x0_0_n x0_0_c : Nat) (x1_0_a : Option Addr) (x1_0_n x1_0_c : Nat), builtRow Try.prog 47 2 [(0, .slice x0_0_a x0_0_n x0_0_c), (1, .slice x1_0_a x1_0_n x1_0_c)] = some (22, [.slice x0_0_a x0_0_n x0_0_c, .slice x1_0_a x1_0_n x1_0_c]) := by intros; kernel_rfl
theorem bs_49_2_0_1 : ∀ (x0_0 : Int) (x0_1 : Int) (x1_0 : Int) (x1_1 : Int), builtRow Try.prog 49 2 [(0, .agg #[.int .i64 x0_0, .int .i64 x0_1]), (1, .agg #[.int .i64 x1_0, .int .i64 x1_1])] = some (48, [.int .i64 x0_0, .int .i64 x0_1, .int .i64 x1_0, .int .i64 x1_1]) := by intros; kernel_rfl
theorem bu_48_0_1 : ∀ (x0_0 : Int) (x1_0 : Int), Try.prog.built 48 [(0, .int .i64 x0_0), (1, .int .i64 x1_0)] = some #[.int .i64 x0_0, .int .i64 x1_0] := by intros; kernel_rfl
theorem cal11 : Callable Try.prog 11 := ⟨Try.f11, Try.func11, by kernel_rfl, by kernel_rfl⟩
theorem cal21 : Callable Try.prog 21 := ⟨Try.f21, Try.func21, by kernel_rfl, by kernel_rfl⟩
theorem cal22 : Callable Try.prog 22 := ⟨Try.f22, Try.func22, by kernel_rfl, by kernel_rfl⟩
theorem cal23 : Callable Try.prog 23 := ⟨Try.f23, Try.func23, by kernel_rfl, by kernel_rfl⟩
theorem cz_22 : (Nat.beq (Try.prog.cellsOf 22) 1 && !Nat.beq 1 0) = true := by kernel_rfl
theorem cz_48 : (Nat.beq (Try.prog.cellsOf 48) 2 && !Nat.beq 2 0) = true := by kernel_rfl
theorem sz_48 : (Nat.beq (Try.prog.cellsOf 48) 2 && !Nat.beq 2 0) = true := by kernel_rfl
theorem ze_48 : (Try.prog.info? 48).bind (·.zero) = some (.agg #[.int .i64 0, .int .i64 0]) := by kernel_rfl
end Go.Proofs.Ytkejdfnpbkdllaa
