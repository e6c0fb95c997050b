/- Closed facts of the loaded program that the walks use: each is reckoned by the kernel. -/
import Derived.Test.YtkejdfnpbkdllaaVH
import Derived.Test.YtkejdfnpbkdllaaProg
namespace Go.Proofs.Ytkejdfnpbkdllaa
open Go Go.RowKit Go.Proofs.YtkejdfnpbkdllaaV
theorem follows : Try.prog.follows .mixedOrders = true := by kernel_rfl
theorem ag_28 : aggB Try.prog 28 2 = true := by kernel_rfl
theorem ag_61 : aggB Try.prog 61 4 = true := by kernel_rfl
theorem ag_70 : aggB Try.prog 70 4 = true := by kernel_rfl
theorem ap_3 : apB Try.prog 3 1 = true := by kernel_rfl
theorem bs_22_1_0 : ∀ (x0_0 : Int), builtRow Try.prog 22 1 [(0, .int .i64 x0_0)] = some (3, [.int .i64 x0_0]) := by intros; kernel_rfl
theorem bu_70_ : Try.prog.built 70 [] = some #[.int .i64 0, .int .i64 0, .int .i64 0, .int .i64 0] := by kernel_rfl
theorem cal62 : Callable Try.prog 62 := ⟨Try.f62, Try.func62, by kernel_rfl, by kernel_rfl⟩
theorem cal63 : Callable Try.prog 63 := ⟨Try.f63, Try.func63, by kernel_rfl, by kernel_rfl⟩
theorem cal66 : Callable Try.prog 66 := ⟨Try.f66, Try.func66, by kernel_rfl, by kernel_rfl⟩
theorem cal67 : Callable Try.prog 67 := ⟨Try.f67, Try.func67, by kernel_rfl, by kernel_rfl⟩
theorem cal68 : Callable Try.prog 68 := ⟨Try.f68, Try.func68, by kernel_rfl, by kernel_rfl⟩
theorem cal69 : Callable Try.prog 69 := ⟨Try.f69, Try.func69, by kernel_rfl, by kernel_rfl⟩
theorem cal82 : Callable Try.prog 82 := ⟨Try.f82, Try.func82, by kernel_rfl, by kernel_rfl⟩
theorem cz_3 : (Nat.beq (Try.prog.cellsOf 3) 1 && !Nat.beq 1 0) = true := by kernel_rfl
theorem cz_61 : (Nat.beq (Try.prog.cellsOf 61) 4 && !Nat.beq 4 0) = true := by kernel_rfl
theorem cz_70 : (Nat.beq (Try.prog.cellsOf 70) 4 && !Nat.beq 4 0) = true := by kernel_rfl
theorem fa_28_0 : fieldB Try.prog 28 0 0 = true := by kernel_rfl
theorem fa_28_1 : fieldB Try.prog 28 1 1 = true := by kernel_rfl
theorem fa_61_0 : fieldB Try.prog 61 0 0 = true := by kernel_rfl
theorem fa_61_1 : fieldB Try.prog 61 1 1 = true := by kernel_rfl
theorem fa_61_2 : fieldB Try.prog 61 2 2 = true := by kernel_rfl
theorem fa_61_3 : fieldB Try.prog 61 3 3 = true := by kernel_rfl
theorem fa_70_0 : fieldB Try.prog 70 0 0 = true := by kernel_rfl
theorem fa_70_1 : fieldB Try.prog 70 1 1 = true := by kernel_rfl
theorem fa_70_2 : fieldB Try.prog 70 2 2 = true := by kernel_rfl
theorem fa_70_3 : fieldB Try.prog 70 3 3 = true := by kernel_rfl
theorem ld_25 : cellB Try.prog 25 = true := by kernel_rfl
theorem ld_26 : cellB Try.prog 26 = true := by kernel_rfl
theorem ld_3 : cellB Try.prog 3 = true := by kernel_rfl
theorem sb_61 : structB Try.prog 61 [true, true, true, true] = true := by kernel_rfl
theorem sz_61 : (Nat.beq (Try.prog.cellsOf 61) 4 && !Nat.beq 4 0) = true := by kernel_rfl
theorem sz_70 : (Nat.beq (Try.prog.cellsOf 70) 4 && !Nat.beq 4 0) = true := by kernel_rfl
theorem ze_61 : (Try.prog.info? 61).bind (·.zero) = some (.agg #[.int .i64 0, .int .i64 0, .int .i64 0, .int .i64 0]) := by kernel_rfl
theorem ze_70 : (Try.prog.info? 70).bind (·.zero) = some (.agg #[.int .i64 0, .int .i64 0, .int .i64 0, .int .i64 0]) := by kernel_rfl
end Go.Proofs.Ytkejdfnpbkdllaa
