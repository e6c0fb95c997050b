/- Closed facts of the loaded program that the walks use: each is reckoned by the kernel. -/
import Derived.Test.YtkejdfnpbkdllaaVK
import Derived.Test.YtkejdfnpbkdllaaProg
import Derived.Test.YtkejdfnpbkdllaaGP3F
namespace Go.Proofs.Ytkejdfnpbkdllaa
open Go Go.RowKit Go.Proofs.YtkejdfnpbkdllaaV
theorem ag_56 : aggB Try.prog 56 5 = true := by kernel_rfl
theorem bu_105_0_1_2_3_4 : ∀ (x0_0 : Int) (x1_0 : Int) (x2_0 : Int) (x3_0 : Int) (x4_0 : Int), Try.prog.built 105 [(0, .int .i64 x0_0), (1, .int .i64 x1_0), (2, .int .i64 x2_0), (3, .int .i64 x3_0), (4, .int .i64 x4_0)] = some #[.int .i64 x0_0, .int .i64 x1_0, .int .i64 x2_0, .int .i64 x3_0, .int .i64 x4_0] := by intros; kernel_rfl
theorem bu_54_0_1_2_3_4_5_6 : ∀ (x0_0 : Int) (x1_0 : Int) (x2_0 : Int) (x3_0 : Int) (x4_0 : Int) (x5_0 : Int) (x6_0 : Int), Try.prog.built 54 [(0, .int .i64 x0_0), (1, .int .i64 x1_0), (2, .int .i64 x2_0), (3, .int .i64 x3_0), (4, .int .i64 x4_0), (5, .int .i64 x5_0), (6, .int .i64 x6_0)] = some #[.int .i64 x0_0, .int .i64 x1_0, .int .i64 x2_0, .int .i64 x3_0, .int .i64 x4_0, .int .i64 x5_0, .int .i64 x6_0] := by intros; kernel_rfl
theorem bu_56_ : Try.prog.built 56 [] = some #[.int .i64 0, .int .i64 0, .int .i64 0, .int .i64 0, .int .i64 0] := by kernel_rfl
theorem bu_56_0_1_2_3_4 : ∀ (x0_0 : Int) (x1_0 : Int) (x2_0 : Int) (x3_0 : Int) (x4_0 : Int), Try.prog.built 56 [(0, .int .i64 x0_0), (1, .int .i64 x1_0), (2, .int .i64 x2_0), (3, .int .i64 x3_0), (4, .int .i64 x4_0)] = some #[.int .i64 x0_0, .int .i64 x1_0, .int .i64 x2_0, .int .i64 x3_0, .int .i64 x4_0] := by intros; kernel_rfl
theorem c1_3 : Nat.beq (Try.prog.cellsOf 3) 1 = true := by kernel_rfl
theorem cal24 : Callable Try.prog 24 := ⟨Try.f24, Try.func24, by kernel_rfl, by kernel_rfl⟩
theorem cal25 : Callable Try.prog 25 := ⟨Try.f25, Try.func25, by kernel_rfl, by kernel_rfl⟩
theorem cal52 : Callable Try.prog 52 := ⟨Try.f52, Try.func52, by kernel_rfl, by kernel_rfl⟩
theorem cal59 : Callable Try.prog 59 := ⟨Try.f59, Try.func59, by kernel_rfl, by kernel_rfl⟩
theorem cal60 : Callable Try.prog 60 := ⟨Try.f60, Try.func60, by kernel_rfl, by kernel_rfl⟩
theorem cal61 : Callable Try.prog 61 := ⟨Try.f61, Try.func61, by kernel_rfl, by kernel_rfl⟩
theorem fa_54_0 : fieldB Try.prog 54 0 0 = true := by kernel_rfl
theorem fa_54_1 : fieldB Try.prog 54 1 1 = true := by kernel_rfl
theorem fa_54_2 : fieldB Try.prog 54 2 2 = true := by kernel_rfl
theorem fa_54_3 : fieldB Try.prog 54 3 3 = true := by kernel_rfl
theorem fa_54_4 : fieldB Try.prog 54 4 4 = true := by kernel_rfl
theorem fa_54_5 : fieldB Try.prog 54 5 5 = true := by kernel_rfl
theorem fa_54_6 : fieldB Try.prog 54 6 6 = true := by kernel_rfl
theorem fa_56_0 : fieldB Try.prog 56 0 0 = true := by kernel_rfl
theorem fa_56_1 : fieldB Try.prog 56 1 1 = true := by kernel_rfl
theorem fa_56_2 : fieldB Try.prog 56 2 2 = true := by kernel_rfl
theorem fa_56_3 : fieldB Try.prog 56 3 3 = true := by kernel_rfl
theorem fa_56_4 : fieldB Try.prog 56 4 4 = true := by kernel_rfl
theorem sz_56 : (Nat.beq (Try.prog.cellsOf 56) 5 && !Nat.beq 5 0) = true := by kernel_rfl
theorem ze_56 : (Try.prog.info? 56).bind (·.zero) = some (.agg #[.int .i64 0, .int .i64 0, .int .i64 0, .int .i64 0, .int .i64 0]) := by kernel_rfl
end Go.Proofs.Ytkejdfnpbkdllaa
