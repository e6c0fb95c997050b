/- Closed facts of the loaded program that the walks use: each is reckoned by the kernel. -/
import Derived.Test.YtaflnbnikabeaaaVE
import Derived.Test.YtaflnbnikabeaaaProg
namespace Go.Proofs.Ytaflnbnikabeaaa
open Go Go.RowKit Go.Proofs.YtaflnbnikabeaaaV
theorem follows : Try.prog.follows .mixedOrders = true := by kernel_rfl
theorem ag_27 : aggB Try.prog 27 7 = true := by kernel_rfl
theorem ag_29 : aggB Try.prog 29 5 = true := by kernel_rfl
theorem bs_30_3_0_1_2 : ∀ (x0_0 : Int) (x0_1 : Int) (x0_2 : Int) (x0_3 : Int) (x0_4 : Int) (x0_5 : Int) (x0_6 : Int) (x1_0 : Int) (x1_1 : Int) (x1_2 : Int) (x1_3 : Int) (x1_4 : Int) (x1_5 : Int) (x1_6 : Int) (x2_0 : Int) (x2_1 : Int) (x2_2 : Int) (x2_3 : Int) (x2_4 : Int) (x2_5 : Int) (x2_6 : Int), builtRow Try.prog 30 3 [(0, .agg #[.int .i64 x0_0, .int .i64 x0_1, .int .i64 x0_2, .int .i64 x0_3, .int .i64 x0_4, .int .i64 x0_5, .int .i64 x0_6]), (1, .agg #[.int .i64 x1_0, .int .i64 x1_1, .int .i64 x1_2, .int .i64 x1_3, .int .i64 x1_4, .int .i64 x1_5, .int .i64 x1_6]), (2, .agg #[.int .i64 x2_0, .int .i64 x2_1, .int .i64 x2_2, .int .i64 x2_3, .int .i64 x2_4, .int .i64 x2_5, .int .i64 x2_6])] = some (27, [.int .i64 x0_0, .int .i64 x0_1, .int .i64 x0_2, .int .i64 x0_3, .int .i64 x0_4, .int .i64 x0_5, .int .i64 x0_6, .int .i64 x1_0, .int .i64 x1_1, .int .i64 x1_2, .int .i64 x1_3, .int .i64 x1_4, .int .i64 x1_5, .int .i64 x1_6, .int .i64 x2_0, .int .i64 x2_1, .int .i64 x2_2, .int .i64 x2_3, .int .i64 x2_4, .int .i64 x2_5, .int .i64 x2_6]) := by intros; kernel_rfl
theorem bs_36_5_0_1_2_3_4 : ∀ (x0_0 : Int) (x1_0 : Int) (x2_0 : Int) (x3_0 : Int) (x4_0 : Int), builtRow Try.prog 36 5 [(0, .int .i64 x0_0), (1, .int .i64 x1_0), (2, .int .i64 x2_0), (3, .int .i64 x3_0), (4, .int .i64 x4_0)] = some (3, [.int .i64 x0_0, .int .i64 x1_0, .int .i64 x2_0, .int .i64 x3_0, .int .i64 x4_0]) := by intros; kernel_rfl
theorem bu_27_0_1_2_3_4_5_6 : ∀ (x0_0 : Int) (x1_0 : Int) (x2_0 : Int) (x3_0 : Int) (x4_0 : Int) (x5_0 : Int) (x6_0 : Int), Try.prog.built 27 [(0, .int .i64 x0_0), (1, .int .i64 x1_0), (2, .int .i64 x2_0), (3, .int .i64 x3_0), (4, .int .i64 x4_0), (5, .int .i64 x5_0), (6, .int .i64 x6_0)] = some #[.int .i64 x0_0, .int .i64 x1_0, .int .i64 x2_0, .int .i64 x3_0, .int .i64 x4_0, .int .i64 x5_0, .int .i64 x6_0] := by intros; kernel_rfl
theorem bu_29_ : Try.prog.built 29 [] = some #[.int .i64 0, .int .i64 0, .int .i64 0, .int .i64 0, .int .i64 0] := by kernel_rfl
theorem bu_29_0_1_2_3_4 : ∀ (x0_0 : Int) (x1_0 : Int) (x2_0 : Int) (x3_0 : Int) (x4_0 : Int), Try.prog.built 29 [(0, .int .i64 x0_0), (1, .int .i64 x1_0), (2, .int .i64 x2_0), (3, .int .i64 x3_0), (4, .int .i64 x4_0)] = some #[.int .i64 x0_0, .int .i64 x1_0, .int .i64 x2_0, .int .i64 x3_0, .int .i64 x4_0] := by intros; kernel_rfl
theorem bu_72_0_1_2_3_4 : ∀ (x0_0 : Int) (x1_0 : Int) (x2_0 : Int) (x3_0 : Int) (x4_0 : Int), Try.prog.built 72 [(0, .int .i64 x0_0), (1, .int .i64 x1_0), (2, .int .i64 x2_0), (3, .int .i64 x3_0), (4, .int .i64 x4_0)] = some #[.int .i64 x0_0, .int .i64 x1_0, .int .i64 x2_0, .int .i64 x3_0, .int .i64 x4_0] := by intros; kernel_rfl
theorem c1_3 : Nat.beq (Try.prog.cellsOf 3) 1 = true := by kernel_rfl
theorem cal11 : Callable Try.prog 11 := ⟨Try.f11, Try.func11, by kernel_rfl, by kernel_rfl⟩
theorem cal12 : Callable Try.prog 12 := ⟨Try.f12, Try.func12, by kernel_rfl, by kernel_rfl⟩
theorem cal13 : Callable Try.prog 13 := ⟨Try.f13, Try.func13, by kernel_rfl, by kernel_rfl⟩
theorem cal14 : Callable Try.prog 14 := ⟨Try.f14, Try.func14, by kernel_rfl, by kernel_rfl⟩
theorem cal15 : Callable Try.prog 15 := ⟨Try.f15, Try.func15, by kernel_rfl, by kernel_rfl⟩
theorem cal16 : Callable Try.prog 16 := ⟨Try.f16, Try.func16, by kernel_rfl, by kernel_rfl⟩
theorem cal17 : Callable Try.prog 17 := ⟨Try.f17, Try.func17, by kernel_rfl, by kernel_rfl⟩
theorem cal18 : Callable Try.prog 18 := ⟨Try.f18, Try.func18, by kernel_rfl, by kernel_rfl⟩
theorem cal48 : Callable Try.prog 48 := ⟨Try.f48, Try.func48, by kernel_rfl, by kernel_rfl⟩
theorem cal49 : Callable Try.prog 49 := ⟨Try.f49, Try.func49, by kernel_rfl, by kernel_rfl⟩
theorem cal50 : Callable Try.prog 50 := ⟨Try.f50, Try.func50, by kernel_rfl, by kernel_rfl⟩
theorem cal51 : Callable Try.prog 51 := ⟨Try.f51, Try.func51, by kernel_rfl, by kernel_rfl⟩
theorem cz_27 : (Nat.beq (Try.prog.cellsOf 27) 7 && !Nat.beq 7 0) = true := by kernel_rfl
theorem cz_3 : (Nat.beq (Try.prog.cellsOf 3) 1 && !Nat.beq 1 0) = true := by kernel_rfl
theorem fa_27_0 : fieldB Try.prog 27 0 0 = true := by kernel_rfl
theorem fa_27_1 : fieldB Try.prog 27 1 1 = true := by kernel_rfl
theorem fa_27_2 : fieldB Try.prog 27 2 2 = true := by kernel_rfl
theorem fa_27_3 : fieldB Try.prog 27 3 3 = true := by kernel_rfl
theorem fa_27_4 : fieldB Try.prog 27 4 4 = true := by kernel_rfl
theorem fa_27_5 : fieldB Try.prog 27 5 5 = true := by kernel_rfl
theorem fa_27_6 : fieldB Try.prog 27 6 6 = true := by kernel_rfl
theorem fa_29_0 : fieldB Try.prog 29 0 0 = true := by kernel_rfl
theorem fa_29_1 : fieldB Try.prog 29 1 1 = true := by kernel_rfl
theorem fa_29_2 : fieldB Try.prog 29 2 2 = true := by kernel_rfl
theorem fa_29_3 : fieldB Try.prog 29 3 3 = true := by kernel_rfl
theorem fa_29_4 : fieldB Try.prog 29 4 4 = true := by kernel_rfl
theorem ld_3 : cellB Try.prog 3 = true := by kernel_rfl
theorem sb_29 : structB Try.prog 29 [true, true, true, true, true] = true := by kernel_rfl
theorem sz_27 : (Nat.beq (Try.prog.cellsOf 27) 7 && !Nat.beq 7 0) = true := by kernel_rfl
theorem sz_29 : (Nat.beq (Try.prog.cellsOf 29) 5 && !Nat.beq 5 0) = true := by kernel_rfl
theorem sz_3 : (Nat.beq (Try.prog.cellsOf 3) 1 && !Nat.beq 1 0) = true := by kernel_rfl
theorem ze_27 : (Try.prog.info? 27).bind (·.zero) = some (.agg #[.int .i64 0, .int .i64 0, .int .i64 0, .int .i64 0, .int .i64 0, .int .i64 0, .int .i64 0]) := by kernel_rfl
theorem ze_29 : (Try.prog.info? 29).bind (·.zero) = some (.agg #[.int .i64 0, .int .i64 0, .int .i64 0, .int .i64 0, .int .i64 0]) := by kernel_rfl
end Go.Proofs.Ytaflnbnikabeaaa
