/- Closed facts of the loaded program that the walks use: each is reckoned by the kernel. -/
import Derived.Test.YtaflnbnikabeaaaVG
import Derived.Test.YtaflnbnikabeaaaProg
namespace Go.Proofs.Ytaflnbnikabeaaa
open Go Go.RowKit Go.Proofs.YtaflnbnikabeaaaV
theorem follows : Try.prog.follows .mixedOrders = true := by kernel_rfl
theorem ag_54 : aggB Try.prog 54 5 = true := by kernel_rfl
theorem bs_36_2_0_1 : ∀ (x0_0 : Int) (x1_0 : Int), builtRow Try.prog 36 2 [(0, .int .i64 x0_0), (1, .int .i64 x1_0)] = some (3, [.int .i64 x0_0, .int .i64 x1_0]) := by intros; kernel_rfl
theorem bs_56_2_0_1 : ∀ (x0_0 : Int) (x0_1 : Int) (x0_2 : Int) (x0_3 : Int) (x0_4 : Bool) (x1_0 : Int) (x1_1 : Int) (x1_2 : Int) (x1_3 : Int) (x1_4 : Bool), builtRow Try.prog 56 2 [(0, .agg #[.int .i64 x0_0, .int .i64 x0_1, .int .i64 x0_2, .int .i64 x0_3, .bool x0_4]), (1, .agg #[.int .i64 x1_0, .int .i64 x1_1, .int .i64 x1_2, .int .i64 x1_3, .bool x1_4])] = some (54, [.int .i64 x0_0, .int .i64 x0_1, .int .i64 x0_2, .int .i64 x0_3, .bool x0_4, .int .i64 x1_0, .int .i64 x1_1, .int .i64 x1_2, .int .i64 x1_3, .bool x1_4]) := by intros; kernel_rfl
theorem bu_54_ : Try.prog.built 54 [] = some #[.int .i64 0, .int .i64 0, .int .i64 0, .int .i64 0, .bool false] := by kernel_rfl
theorem bu_54_0 : ∀ (x0_0 : Int), Try.prog.built 54 [(0, .int .i64 x0_0)] = some #[.int .i64 x0_0, .int .i64 0, .int .i64 0, .int .i64 0, .bool false] := by intros; kernel_rfl
theorem bu_75_0 : ∀ (x0_0_a : Option Addr) (x0_0_n x0_0_c : Nat), Try.prog.built 75 [(0, .slice x0_0_a x0_0_n x0_0_c)] = some #[.slice x0_0_a x0_0_n x0_0_c, .int .i64 0] := by intros; kernel_rfl
theorem cal12 : Callable Try.prog 12 := ⟨Try.f12, Try.func12, by kernel_rfl, by kernel_rfl⟩
theorem cal28 : Callable Try.prog 28 := ⟨Try.f28, Try.func28, by kernel_rfl, by kernel_rfl⟩
theorem cal29 : Callable Try.prog 29 := ⟨Try.f29, Try.func29, by kernel_rfl, by kernel_rfl⟩
theorem cal30 : Callable Try.prog 30 := ⟨Try.f30, Try.func30, by kernel_rfl, by kernel_rfl⟩
theorem cal31 : Callable Try.prog 31 := ⟨Try.f31, Try.func31, by kernel_rfl, by kernel_rfl⟩
theorem cal32 : Callable Try.prog 32 := ⟨Try.f32, Try.func32, by kernel_rfl, by kernel_rfl⟩
theorem cal33 : Callable Try.prog 33 := ⟨Try.f33, Try.func33, by kernel_rfl, by kernel_rfl⟩
theorem cal34 : Callable Try.prog 34 := ⟨Try.f34, Try.func34, by kernel_rfl, by kernel_rfl⟩
theorem cal35 : Callable Try.prog 35 := ⟨Try.f35, Try.func35, by kernel_rfl, by kernel_rfl⟩
theorem cal36 : Callable Try.prog 36 := ⟨Try.f36, Try.func36, by kernel_rfl, by kernel_rfl⟩
theorem cal37 : Callable Try.prog 37 := ⟨Try.f37, Try.func37, by kernel_rfl, by kernel_rfl⟩
theorem cal38 : Callable Try.prog 38 := ⟨Try.f38, Try.func38, by kernel_rfl, by kernel_rfl⟩
theorem cal39 : Callable Try.prog 39 := ⟨Try.f39, Try.func39, by kernel_rfl, by kernel_rfl⟩
theorem cal40 : Callable Try.prog 40 := ⟨Try.f40, Try.func40, by kernel_rfl, by kernel_rfl⟩
theorem cal41 : Callable Try.prog 41 := ⟨Try.f41, Try.func41, by kernel_rfl, by kernel_rfl⟩
theorem cal42 : Callable Try.prog 42 := ⟨Try.f42, Try.func42, by kernel_rfl, by kernel_rfl⟩
theorem cal43 : Callable Try.prog 43 := ⟨Try.f43, Try.func43, by kernel_rfl, by kernel_rfl⟩
theorem cal44 : Callable Try.prog 44 := ⟨Try.f44, Try.func44, by kernel_rfl, by kernel_rfl⟩
theorem cal45 : Callable Try.prog 45 := ⟨Try.f45, Try.func45, by kernel_rfl, by kernel_rfl⟩
theorem cal46 : Callable Try.prog 46 := ⟨Try.f46, Try.func46, by kernel_rfl, by kernel_rfl⟩
theorem cal47 : Callable Try.prog 47 := ⟨Try.f47, Try.func47, by kernel_rfl, by kernel_rfl⟩
theorem cz_3 : (Nat.beq (Try.prog.cellsOf 3) 1 && !Nat.beq 1 0) = true := by kernel_rfl
theorem cz_54 : (Nat.beq (Try.prog.cellsOf 54) 5 && !Nat.beq 5 0) = true := by kernel_rfl
theorem fa_54_0 : fieldB Try.prog 54 0 0 = true := by kernel_rfl
theorem fa_54_1 : fieldB Try.prog 54 1 1 = true := by kernel_rfl
theorem fa_54_2 : fieldB Try.prog 54 2 2 = true := by kernel_rfl
theorem fa_54_3 : fieldB Try.prog 54 3 3 = true := by kernel_rfl
theorem fa_54_4 : fieldB Try.prog 54 4 4 = true := by kernel_rfl
theorem fa_75_0 : fieldB Try.prog 75 0 0 = true := by kernel_rfl
theorem fa_75_1 : fieldB Try.prog 75 1 1 = true := by kernel_rfl
theorem ld_2 : cellB Try.prog 2 = true := by kernel_rfl
theorem ld_3 : cellB Try.prog 3 = true := by kernel_rfl
theorem ld_36 : cellB Try.prog 36 = true := by kernel_rfl
theorem ld_4 : cellB Try.prog 4 = true := by kernel_rfl
theorem sb_54 : structB Try.prog 54 [true, true, true, true, false] = true := by kernel_rfl
theorem sz_2 : (Nat.beq (Try.prog.cellsOf 2) 1 && !Nat.beq 1 0) = true := by kernel_rfl
theorem sz_3 : (Nat.beq (Try.prog.cellsOf 3) 1 && !Nat.beq 1 0) = true := by kernel_rfl
theorem sz_4 : (Nat.beq (Try.prog.cellsOf 4) 1 && !Nat.beq 1 0) = true := by kernel_rfl
theorem sz_54 : (Nat.beq (Try.prog.cellsOf 54) 5 && !Nat.beq 5 0) = true := by kernel_rfl
theorem ze_54 : (Try.prog.info? 54).bind (·.zero) = some (.agg #[.int .i64 0, .int .i64 0, .int .i64 0, .int .i64 0, .bool false]) := by kernel_rfl
end Go.Proofs.Ytaflnbnikabeaaa
