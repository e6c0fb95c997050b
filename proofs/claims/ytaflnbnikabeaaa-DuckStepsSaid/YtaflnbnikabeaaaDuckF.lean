/- Closed facts of the loaded program that the walks use: each is reckoned by the kernel. -/
import Derived.Test.YtaflnbnikabeaaaVG
import Derived.Test.YtaflnbnikabeaaaProg
namespace Go.Proofs.Ytaflnbnikabeaaa
open Go Go.RowKit Go.Proofs.YtaflnbnikabeaaaV
theorem follows : Try.prog.follows .mixedOrders = true := by kernel_rfl
theorem ag_38 : aggB Try.prog 38 2 = true := by kernel_rfl
theorem ag_40 : aggB Try.prog 40 3 = true := by kernel_rfl
theorem ag_45 : aggB Try.prog 45 4 = true := by kernel_rfl
theorem bs_36_2_0_1 : ∀ (x0_0 : Int) (x1_0 : Int), builtRow Try.prog 36 2 [(0, .int .i64 x0_0), (1, .int .i64 x1_0)] = some (3, [.int .i64 x0_0, .int .i64 x1_0]) := by intros; kernel_rfl
theorem bu_38_ : Try.prog.built 38 [] = some #[.int .i64 0, .int .i64 0] := by kernel_rfl
theorem bu_38_0 : ∀ (x0_0 : Int), Try.prog.built 38 [(0, .int .i64 x0_0)] = some #[.int .i64 x0_0, .int .i64 0] := by intros; kernel_rfl
theorem bu_38_0_1 : ∀ (x0_0 : Int) (x1_0 : Int), Try.prog.built 38 [(0, .int .i64 x0_0), (1, .int .i64 x1_0)] = some #[.int .i64 x0_0, .int .i64 x1_0] := by intros; kernel_rfl
theorem bu_38_1 : ∀ (x1_0 : Int), Try.prog.built 38 [(1, .int .i64 x1_0)] = some #[.int .i64 0, .int .i64 x1_0] := by intros; kernel_rfl
theorem bu_40_0_1_2 : ∀ (x0_0 : Int) (x1_0 : Int) (x2_0 : Int), Try.prog.built 40 [(0, .int .i64 x0_0), (1, .int .i64 x1_0), (2, .int .i64 x2_0)] = some #[.int .i64 x0_0, .int .i64 x1_0, .int .i64 x2_0] := by intros; kernel_rfl
theorem bu_45_ : Try.prog.built 45 [] = some #[.int .i64 0, .int .i64 0, .int .i64 0, .int .i64 0] := by kernel_rfl
theorem bu_45_0_1_2 : ∀ (x0_0 : Int) (x1_0 : Int) (x2_0 : Int), Try.prog.built 45 [(0, .int .i64 x0_0), (1, .int .i64 x1_0), (2, .int .i64 x2_0)] = some #[.int .i64 x0_0, .int .i64 x1_0, .int .i64 x2_0, .int .i64 0] := by intros; kernel_rfl
theorem bu_75_0 : ∀ (x0_0_a : Option Addr) (x0_0_n x0_0_c : Nat), Try.prog.built 75 [(0, .slice x0_0_a x0_0_n x0_0_c)] = some #[.slice x0_0_a x0_0_n x0_0_c, .int .i64 0] := by intros; kernel_rfl
theorem cal12 : Callable Try.prog 12 := ⟨Try.f12, Try.func12, by kernel_rfl, by kernel_rfl⟩
theorem cal19 : Callable Try.prog 19 := ⟨Try.f19, Try.func19, by kernel_rfl, by kernel_rfl⟩
theorem cal20 : Callable Try.prog 20 := ⟨Try.f20, Try.func20, by kernel_rfl, by kernel_rfl⟩
theorem cal21 : Callable Try.prog 21 := ⟨Try.f21, Try.func21, by kernel_rfl, by kernel_rfl⟩
theorem cal22 : Callable Try.prog 22 := ⟨Try.f22, Try.func22, by kernel_rfl, by kernel_rfl⟩
theorem cal23 : Callable Try.prog 23 := ⟨Try.f23, Try.func23, by kernel_rfl, by kernel_rfl⟩
theorem cal24 : Callable Try.prog 24 := ⟨Try.f24, Try.func24, by kernel_rfl, by kernel_rfl⟩
theorem cal25 : Callable Try.prog 25 := ⟨Try.f25, Try.func25, by kernel_rfl, by kernel_rfl⟩
theorem cal27 : Callable Try.prog 27 := ⟨Try.f27, Try.func27, by kernel_rfl, by kernel_rfl⟩
theorem cal43 : Callable Try.prog 43 := ⟨Try.f43, Try.func43, by kernel_rfl, by kernel_rfl⟩
theorem cal44 : Callable Try.prog 44 := ⟨Try.f44, Try.func44, by kernel_rfl, by kernel_rfl⟩
theorem cal45 : Callable Try.prog 45 := ⟨Try.f45, Try.func45, by kernel_rfl, by kernel_rfl⟩
theorem cal52 : Callable Try.prog 52 := ⟨Try.f52, Try.func52, by kernel_rfl, by kernel_rfl⟩
theorem cal53 : Callable Try.prog 53 := ⟨Try.f53, Try.func53, by kernel_rfl, by kernel_rfl⟩
theorem cal54 : Callable Try.prog 54 := ⟨Try.f54, Try.func54, by kernel_rfl, by kernel_rfl⟩
theorem cal55 : Callable Try.prog 55 := ⟨Try.f55, Try.func55, by kernel_rfl, by kernel_rfl⟩
theorem cal56 : Callable Try.prog 56 := ⟨Try.f56, Try.func56, by kernel_rfl, by kernel_rfl⟩
theorem cal57 : Callable Try.prog 57 := ⟨Try.f57, Try.func57, by kernel_rfl, by kernel_rfl⟩
theorem cz_3 : (Nat.beq (Try.prog.cellsOf 3) 1 && !Nat.beq 1 0) = true := by kernel_rfl
theorem fa_38_0 : fieldB Try.prog 38 0 0 = true := by kernel_rfl
theorem fa_38_1 : fieldB Try.prog 38 1 1 = true := by kernel_rfl
theorem fa_40_0 : fieldB Try.prog 40 0 0 = true := by kernel_rfl
theorem fa_40_1 : fieldB Try.prog 40 1 1 = true := by kernel_rfl
theorem fa_40_2 : fieldB Try.prog 40 2 2 = true := by kernel_rfl
theorem fa_45_0 : fieldB Try.prog 45 0 0 = true := by kernel_rfl
theorem fa_45_1 : fieldB Try.prog 45 1 1 = true := by kernel_rfl
theorem fa_45_2 : fieldB Try.prog 45 2 2 = true := by kernel_rfl
theorem fa_45_3 : fieldB Try.prog 45 3 3 = true := by kernel_rfl
theorem fa_75_0 : fieldB Try.prog 75 0 0 = true := by kernel_rfl
theorem fa_75_1 : fieldB Try.prog 75 1 1 = true := by kernel_rfl
theorem ld_3 : cellB Try.prog 3 = true := by kernel_rfl
theorem ld_36 : cellB Try.prog 36 = true := by kernel_rfl
theorem sb_38 : structB Try.prog 38 [true, true] = true := by kernel_rfl
theorem sb_45 : structB Try.prog 45 [true, true, true, true] = true := by kernel_rfl
theorem sz_3 : (Nat.beq (Try.prog.cellsOf 3) 1 && !Nat.beq 1 0) = true := by kernel_rfl
theorem sz_38 : (Nat.beq (Try.prog.cellsOf 38) 2 && !Nat.beq 2 0) = true := by kernel_rfl
theorem sz_40 : (Nat.beq (Try.prog.cellsOf 40) 3 && !Nat.beq 3 0) = true := by kernel_rfl
theorem sz_45 : (Nat.beq (Try.prog.cellsOf 45) 4 && !Nat.beq 4 0) = true := by kernel_rfl
theorem ze_38 : (Try.prog.info? 38).bind (·.zero) = some (.agg #[.int .i64 0, .int .i64 0]) := by kernel_rfl
theorem ze_40 : (Try.prog.info? 40).bind (·.zero) = some (.agg #[.int .i64 0, .int .i64 0, .int .i64 0]) := by kernel_rfl
theorem ze_45 : (Try.prog.info? 45).bind (·.zero) = some (.agg #[.int .i64 0, .int .i64 0, .int .i64 0, .int .i64 0]) := by kernel_rfl
end Go.Proofs.Ytaflnbnikabeaaa
