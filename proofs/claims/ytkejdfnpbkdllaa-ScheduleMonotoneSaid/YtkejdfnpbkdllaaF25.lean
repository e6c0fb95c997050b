/- Closed facts of the loaded program that the walks use: each is reckoned by the kernel. -/
import Derived.Test.YtkejdfnpbkdllaaVL
import Derived.Test.YtkejdfnpbkdllaaProg
namespace Go.Proofs.Ytkejdfnpbkdllaa
open Go Go.RowKit Go.Proofs.YtkejdfnpbkdllaaV
theorem follows : Try.prog.follows .mixedOrders = true := by kernel_rfl
theorem ag_28 : aggB Try.prog 28 2 = true := by kernel_rfl
theorem ag_39 : aggB Try.prog 39 4 = true := by kernel_rfl
theorem ag_61 : aggB Try.prog 61 4 = true := by kernel_rfl
theorem ag_70 : aggB Try.prog 70 4 = true := by kernel_rfl
theorem ap_22 : apB Try.prog 22 1 = true := by kernel_rfl
theorem ap_3 : apB Try.prog 3 1 = true := by kernel_rfl
theorem ap_39 : apB Try.prog 39 4 = true := by kernel_rfl
theorem ap_61 : apB Try.prog 61 4 = true := by kernel_rfl
theorem ap_70 : apB Try.prog 70 4 = true := by kernel_rfl
theorem bs_22_1_0 : ∀ (x0_0 : Int), builtRow Try.prog 22 1 [(0, .int .i64 x0_0)] = some (3, [.int .i64 x0_0]) := by intros; kernel_rfl
theorem bs_22_3_0_1_2 : ∀ (x0_0 : Int) (x1_0 : Int) (x2_0 : Int), builtRow Try.prog 22 3 [(0, .int .i64 x0_0), (1, .int .i64 x1_0), (2, .int .i64 x2_0)] = some (3, [.int .i64 x0_0, .int .i64 x1_0, .int .i64 x2_0]) := by intros; kernel_rfl
theorem bs_22_4_0_1_2_3 : ∀ (x0_0 : Int) (x1_0 : Int) (x2_0 : Int) (x3_0 : Int), builtRow Try.prog 22 4 [(0, .int .i64 x0_0), (1, .int .i64 x1_0), (2, .int .i64 x2_0), (3, .int .i64 x3_0)] = some (3, [.int .i64 x0_0, .int .i64 x1_0, .int .i64 x2_0, .int .i64 x3_0]) := by intros; kernel_rfl
theorem bs_23_1_0 : ∀ (x0_0 : Int) (x0_1 : Int) (x0_2 : Int) (x0_3 : Int), builtRow Try.prog 23 1 [(0, .agg #[.int .i64 x0_0, .int .i64 x0_1, .int .i64 x0_2, .int .i64 x0_3])] = some (39, [.int .i64 x0_0, .int .i64 x0_1, .int .i64 x0_2, .int .i64 x0_3]) := by intros; kernel_rfl
theorem bs_25_1_0 : ∀ (x0_0 : Int) (x0_1 : Int) (x0_2 : Int) (x0_3 : Int), builtRow Try.prog 25 1 [(0, .agg #[.int .i64 x0_0, .int .i64 x0_1, .int .i64 x0_2, .int .i64 x0_3])] = some (70, [.int .i64 x0_0, .int .i64 x0_1, .int .i64 x0_2, .int .i64 x0_3]) := by intros; kernel_rfl
theorem bs_25_3_0_1_2 : ∀ (x0_0 : Int) (x0_1 : Int) (x0_2 : Int) (x0_3 : Int) (x1_0 : Int) (x1_1 : Int) (x1_2 : Int) (x1_3 : Int) (x2_0 : Int) (x2_1 : Int) (x2_2 : Int) (x2_3 : Int), builtRow Try.prog 25 3 [(0, .agg #[.int .i64 x0_0, .int .i64 x0_1, .int .i64 x0_2, .int .i64 x0_3]), (1, .agg #[.int .i64 x1_0, .int .i64 x1_1, .int .i64 x1_2, .int .i64 x1_3]), (2, .agg #[.int .i64 x2_0, .int .i64 x2_1, .int .i64 x2_2, .int .i64 x2_3])] = some (70, [.int .i64 x0_0, .int .i64 x0_1, .int .i64 x0_2, .int .i64 x0_3, .int .i64 x1_0, .int .i64 x1_1, .int .i64 x1_2, .int .i64 x1_3, .int .i64 x2_0, .int .i64 x2_1, .int .i64 x2_2, .int .i64 x2_3]) := by intros; kernel_rfl
theorem bs_26_1_0 : ∀ (x0_0 : Int) (x0_1 : Int) (x0_2 : Int) (x0_3 : Int), builtRow Try.prog 26 1 [(0, .agg #[.int .i64 x0_0, .int .i64 x0_1, .int .i64 x0_2, .int .i64 x0_3])] = some (61, [.int .i64 x0_0, .int .i64 x0_1, .int .i64 x0_2, .int .i64 x0_3]) := by intros; kernel_rfl
theorem bs_26_2_0_1 : ∀ (x0_0 : Int) (x0_1 : Int) (x0_2 : Int) (x0_3 : Int) (x1_0 : Int) (x1_1 : Int) (x1_2 : Int) (x1_3 : Int), builtRow Try.prog 26 2 [(0, .agg #[.int .i64 x0_0, .int .i64 x0_1, .int .i64 x0_2, .int .i64 x0_3]), (1, .agg #[.int .i64 x1_0, .int .i64 x1_1, .int .i64 x1_2, .int .i64 x1_3])] = some (61, [.int .i64 x0_0, .int .i64 x0_1, .int .i64 x0_2, .int .i64 x0_3, .int .i64 x1_0, .int .i64 x1_1, .int .i64 x1_2, .int .i64 x1_3]) := by intros; kernel_rfl
theorem bu_28_ : Try.prog.built 28 [] = some #[.slice none 0 0, .slice none 0 0] := by kernel_rfl
theorem bu_28_0_1 : ∀ (x0_0_a : Option Addr) (x0_0_n x0_0_c : Nat) (x1_0_a : Option Addr) (x1_0_n x1_0_c : Nat), Try.prog.built 28 [(0, .slice x0_0_a x0_0_n x0_0_c), (1, .slice x1_0_a x1_0_n x1_0_c)] = some #[.slice x0_0_a x0_0_n x0_0_c, .slice x1_0_a x1_0_n x1_0_c] := by intros; kernel_rfl
theorem bu_39_0_1_2_3 : ∀ (x0_0 : Int) (x1_0 : Int) (x2_0 : Int) (x3_0 : Int), Try.prog.built 39 [(0, .int .i64 x0_0), (1, .int .i64 x1_0), (2, .int .i64 x2_0), (3, .int .i64 x3_0)] = some #[.int .i64 x0_0, .int .i64 x1_0, .int .i64 x2_0, .int .i64 x3_0] := by intros; kernel_rfl
theorem bu_61_0_1_2_3 : ∀ (x0_0 : Int) (x1_0 : Int) (x2_0 : Int) (x3_0 : Int), Try.prog.built 61 [(0, .int .i64 x0_0), (1, .int .i64 x1_0), (2, .int .i64 x2_0), (3, .int .i64 x3_0)] = some #[.int .i64 x0_0, .int .i64 x1_0, .int .i64 x2_0, .int .i64 x3_0] := by intros; kernel_rfl
theorem bu_61_0_2 : ∀ (x0_0 : Int) (x2_0 : Int), Try.prog.built 61 [(0, .int .i64 x0_0), (2, .int .i64 x2_0)] = some #[.int .i64 x0_0, .int .i64 0, .int .i64 x2_0, .int .i64 0] := by intros; kernel_rfl
theorem bu_70_ : Try.prog.built 70 [] = some #[.int .i64 0, .int .i64 0, .int .i64 0, .int .i64 0] := by kernel_rfl
theorem bu_70_0_1 : ∀ (x0_0 : Int) (x1_0 : Int), Try.prog.built 70 [(0, .int .i64 x0_0), (1, .int .i64 x1_0)] = some #[.int .i64 x0_0, .int .i64 x1_0, .int .i64 0, .int .i64 0] := by intros; kernel_rfl
theorem bu_70_0_1_2_3 : ∀ (x0_0 : Int) (x1_0 : Int) (x2_0 : Int) (x3_0 : Int), Try.prog.built 70 [(0, .int .i64 x0_0), (1, .int .i64 x1_0), (2, .int .i64 x2_0), (3, .int .i64 x3_0)] = some #[.int .i64 x0_0, .int .i64 x1_0, .int .i64 x2_0, .int .i64 x3_0] := by intros; kernel_rfl
theorem bu_70_0_1_3 : ∀ (x0_0 : Int) (x1_0 : Int) (x3_0 : Int), Try.prog.built 70 [(0, .int .i64 x0_0), (1, .int .i64 x1_0), (3, .int .i64 x3_0)] = some #[.int .i64 x0_0, .int .i64 x1_0, .int .i64 0, .int .i64 x3_0] := by intros; kernel_rfl
theorem bu_76_0 : ∀ (x0_0_a : Option Addr) (x0_0_n x0_0_c : Nat), Try.prog.built 76 [(0, .slice x0_0_a x0_0_n x0_0_c)] = some #[.slice x0_0_a x0_0_n x0_0_c, .int .i64 0] := by intros; kernel_rfl
theorem bu_90_0_1_2_4 : ∀ (x0_0_a : Option Addr) (x0_0_n x0_0_c : Nat) (x0_1_a : Option Addr) (x0_1_n x0_1_c : Nat) (x1_0_a : Option Addr) (x1_0_n x1_0_c : Nat) (x2_0_r : Option Nat) (x4_0_a : Option Addr) (x4_0_n x4_0_c : Nat), Try.prog.built 90 [(0, .agg #[.slice x0_0_a x0_0_n x0_0_c, .slice x0_1_a x0_1_n x0_1_c]), (1, .slice x1_0_a x1_0_n x1_0_c), (2, .map x2_0_r), (4, .slice x4_0_a x4_0_n x4_0_c)] = some #[.slice x0_0_a x0_0_n x0_0_c, .slice x0_1_a x0_1_n x0_1_c, .slice x1_0_a x1_0_n x1_0_c, .map x2_0_r, .slice none 0 0, .slice x4_0_a x4_0_n x4_0_c] := by intros; kernel_rfl
theorem bu_96_0_2_3 : ∀ (x0_0_p : Option Addr) (x2_0_a : Option Addr) (x2_0_n x2_0_c : Nat) (x3_0_a : Option Addr) (x3_0_n x3_0_c : Nat), Try.prog.built 96 [(0, .pointer x0_0_p), (2, .slice x2_0_a x2_0_n x2_0_c), (3, .slice x3_0_a x3_0_n x3_0_c)] = some #[.pointer x0_0_p, .int .i64 0, .slice x2_0_a x2_0_n x2_0_c, .slice x3_0_a x3_0_n x3_0_c, .slice none 0 0] := by intros; kernel_rfl
theorem cal12 : Callable Try.prog 12 := ⟨Try.f12, Try.func12, by kernel_rfl, by kernel_rfl⟩
theorem cal13 : Callable Try.prog 13 := ⟨Try.f13, Try.func13, by kernel_rfl, by kernel_rfl⟩
theorem cal17 : Callable Try.prog 17 := ⟨Try.f17, Try.func17, by kernel_rfl, by kernel_rfl⟩
theorem cal18 : Callable Try.prog 18 := ⟨Try.f18, Try.func18, by kernel_rfl, by kernel_rfl⟩
theorem cal19 : Callable Try.prog 19 := ⟨Try.f19, Try.func19, by kernel_rfl, by kernel_rfl⟩
theorem cal20 : Callable Try.prog 20 := ⟨Try.f20, Try.func20, by kernel_rfl, by kernel_rfl⟩
theorem cal29 : Callable Try.prog 29 := ⟨Try.f29, Try.func29, by kernel_rfl, by kernel_rfl⟩
theorem cal33 : Callable Try.prog 33 := ⟨Try.f33, Try.func33, by kernel_rfl, by kernel_rfl⟩
theorem cal34 : Callable Try.prog 34 := ⟨Try.f34, Try.func34, by kernel_rfl, by kernel_rfl⟩
theorem cal35 : Callable Try.prog 35 := ⟨Try.f35, Try.func35, by kernel_rfl, by kernel_rfl⟩
theorem cal36 : Callable Try.prog 36 := ⟨Try.f36, Try.func36, by kernel_rfl, by kernel_rfl⟩
theorem cal37 : Callable Try.prog 37 := ⟨Try.f37, Try.func37, by kernel_rfl, by kernel_rfl⟩
theorem cal38 : Callable Try.prog 38 := ⟨Try.f38, Try.func38, by kernel_rfl, by kernel_rfl⟩
theorem cal39 : Callable Try.prog 39 := ⟨Try.f39, Try.func39, by kernel_rfl, by kernel_rfl⟩
theorem cal40 : Callable Try.prog 40 := ⟨Try.f40, Try.func40, by kernel_rfl, by kernel_rfl⟩
theorem cal41 : Callable Try.prog 41 := ⟨Try.f41, Try.func41, by kernel_rfl, by kernel_rfl⟩
theorem cal42 : Callable Try.prog 42 := ⟨Try.f42, Try.func42, by kernel_rfl, by kernel_rfl⟩
theorem cal43 : Callable Try.prog 43 := ⟨Try.f43, Try.func43, by kernel_rfl, by kernel_rfl⟩
theorem cal44 : Callable Try.prog 44 := ⟨Try.f44, Try.func44, by kernel_rfl, by kernel_rfl⟩
theorem cal45 : Callable Try.prog 45 := ⟨Try.f45, Try.func45, by kernel_rfl, by kernel_rfl⟩
theorem cal46 : Callable Try.prog 46 := ⟨Try.f46, Try.func46, by kernel_rfl, by kernel_rfl⟩
theorem cal47 : Callable Try.prog 47 := ⟨Try.f47, Try.func47, by kernel_rfl, by kernel_rfl⟩
theorem cal48 : Callable Try.prog 48 := ⟨Try.f48, Try.func48, by kernel_rfl, by kernel_rfl⟩
theorem cal49 : Callable Try.prog 49 := ⟨Try.f49, Try.func49, by kernel_rfl, by kernel_rfl⟩
theorem cal50 : Callable Try.prog 50 := ⟨Try.f50, Try.func50, by kernel_rfl, by kernel_rfl⟩
theorem cal51 : Callable Try.prog 51 := ⟨Try.f51, Try.func51, by kernel_rfl, by kernel_rfl⟩
theorem cal54 : Callable Try.prog 54 := ⟨Try.f54, Try.func54, by kernel_rfl, by kernel_rfl⟩
theorem cal55 : Callable Try.prog 55 := ⟨Try.f55, Try.func55, by kernel_rfl, by kernel_rfl⟩
theorem cal56 : Callable Try.prog 56 := ⟨Try.f56, Try.func56, by kernel_rfl, by kernel_rfl⟩
theorem cal58 : Callable Try.prog 58 := ⟨Try.f58, Try.func58, by kernel_rfl, by kernel_rfl⟩
theorem cal62 : Callable Try.prog 62 := ⟨Try.f62, Try.func62, by kernel_rfl, by kernel_rfl⟩
theorem cal63 : Callable Try.prog 63 := ⟨Try.f63, Try.func63, by kernel_rfl, by kernel_rfl⟩
theorem cal64 : Callable Try.prog 64 := ⟨Try.f64, Try.func64, by kernel_rfl, by kernel_rfl⟩
theorem cal65 : Callable Try.prog 65 := ⟨Try.f65, Try.func65, by kernel_rfl, by kernel_rfl⟩
theorem cal66 : Callable Try.prog 66 := ⟨Try.f66, Try.func66, by kernel_rfl, by kernel_rfl⟩
theorem cal67 : Callable Try.prog 67 := ⟨Try.f67, Try.func67, by kernel_rfl, by kernel_rfl⟩
theorem cal68 : Callable Try.prog 68 := ⟨Try.f68, Try.func68, by kernel_rfl, by kernel_rfl⟩
theorem cal69 : Callable Try.prog 69 := ⟨Try.f69, Try.func69, by kernel_rfl, by kernel_rfl⟩
theorem cal70 : Callable Try.prog 70 := ⟨Try.f70, Try.func70, by kernel_rfl, by kernel_rfl⟩
theorem cal71 : Callable Try.prog 71 := ⟨Try.f71, Try.func71, by kernel_rfl, by kernel_rfl⟩
theorem cal72 : Callable Try.prog 72 := ⟨Try.f72, Try.func72, by kernel_rfl, by kernel_rfl⟩
theorem cal73 : Callable Try.prog 73 := ⟨Try.f73, Try.func73, by kernel_rfl, by kernel_rfl⟩
theorem cal74 : Callable Try.prog 74 := ⟨Try.f74, Try.func74, by kernel_rfl, by kernel_rfl⟩
theorem cal75 : Callable Try.prog 75 := ⟨Try.f75, Try.func75, by kernel_rfl, by kernel_rfl⟩
theorem cal76 : Callable Try.prog 76 := ⟨Try.f76, Try.func76, by kernel_rfl, by kernel_rfl⟩
theorem cal77 : Callable Try.prog 77 := ⟨Try.f77, Try.func77, by kernel_rfl, by kernel_rfl⟩
theorem cal78 : Callable Try.prog 78 := ⟨Try.f78, Try.func78, by kernel_rfl, by kernel_rfl⟩
theorem cal79 : Callable Try.prog 79 := ⟨Try.f79, Try.func79, by kernel_rfl, by kernel_rfl⟩
theorem cal80 : Callable Try.prog 80 := ⟨Try.f80, Try.func80, by kernel_rfl, by kernel_rfl⟩
theorem cal81 : Callable Try.prog 81 := ⟨Try.f81, Try.func81, by kernel_rfl, by kernel_rfl⟩
theorem cal82 : Callable Try.prog 82 := ⟨Try.f82, Try.func82, by kernel_rfl, by kernel_rfl⟩
theorem cal84 : Callable Try.prog 84 := ⟨Try.f84, Try.func84, by kernel_rfl, by kernel_rfl⟩
theorem cal85 : Callable Try.prog 85 := ⟨Try.f85, Try.func85, by kernel_rfl, by kernel_rfl⟩
theorem cal86 : Callable Try.prog 86 := ⟨Try.f86, Try.func86, by kernel_rfl, by kernel_rfl⟩
theorem cal87 : Callable Try.prog 87 := ⟨Try.f87, Try.func87, by kernel_rfl, by kernel_rfl⟩
theorem cal88 : Callable Try.prog 88 := ⟨Try.f88, Try.func88, by kernel_rfl, by kernel_rfl⟩
theorem cz_22 : (Nat.beq (Try.prog.cellsOf 22) 1 && !Nat.beq 1 0) = true := by kernel_rfl
theorem cz_3 : (Nat.beq (Try.prog.cellsOf 3) 1 && !Nat.beq 1 0) = true := by kernel_rfl
theorem cz_39 : (Nat.beq (Try.prog.cellsOf 39) 4 && !Nat.beq 4 0) = true := by kernel_rfl
theorem cz_61 : (Nat.beq (Try.prog.cellsOf 61) 4 && !Nat.beq 4 0) = true := by kernel_rfl
theorem cz_70 : (Nat.beq (Try.prog.cellsOf 70) 4 && !Nat.beq 4 0) = true := by kernel_rfl
theorem f1_39_3 : fieldB1 Try.prog 39 3 3 = true := by kernel_rfl
theorem f1_70_1 : fieldB1 Try.prog 70 1 1 = true := by kernel_rfl
theorem f1_70_2 : fieldB1 Try.prog 70 2 2 = true := by kernel_rfl
theorem f1_70_3 : fieldB1 Try.prog 70 3 3 = true := by kernel_rfl
theorem fa_28_0 : fieldB Try.prog 28 0 0 = true := by kernel_rfl
theorem fa_28_1 : fieldB Try.prog 28 1 1 = true := by kernel_rfl
theorem fa_39_0 : fieldB Try.prog 39 0 0 = true := by kernel_rfl
theorem fa_39_1 : fieldB Try.prog 39 1 1 = true := by kernel_rfl
theorem fa_39_2 : fieldB Try.prog 39 2 2 = true := by kernel_rfl
theorem fa_39_3 : fieldB Try.prog 39 3 3 = true := by kernel_rfl
theorem fa_61_0 : fieldB Try.prog 61 0 0 = true := by kernel_rfl
theorem fa_61_1 : fieldB Try.prog 61 1 1 = true := by kernel_rfl
theorem fa_61_2 : fieldB Try.prog 61 2 2 = true := by kernel_rfl
theorem fa_61_3 : fieldB Try.prog 61 3 3 = true := by kernel_rfl
theorem fa_70_0 : fieldB Try.prog 70 0 0 = true := by kernel_rfl
theorem fa_70_1 : fieldB Try.prog 70 1 1 = true := by kernel_rfl
theorem fa_70_2 : fieldB Try.prog 70 2 2 = true := by kernel_rfl
theorem fa_70_3 : fieldB Try.prog 70 3 3 = true := by kernel_rfl
theorem fa_76_0 : fieldB Try.prog 76 0 0 = true := by kernel_rfl
theorem fa_76_1 : fieldB Try.prog 76 1 1 = true := by kernel_rfl
theorem fa_90_0 : fieldB Try.prog 90 0 0 = true := by kernel_rfl
theorem fa_90_1 : fieldB Try.prog 90 1 2 = true := by kernel_rfl
theorem fa_90_2 : fieldB Try.prog 90 2 3 = true := by kernel_rfl
theorem fa_90_3 : fieldB Try.prog 90 3 4 = true := by kernel_rfl
theorem fa_90_4 : fieldB Try.prog 90 4 5 = true := by kernel_rfl
theorem fa_96_0 : fieldB Try.prog 96 0 0 = true := by kernel_rfl
theorem fa_96_1 : fieldB Try.prog 96 1 1 = true := by kernel_rfl
theorem fa_96_2 : fieldB Try.prog 96 2 2 = true := by kernel_rfl
theorem fa_96_3 : fieldB Try.prog 96 3 3 = true := by kernel_rfl
theorem fa_96_4 : fieldB Try.prog 96 4 4 = true := by kernel_rfl
theorem is_3 : (Try.prog.info? 3).map (·.size) = some 1 := by kernel_rfl
theorem ld_129 : cellB Try.prog 129 = true := by kernel_rfl
theorem ld_22 : cellB Try.prog 22 = true := by kernel_rfl
theorem ld_23 : cellB Try.prog 23 = true := by kernel_rfl
theorem ld_25 : cellB Try.prog 25 = true := by kernel_rfl
theorem ld_26 : cellB Try.prog 26 = true := by kernel_rfl
theorem ld_3 : cellB Try.prog 3 = true := by kernel_rfl
theorem ld_47 : cellB Try.prog 47 = true := by kernel_rfl
theorem ld_83 : cellB Try.prog 83 = true := by kernel_rfl
theorem ld_88 : cellB Try.prog 88 = true := by kernel_rfl
theorem ld_93 : cellB Try.prog 93 = true := by kernel_rfl
theorem mk_22 : (Try.prog.info? 22).map (fun i => (i.zero.map Value.cells, i.size, i.bytes)) = some (some #[.slice none 0 0], 1, 24) := by kernel_rfl
theorem mk_3 : (Try.prog.info? 3).map (fun i => (i.zero.map Value.cells, i.size, i.bytes)) = some (some #[.int .i64 0], 1, 8) := by kernel_rfl
theorem sb_39 : structB Try.prog 39 [true, true, true, true] = true := by kernel_rfl
theorem sb_61 : structB Try.prog 61 [true, true, true, true] = true := by kernel_rfl
theorem sz_129 : (Nat.beq (Try.prog.cellsOf 129) 1 && !Nat.beq 1 0) = true := by kernel_rfl
theorem sz_22 : (Nat.beq (Try.prog.cellsOf 22) 1 && !Nat.beq 1 0) = true := by kernel_rfl
theorem sz_23 : (Nat.beq (Try.prog.cellsOf 23) 1 && !Nat.beq 1 0) = true := by kernel_rfl
theorem sz_28 : (Nat.beq (Try.prog.cellsOf 28) 2 && !Nat.beq 2 0) = true := by kernel_rfl
theorem sz_3 : (Nat.beq (Try.prog.cellsOf 3) 1 && !Nat.beq 1 0) = true := by kernel_rfl
theorem sz_39 : (Nat.beq (Try.prog.cellsOf 39) 4 && !Nat.beq 4 0) = true := by kernel_rfl
theorem sz_61 : (Nat.beq (Try.prog.cellsOf 61) 4 && !Nat.beq 4 0) = true := by kernel_rfl
theorem sz_70 : (Nat.beq (Try.prog.cellsOf 70) 4 && !Nat.beq 4 0) = true := by kernel_rfl
theorem sz_88 : (Nat.beq (Try.prog.cellsOf 88) 1 && !Nat.beq 1 0) = true := by kernel_rfl
theorem us_113 : (Try.prog.underlying 113).isSome = true := by kernel_rfl
theorem us_3 : (Try.prog.underlying 3).isSome = true := by kernel_rfl
theorem ze_129 : (Try.prog.info? 129).bind (·.zero) = some (.map none) := by kernel_rfl
theorem ze_28 : (Try.prog.info? 28).bind (·.zero) = some (.agg #[.slice none 0 0, .slice none 0 0]) := by kernel_rfl
theorem ze_3 : (Try.prog.info? 3).bind (·.zero) = some (.int .i64 0) := by kernel_rfl
theorem ze_39 : (Try.prog.info? 39).bind (·.zero) = some (.agg #[.int .i64 0, .int .i64 0, .int .i64 0, .int .i64 0]) := by kernel_rfl
theorem ze_4 : (Try.prog.info? 4).bind (·.zero) = some (.bool false) := by kernel_rfl
theorem ze_61 : (Try.prog.info? 61).bind (·.zero) = some (.agg #[.int .i64 0, .int .i64 0, .int .i64 0, .int .i64 0]) := by kernel_rfl
theorem ze_70 : (Try.prog.info? 70).bind (·.zero) = some (.agg #[.int .i64 0, .int .i64 0, .int .i64 0, .int .i64 0]) := by kernel_rfl
theorem ze_88 : (Try.prog.info? 88).bind (·.zero) = some (.map none) := by kernel_rfl
end Go.Proofs.Ytkejdfnpbkdllaa
