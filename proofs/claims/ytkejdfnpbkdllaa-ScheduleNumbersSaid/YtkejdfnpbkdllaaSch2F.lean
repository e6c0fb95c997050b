/- Closed facts of the loaded program that the walks use: each is reckoned by the kernel. -/
import Derived.Test.YtkejdfnpbkdllaaVL
import Derived.Test.YtkejdfnpbkdllaaProg
import Derived.Test.YtkejdfnpbkdllaaSchF
namespace Go.Proofs.Ytkejdfnpbkdllaa
open Go Go.RowKit Go.Proofs.YtkejdfnpbkdllaaV
theorem ap_22 : apB Try.prog 22 1 = true := by kernel_rfl
theorem bu_90_0_1_2_4 : ∀ (x0_0_a : Option Addr) (x0_0_n x0_0_c : Nat) (x0_1_a : Option Addr) (x0_1_n x0_1_c : Nat) (x1_0_a : Option Addr) (x1_0_n x1_0_c : Nat) (x2_0_r : Option Nat) (x4_0_a : Option Addr) (x4_0_n x4_0_c : Nat), Try.prog.built 90 [(0, .agg #[.slice x0_0_a x0_0_n x0_0_c, .slice x0_1_a x0_1_n x0_1_c]), (1, .slice x1_0_a x1_0_n x1_0_c), (2, .map x2_0_r), (4, .slice x4_0_a x4_0_n x4_0_c)] = some #[.slice x0_0_a x0_0_n x0_0_c, .slice x0_1_a x0_1_n x0_1_c, .slice x1_0_a x1_0_n x1_0_c, .map x2_0_r, .slice none 0 0, .slice x4_0_a x4_0_n x4_0_c] := by intros; kernel_rfl
theorem cal55 : Callable Try.prog 55 := ⟨Try.f55, Try.func55, by kernel_rfl, by kernel_rfl⟩
theorem cal56 : Callable Try.prog 56 := ⟨Try.f56, Try.func56, by kernel_rfl, by kernel_rfl⟩
theorem cal70 : Callable Try.prog 70 := ⟨Try.f70, Try.func70, by kernel_rfl, by kernel_rfl⟩
theorem cz_22 : (Nat.beq (Try.prog.cellsOf 22) 1 && !Nat.beq 1 0) = true := by kernel_rfl
theorem fa_90_2 : fieldB Try.prog 90 2 3 = true := by kernel_rfl
theorem fa_90_3 : fieldB Try.prog 90 3 4 = true := by kernel_rfl
theorem fa_90_4 : fieldB Try.prog 90 4 5 = true := by kernel_rfl
theorem ld_47 : cellB Try.prog 47 = true := by kernel_rfl
theorem mk_22 : (Try.prog.info? 22).map (fun i => (i.zero.map Value.cells, i.size, i.bytes)) = some (some #[.slice none 0 0], 1, 24) := by kernel_rfl
theorem sz_22 : (Nat.beq (Try.prog.cellsOf 22) 1 && !Nat.beq 1 0) = true := by kernel_rfl
end Go.Proofs.Ytkejdfnpbkdllaa
